/- Part 5 of a proof of the law FoldMatchesReference: Go data as trees, the walks of the functions that the law reaches, the plain laws. -/
import Derived.Test.YtdlejojjomibkaaGDFoldMatchesReference
import GoSem.ClaimJoined
import Derived.ChangeArms
import Derived.Carry
import Derived.SizedLaws
import Derived.JoinedCond
import Derived.Deep.CondSized
import Derived.JoinedOf
import Derived.KernelRfl
set_option linter.unusedVariables false
set_option linter.unusedSimpArgs false
set_option maxRecDepth 4000
namespace Go.Abs
open Go.Proofs

theorem foldTree_k : ∀ (k : Nat) (t : Nd), t.size ≤ k → t.W → PC Try.prog 15 [t.enc] (foldN t).enc
  | 0, t, h, _ => by cases t; simp [Nd.size] at h
  | k + 1, t, h, hw => by
    have hlen := hw.len
    refine pc_of (N := 210) Try.func15 rfl rfl (by simp) (by simp [Nd.bel]) (Nd.bel _ _) ?_
    -- region 0
    repeat (refine awp_seq ?_)
    refine e_eval (by simp only [asq, as0, as1, as2, awanted, aop, LS, SS, SX, HS, mkS_cons, mkS_nil, ↓reduceIte, eq_self', List.map_nil, beq_self_eq_true, Nat.reduceEqDiff, Nat.reduceAdd, Nat.reduceMul, Nat.reduceLT, Nat.reduceLeDiff, Nat.reducePow, Nat.reduceDiv, Nat.reduceMod, Nat.succ_ne_self, Nat.reduceBEq, Nat.reduceBNe, Tryti24, Trytf24, Trytz24, Trytp24, vint, NdS, NdF, Int.cast_ofNat_Int, Int.reduceLT, Int.reduceLE, Int.reduceEq, Int.toNat_one, Int.toNat_zero, Int.reduceToNat, Int.reduceNeg, decide_true, decide_false, Int.natCast_one] <;> with_reducible rfl) (by decide) ?_
    -- region 1
    repeat (refine awp_seq ?_)
    refine e_eval (by simp only [asq, as0, as1, as2, awanted, aop, LS, SS, SX, HS, mkS_cons, mkS_nil, ↓reduceIte, eq_self', List.map_nil, beq_self_eq_true, Nat.reduceEqDiff, Nat.reduceAdd, Nat.reduceMul, Nat.reduceLT, Nat.reduceLeDiff, Nat.reducePow, Nat.reduceDiv, Nat.reduceMod, Nat.succ_ne_self, Nat.reduceBEq, Nat.reduceBNe, vint, NdS, NdF, Int.cast_ofNat_Int, Int.reduceLT, Int.reduceLE, Int.reduceEq, Int.toNat_one, Int.toNat_zero, Int.reduceToNat, Int.reduceNeg, decide_true, decide_false, Int.natCast_one] <;> with_reducible rfl) (by decide) ?_
    -- region 2
    repeat (refine awp_seq ?_)
    refine e_eval (by simp only [asq, as0, as1, as2, awanted, aop, afldAddr, ajust, aload, abuiltin, LS, SS, SX, HS, mkS_cons, mkS_nil, ↓reduceIte, eq_self', List.map_nil, beq_self_eq_true, Nat.reduceEqDiff, Nat.reduceAdd, Nat.reduceMul, Nat.reduceLT, Nat.reduceLeDiff, Nat.reducePow, Nat.reduceDiv, Nat.reduceMod, Nat.succ_ne_self, Nat.reduceBEq, Nat.reduceBNe, Tryti22, Tryte22, Trytz22, Trytp22, Tryti24, Trytf24, Trytz24, Trytp24, vint, NdS, NdF, Int.cast_ofNat_Int, Int.reduceLT, Int.reduceLE, Int.reduceEq, Int.toNat_one, Int.toNat_zero, Int.reduceToNat, Int.reduceNeg, decide_true, decide_false, Int.natCast_one] <;> with_reducible rfl) (by decide) ?_
    repeat (refine awp_seq ?_)
    refine awp_retok 3 7 (es := []) (by simp only [LS, SS, SX, HS, mkS_cons, mkS_nil, ↓reduceIte, eq_self', List.map_nil, beq_self_eq_true, Nat.reduceEqDiff, Nat.reduceAdd, Nat.succ_ne_self, vint, NdS, NdF] <;> with_reducible rfl) ?_
    refine awp_forS (σ := List Nd) (t.kids.length) (fun (r : List Nd) => [(1, .optr 0 0), (2, .optr 1 0), (3, .slice (r.map Nd.enc) (.tok 2)), (15, .slice (t.kids.map Nd.enc) .none)]) [1, 2, 3, 15] ([]) (fun (r : List Nd) => [.row t.enc.cells, .row [.int .i64 0, .int .i64 0, .str [], .int .i64 0, .int .i64 0, .int .i64 0, .slice [] .full], .buf r.length 7]) (fun (i : Nat) (r : List Nd) => r = (t.kids.take i).map foldN) ([]) ([]) rfl rfl rfl rfl rfl rfl rfl rfl rfl (by decide) (by decide) (by decide) (fun _ => rfl) (hw.lenMax) ⟨(by first | rfl | (simp only [LS, SS, SX, HS, mkS_cons, mkS_nil, ↓reduceIte, eq_self', List.map_nil, beq_self_eq_true, Nat.reduceEqDiff, Nat.reduceAdd, Nat.succ_ne_self, vint, NdS, NdF, Int.cast_ofNat_Int, Int.reduceLT, Int.reduceLE, Int.reduceEq, Int.toNat_one, Int.toNat_zero, Int.reduceToNat, Int.reduceNeg, decide_true, decide_false, Int.natCast_one] <;> first | done | with_reducible rfl)), (by first | rfl | (simp only [LS, SS, SX, HS, mkS_cons, mkS_nil, ↓reduceIte, eq_self', List.map_nil, beq_self_eq_true, Nat.reduceEqDiff, Nat.reduceAdd, Nat.succ_ne_self, vint, NdS, NdF, Int.cast_ofNat_Int, Int.reduceLT, Int.reduceLE, Int.reduceEq, Int.toNat_one, Int.toNat_zero, Int.reduceToNat, Int.reduceNeg, decide_true, decide_false, Int.natCast_one] <;> first | done | with_reducible rfl)), (by first | rfl | (simp only [LS, SS, SX, HS, mkS_cons, mkS_nil, ↓reduceIte, eq_self', List.map_nil, beq_self_eq_true, Nat.reduceEqDiff, Nat.reduceAdd, Nat.succ_ne_self, vint, NdS, NdF, Int.cast_ofNat_Int, Int.reduceLT, Int.reduceLE, Int.reduceEq, Int.toNat_one, Int.toNat_zero, Int.reduceToNat, Int.reduceNeg, decide_true, decide_false, Int.natCast_one] <;> first | done | with_reducible rfl)), (by first | rfl | (simp only [LS, SS, SX, HS, mkS_cons, mkS_nil, ↓reduceIte, eq_self', List.map_nil, beq_self_eq_true, Nat.reduceEqDiff, Nat.reduceAdd, Nat.succ_ne_self, vint, NdS, NdF, Int.cast_ofNat_Int, Int.reduceLT, Int.reduceLE, Int.reduceEq, Int.toNat_one, Int.toNat_zero, Int.reduceToNat, Int.reduceNeg, decide_true, decide_false, Int.natCast_one] <;> first | done | with_reducible rfl)), (by first | rfl | (simp only [LS, SS, SX, HS, mkS_cons, mkS_nil, ↓reduceIte, eq_self', List.map_nil, beq_self_eq_true, Nat.reduceEqDiff, Nat.reduceAdd, Nat.succ_ne_self, vint, NdS, NdF, Int.cast_ofNat_Int, Int.reduceLT, Int.reduceLE, Int.reduceEq, Int.toNat_one, Int.toNat_zero, Int.reduceToNat, Int.reduceNeg, decide_true, decide_false, Int.natCast_one] <;> first | done | with_reducible rfl)), (by first | rfl | (simp only [LS, SS, SX, HS, mkS_cons, mkS_nil, ↓reduceIte, eq_self', List.map_nil, beq_self_eq_true, Nat.reduceEqDiff, Nat.reduceAdd, Nat.succ_ne_self, vint, NdS, NdF, Int.cast_ofNat_Int, Int.reduceLT, Int.reduceLE, Int.reduceEq, Int.toNat_one, Int.toNat_zero, Int.reduceToNat, Int.reduceNeg, decide_true, decide_false, Int.natCast_one] <;> first | done | with_reducible rfl)), trivial⟩ (by first | rfl | (simp only [LS, SS, SX, HS, mkS_cons, mkS_nil, ↓reduceIte, eq_self', List.map_nil, beq_self_eq_true, Nat.reduceEqDiff, Nat.reduceAdd, Nat.succ_ne_self, vint, NdS, NdF, Int.cast_ofNat_Int, Int.reduceLT, Int.reduceLE, Int.reduceEq, Int.toNat_one, Int.toNat_zero, Int.reduceToNat, Int.reduceNeg, decide_true, decide_false, Int.natCast_one] <;> first | done | with_reducible rfl)) (by simp) (fun _ _ _ => by first | exact Nat.zero_le _ | (simp only [List.length_append]; omega)) ?_ ?_ ?_
    · intro i r hg
      simp only [List.nil_append, NdS]
      refine ⟨?_, by repeat (first | exact BelL.nil | refine BelL.cons (by first | exact bel_Nd _ _ | exact Nd.bel _ _ | exact bel_nd_tok _ (by simp) | exact bel_nd_tok [c0, c1] (by simp) | exact bel_Nd _ _ | exact Nd.bel _ _ | exact Bel.int _ _ | exact Bel.bool _ | exact Bel.str _ | exact Bel.nilp | exact Bel.nilfn | exact Bel.optr _ _ (by simp) | exact bel_nil0 _ | exact bel_nil1 _ | exact bel_fn0 _ _ | assumption) ?_)⟩
      repeat (first | exact hbel_nil _ | exact trivial | exact obel_row_nil _ | (refine HBel.cons ?_ ?_) | (refine obel_row_cons (by first | exact bel_Nd _ _ | exact Nd.bel _ _ | exact bel_nd_tok _ (by simp) | exact bel_nd_tok [c0, c1] (by simp) | exact bel_Nd _ _ | exact Nd.bel _ _ | exact Bel.int _ _ | exact Bel.bool _ | exact Bel.str _ | exact Bel.nilp | exact Bel.nilfn | exact Bel.optr _ _ (by simp) | exact bel_nil0 _ | exact bel_nil1 _ | exact bel_fn0 _ _ | assumption) ?_))
    · intro i r hi hg
      have g1 := ix_nat hi
      have g2 := get_enc Nd.enc hi
      have hmem : t.kids[i] ∈ t.kids := List.getElem_mem hi
      have hsa := Nd.size_kid hmem
      have hlen := hw.len
      have hsl : r.length < t.kids.length := by rw [hg, List.length_map, List.length_take]; omega
      have happ := app_Nd (us := r) (u := foldN t.kids[i]) (id := 2) (tl := .full) (by omega)
      -- region 4
      repeat (refine awp_seq ?_)
      refine e_eval (by simp only [asq, as0, as1, as2, awanted, aop, aidxAddr, aidx, ajust, aload, astore, splice, LS, SS, SX, HS, mkS_cons, mkS_nil, ↓reduceIte, eq_self', List.map_nil, beq_self_eq_true, Nat.reduceEqDiff, Nat.reduceAdd, Nat.reduceMul, Nat.reduceLT, Nat.reduceLeDiff, Nat.reducePow, Nat.reduceDiv, Nat.reduceMod, Nat.succ_ne_self, Nat.reduceBEq, Nat.reduceBNe, Tryti22, Tryte22, Trytz22, Trytp22, Tryti24, Trytf24, Trytz24, Trytp24, vint, NdS, NdF, Int.cast_ofNat_Int, Int.reduceLT, Int.reduceLE, Int.reduceEq, Int.toNat_one, Int.toNat_zero, Int.reduceToNat, Int.reduceNeg, decide_true, decide_false, Int.natCast_one, g1, g2, Int.toNat_natCast] <;> with_reducible rfl) (by decide) ?_
      -- region 5
      repeat (refine awp_seq ?_)
      refine awp_region ?_
      refine e_take 2 (by simp only [asq, as0, as1, as2, awanted, aop, aload, ajust, LS, SS, SX, HS, mkS_cons, mkS_nil, ↓reduceIte, eq_self', List.map_nil, beq_self_eq_true, Nat.reduceEqDiff, Nat.reduceAdd, Nat.reduceMul, Nat.reduceLT, Nat.reduceLeDiff, Nat.reducePow, Nat.reduceDiv, Nat.reduceMod, Nat.succ_ne_self, Nat.reduceBEq, Nat.reduceBNe, Tryti24, Trytf24, Trytz24, Trytp24, vint, NdS, NdF, Int.cast_ofNat_Int, Int.reduceLT, Int.reduceLE, Int.reduceEq, Int.toNat_one, Int.toNat_zero, Int.reduceToNat, Int.reduceNeg, decide_true, decide_false, Int.natCast_one, g1, g2, Int.toNat_natCast, happ] <;> with_reducible rfl) (by decide) ?_
      refine aops_pure (by simp only [acall, awanted, LS, SS, SX, HS, mkS_cons, mkS_nil, ↓reduceIte, eq_self', List.map_nil, beq_self_eq_true, Nat.reduceEqDiff, Nat.reduceAdd, Nat.reduceMul, Nat.reduceLT, Nat.reduceLeDiff, Nat.reducePow, Nat.reduceDiv, Nat.reduceMod, Nat.succ_ne_self, Nat.reduceBEq, Nat.reduceBNe, vint, NdS, NdF, Int.cast_ofNat_Int, Int.reduceLT, Int.reduceLE, Int.reduceEq, Int.toNat_one, Int.toNat_zero, Int.reduceToNat, Int.reduceNeg, decide_true, decide_false, Int.natCast_one, g1, g2, Int.toNat_natCast, happ] <;> with_reducible rfl) (by simp only [acall, awanted, LS, SS, SX, HS, mkS_cons, mkS_nil, ↓reduceIte, eq_self', List.map_nil, beq_self_eq_true, Nat.reduceEqDiff, Nat.reduceAdd, Nat.reduceMul, Nat.reduceLT, Nat.reduceLeDiff, Nat.reducePow, Nat.reduceDiv, Nat.reduceMod, Nat.succ_ne_self, Nat.reduceBEq, Nat.reduceBNe, vint, NdS, NdF, Int.cast_ofNat_Int, Int.reduceLT, Int.reduceLE, Int.reduceEq, Int.toNat_one, Int.toNat_zero, Int.reduceToNat, Int.reduceNeg, decide_true, decide_false, Int.natCast_one, g1, g2, Int.toNat_natCast, happ]) (by decide) Trygo15 (foldTree_k k t.kids[i] (by omega) (hw.kid hmem) _) ?_
      refine e_end (by simp only [asq, as0, as1, as2, awanted, aop, abuildS, abuiltin, LS, SS, SX, HS, mkS_cons, mkS_nil, ↓reduceIte, eq_self', List.map_nil, beq_self_eq_true, Nat.reduceEqDiff, Nat.reduceAdd, Nat.reduceMul, Nat.reduceLT, Nat.reduceLeDiff, Nat.reducePow, Nat.reduceDiv, Nat.reduceMod, Nat.succ_ne_self, Nat.reduceBEq, Nat.reduceBNe, Tryti22, Tryte22, Trytz22, Trytp22, Tryti24, Trytf24, Trytz24, Trytp24, vint, NdS, NdF, Int.cast_ofNat_Int, Int.reduceLT, Int.reduceLE, Int.reduceEq, Int.toNat_one, Int.toNat_zero, Int.reduceToNat, Int.reduceNeg, decide_true, decide_false, Int.natCast_one, g1, g2, Int.toNat_natCast, happ] <;> with_reducible rfl) (by decide) ?_
      -- leaf 0 next0
      exact ⟨⟨rfl, rfl, trivial⟩, r ++ [foldN t.kids[i]], _, ⟨rfl, rfl, rfl, rfl, trivial⟩, by simp only [LS, SS, SX, HS, mkS_cons, mkS_nil, ↓reduceIte, eq_self', List.map_nil, beq_self_eq_true, Nat.reduceEqDiff, Nat.reduceAdd, Nat.succ_ne_self, vint, NdS, NdF, List.length_append, List.length_singleton] <;> rfl, by rw [hg, map_take_succ _ hi]⟩
    · intro r hg
      rw [List.take_length] at hg
      have hf : foldN t = refStep (Nd.mk t.kind t.value t.text t.st t.en t.ns r) := by rw [foldN_eq, ← hg, refStep_eq]
      -- region 7
      repeat (refine awp_seq ?_)
      refine e_eval (by simp only [asq, as0, as1, as2, awanted, aop, afldAddr, ajust, astore, splice, LS, SS, SX, HS, mkS_cons, mkS_nil, ↓reduceIte, eq_self', List.map_nil, beq_self_eq_true, Nat.reduceEqDiff, Nat.reduceAdd, Nat.reduceMul, Nat.reduceLT, Nat.reduceLeDiff, Nat.reducePow, Nat.reduceDiv, Nat.reduceMod, Nat.succ_ne_self, Nat.reduceBEq, Nat.reduceBNe, Tryti22, Tryte22, Trytz22, Trytp22, Tryti24, Trytf24, Trytz24, Trytp24, vint, NdS, NdF, Int.cast_ofNat_Int, Int.reduceLT, Int.reduceLE, Int.reduceEq, Int.toNat_one, Int.toNat_zero, Int.reduceToNat, Int.reduceNeg, decide_true, decide_false, Int.natCast_one] <;> with_reducible rfl) (by decide) ?_
      -- region 8
      repeat (refine awp_seq ?_)
      refine g_eval (by simp only [gsq, gs0, gs1, gs2, gcond, gop, SG, Op.operands, Call.operands, Array.toList_append, aop, afldAddr, ajust, aload, abin, abuiltin, LS, SS, SX, HS, mkS_cons, mkS_nil, ↓reduceIte, eq_self', List.map_nil, beq_self_eq_true, Nat.reduceEqDiff, Nat.reduceAdd, Nat.reduceMul, Nat.reduceLT, Nat.reduceLeDiff, Nat.reducePow, Nat.reduceDiv, Nat.reduceMod, Nat.succ_ne_self, Nat.reduceBEq, Nat.reduceBNe, Tryti3, Trytz3, Trytp3, Trytk3, Tryti22, Tryte22, Trytz22, Trytp22, Tryti24, Trytf24, Trytz24, Trytp24, vint, NdS, NdF, Int.cast_ofNat_Int, Int.reduceLT, Int.reduceLE, Int.reduceEq, Int.toNat_one, Int.toNat_zero, Int.reduceToNat, Int.reduceNeg, decide_true, decide_false, Int.natCast_one] <;> with_reducible rfl) (by decide) (by repeat (first | exact Fin.base _ | with_reducible apply Fin.keep | apply Fin.drop)) ?_
      repeat (refine awp_seq ?_)
      refine awp_cond rfl (by simp only [LS, SS, SX, HS, mkS_cons, mkS_nil, ↓reduceIte, eq_self', List.map_nil, beq_self_eq_true, Nat.reduceEqDiff, Nat.reduceAdd, Nat.succ_ne_self, vint, NdS, NdF, Int.cast_ofNat_Int, Int.reduceLT, Int.reduceLE, Int.reduceEq, Int.toNat_one, Int.toNat_zero, Int.reduceToNat, Int.reduceNeg, decide_true, decide_false, Int.natCast_one] <;> with_reducible rfl) (fun b0 => ?_) (fun b0 => ?_)
      · -- if t36
        have hq : t.kind = 40 ∧ r.length = 1 := by simp at b0; omega
        have hk := hq.1
        obtain ⟨c0, rfl⟩ := List.length_eq_one_iff.1 hq.2
        have hr0 := lit_rng c0
        have hst : foldN t = refUn (Nd.mk t.kind t.value t.text t.st t.en t.ns [c0]) c0 := by
          rw [hf]; unfold refStep; rw [if_pos (show (Nd.mk t.kind t.value t.text t.st t.en t.ns [c0]).kind = 40 from hk)]; rfl
        have w6 : IntKind.i64.wrap (1 - (litV c0).1) = 1 - (litV c0).1 := wrap_id (by omega) (by omega)
        have w5 : IntKind.i64.wrap (-(litV c0).1) = -(litV c0).1 := wrap_id (by omega) (by omega)
        -- region 9
        repeat (refine awp_seq ?_)
        refine awp_region ?_
        refine e_take 3 (by simp only [asq, as0, as1, as2, awanted, aop, aidxAddr, aidx, ajust, aload, LS, SS, SX, HS, mkS_cons, mkS_nil, ↓reduceIte, eq_self', List.map_nil, beq_self_eq_true, Nat.reduceEqDiff, Nat.reduceAdd, Nat.reduceMul, Nat.reduceLT, Nat.reduceLeDiff, Nat.reducePow, Nat.reduceDiv, Nat.reduceMod, Nat.succ_ne_self, Nat.reduceBEq, Nat.reduceBNe, Tryti22, Tryte22, Trytz22, Trytp22, Tryti24, Trytf24, Trytz24, Trytp24, vint, NdS, NdF, Int.cast_ofNat_Int, Int.reduceLT, Int.reduceLE, Int.reduceEq, Int.toNat_one, Int.toNat_zero, Int.reduceToNat, Int.reduceNeg, decide_true, decide_false, Int.natCast_one] <;> with_reducible rfl) (by decide) ?_
        refine aops_pure (by simp only [acall, awanted, LS, SS, SX, HS, mkS_cons, mkS_nil, ↓reduceIte, eq_self', List.map_nil, beq_self_eq_true, Nat.reduceEqDiff, Nat.reduceAdd, Nat.reduceMul, Nat.reduceLT, Nat.reduceLeDiff, Nat.reducePow, Nat.reduceDiv, Nat.reduceMod, Nat.succ_ne_self, Nat.reduceBEq, Nat.reduceBNe, vint, NdS, NdF, Int.cast_ofNat_Int, Int.reduceLT, Int.reduceLE, Int.reduceEq, Int.toNat_one, Int.toNat_zero, Int.reduceToNat, Int.reduceNeg, decide_true, decide_false, Int.natCast_one] <;> with_reducible rfl) (by simp only [acall, awanted, LS, SS, SX, HS, mkS_cons, mkS_nil, ↓reduceIte, eq_self', List.map_nil, beq_self_eq_true, Nat.reduceEqDiff, Nat.reduceAdd, Nat.reduceMul, Nat.reduceLT, Nat.reduceLeDiff, Nat.reducePow, Nat.reduceDiv, Nat.reduceMod, Nat.succ_ne_self, Nat.reduceBEq, Nat.reduceBNe, vint, NdS, NdF, Int.cast_ofNat_Int, Int.reduceLT, Int.reduceLE, Int.reduceEq, Int.toNat_one, Int.toNat_zero, Int.reduceToNat, Int.reduceNeg, decide_true, decide_false, Int.natCast_one]) (by decide) Trygo14 (litval_c c0 _) ?_
        refine e_end (by simp only [asq, as0, as1, as2, awanted, aop, ajust, LS, SS, SX, HS, mkS_cons, mkS_nil, ↓reduceIte, eq_self', List.map_nil, beq_self_eq_true, Nat.reduceEqDiff, Nat.reduceAdd, Nat.reduceMul, Nat.reduceLT, Nat.reduceLeDiff, Nat.reducePow, Nat.reduceDiv, Nat.reduceMod, Nat.succ_ne_self, Nat.reduceBEq, Nat.reduceBNe, vint, NdS, NdF, Int.cast_ofNat_Int, Int.reduceLT, Int.reduceLE, Int.reduceEq, Int.toNat_one, Int.toNat_zero, Int.reduceToNat, Int.reduceNeg, decide_true, decide_false, Int.natCast_one] <;> with_reducible rfl) (by decide) ?_
        refine awp_sel [1, 2, 3, 6, 7] (by simp only [LS, SS, SX, HS, mkS_cons, mkS_nil, ↓reduceIte, eq_self', List.map_nil, beq_self_eq_true, Nat.reduceEqDiff, Nat.reduceAdd, Nat.succ_ne_self, vint, NdS, NdF, Int.cast_ofNat_Int, Int.reduceLT, Int.reduceLE, Int.reduceEq, Int.toNat_one, Int.toNat_zero, Int.reduceToNat, Int.reduceNeg, decide_true, decide_false, Int.natCast_one] <;> with_reducible rfl) ?_
        -- region 10
        repeat (refine awp_seq ?_)
        refine g_eval (by simp only [gsq, gs0, gs1, gs2, gcond, gop, SG, Op.operands, Call.operands, Array.toList_append, aop, afldAddr, ajust, aload, abin, LS, SS, SX, HS, mkS_cons, mkS_nil, ↓reduceIte, eq_self', List.map_nil, beq_self_eq_true, Nat.reduceEqDiff, Nat.reduceAdd, Nat.reduceMul, Nat.reduceLT, Nat.reduceLeDiff, Nat.reducePow, Nat.reduceDiv, Nat.reduceMod, Nat.succ_ne_self, Nat.reduceBEq, Nat.reduceBNe, Tryti3, Trytz3, Trytp3, Trytk3, Tryti9, Trytz9, Trytp9, Tryts9, Tryti24, Trytf24, Trytz24, Trytp24, vint, NdS, NdF, Int.cast_ofNat_Int, Int.reduceLT, Int.reduceLE, Int.reduceEq, Int.toNat_one, Int.toNat_zero, Int.reduceToNat, Int.reduceNeg, decide_true, decide_false, Int.natCast_one] <;> with_reducible rfl) (by decide) (by repeat (first | exact Fin.base _ | with_reducible apply Fin.keep | apply Fin.drop)) ?_
        repeat (refine awp_seq ?_)
        refine awp_cond rfl (by simp only [LS, SS, SX, HS, mkS_cons, mkS_nil, ↓reduceIte, eq_self', List.map_nil, beq_self_eq_true, Nat.reduceEqDiff, Nat.reduceAdd, Nat.succ_ne_self, vint, NdS, NdF, Int.cast_ofNat_Int, Int.reduceLT, Int.reduceLE, Int.reduceEq, Int.toNat_one, Int.toNat_zero, Int.reduceToNat, Int.reduceNeg, decide_true, decide_false, Int.natCast_one] <;> with_reducible rfl) (fun b1 => ?_) (fun b1 => ?_)
        · -- if t50
          -- region 11
          repeat (refine awp_seq ?_)
          refine awp_region ?_
          refine e_take 3 (by simp only [asq, as0, as1, as2, awanted, aop, aload, ajust, abin, LS, SS, SX, HS, mkS_cons, mkS_nil, ↓reduceIte, eq_self', List.map_nil, beq_self_eq_true, Nat.reduceEqDiff, Nat.reduceAdd, Nat.reduceMul, Nat.reduceLT, Nat.reduceLeDiff, Nat.reducePow, Nat.reduceDiv, Nat.reduceMod, Nat.succ_ne_self, Nat.reduceBEq, Nat.reduceBNe, Tryti3, Trytz3, Trytp3, Trytk3, Tryti24, Trytf24, Trytz24, Trytp24, vint, NdS, NdF, Int.cast_ofNat_Int, Int.reduceLT, Int.reduceLE, Int.reduceEq, Int.toNat_one, Int.toNat_zero, Int.reduceToNat, Int.reduceNeg, decide_true, decide_false, Int.natCast_one, w6] <;> with_reducible rfl) (by decide) ?_
          refine aops_pure (by simp only [acall, awanted, LS, SS, SX, HS, mkS_cons, mkS_nil, ↓reduceIte, eq_self', List.map_nil, beq_self_eq_true, Nat.reduceEqDiff, Nat.reduceAdd, Nat.reduceMul, Nat.reduceLT, Nat.reduceLeDiff, Nat.reducePow, Nat.reduceDiv, Nat.reduceMod, Nat.succ_ne_self, Nat.reduceBEq, Nat.reduceBNe, vint, NdS, NdF, Int.cast_ofNat_Int, Int.reduceLT, Int.reduceLE, Int.reduceEq, Int.toNat_one, Int.toNat_zero, Int.reduceToNat, Int.reduceNeg, decide_true, decide_false, Int.natCast_one, w6] <;> with_reducible rfl) (by simp only [acall, awanted, LS, SS, SX, HS, mkS_cons, mkS_nil, ↓reduceIte, eq_self', List.map_nil, beq_self_eq_true, Nat.reduceEqDiff, Nat.reduceAdd, Nat.reduceMul, Nat.reduceLT, Nat.reduceLeDiff, Nat.reducePow, Nat.reduceDiv, Nat.reduceMod, Nat.succ_ne_self, Nat.reduceBEq, Nat.reduceBNe, vint, NdS, NdF, Int.cast_ofNat_Int, Int.reduceLT, Int.reduceLE, Int.reduceEq, Int.toNat_one, Int.toNat_zero, Int.reduceToNat, Int.reduceNeg, decide_true, decide_false, Int.natCast_one, w6]) (by decide) Trygo21 (literal_c (Nd.mk t.kind t.value t.text t.st t.en t.ns [c0]) (1 - (litV c0).1) 2 (by omega) (by omega) _) ?_
          refine e_end (by simp only [asq, as0, as1, as2, awanted, aop, astore, splice, LS, SS, SX, HS, mkS_cons, mkS_nil, ↓reduceIte, eq_self', List.map_nil, beq_self_eq_true, Nat.reduceEqDiff, Nat.reduceAdd, Nat.reduceMul, Nat.reduceLT, Nat.reduceLeDiff, Nat.reducePow, Nat.reduceDiv, Nat.reduceMod, Nat.succ_ne_self, Nat.reduceBEq, Nat.reduceBNe, Tryti24, Trytf24, Trytz24, Trytp24, vint, NdS, NdF, Int.cast_ofNat_Int, Int.reduceLT, Int.reduceLE, Int.reduceEq, Int.toNat_one, Int.toNat_zero, Int.reduceToNat, Int.reduceNeg, decide_true, decide_false, Int.natCast_one, w6] <;> with_reducible rfl) (by decide) ?_
          repeat (refine awp_seq ?_)
          -- leaf 1 ret
          refine awp_ret ⟨.inr rfl, _, (ares_cell 2 24 rfl Tryti24 (by decide) (by simp only [aload, LS, SS, SX, HS, mkS_cons, mkS_nil, ↓reduceIte, eq_self', List.map_nil, beq_self_eq_true, Nat.reduceEqDiff, Nat.reduceAdd, Nat.reduceMul, Nat.reduceLT, Nat.reduceLeDiff, Nat.reducePow, Nat.reduceDiv, Nat.reduceMod, Nat.succ_ne_self, Nat.reduceBEq, Nat.reduceBNe, vint, NdS, NdF, Int.cast_ofNat_Int, Int.reduceLT, Int.reduceLE, Int.reduceEq, Int.toNat_one, Int.toNat_zero, Int.reduceToNat, Int.reduceNeg, decide_true, decide_false, Int.natCast_one] <;> with_reducible rfl)), ?_⟩
          first | (refine (Nd.enc_drop1 _).trans (congrArg Nd.enc ?_)) | (simp only [NdF, d1_agg, LS]; refine (Nd.enc_drop1 _).trans (congrArg Nd.enc ?_))
          rw [hst]
          have ht : (Nd.mk t.kind t.value t.text t.st t.en t.ns [c0]).text = t.text := rfl
          clear hst hf hg
          generalize (Nd.mk t.kind t.value t.text t.st t.en t.ns [c0]) = m at ht ⊢
          simp_all [refUn]
        · -- else t50
          repeat (refine awp_seq ?_)
          refine awp_skip ?_
          -- region 12
          repeat (refine awp_seq ?_)
          refine g_eval (by simp only [gsq, gs0, gs1, gs2, gcond, gop, SG, Op.operands, Call.operands, Array.toList_append, aop, afldAddr, ajust, aload, abin, LS, SS, SX, HS, mkS_cons, mkS_nil, ↓reduceIte, eq_self', List.map_nil, beq_self_eq_true, Nat.reduceEqDiff, Nat.reduceAdd, Nat.reduceMul, Nat.reduceLT, Nat.reduceLeDiff, Nat.reducePow, Nat.reduceDiv, Nat.reduceMod, Nat.succ_ne_self, Nat.reduceBEq, Nat.reduceBNe, Tryti3, Trytz3, Trytp3, Trytk3, Tryti9, Trytz9, Trytp9, Tryts9, Tryti24, Trytf24, Trytz24, Trytp24, vint, NdS, NdF, Int.cast_ofNat_Int, Int.reduceLT, Int.reduceLE, Int.reduceEq, Int.toNat_one, Int.toNat_zero, Int.reduceToNat, Int.reduceNeg, decide_true, decide_false, Int.natCast_one] <;> with_reducible rfl) (by decide) (by repeat (first | exact Fin.base _ | with_reducible apply Fin.keep | apply Fin.drop)) ?_
          repeat (refine awp_seq ?_)
          refine awp_cond rfl (by simp only [LS, SS, SX, HS, mkS_cons, mkS_nil, ↓reduceIte, eq_self', List.map_nil, beq_self_eq_true, Nat.reduceEqDiff, Nat.reduceAdd, Nat.succ_ne_self, vint, NdS, NdF, Int.cast_ofNat_Int, Int.reduceLT, Int.reduceLE, Int.reduceEq, Int.toNat_one, Int.toNat_zero, Int.reduceToNat, Int.reduceNeg, decide_true, decide_false, Int.natCast_one] <;> with_reducible rfl) (fun b2 => ?_) (fun b2 => ?_)
          · -- if t65
            refine awp_sel [1, 2, 6] (by simp only [LS, SS, SX, HS, mkS_cons, mkS_nil, ↓reduceIte, eq_self', List.map_nil, beq_self_eq_true, Nat.reduceEqDiff, Nat.reduceAdd, Nat.succ_ne_self, vint, NdS, NdF, Int.cast_ofNat_Int, Int.reduceLT, Int.reduceLE, Int.reduceEq, Int.toNat_one, Int.toNat_zero, Int.reduceToNat, Int.reduceNeg, decide_true, decide_false, Int.natCast_one] <;> with_reducible rfl) ?_
            -- region 13
            repeat (refine awp_seq ?_)
            refine awp_region ?_
            refine e_take 3 (by simp only [asq, as0, as1, as2, awanted, aop, aload, ajust, abin, LS, SS, SX, HS, mkS_cons, mkS_nil, ↓reduceIte, eq_self', List.map_nil, beq_self_eq_true, Nat.reduceEqDiff, Nat.reduceAdd, Nat.reduceMul, Nat.reduceLT, Nat.reduceLeDiff, Nat.reducePow, Nat.reduceDiv, Nat.reduceMod, Nat.succ_ne_self, Nat.reduceBEq, Nat.reduceBNe, Tryti3, Trytz3, Trytp3, Trytk3, Tryti24, Trytf24, Trytz24, Trytp24, vint, NdS, NdF, Int.cast_ofNat_Int, Int.reduceLT, Int.reduceLE, Int.reduceEq, Int.toNat_one, Int.toNat_zero, Int.reduceToNat, Int.reduceNeg, decide_true, decide_false, Int.natCast_one, Int.zero_sub, w5] <;> with_reducible rfl) (by decide) ?_
            refine aops_pure (by simp only [acall, awanted, LS, SS, SX, HS, mkS_cons, mkS_nil, ↓reduceIte, eq_self', List.map_nil, beq_self_eq_true, Nat.reduceEqDiff, Nat.reduceAdd, Nat.reduceMul, Nat.reduceLT, Nat.reduceLeDiff, Nat.reducePow, Nat.reduceDiv, Nat.reduceMod, Nat.succ_ne_self, Nat.reduceBEq, Nat.reduceBNe, vint, NdS, NdF, Int.cast_ofNat_Int, Int.reduceLT, Int.reduceLE, Int.reduceEq, Int.toNat_one, Int.toNat_zero, Int.reduceToNat, Int.reduceNeg, decide_true, decide_false, Int.natCast_one, Int.zero_sub, w5] <;> with_reducible rfl) (by simp only [acall, awanted, LS, SS, SX, HS, mkS_cons, mkS_nil, ↓reduceIte, eq_self', List.map_nil, beq_self_eq_true, Nat.reduceEqDiff, Nat.reduceAdd, Nat.reduceMul, Nat.reduceLT, Nat.reduceLeDiff, Nat.reducePow, Nat.reduceDiv, Nat.reduceMod, Nat.succ_ne_self, Nat.reduceBEq, Nat.reduceBNe, vint, NdS, NdF, Int.cast_ofNat_Int, Int.reduceLT, Int.reduceLE, Int.reduceEq, Int.toNat_one, Int.toNat_zero, Int.reduceToNat, Int.reduceNeg, decide_true, decide_false, Int.natCast_one, Int.zero_sub, w5]) (by decide) Trygo21 (literal_c (Nd.mk t.kind t.value t.text t.st t.en t.ns [c0]) (-(litV c0).1) 1 (by omega) (by omega) _) ?_
            refine e_end (by simp only [asq, as0, as1, as2, awanted, aop, astore, splice, LS, SS, SX, HS, mkS_cons, mkS_nil, ↓reduceIte, eq_self', List.map_nil, beq_self_eq_true, Nat.reduceEqDiff, Nat.reduceAdd, Nat.reduceMul, Nat.reduceLT, Nat.reduceLeDiff, Nat.reducePow, Nat.reduceDiv, Nat.reduceMod, Nat.succ_ne_self, Nat.reduceBEq, Nat.reduceBNe, Tryti24, Trytf24, Trytz24, Trytp24, vint, NdS, NdF, Int.cast_ofNat_Int, Int.reduceLT, Int.reduceLE, Int.reduceEq, Int.toNat_one, Int.toNat_zero, Int.reduceToNat, Int.reduceNeg, decide_true, decide_false, Int.natCast_one, Int.zero_sub, w5] <;> with_reducible rfl) (by decide) ?_
            repeat (refine awp_seq ?_)
            -- leaf 2 ret
            refine awp_ret ⟨.inr rfl, _, (ares_cell 2 24 rfl Tryti24 (by decide) (by simp only [aload, LS, SS, SX, HS, mkS_cons, mkS_nil, ↓reduceIte, eq_self', List.map_nil, beq_self_eq_true, Nat.reduceEqDiff, Nat.reduceAdd, Nat.reduceMul, Nat.reduceLT, Nat.reduceLeDiff, Nat.reducePow, Nat.reduceDiv, Nat.reduceMod, Nat.succ_ne_self, Nat.reduceBEq, Nat.reduceBNe, vint, NdS, NdF, Int.cast_ofNat_Int, Int.reduceLT, Int.reduceLE, Int.reduceEq, Int.toNat_one, Int.toNat_zero, Int.reduceToNat, Int.reduceNeg, decide_true, decide_false, Int.natCast_one] <;> with_reducible rfl)), ?_⟩
            first | (refine (Nd.enc_drop1 _).trans (congrArg Nd.enc ?_)) | (simp only [NdF, d1_agg, LS]; refine (Nd.enc_drop1 _).trans (congrArg Nd.enc ?_))
            rw [hst]
            have ht : (Nd.mk t.kind t.value t.text t.st t.en t.ns [c0]).text = t.text := rfl
            clear hst hf hg
            generalize (Nd.mk t.kind t.value t.text t.st t.en t.ns [c0]) = m at ht ⊢
            simp_all [refUn]
          · -- else t65
            repeat (refine awp_seq ?_)
            refine awp_skip ?_
            refine awp_sel [1, 2, 3] (by simp only [LS, SS, SX, HS, mkS_cons, mkS_nil, ↓reduceIte, eq_self', List.map_nil, beq_self_eq_true, Nat.reduceEqDiff, Nat.reduceAdd, Nat.succ_ne_self, vint, NdS, NdF, Int.cast_ofNat_Int, Int.reduceLT, Int.reduceLE, Int.reduceEq, Int.toNat_one, Int.toNat_zero, Int.reduceToNat, Int.reduceNeg, decide_true, decide_false, Int.natCast_one] <;> with_reducible rfl) ?_
            -- region 14
            repeat (refine awp_seq ?_)
            refine g_eval (by simp only [gsq, gs0, gs1, gs2, gcond, gop, SG, Op.operands, Call.operands, Array.toList_append, aop, afldAddr, ajust, aload, abin, abuiltin, LS, SS, SX, HS, mkS_cons, mkS_nil, ↓reduceIte, eq_self', List.map_nil, beq_self_eq_true, Nat.reduceEqDiff, Nat.reduceAdd, Nat.reduceMul, Nat.reduceLT, Nat.reduceLeDiff, Nat.reducePow, Nat.reduceDiv, Nat.reduceMod, Nat.succ_ne_self, Nat.reduceBEq, Nat.reduceBNe, Tryti3, Trytz3, Trytp3, Trytk3, Tryti22, Tryte22, Trytz22, Trytp22, Tryti24, Trytf24, Trytz24, Trytp24, vint, NdS, NdF, Int.cast_ofNat_Int, Int.reduceLT, Int.reduceLE, Int.reduceEq, Int.toNat_one, Int.toNat_zero, Int.reduceToNat, Int.reduceNeg, decide_true, decide_false, Int.natCast_one, hk] <;> with_reducible rfl) (by decide) (by repeat (first | exact Fin.base _ | with_reducible apply Fin.keep | apply Fin.drop)) ?_
            repeat (refine awp_seq ?_)
            refine awp_cond_true rfl (by simp only [LS, SS, SX, HS, mkS_cons, mkS_nil, ↓reduceIte, eq_self', List.map_nil, beq_self_eq_true, Nat.reduceEqDiff, Nat.reduceAdd, Nat.succ_ne_self, vint, NdS, NdF, Int.cast_ofNat_Int, Int.reduceLT, Int.reduceLE, Int.reduceEq, Int.toNat_one, Int.toNat_zero, Int.reduceToNat, Int.reduceNeg, decide_true, decide_false, Int.natCast_one] <;> with_reducible rfl) ?_
            -- region 15
            repeat (refine awp_seq ?_)
            refine e_eval (by simp only [asq, as0, as1, as2, awanted, aop, aload, ajust, astore, splice, LS, SS, SX, HS, mkS_cons, mkS_nil, ↓reduceIte, eq_self', List.map_nil, beq_self_eq_true, Nat.reduceEqDiff, Nat.reduceAdd, Nat.reduceMul, Nat.reduceLT, Nat.reduceLeDiff, Nat.reducePow, Nat.reduceDiv, Nat.reduceMod, Nat.succ_ne_self, Nat.reduceBEq, Nat.reduceBNe, Tryti24, Trytf24, Trytz24, Trytp24, vint, NdS, NdF, Int.cast_ofNat_Int, Int.reduceLT, Int.reduceLE, Int.reduceEq, Int.toNat_one, Int.toNat_zero, Int.reduceToNat, Int.reduceNeg, decide_true, decide_false, Int.natCast_one] <;> with_reducible rfl) (by decide) ?_
            repeat (refine awp_seq ?_)
            -- leaf 3 ret
            refine awp_ret ⟨.inr rfl, _, (ares_cell 2 24 rfl Tryti24 (by decide) (by simp only [aload, LS, SS, SX, HS, mkS_cons, mkS_nil, ↓reduceIte, eq_self', List.map_nil, beq_self_eq_true, Nat.reduceEqDiff, Nat.reduceAdd, Nat.reduceMul, Nat.reduceLT, Nat.reduceLeDiff, Nat.reducePow, Nat.reduceDiv, Nat.reduceMod, Nat.succ_ne_self, Nat.reduceBEq, Nat.reduceBNe, vint, NdS, NdF, Int.cast_ofNat_Int, Int.reduceLT, Int.reduceLE, Int.reduceEq, Int.toNat_one, Int.toNat_zero, Int.reduceToNat, Int.reduceNeg, decide_true, decide_false, Int.natCast_one] <;> with_reducible rfl)), ?_⟩
            first | (refine (Nd.enc_drop1 _).trans (congrArg Nd.enc ?_)) | (simp only [NdF, d1_agg, LS]; refine (Nd.enc_drop1 _).trans (congrArg Nd.enc ?_))
            rw [hst, hk]
            have ht : (Nd.mk 40 t.value t.text t.st t.en t.ns [c0]).text = t.text := rfl
            clear hst hf hg
            generalize (Nd.mk 40 t.value t.text t.st t.en t.ns [c0]) = m at ht ⊢
            simp_all [refUn]
            try grind
      · -- else t36
        have hq : ¬ (t.kind = 40 ∧ r.length = 1) := by simp at b0; omega
        have hk : (0 : Int) = 0 := rfl
        repeat (refine awp_seq ?_)
        refine awp_skip ?_
        -- region 14
        repeat (refine awp_seq ?_)
        refine g_eval (by simp only [gsq, gs0, gs1, gs2, gcond, gop, SG, Op.operands, Call.operands, Array.toList_append, aop, afldAddr, ajust, aload, abin, abuiltin, LS, SS, SX, HS, mkS_cons, mkS_nil, ↓reduceIte, eq_self', List.map_nil, beq_self_eq_true, Nat.reduceEqDiff, Nat.reduceAdd, Nat.reduceMul, Nat.reduceLT, Nat.reduceLeDiff, Nat.reducePow, Nat.reduceDiv, Nat.reduceMod, Nat.succ_ne_self, Nat.reduceBEq, Nat.reduceBNe, Tryti3, Trytz3, Trytp3, Trytk3, Tryti22, Tryte22, Trytz22, Trytp22, Tryti24, Trytf24, Trytz24, Trytp24, vint, NdS, NdF, Int.cast_ofNat_Int, Int.reduceLT, Int.reduceLE, Int.reduceEq, Int.toNat_one, Int.toNat_zero, Int.reduceToNat, Int.reduceNeg, decide_true, decide_false, Int.natCast_one, hk] <;> with_reducible rfl) (by decide) (by repeat (first | exact Fin.base _ | with_reducible apply Fin.keep | apply Fin.drop)) ?_
        repeat (refine awp_seq ?_)
        refine awp_cond rfl (by simp only [LS, SS, SX, HS, mkS_cons, mkS_nil, ↓reduceIte, eq_self', List.map_nil, beq_self_eq_true, Nat.reduceEqDiff, Nat.reduceAdd, Nat.succ_ne_self, vint, NdS, NdF, Int.cast_ofNat_Int, Int.reduceLT, Int.reduceLE, Int.reduceEq, Int.toNat_one, Int.toNat_zero, Int.reduceToNat, Int.reduceNeg, decide_true, decide_false, Int.natCast_one] <;> with_reducible rfl) (fun b4 => ?_) (fun b4 => ?_)
        · -- if t77
          have hq2 : ¬ (t.kind = 39 ∧ r.length = 2) := by simp at b4; omega
          have hst : foldN t = (Nd.mk t.kind t.value t.text t.st t.en t.ns r) := by
            rw [hf]; unfold refStep; split
            · rename_i hk; split
              · rename_i c hks; exact absurd ⟨hk, by have : r = [c] := hks; rw [this]; rfl⟩ hq
              · rfl
            · split
              · rename_i hk; split
                · rename_i c0 c1 hks; exact absurd ⟨hk, by have : r = [c0, c1] := hks; rw [this]; rfl⟩ hq2
                · rfl
              · rfl
          refine awp_sel [1, 2] (by simp only [LS, SS, SX, HS, mkS_cons, mkS_nil, ↓reduceIte, eq_self', List.map_nil, beq_self_eq_true, Nat.reduceEqDiff, Nat.reduceAdd, Nat.succ_ne_self, vint, NdS, NdF, Int.cast_ofNat_Int, Int.reduceLT, Int.reduceLE, Int.reduceEq, Int.toNat_one, Int.toNat_zero, Int.reduceToNat, Int.reduceNeg, decide_true, decide_false, Int.natCast_one] <;> with_reducible rfl) ?_
          -- region 15
          repeat (refine awp_seq ?_)
          refine e_eval (by simp only [asq, as0, as1, as2, awanted, aop, aload, ajust, astore, splice, LS, SS, SX, HS, mkS_cons, mkS_nil, ↓reduceIte, eq_self', List.map_nil, beq_self_eq_true, Nat.reduceEqDiff, Nat.reduceAdd, Nat.reduceMul, Nat.reduceLT, Nat.reduceLeDiff, Nat.reducePow, Nat.reduceDiv, Nat.reduceMod, Nat.succ_ne_self, Nat.reduceBEq, Nat.reduceBNe, Tryti24, Trytf24, Trytz24, Trytp24, vint, NdS, NdF, Int.cast_ofNat_Int, Int.reduceLT, Int.reduceLE, Int.reduceEq, Int.toNat_one, Int.toNat_zero, Int.reduceToNat, Int.reduceNeg, decide_true, decide_false, Int.natCast_one] <;> with_reducible rfl) (by decide) ?_
          repeat (refine awp_seq ?_)
          -- leaf 4 ret
          refine awp_ret ⟨.inr rfl, _, (ares_cell 2 24 rfl Tryti24 (by decide) (by simp only [aload, LS, SS, SX, HS, mkS_cons, mkS_nil, ↓reduceIte, eq_self', List.map_nil, beq_self_eq_true, Nat.reduceEqDiff, Nat.reduceAdd, Nat.reduceMul, Nat.reduceLT, Nat.reduceLeDiff, Nat.reducePow, Nat.reduceDiv, Nat.reduceMod, Nat.succ_ne_self, Nat.reduceBEq, Nat.reduceBNe, vint, NdS, NdF, Int.cast_ofNat_Int, Int.reduceLT, Int.reduceLE, Int.reduceEq, Int.toNat_one, Int.toNat_zero, Int.reduceToNat, Int.reduceNeg, decide_true, decide_false, Int.natCast_one] <;> with_reducible rfl)), ?_⟩
          rw [hst]
          first | exact Nd.enc_drop1 _ | (simp only [NdF, d1_agg, LS]; exact Nd.enc_drop1 _) | rfl
        · -- else t77
          have hq2 : t.kind = 39 ∧ r.length = 2 := by simp at b4; omega
          obtain ⟨c0, c1, rfl⟩ : ∃ c0 c1, r = [c0, c1] := by
            match r, hq2.2 with
            | [a, b], _ => exact ⟨a, b, rfl⟩
          have hst : foldN t = refBin (Nd.mk t.kind t.value t.text t.st t.en t.ns [c0, c1]) c0 c1 := by
            rw [hf]; unfold refStep; rw [if_neg (show ¬ (Nd.mk t.kind t.value t.text t.st t.en t.ns [c0, c1]).kind = 40 from fun e => by have : t.kind = 40 := e; omega), if_pos (show (Nd.mk t.kind t.value t.text t.st t.en t.ns [c0, c1]).kind = 39 from hq2.1)]; rfl
          have hr0 := lit_rng c0
          have hr1 := lit_rng c1
          have hm := mul_rng (a := (litV c0).1) (b := (litV c1).1) (by omega) (by omega)
          have hd := Int.natAbs_tdiv_le_natAbs (litV c0).1 (litV c1).1
          have hd2 : -2147483647 ≤ (litV c0).1.tdiv (litV c1).1 ∧ (litV c0).1.tdiv (litV c1).1 ≤ 2147483647 := by omega
          have w1 : IntKind.i64.wrap ((litV c0).1 + (litV c1).1) = (litV c0).1 + (litV c1).1 := wrap_id (by omega) (by omega)
          have w2 : IntKind.i64.wrap ((litV c0).1 - (litV c1).1) = (litV c0).1 - (litV c1).1 := wrap_id (by omega) (by omega)
          have w3 : IntKind.i64.wrap ((litV c0).1 * (litV c1).1) = (litV c0).1 * (litV c1).1 := wrap_id (by omega) (by omega)
          have w4 : IntKind.i64.wrap ((litV c0).1.tdiv (litV c1).1) = (litV c0).1.tdiv (litV c1).1 := wrap_id (by omega) (by omega)
          repeat (refine awp_seq ?_)
          refine awp_skip ?_
          refine awp_sel [1, 2, 3] (by simp only [LS, SS, SX, HS, mkS_cons, mkS_nil, ↓reduceIte, eq_self', List.map_nil, beq_self_eq_true, Nat.reduceEqDiff, Nat.reduceAdd, Nat.succ_ne_self, vint, NdS, NdF, Int.cast_ofNat_Int, Int.reduceLT, Int.reduceLE, Int.reduceEq, Int.toNat_one, Int.toNat_zero, Int.reduceToNat, Int.reduceNeg, decide_true, decide_false, Int.natCast_one] <;> with_reducible rfl) ?_
          -- region 16
          repeat (refine awp_seq ?_)
          refine awp_region ?_
          refine e_take 3 (by simp only [asq, as0, as1, as2, awanted, aop, aidxAddr, aidx, ajust, aload, LS, SS, SX, HS, mkS_cons, mkS_nil, ↓reduceIte, eq_self', List.map_nil, beq_self_eq_true, Nat.reduceEqDiff, Nat.reduceAdd, Nat.reduceMul, Nat.reduceLT, Nat.reduceLeDiff, Nat.reducePow, Nat.reduceDiv, Nat.reduceMod, Nat.succ_ne_self, Nat.reduceBEq, Nat.reduceBNe, Tryti22, Tryte22, Trytz22, Trytp22, Tryti24, Trytf24, Trytz24, Trytp24, vint, NdS, NdF, Int.cast_ofNat_Int, Int.reduceLT, Int.reduceLE, Int.reduceEq, Int.toNat_one, Int.toNat_zero, Int.reduceToNat, Int.reduceNeg, decide_true, decide_false, Int.natCast_one] <;> with_reducible rfl) (by decide) ?_
          refine aops_pure (by simp only [acall, awanted, LS, SS, SX, HS, mkS_cons, mkS_nil, ↓reduceIte, eq_self', List.map_nil, beq_self_eq_true, Nat.reduceEqDiff, Nat.reduceAdd, Nat.reduceMul, Nat.reduceLT, Nat.reduceLeDiff, Nat.reducePow, Nat.reduceDiv, Nat.reduceMod, Nat.succ_ne_self, Nat.reduceBEq, Nat.reduceBNe, vint, NdS, NdF, Int.cast_ofNat_Int, Int.reduceLT, Int.reduceLE, Int.reduceEq, Int.toNat_one, Int.toNat_zero, Int.reduceToNat, Int.reduceNeg, decide_true, decide_false, Int.natCast_one] <;> with_reducible rfl) (by simp only [acall, awanted, LS, SS, SX, HS, mkS_cons, mkS_nil, ↓reduceIte, eq_self', List.map_nil, beq_self_eq_true, Nat.reduceEqDiff, Nat.reduceAdd, Nat.reduceMul, Nat.reduceLT, Nat.reduceLeDiff, Nat.reducePow, Nat.reduceDiv, Nat.reduceMod, Nat.succ_ne_self, Nat.reduceBEq, Nat.reduceBNe, vint, NdS, NdF, Int.cast_ofNat_Int, Int.reduceLT, Int.reduceLE, Int.reduceEq, Int.toNat_one, Int.toNat_zero, Int.reduceToNat, Int.reduceNeg, decide_true, decide_false, Int.natCast_one]) (by decide) Trygo14 (litval_c c0 _) ?_
          refine e_end (by simp only [asq, as0, as1, as2, awanted, aop, ajust, LS, SS, SX, HS, mkS_cons, mkS_nil, ↓reduceIte, eq_self', List.map_nil, beq_self_eq_true, Nat.reduceEqDiff, Nat.reduceAdd, Nat.reduceMul, Nat.reduceLT, Nat.reduceLeDiff, Nat.reducePow, Nat.reduceDiv, Nat.reduceMod, Nat.succ_ne_self, Nat.reduceBEq, Nat.reduceBNe, vint, NdS, NdF, Int.cast_ofNat_Int, Int.reduceLT, Int.reduceLE, Int.reduceEq, Int.toNat_one, Int.toNat_zero, Int.reduceToNat, Int.reduceNeg, decide_true, decide_false, Int.natCast_one] <;> with_reducible rfl) (by decide) ?_
          -- region 17
          repeat (refine awp_seq ?_)
          refine awp_region ?_
          refine e_take 3 (by simp only [asq, as0, as1, as2, awanted, aop, aidxAddr, aidx, ajust, aload, LS, SS, SX, HS, mkS_cons, mkS_nil, ↓reduceIte, eq_self', List.map_nil, beq_self_eq_true, Nat.reduceEqDiff, Nat.reduceAdd, Nat.reduceMul, Nat.reduceLT, Nat.reduceLeDiff, Nat.reducePow, Nat.reduceDiv, Nat.reduceMod, Nat.succ_ne_self, Nat.reduceBEq, Nat.reduceBNe, Tryti22, Tryte22, Trytz22, Trytp22, Tryti24, Trytf24, Trytz24, Trytp24, vint, NdS, NdF, Int.cast_ofNat_Int, Int.reduceLT, Int.reduceLE, Int.reduceEq, Int.toNat_one, Int.toNat_zero, Int.reduceToNat, Int.reduceNeg, decide_true, decide_false, Int.natCast_one] <;> with_reducible rfl) (by decide) ?_
          refine aops_pure (by simp only [acall, awanted, LS, SS, SX, HS, mkS_cons, mkS_nil, ↓reduceIte, eq_self', List.map_nil, beq_self_eq_true, Nat.reduceEqDiff, Nat.reduceAdd, Nat.reduceMul, Nat.reduceLT, Nat.reduceLeDiff, Nat.reducePow, Nat.reduceDiv, Nat.reduceMod, Nat.succ_ne_self, Nat.reduceBEq, Nat.reduceBNe, vint, NdS, NdF, Int.cast_ofNat_Int, Int.reduceLT, Int.reduceLE, Int.reduceEq, Int.toNat_one, Int.toNat_zero, Int.reduceToNat, Int.reduceNeg, decide_true, decide_false, Int.natCast_one] <;> with_reducible rfl) (by simp only [acall, awanted, LS, SS, SX, HS, mkS_cons, mkS_nil, ↓reduceIte, eq_self', List.map_nil, beq_self_eq_true, Nat.reduceEqDiff, Nat.reduceAdd, Nat.reduceMul, Nat.reduceLT, Nat.reduceLeDiff, Nat.reducePow, Nat.reduceDiv, Nat.reduceMod, Nat.succ_ne_self, Nat.reduceBEq, Nat.reduceBNe, vint, NdS, NdF, Int.cast_ofNat_Int, Int.reduceLT, Int.reduceLE, Int.reduceEq, Int.toNat_one, Int.toNat_zero, Int.reduceToNat, Int.reduceNeg, decide_true, decide_false, Int.natCast_one]) (by decide) Trygo14 (litval_c c1 _) ?_
          refine e_end (by simp only [asq, as0, as1, as2, awanted, aop, ajust, LS, SS, SX, HS, mkS_cons, mkS_nil, ↓reduceIte, eq_self', List.map_nil, beq_self_eq_true, Nat.reduceEqDiff, Nat.reduceAdd, Nat.reduceMul, Nat.reduceLT, Nat.reduceLeDiff, Nat.reducePow, Nat.reduceDiv, Nat.reduceMod, Nat.succ_ne_self, Nat.reduceBEq, Nat.reduceBNe, vint, NdS, NdF, Int.cast_ofNat_Int, Int.reduceLT, Int.reduceLE, Int.reduceEq, Int.toNat_one, Int.toNat_zero, Int.reduceToNat, Int.reduceNeg, decide_true, decide_false, Int.natCast_one] <;> with_reducible rfl) (by decide) ?_
          repeat (refine awp_seq ?_)
          refine awp_block ?_
          refine awp_sel [1, 2, 3, 8, 9, 10, 11] (by simp only [LS, SS, SX, HS, mkS_cons, mkS_nil, ↓reduceIte, eq_self', List.map_nil, beq_self_eq_true, Nat.reduceEqDiff, Nat.reduceAdd, Nat.succ_ne_self, vint, NdS, NdF, Int.cast_ofNat_Int, Int.reduceLT, Int.reduceLE, Int.reduceEq, Int.toNat_one, Int.toNat_zero, Int.reduceToNat, Int.reduceNeg, decide_true, decide_false, Int.natCast_one] <;> with_reducible rfl) ?_
          -- region 18
          repeat (refine awp_seq ?_)
          refine g_eval (by simp only [gsq, gs0, gs1, gs2, gcond, gop, SG, Op.operands, Call.operands, Array.toList_append, aop, afldAddr, ajust, aload, abin, LS, SS, SX, HS, mkS_cons, mkS_nil, ↓reduceIte, eq_self', List.map_nil, beq_self_eq_true, Nat.reduceEqDiff, Nat.reduceAdd, Nat.reduceMul, Nat.reduceLT, Nat.reduceLeDiff, Nat.reducePow, Nat.reduceDiv, Nat.reduceMod, Nat.succ_ne_self, Nat.reduceBEq, Nat.reduceBNe, Tryti3, Trytz3, Trytp3, Trytk3, Tryti9, Trytz9, Trytp9, Tryts9, Tryti24, Trytf24, Trytz24, Trytp24, vint, NdS, NdF, Int.cast_ofNat_Int, Int.reduceLT, Int.reduceLE, Int.reduceEq, Int.toNat_one, Int.toNat_zero, Int.reduceToNat, Int.reduceNeg, decide_true, decide_false, Int.natCast_one] <;> with_reducible rfl) (by decide) (by repeat (first | exact Fin.base _ | with_reducible apply Fin.keep | apply Fin.drop)) ?_
          repeat (refine awp_seq ?_)
          refine awp_joinT (σ := Bool) (fun (s : Bool) => [(1, .optr 0 0), (2, .optr 1 0), (3, .slice [c0.enc, c1.enc] (.tok 2)), (8, vint (litV c0).1), (9, vint (sortV c0)), (10, vint (litV c1).1), (11, vint (sortV c1)), (93, .bool s)]) (fun (s : Bool) => [.row [.int .i64 t.kind, .int .i64 t.value, .str t.text, .int .i64 t.st, .int .i64 t.en, .int .i64 t.ns, .slice [c0.enc, c1.enc] (.tok 2)], .row [.int .i64 0, .int .i64 0, .str [], .int .i64 0, .int .i64 0, .int .i64 0, .slice [] .full], .buf 2 7]) (fun (s : Bool) => s = true ↔ (t.text = [38, 38] ∧ sortV c0 = 2 ∧ (litV c0).1 = 1) ∨ (t.text = [124, 124] ∧ sortV c0 = 2 ∧ (litV c0).1 = 0)) ?_ ?_ ?_
          · intro s hg
            refine ⟨Nat.zero_le _, ?_, by repeat (first | exact BelL.nil | refine BelL.cons (by first | exact bel_Nd _ _ | exact Nd.bel _ _ | exact bel_nd_tok _ (by simp) | exact bel_nd_tok [c0, c1] (by simp) | exact bel_Nd _ _ | exact Nd.bel _ _ | exact Bel.int _ _ | exact Bel.bool _ | exact Bel.str _ | exact Bel.nilp | exact Bel.nilfn | exact Bel.optr _ _ (by simp) | exact bel_nil0 _ | exact bel_nil1 _ | exact bel_fn0 _ _ | assumption) ?_)⟩
            repeat (first | exact hbel_nil _ | exact trivial | exact obel_row_nil _ | (refine HBel.cons ?_ ?_) | (refine obel_row_cons (by first | exact bel_Nd _ _ | exact Nd.bel _ _ | exact bel_nd_tok _ (by simp) | exact bel_nd_tok [c0, c1] (by simp) | exact bel_Nd _ _ | exact Nd.bel _ _ | exact Bel.int _ _ | exact Bel.bool _ | exact Bel.str _ | exact Bel.nilp | exact Bel.nilfn | exact Bel.optr _ _ (by simp) | exact bel_nil0 _ | exact bel_nil1 _ | exact bel_fn0 _ _ | assumption) ?_))
          · -- to the meeting
            repeat (refine awp_seq ?_)
            refine awp_cond rfl (by simp only [LS, SS, SX, HS, mkS_cons, mkS_nil, ↓reduceIte, eq_self', List.map_nil, beq_self_eq_true, Nat.reduceEqDiff, Nat.reduceAdd, Nat.succ_ne_self, vint, NdS, NdF, Int.cast_ofNat_Int, Int.reduceLT, Int.reduceLE, Int.reduceEq, Int.toNat_one, Int.toNat_zero, Int.reduceToNat, Int.reduceNeg, decide_true, decide_false, Int.natCast_one] <;> with_reducible rfl) (fun b5 => ?_) (fun b5 => ?_)
            · -- if t93
              repeat (refine awp_seq ?_)
              refine awp_skip ?_
              -- leaf 5 join18
              exact ⟨_, [], ⟨(by first | rfl | (simp only [LS, SS, SX, HS, mkS_cons, mkS_nil, ↓reduceIte, eq_self', List.map_nil, beq_self_eq_true, Nat.reduceEqDiff, Nat.reduceAdd, Nat.succ_ne_self, vint, NdS, NdF, Int.cast_ofNat_Int, Int.reduceLT, Int.reduceLE, Int.reduceEq, Int.toNat_one, Int.toNat_zero, Int.reduceToNat, Int.reduceNeg, decide_true, decide_false, Int.natCast_one] <;> first | done | with_reducible rfl)), (by first | rfl | (simp only [LS, SS, SX, HS, mkS_cons, mkS_nil, ↓reduceIte, eq_self', List.map_nil, beq_self_eq_true, Nat.reduceEqDiff, Nat.reduceAdd, Nat.succ_ne_self, vint, NdS, NdF, Int.cast_ofNat_Int, Int.reduceLT, Int.reduceLE, Int.reduceEq, Int.toNat_one, Int.toNat_zero, Int.reduceToNat, Int.reduceNeg, decide_true, decide_false, Int.natCast_one] <;> first | done | with_reducible rfl)), (by first | rfl | (simp only [LS, SS, SX, HS, mkS_cons, mkS_nil, ↓reduceIte, eq_self', List.map_nil, beq_self_eq_true, Nat.reduceEqDiff, Nat.reduceAdd, Nat.succ_ne_self, vint, NdS, NdF, Int.cast_ofNat_Int, Int.reduceLT, Int.reduceLE, Int.reduceEq, Int.toNat_one, Int.toNat_zero, Int.reduceToNat, Int.reduceNeg, decide_true, decide_false, Int.natCast_one] <;> first | done | with_reducible rfl)), (by first | rfl | (simp only [LS, SS, SX, HS, mkS_cons, mkS_nil, ↓reduceIte, eq_self', List.map_nil, beq_self_eq_true, Nat.reduceEqDiff, Nat.reduceAdd, Nat.succ_ne_self, vint, NdS, NdF, Int.cast_ofNat_Int, Int.reduceLT, Int.reduceLE, Int.reduceEq, Int.toNat_one, Int.toNat_zero, Int.reduceToNat, Int.reduceNeg, decide_true, decide_false, Int.natCast_one] <;> first | done | with_reducible rfl)), (by first | rfl | (simp only [LS, SS, SX, HS, mkS_cons, mkS_nil, ↓reduceIte, eq_self', List.map_nil, beq_self_eq_true, Nat.reduceEqDiff, Nat.reduceAdd, Nat.succ_ne_self, vint, NdS, NdF, Int.cast_ofNat_Int, Int.reduceLT, Int.reduceLE, Int.reduceEq, Int.toNat_one, Int.toNat_zero, Int.reduceToNat, Int.reduceNeg, decide_true, decide_false, Int.natCast_one] <;> first | done | with_reducible rfl)), (by first | rfl | (simp only [LS, SS, SX, HS, mkS_cons, mkS_nil, ↓reduceIte, eq_self', List.map_nil, beq_self_eq_true, Nat.reduceEqDiff, Nat.reduceAdd, Nat.succ_ne_self, vint, NdS, NdF, Int.cast_ofNat_Int, Int.reduceLT, Int.reduceLE, Int.reduceEq, Int.toNat_one, Int.toNat_zero, Int.reduceToNat, Int.reduceNeg, decide_true, decide_false, Int.natCast_one] <;> first | done | with_reducible rfl)), (by first | rfl | (simp only [LS, SS, SX, HS, mkS_cons, mkS_nil, ↓reduceIte, eq_self', List.map_nil, beq_self_eq_true, Nat.reduceEqDiff, Nat.reduceAdd, Nat.succ_ne_self, vint, NdS, NdF, Int.cast_ofNat_Int, Int.reduceLT, Int.reduceLE, Int.reduceEq, Int.toNat_one, Int.toNat_zero, Int.reduceToNat, Int.reduceNeg, decide_true, decide_false, Int.natCast_one] <;> first | done | with_reducible rfl)), (by first | rfl | (simp only [LS, SS, SX, HS, mkS_cons, mkS_nil, ↓reduceIte, eq_self', List.map_nil, beq_self_eq_true, Nat.reduceEqDiff, Nat.reduceAdd, Nat.succ_ne_self, vint, NdS, NdF, Int.cast_ofNat_Int, Int.reduceLT, Int.reduceLE, Int.reduceEq, Int.toNat_one, Int.toNat_zero, Int.reduceToNat, Int.reduceNeg, decide_true, decide_false, Int.natCast_one] <;> first | done | with_reducible rfl)), trivial⟩, (List.append_nil _).symm, by grind⟩
            · -- else t93
              -- region 19
              repeat (refine awp_seq ?_)
              refine g_eval (by simp only [gsq, gs0, gs1, gs2, gcond, gop, SG, Op.operands, Call.operands, Array.toList_append, aop, afldAddr, ajust, aload, abin, LS, SS, SX, HS, mkS_cons, mkS_nil, ↓reduceIte, eq_self', List.map_nil, beq_self_eq_true, Nat.reduceEqDiff, Nat.reduceAdd, Nat.reduceMul, Nat.reduceLT, Nat.reduceLeDiff, Nat.reducePow, Nat.reduceDiv, Nat.reduceMod, Nat.succ_ne_self, Nat.reduceBEq, Nat.reduceBNe, Tryti3, Trytz3, Trytp3, Trytk3, Tryti9, Trytz9, Trytp9, Tryts9, Tryti24, Trytf24, Trytz24, Trytp24, vint, NdS, NdF, Int.cast_ofNat_Int, Int.reduceLT, Int.reduceLE, Int.reduceEq, Int.toNat_one, Int.toNat_zero, Int.reduceToNat, Int.reduceNeg, decide_true, decide_false, Int.natCast_one] <;> with_reducible rfl) (by decide) (by repeat (first | exact Fin.base _ | with_reducible apply Fin.keep | apply Fin.drop)) ?_
              -- leaf 6 join18
              exact ⟨_, [], ⟨(by first | rfl | (simp only [LS, SS, SX, HS, mkS_cons, mkS_nil, ↓reduceIte, eq_self', List.map_nil, beq_self_eq_true, Nat.reduceEqDiff, Nat.reduceAdd, Nat.succ_ne_self, vint, NdS, NdF, Int.cast_ofNat_Int, Int.reduceLT, Int.reduceLE, Int.reduceEq, Int.toNat_one, Int.toNat_zero, Int.reduceToNat, Int.reduceNeg, decide_true, decide_false, Int.natCast_one] <;> first | done | with_reducible rfl)), (by first | rfl | (simp only [LS, SS, SX, HS, mkS_cons, mkS_nil, ↓reduceIte, eq_self', List.map_nil, beq_self_eq_true, Nat.reduceEqDiff, Nat.reduceAdd, Nat.succ_ne_self, vint, NdS, NdF, Int.cast_ofNat_Int, Int.reduceLT, Int.reduceLE, Int.reduceEq, Int.toNat_one, Int.toNat_zero, Int.reduceToNat, Int.reduceNeg, decide_true, decide_false, Int.natCast_one] <;> first | done | with_reducible rfl)), (by first | rfl | (simp only [LS, SS, SX, HS, mkS_cons, mkS_nil, ↓reduceIte, eq_self', List.map_nil, beq_self_eq_true, Nat.reduceEqDiff, Nat.reduceAdd, Nat.succ_ne_self, vint, NdS, NdF, Int.cast_ofNat_Int, Int.reduceLT, Int.reduceLE, Int.reduceEq, Int.toNat_one, Int.toNat_zero, Int.reduceToNat, Int.reduceNeg, decide_true, decide_false, Int.natCast_one] <;> first | done | with_reducible rfl)), (by first | rfl | (simp only [LS, SS, SX, HS, mkS_cons, mkS_nil, ↓reduceIte, eq_self', List.map_nil, beq_self_eq_true, Nat.reduceEqDiff, Nat.reduceAdd, Nat.succ_ne_self, vint, NdS, NdF, Int.cast_ofNat_Int, Int.reduceLT, Int.reduceLE, Int.reduceEq, Int.toNat_one, Int.toNat_zero, Int.reduceToNat, Int.reduceNeg, decide_true, decide_false, Int.natCast_one] <;> first | done | with_reducible rfl)), (by first | rfl | (simp only [LS, SS, SX, HS, mkS_cons, mkS_nil, ↓reduceIte, eq_self', List.map_nil, beq_self_eq_true, Nat.reduceEqDiff, Nat.reduceAdd, Nat.succ_ne_self, vint, NdS, NdF, Int.cast_ofNat_Int, Int.reduceLT, Int.reduceLE, Int.reduceEq, Int.toNat_one, Int.toNat_zero, Int.reduceToNat, Int.reduceNeg, decide_true, decide_false, Int.natCast_one] <;> first | done | with_reducible rfl)), (by first | rfl | (simp only [LS, SS, SX, HS, mkS_cons, mkS_nil, ↓reduceIte, eq_self', List.map_nil, beq_self_eq_true, Nat.reduceEqDiff, Nat.reduceAdd, Nat.succ_ne_self, vint, NdS, NdF, Int.cast_ofNat_Int, Int.reduceLT, Int.reduceLE, Int.reduceEq, Int.toNat_one, Int.toNat_zero, Int.reduceToNat, Int.reduceNeg, decide_true, decide_false, Int.natCast_one] <;> first | done | with_reducible rfl)), (by first | rfl | (simp only [LS, SS, SX, HS, mkS_cons, mkS_nil, ↓reduceIte, eq_self', List.map_nil, beq_self_eq_true, Nat.reduceEqDiff, Nat.reduceAdd, Nat.succ_ne_self, vint, NdS, NdF, Int.cast_ofNat_Int, Int.reduceLT, Int.reduceLE, Int.reduceEq, Int.toNat_one, Int.toNat_zero, Int.reduceToNat, Int.reduceNeg, decide_true, decide_false, Int.natCast_one] <;> first | done | with_reducible rfl)), (by first | rfl | (simp only [LS, SS, SX, HS, mkS_cons, mkS_nil, ↓reduceIte, eq_self', List.map_nil, beq_self_eq_true, Nat.reduceEqDiff, Nat.reduceAdd, Nat.succ_ne_self, vint, NdS, NdF, Int.cast_ofNat_Int, Int.reduceLT, Int.reduceLE, Int.reduceEq, Int.toNat_one, Int.toNat_zero, Int.reduceToNat, Int.reduceNeg, decide_true, decide_false, Int.natCast_one] <;> first | done | with_reducible rfl)), trivial⟩, (List.append_nil _).symm, by grind⟩
          · intro s hg
            repeat (refine awp_seq ?_)
            refine awp_cond rfl (by simp only [LS, SS, SX, HS, mkS_cons, mkS_nil, ↓reduceIte, eq_self', List.map_nil, beq_self_eq_true, Nat.reduceEqDiff, Nat.reduceAdd, Nat.succ_ne_self, vint, NdS, NdF, Int.cast_ofNat_Int, Int.reduceLT, Int.reduceLE, Int.reduceEq, Int.toNat_one, Int.toNat_zero, Int.reduceToNat, Int.reduceNeg, decide_true, decide_false, Int.natCast_one] <;> with_reducible rfl) (fun b6 => ?_) (fun b6 => ?_)
            · -- if t93
              -- region 20
              repeat (refine awp_seq ?_)
              refine e_eval (by simp only [asq, as0, as1, as2, awanted, aop, aidxAddr, aidx, ajust, aload, astore, splice, LS, SS, SX, HS, mkS_cons, mkS_nil, ↓reduceIte, eq_self', List.map_nil, beq_self_eq_true, Nat.reduceEqDiff, Nat.reduceAdd, Nat.reduceMul, Nat.reduceLT, Nat.reduceLeDiff, Nat.reducePow, Nat.reduceDiv, Nat.reduceMod, Nat.succ_ne_self, Nat.reduceBEq, Nat.reduceBNe, Tryti22, Tryte22, Trytz22, Trytp22, Tryti24, Trytf24, Trytz24, Trytp24, vint, NdS, NdF, Int.cast_ofNat_Int, Int.reduceLT, Int.reduceLE, Int.reduceEq, Int.toNat_one, Int.toNat_zero, Int.reduceToNat, Int.reduceNeg, decide_true, decide_false, Int.natCast_one] <;> with_reducible rfl) (by decide) ?_
              repeat (refine awp_seq ?_)
              -- leaf 7 ret
              refine awp_ret ⟨.inr rfl, _, (ares_cell 2 24 rfl Tryti24 (by decide) (by simp only [aload, LS, SS, SX, HS, mkS_cons, mkS_nil, ↓reduceIte, eq_self', List.map_nil, beq_self_eq_true, Nat.reduceEqDiff, Nat.reduceAdd, Nat.reduceMul, Nat.reduceLT, Nat.reduceLeDiff, Nat.reducePow, Nat.reduceDiv, Nat.reduceMod, Nat.succ_ne_self, Nat.reduceBEq, Nat.reduceBNe, vint, NdS, NdF, Int.cast_ofNat_Int, Int.reduceLT, Int.reduceLE, Int.reduceEq, Int.toNat_one, Int.toNat_zero, Int.reduceToNat, Int.reduceNeg, decide_true, decide_false, Int.natCast_one] <;> with_reducible rfl)), ?_⟩
              first | (refine (Nd.enc_drop1 _).trans (congrArg Nd.enc ?_)) | (simp only [NdF, d1_agg, LS]; refine (Nd.enc_drop1 _).trans (congrArg Nd.enc ?_))
              rw [hst]
              have ht : (Nd.mk t.kind t.value t.text t.st t.en t.ns [c0, c1]).text = t.text := rfl
              clear hst hf
              generalize (Nd.mk t.kind t.value t.text t.st t.en t.ns [c0, c1]) = m at ht ⊢
              clear w1 w2 w3 w4 hd hd2 hm hr0 hr1 hlen hw b0
              unfold refBin rangeN
              grind
            · -- else t93
              -- region 21
              repeat (refine awp_seq ?_)
              refine g_eval (by simp only [gsq, gs0, gs1, gs2, gcond, gop, SG, Op.operands, Call.operands, Array.toList_append, aop, afldAddr, ajust, aload, abin, LS, SS, SX, HS, mkS_cons, mkS_nil, ↓reduceIte, eq_self', List.map_nil, beq_self_eq_true, Nat.reduceEqDiff, Nat.reduceAdd, Nat.reduceMul, Nat.reduceLT, Nat.reduceLeDiff, Nat.reducePow, Nat.reduceDiv, Nat.reduceMod, Nat.succ_ne_self, Nat.reduceBEq, Nat.reduceBNe, Tryti3, Trytz3, Trytp3, Trytk3, Tryti9, Trytz9, Trytp9, Tryts9, Tryti24, Trytf24, Trytz24, Trytp24, vint, NdS, NdF, Int.cast_ofNat_Int, Int.reduceLT, Int.reduceLE, Int.reduceEq, Int.toNat_one, Int.toNat_zero, Int.reduceToNat, Int.reduceNeg, decide_true, decide_false, Int.natCast_one] <;> with_reducible rfl) (by decide) (by repeat (first | exact Fin.base _ | with_reducible apply Fin.keep | apply Fin.drop)) ?_
              repeat (refine awp_seq ?_)
              refine awp_joinT (σ := Bool) (fun (s : Bool) => [(1, .optr 0 0), (2, .optr 1 0), (3, .slice [c0.enc, c1.enc] (.tok 2)), (8, vint (litV c0).1), (9, vint (sortV c0)), (10, vint (litV c1).1), (11, vint (sortV c1)), (119, .bool s)]) (fun (s : Bool) => [.row [.int .i64 t.kind, .int .i64 t.value, .str t.text, .int .i64 t.st, .int .i64 t.en, .int .i64 t.ns, .slice [c0.enc, c1.enc] (.tok 2)], .row [.int .i64 0, .int .i64 0, .str [], .int .i64 0, .int .i64 0, .int .i64 0, .slice [] .full], .buf 2 7]) (fun (s : Bool) => s = true ↔ (t.text = [38, 38] ∧ sortV c0 = 2) ∨ (t.text = [124, 124] ∧ sortV c0 = 2)) ?_ ?_ ?_
              · intro s hg
                refine ⟨Nat.zero_le _, ?_, by repeat (first | exact BelL.nil | refine BelL.cons (by first | exact bel_Nd _ _ | exact Nd.bel _ _ | exact bel_nd_tok _ (by simp) | exact bel_nd_tok [c0, c1] (by simp) | exact bel_Nd _ _ | exact Nd.bel _ _ | exact Bel.int _ _ | exact Bel.bool _ | exact Bel.str _ | exact Bel.nilp | exact Bel.nilfn | exact Bel.optr _ _ (by simp) | exact bel_nil0 _ | exact bel_nil1 _ | exact bel_fn0 _ _ | assumption) ?_)⟩
                repeat (first | exact hbel_nil _ | exact trivial | exact obel_row_nil _ | (refine HBel.cons ?_ ?_) | (refine obel_row_cons (by first | exact bel_Nd _ _ | exact Nd.bel _ _ | exact bel_nd_tok _ (by simp) | exact bel_nd_tok [c0, c1] (by simp) | exact bel_Nd _ _ | exact Nd.bel _ _ | exact Bel.int _ _ | exact Bel.bool _ | exact Bel.str _ | exact Bel.nilp | exact Bel.nilfn | exact Bel.optr _ _ (by simp) | exact bel_nil0 _ | exact bel_nil1 _ | exact bel_fn0 _ _ | assumption) ?_))
              · -- to the meeting
                repeat (refine awp_seq ?_)
                refine awp_cond rfl (by simp only [LS, SS, SX, HS, mkS_cons, mkS_nil, ↓reduceIte, eq_self', List.map_nil, beq_self_eq_true, Nat.reduceEqDiff, Nat.reduceAdd, Nat.succ_ne_self, vint, NdS, NdF, Int.cast_ofNat_Int, Int.reduceLT, Int.reduceLE, Int.reduceEq, Int.toNat_one, Int.toNat_zero, Int.reduceToNat, Int.reduceNeg, decide_true, decide_false, Int.natCast_one] <;> with_reducible rfl) (fun b7 => ?_) (fun b7 => ?_)
                · -- if t119
                  repeat (refine awp_seq ?_)
                  refine awp_skip ?_
                  -- leaf 8 join21
                  exact ⟨_, [], ⟨(by first | rfl | (simp only [LS, SS, SX, HS, mkS_cons, mkS_nil, ↓reduceIte, eq_self', List.map_nil, beq_self_eq_true, Nat.reduceEqDiff, Nat.reduceAdd, Nat.succ_ne_self, vint, NdS, NdF, Int.cast_ofNat_Int, Int.reduceLT, Int.reduceLE, Int.reduceEq, Int.toNat_one, Int.toNat_zero, Int.reduceToNat, Int.reduceNeg, decide_true, decide_false, Int.natCast_one] <;> first | done | with_reducible rfl)), (by first | rfl | (simp only [LS, SS, SX, HS, mkS_cons, mkS_nil, ↓reduceIte, eq_self', List.map_nil, beq_self_eq_true, Nat.reduceEqDiff, Nat.reduceAdd, Nat.succ_ne_self, vint, NdS, NdF, Int.cast_ofNat_Int, Int.reduceLT, Int.reduceLE, Int.reduceEq, Int.toNat_one, Int.toNat_zero, Int.reduceToNat, Int.reduceNeg, decide_true, decide_false, Int.natCast_one] <;> first | done | with_reducible rfl)), (by first | rfl | (simp only [LS, SS, SX, HS, mkS_cons, mkS_nil, ↓reduceIte, eq_self', List.map_nil, beq_self_eq_true, Nat.reduceEqDiff, Nat.reduceAdd, Nat.succ_ne_self, vint, NdS, NdF, Int.cast_ofNat_Int, Int.reduceLT, Int.reduceLE, Int.reduceEq, Int.toNat_one, Int.toNat_zero, Int.reduceToNat, Int.reduceNeg, decide_true, decide_false, Int.natCast_one] <;> first | done | with_reducible rfl)), (by first | rfl | (simp only [LS, SS, SX, HS, mkS_cons, mkS_nil, ↓reduceIte, eq_self', List.map_nil, beq_self_eq_true, Nat.reduceEqDiff, Nat.reduceAdd, Nat.succ_ne_self, vint, NdS, NdF, Int.cast_ofNat_Int, Int.reduceLT, Int.reduceLE, Int.reduceEq, Int.toNat_one, Int.toNat_zero, Int.reduceToNat, Int.reduceNeg, decide_true, decide_false, Int.natCast_one] <;> first | done | with_reducible rfl)), (by first | rfl | (simp only [LS, SS, SX, HS, mkS_cons, mkS_nil, ↓reduceIte, eq_self', List.map_nil, beq_self_eq_true, Nat.reduceEqDiff, Nat.reduceAdd, Nat.succ_ne_self, vint, NdS, NdF, Int.cast_ofNat_Int, Int.reduceLT, Int.reduceLE, Int.reduceEq, Int.toNat_one, Int.toNat_zero, Int.reduceToNat, Int.reduceNeg, decide_true, decide_false, Int.natCast_one] <;> first | done | with_reducible rfl)), (by first | rfl | (simp only [LS, SS, SX, HS, mkS_cons, mkS_nil, ↓reduceIte, eq_self', List.map_nil, beq_self_eq_true, Nat.reduceEqDiff, Nat.reduceAdd, Nat.succ_ne_self, vint, NdS, NdF, Int.cast_ofNat_Int, Int.reduceLT, Int.reduceLE, Int.reduceEq, Int.toNat_one, Int.toNat_zero, Int.reduceToNat, Int.reduceNeg, decide_true, decide_false, Int.natCast_one] <;> first | done | with_reducible rfl)), (by first | rfl | (simp only [LS, SS, SX, HS, mkS_cons, mkS_nil, ↓reduceIte, eq_self', List.map_nil, beq_self_eq_true, Nat.reduceEqDiff, Nat.reduceAdd, Nat.succ_ne_self, vint, NdS, NdF, Int.cast_ofNat_Int, Int.reduceLT, Int.reduceLE, Int.reduceEq, Int.toNat_one, Int.toNat_zero, Int.reduceToNat, Int.reduceNeg, decide_true, decide_false, Int.natCast_one] <;> first | done | with_reducible rfl)), (by first | rfl | (simp only [LS, SS, SX, HS, mkS_cons, mkS_nil, ↓reduceIte, eq_self', List.map_nil, beq_self_eq_true, Nat.reduceEqDiff, Nat.reduceAdd, Nat.succ_ne_self, vint, NdS, NdF, Int.cast_ofNat_Int, Int.reduceLT, Int.reduceLE, Int.reduceEq, Int.toNat_one, Int.toNat_zero, Int.reduceToNat, Int.reduceNeg, decide_true, decide_false, Int.natCast_one] <;> first | done | with_reducible rfl)), trivial⟩, (List.append_nil _).symm, by grind⟩
                · -- else t119
                  -- region 22
                  repeat (refine awp_seq ?_)
                  refine g_eval (by simp only [gsq, gs0, gs1, gs2, gcond, gop, SG, Op.operands, Call.operands, Array.toList_append, aop, afldAddr, ajust, aload, abin, LS, SS, SX, HS, mkS_cons, mkS_nil, ↓reduceIte, eq_self', List.map_nil, beq_self_eq_true, Nat.reduceEqDiff, Nat.reduceAdd, Nat.reduceMul, Nat.reduceLT, Nat.reduceLeDiff, Nat.reducePow, Nat.reduceDiv, Nat.reduceMod, Nat.succ_ne_self, Nat.reduceBEq, Nat.reduceBNe, Tryti3, Trytz3, Trytp3, Trytk3, Tryti9, Trytz9, Trytp9, Tryts9, Tryti24, Trytf24, Trytz24, Trytp24, vint, NdS, NdF, Int.cast_ofNat_Int, Int.reduceLT, Int.reduceLE, Int.reduceEq, Int.toNat_one, Int.toNat_zero, Int.reduceToNat, Int.reduceNeg, decide_true, decide_false, Int.natCast_one] <;> with_reducible rfl) (by decide) (by repeat (first | exact Fin.base _ | with_reducible apply Fin.keep | apply Fin.drop)) ?_
                  -- leaf 9 join21
                  exact ⟨_, [], ⟨(by first | rfl | (simp only [LS, SS, SX, HS, mkS_cons, mkS_nil, ↓reduceIte, eq_self', List.map_nil, beq_self_eq_true, Nat.reduceEqDiff, Nat.reduceAdd, Nat.succ_ne_self, vint, NdS, NdF, Int.cast_ofNat_Int, Int.reduceLT, Int.reduceLE, Int.reduceEq, Int.toNat_one, Int.toNat_zero, Int.reduceToNat, Int.reduceNeg, decide_true, decide_false, Int.natCast_one] <;> first | done | with_reducible rfl)), (by first | rfl | (simp only [LS, SS, SX, HS, mkS_cons, mkS_nil, ↓reduceIte, eq_self', List.map_nil, beq_self_eq_true, Nat.reduceEqDiff, Nat.reduceAdd, Nat.succ_ne_self, vint, NdS, NdF, Int.cast_ofNat_Int, Int.reduceLT, Int.reduceLE, Int.reduceEq, Int.toNat_one, Int.toNat_zero, Int.reduceToNat, Int.reduceNeg, decide_true, decide_false, Int.natCast_one] <;> first | done | with_reducible rfl)), (by first | rfl | (simp only [LS, SS, SX, HS, mkS_cons, mkS_nil, ↓reduceIte, eq_self', List.map_nil, beq_self_eq_true, Nat.reduceEqDiff, Nat.reduceAdd, Nat.succ_ne_self, vint, NdS, NdF, Int.cast_ofNat_Int, Int.reduceLT, Int.reduceLE, Int.reduceEq, Int.toNat_one, Int.toNat_zero, Int.reduceToNat, Int.reduceNeg, decide_true, decide_false, Int.natCast_one] <;> first | done | with_reducible rfl)), (by first | rfl | (simp only [LS, SS, SX, HS, mkS_cons, mkS_nil, ↓reduceIte, eq_self', List.map_nil, beq_self_eq_true, Nat.reduceEqDiff, Nat.reduceAdd, Nat.succ_ne_self, vint, NdS, NdF, Int.cast_ofNat_Int, Int.reduceLT, Int.reduceLE, Int.reduceEq, Int.toNat_one, Int.toNat_zero, Int.reduceToNat, Int.reduceNeg, decide_true, decide_false, Int.natCast_one] <;> first | done | with_reducible rfl)), (by first | rfl | (simp only [LS, SS, SX, HS, mkS_cons, mkS_nil, ↓reduceIte, eq_self', List.map_nil, beq_self_eq_true, Nat.reduceEqDiff, Nat.reduceAdd, Nat.succ_ne_self, vint, NdS, NdF, Int.cast_ofNat_Int, Int.reduceLT, Int.reduceLE, Int.reduceEq, Int.toNat_one, Int.toNat_zero, Int.reduceToNat, Int.reduceNeg, decide_true, decide_false, Int.natCast_one] <;> first | done | with_reducible rfl)), (by first | rfl | (simp only [LS, SS, SX, HS, mkS_cons, mkS_nil, ↓reduceIte, eq_self', List.map_nil, beq_self_eq_true, Nat.reduceEqDiff, Nat.reduceAdd, Nat.succ_ne_self, vint, NdS, NdF, Int.cast_ofNat_Int, Int.reduceLT, Int.reduceLE, Int.reduceEq, Int.toNat_one, Int.toNat_zero, Int.reduceToNat, Int.reduceNeg, decide_true, decide_false, Int.natCast_one] <;> first | done | with_reducible rfl)), (by first | rfl | (simp only [LS, SS, SX, HS, mkS_cons, mkS_nil, ↓reduceIte, eq_self', List.map_nil, beq_self_eq_true, Nat.reduceEqDiff, Nat.reduceAdd, Nat.succ_ne_self, vint, NdS, NdF, Int.cast_ofNat_Int, Int.reduceLT, Int.reduceLE, Int.reduceEq, Int.toNat_one, Int.toNat_zero, Int.reduceToNat, Int.reduceNeg, decide_true, decide_false, Int.natCast_one] <;> first | done | with_reducible rfl)), (by first | rfl | (simp only [LS, SS, SX, HS, mkS_cons, mkS_nil, ↓reduceIte, eq_self', List.map_nil, beq_self_eq_true, Nat.reduceEqDiff, Nat.reduceAdd, Nat.succ_ne_self, vint, NdS, NdF, Int.cast_ofNat_Int, Int.reduceLT, Int.reduceLE, Int.reduceEq, Int.toNat_one, Int.toNat_zero, Int.reduceToNat, Int.reduceNeg, decide_true, decide_false, Int.natCast_one] <;> first | done | with_reducible rfl)), trivial⟩, (List.append_nil _).symm, by grind⟩
              · intro s hg
                repeat (refine awp_seq ?_)
                refine awp_cond rfl (by simp only [LS, SS, SX, HS, mkS_cons, mkS_nil, ↓reduceIte, eq_self', List.map_nil, beq_self_eq_true, Nat.reduceEqDiff, Nat.reduceAdd, Nat.succ_ne_self, vint, NdS, NdF, Int.cast_ofNat_Int, Int.reduceLT, Int.reduceLE, Int.reduceEq, Int.toNat_one, Int.toNat_zero, Int.reduceToNat, Int.reduceNeg, decide_true, decide_false, Int.natCast_one] <;> with_reducible rfl) (fun b8 => ?_) (fun b8 => ?_)
                · -- if t119
                  -- region 23
                  repeat (refine awp_seq ?_)
                  refine awp_region ?_
                  refine e_take 2 (by simp only [asq, as0, as1, as2, awanted, aop, aload, ajust, LS, SS, SX, HS, mkS_cons, mkS_nil, ↓reduceIte, eq_self', List.map_nil, beq_self_eq_true, Nat.reduceEqDiff, Nat.reduceAdd, Nat.reduceMul, Nat.reduceLT, Nat.reduceLeDiff, Nat.reducePow, Nat.reduceDiv, Nat.reduceMod, Nat.succ_ne_self, Nat.reduceBEq, Nat.reduceBNe, Tryti24, Trytf24, Trytz24, Trytp24, vint, NdS, NdF, Int.cast_ofNat_Int, Int.reduceLT, Int.reduceLE, Int.reduceEq, Int.toNat_one, Int.toNat_zero, Int.reduceToNat, Int.reduceNeg, decide_true, decide_false, Int.natCast_one] <;> with_reducible rfl) (by decide) ?_
                  refine aops_pure (by simp only [acall, awanted, LS, SS, SX, HS, mkS_cons, mkS_nil, ↓reduceIte, eq_self', List.map_nil, beq_self_eq_true, Nat.reduceEqDiff, Nat.reduceAdd, Nat.reduceMul, Nat.reduceLT, Nat.reduceLeDiff, Nat.reducePow, Nat.reduceDiv, Nat.reduceMod, Nat.succ_ne_self, Nat.reduceBEq, Nat.reduceBNe, vint, NdS, NdF, Int.cast_ofNat_Int, Int.reduceLT, Int.reduceLE, Int.reduceEq, Int.toNat_one, Int.toNat_zero, Int.reduceToNat, Int.reduceNeg, decide_true, decide_false, Int.natCast_one] <;> with_reducible rfl) (by simp only [acall, awanted, LS, SS, SX, HS, mkS_cons, mkS_nil, ↓reduceIte, eq_self', List.map_nil, beq_self_eq_true, Nat.reduceEqDiff, Nat.reduceAdd, Nat.reduceMul, Nat.reduceLT, Nat.reduceLeDiff, Nat.reducePow, Nat.reduceDiv, Nat.reduceMod, Nat.succ_ne_self, Nat.reduceBEq, Nat.reduceBNe, vint, NdS, NdF, Int.cast_ofNat_Int, Int.reduceLT, Int.reduceLE, Int.reduceEq, Int.toNat_one, Int.toNat_zero, Int.reduceToNat, Int.reduceNeg, decide_true, decide_false, Int.natCast_one]) (by decide) Trygo21 (literal_c (Nd.mk t.kind t.value t.text t.st t.en t.ns [c0, c1]) (litV c0).1 2 (by omega) (by omega) _) ?_
                  refine e_end (by simp only [asq, as0, as1, as2, awanted, aop, astore, splice, LS, SS, SX, HS, mkS_cons, mkS_nil, ↓reduceIte, eq_self', List.map_nil, beq_self_eq_true, Nat.reduceEqDiff, Nat.reduceAdd, Nat.reduceMul, Nat.reduceLT, Nat.reduceLeDiff, Nat.reducePow, Nat.reduceDiv, Nat.reduceMod, Nat.succ_ne_self, Nat.reduceBEq, Nat.reduceBNe, Tryti24, Trytf24, Trytz24, Trytp24, vint, NdS, NdF, Int.cast_ofNat_Int, Int.reduceLT, Int.reduceLE, Int.reduceEq, Int.toNat_one, Int.toNat_zero, Int.reduceToNat, Int.reduceNeg, decide_true, decide_false, Int.natCast_one] <;> with_reducible rfl) (by decide) ?_
                  repeat (refine awp_seq ?_)
                  -- leaf 10 ret
                  refine awp_ret ⟨.inr rfl, _, (ares_cell 2 24 rfl Tryti24 (by decide) (by simp only [aload, LS, SS, SX, HS, mkS_cons, mkS_nil, ↓reduceIte, eq_self', List.map_nil, beq_self_eq_true, Nat.reduceEqDiff, Nat.reduceAdd, Nat.reduceMul, Nat.reduceLT, Nat.reduceLeDiff, Nat.reducePow, Nat.reduceDiv, Nat.reduceMod, Nat.succ_ne_self, Nat.reduceBEq, Nat.reduceBNe, vint, NdS, NdF, Int.cast_ofNat_Int, Int.reduceLT, Int.reduceLE, Int.reduceEq, Int.toNat_one, Int.toNat_zero, Int.reduceToNat, Int.reduceNeg, decide_true, decide_false, Int.natCast_one] <;> with_reducible rfl)), ?_⟩
                  first | (refine (Nd.enc_drop1 _).trans (congrArg Nd.enc ?_)) | (simp only [NdF, d1_agg, LS]; refine (Nd.enc_drop1 _).trans (congrArg Nd.enc ?_))
                  rw [hst]
                  have ht : (Nd.mk t.kind t.value t.text t.st t.en t.ns [c0, c1]).text = t.text := rfl
                  clear hst hf
                  generalize (Nd.mk t.kind t.value t.text t.st t.en t.ns [c0, c1]) = m at ht ⊢
                  clear w1 w2 w3 w4 hd hd2 hm hr0 hr1 hlen hw b0
                  unfold refBin rangeN
                  grind
                · -- else t119
                  -- region 24
                  repeat (refine awp_seq ?_)
                  refine g_eval (by simp only [gsq, gs0, gs1, gs2, gcond, gop, SG, Op.operands, Call.operands, Array.toList_append, aop, abin, ajust, LS, SS, SX, HS, mkS_cons, mkS_nil, ↓reduceIte, eq_self', List.map_nil, beq_self_eq_true, Nat.reduceEqDiff, Nat.reduceAdd, Nat.reduceMul, Nat.reduceLT, Nat.reduceLeDiff, Nat.reducePow, Nat.reduceDiv, Nat.reduceMod, Nat.succ_ne_self, Nat.reduceBEq, Nat.reduceBNe, Tryti3, Trytz3, Trytp3, Trytk3, vint, NdS, NdF, Int.cast_ofNat_Int, Int.reduceLT, Int.reduceLE, Int.reduceEq, Int.toNat_one, Int.toNat_zero, Int.reduceToNat, Int.reduceNeg, decide_true, decide_false, Int.natCast_one] <;> with_reducible rfl) (by decide) (by repeat (first | exact Fin.base _ | with_reducible apply Fin.keep | apply Fin.drop)) ?_
                  repeat (refine awp_seq ?_)
                  refine awp_cond rfl (by simp only [LS, SS, SX, HS, mkS_cons, mkS_nil, ↓reduceIte, eq_self', List.map_nil, beq_self_eq_true, Nat.reduceEqDiff, Nat.reduceAdd, Nat.succ_ne_self, vint, NdS, NdF, Int.cast_ofNat_Int, Int.reduceLT, Int.reduceLE, Int.reduceEq, Int.toNat_one, Int.toNat_zero, Int.reduceToNat, Int.reduceNeg, decide_true, decide_false, Int.natCast_one] <;> with_reducible rfl) (fun b9 => ?_) (fun b9 => ?_)
                  · -- if t137
                    -- region 25
                    repeat (refine awp_seq ?_)
                    refine e_eval (by simp only [asq, as0, as1, as2, awanted, aop, aload, ajust, astore, splice, LS, SS, SX, HS, mkS_cons, mkS_nil, ↓reduceIte, eq_self', List.map_nil, beq_self_eq_true, Nat.reduceEqDiff, Nat.reduceAdd, Nat.reduceMul, Nat.reduceLT, Nat.reduceLeDiff, Nat.reducePow, Nat.reduceDiv, Nat.reduceMod, Nat.succ_ne_self, Nat.reduceBEq, Nat.reduceBNe, Tryti24, Trytf24, Trytz24, Trytp24, vint, NdS, NdF, Int.cast_ofNat_Int, Int.reduceLT, Int.reduceLE, Int.reduceEq, Int.toNat_one, Int.toNat_zero, Int.reduceToNat, Int.reduceNeg, decide_true, decide_false, Int.natCast_one] <;> with_reducible rfl) (by decide) ?_
                    repeat (refine awp_seq ?_)
                    -- leaf 11 ret
                    refine awp_ret ⟨.inr rfl, _, (ares_cell 2 24 rfl Tryti24 (by decide) (by simp only [aload, LS, SS, SX, HS, mkS_cons, mkS_nil, ↓reduceIte, eq_self', List.map_nil, beq_self_eq_true, Nat.reduceEqDiff, Nat.reduceAdd, Nat.reduceMul, Nat.reduceLT, Nat.reduceLeDiff, Nat.reducePow, Nat.reduceDiv, Nat.reduceMod, Nat.succ_ne_self, Nat.reduceBEq, Nat.reduceBNe, vint, NdS, NdF, Int.cast_ofNat_Int, Int.reduceLT, Int.reduceLE, Int.reduceEq, Int.toNat_one, Int.toNat_zero, Int.reduceToNat, Int.reduceNeg, decide_true, decide_false, Int.natCast_one] <;> with_reducible rfl)), ?_⟩
                    first | (refine (Nd.enc_drop1 _).trans (congrArg Nd.enc ?_)) | (simp only [NdF, d1_agg, LS]; refine (Nd.enc_drop1 _).trans (congrArg Nd.enc ?_))
                    rw [hst]
                    have ht : (Nd.mk t.kind t.value t.text t.st t.en t.ns [c0, c1]).text = t.text := rfl
                    clear hst hf
                    generalize (Nd.mk t.kind t.value t.text t.st t.en t.ns [c0, c1]) = m at ht ⊢
                    clear w1 w2 w3 w4 hd hd2 hm hr0 hr1 hlen hw b0
                    unfold refBin rangeN
                    grind
                  · -- else t137
                    -- region 26
                    repeat (refine awp_seq ?_)
                    refine e_eval (by simp only [asq, as0, as1, as2, awanted, aop, afldAddr, ajust, aload, abin, LS, SS, SX, HS, mkS_cons, mkS_nil, ↓reduceIte, eq_self', List.map_nil, beq_self_eq_true, Nat.reduceEqDiff, Nat.reduceAdd, Nat.reduceMul, Nat.reduceLT, Nat.reduceLeDiff, Nat.reducePow, Nat.reduceDiv, Nat.reduceMod, Nat.succ_ne_self, Nat.reduceBEq, Nat.reduceBNe, Tryti9, Trytz9, Trytp9, Tryts9, Tryti24, Trytf24, Trytz24, Trytp24, vint, NdS, NdF, Int.cast_ofNat_Int, Int.reduceLT, Int.reduceLE, Int.reduceEq, Int.toNat_one, Int.toNat_zero, Int.reduceToNat, Int.reduceNeg, decide_true, decide_false, Int.natCast_one] <;> with_reducible rfl) (by decide) ?_
                    repeat (refine awp_seq ?_)
                    refine awp_cond rfl (by simp only [LS, SS, SX, HS, mkS_cons, mkS_nil, ↓reduceIte, eq_self', List.map_nil, beq_self_eq_true, Nat.reduceEqDiff, Nat.reduceAdd, Nat.succ_ne_self, vint, NdS, NdF, Int.cast_ofNat_Int, Int.reduceLT, Int.reduceLE, Int.reduceEq, Int.toNat_one, Int.toNat_zero, Int.reduceToNat, Int.reduceNeg, decide_true, decide_false, Int.natCast_one] <;> with_reducible rfl) (fun b10 => ?_) (fun b10 => ?_)
                    · -- if t146
                      -- region 27
                      repeat (refine awp_seq ?_)
                      refine awp_draw 0 (by kernel_rfl) ?_
                      refine d_take (bm := [0, 0, 0, 6, 14, 31, 63]) 4 (fresh := 0) (by kernel_rfl) (by simp only [dsq, ds0, ds1, ds2, ds3, awanted, hapB, effIds, effSet, nextFresh, ard, freshOk, isUnborn, aop, aload, ajust, abin, LS, SS, SX, HS, mkS_cons, mkS_nil, ↓reduceIte, eq_self', List.map_nil, beq_self_eq_true, Nat.reduceEqDiff, Nat.reduceAdd, Nat.reduceMul, Nat.reduceLT, Nat.reduceLeDiff, Nat.reducePow, Nat.reduceDiv, Nat.reduceMod, Nat.succ_ne_self, Nat.reduceBEq, Nat.reduceBNe, Tryti3, Trytz3, Trytp3, Trytk3, Tryti24, Trytf24, Trytz24, Trytp24, vint, NdS, NdF, Int.cast_ofNat_Int, Int.reduceLT, Int.reduceLE, Int.reduceEq, Int.toNat_one, Int.toNat_zero, Int.reduceToNat, Int.reduceNeg, decide_true, decide_false, Int.natCast_one] <;> with_reducible rfl) (by decide) (by decide) ?_
                      refine dops_keep (bm := [0, 0, 0, 6, 14, 31, 63]) ([]) (by kernel_rfl) (by simp only [acall, awanted, LS, SS, SX, HS, mkS_cons, mkS_nil, ↓reduceIte, eq_self', List.map_nil, beq_self_eq_true, Nat.reduceEqDiff, Nat.reduceAdd, Nat.reduceMul, Nat.reduceLT, Nat.reduceLeDiff, Nat.reducePow, Nat.reduceDiv, Nat.reduceMod, Nat.succ_ne_self, Nat.reduceBEq, Nat.reduceBNe, vint, NdS, NdF, Int.cast_ofNat_Int, Int.reduceLT, Int.reduceLE, Int.reduceEq, Int.toNat_one, Int.toNat_zero, Int.reduceToNat, Int.reduceNeg, decide_true, decide_false, Int.natCast_one] <;> with_reducible rfl) (by simp only [acall, awanted, LS, SS, SX, HS, mkS_cons, mkS_nil, ↓reduceIte, eq_self', List.map_nil, beq_self_eq_true, Nat.reduceEqDiff, Nat.reduceAdd, Nat.reduceMul, Nat.reduceLT, Nat.reduceLeDiff, Nat.reducePow, Nat.reduceDiv, Nat.reduceMod, Nat.succ_ne_self, Nat.reduceBEq, Nat.reduceBNe, vint, NdS, NdF, Int.cast_ofNat_Int, Int.reduceLT, Int.reduceLE, Int.reduceEq, Int.toNat_one, Int.toNat_zero, Int.reduceToNat, Int.reduceNeg, decide_true, decide_false, Int.natCast_one]) (by decide) Trygo22 (fun H' _ => asBit (decide ((litV c0).1 = (litV c1).1)) H') (by simp only [dsq, ds0, ds1, ds2, ds3, awanted, hapB, effIds, effSet, nextFresh, ard, freshOk, isUnborn, aop, LS, SS, SX, HS, mkS_cons, mkS_nil, ↓reduceIte, eq_self', List.map_nil, beq_self_eq_true, Nat.reduceEqDiff, Nat.reduceAdd, Nat.reduceMul, Nat.reduceLT, Nat.reduceLeDiff, Nat.reducePow, Nat.reduceDiv, Nat.reduceMod, Nat.succ_ne_self, Nat.reduceBEq, Nat.reduceBNe, vint, NdS, NdF, Int.cast_ofNat_Int, Int.reduceLT, Int.reduceLE, Int.reduceEq, Int.toNat_one, Int.toNat_zero, Int.reduceToNat, Int.reduceNeg, decide_true, decide_false, Int.natCast_one] <;> first | done | rfl) ?_
                      refine dops_keep (bm := [0, 0, 0, 6, 14, 31, 63]) ([]) (by kernel_rfl) (by simp only [acall, awanted, LS, SS, SX, HS, mkS_cons, mkS_nil, ↓reduceIte, eq_self', List.map_nil, beq_self_eq_true, Nat.reduceEqDiff, Nat.reduceAdd, Nat.reduceMul, Nat.reduceLT, Nat.reduceLeDiff, Nat.reducePow, Nat.reduceDiv, Nat.reduceMod, Nat.succ_ne_self, Nat.reduceBEq, Nat.reduceBNe, vint, NdS, NdF, Int.cast_ofNat_Int, Int.reduceLT, Int.reduceLE, Int.reduceEq, Int.toNat_one, Int.toNat_zero, Int.reduceToNat, Int.reduceNeg, decide_true, decide_false, Int.natCast_one] <;> with_reducible rfl) (by simp only [acall, awanted, LS, SS, SX, HS, mkS_cons, mkS_nil, ↓reduceIte, eq_self', List.map_nil, beq_self_eq_true, Nat.reduceEqDiff, Nat.reduceAdd, Nat.reduceMul, Nat.reduceLT, Nat.reduceLeDiff, Nat.reducePow, Nat.reduceDiv, Nat.reduceMod, Nat.succ_ne_self, Nat.reduceBEq, Nat.reduceBNe, vint, NdS, NdF, Int.cast_ofNat_Int, Int.reduceLT, Int.reduceLE, Int.reduceEq, Int.toNat_one, Int.toNat_zero, Int.reduceToNat, Int.reduceNeg, decide_true, decide_false, Int.natCast_one]) (by decide) Trygo21 (fun H' _ => literal_c (Nd.mk t.kind t.value t.text t.st t.en t.ns [c0, c1]) (if decide ((litV c0).1 = (litV c1).1) = true then 1 else 0) 2 (by split <;> omega) (by split <;> omega) H') (by simp only [dsq, ds0, ds1, ds2, ds3, awanted, hapB, effIds, effSet, nextFresh, ard, freshOk, isUnborn, aop, LS, SS, SX, HS, mkS_cons, mkS_nil, ↓reduceIte, eq_self', List.map_nil, beq_self_eq_true, Nat.reduceEqDiff, Nat.reduceAdd, Nat.reduceMul, Nat.reduceLT, Nat.reduceLeDiff, Nat.reducePow, Nat.reduceDiv, Nat.reduceMod, Nat.succ_ne_self, Nat.reduceBEq, Nat.reduceBNe, vint, NdS, NdF, Int.cast_ofNat_Int, Int.reduceLT, Int.reduceLE, Int.reduceEq, Int.toNat_one, Int.toNat_zero, Int.reduceToNat, Int.reduceNeg, decide_true, decide_false, Int.natCast_one] <;> first | done | rfl) ?_
                      refine d_end (bm := [0, 0, 0, 6, 14, 31, 63]) (fresh := 0) (by kernel_rfl) (by simp only [dsq, ds0, ds1, ds2, ds3, awanted, hapB, effIds, effSet, nextFresh, ard, freshOk, isUnborn, aop, astore, splice, LS, SS, SX, HS, mkS_cons, mkS_nil, ↓reduceIte, eq_self', List.map_nil, beq_self_eq_true, Nat.reduceEqDiff, Nat.reduceAdd, Nat.reduceMul, Nat.reduceLT, Nat.reduceLeDiff, Nat.reducePow, Nat.reduceDiv, Nat.reduceMod, Nat.succ_ne_self, Nat.reduceBEq, Nat.reduceBNe, Tryti24, Trytf24, Trytz24, Trytp24, vint, NdS, NdF, Int.cast_ofNat_Int, Int.reduceLT, Int.reduceLE, Int.reduceEq, Int.toNat_one, Int.toNat_zero, Int.reduceToNat, Int.reduceNeg, decide_true, decide_false, Int.natCast_one] <;> with_reducible rfl) (by decide) ?_
                      repeat (refine awp_seq ?_)
                      -- leaf 12 ret
                      refine awp_ret ⟨.inr rfl, _, (ares_cell 2 24 rfl Tryti24 (by decide) (by simp only [aload, LS, SS, SX, HS, mkS_cons, mkS_nil, ↓reduceIte, eq_self', List.map_nil, beq_self_eq_true, Nat.reduceEqDiff, Nat.reduceAdd, Nat.reduceMul, Nat.reduceLT, Nat.reduceLeDiff, Nat.reducePow, Nat.reduceDiv, Nat.reduceMod, Nat.succ_ne_self, Nat.reduceBEq, Nat.reduceBNe, vint, NdS, NdF, Int.cast_ofNat_Int, Int.reduceLT, Int.reduceLE, Int.reduceEq, Int.toNat_one, Int.toNat_zero, Int.reduceToNat, Int.reduceNeg, decide_true, decide_false, Int.natCast_one] <;> with_reducible rfl)), ?_⟩
                      first | (refine (Nd.enc_drop1 _).trans (congrArg Nd.enc ?_)) | (simp only [NdF, d1_agg, LS]; refine (Nd.enc_drop1 _).trans (congrArg Nd.enc ?_))
                      rw [hst]
                      have ht : (Nd.mk t.kind t.value t.text t.st t.en t.ns [c0, c1]).text = t.text := rfl
                      clear hst hf
                      generalize (Nd.mk t.kind t.value t.text t.st t.en t.ns [c0, c1]) = m at ht ⊢
                      clear w1 w2 w3 w4 hd hd2 hm hr0 hr1 hlen hw b0
                      simp at b9
                      unfold refBin rangeN
                      grind
                    · -- else t146
                      -- region 28
                      repeat (refine awp_seq ?_)
                      refine e_eval (by simp only [asq, as0, as1, as2, awanted, aop, abin, ajust, LS, SS, SX, HS, mkS_cons, mkS_nil, ↓reduceIte, eq_self', List.map_nil, beq_self_eq_true, Nat.reduceEqDiff, Nat.reduceAdd, Nat.reduceMul, Nat.reduceLT, Nat.reduceLeDiff, Nat.reducePow, Nat.reduceDiv, Nat.reduceMod, Nat.succ_ne_self, Nat.reduceBEq, Nat.reduceBNe, Tryti3, Trytz3, Trytp3, Trytk3, vint, NdS, NdF, Int.cast_ofNat_Int, Int.reduceLT, Int.reduceLE, Int.reduceEq, Int.toNat_one, Int.toNat_zero, Int.reduceToNat, Int.reduceNeg, decide_true, decide_false, Int.natCast_one] <;> with_reducible rfl) (by decide) ?_
                      repeat (refine awp_seq ?_)
                      refine awp_cond rfl (by simp only [LS, SS, SX, HS, mkS_cons, mkS_nil, ↓reduceIte, eq_self', List.map_nil, beq_self_eq_true, Nat.reduceEqDiff, Nat.reduceAdd, Nat.succ_ne_self, vint, NdS, NdF, Int.cast_ofNat_Int, Int.reduceLT, Int.reduceLE, Int.reduceEq, Int.toNat_one, Int.toNat_zero, Int.reduceToNat, Int.reduceNeg, decide_true, decide_false, Int.natCast_one] <;> with_reducible rfl) (fun b11 => ?_) (fun b11 => ?_)
                      · -- if t156
                        refine awp_sel [1, 2] (by simp only [LS, SS, SX, HS, mkS_cons, mkS_nil, ↓reduceIte, eq_self', List.map_nil, beq_self_eq_true, Nat.reduceEqDiff, Nat.reduceAdd, Nat.succ_ne_self, vint, NdS, NdF, Int.cast_ofNat_Int, Int.reduceLT, Int.reduceLE, Int.reduceEq, Int.toNat_one, Int.toNat_zero, Int.reduceToNat, Int.reduceNeg, decide_true, decide_false, Int.natCast_one] <;> with_reducible rfl) ?_
                        -- region 29
                        repeat (refine awp_seq ?_)
                        refine e_eval (by simp only [asq, as0, as1, as2, awanted, aop, aload, ajust, astore, splice, LS, SS, SX, HS, mkS_cons, mkS_nil, ↓reduceIte, eq_self', List.map_nil, beq_self_eq_true, Nat.reduceEqDiff, Nat.reduceAdd, Nat.reduceMul, Nat.reduceLT, Nat.reduceLeDiff, Nat.reducePow, Nat.reduceDiv, Nat.reduceMod, Nat.succ_ne_self, Nat.reduceBEq, Nat.reduceBNe, Tryti24, Trytf24, Trytz24, Trytp24, vint, NdS, NdF, Int.cast_ofNat_Int, Int.reduceLT, Int.reduceLE, Int.reduceEq, Int.toNat_one, Int.toNat_zero, Int.reduceToNat, Int.reduceNeg, decide_true, decide_false, Int.natCast_one] <;> with_reducible rfl) (by decide) ?_
                        repeat (refine awp_seq ?_)
                        -- leaf 13 ret
                        refine awp_ret ⟨.inr rfl, _, (ares_cell 2 24 rfl Tryti24 (by decide) (by simp only [aload, LS, SS, SX, HS, mkS_cons, mkS_nil, ↓reduceIte, eq_self', List.map_nil, beq_self_eq_true, Nat.reduceEqDiff, Nat.reduceAdd, Nat.reduceMul, Nat.reduceLT, Nat.reduceLeDiff, Nat.reducePow, Nat.reduceDiv, Nat.reduceMod, Nat.succ_ne_self, Nat.reduceBEq, Nat.reduceBNe, vint, NdS, NdF, Int.cast_ofNat_Int, Int.reduceLT, Int.reduceLE, Int.reduceEq, Int.toNat_one, Int.toNat_zero, Int.reduceToNat, Int.reduceNeg, decide_true, decide_false, Int.natCast_one] <;> with_reducible rfl)), ?_⟩
                        first | (refine (Nd.enc_drop1 _).trans (congrArg Nd.enc ?_)) | (simp only [NdF, d1_agg, LS]; refine (Nd.enc_drop1 _).trans (congrArg Nd.enc ?_))
                        rw [hst]
                        have ht : (Nd.mk t.kind t.value t.text t.st t.en t.ns [c0, c1]).text = t.text := rfl
                        clear hst hf
                        generalize (Nd.mk t.kind t.value t.text t.st t.en t.ns [c0, c1]) = m at ht ⊢
                        clear w1 w2 w3 w4 hd hd2 hm hr0 hr1 hlen hw b0
                        simp at b9
                        unfold refBin rangeN
                        grind
                      · -- else t156
                        refine awp_sel [1, 2, 8, 10] (by simp only [LS, SS, SX, HS, mkS_cons, mkS_nil, ↓reduceIte, eq_self', List.map_nil, beq_self_eq_true, Nat.reduceEqDiff, Nat.reduceAdd, Nat.succ_ne_self, vint, NdS, NdF, Int.cast_ofNat_Int, Int.reduceLT, Int.reduceLE, Int.reduceEq, Int.toNat_one, Int.toNat_zero, Int.reduceToNat, Int.reduceNeg, decide_true, decide_false, Int.natCast_one] <;> with_reducible rfl) ?_
                        -- region 30
                        repeat (refine awp_seq ?_)
                        refine e_eval (by simp only [asq, as0, as1, as2, awanted, aop, afldAddr, ajust, aload, abin, LS, SS, SX, HS, mkS_cons, mkS_nil, ↓reduceIte, eq_self', List.map_nil, beq_self_eq_true, Nat.reduceEqDiff, Nat.reduceAdd, Nat.reduceMul, Nat.reduceLT, Nat.reduceLeDiff, Nat.reducePow, Nat.reduceDiv, Nat.reduceMod, Nat.succ_ne_self, Nat.reduceBEq, Nat.reduceBNe, Tryti9, Trytz9, Trytp9, Tryts9, Tryti24, Trytf24, Trytz24, Trytp24, vint, NdS, NdF, Int.cast_ofNat_Int, Int.reduceLT, Int.reduceLE, Int.reduceEq, Int.toNat_one, Int.toNat_zero, Int.reduceToNat, Int.reduceNeg, decide_true, decide_false, Int.natCast_one] <;> with_reducible rfl) (by decide) ?_
                        repeat (refine awp_seq ?_)
                        refine awp_cond rfl (by simp only [LS, SS, SX, HS, mkS_cons, mkS_nil, ↓reduceIte, eq_self', List.map_nil, beq_self_eq_true, Nat.reduceEqDiff, Nat.reduceAdd, Nat.succ_ne_self, vint, NdS, NdF, Int.cast_ofNat_Int, Int.reduceLT, Int.reduceLE, Int.reduceEq, Int.toNat_one, Int.toNat_zero, Int.reduceToNat, Int.reduceNeg, decide_true, decide_false, Int.natCast_one] <;> with_reducible rfl) (fun b12 => ?_) (fun b12 => ?_)
                        · -- if t160
                          -- region 31
                          repeat (refine awp_seq ?_)
                          refine awp_draw 0 (by kernel_rfl) ?_
                          refine d_take (bm := [0, 0, 0, 6, 14, 31, 63]) 4 (fresh := 0) (by kernel_rfl) (by simp only [dsq, ds0, ds1, ds2, ds3, awanted, hapB, effIds, effSet, nextFresh, ard, freshOk, isUnborn, aop, aload, ajust, abin, LS, SS, SX, HS, mkS_cons, mkS_nil, ↓reduceIte, eq_self', List.map_nil, beq_self_eq_true, Nat.reduceEqDiff, Nat.reduceAdd, Nat.reduceMul, Nat.reduceLT, Nat.reduceLeDiff, Nat.reducePow, Nat.reduceDiv, Nat.reduceMod, Nat.succ_ne_self, Nat.reduceBEq, Nat.reduceBNe, Tryti3, Trytz3, Trytp3, Trytk3, Tryti24, Trytf24, Trytz24, Trytp24, vint, NdS, NdF, Int.cast_ofNat_Int, Int.reduceLT, Int.reduceLE, Int.reduceEq, Int.toNat_one, Int.toNat_zero, Int.reduceToNat, Int.reduceNeg, decide_true, decide_false, Int.natCast_one] <;> with_reducible rfl) (by decide) (by decide) ?_
                          refine dops_keep (bm := [0, 0, 0, 6, 14, 31, 63]) ([]) (by kernel_rfl) (by simp only [acall, awanted, LS, SS, SX, HS, mkS_cons, mkS_nil, ↓reduceIte, eq_self', List.map_nil, beq_self_eq_true, Nat.reduceEqDiff, Nat.reduceAdd, Nat.reduceMul, Nat.reduceLT, Nat.reduceLeDiff, Nat.reducePow, Nat.reduceDiv, Nat.reduceMod, Nat.succ_ne_self, Nat.reduceBEq, Nat.reduceBNe, vint, NdS, NdF, Int.cast_ofNat_Int, Int.reduceLT, Int.reduceLE, Int.reduceEq, Int.toNat_one, Int.toNat_zero, Int.reduceToNat, Int.reduceNeg, decide_true, decide_false, Int.natCast_one] <;> with_reducible rfl) (by simp only [acall, awanted, LS, SS, SX, HS, mkS_cons, mkS_nil, ↓reduceIte, eq_self', List.map_nil, beq_self_eq_true, Nat.reduceEqDiff, Nat.reduceAdd, Nat.reduceMul, Nat.reduceLT, Nat.reduceLeDiff, Nat.reducePow, Nat.reduceDiv, Nat.reduceMod, Nat.succ_ne_self, Nat.reduceBEq, Nat.reduceBNe, vint, NdS, NdF, Int.cast_ofNat_Int, Int.reduceLT, Int.reduceLE, Int.reduceEq, Int.toNat_one, Int.toNat_zero, Int.reduceToNat, Int.reduceNeg, decide_true, decide_false, Int.natCast_one]) (by decide) Trygo22 (fun H' _ => asBit (decide ((litV c0).1 < (litV c1).1)) H') (by simp only [dsq, ds0, ds1, ds2, ds3, awanted, hapB, effIds, effSet, nextFresh, ard, freshOk, isUnborn, aop, LS, SS, SX, HS, mkS_cons, mkS_nil, ↓reduceIte, eq_self', List.map_nil, beq_self_eq_true, Nat.reduceEqDiff, Nat.reduceAdd, Nat.reduceMul, Nat.reduceLT, Nat.reduceLeDiff, Nat.reducePow, Nat.reduceDiv, Nat.reduceMod, Nat.succ_ne_self, Nat.reduceBEq, Nat.reduceBNe, vint, NdS, NdF, Int.cast_ofNat_Int, Int.reduceLT, Int.reduceLE, Int.reduceEq, Int.toNat_one, Int.toNat_zero, Int.reduceToNat, Int.reduceNeg, decide_true, decide_false, Int.natCast_one] <;> first | done | rfl) ?_
                          refine dops_keep (bm := [0, 0, 0, 6, 14, 31, 63]) ([]) (by kernel_rfl) (by simp only [acall, awanted, LS, SS, SX, HS, mkS_cons, mkS_nil, ↓reduceIte, eq_self', List.map_nil, beq_self_eq_true, Nat.reduceEqDiff, Nat.reduceAdd, Nat.reduceMul, Nat.reduceLT, Nat.reduceLeDiff, Nat.reducePow, Nat.reduceDiv, Nat.reduceMod, Nat.succ_ne_self, Nat.reduceBEq, Nat.reduceBNe, vint, NdS, NdF, Int.cast_ofNat_Int, Int.reduceLT, Int.reduceLE, Int.reduceEq, Int.toNat_one, Int.toNat_zero, Int.reduceToNat, Int.reduceNeg, decide_true, decide_false, Int.natCast_one] <;> with_reducible rfl) (by simp only [acall, awanted, LS, SS, SX, HS, mkS_cons, mkS_nil, ↓reduceIte, eq_self', List.map_nil, beq_self_eq_true, Nat.reduceEqDiff, Nat.reduceAdd, Nat.reduceMul, Nat.reduceLT, Nat.reduceLeDiff, Nat.reducePow, Nat.reduceDiv, Nat.reduceMod, Nat.succ_ne_self, Nat.reduceBEq, Nat.reduceBNe, vint, NdS, NdF, Int.cast_ofNat_Int, Int.reduceLT, Int.reduceLE, Int.reduceEq, Int.toNat_one, Int.toNat_zero, Int.reduceToNat, Int.reduceNeg, decide_true, decide_false, Int.natCast_one]) (by decide) Trygo21 (fun H' _ => literal_c (Nd.mk t.kind t.value t.text t.st t.en t.ns [c0, c1]) (if decide ((litV c0).1 < (litV c1).1) = true then 1 else 0) 2 (by split <;> omega) (by split <;> omega) H') (by simp only [dsq, ds0, ds1, ds2, ds3, awanted, hapB, effIds, effSet, nextFresh, ard, freshOk, isUnborn, aop, LS, SS, SX, HS, mkS_cons, mkS_nil, ↓reduceIte, eq_self', List.map_nil, beq_self_eq_true, Nat.reduceEqDiff, Nat.reduceAdd, Nat.reduceMul, Nat.reduceLT, Nat.reduceLeDiff, Nat.reducePow, Nat.reduceDiv, Nat.reduceMod, Nat.succ_ne_self, Nat.reduceBEq, Nat.reduceBNe, vint, NdS, NdF, Int.cast_ofNat_Int, Int.reduceLT, Int.reduceLE, Int.reduceEq, Int.toNat_one, Int.toNat_zero, Int.reduceToNat, Int.reduceNeg, decide_true, decide_false, Int.natCast_one] <;> first | done | rfl) ?_
                          refine d_end (bm := [0, 0, 0, 6, 14, 31, 63]) (fresh := 0) (by kernel_rfl) (by simp only [dsq, ds0, ds1, ds2, ds3, awanted, hapB, effIds, effSet, nextFresh, ard, freshOk, isUnborn, aop, astore, splice, LS, SS, SX, HS, mkS_cons, mkS_nil, ↓reduceIte, eq_self', List.map_nil, beq_self_eq_true, Nat.reduceEqDiff, Nat.reduceAdd, Nat.reduceMul, Nat.reduceLT, Nat.reduceLeDiff, Nat.reducePow, Nat.reduceDiv, Nat.reduceMod, Nat.succ_ne_self, Nat.reduceBEq, Nat.reduceBNe, Tryti24, Trytf24, Trytz24, Trytp24, vint, NdS, NdF, Int.cast_ofNat_Int, Int.reduceLT, Int.reduceLE, Int.reduceEq, Int.toNat_one, Int.toNat_zero, Int.reduceToNat, Int.reduceNeg, decide_true, decide_false, Int.natCast_one] <;> with_reducible rfl) (by decide) ?_
                          repeat (refine awp_seq ?_)
                          -- leaf 14 ret
                          refine awp_ret ⟨.inr rfl, _, (ares_cell 2 24 rfl Tryti24 (by decide) (by simp only [aload, LS, SS, SX, HS, mkS_cons, mkS_nil, ↓reduceIte, eq_self', List.map_nil, beq_self_eq_true, Nat.reduceEqDiff, Nat.reduceAdd, Nat.reduceMul, Nat.reduceLT, Nat.reduceLeDiff, Nat.reducePow, Nat.reduceDiv, Nat.reduceMod, Nat.succ_ne_self, Nat.reduceBEq, Nat.reduceBNe, vint, NdS, NdF, Int.cast_ofNat_Int, Int.reduceLT, Int.reduceLE, Int.reduceEq, Int.toNat_one, Int.toNat_zero, Int.reduceToNat, Int.reduceNeg, decide_true, decide_false, Int.natCast_one] <;> with_reducible rfl)), ?_⟩
                          first | (refine (Nd.enc_drop1 _).trans (congrArg Nd.enc ?_)) | (simp only [NdF, d1_agg, LS]; refine (Nd.enc_drop1 _).trans (congrArg Nd.enc ?_))
                          rw [hst]
                          have ht : (Nd.mk t.kind t.value t.text t.st t.en t.ns [c0, c1]).text = t.text := rfl
                          clear hst hf
                          generalize (Nd.mk t.kind t.value t.text t.st t.en t.ns [c0, c1]) = m at ht ⊢
                          clear w1 w2 w3 w4 hd hd2 hm hr0 hr1 hlen hw b0
                          simp at b9
                          unfold refBin rangeN
                          grind
                        · -- else t160
                          -- region 32
                          repeat (refine awp_seq ?_)
                          refine g_eval (by simp only [gsq, gs0, gs1, gs2, gcond, gop, SG, Op.operands, Call.operands, Array.toList_append, aop, afldAddr, ajust, aload, abin, LS, SS, SX, HS, mkS_cons, mkS_nil, ↓reduceIte, eq_self', List.map_nil, beq_self_eq_true, Nat.reduceEqDiff, Nat.reduceAdd, Nat.reduceMul, Nat.reduceLT, Nat.reduceLeDiff, Nat.reducePow, Nat.reduceDiv, Nat.reduceMod, Nat.succ_ne_self, Nat.reduceBEq, Nat.reduceBNe, Tryti3, Trytz3, Trytp3, Trytk3, Tryti9, Trytz9, Trytp9, Tryts9, Tryti24, Trytf24, Trytz24, Trytp24, vint, NdS, NdF, Int.cast_ofNat_Int, Int.reduceLT, Int.reduceLE, Int.reduceEq, Int.toNat_one, Int.toNat_zero, Int.reduceToNat, Int.reduceNeg, decide_true, decide_false, Int.natCast_one] <;> with_reducible rfl) (by decide) (by repeat (first | exact Fin.base _ | with_reducible apply Fin.keep | apply Fin.drop)) ?_
                          repeat (refine awp_seq ?_)
                          refine awp_cond rfl (by simp only [LS, SS, SX, HS, mkS_cons, mkS_nil, ↓reduceIte, eq_self', List.map_nil, beq_self_eq_true, Nat.reduceEqDiff, Nat.reduceAdd, Nat.succ_ne_self, vint, NdS, NdF, Int.cast_ofNat_Int, Int.reduceLT, Int.reduceLE, Int.reduceEq, Int.toNat_one, Int.toNat_zero, Int.reduceToNat, Int.reduceNeg, decide_true, decide_false, Int.natCast_one] <;> with_reducible rfl) (fun bt170 => ?_) (fun bt170 => ?_)
                          · -- if t170
                            -- region 33
                            repeat (refine awp_seq ?_)
                            refine e_eval (by simp only [asq, as0, as1, as2, awanted, aop, aload, ajust, astore, splice, LS, SS, SX, HS, mkS_cons, mkS_nil, ↓reduceIte, eq_self', List.map_nil, beq_self_eq_true, Nat.reduceEqDiff, Nat.reduceAdd, Nat.reduceMul, Nat.reduceLT, Nat.reduceLeDiff, Nat.reducePow, Nat.reduceDiv, Nat.reduceMod, Nat.succ_ne_self, Nat.reduceBEq, Nat.reduceBNe, Tryti24, Trytf24, Trytz24, Trytp24, vint, NdS, NdF, Int.cast_ofNat_Int, Int.reduceLT, Int.reduceLE, Int.reduceEq, Int.toNat_one, Int.toNat_zero, Int.reduceToNat, Int.reduceNeg, decide_true, decide_false, Int.natCast_one] <;> with_reducible rfl) (by decide) ?_
                            repeat (refine awp_seq ?_)
                            -- leaf 15 ret
                            refine awp_ret ⟨.inr rfl, _, (ares_cell 2 24 rfl Tryti24 (by decide) (by simp only [aload, LS, SS, SX, HS, mkS_cons, mkS_nil, ↓reduceIte, eq_self', List.map_nil, beq_self_eq_true, Nat.reduceEqDiff, Nat.reduceAdd, Nat.reduceMul, Nat.reduceLT, Nat.reduceLeDiff, Nat.reducePow, Nat.reduceDiv, Nat.reduceMod, Nat.succ_ne_self, Nat.reduceBEq, Nat.reduceBNe, vint, NdS, NdF, Int.cast_ofNat_Int, Int.reduceLT, Int.reduceLE, Int.reduceEq, Int.toNat_one, Int.toNat_zero, Int.reduceToNat, Int.reduceNeg, decide_true, decide_false, Int.natCast_one] <;> with_reducible rfl)), ?_⟩
                            first | (refine (Nd.enc_drop1 _).trans (congrArg Nd.enc ?_)) | (simp only [NdF, d1_agg, LS]; refine (Nd.enc_drop1 _).trans (congrArg Nd.enc ?_))
                            rw [hst]
                            have ht : (Nd.mk t.kind t.value t.text t.st t.en t.ns [c0, c1]).text = t.text := rfl
                            clear hst hf
                            generalize (Nd.mk t.kind t.value t.text t.st t.en t.ns [c0, c1]) = m at ht ⊢
                            clear w1 w2 w3 w4 hd hd2 hm hr0 hr1 hlen hw b0
                            simp at b9
                            unfold refBin rangeN
                            grind
                          · -- else t170
                            have bt170 := bt170
                            repeat (refine awp_seq ?_)
                            refine awp_skip ?_
                            -- region 34
                            repeat (refine awp_seq ?_)
                            refine e_eval (by simp only [asq, as0, as1, as2, awanted, aop, LS, SS, SX, HS, mkS_cons, mkS_nil, ↓reduceIte, eq_self', List.map_nil, beq_self_eq_true, Nat.reduceEqDiff, Nat.reduceAdd, Nat.reduceMul, Nat.reduceLT, Nat.reduceLeDiff, Nat.reducePow, Nat.reduceDiv, Nat.reduceMod, Nat.succ_ne_self, Nat.reduceBEq, Nat.reduceBNe, vint, NdS, NdF, Int.cast_ofNat_Int, Int.reduceLT, Int.reduceLE, Int.reduceEq, Int.toNat_one, Int.toNat_zero, Int.reduceToNat, Int.reduceNeg, decide_true, decide_false, Int.natCast_one] <;> with_reducible rfl) (by decide) ?_
                            -- region 35
                            repeat (refine awp_seq ?_)
                            refine e_eval (by simp only [asq, as0, as1, as2, awanted, aop, afldAddr, ajust, aload, LS, SS, SX, HS, mkS_cons, mkS_nil, ↓reduceIte, eq_self', List.map_nil, beq_self_eq_true, Nat.reduceEqDiff, Nat.reduceAdd, Nat.reduceMul, Nat.reduceLT, Nat.reduceLeDiff, Nat.reducePow, Nat.reduceDiv, Nat.reduceMod, Nat.succ_ne_self, Nat.reduceBEq, Nat.reduceBNe, Tryti9, Trytz9, Trytp9, Tryts9, Tryti24, Trytf24, Trytz24, Trytp24, vint, NdS, NdF, Int.cast_ofNat_Int, Int.reduceLT, Int.reduceLE, Int.reduceEq, Int.toNat_one, Int.toNat_zero, Int.reduceToNat, Int.reduceNeg, decide_true, decide_false, Int.natCast_one] <;> with_reducible rfl) (by decide) ?_
                            repeat (refine awp_seq ?_)
                            refine awp_joinT (σ := Option Int) (fun (o : Option Int) => [(1, .optr 0 0), (2, .optr 1 0), (12, vint (o.getD 0)), (13, .bool o.isSome)]) (fun (o : Option Int) => [.row [.int .i64 t.kind, .int .i64 t.value, .str t.text, .int .i64 t.st, .int .i64 t.en, .int .i64 t.ns, .slice [c0.enc, c1.enc] (.tok 2)], .row [.int .i64 0, .int .i64 0, .str [], .int .i64 0, .int .i64 0, .int .i64 0, .slice [] .full], .buf 2 7]) (fun (o : Option Int) => o = refOp t.text (litV c0).1 (litV c1).1 ∧ -4611686018427387904 ≤ o.getD 0 ∧ o.getD 0 ≤ 4611686018427387904) ?_ ?_ ?_
                            · intro o hg
                              refine ⟨Nat.zero_le _, ?_, by repeat (first | exact BelL.nil | refine BelL.cons (by first | exact bel_Nd _ _ | exact Nd.bel _ _ | exact bel_nd_tok _ (by simp) | exact bel_nd_tok [c0, c1] (by simp) | exact bel_Nd _ _ | exact Nd.bel _ _ | exact Bel.int _ _ | exact Bel.bool _ | exact Bel.str _ | exact Bel.nilp | exact Bel.nilfn | exact Bel.optr _ _ (by simp) | exact bel_nil0 _ | exact bel_nil1 _ | exact bel_fn0 _ _ | assumption) ?_)⟩
                              repeat (first | exact hbel_nil _ | exact trivial | exact obel_row_nil _ | (refine HBel.cons ?_ ?_) | (refine obel_row_cons (by first | exact bel_Nd _ _ | exact Nd.bel _ _ | exact bel_nd_tok _ (by simp) | exact bel_nd_tok [c0, c1] (by simp) | exact bel_Nd _ _ | exact Nd.bel _ _ | exact Bel.int _ _ | exact Bel.bool _ | exact Bel.str _ | exact Bel.nilp | exact Bel.nilfn | exact Bel.optr _ _ (by simp) | exact bel_nil0 _ | exact bel_nil1 _ | exact bel_fn0 _ _ | assumption) ?_))
                            · -- to the meeting
                              repeat (refine awp_seq ?_)
                              refine awp_block ?_
                              -- region 37
                              repeat (refine awp_seq ?_)
                              refine e_eval (by simp only [asq, as0, as1, as2, awanted, aop, abin, ajust, LS, SS, SX, HS, mkS_cons, mkS_nil, ↓reduceIte, eq_self', List.map_nil, beq_self_eq_true, Nat.reduceEqDiff, Nat.reduceAdd, Nat.reduceMul, Nat.reduceLT, Nat.reduceLeDiff, Nat.reducePow, Nat.reduceDiv, Nat.reduceMod, Nat.succ_ne_self, Nat.reduceBEq, Nat.reduceBNe, Tryti9, Trytz9, Trytp9, Tryts9, vint, NdS, NdF, Int.cast_ofNat_Int, Int.reduceLT, Int.reduceLE, Int.reduceEq, Int.toNat_one, Int.toNat_zero, Int.reduceToNat, Int.reduceNeg, decide_true, decide_false, Int.natCast_one] <;> with_reducible rfl) (by decide) ?_
                              repeat (refine awp_seq ?_)
                              refine awp_cond rfl (by simp only [LS, SS, SX, HS, mkS_cons, mkS_nil, ↓reduceIte, eq_self', List.map_nil, beq_self_eq_true, Nat.reduceEqDiff, Nat.reduceAdd, Nat.succ_ne_self, vint, NdS, NdF, Int.cast_ofNat_Int, Int.reduceLT, Int.reduceLE, Int.reduceEq, Int.toNat_one, Int.toNat_zero, Int.reduceToNat, Int.reduceNeg, decide_true, decide_false, Int.natCast_one] <;> with_reducible rfl) (fun b14 => ?_) (fun b14 => ?_)
                              · -- if t181
                                -- region 38
                                repeat (refine awp_seq ?_)
                                refine e_eval (by simp only [asq, as0, as1, as2, awanted, aop, abin, ajust, LS, SS, SX, HS, mkS_cons, mkS_nil, ↓reduceIte, eq_self', List.map_nil, beq_self_eq_true, Nat.reduceEqDiff, Nat.reduceAdd, Nat.reduceMul, Nat.reduceLT, Nat.reduceLeDiff, Nat.reducePow, Nat.reduceDiv, Nat.reduceMod, Nat.succ_ne_self, Nat.reduceBEq, Nat.reduceBNe, Tryti3, Trytz3, Trytp3, Trytk3, vint, NdS, NdF, Int.cast_ofNat_Int, Int.reduceLT, Int.reduceLE, Int.reduceEq, Int.toNat_one, Int.toNat_zero, Int.reduceToNat, Int.reduceNeg, decide_true, decide_false, Int.natCast_one, w1] <;> with_reducible rfl) (by decide) ?_
                                -- leaf 16 join35
                                exact ⟨some ((litV c0).1 + (litV c1).1), [], ⟨(by first | rfl | (simp only [LS, SS, SX, HS, mkS_cons, mkS_nil, ↓reduceIte, eq_self', List.map_nil, beq_self_eq_true, Nat.reduceEqDiff, Nat.reduceAdd, Nat.succ_ne_self, vint, NdS, NdF, Int.cast_ofNat_Int, Int.reduceLT, Int.reduceLE, Int.reduceEq, Int.toNat_one, Int.toNat_zero, Int.reduceToNat, Int.reduceNeg, decide_true, decide_false, Int.natCast_one] <;> first | done | with_reducible rfl)), (by first | rfl | (simp only [LS, SS, SX, HS, mkS_cons, mkS_nil, ↓reduceIte, eq_self', List.map_nil, beq_self_eq_true, Nat.reduceEqDiff, Nat.reduceAdd, Nat.succ_ne_self, vint, NdS, NdF, Int.cast_ofNat_Int, Int.reduceLT, Int.reduceLE, Int.reduceEq, Int.toNat_one, Int.toNat_zero, Int.reduceToNat, Int.reduceNeg, decide_true, decide_false, Int.natCast_one] <;> first | done | with_reducible rfl)), (by first | rfl | (simp only [LS, SS, SX, HS, mkS_cons, mkS_nil, ↓reduceIte, eq_self', List.map_nil, beq_self_eq_true, Nat.reduceEqDiff, Nat.reduceAdd, Nat.succ_ne_self, vint, NdS, NdF, Int.cast_ofNat_Int, Int.reduceLT, Int.reduceLE, Int.reduceEq, Int.toNat_one, Int.toNat_zero, Int.reduceToNat, Int.reduceNeg, decide_true, decide_false, Int.natCast_one] <;> first | done | with_reducible rfl)), (by first | rfl | (simp only [LS, SS, SX, HS, mkS_cons, mkS_nil, ↓reduceIte, eq_self', List.map_nil, beq_self_eq_true, Nat.reduceEqDiff, Nat.reduceAdd, Nat.succ_ne_self, vint, NdS, NdF, Int.cast_ofNat_Int, Int.reduceLT, Int.reduceLE, Int.reduceEq, Int.toNat_one, Int.toNat_zero, Int.reduceToNat, Int.reduceNeg, decide_true, decide_false, Int.natCast_one] <;> first | done | with_reducible rfl)), trivial⟩, (List.append_nil _).symm, by simp_all [refOp] <;> omega⟩
                              · -- else t181
                                -- region 39
                                repeat (refine awp_seq ?_)
                                refine e_eval (by simp only [asq, as0, as1, as2, awanted, aop, abin, ajust, LS, SS, SX, HS, mkS_cons, mkS_nil, ↓reduceIte, eq_self', List.map_nil, beq_self_eq_true, Nat.reduceEqDiff, Nat.reduceAdd, Nat.reduceMul, Nat.reduceLT, Nat.reduceLeDiff, Nat.reducePow, Nat.reduceDiv, Nat.reduceMod, Nat.succ_ne_self, Nat.reduceBEq, Nat.reduceBNe, Tryti9, Trytz9, Trytp9, Tryts9, vint, NdS, NdF, Int.cast_ofNat_Int, Int.reduceLT, Int.reduceLE, Int.reduceEq, Int.toNat_one, Int.toNat_zero, Int.reduceToNat, Int.reduceNeg, decide_true, decide_false, Int.natCast_one] <;> with_reducible rfl) (by decide) ?_
                                repeat (refine awp_seq ?_)
                                refine awp_cond rfl (by simp only [LS, SS, SX, HS, mkS_cons, mkS_nil, ↓reduceIte, eq_self', List.map_nil, beq_self_eq_true, Nat.reduceEqDiff, Nat.reduceAdd, Nat.succ_ne_self, vint, NdS, NdF, Int.cast_ofNat_Int, Int.reduceLT, Int.reduceLE, Int.reduceEq, Int.toNat_one, Int.toNat_zero, Int.reduceToNat, Int.reduceNeg, decide_true, decide_false, Int.natCast_one] <;> with_reducible rfl) (fun b15 => ?_) (fun b15 => ?_)
                                · -- if t186
                                  -- region 40
                                  repeat (refine awp_seq ?_)
                                  refine e_eval (by simp only [asq, as0, as1, as2, awanted, aop, abin, ajust, LS, SS, SX, HS, mkS_cons, mkS_nil, ↓reduceIte, eq_self', List.map_nil, beq_self_eq_true, Nat.reduceEqDiff, Nat.reduceAdd, Nat.reduceMul, Nat.reduceLT, Nat.reduceLeDiff, Nat.reducePow, Nat.reduceDiv, Nat.reduceMod, Nat.succ_ne_self, Nat.reduceBEq, Nat.reduceBNe, Tryti3, Trytz3, Trytp3, Trytk3, vint, NdS, NdF, Int.cast_ofNat_Int, Int.reduceLT, Int.reduceLE, Int.reduceEq, Int.toNat_one, Int.toNat_zero, Int.reduceToNat, Int.reduceNeg, decide_true, decide_false, Int.natCast_one, w2] <;> with_reducible rfl) (by decide) ?_
                                  -- leaf 17 join35
                                  exact ⟨some ((litV c0).1 - (litV c1).1), [], ⟨(by first | rfl | (simp only [LS, SS, SX, HS, mkS_cons, mkS_nil, ↓reduceIte, eq_self', List.map_nil, beq_self_eq_true, Nat.reduceEqDiff, Nat.reduceAdd, Nat.succ_ne_self, vint, NdS, NdF, Int.cast_ofNat_Int, Int.reduceLT, Int.reduceLE, Int.reduceEq, Int.toNat_one, Int.toNat_zero, Int.reduceToNat, Int.reduceNeg, decide_true, decide_false, Int.natCast_one] <;> first | done | with_reducible rfl)), (by first | rfl | (simp only [LS, SS, SX, HS, mkS_cons, mkS_nil, ↓reduceIte, eq_self', List.map_nil, beq_self_eq_true, Nat.reduceEqDiff, Nat.reduceAdd, Nat.succ_ne_self, vint, NdS, NdF, Int.cast_ofNat_Int, Int.reduceLT, Int.reduceLE, Int.reduceEq, Int.toNat_one, Int.toNat_zero, Int.reduceToNat, Int.reduceNeg, decide_true, decide_false, Int.natCast_one] <;> first | done | with_reducible rfl)), (by first | rfl | (simp only [LS, SS, SX, HS, mkS_cons, mkS_nil, ↓reduceIte, eq_self', List.map_nil, beq_self_eq_true, Nat.reduceEqDiff, Nat.reduceAdd, Nat.succ_ne_self, vint, NdS, NdF, Int.cast_ofNat_Int, Int.reduceLT, Int.reduceLE, Int.reduceEq, Int.toNat_one, Int.toNat_zero, Int.reduceToNat, Int.reduceNeg, decide_true, decide_false, Int.natCast_one] <;> first | done | with_reducible rfl)), (by first | rfl | (simp only [LS, SS, SX, HS, mkS_cons, mkS_nil, ↓reduceIte, eq_self', List.map_nil, beq_self_eq_true, Nat.reduceEqDiff, Nat.reduceAdd, Nat.succ_ne_self, vint, NdS, NdF, Int.cast_ofNat_Int, Int.reduceLT, Int.reduceLE, Int.reduceEq, Int.toNat_one, Int.toNat_zero, Int.reduceToNat, Int.reduceNeg, decide_true, decide_false, Int.natCast_one] <;> first | done | with_reducible rfl)), trivial⟩, (List.append_nil _).symm, by simp_all [refOp] <;> omega⟩
                                · -- else t186
                                  -- region 41
                                  repeat (refine awp_seq ?_)
                                  refine e_eval (by simp only [asq, as0, as1, as2, awanted, aop, abin, ajust, LS, SS, SX, HS, mkS_cons, mkS_nil, ↓reduceIte, eq_self', List.map_nil, beq_self_eq_true, Nat.reduceEqDiff, Nat.reduceAdd, Nat.reduceMul, Nat.reduceLT, Nat.reduceLeDiff, Nat.reducePow, Nat.reduceDiv, Nat.reduceMod, Nat.succ_ne_self, Nat.reduceBEq, Nat.reduceBNe, Tryti9, Trytz9, Trytp9, Tryts9, vint, NdS, NdF, Int.cast_ofNat_Int, Int.reduceLT, Int.reduceLE, Int.reduceEq, Int.toNat_one, Int.toNat_zero, Int.reduceToNat, Int.reduceNeg, decide_true, decide_false, Int.natCast_one] <;> with_reducible rfl) (by decide) ?_
                                  repeat (refine awp_seq ?_)
                                  refine awp_cond rfl (by simp only [LS, SS, SX, HS, mkS_cons, mkS_nil, ↓reduceIte, eq_self', List.map_nil, beq_self_eq_true, Nat.reduceEqDiff, Nat.reduceAdd, Nat.succ_ne_self, vint, NdS, NdF, Int.cast_ofNat_Int, Int.reduceLT, Int.reduceLE, Int.reduceEq, Int.toNat_one, Int.toNat_zero, Int.reduceToNat, Int.reduceNeg, decide_true, decide_false, Int.natCast_one] <;> with_reducible rfl) (fun b16 => ?_) (fun b16 => ?_)
                                  · -- if t191
                                    -- region 42
                                    repeat (refine awp_seq ?_)
                                    refine e_eval (by simp only [asq, as0, as1, as2, awanted, aop, abin, ajust, LS, SS, SX, HS, mkS_cons, mkS_nil, ↓reduceIte, eq_self', List.map_nil, beq_self_eq_true, Nat.reduceEqDiff, Nat.reduceAdd, Nat.reduceMul, Nat.reduceLT, Nat.reduceLeDiff, Nat.reducePow, Nat.reduceDiv, Nat.reduceMod, Nat.succ_ne_self, Nat.reduceBEq, Nat.reduceBNe, Tryti3, Trytz3, Trytp3, Trytk3, vint, NdS, NdF, Int.cast_ofNat_Int, Int.reduceLT, Int.reduceLE, Int.reduceEq, Int.toNat_one, Int.toNat_zero, Int.reduceToNat, Int.reduceNeg, decide_true, decide_false, Int.natCast_one, w3] <;> with_reducible rfl) (by decide) ?_
                                    -- leaf 18 join35
                                    exact ⟨some ((litV c0).1 * (litV c1).1), [], ⟨(by first | rfl | (simp only [LS, SS, SX, HS, mkS_cons, mkS_nil, ↓reduceIte, eq_self', List.map_nil, beq_self_eq_true, Nat.reduceEqDiff, Nat.reduceAdd, Nat.succ_ne_self, vint, NdS, NdF, Int.cast_ofNat_Int, Int.reduceLT, Int.reduceLE, Int.reduceEq, Int.toNat_one, Int.toNat_zero, Int.reduceToNat, Int.reduceNeg, decide_true, decide_false, Int.natCast_one] <;> first | done | with_reducible rfl)), (by first | rfl | (simp only [LS, SS, SX, HS, mkS_cons, mkS_nil, ↓reduceIte, eq_self', List.map_nil, beq_self_eq_true, Nat.reduceEqDiff, Nat.reduceAdd, Nat.succ_ne_self, vint, NdS, NdF, Int.cast_ofNat_Int, Int.reduceLT, Int.reduceLE, Int.reduceEq, Int.toNat_one, Int.toNat_zero, Int.reduceToNat, Int.reduceNeg, decide_true, decide_false, Int.natCast_one] <;> first | done | with_reducible rfl)), (by first | rfl | (simp only [LS, SS, SX, HS, mkS_cons, mkS_nil, ↓reduceIte, eq_self', List.map_nil, beq_self_eq_true, Nat.reduceEqDiff, Nat.reduceAdd, Nat.succ_ne_self, vint, NdS, NdF, Int.cast_ofNat_Int, Int.reduceLT, Int.reduceLE, Int.reduceEq, Int.toNat_one, Int.toNat_zero, Int.reduceToNat, Int.reduceNeg, decide_true, decide_false, Int.natCast_one] <;> first | done | with_reducible rfl)), (by first | rfl | (simp only [LS, SS, SX, HS, mkS_cons, mkS_nil, ↓reduceIte, eq_self', List.map_nil, beq_self_eq_true, Nat.reduceEqDiff, Nat.reduceAdd, Nat.succ_ne_self, vint, NdS, NdF, Int.cast_ofNat_Int, Int.reduceLT, Int.reduceLE, Int.reduceEq, Int.toNat_one, Int.toNat_zero, Int.reduceToNat, Int.reduceNeg, decide_true, decide_false, Int.natCast_one] <;> first | done | with_reducible rfl)), trivial⟩, (List.append_nil _).symm, by simp_all [refOp]⟩
                                  · -- else t191
                                    -- region 43
                                    repeat (refine awp_seq ?_)
                                    refine e_eval (by simp only [asq, as0, as1, as2, awanted, aop, abin, ajust, LS, SS, SX, HS, mkS_cons, mkS_nil, ↓reduceIte, eq_self', List.map_nil, beq_self_eq_true, Nat.reduceEqDiff, Nat.reduceAdd, Nat.reduceMul, Nat.reduceLT, Nat.reduceLeDiff, Nat.reducePow, Nat.reduceDiv, Nat.reduceMod, Nat.succ_ne_self, Nat.reduceBEq, Nat.reduceBNe, Tryti9, Trytz9, Trytp9, Tryts9, vint, NdS, NdF, Int.cast_ofNat_Int, Int.reduceLT, Int.reduceLE, Int.reduceEq, Int.toNat_one, Int.toNat_zero, Int.reduceToNat, Int.reduceNeg, decide_true, decide_false, Int.natCast_one] <;> with_reducible rfl) (by decide) ?_
                                    repeat (refine awp_seq ?_)
                                    refine awp_cond rfl (by simp only [LS, SS, SX, HS, mkS_cons, mkS_nil, ↓reduceIte, eq_self', List.map_nil, beq_self_eq_true, Nat.reduceEqDiff, Nat.reduceAdd, Nat.succ_ne_self, vint, NdS, NdF, Int.cast_ofNat_Int, Int.reduceLT, Int.reduceLE, Int.reduceEq, Int.toNat_one, Int.toNat_zero, Int.reduceToNat, Int.reduceNeg, decide_true, decide_false, Int.natCast_one] <;> with_reducible rfl) (fun bt196 => ?_) (fun bt196 => ?_)
                                    · -- if t196
                                      have hz : ((litV c1).1 = 0) = False := by simp at bt170 bt196; simp [bt170 bt196]
                                      -- region 44
                                      repeat (refine awp_seq ?_)
                                      refine e_eval (by simp only [asq, as0, as1, as2, awanted, aop, abin, ajust, LS, SS, SX, HS, mkS_cons, mkS_nil, ↓reduceIte, eq_self', List.map_nil, beq_self_eq_true, Nat.reduceEqDiff, Nat.reduceAdd, Nat.reduceMul, Nat.reduceLT, Nat.reduceLeDiff, Nat.reducePow, Nat.reduceDiv, Nat.reduceMod, Nat.succ_ne_self, Nat.reduceBEq, Nat.reduceBNe, Tryti3, Trytz3, Trytp3, Trytk3, vint, NdS, NdF, Int.cast_ofNat_Int, Int.reduceLT, Int.reduceLE, Int.reduceEq, Int.toNat_one, Int.toNat_zero, Int.reduceToNat, Int.reduceNeg, decide_true, decide_false, Int.natCast_one, hz, w4] <;> with_reducible rfl) (by decide) ?_
                                      -- leaf 19 join35
                                      exact ⟨some ((litV c0).1.tdiv (litV c1).1), [], ⟨(by first | rfl | (simp only [LS, SS, SX, HS, mkS_cons, mkS_nil, ↓reduceIte, eq_self', List.map_nil, beq_self_eq_true, Nat.reduceEqDiff, Nat.reduceAdd, Nat.succ_ne_self, vint, NdS, NdF, Int.cast_ofNat_Int, Int.reduceLT, Int.reduceLE, Int.reduceEq, Int.toNat_one, Int.toNat_zero, Int.reduceToNat, Int.reduceNeg, decide_true, decide_false, Int.natCast_one] <;> first | done | with_reducible rfl)), (by first | rfl | (simp only [LS, SS, SX, HS, mkS_cons, mkS_nil, ↓reduceIte, eq_self', List.map_nil, beq_self_eq_true, Nat.reduceEqDiff, Nat.reduceAdd, Nat.succ_ne_self, vint, NdS, NdF, Int.cast_ofNat_Int, Int.reduceLT, Int.reduceLE, Int.reduceEq, Int.toNat_one, Int.toNat_zero, Int.reduceToNat, Int.reduceNeg, decide_true, decide_false, Int.natCast_one] <;> first | done | with_reducible rfl)), (by first | rfl | (simp only [LS, SS, SX, HS, mkS_cons, mkS_nil, ↓reduceIte, eq_self', List.map_nil, beq_self_eq_true, Nat.reduceEqDiff, Nat.reduceAdd, Nat.succ_ne_self, vint, NdS, NdF, Int.cast_ofNat_Int, Int.reduceLT, Int.reduceLE, Int.reduceEq, Int.toNat_one, Int.toNat_zero, Int.reduceToNat, Int.reduceNeg, decide_true, decide_false, Int.natCast_one] <;> first | done | with_reducible rfl)), (by first | rfl | (simp only [LS, SS, SX, HS, mkS_cons, mkS_nil, ↓reduceIte, eq_self', List.map_nil, beq_self_eq_true, Nat.reduceEqDiff, Nat.reduceAdd, Nat.succ_ne_self, vint, NdS, NdF, Int.cast_ofNat_Int, Int.reduceLT, Int.reduceLE, Int.reduceEq, Int.toNat_one, Int.toNat_zero, Int.reduceToNat, Int.reduceNeg, decide_true, decide_false, Int.natCast_one] <;> first | done | with_reducible rfl)), trivial⟩, (List.append_nil _).symm, by exact ⟨by simp_all [refOp], by simp only [Option.getD_some]; omega, by simp only [Option.getD_some]; omega⟩⟩
                                    · -- else t196
                                      -- region 36
                                      repeat (refine awp_seq ?_)
                                      refine e_eval (by simp only [asq, as0, as1, as2, awanted, aop, LS, SS, SX, HS, mkS_cons, mkS_nil, ↓reduceIte, eq_self', List.map_nil, beq_self_eq_true, Nat.reduceEqDiff, Nat.reduceAdd, Nat.reduceMul, Nat.reduceLT, Nat.reduceLeDiff, Nat.reducePow, Nat.reduceDiv, Nat.reduceMod, Nat.succ_ne_self, Nat.reduceBEq, Nat.reduceBNe, vint, NdS, NdF, Int.cast_ofNat_Int, Int.reduceLT, Int.reduceLE, Int.reduceEq, Int.toNat_one, Int.toNat_zero, Int.reduceToNat, Int.reduceNeg, decide_true, decide_false, Int.natCast_one] <;> with_reducible rfl) (by decide) ?_
                                      -- leaf 20 join35
                                      exact ⟨none, [], ⟨(by first | rfl | (simp only [LS, SS, SX, HS, mkS_cons, mkS_nil, ↓reduceIte, eq_self', List.map_nil, beq_self_eq_true, Nat.reduceEqDiff, Nat.reduceAdd, Nat.succ_ne_self, vint, NdS, NdF, Int.cast_ofNat_Int, Int.reduceLT, Int.reduceLE, Int.reduceEq, Int.toNat_one, Int.toNat_zero, Int.reduceToNat, Int.reduceNeg, decide_true, decide_false, Int.natCast_one] <;> first | done | with_reducible rfl)), (by first | rfl | (simp only [LS, SS, SX, HS, mkS_cons, mkS_nil, ↓reduceIte, eq_self', List.map_nil, beq_self_eq_true, Nat.reduceEqDiff, Nat.reduceAdd, Nat.succ_ne_self, vint, NdS, NdF, Int.cast_ofNat_Int, Int.reduceLT, Int.reduceLE, Int.reduceEq, Int.toNat_one, Int.toNat_zero, Int.reduceToNat, Int.reduceNeg, decide_true, decide_false, Int.natCast_one] <;> first | done | with_reducible rfl)), (by first | rfl | (simp only [LS, SS, SX, HS, mkS_cons, mkS_nil, ↓reduceIte, eq_self', List.map_nil, beq_self_eq_true, Nat.reduceEqDiff, Nat.reduceAdd, Nat.succ_ne_self, vint, NdS, NdF, Int.cast_ofNat_Int, Int.reduceLT, Int.reduceLE, Int.reduceEq, Int.toNat_one, Int.toNat_zero, Int.reduceToNat, Int.reduceNeg, decide_true, decide_false, Int.natCast_one] <;> first | done | with_reducible rfl)), (by first | rfl | (simp only [LS, SS, SX, HS, mkS_cons, mkS_nil, ↓reduceIte, eq_self', List.map_nil, beq_self_eq_true, Nat.reduceEqDiff, Nat.reduceAdd, Nat.succ_ne_self, vint, NdS, NdF, Int.cast_ofNat_Int, Int.reduceLT, Int.reduceLE, Int.reduceEq, Int.toNat_one, Int.toNat_zero, Int.reduceToNat, Int.reduceNeg, decide_true, decide_false, Int.natCast_one] <;> first | done | with_reducible rfl)), trivial⟩, (List.append_nil _).symm, by simp_all [refOp]⟩
                            · intro o hg
                              -- region 45
                              repeat (refine awp_seq ?_)
                              refine awp_region ?_
                              refine aops_gstart ?_
                              refine g_take 3 (by simp only [gsq, gs0, gs1, gs2, gcond, gop, SG, Op.operands, Call.operands, Array.toList_append, aop, LS, SS, SX, HS, mkS_cons, mkS_nil, ↓reduceIte, eq_self', List.map_nil, beq_self_eq_true, Nat.reduceEqDiff, Nat.reduceAdd, Nat.reduceMul, Nat.reduceLT, Nat.reduceLeDiff, Nat.reducePow, Nat.reduceDiv, Nat.reduceMod, Nat.succ_ne_self, Nat.reduceBEq, Nat.reduceBNe, vint, NdS, NdF, Int.cast_ofNat_Int, Int.reduceLT, Int.reduceLE, Int.reduceEq, Int.toNat_one, Int.toNat_zero, Int.reduceToNat, Int.reduceNeg, decide_true, decide_false, Int.natCast_one] <;> with_reducible rfl) (by decide) ?_
                              refine aops_gpure (by simp only [acall, gcond, SG, Op.operands, Call.operands, Array.toList_append, LS, SS, SX, HS, mkS_cons, mkS_nil, ↓reduceIte, eq_self', List.map_nil, beq_self_eq_true, Nat.reduceEqDiff, Nat.reduceAdd, Nat.reduceMul, Nat.reduceLT, Nat.reduceLeDiff, Nat.reducePow, Nat.reduceDiv, Nat.reduceMod, Nat.succ_ne_self, Nat.reduceBEq, Nat.reduceBNe, vint, NdS, NdF, Int.cast_ofNat_Int, Int.reduceLT, Int.reduceLE, Int.reduceEq, Int.toNat_one, Int.toNat_zero, Int.reduceToNat, Int.reduceNeg, decide_true, decide_false, Int.natCast_one] <;> with_reducible rfl) (by simp only [acall, gcond, SG, Op.operands, Call.operands, Array.toList_append, LS, SS, SX, HS, mkS_cons, mkS_nil, ↓reduceIte, eq_self', List.map_nil, beq_self_eq_true, Nat.reduceEqDiff, Nat.reduceAdd, Nat.reduceMul, Nat.reduceLT, Nat.reduceLeDiff, Nat.reducePow, Nat.reduceDiv, Nat.reduceMod, Nat.succ_ne_self, Nat.reduceBEq, Nat.reduceBNe, vint, NdS, NdF, Int.cast_ofNat_Int, Int.reduceLT, Int.reduceLE, Int.reduceEq, Int.toNat_one, Int.toNat_zero, Int.reduceToNat, Int.reduceNeg, decide_true, decide_false, Int.natCast_one] <;> with_reducible rfl) (by simp only [acall, gcond, SG, Op.operands, Call.operands, Array.toList_append, LS, SS, SX, HS, mkS_cons, mkS_nil, ↓reduceIte, eq_self', List.map_nil, beq_self_eq_true, Nat.reduceEqDiff, Nat.reduceAdd, Nat.reduceMul, Nat.reduceLT, Nat.reduceLeDiff, Nat.reducePow, Nat.reduceDiv, Nat.reduceMod, Nat.succ_ne_self, Nat.reduceBEq, Nat.reduceBNe, vint, NdS, NdF, Int.cast_ofNat_Int, Int.reduceLT, Int.reduceLE, Int.reduceEq, Int.toNat_one, Int.toNat_zero, Int.reduceToNat, Int.reduceNeg, decide_true, decide_false, Int.natCast_one]) (by decide) Trygo20 (fun hc => inRange (o.getD 0) (-2147483647) 2147483647 _) ?_
                              refine g_end (by simp only [gsq, gs0, gs1, gs2, gcond, gop, SG, Op.operands, Call.operands, Array.toList_append, aop, LS, SS, SX, HS, mkS_cons, mkS_nil, ↓reduceIte, eq_self', List.map_nil, beq_self_eq_true, Nat.reduceEqDiff, Nat.reduceAdd, Nat.reduceMul, Nat.reduceLT, Nat.reduceLeDiff, Nat.reducePow, Nat.reduceDiv, Nat.reduceMod, Nat.succ_ne_self, Nat.reduceBEq, Nat.reduceBNe, vint, NdS, NdF, Int.cast_ofNat_Int, Int.reduceLT, Int.reduceLE, Int.reduceEq, Int.toNat_one, Int.toNat_zero, Int.reduceToNat, Int.reduceNeg, decide_true, decide_false, Int.natCast_one] <;> with_reducible rfl) (by decide) (by repeat (first | exact Fin.base _ | with_reducible apply Fin.keep | apply Fin.drop)) ?_
                              repeat (refine awp_seq ?_)
                              refine awp_cond rfl (by simp only [LS, SS, SX, HS, mkS_cons, mkS_nil, ↓reduceIte, eq_self', List.map_nil, beq_self_eq_true, Nat.reduceEqDiff, Nat.reduceAdd, Nat.succ_ne_self, vint, NdS, NdF, Int.cast_ofNat_Int, Int.reduceLT, Int.reduceLE, Int.reduceEq, Int.toNat_one, Int.toNat_zero, Int.reduceToNat, Int.reduceNeg, decide_true, decide_false, Int.natCast_one] <;> with_reducible rfl) (fun b18 => ?_) (fun b18 => ?_)
                              · -- if t205
                                -- region 46
                                repeat (refine awp_seq ?_)
                                refine awp_region ?_
                                refine e_take 2 (by simp only [asq, as0, as1, as2, awanted, aop, aload, ajust, LS, SS, SX, HS, mkS_cons, mkS_nil, ↓reduceIte, eq_self', List.map_nil, beq_self_eq_true, Nat.reduceEqDiff, Nat.reduceAdd, Nat.reduceMul, Nat.reduceLT, Nat.reduceLeDiff, Nat.reducePow, Nat.reduceDiv, Nat.reduceMod, Nat.succ_ne_self, Nat.reduceBEq, Nat.reduceBNe, Tryti24, Trytf24, Trytz24, Trytp24, vint, NdS, NdF, Int.cast_ofNat_Int, Int.reduceLT, Int.reduceLE, Int.reduceEq, Int.toNat_one, Int.toNat_zero, Int.reduceToNat, Int.reduceNeg, decide_true, decide_false, Int.natCast_one] <;> with_reducible rfl) (by decide) ?_
                                refine aops_pure (by simp only [acall, awanted, LS, SS, SX, HS, mkS_cons, mkS_nil, ↓reduceIte, eq_self', List.map_nil, beq_self_eq_true, Nat.reduceEqDiff, Nat.reduceAdd, Nat.reduceMul, Nat.reduceLT, Nat.reduceLeDiff, Nat.reducePow, Nat.reduceDiv, Nat.reduceMod, Nat.succ_ne_self, Nat.reduceBEq, Nat.reduceBNe, vint, NdS, NdF, Int.cast_ofNat_Int, Int.reduceLT, Int.reduceLE, Int.reduceEq, Int.toNat_one, Int.toNat_zero, Int.reduceToNat, Int.reduceNeg, decide_true, decide_false, Int.natCast_one] <;> with_reducible rfl) (by simp only [acall, awanted, LS, SS, SX, HS, mkS_cons, mkS_nil, ↓reduceIte, eq_self', List.map_nil, beq_self_eq_true, Nat.reduceEqDiff, Nat.reduceAdd, Nat.reduceMul, Nat.reduceLT, Nat.reduceLeDiff, Nat.reducePow, Nat.reduceDiv, Nat.reduceMod, Nat.succ_ne_self, Nat.reduceBEq, Nat.reduceBNe, vint, NdS, NdF, Int.cast_ofNat_Int, Int.reduceLT, Int.reduceLE, Int.reduceEq, Int.toNat_one, Int.toNat_zero, Int.reduceToNat, Int.reduceNeg, decide_true, decide_false, Int.natCast_one]) (by decide) Trygo21 (literal_c (Nd.mk t.kind t.value t.text t.st t.en t.ns [c0, c1]) (o.getD 0) 1 (by omega) (by omega) _) ?_
                                refine e_end (by simp only [asq, as0, as1, as2, awanted, aop, astore, splice, LS, SS, SX, HS, mkS_cons, mkS_nil, ↓reduceIte, eq_self', List.map_nil, beq_self_eq_true, Nat.reduceEqDiff, Nat.reduceAdd, Nat.reduceMul, Nat.reduceLT, Nat.reduceLeDiff, Nat.reducePow, Nat.reduceDiv, Nat.reduceMod, Nat.succ_ne_self, Nat.reduceBEq, Nat.reduceBNe, Tryti24, Trytf24, Trytz24, Trytp24, vint, NdS, NdF, Int.cast_ofNat_Int, Int.reduceLT, Int.reduceLE, Int.reduceEq, Int.toNat_one, Int.toNat_zero, Int.reduceToNat, Int.reduceNeg, decide_true, decide_false, Int.natCast_one] <;> with_reducible rfl) (by decide) ?_
                                repeat (refine awp_seq ?_)
                                -- leaf 21 ret
                                refine awp_ret ⟨.inr rfl, _, (ares_cell 2 24 rfl Tryti24 (by decide) (by simp only [aload, LS, SS, SX, HS, mkS_cons, mkS_nil, ↓reduceIte, eq_self', List.map_nil, beq_self_eq_true, Nat.reduceEqDiff, Nat.reduceAdd, Nat.reduceMul, Nat.reduceLT, Nat.reduceLeDiff, Nat.reducePow, Nat.reduceDiv, Nat.reduceMod, Nat.succ_ne_self, Nat.reduceBEq, Nat.reduceBNe, vint, NdS, NdF, Int.cast_ofNat_Int, Int.reduceLT, Int.reduceLE, Int.reduceEq, Int.toNat_one, Int.toNat_zero, Int.reduceToNat, Int.reduceNeg, decide_true, decide_false, Int.natCast_one] <;> with_reducible rfl)), ?_⟩
                                first | (refine (Nd.enc_drop1 _).trans (congrArg Nd.enc ?_)) | (simp only [NdF, d1_agg, LS]; refine (Nd.enc_drop1 _).trans (congrArg Nd.enc ?_))
                                rw [hst]
                                have ht : (Nd.mk t.kind t.value t.text t.st t.en t.ns [c0, c1]).text = t.text := rfl
                                clear hst hf
                                generalize (Nd.mk t.kind t.value t.text t.st t.en t.ns [c0, c1]) = m at ht ⊢
                                clear w1 w2 w3 w4 hd hd2 hm hr0 hr1 hlen hw b0
                                simp at b9
                                unfold refBin rangeN
                                grind
                              · -- else t205
                                repeat (refine awp_seq ?_)
                                refine awp_skip ?_
                                -- region 47
                                repeat (refine awp_seq ?_)
                                refine e_eval (by simp only [asq, as0, as1, as2, awanted, aop, aload, ajust, astore, splice, LS, SS, SX, HS, mkS_cons, mkS_nil, ↓reduceIte, eq_self', List.map_nil, beq_self_eq_true, Nat.reduceEqDiff, Nat.reduceAdd, Nat.reduceMul, Nat.reduceLT, Nat.reduceLeDiff, Nat.reducePow, Nat.reduceDiv, Nat.reduceMod, Nat.succ_ne_self, Nat.reduceBEq, Nat.reduceBNe, Tryti24, Trytf24, Trytz24, Trytp24, vint, NdS, NdF, Int.cast_ofNat_Int, Int.reduceLT, Int.reduceLE, Int.reduceEq, Int.toNat_one, Int.toNat_zero, Int.reduceToNat, Int.reduceNeg, decide_true, decide_false, Int.natCast_one] <;> with_reducible rfl) (by decide) ?_
                                repeat (refine awp_seq ?_)
                                -- leaf 22 ret
                                refine awp_ret ⟨.inr rfl, _, (ares_cell 2 24 rfl Tryti24 (by decide) (by simp only [aload, LS, SS, SX, HS, mkS_cons, mkS_nil, ↓reduceIte, eq_self', List.map_nil, beq_self_eq_true, Nat.reduceEqDiff, Nat.reduceAdd, Nat.reduceMul, Nat.reduceLT, Nat.reduceLeDiff, Nat.reducePow, Nat.reduceDiv, Nat.reduceMod, Nat.succ_ne_self, Nat.reduceBEq, Nat.reduceBNe, vint, NdS, NdF, Int.cast_ofNat_Int, Int.reduceLT, Int.reduceLE, Int.reduceEq, Int.toNat_one, Int.toNat_zero, Int.reduceToNat, Int.reduceNeg, decide_true, decide_false, Int.natCast_one] <;> with_reducible rfl)), ?_⟩
                                first | (refine (Nd.enc_drop1 _).trans (congrArg Nd.enc ?_)) | (simp only [NdF, d1_agg, LS]; refine (Nd.enc_drop1 _).trans (congrArg Nd.enc ?_))
                                rw [hst]
                                have ht : (Nd.mk t.kind t.value t.text t.st t.en t.ns [c0, c1]).text = t.text := rfl
                                clear hst hf
                                generalize (Nd.mk t.kind t.value t.text t.st t.en t.ns [c0, c1]) = m at ht ⊢
                                clear w1 w2 w3 w4 hd hd2 hm hr0 hr1 hlen hw b0
                                simp at b9
                                unfold refBin rangeN
                                grind

theorem litV_0 : True := trivial
theorem intLitL (v : Int) : PC Try.prog 19 [vint v] (Nd.mk 27 v [] 0 0 (-1) []).enc := by
  refine pc_of (N := 5) Try.func19 rfl rfl (by simp) (by simp [Bel.int]) (Nd.bel _ _) ?_
  -- region 0
  repeat (refine awp_seq ?_)
  refine e_eval (by simp only [asq, as0, as1, as2, awanted, aop, LS, SS, SX, HS, mkS_cons, mkS_nil, ↓reduceIte, eq_self', List.map_nil, beq_self_eq_true, Nat.reduceEqDiff, Nat.reduceAdd, Nat.reduceMul, Nat.reduceLT, Nat.reduceLeDiff, Nat.reducePow, Nat.reduceDiv, Nat.reduceMod, Nat.succ_ne_self, Nat.reduceBEq, Nat.reduceBNe, Tryti24, Trytf24, Trytz24, Trytp24, vint, NdS, NdF] <;> with_reducible rfl) (by decide) ?_
  -- region 1
  repeat (refine awp_seq ?_)
  refine e_eval (by simp only [asq, as0, as1, as2, awanted, aop, abuild, splice, astore, LS, SS, SX, HS, mkS_cons, mkS_nil, ↓reduceIte, eq_self', List.map_nil, beq_self_eq_true, Nat.reduceEqDiff, Nat.reduceAdd, Nat.reduceMul, Nat.reduceLT, Nat.reduceLeDiff, Nat.reducePow, Nat.reduceDiv, Nat.reduceMod, Nat.succ_ne_self, Nat.reduceBEq, Nat.reduceBNe, Tryti24, Trytf24, Trytz24, Trytp24, vint, NdS, NdF] <;> with_reducible rfl) (by decide) ?_
  repeat (refine awp_seq ?_)
  -- leaf 0 ret
  refine awp_ret ⟨.inr rfl, _, (ares_cell 2 24 rfl Tryti24 (by decide) (by simp only [aload, LS, SS, SX, HS, mkS_cons, mkS_nil, ↓reduceIte, eq_self', List.map_nil, beq_self_eq_true, Nat.reduceEqDiff, Nat.reduceAdd, Nat.reduceMul, Nat.reduceLT, Nat.reduceLeDiff, Nat.reducePow, Nat.reduceDiv, Nat.reduceMod, Nat.succ_ne_self, Nat.reduceBEq, Nat.reduceBNe, vint, NdS, NdF] <;> with_reducible rfl)), ?_⟩
  exact Nd.enc_drop1 _

theorem binL (op : List UInt8) (a b : Nd) : PC Try.prog 18 [.str op, a.enc, b.enc] (Nd.mk 39 0 op 0 0 (-1) [a, b]).enc := by
  refine pc_of (N := 12) Try.func18 rfl rfl (by simp) (by simp [Bel.str, Nd.bel]) (Nd.bel _ _) ?_
  -- region 0
  repeat (refine awp_seq ?_)
  refine e_eval (by simp only [asq, as0, as1, as2, awanted, aop, LS, SS, SX, HS, mkS_cons, mkS_nil, ↓reduceIte, eq_self', List.map_nil, beq_self_eq_true, Nat.reduceEqDiff, Nat.reduceAdd, Nat.reduceMul, Nat.reduceLT, Nat.reduceLeDiff, Nat.reducePow, Nat.reduceDiv, Nat.reduceMod, Nat.succ_ne_self, Nat.reduceBEq, Nat.reduceBNe, Tryti24, Trytf24, Trytz24, Trytp24, vint, NdS, NdF] <;> with_reducible rfl) (by decide) ?_
  -- region 1
  repeat (refine awp_seq ?_)
  refine e_eval (by simp only [asq, as0, as1, as2, awanted, aop, aload, ajust, abuildS, abuild, splice, astore, LS, SS, SX, HS, mkS_cons, mkS_nil, ↓reduceIte, eq_self', List.map_nil, beq_self_eq_true, Nat.reduceEqDiff, Nat.reduceAdd, Nat.reduceMul, Nat.reduceLT, Nat.reduceLeDiff, Nat.reducePow, Nat.reduceDiv, Nat.reduceMod, Nat.succ_ne_self, Nat.reduceBEq, Nat.reduceBNe, Tryti22, Tryte22, Trytz22, Trytp22, Tryti24, Trytf24, Trytz24, Trytp24, vint, NdS, NdF] <;> with_reducible rfl) (by decide) ?_
  repeat (refine awp_seq ?_)
  -- leaf 0 ret
  refine awp_ret ⟨.inr rfl, _, (ares_cell 6 24 rfl Tryti24 (by decide) (by simp only [aload, LS, SS, SX, HS, mkS_cons, mkS_nil, ↓reduceIte, eq_self', List.map_nil, beq_self_eq_true, Nat.reduceEqDiff, Nat.reduceAdd, Nat.reduceMul, Nat.reduceLT, Nat.reduceLeDiff, Nat.reducePow, Nat.reduceDiv, Nat.reduceMod, Nat.succ_ne_self, Nat.reduceBEq, Nat.reduceBNe, vint, NdS, NdF] <;> with_reducible rfl)), ?_⟩
  exact Nd.enc_drop1 _

theorem constfoldWorksL : PC Try.prog 13 [] (.bool true) := by
  refine pc_of (N := 25) Try.func13 rfl rfl (by simp) (by simp) (.bool _) ?_
  -- region 0
  repeat (refine awp_seq ?_)
  refine e_eval (by simp only [asq, as0, as1, as2, awanted, aop, LS, SS, SX, HS, mkS_cons, mkS_nil, ↓reduceIte, eq_self', List.map_nil, beq_self_eq_true, Nat.reduceEqDiff, Nat.reduceAdd, Nat.reduceMul, Nat.reduceLT, Nat.reduceLeDiff, Nat.reducePow, Nat.reduceDiv, Nat.reduceMod, Nat.succ_ne_self, Nat.reduceBEq, Nat.reduceBNe, vint, NdS, NdF, Int.cast_ofNat_Int, Int.reduceLT, Int.reduceLE, Int.reduceEq, Int.toNat_one, Int.toNat_zero, Int.reduceToNat, Int.reduceNeg, decide_true, decide_false] <;> with_reducible rfl) (by decide) ?_
  -- region 1
  repeat (refine awp_seq ?_)
  refine awp_region ?_
  refine aops_pure (by simp only [acall, awanted, LS, SS, SX, HS, mkS_cons, mkS_nil, ↓reduceIte, eq_self', List.map_nil, beq_self_eq_true, Nat.reduceEqDiff, Nat.reduceAdd, Nat.reduceMul, Nat.reduceLT, Nat.reduceLeDiff, Nat.reducePow, Nat.reduceDiv, Nat.reduceMod, Nat.succ_ne_self, Nat.reduceBEq, Nat.reduceBNe, vint, NdS, NdF, Int.cast_ofNat_Int, Int.reduceLT, Int.reduceLE, Int.reduceEq, Int.toNat_one, Int.toNat_zero, Int.reduceToNat, Int.reduceNeg, decide_true, decide_false, cw_fold, cw_val] <;> with_reducible rfl) (by simp only [acall, awanted, LS, SS, SX, HS, mkS_cons, mkS_nil, ↓reduceIte, eq_self', List.map_nil, beq_self_eq_true, Nat.reduceEqDiff, Nat.reduceAdd, Nat.reduceMul, Nat.reduceLT, Nat.reduceLeDiff, Nat.reducePow, Nat.reduceDiv, Nat.reduceMod, Nat.succ_ne_self, Nat.reduceBEq, Nat.reduceBNe, vint, NdS, NdF, Int.cast_ofNat_Int, Int.reduceLT, Int.reduceLE, Int.reduceEq, Int.toNat_one, Int.toNat_zero, Int.reduceToNat, Int.reduceNeg, decide_true, decide_false, cw_fold, cw_val]) (by decide) Trygo19 (intLitL 1 _) ?_
  refine aops_pure (by simp only [acall, awanted, LS, SS, SX, HS, mkS_cons, mkS_nil, ↓reduceIte, eq_self', List.map_nil, beq_self_eq_true, Nat.reduceEqDiff, Nat.reduceAdd, Nat.reduceMul, Nat.reduceLT, Nat.reduceLeDiff, Nat.reducePow, Nat.reduceDiv, Nat.reduceMod, Nat.succ_ne_self, Nat.reduceBEq, Nat.reduceBNe, vint, NdS, NdF, Int.cast_ofNat_Int, Int.reduceLT, Int.reduceLE, Int.reduceEq, Int.toNat_one, Int.toNat_zero, Int.reduceToNat, Int.reduceNeg, decide_true, decide_false, cw_fold, cw_val] <;> with_reducible rfl) (by simp only [acall, awanted, LS, SS, SX, HS, mkS_cons, mkS_nil, ↓reduceIte, eq_self', List.map_nil, beq_self_eq_true, Nat.reduceEqDiff, Nat.reduceAdd, Nat.reduceMul, Nat.reduceLT, Nat.reduceLeDiff, Nat.reducePow, Nat.reduceDiv, Nat.reduceMod, Nat.succ_ne_self, Nat.reduceBEq, Nat.reduceBNe, vint, NdS, NdF, Int.cast_ofNat_Int, Int.reduceLT, Int.reduceLE, Int.reduceEq, Int.toNat_one, Int.toNat_zero, Int.reduceToNat, Int.reduceNeg, decide_true, decide_false, cw_fold, cw_val]) (by decide) Trygo19 (intLitL 2 _) ?_
  refine aops_pure (by simp only [acall, awanted, LS, SS, SX, HS, mkS_cons, mkS_nil, ↓reduceIte, eq_self', List.map_nil, beq_self_eq_true, Nat.reduceEqDiff, Nat.reduceAdd, Nat.reduceMul, Nat.reduceLT, Nat.reduceLeDiff, Nat.reducePow, Nat.reduceDiv, Nat.reduceMod, Nat.succ_ne_self, Nat.reduceBEq, Nat.reduceBNe, vint, NdS, NdF, Int.cast_ofNat_Int, Int.reduceLT, Int.reduceLE, Int.reduceEq, Int.toNat_one, Int.toNat_zero, Int.reduceToNat, Int.reduceNeg, decide_true, decide_false, cw_fold, cw_val] <;> with_reducible rfl) (by simp only [acall, awanted, LS, SS, SX, HS, mkS_cons, mkS_nil, ↓reduceIte, eq_self', List.map_nil, beq_self_eq_true, Nat.reduceEqDiff, Nat.reduceAdd, Nat.reduceMul, Nat.reduceLT, Nat.reduceLeDiff, Nat.reducePow, Nat.reduceDiv, Nat.reduceMod, Nat.succ_ne_self, Nat.reduceBEq, Nat.reduceBNe, vint, NdS, NdF, Int.cast_ofNat_Int, Int.reduceLT, Int.reduceLE, Int.reduceEq, Int.toNat_one, Int.toNat_zero, Int.reduceToNat, Int.reduceNeg, decide_true, decide_false, cw_fold, cw_val]) (by decide) Trygo19 (intLitL 3 _) ?_
  refine aops_pure (by simp only [acall, awanted, LS, SS, SX, HS, mkS_cons, mkS_nil, ↓reduceIte, eq_self', List.map_nil, beq_self_eq_true, Nat.reduceEqDiff, Nat.reduceAdd, Nat.reduceMul, Nat.reduceLT, Nat.reduceLeDiff, Nat.reducePow, Nat.reduceDiv, Nat.reduceMod, Nat.succ_ne_self, Nat.reduceBEq, Nat.reduceBNe, vint, NdS, NdF, Int.cast_ofNat_Int, Int.reduceLT, Int.reduceLE, Int.reduceEq, Int.toNat_one, Int.toNat_zero, Int.reduceToNat, Int.reduceNeg, decide_true, decide_false, cw_fold, cw_val] <;> with_reducible rfl) (by simp only [acall, awanted, LS, SS, SX, HS, mkS_cons, mkS_nil, ↓reduceIte, eq_self', List.map_nil, beq_self_eq_true, Nat.reduceEqDiff, Nat.reduceAdd, Nat.reduceMul, Nat.reduceLT, Nat.reduceLeDiff, Nat.reducePow, Nat.reduceDiv, Nat.reduceMod, Nat.succ_ne_self, Nat.reduceBEq, Nat.reduceBNe, vint, NdS, NdF, Int.cast_ofNat_Int, Int.reduceLT, Int.reduceLE, Int.reduceEq, Int.toNat_one, Int.toNat_zero, Int.reduceToNat, Int.reduceNeg, decide_true, decide_false, cw_fold, cw_val]) (by decide) Trygo18 (binL [42] (Nd.mk 27 2 [] 0 0 (-1) []) (Nd.mk 27 3 [] 0 0 (-1) []) _) ?_
  refine aops_pure (by simp only [acall, awanted, LS, SS, SX, HS, mkS_cons, mkS_nil, ↓reduceIte, eq_self', List.map_nil, beq_self_eq_true, Nat.reduceEqDiff, Nat.reduceAdd, Nat.reduceMul, Nat.reduceLT, Nat.reduceLeDiff, Nat.reducePow, Nat.reduceDiv, Nat.reduceMod, Nat.succ_ne_self, Nat.reduceBEq, Nat.reduceBNe, vint, NdS, NdF, Int.cast_ofNat_Int, Int.reduceLT, Int.reduceLE, Int.reduceEq, Int.toNat_one, Int.toNat_zero, Int.reduceToNat, Int.reduceNeg, decide_true, decide_false, cw_fold, cw_val] <;> with_reducible rfl) (by simp only [acall, awanted, LS, SS, SX, HS, mkS_cons, mkS_nil, ↓reduceIte, eq_self', List.map_nil, beq_self_eq_true, Nat.reduceEqDiff, Nat.reduceAdd, Nat.reduceMul, Nat.reduceLT, Nat.reduceLeDiff, Nat.reducePow, Nat.reduceDiv, Nat.reduceMod, Nat.succ_ne_self, Nat.reduceBEq, Nat.reduceBNe, vint, NdS, NdF, Int.cast_ofNat_Int, Int.reduceLT, Int.reduceLE, Int.reduceEq, Int.toNat_one, Int.toNat_zero, Int.reduceToNat, Int.reduceNeg, decide_true, decide_false, cw_fold, cw_val]) (by decide) Trygo18 (binL [43] (Nd.mk 27 1 [] 0 0 (-1) []) (Nd.mk 39 0 [42] 0 0 (-1) [Nd.mk 27 2 [] 0 0 (-1) [], Nd.mk 27 3 [] 0 0 (-1) []]) _) ?_
  refine aops_pure (by simp only [acall, awanted, LS, SS, SX, HS, mkS_cons, mkS_nil, ↓reduceIte, eq_self', List.map_nil, beq_self_eq_true, Nat.reduceEqDiff, Nat.reduceAdd, Nat.reduceMul, Nat.reduceLT, Nat.reduceLeDiff, Nat.reducePow, Nat.reduceDiv, Nat.reduceMod, Nat.succ_ne_self, Nat.reduceBEq, Nat.reduceBNe, vint, NdS, NdF, Int.cast_ofNat_Int, Int.reduceLT, Int.reduceLE, Int.reduceEq, Int.toNat_one, Int.toNat_zero, Int.reduceToNat, Int.reduceNeg, decide_true, decide_false, cw_fold, cw_val] <;> with_reducible rfl) (by simp only [acall, awanted, LS, SS, SX, HS, mkS_cons, mkS_nil, ↓reduceIte, eq_self', List.map_nil, beq_self_eq_true, Nat.reduceEqDiff, Nat.reduceAdd, Nat.reduceMul, Nat.reduceLT, Nat.reduceLeDiff, Nat.reducePow, Nat.reduceDiv, Nat.reduceMod, Nat.succ_ne_self, Nat.reduceBEq, Nat.reduceBNe, vint, NdS, NdF, Int.cast_ofNat_Int, Int.reduceLT, Int.reduceLE, Int.reduceEq, Int.toNat_one, Int.toNat_zero, Int.reduceToNat, Int.reduceNeg, decide_true, decide_false, cw_fold, cw_val]) (by decide) Trygo19 (intLitL 8 _) ?_
  refine aops_pure (by simp only [acall, awanted, LS, SS, SX, HS, mkS_cons, mkS_nil, ↓reduceIte, eq_self', List.map_nil, beq_self_eq_true, Nat.reduceEqDiff, Nat.reduceAdd, Nat.reduceMul, Nat.reduceLT, Nat.reduceLeDiff, Nat.reducePow, Nat.reduceDiv, Nat.reduceMod, Nat.succ_ne_self, Nat.reduceBEq, Nat.reduceBNe, vint, NdS, NdF, Int.cast_ofNat_Int, Int.reduceLT, Int.reduceLE, Int.reduceEq, Int.toNat_one, Int.toNat_zero, Int.reduceToNat, Int.reduceNeg, decide_true, decide_false, cw_fold, cw_val] <;> with_reducible rfl) (by simp only [acall, awanted, LS, SS, SX, HS, mkS_cons, mkS_nil, ↓reduceIte, eq_self', List.map_nil, beq_self_eq_true, Nat.reduceEqDiff, Nat.reduceAdd, Nat.reduceMul, Nat.reduceLT, Nat.reduceLeDiff, Nat.reducePow, Nat.reduceDiv, Nat.reduceMod, Nat.succ_ne_self, Nat.reduceBEq, Nat.reduceBNe, vint, NdS, NdF, Int.cast_ofNat_Int, Int.reduceLT, Int.reduceLE, Int.reduceEq, Int.toNat_one, Int.toNat_zero, Int.reduceToNat, Int.reduceNeg, decide_true, decide_false, cw_fold, cw_val]) (by decide) Trygo18 (binL [60] (Nd.mk 39 0 [43] 0 0 (-1) [Nd.mk 27 1 [] 0 0 (-1) [], Nd.mk 39 0 [42] 0 0 (-1) [Nd.mk 27 2 [] 0 0 (-1) [], Nd.mk 27 3 [] 0 0 (-1) []]]) (Nd.mk 27 8 [] 0 0 (-1) []) _) ?_
  refine aops_pure (by simp only [acall, awanted, LS, SS, SX, HS, mkS_cons, mkS_nil, ↓reduceIte, eq_self', List.map_nil, beq_self_eq_true, Nat.reduceEqDiff, Nat.reduceAdd, Nat.reduceMul, Nat.reduceLT, Nat.reduceLeDiff, Nat.reducePow, Nat.reduceDiv, Nat.reduceMod, Nat.succ_ne_self, Nat.reduceBEq, Nat.reduceBNe, vint, NdS, NdF, Int.cast_ofNat_Int, Int.reduceLT, Int.reduceLE, Int.reduceEq, Int.toNat_one, Int.toNat_zero, Int.reduceToNat, Int.reduceNeg, decide_true, decide_false, cw_fold, cw_val] <;> with_reducible rfl) (by simp only [acall, awanted, LS, SS, SX, HS, mkS_cons, mkS_nil, ↓reduceIte, eq_self', List.map_nil, beq_self_eq_true, Nat.reduceEqDiff, Nat.reduceAdd, Nat.reduceMul, Nat.reduceLT, Nat.reduceLeDiff, Nat.reducePow, Nat.reduceDiv, Nat.reduceMod, Nat.succ_ne_self, Nat.reduceBEq, Nat.reduceBNe, vint, NdS, NdF, Int.cast_ofNat_Int, Int.reduceLT, Int.reduceLE, Int.reduceEq, Int.toNat_one, Int.toNat_zero, Int.reduceToNat, Int.reduceNeg, decide_true, decide_false, cw_fold, cw_val]) (by decide) Trygo7 (fold_k _ (Nd.mk 39 0 [60] 0 0 (-1) [Nd.mk 39 0 [43] 0 0 (-1) [Nd.mk 27 1 [] 0 0 (-1) [], Nd.mk 39 0 [42] 0 0 (-1) [Nd.mk 27 2 [] 0 0 (-1) [], Nd.mk 27 3 [] 0 0 (-1) []]], Nd.mk 27 8 [] 0 0 (-1) []]) (Nat.le_refl _) (by simp [Nd.W_iff]) _) ?_
  refine aops_pure (by simp only [acall, awanted, LS, SS, SX, HS, mkS_cons, mkS_nil, ↓reduceIte, eq_self', List.map_nil, beq_self_eq_true, Nat.reduceEqDiff, Nat.reduceAdd, Nat.reduceMul, Nat.reduceLT, Nat.reduceLeDiff, Nat.reducePow, Nat.reduceDiv, Nat.reduceMod, Nat.succ_ne_self, Nat.reduceBEq, Nat.reduceBNe, vint, NdS, NdF, Int.cast_ofNat_Int, Int.reduceLT, Int.reduceLE, Int.reduceEq, Int.toNat_one, Int.toNat_zero, Int.reduceToNat, Int.reduceNeg, decide_true, decide_false, cw_fold, cw_val] <;> with_reducible rfl) (by simp only [acall, awanted, LS, SS, SX, HS, mkS_cons, mkS_nil, ↓reduceIte, eq_self', List.map_nil, beq_self_eq_true, Nat.reduceEqDiff, Nat.reduceAdd, Nat.reduceMul, Nat.reduceLT, Nat.reduceLeDiff, Nat.reducePow, Nat.reduceDiv, Nat.reduceMod, Nat.succ_ne_self, Nat.reduceBEq, Nat.reduceBNe, vint, NdS, NdF, Int.cast_ofNat_Int, Int.reduceLT, Int.reduceLE, Int.reduceEq, Int.toNat_one, Int.toNat_zero, Int.reduceToNat, Int.reduceNeg, decide_true, decide_false, cw_fold, cw_val]) (by decide) Trygo11 (value_c (Nd.mk 28 1 [] 0 0 (-1) []) _) ?_
  refine e_end (by simp only [asq, as0, as1, as2, awanted, aop, ajust, LS, SS, SX, HS, mkS_cons, mkS_nil, ↓reduceIte, eq_self', List.map_nil, beq_self_eq_true, Nat.reduceEqDiff, Nat.reduceAdd, Nat.reduceMul, Nat.reduceLT, Nat.reduceLeDiff, Nat.reducePow, Nat.reduceDiv, Nat.reduceMod, Nat.succ_ne_self, Nat.reduceBEq, Nat.reduceBNe, vint, NdS, NdF, Int.cast_ofNat_Int, Int.reduceLT, Int.reduceLE, Int.reduceEq, Int.toNat_one, Int.toNat_zero, Int.reduceToNat, Int.reduceNeg, decide_true, decide_false, cw_fold, cw_val] <;> with_reducible rfl) (by decide) ?_
  refine awp_sel [1, 2, 3] (by simp only [LS, SS, SX, HS, mkS_cons, mkS_nil, ↓reduceIte, eq_self', List.map_nil, beq_self_eq_true, Nat.reduceEqDiff, Nat.reduceAdd, Nat.succ_ne_self, vint, NdS, NdF, Int.cast_ofNat_Int, Int.reduceLT, Int.reduceLE, Int.reduceEq, Int.toNat_one, Int.toNat_zero, Int.reduceToNat, Int.reduceNeg, decide_true, decide_false] <;> with_reducible rfl) ?_
  -- region 2
  repeat (refine awp_seq ?_)
  refine g_eval (by simp only [gsq, gs0, gs1, gs2, gcond, gop, SG, Op.operands, Call.operands, Array.toList_append, aop, abin, ajust, LS, SS, SX, HS, mkS_cons, mkS_nil, ↓reduceIte, eq_self', List.map_nil, beq_self_eq_true, Nat.reduceEqDiff, Nat.reduceAdd, Nat.reduceMul, Nat.reduceLT, Nat.reduceLeDiff, Nat.reducePow, Nat.reduceDiv, Nat.reduceMod, Nat.succ_ne_self, Nat.reduceBEq, Nat.reduceBNe, Tryti3, Trytz3, Trytp3, Trytk3, vint, NdS, NdF, Int.cast_ofNat_Int, Int.reduceLT, Int.reduceLE, Int.reduceEq, Int.toNat_one, Int.toNat_zero, Int.reduceToNat, Int.reduceNeg, decide_true, decide_false, cw_val] <;> with_reducible rfl) (by decide) (by repeat (first | exact Fin.base _ | with_reducible apply Fin.keep | apply Fin.drop)) ?_
  repeat (refine awp_seq ?_)
  -- leaf 0 ret
  refine awp_ret ⟨.inr rfl, _, rfl, ?_⟩
  simp only [LS, SS, SX, HS, mkS_cons, mkS_nil, ↓reduceIte, eq_self', List.map_nil, beq_self_eq_true, Nat.reduceEqDiff, Nat.reduceAdd, Nat.succ_ne_self, vint, NdS, NdF]

theorem law_foldref (t : Nd) (ht : t.W) : PC Try.prog 5 [t.enc] (.bool true) := by
  have hs := Nd.eqb_self (foldN t)
  have hW := fold_W t ht
  have h3 : (litV t).2.1 = decide (sortV t = 2) := by
    unfold sortV litV
    grind
  have h4 : (litV t).2.2 = !decide (sortV t = 0) := by
    unfold sortV litV
    grind
  refine pc_of (N := 43) Try.func5 rfl rfl (by simp) (by simp [Nd.bel]) (.bool _) ?_
  -- region 0
  repeat (refine awp_seq ?_)
  refine e_eval (by simp only [asq, as0, as1, as2, awanted, aop, LS, SS, SX, HS, mkS_cons, mkS_nil, ↓reduceIte, eq_self', List.map_nil, beq_self_eq_true, Nat.reduceEqDiff, Nat.reduceAdd, Nat.reduceMul, Nat.reduceLT, Nat.reduceLeDiff, Nat.reducePow, Nat.reduceDiv, Nat.reduceMod, Nat.succ_ne_self, Nat.reduceBEq, Nat.reduceBNe, Tryti24, Trytf24, Trytz24, Trytp24, vint, NdS, NdF, Bool.not_true, Int.cast_ofNat_Int, Int.reduceLT, Int.reduceLE, Int.reduceEq, Int.toNat_one, Int.toNat_zero, Int.reduceToNat, Int.reduceNeg, decide_true, decide_false] <;> with_reducible rfl) (by decide) ?_
  -- region 1
  repeat (refine awp_seq ?_)
  refine awp_region ?_
  refine aops_pure (by simp only [acall, awanted, LS, SS, SX, HS, mkS_cons, mkS_nil, ↓reduceIte, eq_self', List.map_nil, beq_self_eq_true, Nat.reduceEqDiff, Nat.reduceAdd, Nat.reduceMul, Nat.reduceLT, Nat.reduceLeDiff, Nat.reducePow, Nat.reduceDiv, Nat.reduceMod, Nat.succ_ne_self, Nat.reduceBEq, Nat.reduceBNe, vint, NdS, NdF, Bool.not_true, Int.cast_ofNat_Int, Int.reduceLT, Int.reduceLE, Int.reduceEq, Int.toNat_one, Int.toNat_zero, Int.reduceToNat, Int.reduceNeg, decide_true, decide_false] <;> with_reducible rfl) (by simp only [acall, awanted, LS, SS, SX, HS, mkS_cons, mkS_nil, ↓reduceIte, eq_self', List.map_nil, beq_self_eq_true, Nat.reduceEqDiff, Nat.reduceAdd, Nat.reduceMul, Nat.reduceLT, Nat.reduceLeDiff, Nat.reducePow, Nat.reduceDiv, Nat.reduceMod, Nat.succ_ne_self, Nat.reduceBEq, Nat.reduceBNe, vint, NdS, NdF, Bool.not_true, Int.cast_ofNat_Int, Int.reduceLT, Int.reduceLE, Int.reduceEq, Int.toNat_one, Int.toNat_zero, Int.reduceToNat, Int.reduceNeg, decide_true, decide_false]) (by decide) Trygo13 (constfoldWorksL _) ?_
  refine e_end (by simp only [asq, as0, as1, as2, awanted, aop, aun, ajust, LS, SS, SX, HS, mkS_cons, mkS_nil, ↓reduceIte, eq_self', List.map_nil, beq_self_eq_true, Nat.reduceEqDiff, Nat.reduceAdd, Nat.reduceMul, Nat.reduceLT, Nat.reduceLeDiff, Nat.reducePow, Nat.reduceDiv, Nat.reduceMod, Nat.succ_ne_self, Nat.reduceBEq, Nat.reduceBNe, vint, NdS, NdF, Bool.not_true, Int.cast_ofNat_Int, Int.reduceLT, Int.reduceLE, Int.reduceEq, Int.toNat_one, Int.toNat_zero, Int.reduceToNat, Int.reduceNeg, decide_true, decide_false] <;> with_reducible rfl) (by decide) ?_
  repeat (refine awp_seq ?_)
  refine awp_cond_false rfl (by simp only [LS, SS, SX, HS, mkS_cons, mkS_nil, ↓reduceIte, eq_self', List.map_nil, beq_self_eq_true, Nat.reduceEqDiff, Nat.reduceAdd, Nat.succ_ne_self, vint, NdS, NdF, Bool.not_true, Int.cast_ofNat_Int, Int.reduceLT, Int.reduceLE, Int.reduceEq, Int.toNat_one, Int.toNat_zero, Int.reduceToNat, Int.reduceNeg, decide_true, decide_false] <;> with_reducible rfl) ?_
  repeat (refine awp_seq ?_)
  refine awp_skip ?_
  -- region 3
  repeat (refine awp_seq ?_)
  refine awp_region ?_
  refine e_take 1 (by simp only [asq, as0, as1, as2, awanted, aop, aload, ajust, LS, SS, SX, HS, mkS_cons, mkS_nil, ↓reduceIte, eq_self', List.map_nil, beq_self_eq_true, Nat.reduceEqDiff, Nat.reduceAdd, Nat.reduceMul, Nat.reduceLT, Nat.reduceLeDiff, Nat.reducePow, Nat.reduceDiv, Nat.reduceMod, Nat.succ_ne_self, Nat.reduceBEq, Nat.reduceBNe, Tryti24, Trytf24, Trytz24, Trytp24, vint, NdS, NdF, Bool.not_true, Int.cast_ofNat_Int, Int.reduceLT, Int.reduceLE, Int.reduceEq, Int.toNat_one, Int.toNat_zero, Int.reduceToNat, Int.reduceNeg, decide_true, decide_false] <;> with_reducible rfl) (by decide) ?_
  refine aops_pure (by simp only [acall, awanted, LS, SS, SX, HS, mkS_cons, mkS_nil, ↓reduceIte, eq_self', List.map_nil, beq_self_eq_true, Nat.reduceEqDiff, Nat.reduceAdd, Nat.reduceMul, Nat.reduceLT, Nat.reduceLeDiff, Nat.reducePow, Nat.reduceDiv, Nat.reduceMod, Nat.succ_ne_self, Nat.reduceBEq, Nat.reduceBNe, vint, NdS, NdF, Bool.not_true, Int.cast_ofNat_Int, Int.reduceLT, Int.reduceLE, Int.reduceEq, Int.toNat_one, Int.toNat_zero, Int.reduceToNat, Int.reduceNeg, decide_true, decide_false] <;> with_reducible rfl) (by simp only [acall, awanted, LS, SS, SX, HS, mkS_cons, mkS_nil, ↓reduceIte, eq_self', List.map_nil, beq_self_eq_true, Nat.reduceEqDiff, Nat.reduceAdd, Nat.reduceMul, Nat.reduceLT, Nat.reduceLeDiff, Nat.reducePow, Nat.reduceDiv, Nat.reduceMod, Nat.succ_ne_self, Nat.reduceBEq, Nat.reduceBNe, vint, NdS, NdF, Bool.not_true, Int.cast_ofNat_Int, Int.reduceLT, Int.reduceLE, Int.reduceEq, Int.toNat_one, Int.toNat_zero, Int.reduceToNat, Int.reduceNeg, decide_true, decide_false]) (by decide) Trygo11 (value_c t _) ?_
  refine e_end (by simp only [asq, as0, as1, as2, awanted, aop, ajust, LS, SS, SX, HS, mkS_cons, mkS_nil, ↓reduceIte, eq_self', List.map_nil, beq_self_eq_true, Nat.reduceEqDiff, Nat.reduceAdd, Nat.reduceMul, Nat.reduceLT, Nat.reduceLeDiff, Nat.reducePow, Nat.reduceDiv, Nat.reduceMod, Nat.succ_ne_self, Nat.reduceBEq, Nat.reduceBNe, vint, NdS, NdF, Bool.not_true, Int.cast_ofNat_Int, Int.reduceLT, Int.reduceLE, Int.reduceEq, Int.toNat_one, Int.toNat_zero, Int.reduceToNat, Int.reduceNeg, decide_true, decide_false] <;> with_reducible rfl) (by decide) ?_
  -- region 4
  repeat (refine awp_seq ?_)
  refine awp_region ?_
  refine e_take 1 (by simp only [asq, as0, as1, as2, awanted, aop, aload, ajust, LS, SS, SX, HS, mkS_cons, mkS_nil, ↓reduceIte, eq_self', List.map_nil, beq_self_eq_true, Nat.reduceEqDiff, Nat.reduceAdd, Nat.reduceMul, Nat.reduceLT, Nat.reduceLeDiff, Nat.reducePow, Nat.reduceDiv, Nat.reduceMod, Nat.succ_ne_self, Nat.reduceBEq, Nat.reduceBNe, Tryti24, Trytf24, Trytz24, Trytp24, vint, NdS, NdF, Bool.not_true, Int.cast_ofNat_Int, Int.reduceLT, Int.reduceLE, Int.reduceEq, Int.toNat_one, Int.toNat_zero, Int.reduceToNat, Int.reduceNeg, decide_true, decide_false] <;> with_reducible rfl) (by decide) ?_
  refine aops_pure (by simp only [acall, awanted, LS, SS, SX, HS, mkS_cons, mkS_nil, ↓reduceIte, eq_self', List.map_nil, beq_self_eq_true, Nat.reduceEqDiff, Nat.reduceAdd, Nat.reduceMul, Nat.reduceLT, Nat.reduceLeDiff, Nat.reducePow, Nat.reduceDiv, Nat.reduceMod, Nat.succ_ne_self, Nat.reduceBEq, Nat.reduceBNe, vint, NdS, NdF, Bool.not_true, Int.cast_ofNat_Int, Int.reduceLT, Int.reduceLE, Int.reduceEq, Int.toNat_one, Int.toNat_zero, Int.reduceToNat, Int.reduceNeg, decide_true, decide_false] <;> with_reducible rfl) (by simp only [acall, awanted, LS, SS, SX, HS, mkS_cons, mkS_nil, ↓reduceIte, eq_self', List.map_nil, beq_self_eq_true, Nat.reduceEqDiff, Nat.reduceAdd, Nat.reduceMul, Nat.reduceLT, Nat.reduceLeDiff, Nat.reducePow, Nat.reduceDiv, Nat.reduceMod, Nat.succ_ne_self, Nat.reduceBEq, Nat.reduceBNe, vint, NdS, NdF, Bool.not_true, Int.cast_ofNat_Int, Int.reduceLT, Int.reduceLE, Int.reduceEq, Int.toNat_one, Int.toNat_zero, Int.reduceToNat, Int.reduceNeg, decide_true, decide_false]) (by decide) Trygo14 (litval_c t _) ?_
  refine e_end (by simp only [asq, as0, as1, as2, awanted, aop, ajust, LS, SS, SX, HS, mkS_cons, mkS_nil, ↓reduceIte, eq_self', List.map_nil, beq_self_eq_true, Nat.reduceEqDiff, Nat.reduceAdd, Nat.reduceMul, Nat.reduceLT, Nat.reduceLeDiff, Nat.reducePow, Nat.reduceDiv, Nat.reduceMod, Nat.succ_ne_self, Nat.reduceBEq, Nat.reduceBNe, vint, NdS, NdF, Bool.not_true, Int.cast_ofNat_Int, Int.reduceLT, Int.reduceLE, Int.reduceEq, Int.toNat_one, Int.toNat_zero, Int.reduceToNat, Int.reduceNeg, decide_true, decide_false] <;> with_reducible rfl) (by decide) ?_
  refine awp_sel [1, 3, 4, 5, 6, 7] (by simp only [LS, SS, SX, HS, mkS_cons, mkS_nil, ↓reduceIte, eq_self', List.map_nil, beq_self_eq_true, Nat.reduceEqDiff, Nat.reduceAdd, Nat.succ_ne_self, vint, NdS, NdF, Bool.not_true, Int.cast_ofNat_Int, Int.reduceLT, Int.reduceLE, Int.reduceEq, Int.toNat_one, Int.toNat_zero, Int.reduceToNat, Int.reduceNeg, decide_true, decide_false] <;> with_reducible rfl) ?_
  -- region 5
  repeat (refine awp_seq ?_)
  refine awp_drawW 0 (by kernel_rfl) ?_
  refine dops_gstart ?_
  refine gd_take (bm := [0, 0, 3, 7, 15, 15, 47, 127, 255, 511, 1023, 1023, 3071, 8191, 16383, 32767, 65535, 131071, 65535, 524287, 1048575, 2097151, 4194303]) 17 (fresh := 0) (by kernel_rfl) (by simp only [gdq, gd0, gd1, gd2, gd3, gcond, gop, SG, Op.operands, Call.operands, Array.toList_append, hapB, effIds, effSet, nextFresh, ard, freshOk, isUnborn, aop, abin, ajust, aload, LS, SS, SX, HS, mkS_cons, mkS_nil, ↓reduceIte, eq_self', List.map_nil, beq_self_eq_true, Nat.reduceEqDiff, Nat.reduceAdd, Nat.reduceMul, Nat.reduceLT, Nat.reduceLeDiff, Nat.reducePow, Nat.reduceDiv, Nat.reduceMod, Nat.succ_ne_self, Nat.reduceBEq, Nat.reduceBNe, Tryti3, Trytz3, Trytp3, Trytk3, Tryti4, Trytz4, Trytp4, Trytb4, Tryti24, Trytf24, Trytz24, Trytp24, vint, NdS, NdF, Bool.not_true, Int.cast_ofNat_Int, Int.reduceLT, Int.reduceLE, Int.reduceEq, Int.toNat_one, Int.toNat_zero, Int.reduceToNat, Int.reduceNeg, decide_true, decide_false, hs] <;> with_reducible rfl) (by decide) (by decide) ?_
  refine dops_gkeep (bm := [0, 0, 3, 7, 15, 15, 47, 127, 255, 511, 1023, 1023, 3071, 8191, 16383, 32767, 65535, 131071, 65535, 524287, 1048575, 2097151, 4194303]) ([]) (by kernel_rfl) (by simp only [acall, gcond, SG, Op.operands, Call.operands, Array.toList_append, LS, SS, SX, HS, mkS_cons, mkS_nil, ↓reduceIte, eq_self', List.map_nil, beq_self_eq_true, Nat.reduceEqDiff, Nat.reduceAdd, Nat.reduceMul, Nat.reduceLT, Nat.reduceLeDiff, Nat.reducePow, Nat.reduceDiv, Nat.reduceMod, Nat.succ_ne_self, Nat.reduceBEq, Nat.reduceBNe, vint, NdS, NdF, Bool.not_true, Int.cast_ofNat_Int, Int.reduceLT, Int.reduceLE, Int.reduceEq, Int.toNat_one, Int.toNat_zero, Int.reduceToNat, Int.reduceNeg, decide_true, decide_false, hs] <;> with_reducible rfl) (by simp only [acall, gcond, SG, Op.operands, Call.operands, Array.toList_append, LS, SS, SX, HS, mkS_cons, mkS_nil, ↓reduceIte, eq_self', List.map_nil, beq_self_eq_true, Nat.reduceEqDiff, Nat.reduceAdd, Nat.reduceMul, Nat.reduceLT, Nat.reduceLeDiff, Nat.reducePow, Nat.reduceDiv, Nat.reduceMod, Nat.succ_ne_self, Nat.reduceBEq, Nat.reduceBNe, vint, NdS, NdF, Bool.not_true, Int.cast_ofNat_Int, Int.reduceLT, Int.reduceLE, Int.reduceEq, Int.toNat_one, Int.toNat_zero, Int.reduceToNat, Int.reduceNeg, decide_true, decide_false, hs] <;> with_reducible rfl) (by simp only [acall, gcond, SG, Op.operands, Call.operands, Array.toList_append, LS, SS, SX, HS, mkS_cons, mkS_nil, ↓reduceIte, eq_self', List.map_nil, beq_self_eq_true, Nat.reduceEqDiff, Nat.reduceAdd, Nat.reduceMul, Nat.reduceLT, Nat.reduceLeDiff, Nat.reducePow, Nat.reduceDiv, Nat.reduceMod, Nat.succ_ne_self, Nat.reduceBEq, Nat.reduceBNe, vint, NdS, NdF, Bool.not_true, Int.cast_ofNat_Int, Int.reduceLT, Int.reduceLE, Int.reduceEq, Int.toNat_one, Int.toNat_zero, Int.reduceToNat, Int.reduceNeg, decide_true, decide_false, hs]) (by decide) Trygo7 (fun hc => fun H' _ => fold_k _ t (Nat.le_refl _) ht H') (by simp only [gdq, gd0, gd1, gd2, gd3, gcond, gop, SG, Op.operands, Call.operands, Array.toList_append, hapB, effIds, effSet, nextFresh, ard, freshOk, isUnborn, aop, LS, SS, SX, HS, mkS_cons, mkS_nil, ↓reduceIte, eq_self', List.map_nil, beq_self_eq_true, Nat.reduceEqDiff, Nat.reduceAdd, Nat.reduceMul, Nat.reduceLT, Nat.reduceLeDiff, Nat.reducePow, Nat.reduceDiv, Nat.reduceMod, Nat.succ_ne_self, Nat.reduceBEq, Nat.reduceBNe, vint, NdS, NdF, Bool.not_true, Int.cast_ofNat_Int, Int.reduceLT, Int.reduceLE, Int.reduceEq, Int.toNat_one, Int.toNat_zero, Int.reduceToNat, Int.reduceNeg, decide_true, decide_false, hs] <;> first | done | rfl) ?_
  refine gd_take (bm := [0, 0, 3, 7, 15, 15, 47, 127, 255, 511, 1023, 1023, 3071, 8191, 16383, 32767, 65535, 131071, 65535, 524287, 1048575, 2097151, 4194303]) 1 (fresh := 0) (by kernel_rfl) (by simp only [gdq, gd0, gd1, gd2, gd3, gcond, gop, SG, Op.operands, Call.operands, Array.toList_append, hapB, effIds, effSet, nextFresh, ard, freshOk, isUnborn, aop, aload, ajust, LS, SS, SX, HS, mkS_cons, mkS_nil, ↓reduceIte, eq_self', List.map_nil, beq_self_eq_true, Nat.reduceEqDiff, Nat.reduceAdd, Nat.reduceMul, Nat.reduceLT, Nat.reduceLeDiff, Nat.reducePow, Nat.reduceDiv, Nat.reduceMod, Nat.succ_ne_self, Nat.reduceBEq, Nat.reduceBNe, Tryti24, Trytf24, Trytz24, Trytp24, vint, NdS, NdF, Bool.not_true, Int.cast_ofNat_Int, Int.reduceLT, Int.reduceLE, Int.reduceEq, Int.toNat_one, Int.toNat_zero, Int.reduceToNat, Int.reduceNeg, decide_true, decide_false, hs] <;> with_reducible rfl) (by decide) (by decide) ?_
  refine dops_gkeep (bm := [0, 0, 3, 7, 15, 15, 47, 127, 255, 511, 1023, 1023, 3071, 8191, 16383, 32767, 65535, 131071, 65535, 524287, 1048575, 2097151, 4194303]) ([]) (by kernel_rfl) (by simp only [acall, gcond, SG, Op.operands, Call.operands, Array.toList_append, LS, SS, SX, HS, mkS_cons, mkS_nil, ↓reduceIte, eq_self', List.map_nil, beq_self_eq_true, Nat.reduceEqDiff, Nat.reduceAdd, Nat.reduceMul, Nat.reduceLT, Nat.reduceLeDiff, Nat.reducePow, Nat.reduceDiv, Nat.reduceMod, Nat.succ_ne_self, Nat.reduceBEq, Nat.reduceBNe, vint, NdS, NdF, Bool.not_true, Int.cast_ofNat_Int, Int.reduceLT, Int.reduceLE, Int.reduceEq, Int.toNat_one, Int.toNat_zero, Int.reduceToNat, Int.reduceNeg, decide_true, decide_false, hs] <;> with_reducible rfl) (by simp only [acall, gcond, SG, Op.operands, Call.operands, Array.toList_append, LS, SS, SX, HS, mkS_cons, mkS_nil, ↓reduceIte, eq_self', List.map_nil, beq_self_eq_true, Nat.reduceEqDiff, Nat.reduceAdd, Nat.reduceMul, Nat.reduceLT, Nat.reduceLeDiff, Nat.reducePow, Nat.reduceDiv, Nat.reduceMod, Nat.succ_ne_self, Nat.reduceBEq, Nat.reduceBNe, vint, NdS, NdF, Bool.not_true, Int.cast_ofNat_Int, Int.reduceLT, Int.reduceLE, Int.reduceEq, Int.toNat_one, Int.toNat_zero, Int.reduceToNat, Int.reduceNeg, decide_true, decide_false, hs] <;> with_reducible rfl) (by simp only [acall, gcond, SG, Op.operands, Call.operands, Array.toList_append, LS, SS, SX, HS, mkS_cons, mkS_nil, ↓reduceIte, eq_self', List.map_nil, beq_self_eq_true, Nat.reduceEqDiff, Nat.reduceAdd, Nat.reduceMul, Nat.reduceLT, Nat.reduceLeDiff, Nat.reducePow, Nat.reduceDiv, Nat.reduceMod, Nat.succ_ne_self, Nat.reduceBEq, Nat.reduceBNe, vint, NdS, NdF, Bool.not_true, Int.cast_ofNat_Int, Int.reduceLT, Int.reduceLE, Int.reduceEq, Int.toNat_one, Int.toNat_zero, Int.reduceToNat, Int.reduceNeg, decide_true, decide_false, hs]) (by decide) Trygo15 (fun hc => fun H' _ => foldTree_k _ t (Nat.le_refl _) ht H') (by simp only [gdq, gd0, gd1, gd2, gd3, gcond, gop, SG, Op.operands, Call.operands, Array.toList_append, hapB, effIds, effSet, nextFresh, ard, freshOk, isUnborn, aop, LS, SS, SX, HS, mkS_cons, mkS_nil, ↓reduceIte, eq_self', List.map_nil, beq_self_eq_true, Nat.reduceEqDiff, Nat.reduceAdd, Nat.reduceMul, Nat.reduceLT, Nat.reduceLeDiff, Nat.reducePow, Nat.reduceDiv, Nat.reduceMod, Nat.succ_ne_self, Nat.reduceBEq, Nat.reduceBNe, vint, NdS, NdF, Bool.not_true, Int.cast_ofNat_Int, Int.reduceLT, Int.reduceLE, Int.reduceEq, Int.toNat_one, Int.toNat_zero, Int.reduceToNat, Int.reduceNeg, decide_true, decide_false, hs] <;> first | done | rfl) ?_
  refine dops_gkeep (bm := [0, 0, 3, 7, 15, 15, 47, 127, 255, 511, 1023, 1023, 3071, 8191, 16383, 32767, 65535, 131071, 65535, 524287, 1048575, 2097151, 4194303]) ([]) (by kernel_rfl) (by simp only [acall, gcond, SG, Op.operands, Call.operands, Array.toList_append, LS, SS, SX, HS, mkS_cons, mkS_nil, ↓reduceIte, eq_self', List.map_nil, beq_self_eq_true, Nat.reduceEqDiff, Nat.reduceAdd, Nat.reduceMul, Nat.reduceLT, Nat.reduceLeDiff, Nat.reducePow, Nat.reduceDiv, Nat.reduceMod, Nat.succ_ne_self, Nat.reduceBEq, Nat.reduceBNe, vint, NdS, NdF, Bool.not_true, Int.cast_ofNat_Int, Int.reduceLT, Int.reduceLE, Int.reduceEq, Int.toNat_one, Int.toNat_zero, Int.reduceToNat, Int.reduceNeg, decide_true, decide_false, hs] <;> with_reducible rfl) (by simp only [acall, gcond, SG, Op.operands, Call.operands, Array.toList_append, LS, SS, SX, HS, mkS_cons, mkS_nil, ↓reduceIte, eq_self', List.map_nil, beq_self_eq_true, Nat.reduceEqDiff, Nat.reduceAdd, Nat.reduceMul, Nat.reduceLT, Nat.reduceLeDiff, Nat.reducePow, Nat.reduceDiv, Nat.reduceMod, Nat.succ_ne_self, Nat.reduceBEq, Nat.reduceBNe, vint, NdS, NdF, Bool.not_true, Int.cast_ofNat_Int, Int.reduceLT, Int.reduceLE, Int.reduceEq, Int.toNat_one, Int.toNat_zero, Int.reduceToNat, Int.reduceNeg, decide_true, decide_false, hs] <;> with_reducible rfl) (by simp only [acall, gcond, SG, Op.operands, Call.operands, Array.toList_append, LS, SS, SX, HS, mkS_cons, mkS_nil, ↓reduceIte, eq_self', List.map_nil, beq_self_eq_true, Nat.reduceEqDiff, Nat.reduceAdd, Nat.reduceMul, Nat.reduceLT, Nat.reduceLeDiff, Nat.reducePow, Nat.reduceDiv, Nat.reduceMod, Nat.succ_ne_self, Nat.reduceBEq, Nat.reduceBNe, vint, NdS, NdF, Bool.not_true, Int.cast_ofNat_Int, Int.reduceLT, Int.reduceLE, Int.reduceEq, Int.toNat_one, Int.toNat_zero, Int.reduceToNat, Int.reduceNeg, decide_true, decide_false, hs]) (by decide) Trygo8 (fun hc => fun H' _ => nodesEqual_k _ (foldN t) (foldN t) (Nat.le_refl _) hW H') (by simp only [gdq, gd0, gd1, gd2, gd3, gcond, gop, SG, Op.operands, Call.operands, Array.toList_append, hapB, effIds, effSet, nextFresh, ard, freshOk, isUnborn, aop, LS, SS, SX, HS, mkS_cons, mkS_nil, ↓reduceIte, eq_self', List.map_nil, beq_self_eq_true, Nat.reduceEqDiff, Nat.reduceAdd, Nat.reduceMul, Nat.reduceLT, Nat.reduceLeDiff, Nat.reducePow, Nat.reduceDiv, Nat.reduceMod, Nat.succ_ne_self, Nat.reduceBEq, Nat.reduceBNe, vint, NdS, NdF, Bool.not_true, Int.cast_ofNat_Int, Int.reduceLT, Int.reduceLE, Int.reduceEq, Int.toNat_one, Int.toNat_zero, Int.reduceToNat, Int.reduceNeg, decide_true, decide_false, hs] <;> first | done | rfl) ?_
  refine gd_end (bm := [0, 0, 3, 7, 15, 15, 47, 127, 255, 511, 1023, 1023, 3071, 8191, 16383, 32767, 65535, 131071, 65535, 524287, 1048575, 2097151, 4194303]) (fresh := 0) (by kernel_rfl) (by simp only [gdq, gd0, gd1, gd2, gd3, gcond, gop, SG, Op.operands, Call.operands, Array.toList_append, hapB, effIds, effSet, nextFresh, ard, freshOk, isUnborn, aop, LS, SS, SX, HS, mkS_cons, mkS_nil, ↓reduceIte, eq_self', List.map_nil, beq_self_eq_true, Nat.reduceEqDiff, Nat.reduceAdd, Nat.reduceMul, Nat.reduceLT, Nat.reduceLeDiff, Nat.reducePow, Nat.reduceDiv, Nat.reduceMod, Nat.succ_ne_self, Nat.reduceBEq, Nat.reduceBNe, vint, NdS, NdF, Bool.not_true, Int.cast_ofNat_Int, Int.reduceLT, Int.reduceLE, Int.reduceEq, Int.toNat_one, Int.toNat_zero, Int.reduceToNat, Int.reduceNeg, decide_true, decide_false, hs] <;> with_reducible rfl) (by decide) (by repeat (first | exact Fin.base _ | with_reducible apply Fin.keep | apply Fin.drop)) ?_
  repeat (refine awp_seq ?_)
  -- leaf 0 ret
  refine awp_ret ⟨.inr rfl, _, rfl, ?_⟩
  simp only [LS, SS, SX, HS, mkS_cons, mkS_nil, ↓reduceIte, eq_self', List.map_nil, beq_self_eq_true, Nat.reduceEqDiff, Nat.reduceAdd, Nat.succ_ne_self, vint, NdS, NdF]
  simp [h3, h4]

end Go.Abs
set_option linter.unusedVariables false
namespace Go.Abs
def Ty.zero : Ty := .mk 0 0 []
abbrev MSt := List Ty × List Bool
/-- The arguments, one behind the other. -/
def matchL : List (Ty × (Ty → MSt → Bool × MSt)) → MSt → Bool × MSt
  | [], s => (true, s)
  | (a, f) :: r, s => if (f a s).1 then matchL r (f a s).2 else (false, (f a s).2)
/-- What the matcher does. -/
def matchT (ps : List Int) (t : Ty) : Ty → MSt → Bool × MSt
  | .mk pk pi us, s =>
    if (decide (pk = 2) && decide (idxI (fun x => decide (pi = x)) ps ≥ 0)) = true then
      if s.2.getD (idxI (fun x => decide (pi = x)) ps).toNat false = true then ((s.1.getD (idxI (fun x => decide (pi = x)) ps).toNat .zero).eqb t, s)
      else (true, s.1.set (idxI (fun x => decide (pi = x)) ps).toNat t, s.2.set (idxI (fun x => decide (pi = x)) ps).toNat true)
    else if (!decide (t.kind = pk) || !decide (t.id = pi) || !decide ((t.args.length : Int) = us.length)) = true then (false, s)
    else matchL (t.args.zip (us.map fun u => fun a s => matchT ps a u s)) s
theorem matchT_eq (ps : List Int) (t p : Ty) (s : MSt) : matchT ps t p s =
    if (decide (p.kind = 2) && decide (idxI (fun x => decide (p.id = x)) ps ≥ 0)) = true then
      if s.2.getD (idxI (fun x => decide (p.id = x)) ps).toNat false = true then ((s.1.getD (idxI (fun x => decide (p.id = x)) ps).toNat .zero).eqb t, s)
      else (true, s.1.set (idxI (fun x => decide (p.id = x)) ps).toNat t, s.2.set (idxI (fun x => decide (p.id = x)) ps).toNat true)
    else if (!decide (t.kind = p.kind) || !decide (t.id = p.id) || !decide ((t.args.length : Int) = p.args.length)) = true then (false, s)
    else matchL (t.args.zip (p.args.map fun u => fun a s => matchT ps a u s)) s := by
  cases p; rw [matchT]; rfl

/-- What the state keeps. -/
structure MOk (n : Nat) (s : MSt) : Prop where
  l1 : s.1.length = n
  l2 : s.2.length = n
  w : ∀ a ∈ s.1, a.W

theorem idxI_lt {α : Type} {p : α → Bool} {xs : List α} (h : idxI p xs ≥ 0) : idxI p xs < xs.length := by
  unfold idxI at h ⊢
  cases hq : xs.findIdx? p with
  | none => rw [hq] at h; simp at h
  | some i =>
    obtain ⟨hi, _⟩ := List.findIdx?_eq_some_iff_getElem.1 hq
    simp only; omega

theorem matchL_ok {n : Nat} : ∀ (l : List (Ty × (Ty → MSt → Bool × MSt))) (s : MSt), MOk n s → (∀ x ∈ l, ∀ s, MOk n s → MOk n (x.2 x.1 s).2) → MOk n (matchL l s).2
  | [], s, h, _ => h
  | (a, f) :: r, s, h, hl => by
    have h1 := hl _ (List.mem_cons_self ..) s h
    unfold matchL
    split
    · exact matchL_ok r _ h1 (fun x hx => hl x (List.mem_cons_of_mem _ hx))
    · exact h1

theorem matchT_ok (ps : List Int) : ∀ (p t : Ty) (s : MSt), t.W → MOk ps.length s → MOk ps.length (matchT ps t p s).2
  | .mk pk pi us, t, s, hw, h => by
    rw [matchT]
    split
    · split
      · exact h
      · rename_i hb
        refine ⟨by simp [h.l1], by simp [h.l2], fun a ha => ?_⟩
        rcases List.mem_or_eq_of_mem_set ha with h' | h'
        · exact h.w a h'
        · exact h' ▸ hw
    · split
      · exact h
      · refine matchL_ok _ _ h ?_
        rintro ⟨a, f⟩ hx s hs
        have hx1 := List.of_mem_zip hx
        obtain ⟨u, hu, rfl⟩ := List.mem_map.1 hx1.2
        exact matchT_ok ps u a s (hw.arg hx1.1) hs
end Go.Abs
namespace Go.Abs
def mH (H : Heap) (ia ib : Nat) (s : MSt) : Heap := (H.set ia (.row (flatE (s.1.map Ty.enc)))).set ib (.row (s.2.map PV.bool))
theorem mH_len (H : Heap) (ia ib : Nat) (s : MSt) : (mH H ia ib s).length = H.length := by simp [mH]
theorem mH_rules {H : Heap} {im ia ib : Nat} {R : AObj} (hia : ia < H.length) (hib : ib < H.length) (h1 : ia ≠ ib) (h2 : im ≠ ia) (h3 : im ≠ ib) (hR : H[im]? = some R) :
    (∀ s L, (mH H ia ib s ++ L)[im]? = some R) ∧ (∀ s L, (mH H ia ib s ++ L)[ia]? = some (.row (flatE (s.1.map Ty.enc)))) ∧ (∀ s L, (mH H ia ib s ++ L)[ib]? = some (.row (s.2.map PV.bool))) ∧
    (∀ s L xs, (mH H ia ib s ++ L).set ia (.row (flatE (List.map Ty.enc xs))) = mH H ia ib (xs, s.2) ++ L) ∧ (∀ s L bs, (mH H ia ib s ++ L).set ib (.row (List.map PV.bool bs)) = mH H ia ib (s.1, bs) ++ L) ∧
    (∀ s L k, (mH H ia ib s ++ L)[H.length + k]? = L[k]?) ∧ (∀ s L, (mH H ia ib s ++ L)[H.length]? = L[0]?) ∧ (∀ s L k o, (mH H ia ib s ++ L).set (H.length + k) o = mH H ia ib s ++ L.set k o) ∧ (∀ s L o, (mH H ia ib s ++ L).set H.length o = mH H ia ib s ++ L.set 0 o) ∧
    (∀ s, (mH H ia ib s).length = H.length) := by
  have hm := len_of_get hR
  have get : ∀ s L k, k < H.length → (mH H ia ib s ++ L)[k]? = (mH H ia ib s)[k]? := fun s L k hk => List.getElem?_append_left (by rw [mH_len]; exact hk)
  refine ⟨fun s L => ?_, fun s L => ?_, fun s L => ?_, fun s L xs => ?_, fun s L bs => ?_, fun s L k => ?_, fun s L => ?_, fun s L k o => ?_, fun s L o => ?_, fun s => mH_len ..⟩
  · rw [get _ _ _ hm]; simp only [mH]; rw [List.getElem?_set_ne (Ne.symm h3), List.getElem?_set_ne (Ne.symm h2)]; exact hR
  · rw [get _ _ _ hia]; simp only [mH]; rw [List.getElem?_set_ne (Ne.symm h1), List.getElem?_set_self hia]
  · rw [get _ _ _ hib]; simp only [mH]; rw [List.getElem?_set_self (by simpa using hib)]
  · rw [List.set_append_left _ _ (by rw [mH_len]; exact hia)]; simp only [mH]; rw [List.set_comm _ _ (Ne.symm h1), List.set_set]
  · rw [List.set_append_left _ _ (by rw [mH_len]; exact hib)]; simp only [mH]; rw [List.set_set]
  · have := get_app (mH H ia ib s) L k; rwa [mH_len] at this
  · have := get_app0 (mH H ia ib s) L; rwa [mH_len] at this
  · have := set_app (mH H ia ib s) L k o; rwa [mH_len] at this
  · have := set_app0 (mH H ia ib s) L o; rwa [mH_len] at this
theorem mH_self {H : Heap} {ia ib : Nat} {s : MSt} (h1 : H[ia]? = some (.row (flatE (s.1.map Ty.enc)))) (h2 : H[ib]? = some (.row (s.2.map PV.bool))) : mH H ia ib s = H := by
  unfold mH; rw [list_set_self h1, list_set_self h2]
theorem mH_bel {H : Heap} {ia ib : Nat} {s s' : MSt} (hb : HBel H.length (mH H ia ib s)) (hia : ia < H.length) (hib : ib < H.length) (h1 : ia ≠ ib) : HBel H.length (mH H ia ib s') := by
  intro o ho
  obtain ⟨k, hk⟩ := List.mem_iff_getElem?.1 ho
  simp only [mH] at hk
  by_cases e1 : k = ib
  · subst e1
    rw [List.getElem?_set_self (by simpa using hib)] at hk
    cases hk
    intro c hc
    obtain ⟨b, _, rfl⟩ := List.mem_map.1 hc
    exact .bool _
  · rw [List.getElem?_set_ne (Ne.symm e1)] at hk
    by_cases e2 : k = ia
    · subst e2
      rw [List.getElem?_set_self hia] at hk
      cases hk
      intro c hc
      obtain ⟨l, hl, hc⟩ := List.mem_flatten.1 hc
      obtain ⟨e, he, rfl⟩ := List.mem_map.1 hl
      obtain ⟨t, _, rfl⟩ := List.mem_map.1 he
      rw [Ty.enc_cells] at hc
      simp at hc
      rcases hc with rfl | rfl | rfl
      · exact .int _ _
      · exact .int _ _
      · exact bel_slice_ty _ _
    · rw [List.getElem?_set_ne (Ne.symm e2)] at hk
      refine hb o (List.mem_iff_getElem?.2 ⟨k, ?_⟩)
      simp only [mH]
      rw [List.getElem?_set_ne (Ne.symm e1), List.getElem?_set_ne (Ne.symm e2)]; exact hk
end Go.Abs
namespace Go.Abs
theorem Ty.W_iff (k i : Int) (us : List Ty) : (Ty.mk k i us).W ↔ us.length * 40 ≤ 2 ^ 47 ∧ ∀ u ∈ us, u.W := ⟨fun h => by cases h with | mk h1 h2 => exact ⟨h1, h2⟩, fun h => .mk h.1 h.2⟩
theorem Ty.eqb_self (a : Ty) : a.eqb a = true := (Ty.eqb_iff a a).2 rfl
end Go.Abs
set_option linter.unusedVariables false
set_option linter.unusedSimpArgs false
namespace Go.Abs

/-! From a reading of the arguments to the trees, and back. -/

/-- A world as it is handed to a call: all that lies in it stays. -/
def env0 (W : World) : Env := { w := W, κ := fun _ => .fixed, ρ := fun _ => 0, tb := fun _ => none, H := [] }
theorem env0_ok (W : World) : (env0 W).Ok := by
  constructor
  · intro id cs h; simp [env0] at h
  · intro id n sz b h; simp [env0] at h
  · intro id id' cs cs' h; simp [env0] at h
  · intro id id' n sz n' sz' b h; simp [env0] at h
theorem env0_cell (W : World) (a : Addr) : (env0 W).view.cell a = W.cell? a := rfl

theorem calls_of_pc {P : Program} {f : FuncId} {args : List PV} {b : Bool} (h : PC P f args (.bool b)) (W : World) (vargs : Array Value) (hr : RL (env0 W).view vargs args) :
    Calls P f vargs W fun e w' => e = .returned (.bool b) ∧ Go.RowKit.Below W.heap.size W w' := by
  refine (h [] (env0 W) vargs (env0_ok W) rfl hr).mono ?_
  rintro e w' ⟨E', v, r, rfl, rfl, hle, hok, hv, rfl, _⟩
  refine ⟨by rw [hv.bool_inv], hle.os, hle.tape, hle.output, hle.size, fun k hk => (hle.other k hk ?_ ?_).2⟩
  · rintro ⟨id, cs, h, _⟩; simp [env0] at h
  · rintro ⟨id, n, sz, h, _⟩; simp [env0] at h

def RLl (V : View) (cs : List Value) (ps : List PV) : Prop := cs.length = ps.length ∧ ∀ i (h : i < ps.length), VRel V (cs.getD i undef) ps[i]

theorem RLl.nil {V : View} : RLl V [] [] := ⟨rfl, fun i h => by cases h⟩
theorem RLl.cons {V : View} {c : Value} {cs : List Value} {p : PV} {ps : List PV} (h : VRel V c p) (hs : RLl V cs ps) : RLl V (c :: cs) (p :: ps) := by
  refine ⟨by simp [hs.1], fun i hi => ?_⟩
  cases i with
  | zero => exact h
  | succ i => exact hs.2 i (by simpa using hi)
theorem RLl.app {V : View} {c1 c2 : List Value} {p1 p2 : List PV} (h1 : RLl V c1 p1) (h2 : RLl V c2 p2) : RLl V (c1 ++ c2) (p1 ++ p2) := by
  refine ⟨by simp [h1.1, h2.1], fun i hi => ?_⟩
  by_cases h : i < p1.length
  · have := h1.2 i h
    simp only [List.getD_eq_getElem?_getD] at this ⊢
    rw [List.getElem?_append_left (by rw [h1.1]; exact h), List.getElem_append_left h]; exact this
  · have := h2.2 (i - p1.length) (by simp at hi; omega)
    simp only [List.getD_eq_getElem?_getD] at this ⊢
    rw [List.getElem?_append_right (by rw [h1.1]; omega), List.getElem_append_right (by omega), h1.1]; exact this
theorem RLl.agg {V : View} {arr : Array Value} {ps : List PV} (h : RLl V arr.toList ps) : VRel V (.agg arr) (.agg ps) := by
  refine .agg _ _ (by have := h.1; simpa using this) fun i hi => ?_
  have := h.2 i hi
  rw [List.getD_eq_getElem?_getD, Array.getElem?_toList] at this
  rw [Array.getD_eq_getD_getElem?]; exact this
theorem RLl.one {V : View} {v : Value} {p : PV} (h : RLl V [v] [p]) : VRel V v p := h.2 0 (by simp)

theorem exists_list {α : Type} {n : Nat} {p : Nat → α → Prop} (h : ∀ i, i < n → ∃ a, p i a) : ∃ xs : List α, xs.length = n ∧ ∀ i (hi : i < xs.length), p i xs[i] := by
  induction n with
  | zero => exact ⟨[], rfl, fun i hi => by cases hi⟩
  | succ n ih =>
    obtain ⟨xs, h1, h2⟩ := ih fun i hi => h i (by omega)
    obtain ⟨a, ha⟩ := h n (by omega)
    refine ⟨xs ++ [a], by simp [h1], fun i hi => ?_⟩
    by_cases hlt : i < xs.length
    · rw [List.getElem_append_left hlt]; exact h2 i hlt
    · rw [List.getElem_append_right (by omega)]
      simp at hi
      obtain rfl : i = n := by omega
      simpa using ha

/-- A list and the data of a slice. -/
def SlD {α : Type} {H : Type} (D : α → DataW H → Prop) (xs : List α) (d : DataW H) : Prop :=
  (xs = [] ∧ d = .nil) ∨ ∃ els sp, d = .slice els sp ∧ xs.length = els.length ∧ ∀ i (h1 : i < xs.length) (h2 : i < els.length), D xs[i] els[i]

section
variable {H : Type} {enc : TypeId × Value → H} {P : Program} {W : World} {spare : Nat → Bool} {held : Bool}

theorem rd_slice {α : Type} (en : α → PV) (D : α → DataW H → Prop) {t e : TypeId} {fuel : Nat} {cs : List Value} {x : DataW H × List MemPlace} (ht : P.underlying t = some (.slice e)) (hsz : ∀ a, (en a).cells.length = P.cellsOf e)
    (h : DataW.trod enc P W 0 spare held fuel t cs = some x) (ih : ∀ n cs' x', n < fuel → DataW.trod enc P W 0 spare held n e cs' = some x' → ∃ a, RLl (env0 W).view cs' (en a).cells ∧ D a x'.1) :
    ∃ (xs : List α) (v : Value), cs = [v] ∧ VRel (env0 W).view v (.slice (xs.map en) .none) ∧ SlD D xs x.1 := by
  rcases DataW.trod_slice ht h with ⟨rfl, rfl⟩ | ⟨a, len, cap, elems, rest, n, rfl, rfl, rfl, hb, hl, hm, hlen, hel, _, _⟩
  · exact ⟨[], _, rfl, .nils .none trivial, .inl ⟨rfl, rfl⟩⟩
  · obtain ⟨ys, hys, hp⟩ := exists_list (α := α × List Value) (n := len) (p := fun i y => W.cells? 0 (a.add (i * P.cellsOf e)) (P.cellsOf e) = some y.2 ∧ RLl (env0 W).view y.2 (en y.1).cells ∧ ∀ h : i < elems.length, D y.1 elems[i].1) (fun i hi => by
      have := hel i hi
      rw [List.getElem?_eq_getElem (by omega)] at this
      obtain ⟨cs', h1, h2⟩ := Option.bind_eq_some_iff.1 this
      obtain ⟨y, h3, h4⟩ := ih n cs' _ (by omega) h2
      exact ⟨(y, cs'), h1, h3, fun _ => h4⟩)
    refine ⟨ys.map (·.1), _, rfl, ?_, .inr ⟨_, _, rfl, by simp [hys, hlen], fun i h1 h2 => ?_⟩⟩
    · have hget : ∀ i (hi : i < ys.length), ys[i]? = some ys[i] := fun i hi => List.getElem?_eq_getElem hi
      refine .slice a len cap (P.cellsOf e) _ .none (fun i j => match ys[i]? with | some y => y.2.getD j undef | none => undef) (by simp [hys]) hl hm ?_ ?_ ?_ trivial
      · intro i hi; simp only [List.getElem_map]; exact hsz _
      · intro i j hi hj
        have hi' : i < ys.length := by omega
        obtain ⟨h1, h2, _⟩ := hp i hi'
        obtain ⟨_, h4, h5⟩ := World.cells?_some h1
        have := h5 j hj
        rw [hget i hi']
        simp only
        rw [env0_cell, ← add_add, this, List.getD_eq_getElem?_getD, List.getElem?_eq_getElem (by omega)]; rfl
      · intro i j hi hj
        have hi' : i < ys.length := by simpa using hi
        simp only [List.getElem_map] at hj ⊢
        rw [hget i hi']
        exact (hp i hi').2.1.2 j hj
    · simp only [List.getElem_map]
      exact (hp i (by simpa using h1)).2.2 _

/-- The field of a structure. -/
theorem rd_fields {t : TypeId} {fs : Array Field} {fuel : Nat} {cs : List Value} {x : DataW H × List MemPlace} (ht : P.underlying t = some (.struct fs)) (h : DataW.trod enc P W 0 spare held fuel t cs = some x) :
    ∃ (ds : List (DataW H)) (n : Nat), fuel = n + 1 ∧ x.1 = .agg ds ∧ cs.length = P.cellsOf t ∧ ds.length = fs.size ∧ ∀ (i : Nat) (f : Field), fs[i]? = some f → ∃ d ps, ds[i]? = some d ∧ DataW.trod enc P W 0 spare held n f.type ((cs.drop f.offset).take (P.cellsOf f.type)) = some (d, ps) := by
  obtain ⟨xs, n, h1, rfl, h3, h4, h5⟩ := DataW.trod_struct ht h
  refine ⟨xs.map (·.1), n, h1, rfl, h3, by simpa using h4, fun i f hf => ?_⟩
  have hi : i < xs.length := by
    rw [h4]
    rcases Nat.lt_or_ge i fs.size with hl | hl
    · exact hl
    · rw [Array.getElem?_eq_none hl] at hf; cases hf
  have := h5 i f hf
  rw [List.getElem?_eq_getElem hi] at this
  exact ⟨xs[i].1, xs[i].2, by simp [hi], this⟩

theorem rd_int {t : TypeId} {k : IntKind} {fuel : Nat} {cs : List Value} {x : DataW H × List MemPlace} (ht : P.underlying t = some (.int k)) (h : DataW.trod enc P W 0 spare held fuel t cs = some x) : ∃ n, RLl (env0 W).view cs [.int k n] ∧ x.1 = .lit (.int k n) ∧ (Lit.int k n).wf = true ∧ cs = [.int k n] := by
  obtain ⟨n, rfl, rfl, h3⟩ := DataW.trod_int ht h
  exact ⟨n, .cons (.int _ _) .nil, rfl, h3, rfl⟩
theorem rd_bool {t : TypeId} {fuel : Nat} {cs : List Value} {x : DataW H × List MemPlace} (ht : P.underlying t = some .bool) (h : DataW.trod enc P W 0 spare held fuel t cs = some x) : ∃ b, RLl (env0 W).view cs [.bool b] ∧ x.1 = .lit (.bool b) := by
  obtain ⟨n, rfl, rfl⟩ := DataW.trod_bool ht h
  exact ⟨n, .cons (.bool _) .nil, rfl⟩
theorem rd_string {t : TypeId} {fuel : Nat} {cs : List Value} {x : DataW H × List MemPlace} (ht : P.underlying t = some .string) (h : DataW.trod enc P W 0 spare held fuel t cs = some x) : ∃ s : List UInt8, RLl (env0 W).view cs [.str s] ∧ x.1 = .lit (.string s) ∧ s.length ≤ maxLen := by
  obtain ⟨s, rfl, rfl, h3⟩ := DataW.trod_string ht h
  exact ⟨s.data.toList, .cons (.str _) .nil, rfl, by simpa using h3⟩
end

/-- The data of a type. -/
inductive TyD {H : Type} : Ty → DataW H → Prop
  | nil (k i : Int) : TyD (.mk k i []) (.agg [.lit (.int .i64 k), .lit (.int .i64 i), .nil])
  | slice (k i : Int) (xs : List Ty) (es sp : List (DataW H)) (hl : xs.length = es.length) (h : ∀ j (h1 : j < xs.length) (h2 : j < es.length), TyD xs[j] es[j]) : TyD (.mk k i xs) (.agg [.lit (.int .i64 k), .lit (.int .i64 i), .slice es sp])
theorem TyD.of {H : Type} {k i : Int} {xs : List Ty} {d : DataW H} (h : SlD TyD xs d) : TyD (.mk k i xs) (.agg [.lit (.int .i64 k), .lit (.int .i64 i), d]) := by
  rcases h with ⟨rfl, rfl⟩ | ⟨es, sp, rfl, h1, h2⟩
  · exact .nil k i
  · exact .slice k i xs es sp h1 h2

/-- The facts on a program's type 'api.Type' that a reading looks at. -/
structure TyAt (P : Program) (T S : TypeId) : Prop where
  st : ∃ f0 f1 f2 : Field, P.underlying T = some (.struct #[f0, f1, f2]) ∧ P.underlying f0.type = some (.int .i64) ∧ P.underlying f1.type = some (.int .i64) ∧ f2.type = S ∧ f0.offset = 0 ∧ f1.offset = 1 ∧ f2.offset = 2 ∧ P.cellsOf f0.type = 1 ∧ P.cellsOf f1.type = 1
  sl : P.underlying S = some (.slice T)
  c : P.cellsOf T = 3
  cs : P.cellsOf S = 1
  by40 : P.bytesOf T = 40

section
variable {H : Type} {enc : TypeId × Value → H} {P : Program} {W : World} {spare : Nat → Bool} {held : Bool} {T S : TypeId}

theorem rd_ty (F : TyAt P T S) : ∀ (fuel : Nat) (cs : List Value) (x : DataW H × List MemPlace), DataW.trod enc P W 0 spare held fuel T cs = some x → ∃ t : Ty, RLl (env0 W).view cs t.enc.cells ∧ TyD t x.1 := by
  intro fuel
  induction fuel using Nat.strongRecOn with
  | _ fuel ih =>
  intro cs x h
  obtain ⟨f0, f1, f2, hst, u0, u1, e2, o0, o1, o2, c0, c1⟩ := F.st
  obtain ⟨ds, n, rfl, hx, hlen, hdl, hf⟩ := rd_fields hst h
  rw [F.c] at hlen
  match cs, hlen with
  | [v0, v1, v2], _ =>
  obtain ⟨d0, p0, g0, r0⟩ := hf 0 f0 rfl
  obtain ⟨d1, p1, g1, r1⟩ := hf 1 f1 rfl
  obtain ⟨d2, p2, g2, r2⟩ := hf 2 f2 rfl
  rw [o0, c0] at r0
  rw [o1, c1] at r1
  rw [o2, e2, F.cs] at r2
  obtain ⟨k, q0, rfl, w0, _⟩ := rd_int u0 r0
  obtain ⟨i, q1, rfl, w1, _⟩ := rd_int u1 r1
  obtain ⟨xs, v, hv, hr, hd⟩ := rd_slice Ty.enc TyD F.sl (fun a => by rw [F.c, Ty.enc_len]) r2 (fun m cs' x' hm h' => ih m (by omega) cs' x' h')
  simp only [List.drop_succ_cons, List.drop_zero, List.take_succ_cons, List.take_zero, List.cons.injEq, and_true] at hv
  subst hv
  refine ⟨.mk k i xs, ?_, ?_⟩
  · rw [Ty.enc_cells]
    exact .cons q0.one (.cons q1.one (.cons hr .nil))
  · rw [hx]
    have : ds = [.lit (.int .i64 k), .lit (.int .i64 i), d2] := by
      match ds, hdl with
      | [a, b, c], _ =>
        simp at g0 g1 g2
        rw [g0, g1, g2]
    rw [this]
    exact .of hd

/-- No list of arguments is longer than the row's own bound bears. -/
theorem ty_weights (F : TyAt P T S) {t : Ty} {d : DataW H} (h : TyD t d) (hw : (d.weights P T).all (· ≤ reachBytes) = true) : t.W := by
  obtain ⟨f0, f1, f2, hst, u0, u1, e2, _⟩ := F.st
  induction h with
  | nil k i => exact .mk (by simp) (by simp)
  | slice k i xs es sp hl h ih =>
    simp only [DataW.weights, hst, DataW.weightsEach, List.map_cons, List.map_nil, e2, F.sl, F.by40, List.nil_append, List.append_nil, List.all_cons, List.all_append, Bool.and_eq_true, decide_eq_true_eq] at hw
    have hb : reachBytes = 140737488351232 := rfl
    refine .mk (by rw [hl]; have := hw.1; omega) fun u hu => ?_
    obtain ⟨j, hj, rfl⟩ := List.mem_iff_getElem.1 hu
    refine ih j hj (by omega) ?_
    have h2 := hw.2.1
    rw [List.all_eq_true] at h2 ⊢
    intro x hx
    refine h2 x ?_
    have hmem : ∀ (l : List (DataW H)) (e : DataW H), e ∈ l → x ∈ e.weights P T → x ∈ DataW.weightsAll P T l := by
      intro l
      induction l with
      | nil => intro e he; cases he
      | cons a l ihl =>
        intro e he hx
        simp only [DataW.weightsAll, List.mem_append]
        rcases List.mem_cons.1 he with rfl | he
        · exact .inl hx
        · exact .inr (ihl e he hx)
    exact hmem es _ (List.getElem_mem _) hx

theorem weights_mem {l : List (DataW H)} {e : TypeId} {d : DataW H} (hd : d ∈ l) (h : (DataW.weightsAll P e l).all (· ≤ reachBytes) = true) : (d.weights P e).all (· ≤ reachBytes) = true := by
  rw [List.all_eq_true] at h ⊢
  intro x hx
  refine h x ?_
  clear h
  induction l with
  | nil => cases hd
  | cons a l ih =>
    simp only [DataW.weightsAll, List.mem_append]
    rcases List.mem_cons.1 hd with rfl | hd
    · exact .inl hx
    · exact .inr (ih hd)

/-- A slice's elements and its length. -/
theorem sl_weights {α : Type} {D : α → DataW H → Prop} {Sl E : TypeId} (hs : P.underlying Sl = some (.slice E)) {xs : List α} {d : DataW H} (h : SlD D xs d) (hw : (d.weights P Sl).all (· ≤ reachBytes) = true) :
    xs.length * P.bytesOf E ≤ reachBytes ∧ ∀ a ∈ xs, ∃ d', D a d' ∧ (d'.weights P E).all (· ≤ reachBytes) = true := by
  rcases h with ⟨rfl, rfl⟩ | ⟨els, sp, rfl, h1, h2⟩
  · simp
  · simp only [DataW.weights, hs, List.all_cons, List.all_append, Bool.and_eq_true, decide_eq_true_eq] at hw
    refine ⟨?_, fun a ha => ?_⟩
    · rw [h1]
      refine Nat.le_trans (Nat.mul_le_mul_right _ (Nat.le_add_right _ _)) hw.1
    · obtain ⟨j, hj, rfl⟩ := List.mem_iff_getElem.1 ha
      exact ⟨_, h2 j hj (by omega), weights_mem (List.getElem_mem _) hw.2.1⟩
end
end Go.Abs
namespace Go.Abs
theorem RLl.rl {V : View} {arr : Array Value} {ps : List PV} (h : RLl V arr.toList ps) : RL V arr ps := by
  refine ⟨by have := h.1; simpa using this, fun i hi => ?_⟩
  have := h.2 i hi
  rw [List.getD_eq_getElem?_getD, Array.getElem?_toList] at this
  rw [Array.getD_eq_getD_getElem?]; exact this
theorem Ty.enc_agg (t : Ty) : PV.agg t.enc.cells = t.enc := by rw [Ty.enc_cells, Ty.enc_eq]
end Go.Abs
set_option linter.unusedVariables false
set_option linter.unusedSimpArgs false
namespace Go.Abs
/-! Reading nodes. -/
inductive NdD {H : Type} : Nd → DataW H → Prop
  | nil (k v : Int) (t : List UInt8) (s e n : Int) : NdD (.mk k v t s e n []) (.agg [.lit (.int .i64 k), .lit (.int .i64 v), .lit (.string t), .lit (.int .i64 s), .lit (.int .i64 e), .lit (.int .i64 n), .nil])
  | slice (k v : Int) (t : List UInt8) (s e n : Int) (xs : List Nd) (es sp : List (DataW H)) (hl : xs.length = es.length) (h : ∀ j (h1 : j < xs.length) (h2 : j < es.length), NdD xs[j] es[j]) :
      NdD (.mk k v t s e n xs) (.agg [.lit (.int .i64 k), .lit (.int .i64 v), .lit (.string t), .lit (.int .i64 s), .lit (.int .i64 e), .lit (.int .i64 n), .slice es sp])
theorem NdD.of {H : Type} {k v : Int} {t : List UInt8} {s e n : Int} {xs : List Nd} {d : DataW H} (h : SlD NdD xs d) : NdD (.mk k v t s e n xs) (.agg [.lit (.int .i64 k), .lit (.int .i64 v), .lit (.string t), .lit (.int .i64 s), .lit (.int .i64 e), .lit (.int .i64 n), d]) := by
  rcases h with ⟨rfl, rfl⟩ | ⟨es, sp, rfl, h1, h2⟩
  · exact .nil k v t s e n
  · exact .slice k v t s e n xs es sp h1 h2
structure NdAt (P : Program) (T S : TypeId) : Prop where
  st : ∃ f0 f1 f2 f3 f4 f5 f6 : Field, P.underlying T = some (.struct #[f0, f1, f2, f3, f4, f5, f6]) ∧
    (P.underlying f0.type = some (.int .i64) ∧ P.underlying f1.type = some (.int .i64) ∧ P.underlying f2.type = some .string ∧ P.underlying f3.type = some (.int .i64) ∧ P.underlying f4.type = some (.int .i64) ∧ P.underlying f5.type = some (.int .i64)) ∧ f6.type = S ∧
    (f0.offset = 0 ∧ f1.offset = 1 ∧ f2.offset = 2 ∧ f3.offset = 3 ∧ f4.offset = 4 ∧ f5.offset = 5 ∧ f6.offset = 6) ∧ (P.cellsOf f0.type = 1 ∧ P.cellsOf f1.type = 1 ∧ P.cellsOf f2.type = 1 ∧ P.cellsOf f3.type = 1 ∧ P.cellsOf f4.type = 1 ∧ P.cellsOf f5.type = 1)
  sl : P.underlying S = some (.slice T)
  c : P.cellsOf T = 7
  cs : P.cellsOf S = 1
  by80 : P.bytesOf T = 80
section
variable {H : Type} {enc : TypeId × Value → H} {P : Program} {W : World} {spare : Nat → Bool} {held : Bool} {T S : TypeId}
theorem rd_nd (F : NdAt P T S) : ∀ (fuel : Nat) (cs : List Value) (x : DataW H × List MemPlace), DataW.trod enc P W 0 spare held fuel T cs = some x → ∃ t : Nd, RLl (env0 W).view cs t.enc.cells ∧ NdD t x.1 := by
  intro fuel
  induction fuel using Nat.strongRecOn with
  | _ fuel ih =>
  intro cs x h
  obtain ⟨f0, f1, f2, f3, f4, f5, f6, hst, ⟨u0, u1, u2, u3, u4, u5⟩, e6, ⟨o0, o1, o2, o3, o4, o5, o6⟩, ⟨c0, c1, c2, c3, c4, c5⟩⟩ := F.st
  obtain ⟨ds, n, rfl, hx, hlen, hdl, hf⟩ := rd_fields hst h
  rw [F.c] at hlen
  match cs, hlen with
  | [v0, v1, v2, v3, v4, v5, v6], _ =>
  obtain ⟨d0, p0, g0, r0⟩ := hf 0 f0 rfl
  obtain ⟨d1, p1, g1, r1⟩ := hf 1 f1 rfl
  obtain ⟨d2, p2, g2, r2⟩ := hf 2 f2 rfl
  obtain ⟨d3, p3, g3, r3⟩ := hf 3 f3 rfl
  obtain ⟨d4, p4, g4, r4⟩ := hf 4 f4 rfl
  obtain ⟨d5, p5, g5, r5⟩ := hf 5 f5 rfl
  obtain ⟨d6, p6, g6, r6⟩ := hf 6 f6 rfl
  rw [o0, c0] at r0
  rw [o1, c1] at r1
  rw [o2, c2] at r2
  rw [o3, c3] at r3
  rw [o4, c4] at r4
  rw [o5, c5] at r5
  rw [o6, e6, F.cs] at r6
  obtain ⟨k, q0, rfl, _, _⟩ := rd_int u0 r0
  obtain ⟨v, q1, rfl, _, _⟩ := rd_int u1 r1
  obtain ⟨tx, q2, rfl, _⟩ := rd_string u2 r2
  obtain ⟨s, q3, rfl, _, _⟩ := rd_int u3 r3
  obtain ⟨e, q4, rfl, _, _⟩ := rd_int u4 r4
  obtain ⟨m, q5, rfl, _, _⟩ := rd_int u5 r5
  obtain ⟨xs, w, hv, hr, hd⟩ := rd_slice Nd.enc NdD F.sl (fun a => by rw [F.c, Nd.enc_len]) r6 (fun m cs' x' hm h' => ih m (by omega) cs' x' h')
  simp only [List.drop_succ_cons, List.drop_zero, List.take_succ_cons, List.take_zero, List.cons.injEq, and_true] at hv
  subst hv
  refine ⟨.mk k v tx s e m xs, ?_, ?_⟩
  · rw [Nd.enc_cells]
    exact .cons q0.one (.cons q1.one (.cons q2.one (.cons q3.one (.cons q4.one (.cons q5.one (.cons hr .nil))))))
  · rw [hx]
    have : ds = [.lit (.int .i64 k), .lit (.int .i64 v), .lit (.string tx), .lit (.int .i64 s), .lit (.int .i64 e), .lit (.int .i64 m), d6] := by
      match ds, hdl with
      | [a, b, c, d, e', f, g], _ =>
        simp at g0 g1 g2 g3 g4 g5 g6
        rw [g0, g1, g2, g3, g4, g5, g6]
    rw [this]
    exact .of hd
theorem nd_weights (F : NdAt P T S) {t : Nd} {d : DataW H} (h : NdD t d) (hw : (d.weights P T).all (· ≤ reachBytes) = true) : t.W := by
  obtain ⟨f0, f1, f2, f3, f4, f5, f6, hst, _, e6, _⟩ := F.st
  induction h with
  | nil k v t s e n => exact .mk (by simp) (by simp)
  | slice k v t s e n xs es sp hl h ih =>
    simp only [DataW.weights, hst, DataW.weightsEach, List.map_cons, List.map_nil, e6, F.sl, F.by80, List.nil_append, List.append_nil, List.all_cons, List.all_append, Bool.and_eq_true, decide_eq_true_eq] at hw
    have hb : reachBytes = 140737488351232 := rfl
    refine .mk (by rw [hl]; have := hw.2.1; omega) fun u hu => ?_
    obtain ⟨j, hj, rfl⟩ := List.mem_iff_getElem.1 hu
    refine ih j hj (by omega) ?_
    have h2 := hw.2.2.1
    rw [List.all_eq_true] at h2 ⊢
    intro x hx
    refine h2 x ?_
    have hmem : ∀ (l : List (DataW H)) (e : DataW H), e ∈ l → x ∈ e.weights P T → x ∈ DataW.weightsAll P T l := by
      intro l
      induction l with
      | nil => intro e he; cases he
      | cons a l ihl =>
        intro e he hx
        simp only [DataW.weightsAll, List.mem_append]
        rcases List.mem_cons.1 he with rfl | he
        · exact .inl hx
        · exact .inr (ihl e he hx)
    exact hmem es es[j] (List.getElem_mem (by omega)) hx
end
end Go.Abs
set_option linter.unusedVariables false
namespace Go.Abs
theorem strip (r : List (List Char)) : stripLifts liftWords ("cut".toList :: r) = ([], "cut".toList :: r) := by
  simp only [liftWords]
  repeat (rw [stripLifts, if_neg (by decide)])
  rfl
theorem mayEnter_of {P : Program} {r : List (List Char)} (h : behindMainWord (wordsSigns P.initOrder.toList) = "cut".toList :: r) (h1 : P.laysLater = false) (h2 : P.bearsReflect = false) (h3 : P.doorFits [] = true) : P.mayEnter = true := by
  unfold Program.mayEnter
  rw [h]
  simp only [strip, h1, h2, h3]
  rfl
theorem headLifts_of {P : Program} {r : List (List Char)} (h : behindMainWord (wordsSigns P.initOrder.toList) = "cut".toList :: r) : P.headLifts = [] := by
  unfold Program.headLifts
  rw [h, strip]
  rfl
theorem liftsFinal_of {P : Program} {r : List (List Char)} (h : behindMainWord (wordsSigns P.initOrder.toList) = "cut".toList :: r) : P.liftsFinal = false := by
  unfold Program.liftsFinal
  rw [headLifts_of h, h]
  rfl
theorem make_of {P : Program} {r : List (List Char)} (h : behindMainWord (wordsSigns P.initOrder.toList) = "cut".toList :: r) : P.make = some .cut := by
  unfold Program.make
  rw [h]
  rfl
def sg (l : List Nat) : List Char := l.map Char.ofNat
theorem words_cons (c : Char) (r : List Char) (h : (c == Char.ofNat 32) = false) : wordsSigns (c :: r) = match wordsSigns r with | w :: ws => (c :: w) :: ws | [] => [[c]] := by
  rw [wordsSigns]
  · rfl
  · intro e
    subst e
    simp at h
theorem words_word : ∀ (w r : List Char), w.all (fun c => !(c == Char.ofNat 32)) = true → wordsSigns (w ++ Char.ofNat 32 :: r) = w :: wordsSigns r
  | [], r, _ => by rfl
  | c :: w, r, h => by
    simp only [List.all_cons, Bool.and_eq_true, Bool.not_eq_true'] at h
    rw [List.cons_append, words_cons c _ h.1, words_word w r h.2]
/-- The head of a cut: 'harness', a sum, 'cut'. -/
theorem behind_of {P : Program} {a b c r : List Char} (hio : P.initOrder = String.ofList (a ++ Char.ofNat 32 :: (b ++ Char.ofNat 32 :: (c ++ Char.ofNat 32 :: r)))) (ha : a.all (fun c => !(c == Char.ofNat 32)) = true) (hb : b.all (fun c => !(c == Char.ofNat 32)) = true) (hc : c.all (fun c => !(c == Char.ofNat 32)) = true)
    (h : ((a == "harness".toList || a == "ownmain".toList) && isSumSigns b) = true) (hc2 : c = "cut".toList) : behindMainWord (wordsSigns P.initOrder.toList) = "cut".toList :: wordsSigns r := by
  rw [hio, String.toList_ofList, words_word _ _ ha, words_word _ _ hb, words_word _ _ hc]
  simp only [behindMainWord]
  rw [if_pos h, hc2]
end Go.Abs
