/- Part 5 of a proof of the law NormalizeIsIdempotent: Go data as trees, the walks of the functions that the law reaches, the plain laws. -/
import Derived.Test.YtmjoonaejldkhaaGDNormalizeIsIdempotent
set_option linter.unusedVariables false
set_option linter.unusedSimpArgs false
set_option maxRecDepth 4000
namespace Go.Abs
open Go.Proofs

theorem implAs_len {ds : List Dc} {t : Ty} {tr : Int} (ht : t.W) (hd : ∀ d ∈ ds, d.B) : (implAs ds t tr).length * 40 ≤ 2 ^ 47 := by
  unfold implAs
  split
  · rename_i h
    obtain ⟨hg, hp⟩ := implD_get h
    unfold implP at hp
    simp only [Bool.and_eq_true] at hp
    rw [(match_apply _ _ _ ht hp.2).1]
    exact (hd _ (List.mem_of_getElem? hg)).2
  · simp
theorem solve_W {ds : List Dc} {sas : List TB} (hd : ∀ d ∈ ds, d.B) : ∀ (n : Nat) (t : Ty) (tr : Int), t.W → (solveT ds sas n t tr).1.W := by
  have hz : Pf.zero.W := by simp [Pf.zero, Pf.W_iff, Ty.W_iff]
  intro n
  induction n with
  | zero => intro t tr _; exact hz
  | succ n ih =>
    intro t tr ht
    rw [solveT]
    split
    · exact hz
    · split
      · simp [Pf.W_iff, ht]
      · split
        · exact hz
        · rename_i h3
          split
          · rw [Pf.W_iff]
            refine ⟨ht, implAs_len ht hd, implAs_W ht, by rw [List.length_map]; omega, fun u hu => ?_⟩
            obtain ⟨b, hb, rfl⟩ := List.mem_map.1 hu
            obtain ⟨hg, _⟩ := implD_get (ds := ds) (t := t) (tr := tr) (by omega)
            exact ih _ _ (app_W (implAs_W ht) ((hd _ (List.mem_of_getElem? hg)).1.el_bs b hb).st_t)
          · exact hz
theorem checkT_s (ds : List Dc) (sas : List TB) (n : Nat) (p : Pf) : checkT ds sas (n + 1) p =
    if p.im = -1 then
      decide (0 ≤ p.bd ∧ p.bd < sas.length) && p.args.isEmpty && p.prems.isEmpty && (match sas[p.bd.toNat]? with | some b => decide (b.tr = p.tr) && b.t.eqb p.t | none => false)
    else if p.bd ≠ -1 ∨ p.im < 0 ∨ (ds.length : Int) ≤ p.im ∨ p.tr < 0 then false
    else match ds[p.im.toNat]? with
      | none => false
      | some d => decide (d.tr = p.tr) && decide (p.args.length = d.ps.length) && decide (p.prems.length = d.bs.length) && (mapT (appG d.ps p.args) d.t).eqb p.t &&
        ((d.bs.zip p.prems).all fun x => decide (x.2.tr = x.1.tr) && x.2.t.eqb (mapT (appG d.ps p.args) x.1.t) && checkT ds sas n x.2) := rfl
theorem solve_8 (ds : List Dc) (sas : List TB) (hl : ds.length ≤ maxLen) (hd : ∀ d ∈ ds, d.B) (hsl : sas.length ≤ maxLen) (hs : ∀ b ∈ sas, b.W) (t : Ty) (tr : Int) (ht : t.W) : PC Try.prog 100 [(Sv.mk ds sas).enc, t.enc, vint tr, .int .i64 8] (.tup [(solveT ds sas 8 t tr).1.enc, .bool (solveT ds sas 8 t tr).2]) :=
  solve_k ds sas hl hd hsl hs 8 t tr (by omega) ht
theorem solve_zero (ds : List Dc) (sas : List TB) (n : Nat) (t : Ty) (tr : Int) (h : (solveT ds sas n t tr).2 = false) : (solveT ds sas n t tr).1 = Pf.zero := by
  cases n with
  | zero => rfl
  | succ n =>
    rw [solveT] at h ⊢
    repeat' split
    all_goals simp_all
theorem isE {α : Type} (l : List α) : l.isEmpty = !decide (0 < l.length) := by cases l <;> simp

theorem solve_c (ds : List Dc) (sas : List TB) (t : Ty) (tr : Int) (hl : ds.length ≤ maxLen) (hd : ∀ d ∈ ds, d.B) (hsl : sas.length ≤ maxLen) (hs : ∀ b ∈ sas, b.W) (ht : t.W) : PC Try.prog 46 [.slice (ds.map Dc.enc) .none, .slice (sas.map TB.enc) .none, t.enc, vint tr] (.tup [(solveT ds sas 8 t tr).1.enc, .bool (solveT ds sas 8 t tr).2]) := by
  refine pc_of (N := 18) Try.func46 rfl rfl (by simp) (by simp [Ty.bel, Bel.int, bel_Dc, bel_TB]) (.tup _ (by simp [Pf.bel, Bel.bool])) ?_
  -- region 0
  repeat (refine awp_seq ?_)
  refine e_eval (by simp only [asq, as0, as1, as2, awanted, aop, LS, SS, SX, HS, mkS_cons, mkS_nil, ↓reduceIte, eq_self', List.map_nil, beq_self_eq_true, Nat.reduceEqDiff, Nat.reduceAdd, Nat.reduceMul, Nat.reduceLT, Nat.reduceLeDiff, Nat.reducePow, Nat.reduceDiv, Nat.reduceMod, Nat.succ_ne_self, Nat.reduceBEq, Nat.reduceBNe, Tryti24, Trytf24, Trytz24, Trytp24, Tryti63, Trytf63, Trytz63, Trytp63, vint, TyS, TyF, TBS, TBF, DcS, DcF, SvS, SvF, PfS, PfF] <;> with_reducible rfl) (by decide) ?_
  -- region 1
  repeat (refine awp_seq ?_)
  refine awp_region ?_
  refine e_take 5 (by simp only [asq, as0, as1, as2, awanted, aop, abuild, splice, aload, ajust, LS, SS, SX, HS, mkS_cons, mkS_nil, ↓reduceIte, eq_self', List.map_nil, beq_self_eq_true, Nat.reduceEqDiff, Nat.reduceAdd, Nat.reduceMul, Nat.reduceLT, Nat.reduceLeDiff, Nat.reducePow, Nat.reduceDiv, Nat.reduceMod, Nat.succ_ne_self, Nat.reduceBEq, Nat.reduceBNe, Tryti24, Trytf24, Trytz24, Trytp24, Tryti123, Trytf123, Trytz123, Trytp123, vint, TyS, TyF, TBS, TBF, DcS, DcF, SvS, SvF, PfS, PfF] <;> with_reducible rfl) (by decide) ?_
  refine aops_pure (by simp only [acall, awanted, LS, SS, SX, HS, mkS_cons, mkS_nil, ↓reduceIte, eq_self', List.map_nil, beq_self_eq_true, Nat.reduceEqDiff, Nat.reduceAdd, Nat.reduceMul, Nat.reduceLT, Nat.reduceLeDiff, Nat.reducePow, Nat.reduceDiv, Nat.reduceMod, Nat.succ_ne_self, Nat.reduceBEq, Nat.reduceBNe, vint, TyS, TyF, TBS, TBF, DcS, DcF, SvS, SvF, PfS, PfF] <;> with_reducible rfl) (by simp only [acall, awanted, LS, SS, SX, HS, mkS_cons, mkS_nil, ↓reduceIte, eq_self', List.map_nil, beq_self_eq_true, Nat.reduceEqDiff, Nat.reduceAdd, Nat.reduceMul, Nat.reduceLT, Nat.reduceLeDiff, Nat.reducePow, Nat.reduceDiv, Nat.reduceMod, Nat.succ_ne_self, Nat.reduceBEq, Nat.reduceBNe, vint, TyS, TyF, TBS, TBF, DcS, DcF, SvS, SvF, PfS, PfF]) (by decide) Trygo100 (solve_8 ds sas hl hd hsl hs t tr ht _) ?_
  refine e_end (by simp only [asq, as0, as1, as2, awanted, aop, ajust, astore, splice, LS, SS, SX, HS, mkS_cons, mkS_nil, ↓reduceIte, eq_self', List.map_nil, beq_self_eq_true, Nat.reduceEqDiff, Nat.reduceAdd, Nat.reduceMul, Nat.reduceLT, Nat.reduceLeDiff, Nat.reducePow, Nat.reduceDiv, Nat.reduceMod, Nat.succ_ne_self, Nat.reduceBEq, Nat.reduceBNe, Tryti63, Trytf63, Trytz63, Trytp63, vint, TyS, TyF, TBS, TBF, DcS, DcF, SvS, SvF, PfS, PfF] <;> with_reducible rfl) (by decide) ?_
  repeat (refine awp_seq ?_)
  -- leaf 0 ret
  refine awp_ret ⟨.inr rfl, _, (ares_two (.cell 8 63) (.tmp 9) rfl (ares_cell1 Tryti63 (by decide) (by simp only [aload, LS, SS, SX, HS, mkS_cons, mkS_nil, ↓reduceIte, eq_self', List.map_nil, beq_self_eq_true, Nat.reduceEqDiff, Nat.reduceAdd, Nat.reduceMul, Nat.reduceLT, Nat.reduceLeDiff, Nat.reducePow, Nat.reduceDiv, Nat.reduceMod, Nat.succ_ne_self, Nat.reduceBEq, Nat.reduceBNe, vint, TyS, TyF, TBS, TBF, DcS, DcF, SvS, SvF, PfS, PfF] <;> with_reducible rfl)) (ares_tmp1 (by decide))), ?_⟩
  simp only [LS, SS, SX, HS, mkS_cons, mkS_nil, ↓reduceIte, eq_self', List.map_nil, beq_self_eq_true, Nat.reduceEqDiff, Nat.reduceAdd, Nat.succ_ne_self, vint, TyS, TyF, TBS, TBF, DcS, DcF, SvS, SvF, PfS, PfF]

theorem check_k (ds : List Dc) (sas : List TB) (hl : ds.length ≤ maxLen) (hd : ∀ d ∈ ds, d.W) (hsl : sas.length ≤ maxLen) (hs : ∀ b ∈ sas, b.W) : ∀ (k : Nat) (p : Pf), p.size ≤ k → p.W → PC Try.prog 48 [.slice (ds.map Dc.enc) .none, .slice (sas.map TB.enc) .none, p.enc] (.bool (checkT ds sas k p))
  | 0, p, h, _ => by cases p; simp [Pf.size] at h
  | k + 1, p, h, hw => by
    rw [checkT_s]
    refine pc_of (N := 154) Try.func48 rfl rfl (by simp) (by simp [Pf.bel, bel_Dc, bel_TB]) (.bool _) ?_
    -- region 0
    repeat (refine awp_seq ?_)
    refine e_eval (by simp only [asq, as0, as1, as2, awanted, aop, LS, SS, SX, HS, mkS_cons, mkS_nil, ↓reduceIte, eq_self', List.map_nil, beq_self_eq_true, Nat.reduceEqDiff, Nat.reduceAdd, Nat.reduceMul, Nat.reduceLT, Nat.reduceLeDiff, Nat.reducePow, Nat.reduceDiv, Nat.reduceMod, Nat.succ_ne_self, Nat.reduceBEq, Nat.reduceBNe, Tryti63, Trytf63, Trytz63, Trytp63, vint, TyS, TyF, TBS, TBF, DcS, DcF, SvS, SvF, PfS, PfF] <;> with_reducible rfl) (by decide) ?_
    -- region 1
    repeat (refine awp_seq ?_)
    refine e_eval (by simp only [asq, as0, as1, as2, awanted, aop, afldAddr, ajust, aload, abin, LS, SS, SX, HS, mkS_cons, mkS_nil, ↓reduceIte, eq_self', List.map_nil, beq_self_eq_true, Nat.reduceEqDiff, Nat.reduceAdd, Nat.reduceMul, Nat.reduceLT, Nat.reduceLeDiff, Nat.reducePow, Nat.reduceDiv, Nat.reduceMod, Nat.succ_ne_self, Nat.reduceBEq, Nat.reduceBNe, Tryti3, Trytz3, Trytp3, Trytk3, Tryti63, Trytf63, Trytz63, Trytp63, vint, TyS, TyF, TBS, TBF, DcS, DcF, SvS, SvF, PfS, PfF] <;> with_reducible rfl) (by decide) ?_
    repeat (refine awp_seq ?_)
    refine awp_cond rfl (by simp only [LS, SS, SX, HS, mkS_cons, mkS_nil, ↓reduceIte, eq_self', List.map_nil, beq_self_eq_true, Nat.reduceEqDiff, Nat.reduceAdd, Nat.succ_ne_self, vint, TyS, TyF, TBS, TBF, DcS, DcF, SvS, SvF, PfS, PfF] <;> with_reducible rfl) (fun b0 => ?_) (fun b0 => ?_)
    · -- if t14
      have him : p.im = -1 := of_decide_eq_true b0
      rw [if_pos him]
      -- region 2
      repeat (refine awp_seq ?_)
      refine g_eval (by simp only [gsq, gs0, gs1, gs2, gcond, gop, SG, Op.operands, Call.operands, Array.toList_append, aop, afldAddr, ajust, aload, abin, abuiltin, LS, SS, SX, HS, mkS_cons, mkS_nil, ↓reduceIte, eq_self', List.map_nil, beq_self_eq_true, Nat.reduceEqDiff, Nat.reduceAdd, Nat.reduceMul, Nat.reduceLT, Nat.reduceLeDiff, Nat.reducePow, Nat.reduceDiv, Nat.reduceMod, Nat.succ_ne_self, Nat.reduceBEq, Nat.reduceBNe, Tryti3, Trytz3, Trytp3, Trytk3, Tryti22, Tryte22, Trytz22, Trytp22, Tryti24, Trytf24, Trytz24, Trytp24, Tryti60, Tryte60, Trytz60, Trytp60, Tryti61, Tryte61, Trytz61, Trytp61, Tryti63, Trytf63, Trytz63, Trytp63, Tryti74, Trytf74, Trytz74, Trytp74, vint, TyS, TyF, TBS, TBF, DcS, DcF, SvS, SvF, PfS, PfF] <;> with_reducible rfl) (by decide) (by repeat (first | exact Fin.base _ | with_reducible apply Fin.keep | apply Fin.drop)) ?_
      repeat (refine awp_seq ?_)
      refine awp_cond rfl (by simp only [LS, SS, SX, HS, mkS_cons, mkS_nil, ↓reduceIte, eq_self', List.map_nil, beq_self_eq_true, Nat.reduceEqDiff, Nat.reduceAdd, Nat.succ_ne_self, vint, TyS, TyF, TBS, TBF, DcS, DcF, SvS, SvF, PfS, PfF] <;> with_reducible rfl) (fun b1 => ?_) (fun b1 => ?_)
      · -- if t36
        refine awp_sel [] (by simp only [LS, SS, SX, HS, mkS_cons, mkS_nil, ↓reduceIte, eq_self', List.map_nil, beq_self_eq_true, Nat.reduceEqDiff, Nat.reduceAdd, Nat.succ_ne_self, vint, TyS, TyF, TBS, TBF, DcS, DcF, SvS, SvF, PfS, PfF] <;> with_reducible rfl) ?_
        -- region 3
        repeat (refine awp_seq ?_)
        refine e_eval (by simp only [asq, as0, as1, as2, awanted, aop, LS, SS, SX, HS, mkS_cons, mkS_nil, ↓reduceIte, eq_self', List.map_nil, beq_self_eq_true, Nat.reduceEqDiff, Nat.reduceAdd, Nat.reduceMul, Nat.reduceLT, Nat.reduceLeDiff, Nat.reducePow, Nat.reduceDiv, Nat.reduceMod, Nat.succ_ne_self, Nat.reduceBEq, Nat.reduceBNe, vint, TyS, TyF, TBS, TBF, DcS, DcF, SvS, SvF, PfS, PfF] <;> with_reducible rfl) (by decide) ?_
        repeat (refine awp_seq ?_)
        -- leaf 0 ret
        refine awp_ret ⟨.inr rfl, _, rfl, ?_⟩
        simp only [LS, SS, SX, HS, mkS_cons, mkS_nil, ↓reduceIte, eq_self', List.map_nil, beq_self_eq_true, Nat.reduceEqDiff, Nat.reduceAdd, Nat.succ_ne_self, vint, TyS, TyF, TBS, TBF, DcS, DcF, SvS, SvF, PfS, PfF, isE]
        congr 1
        grind
      · -- else t36
        have hb : (0 ≤ p.bd ∧ p.bd < sas.length) ∧ p.args.length = 0 ∧ p.prems.length = 0 := by simp at b1; grind
        have g1 : ((0 : Int) ≤ p.bd ∧ p.bd < sas.length) = True := by simp [hb]
        have hlt : p.bd.toNat < sas.length := by omega
        obtain ⟨b, hbe⟩ : ∃ b, sas[p.bd.toNat] = b := ⟨_, rfl⟩
        have g2 := get_enc TB.enc hlt
        rw [hbe] at g2
        have hbw : b.W := by rw [← hbe]; exact hs _ (List.getElem_mem hlt)
        repeat (refine awp_seq ?_)
        refine awp_skip ?_
        refine awp_sel [1, 5] (by simp only [LS, SS, SX, HS, mkS_cons, mkS_nil, ↓reduceIte, eq_self', List.map_nil, beq_self_eq_true, Nat.reduceEqDiff, Nat.reduceAdd, Nat.succ_ne_self, vint, TyS, TyF, TBS, TBF, DcS, DcF, SvS, SvF, PfS, PfF] <;> with_reducible rfl) ?_
        -- region 4
        repeat (refine awp_seq ?_)
        refine e_eval (by simp only [asq, as0, as1, as2, awanted, aop, afldAddr, ajust, aload, aidxAddr, aidx, astore, splice, LS, SS, SX, HS, mkS_cons, mkS_nil, ↓reduceIte, eq_self', List.map_nil, beq_self_eq_true, Nat.reduceEqDiff, Nat.reduceAdd, Nat.reduceMul, Nat.reduceLT, Nat.reduceLeDiff, Nat.reducePow, Nat.reduceDiv, Nat.reduceMod, Nat.succ_ne_self, Nat.reduceBEq, Nat.reduceBNe, Tryti3, Trytz3, Trytp3, Trytk3, Tryti60, Tryte60, Trytz60, Trytp60, Tryti63, Trytf63, Trytz63, Trytp63, Tryti74, Trytf74, Trytz74, Trytp74, vint, TyS, TyF, TBS, TBF, DcS, DcF, SvS, SvF, PfS, PfF, g1, g2] <;> with_reducible rfl) (by decide) ?_
        -- region 5
        repeat (refine awp_seq ?_)
        refine awp_region ?_
        refine aops_gstart ?_
        refine g_take 10 (by simp only [gsq, gs0, gs1, gs2, gcond, gop, SG, Op.operands, Call.operands, Array.toList_append, aop, afldAddr, ajust, aload, abin, LS, SS, SX, HS, mkS_cons, mkS_nil, ↓reduceIte, eq_self', List.map_nil, beq_self_eq_true, Nat.reduceEqDiff, Nat.reduceAdd, Nat.reduceMul, Nat.reduceLT, Nat.reduceLeDiff, Nat.reducePow, Nat.reduceDiv, Nat.reduceMod, Nat.succ_ne_self, Nat.reduceBEq, Nat.reduceBNe, Tryti3, Trytz3, Trytp3, Trytk3, Tryti24, Trytf24, Trytz24, Trytp24, Tryti63, Trytf63, Trytz63, Trytp63, Tryti74, Trytf74, Trytz74, Trytp74, vint, TyS, TyF, TBS, TBF, DcS, DcF, SvS, SvF, PfS, PfF, g1, g2] <;> with_reducible rfl) (by decide) ?_
        refine aops_gpure (by simp only [acall, gcond, SG, Op.operands, Call.operands, Array.toList_append, LS, SS, SX, HS, mkS_cons, mkS_nil, ↓reduceIte, eq_self', List.map_nil, beq_self_eq_true, Nat.reduceEqDiff, Nat.reduceAdd, Nat.reduceMul, Nat.reduceLT, Nat.reduceLeDiff, Nat.reducePow, Nat.reduceDiv, Nat.reduceMod, Nat.succ_ne_self, Nat.reduceBEq, Nat.reduceBNe, vint, TyS, TyF, TBS, TBF, DcS, DcF, SvS, SvF, PfS, PfF, g1, g2] <;> with_reducible rfl) (by simp only [acall, gcond, SG, Op.operands, Call.operands, Array.toList_append, LS, SS, SX, HS, mkS_cons, mkS_nil, ↓reduceIte, eq_self', List.map_nil, beq_self_eq_true, Nat.reduceEqDiff, Nat.reduceAdd, Nat.reduceMul, Nat.reduceLT, Nat.reduceLeDiff, Nat.reducePow, Nat.reduceDiv, Nat.reduceMod, Nat.succ_ne_self, Nat.reduceBEq, Nat.reduceBNe, vint, TyS, TyF, TBS, TBF, DcS, DcF, SvS, SvF, PfS, PfF, g1, g2] <;> with_reducible rfl) (by simp only [acall, gcond, SG, Op.operands, Call.operands, Array.toList_append, LS, SS, SX, HS, mkS_cons, mkS_nil, ↓reduceIte, eq_self', List.map_nil, beq_self_eq_true, Nat.reduceEqDiff, Nat.reduceAdd, Nat.reduceMul, Nat.reduceLT, Nat.reduceLeDiff, Nat.reducePow, Nat.reduceDiv, Nat.reduceMod, Nat.succ_ne_self, Nat.reduceBEq, Nat.reduceBNe, vint, TyS, TyF, TBS, TBF, DcS, DcF, SvS, SvF, PfS, PfF, g1, g2]) (by decide) Trygo23 (fun hc => equal_any b.t p.t hbw.st_t _) ?_
        refine g_end (by simp only [gsq, gs0, gs1, gs2, gcond, gop, SG, Op.operands, Call.operands, Array.toList_append, aop, LS, SS, SX, HS, mkS_cons, mkS_nil, ↓reduceIte, eq_self', List.map_nil, beq_self_eq_true, Nat.reduceEqDiff, Nat.reduceAdd, Nat.reduceMul, Nat.reduceLT, Nat.reduceLeDiff, Nat.reducePow, Nat.reduceDiv, Nat.reduceMod, Nat.succ_ne_self, Nat.reduceBEq, Nat.reduceBNe, vint, TyS, TyF, TBS, TBF, DcS, DcF, SvS, SvF, PfS, PfF, g1, g2] <;> with_reducible rfl) (by decide) (by repeat (first | exact Fin.base _ | with_reducible apply Fin.keep | apply Fin.drop)) ?_
        repeat (refine awp_seq ?_)
        -- leaf 1 ret
        refine awp_ret ⟨.inr rfl, _, rfl, ?_⟩
        have hg : sas[p.bd.toNat]? = some b := by rw [List.getElem?_eq_getElem hlt, hbe]
        simp only [LS, SS, SX, HS, mkS_cons, mkS_nil, ↓reduceIte, eq_self', List.map_nil, beq_self_eq_true, Nat.reduceEqDiff, Nat.reduceAdd, Nat.succ_ne_self, vint, TyS, TyF, TBS, TBF, DcS, DcF, SvS, SvF, PfS, PfF, isE, hg, hb]
        simp [hb]
    · -- else t14
      have him : ¬ p.im = -1 := of_decide_eq_false b0
      rw [if_neg him]
      repeat (refine awp_seq ?_)
      refine awp_skip ?_
      -- region 6
      repeat (refine awp_seq ?_)
      refine g_eval (by simp only [gsq, gs0, gs1, gs2, gcond, gop, SG, Op.operands, Call.operands, Array.toList_append, aop, afldAddr, ajust, aload, abin, abuiltin, LS, SS, SX, HS, mkS_cons, mkS_nil, ↓reduceIte, eq_self', List.map_nil, beq_self_eq_true, Nat.reduceEqDiff, Nat.reduceAdd, Nat.reduceMul, Nat.reduceLT, Nat.reduceLeDiff, Nat.reducePow, Nat.reduceDiv, Nat.reduceMod, Nat.succ_ne_self, Nat.reduceBEq, Nat.reduceBNe, Tryti3, Trytz3, Trytp3, Trytk3, Tryti59, Tryte59, Trytz59, Trytp59, Tryti63, Trytf63, Trytz63, Trytp63, Tryti71, Trytf71, Trytz71, Trytp71, vint, TyS, TyF, TBS, TBF, DcS, DcF, SvS, SvF, PfS, PfF] <;> with_reducible rfl) (by decide) (by repeat (first | exact Fin.base _ | with_reducible apply Fin.keep | apply Fin.drop)) ?_
      repeat (refine awp_seq ?_)
      refine awp_cond rfl (by simp only [LS, SS, SX, HS, mkS_cons, mkS_nil, ↓reduceIte, eq_self', List.map_nil, beq_self_eq_true, Nat.reduceEqDiff, Nat.reduceAdd, Nat.succ_ne_self, vint, TyS, TyF, TBS, TBF, DcS, DcF, SvS, SvF, PfS, PfF] <;> with_reducible rfl) (fun b2 => ?_) (fun b2 => ?_)
      · -- if t73
        refine awp_sel [] (by simp only [LS, SS, SX, HS, mkS_cons, mkS_nil, ↓reduceIte, eq_self', List.map_nil, beq_self_eq_true, Nat.reduceEqDiff, Nat.reduceAdd, Nat.succ_ne_self, vint, TyS, TyF, TBS, TBF, DcS, DcF, SvS, SvF, PfS, PfF] <;> with_reducible rfl) ?_
        -- region 7
        repeat (refine awp_seq ?_)
        refine e_eval (by simp only [asq, as0, as1, as2, awanted, aop, LS, SS, SX, HS, mkS_cons, mkS_nil, ↓reduceIte, eq_self', List.map_nil, beq_self_eq_true, Nat.reduceEqDiff, Nat.reduceAdd, Nat.reduceMul, Nat.reduceLT, Nat.reduceLeDiff, Nat.reducePow, Nat.reduceDiv, Nat.reduceMod, Nat.succ_ne_self, Nat.reduceBEq, Nat.reduceBNe, vint, TyS, TyF, TBS, TBF, DcS, DcF, SvS, SvF, PfS, PfF] <;> with_reducible rfl) (by decide) ?_
        repeat (refine awp_seq ?_)
        -- leaf 2 ret
        refine awp_ret ⟨.inr rfl, _, rfl, ?_⟩
        have hq : p.bd ≠ -1 ∨ p.im < 0 ∨ (ds.length : Int) ≤ p.im ∨ p.tr < 0 := by simp at b2; omega
        rw [if_pos hq]
        simp only [LS, SS, SX, HS, mkS_cons, mkS_nil, ↓reduceIte, eq_self', List.map_nil, beq_self_eq_true, Nat.reduceEqDiff, Nat.reduceAdd, Nat.succ_ne_self, vint, TyS, TyF, TBS, TBF, DcS, DcF, SvS, SvF, PfS, PfF]
      · -- else t73
        have hq : ¬ (p.bd ≠ -1 ∨ p.im < 0 ∨ (ds.length : Int) ≤ p.im ∨ p.tr < 0) := by simp at b2; omega
        rw [if_neg hq]
        have g1 : ((0 : Int) ≤ p.im ∧ p.im < ds.length) = True := by simp; omega
        have hlt : p.im.toNat < ds.length := by omega
        obtain ⟨d, hde⟩ : ∃ d, ds[p.im.toNat] = d := ⟨_, rfl⟩
        have g2 := get_enc Dc.enc hlt
        rw [hde] at g2
        have hgd : ds[p.im.toNat]? = some d := by rw [List.getElem?_eq_getElem hlt, hde]
        rw [hgd]
        have hW : d.W := by rw [← hde]; exact hd _ (List.getElem_mem hlt)
        have hps := hW.max_ps
        have hpa := hw.el_args
        repeat (refine awp_seq ?_)
        refine awp_skip ?_
        refine awp_sel [0, 1, 5] (by simp only [LS, SS, SX, HS, mkS_cons, mkS_nil, ↓reduceIte, eq_self', List.map_nil, beq_self_eq_true, Nat.reduceEqDiff, Nat.reduceAdd, Nat.succ_ne_self, vint, TyS, TyF, TBS, TBF, DcS, DcF, SvS, SvF, PfS, PfF] <;> with_reducible rfl) ?_
        -- region 8
        repeat (refine awp_seq ?_)
        refine e_eval (by simp only [asq, as0, as1, as2, awanted, aop, afldAddr, ajust, aload, aidxAddr, aidx, astore, splice, LS, SS, SX, HS, mkS_cons, mkS_nil, ↓reduceIte, eq_self', List.map_nil, beq_self_eq_true, Nat.reduceEqDiff, Nat.reduceAdd, Nat.reduceMul, Nat.reduceLT, Nat.reduceLeDiff, Nat.reducePow, Nat.reduceDiv, Nat.reduceMod, Nat.succ_ne_self, Nat.reduceBEq, Nat.reduceBNe, Tryti3, Trytz3, Trytp3, Trytk3, Tryti59, Tryte59, Trytz59, Trytp59, Tryti63, Trytf63, Trytz63, Trytp63, Tryti71, Trytf71, Trytz71, Trytp71, vint, TyS, TyF, TBS, TBF, DcS, DcF, SvS, SvF, PfS, PfF, g1, g2] <;> with_reducible rfl) (by decide) ?_
        -- region 9
        repeat (refine awp_seq ?_)
        refine awp_drawW 0 (by kernel_rfl) ?_
        refine dops_gstart ?_
        refine gd_take (bm := [0, 1, 0, 4, 15, 31, 63, 127, 255, 63, 575, 1599, 4095, 8191, 16383, 32767, 65535, 131071, 32767, 294911, 819199, 2097151, 4194303, 8388607, 16777215, 33554431, 16777215, 83886079, 16777215, 285212671, 1073741823, 16777215, 2164260863, 8589934591, 17179869183, 34359738367]) 10 (fresh := 0) (by kernel_rfl) (by simp only [gdq, gd0, gd1, gd2, gd3, gcond, gop, SG, Op.operands, Call.operands, Array.toList_append, hapB, effIds, effSet, nextFresh, ard, freshOk, isUnborn, aop, afldAddr, ajust, aload, abin, abuiltin, LS, SS, SX, HS, mkS_cons, mkS_nil, ↓reduceIte, eq_self', List.map_nil, beq_self_eq_true, Nat.reduceEqDiff, Nat.reduceAdd, Nat.reduceMul, Nat.reduceLT, Nat.reduceLeDiff, Nat.reducePow, Nat.reduceDiv, Nat.reduceMod, Nat.succ_ne_self, Nat.reduceBEq, Nat.reduceBNe, Tryti3, Trytz3, Trytp3, Trytk3, Tryti22, Tryte22, Trytz22, Trytp22, Tryti24, Trytf24, Trytz24, Trytp24, Tryti63, Trytf63, Trytz63, Trytp63, Tryti71, Trytf71, Trytz71, Trytp71, vint, TyS, TyF, TBS, TBF, DcS, DcF, SvS, SvF, PfS, PfF] <;> with_reducible rfl) (by decide) (by decide) ?_
        refine gd_take (bm := [0, 1, 0, 4, 15, 31, 63, 127, 255, 63, 575, 1599, 4095, 8191, 16383, 32767, 65535, 131071, 32767, 294911, 819199, 2097151, 4194303, 8388607, 16777215, 33554431, 16777215, 83886079, 16777215, 285212671, 1073741823, 16777215, 2164260863, 8589934591, 17179869183, 34359738367]) 10 (fresh := 0) (by kernel_rfl) (by simp only [gdq, gd0, gd1, gd2, gd3, gcond, gop, SG, Op.operands, Call.operands, Array.toList_append, hapB, effIds, effSet, nextFresh, ard, freshOk, isUnborn, aop, aload, ajust, abuiltin, abin, afldAddr, LS, SS, SX, HS, mkS_cons, mkS_nil, ↓reduceIte, eq_self', List.map_nil, beq_self_eq_true, Nat.reduceEqDiff, Nat.reduceAdd, Nat.reduceMul, Nat.reduceLT, Nat.reduceLeDiff, Nat.reducePow, Nat.reduceDiv, Nat.reduceMod, Nat.succ_ne_self, Nat.reduceBEq, Nat.reduceBNe, Tryti3, Trytz3, Trytp3, Trytk3, Tryti25, Tryte25, Trytz25, Trytp25, Tryti60, Tryte60, Trytz60, Trytp60, Tryti61, Tryte61, Trytz61, Trytp61, Tryti63, Trytf63, Trytz63, Trytp63, Tryti71, Trytf71, Trytz71, Trytp71, Tryti74, Trytf74, Trytz74, Trytp74, vint, TyS, TyF, TBS, TBF, DcS, DcF, SvS, SvF, PfS, PfF] <;> with_reducible rfl) (by decide) (by decide) ?_
        refine gd_take (bm := [0, 1, 0, 4, 15, 31, 63, 127, 255, 63, 575, 1599, 4095, 8191, 16383, 32767, 65535, 131071, 32767, 294911, 819199, 2097151, 4194303, 8388607, 16777215, 33554431, 16777215, 83886079, 16777215, 285212671, 1073741823, 16777215, 2164260863, 8589934591, 17179869183, 34359738367]) 10 (fresh := 0) (by kernel_rfl) (by simp only [gdq, gd0, gd1, gd2, gd3, gcond, gop, SG, Op.operands, Call.operands, Array.toList_append, hapB, effIds, effSet, nextFresh, ard, freshOk, isUnborn, aop, abuiltin, abin, ajust, afldAddr, aload, LS, SS, SX, HS, mkS_cons, mkS_nil, ↓reduceIte, eq_self', List.map_nil, beq_self_eq_true, Nat.reduceEqDiff, Nat.reduceAdd, Nat.reduceMul, Nat.reduceLT, Nat.reduceLeDiff, Nat.reducePow, Nat.reduceDiv, Nat.reduceMod, Nat.succ_ne_self, Nat.reduceBEq, Nat.reduceBNe, Tryti3, Trytz3, Trytp3, Trytk3, Tryti22, Tryte22, Trytz22, Trytp22, Tryti24, Trytf24, Trytz24, Trytp24, Tryti25, Tryte25, Trytz25, Trytp25, Tryti60, Tryte60, Trytz60, Trytp60, Tryti63, Trytf63, Trytz63, Trytp63, Tryti71, Trytf71, Trytz71, Trytp71, Tryti74, Trytf74, Trytz74, Trytp74, vint, TyS, TyF, TBS, TBF, DcS, DcF, SvS, SvF, PfS, PfF] <;> with_reducible rfl) (by decide) (by decide) ?_
        refine dops_gkeep (bm := [0, 1, 0, 4, 15, 31, 63, 127, 255, 63, 575, 1599, 4095, 8191, 16383, 32767, 65535, 131071, 32767, 294911, 819199, 2097151, 4194303, 8388607, 16777215, 33554431, 16777215, 83886079, 16777215, 285212671, 1073741823, 16777215, 2164260863, 8589934591, 17179869183, 34359738367]) ([]) (by kernel_rfl) (by simp only [acall, gcond, SG, Op.operands, Call.operands, Array.toList_append, LS, SS, SX, HS, mkS_cons, mkS_nil, ↓reduceIte, eq_self', List.map_nil, beq_self_eq_true, Nat.reduceEqDiff, Nat.reduceAdd, Nat.reduceMul, Nat.reduceLT, Nat.reduceLeDiff, Nat.reducePow, Nat.reduceDiv, Nat.reduceMod, Nat.succ_ne_self, Nat.reduceBEq, Nat.reduceBNe, vint, TyS, TyF, TBS, TBF, DcS, DcF, SvS, SvF, PfS, PfF] <;> with_reducible rfl) (by simp only [acall, gcond, SG, Op.operands, Call.operands, Array.toList_append, LS, SS, SX, HS, mkS_cons, mkS_nil, ↓reduceIte, eq_self', List.map_nil, beq_self_eq_true, Nat.reduceEqDiff, Nat.reduceAdd, Nat.reduceMul, Nat.reduceLT, Nat.reduceLeDiff, Nat.reducePow, Nat.reduceDiv, Nat.reduceMod, Nat.succ_ne_self, Nat.reduceBEq, Nat.reduceBNe, vint, TyS, TyF, TBS, TBF, DcS, DcF, SvS, SvF, PfS, PfF] <;> with_reducible rfl) (by simp only [acall, gcond, SG, Op.operands, Call.operands, Array.toList_append, LS, SS, SX, HS, mkS_cons, mkS_nil, ↓reduceIte, eq_self', List.map_nil, beq_self_eq_true, Nat.reduceEqDiff, Nat.reduceAdd, Nat.reduceMul, Nat.reduceLT, Nat.reduceLeDiff, Nat.reducePow, Nat.reduceDiv, Nat.reduceMod, Nat.succ_ne_self, Nat.reduceBEq, Nat.reduceBNe, vint, TyS, TyF, TBS, TBF, DcS, DcF, SvS, SvF, PfS, PfF]) (by decide) Trygo24 (fun hc => fun H' _ => apply_c d.t d.ps p.args hW.st_t hps hpa H') (by simp only [gdq, gd0, gd1, gd2, gd3, gcond, gop, SG, Op.operands, Call.operands, Array.toList_append, hapB, effIds, effSet, nextFresh, ard, freshOk, isUnborn, aop, LS, SS, SX, HS, mkS_cons, mkS_nil, ↓reduceIte, eq_self', List.map_nil, beq_self_eq_true, Nat.reduceEqDiff, Nat.reduceAdd, Nat.reduceMul, Nat.reduceLT, Nat.reduceLeDiff, Nat.reducePow, Nat.reduceDiv, Nat.reduceMod, Nat.succ_ne_self, Nat.reduceBEq, Nat.reduceBNe, vint, TyS, TyF, TBS, TBF, DcS, DcF, SvS, SvF, PfS, PfF] <;> first | done | rfl) ?_
        refine gd_take (bm := [0, 1, 0, 4, 15, 31, 63, 127, 255, 63, 575, 1599, 4095, 8191, 16383, 32767, 65535, 131071, 32767, 294911, 819199, 2097151, 4194303, 8388607, 16777215, 33554431, 16777215, 83886079, 16777215, 285212671, 1073741823, 16777215, 2164260863, 8589934591, 17179869183, 34359738367]) 2 (fresh := 0) (by kernel_rfl) (by simp only [gdq, gd0, gd1, gd2, gd3, gcond, gop, SG, Op.operands, Call.operands, Array.toList_append, hapB, effIds, effSet, nextFresh, ard, freshOk, isUnborn, aop, afldAddr, ajust, aload, LS, SS, SX, HS, mkS_cons, mkS_nil, ↓reduceIte, eq_self', List.map_nil, beq_self_eq_true, Nat.reduceEqDiff, Nat.reduceAdd, Nat.reduceMul, Nat.reduceLT, Nat.reduceLeDiff, Nat.reducePow, Nat.reduceDiv, Nat.reduceMod, Nat.succ_ne_self, Nat.reduceBEq, Nat.reduceBNe, Tryti24, Trytf24, Trytz24, Trytp24, Tryti63, Trytf63, Trytz63, Trytp63, vint, TyS, TyF, TBS, TBF, DcS, DcF, SvS, SvF, PfS, PfF] <;> with_reducible rfl) (by decide) (by decide) ?_
        refine dops_gkeep (bm := [0, 1, 0, 4, 15, 31, 63, 127, 255, 63, 575, 1599, 4095, 8191, 16383, 32767, 65535, 131071, 32767, 294911, 819199, 2097151, 4194303, 8388607, 16777215, 33554431, 16777215, 83886079, 16777215, 285212671, 1073741823, 16777215, 2164260863, 8589934591, 17179869183, 34359738367]) ([]) (by kernel_rfl) (by simp only [acall, gcond, SG, Op.operands, Call.operands, Array.toList_append, LS, SS, SX, HS, mkS_cons, mkS_nil, ↓reduceIte, eq_self', List.map_nil, beq_self_eq_true, Nat.reduceEqDiff, Nat.reduceAdd, Nat.reduceMul, Nat.reduceLT, Nat.reduceLeDiff, Nat.reducePow, Nat.reduceDiv, Nat.reduceMod, Nat.succ_ne_self, Nat.reduceBEq, Nat.reduceBNe, vint, TyS, TyF, TBS, TBF, DcS, DcF, SvS, SvF, PfS, PfF] <;> with_reducible rfl) (by simp only [acall, gcond, SG, Op.operands, Call.operands, Array.toList_append, LS, SS, SX, HS, mkS_cons, mkS_nil, ↓reduceIte, eq_self', List.map_nil, beq_self_eq_true, Nat.reduceEqDiff, Nat.reduceAdd, Nat.reduceMul, Nat.reduceLT, Nat.reduceLeDiff, Nat.reducePow, Nat.reduceDiv, Nat.reduceMod, Nat.succ_ne_self, Nat.reduceBEq, Nat.reduceBNe, vint, TyS, TyF, TBS, TBF, DcS, DcF, SvS, SvF, PfS, PfF] <;> with_reducible rfl) (by simp only [acall, gcond, SG, Op.operands, Call.operands, Array.toList_append, LS, SS, SX, HS, mkS_cons, mkS_nil, ↓reduceIte, eq_self', List.map_nil, beq_self_eq_true, Nat.reduceEqDiff, Nat.reduceAdd, Nat.reduceMul, Nat.reduceLT, Nat.reduceLeDiff, Nat.reducePow, Nat.reduceDiv, Nat.reduceMod, Nat.succ_ne_self, Nat.reduceBEq, Nat.reduceBNe, vint, TyS, TyF, TBS, TBF, DcS, DcF, SvS, SvF, PfS, PfF]) (by decide) Trygo23 (fun hc => fun H' _ => equal_any (mapT (appG d.ps p.args) d.t) p.t (app_W hpa hW.st_t) H') (by simp only [gdq, gd0, gd1, gd2, gd3, gcond, gop, SG, Op.operands, Call.operands, Array.toList_append, hapB, effIds, effSet, nextFresh, ard, freshOk, isUnborn, aop, LS, SS, SX, HS, mkS_cons, mkS_nil, ↓reduceIte, eq_self', List.map_nil, beq_self_eq_true, Nat.reduceEqDiff, Nat.reduceAdd, Nat.reduceMul, Nat.reduceLT, Nat.reduceLeDiff, Nat.reducePow, Nat.reduceDiv, Nat.reduceMod, Nat.succ_ne_self, Nat.reduceBEq, Nat.reduceBNe, vint, TyS, TyF, TBS, TBF, DcS, DcF, SvS, SvF, PfS, PfF] <;> first | done | rfl) ?_
        refine gd_end (bm := [0, 1, 0, 4, 15, 31, 63, 127, 255, 63, 575, 1599, 4095, 8191, 16383, 32767, 65535, 131071, 32767, 294911, 819199, 2097151, 4194303, 8388607, 16777215, 33554431, 16777215, 83886079, 16777215, 285212671, 1073741823, 16777215, 2164260863, 8589934591, 17179869183, 34359738367]) (fresh := 0) (by kernel_rfl) (by simp only [gdq, gd0, gd1, gd2, gd3, gcond, gop, SG, Op.operands, Call.operands, Array.toList_append, hapB, effIds, effSet, nextFresh, ard, freshOk, isUnborn, aop, aun, ajust, LS, SS, SX, HS, mkS_cons, mkS_nil, ↓reduceIte, eq_self', List.map_nil, beq_self_eq_true, Nat.reduceEqDiff, Nat.reduceAdd, Nat.reduceMul, Nat.reduceLT, Nat.reduceLeDiff, Nat.reducePow, Nat.reduceDiv, Nat.reduceMod, Nat.succ_ne_self, Nat.reduceBEq, Nat.reduceBNe, vint, TyS, TyF, TBS, TBF, DcS, DcF, SvS, SvF, PfS, PfF] <;> with_reducible rfl) (by decide) (by repeat (first | exact Fin.base _ | with_reducible apply Fin.keep | apply Fin.drop)) ?_
        repeat (refine awp_seq ?_)
        refine awp_cond rfl (by simp only [LS, SS, SX, HS, mkS_cons, mkS_nil, ↓reduceIte, eq_self', List.map_nil, beq_self_eq_true, Nat.reduceEqDiff, Nat.reduceAdd, Nat.succ_ne_self, vint, TyS, TyF, TBS, TBF, DcS, DcF, SvS, SvF, PfS, PfF] <;> with_reducible rfl) (fun b3 => ?_) (fun b3 => ?_)
        · -- if t114
          refine awp_sel [] (by simp only [LS, SS, SX, HS, mkS_cons, mkS_nil, ↓reduceIte, eq_self', List.map_nil, beq_self_eq_true, Nat.reduceEqDiff, Nat.reduceAdd, Nat.succ_ne_self, vint, TyS, TyF, TBS, TBF, DcS, DcF, SvS, SvF, PfS, PfF] <;> with_reducible rfl) ?_
          -- region 10
          repeat (refine awp_seq ?_)
          refine e_eval (by simp only [asq, as0, as1, as2, awanted, aop, LS, SS, SX, HS, mkS_cons, mkS_nil, ↓reduceIte, eq_self', List.map_nil, beq_self_eq_true, Nat.reduceEqDiff, Nat.reduceAdd, Nat.reduceMul, Nat.reduceLT, Nat.reduceLeDiff, Nat.reducePow, Nat.reduceDiv, Nat.reduceMod, Nat.succ_ne_self, Nat.reduceBEq, Nat.reduceBNe, vint, TyS, TyF, TBS, TBF, DcS, DcF, SvS, SvF, PfS, PfF] <;> with_reducible rfl) (by decide) ?_
          repeat (refine awp_seq ?_)
          -- leaf 3 ret
          refine awp_ret ⟨.inr rfl, _, rfl, ?_⟩
          simp only [LS, SS, SX, HS, mkS_cons, mkS_nil, ↓reduceIte, eq_self', List.map_nil, beq_self_eq_true, Nat.reduceEqDiff, Nat.reduceAdd, Nat.succ_ne_self, vint, TyS, TyF, TBS, TBF, DcS, DcF, SvS, SvF, PfS, PfF]
          congr 1
          grind
        · -- else t114
          have hq2 : d.tr = p.tr ∧ p.args.length = d.ps.length ∧ p.prems.length = d.bs.length ∧ (mapT (appG d.ps p.args) d.t).eqb p.t = true := by simp at b3; grind
          repeat (refine awp_seq ?_)
          refine awp_skip ?_
          refine awp_sel [0, 1, 5, 8] (by simp only [LS, SS, SX, HS, mkS_cons, mkS_nil, ↓reduceIte, eq_self', List.map_nil, beq_self_eq_true, Nat.reduceEqDiff, Nat.reduceAdd, Nat.succ_ne_self, vint, TyS, TyF, TBS, TBF, DcS, DcF, SvS, SvF, PfS, PfF] <;> with_reducible rfl) ?_
          -- region 11
          repeat (refine awp_seq ?_)
          refine e_eval (by simp only [asq, as0, as1, as2, awanted, aop, afldAddr, ajust, aload, abuiltin, LS, SS, SX, HS, mkS_cons, mkS_nil, ↓reduceIte, eq_self', List.map_nil, beq_self_eq_true, Nat.reduceEqDiff, Nat.reduceAdd, Nat.reduceMul, Nat.reduceLT, Nat.reduceLeDiff, Nat.reducePow, Nat.reduceDiv, Nat.reduceMod, Nat.succ_ne_self, Nat.reduceBEq, Nat.reduceBNe, Tryti60, Tryte60, Trytz60, Trytp60, Tryti71, Trytf71, Trytz71, Trytp71, Tryti74, Trytf74, Trytz74, Trytp74, vint, TyS, TyF, TBS, TBF, DcS, DcF, SvS, SvF, PfS, PfF] <;> with_reducible rfl) (by decide) ?_
          repeat (refine awp_seq ?_)
          refine awp_forS (σ := Unit) (d.bs.length) (fun (s : Unit) => [(0, .slice (ds.map Dc.enc) .none), (1, .slice (sas.map TB.enc) .none), (5, .optr 0 0), (8, .optr 1 0), (116, .slice (d.bs.map TB.enc) .none)]) [0, 1, 5, 8, 116] ([]) (fun (s : Unit) => [.row p.enc.cells, .row d.enc.cells]) (fun (i : Nat) (s : Unit) => ((d.bs.zip p.prems).take i).all (fun x : TB × Pf => decide (x.2.tr = x.1.tr) && x.2.t.eqb (mapT (appG d.ps p.args) x.1.t) && checkT ds sas k x.2) = true) (()) ([]) rfl rfl rfl rfl rfl rfl rfl rfl rfl (by decide) (by decide) (by decide) (fun _ => rfl) (hW.max_bs) ⟨(by first | rfl | (simp only [LS, SS, SX, HS, mkS_cons, mkS_nil, ↓reduceIte, eq_self', List.map_nil, beq_self_eq_true, Nat.reduceEqDiff, Nat.reduceAdd, Nat.succ_ne_self, vint, TyS, TyF, TBS, TBF, DcS, DcF, SvS, SvF, PfS, PfF] <;> first | done | with_reducible rfl)), (by first | rfl | (simp only [LS, SS, SX, HS, mkS_cons, mkS_nil, ↓reduceIte, eq_self', List.map_nil, beq_self_eq_true, Nat.reduceEqDiff, Nat.reduceAdd, Nat.succ_ne_self, vint, TyS, TyF, TBS, TBF, DcS, DcF, SvS, SvF, PfS, PfF] <;> first | done | with_reducible rfl)), (by first | rfl | (simp only [LS, SS, SX, HS, mkS_cons, mkS_nil, ↓reduceIte, eq_self', List.map_nil, beq_self_eq_true, Nat.reduceEqDiff, Nat.reduceAdd, Nat.succ_ne_self, vint, TyS, TyF, TBS, TBF, DcS, DcF, SvS, SvF, PfS, PfF] <;> first | done | with_reducible rfl)), (by first | rfl | (simp only [LS, SS, SX, HS, mkS_cons, mkS_nil, ↓reduceIte, eq_self', List.map_nil, beq_self_eq_true, Nat.reduceEqDiff, Nat.reduceAdd, Nat.succ_ne_self, vint, TyS, TyF, TBS, TBF, DcS, DcF, SvS, SvF, PfS, PfF] <;> first | done | with_reducible rfl)), (by first | rfl | (simp only [LS, SS, SX, HS, mkS_cons, mkS_nil, ↓reduceIte, eq_self', List.map_nil, beq_self_eq_true, Nat.reduceEqDiff, Nat.reduceAdd, Nat.succ_ne_self, vint, TyS, TyF, TBS, TBF, DcS, DcF, SvS, SvF, PfS, PfF] <;> first | done | with_reducible rfl)), (by first | rfl | (simp only [LS, SS, SX, HS, mkS_cons, mkS_nil, ↓reduceIte, eq_self', List.map_nil, beq_self_eq_true, Nat.reduceEqDiff, Nat.reduceAdd, Nat.succ_ne_self, vint, TyS, TyF, TBS, TBF, DcS, DcF, SvS, SvF, PfS, PfF] <;> first | done | with_reducible rfl)), (by first | rfl | (simp only [LS, SS, SX, HS, mkS_cons, mkS_nil, ↓reduceIte, eq_self', List.map_nil, beq_self_eq_true, Nat.reduceEqDiff, Nat.reduceAdd, Nat.succ_ne_self, vint, TyS, TyF, TBS, TBF, DcS, DcF, SvS, SvF, PfS, PfF] <;> first | done | with_reducible rfl)), trivial⟩ (by first | rfl | (simp only [LS, SS, SX, HS, mkS_cons, mkS_nil, ↓reduceIte, eq_self', List.map_nil, beq_self_eq_true, Nat.reduceEqDiff, Nat.reduceAdd, Nat.succ_ne_self, vint, TyS, TyF, TBS, TBF, DcS, DcF, SvS, SvF, PfS, PfF] <;> first | done | with_reducible rfl)) (by simp) (fun _ _ _ => by first | exact Nat.zero_le _ | (simp only [List.length_append]; omega)) ?_ ?_ ?_
          · exact fun i s hg => ⟨by simp only [PfS, DcS, List.nil_append]; repeat (first | exact hbel_nil _ | exact trivial | exact obel_row_nil _ | (refine HBel.cons ?_ ?_) | (refine obel_row_cons (by first | exact bel_TB _ _ | exact TB.bel _ _ | exact bel_Dc _ _ | exact Dc.bel _ _ | exact Pf.bel _ _ | exact bel_Pf _ _ | exact Sv.bel _ _ | exact bel_Pf_tok _ (by simp) | exact bel_ints0 _ _ | exact bel_slice_ty _ _ | exact Ty.bel _ _ | exact bel_ty_tok _ (by simp) | exact Bel.int _ _ | exact Bel.bool _ | exact Bel.str _ | exact Bel.nilp | exact Bel.nilfn | exact Bel.optr _ _ (by simp) | exact bel_nil0 _ | exact bel_nil1 _ | exact bel_fn0 _ _ | assumption) ?_)), by repeat (first | exact BelL.nil | refine BelL.cons (by first | exact bel_TB _ _ | exact TB.bel _ _ | exact bel_Dc _ _ | exact Dc.bel _ _ | exact Pf.bel _ _ | exact bel_Pf _ _ | exact Sv.bel _ _ | exact bel_Pf_tok _ (by simp) | exact bel_ints0 _ _ | exact bel_slice_ty _ _ | exact Ty.bel _ _ | exact bel_ty_tok _ (by simp) | exact Bel.int _ _ | exact Bel.bool _ | exact Bel.str _ | exact Bel.nilp | exact Bel.nilfn | exact Bel.optr _ _ (by simp) | exact bel_nil0 _ | exact bel_nil1 _ | exact bel_fn0 _ _ | assumption) ?_)⟩
          · intro i s hi hg
            have g3 := ix_nat hi
            have g4 := get_enc TB.enc hi
            have hip : i < p.prems.length := by omega
            have g5 := ix_nat hip
            have g6 := get_enc Pf.enc hip
            have hbw := hW.el_bs _ (List.getElem_mem hi)
            have hmem : p.prems[i] ∈ p.prems := List.getElem_mem hip
            have hqw := hw.prems hmem
            have hqs := Pf.size_prems hmem
            obtain ⟨b, hbe⟩ : ∃ b, d.bs[i] = b := ⟨_, rfl⟩
            obtain ⟨q, hqe⟩ : ∃ q, p.prems[i] = q := ⟨_, rfl⟩
            rw [hbe] at g4 hbw
            rw [hqe] at g6 hqw hqs
            have hz : (d.bs.zip p.prems)[i]'(by simp; omega) = (b, q) := by simp [hbe, hqe]
            -- region 13
            repeat (refine awp_seq ?_)
            refine e_eval (by simp only [asq, as0, as1, as2, awanted, aop, aidxAddr, aidx, ajust, aload, astore, splice, LS, SS, SX, HS, mkS_cons, mkS_nil, ↓reduceIte, eq_self', List.map_nil, beq_self_eq_true, Nat.reduceEqDiff, Nat.reduceAdd, Nat.reduceMul, Nat.reduceLT, Nat.reduceLeDiff, Nat.reducePow, Nat.reduceDiv, Nat.reduceMod, Nat.succ_ne_self, Nat.reduceBEq, Nat.reduceBNe, Tryti60, Tryte60, Trytz60, Trytp60, Tryti74, Trytf74, Trytz74, Trytp74, vint, TyS, TyF, TBS, TBF, DcS, DcF, SvS, SvF, PfS, PfF, g3, g4, g5, g6, Int.toNat_natCast] <;> with_reducible rfl) (by decide) ?_
            -- region 14
            repeat (refine awp_seq ?_)
            refine e_eval (by simp only [asq, as0, as1, as2, awanted, aop, afldAddr, ajust, aload, aidxAddr, aidx, astore, splice, LS, SS, SX, HS, mkS_cons, mkS_nil, ↓reduceIte, eq_self', List.map_nil, beq_self_eq_true, Nat.reduceEqDiff, Nat.reduceAdd, Nat.reduceMul, Nat.reduceLT, Nat.reduceLeDiff, Nat.reducePow, Nat.reduceDiv, Nat.reduceMod, Nat.succ_ne_self, Nat.reduceBEq, Nat.reduceBNe, Tryti61, Tryte61, Trytz61, Trytp61, Tryti63, Trytf63, Trytz63, Trytp63, vint, TyS, TyF, TBS, TBF, DcS, DcF, SvS, SvF, PfS, PfF, g3, g4, g5, g6, Int.toNat_natCast] <;> with_reducible rfl) (by decide) ?_
            -- region 15
            repeat (refine awp_seq ?_)
            refine awp_drawW 0 (by kernel_rfl) ?_
            refine dops_gstart ?_
            refine gd_take (bm := [0, 1, 0, 4, 15, 31, 63, 127, 63, 319, 63, 1087, 63, 4159, 16191, 32767, 65535, 131071, 262143, 524287, 524287, 524287, 4194303, 8388607, 16777215]) 10 (fresh := 0) (by kernel_rfl) (by simp only [gdq, gd0, gd1, gd2, gd3, gcond, gop, SG, Op.operands, Call.operands, Array.toList_append, hapB, effIds, effSet, nextFresh, ard, freshOk, isUnborn, aop, afldAddr, ajust, aload, abin, LS, SS, SX, HS, mkS_cons, mkS_nil, ↓reduceIte, eq_self', List.map_nil, beq_self_eq_true, Nat.reduceEqDiff, Nat.reduceAdd, Nat.reduceMul, Nat.reduceLT, Nat.reduceLeDiff, Nat.reducePow, Nat.reduceDiv, Nat.reduceMod, Nat.succ_ne_self, Nat.reduceBEq, Nat.reduceBNe, Tryti3, Trytz3, Trytp3, Trytk3, Tryti24, Trytf24, Trytz24, Trytp24, Tryti63, Trytf63, Trytz63, Trytp63, Tryti74, Trytf74, Trytz74, Trytp74, vint, TyS, TyF, TBS, TBF, DcS, DcF, SvS, SvF, PfS, PfF, g3, g4, g5, g6, Int.toNat_natCast] <;> with_reducible rfl) (by decide) (by decide) ?_
            refine gd_take (bm := [0, 1, 0, 4, 15, 31, 63, 127, 63, 319, 63, 1087, 63, 4159, 16191, 32767, 65535, 131071, 262143, 524287, 524287, 524287, 4194303, 8388607, 16777215]) 4 (fresh := 0) (by kernel_rfl) (by simp only [gdq, gd0, gd1, gd2, gd3, gcond, gop, SG, Op.operands, Call.operands, Array.toList_append, hapB, effIds, effSet, nextFresh, ard, freshOk, isUnborn, aop, afldAddr, ajust, aload, LS, SS, SX, HS, mkS_cons, mkS_nil, ↓reduceIte, eq_self', List.map_nil, beq_self_eq_true, Nat.reduceEqDiff, Nat.reduceAdd, Nat.reduceMul, Nat.reduceLT, Nat.reduceLeDiff, Nat.reducePow, Nat.reduceDiv, Nat.reduceMod, Nat.succ_ne_self, Nat.reduceBEq, Nat.reduceBNe, Tryti3, Trytz3, Trytp3, Trytk3, Tryti22, Tryte22, Trytz22, Trytp22, Tryti24, Trytf24, Trytz24, Trytp24, Tryti25, Tryte25, Trytz25, Trytp25, Tryti63, Trytf63, Trytz63, Trytp63, Tryti71, Trytf71, Trytz71, Trytp71, vint, TyS, TyF, TBS, TBF, DcS, DcF, SvS, SvF, PfS, PfF, g3, g4, g5, g6, Int.toNat_natCast] <;> with_reducible rfl) (by decide) (by decide) ?_
            refine dops_gkeep (bm := [0, 1, 0, 4, 15, 31, 63, 127, 63, 319, 63, 1087, 63, 4159, 16191, 32767, 65535, 131071, 262143, 524287, 524287, 524287, 4194303, 8388607, 16777215]) ([]) (by kernel_rfl) (by simp only [acall, gcond, SG, Op.operands, Call.operands, Array.toList_append, LS, SS, SX, HS, mkS_cons, mkS_nil, ↓reduceIte, eq_self', List.map_nil, beq_self_eq_true, Nat.reduceEqDiff, Nat.reduceAdd, Nat.reduceMul, Nat.reduceLT, Nat.reduceLeDiff, Nat.reducePow, Nat.reduceDiv, Nat.reduceMod, Nat.succ_ne_self, Nat.reduceBEq, Nat.reduceBNe, vint, TyS, TyF, TBS, TBF, DcS, DcF, SvS, SvF, PfS, PfF, g3, g4, g5, g6, Int.toNat_natCast] <;> with_reducible rfl) (by simp only [acall, gcond, SG, Op.operands, Call.operands, Array.toList_append, LS, SS, SX, HS, mkS_cons, mkS_nil, ↓reduceIte, eq_self', List.map_nil, beq_self_eq_true, Nat.reduceEqDiff, Nat.reduceAdd, Nat.reduceMul, Nat.reduceLT, Nat.reduceLeDiff, Nat.reducePow, Nat.reduceDiv, Nat.reduceMod, Nat.succ_ne_self, Nat.reduceBEq, Nat.reduceBNe, vint, TyS, TyF, TBS, TBF, DcS, DcF, SvS, SvF, PfS, PfF, g3, g4, g5, g6, Int.toNat_natCast] <;> with_reducible rfl) (by simp only [acall, gcond, SG, Op.operands, Call.operands, Array.toList_append, LS, SS, SX, HS, mkS_cons, mkS_nil, ↓reduceIte, eq_self', List.map_nil, beq_self_eq_true, Nat.reduceEqDiff, Nat.reduceAdd, Nat.reduceMul, Nat.reduceLT, Nat.reduceLeDiff, Nat.reducePow, Nat.reduceDiv, Nat.reduceMod, Nat.succ_ne_self, Nat.reduceBEq, Nat.reduceBNe, vint, TyS, TyF, TBS, TBF, DcS, DcF, SvS, SvF, PfS, PfF, g3, g4, g5, g6, Int.toNat_natCast]) (by decide) Trygo24 (fun hc => fun H' _ => apply_c b.t d.ps p.args hbw.st_t hps hpa H') (by simp only [gdq, gd0, gd1, gd2, gd3, gcond, gop, SG, Op.operands, Call.operands, Array.toList_append, hapB, effIds, effSet, nextFresh, ard, freshOk, isUnborn, aop, LS, SS, SX, HS, mkS_cons, mkS_nil, ↓reduceIte, eq_self', List.map_nil, beq_self_eq_true, Nat.reduceEqDiff, Nat.reduceAdd, Nat.reduceMul, Nat.reduceLT, Nat.reduceLeDiff, Nat.reducePow, Nat.reduceDiv, Nat.reduceMod, Nat.succ_ne_self, Nat.reduceBEq, Nat.reduceBNe, vint, TyS, TyF, TBS, TBF, DcS, DcF, SvS, SvF, PfS, PfF, g3, g4, g5, g6, Int.toNat_natCast] <;> first | done | rfl) ?_
            refine dops_gkeep (bm := [0, 1, 0, 4, 15, 31, 63, 127, 63, 319, 63, 1087, 63, 4159, 16191, 32767, 65535, 131071, 262143, 524287, 524287, 524287, 4194303, 8388607, 16777215]) ([]) (by kernel_rfl) (by simp only [acall, gcond, SG, Op.operands, Call.operands, Array.toList_append, LS, SS, SX, HS, mkS_cons, mkS_nil, ↓reduceIte, eq_self', List.map_nil, beq_self_eq_true, Nat.reduceEqDiff, Nat.reduceAdd, Nat.reduceMul, Nat.reduceLT, Nat.reduceLeDiff, Nat.reducePow, Nat.reduceDiv, Nat.reduceMod, Nat.succ_ne_self, Nat.reduceBEq, Nat.reduceBNe, vint, TyS, TyF, TBS, TBF, DcS, DcF, SvS, SvF, PfS, PfF, g3, g4, g5, g6, Int.toNat_natCast] <;> with_reducible rfl) (by simp only [acall, gcond, SG, Op.operands, Call.operands, Array.toList_append, LS, SS, SX, HS, mkS_cons, mkS_nil, ↓reduceIte, eq_self', List.map_nil, beq_self_eq_true, Nat.reduceEqDiff, Nat.reduceAdd, Nat.reduceMul, Nat.reduceLT, Nat.reduceLeDiff, Nat.reducePow, Nat.reduceDiv, Nat.reduceMod, Nat.succ_ne_self, Nat.reduceBEq, Nat.reduceBNe, vint, TyS, TyF, TBS, TBF, DcS, DcF, SvS, SvF, PfS, PfF, g3, g4, g5, g6, Int.toNat_natCast] <;> with_reducible rfl) (by simp only [acall, gcond, SG, Op.operands, Call.operands, Array.toList_append, LS, SS, SX, HS, mkS_cons, mkS_nil, ↓reduceIte, eq_self', List.map_nil, beq_self_eq_true, Nat.reduceEqDiff, Nat.reduceAdd, Nat.reduceMul, Nat.reduceLT, Nat.reduceLeDiff, Nat.reducePow, Nat.reduceDiv, Nat.reduceMod, Nat.succ_ne_self, Nat.reduceBEq, Nat.reduceBNe, vint, TyS, TyF, TBS, TBF, DcS, DcF, SvS, SvF, PfS, PfF, g3, g4, g5, g6, Int.toNat_natCast]) (by decide) Trygo23 (fun hc => fun H' _ => equal_any q.t (mapT (appG d.ps p.args) b.t) hqw.st_t H') (by simp only [gdq, gd0, gd1, gd2, gd3, gcond, gop, SG, Op.operands, Call.operands, Array.toList_append, hapB, effIds, effSet, nextFresh, ard, freshOk, isUnborn, aop, LS, SS, SX, HS, mkS_cons, mkS_nil, ↓reduceIte, eq_self', List.map_nil, beq_self_eq_true, Nat.reduceEqDiff, Nat.reduceAdd, Nat.reduceMul, Nat.reduceLT, Nat.reduceLeDiff, Nat.reducePow, Nat.reduceDiv, Nat.reduceMod, Nat.succ_ne_self, Nat.reduceBEq, Nat.reduceBNe, vint, TyS, TyF, TBS, TBF, DcS, DcF, SvS, SvF, PfS, PfF, g3, g4, g5, g6, Int.toNat_natCast] <;> first | done | rfl) ?_
            refine gd_take (bm := [0, 1, 0, 4, 15, 31, 63, 127, 63, 319, 63, 1087, 63, 4159, 16191, 32767, 65535, 131071, 262143, 524287, 524287, 524287, 4194303, 8388607, 16777215]) 6 (fresh := 0) (by kernel_rfl) (by simp only [gdq, gd0, gd1, gd2, gd3, gcond, gop, SG, Op.operands, Call.operands, Array.toList_append, hapB, effIds, effSet, nextFresh, ard, freshOk, isUnborn, aop, aun, ajust, aload, LS, SS, SX, HS, mkS_cons, mkS_nil, ↓reduceIte, eq_self', List.map_nil, beq_self_eq_true, Nat.reduceEqDiff, Nat.reduceAdd, Nat.reduceMul, Nat.reduceLT, Nat.reduceLeDiff, Nat.reducePow, Nat.reduceDiv, Nat.reduceMod, Nat.succ_ne_self, Nat.reduceBEq, Nat.reduceBNe, Tryti63, Trytf63, Trytz63, Trytp63, vint, TyS, TyF, TBS, TBF, DcS, DcF, SvS, SvF, PfS, PfF, g3, g4, g5, g6, Int.toNat_natCast] <;> with_reducible rfl) (by decide) (by decide) ?_
            refine dops_gkeep (bm := [0, 1, 0, 4, 15, 31, 63, 127, 63, 319, 63, 1087, 63, 4159, 16191, 32767, 65535, 131071, 262143, 524287, 524287, 524287, 4194303, 8388607, 16777215]) ([]) (by kernel_rfl) (by simp only [acall, gcond, SG, Op.operands, Call.operands, Array.toList_append, LS, SS, SX, HS, mkS_cons, mkS_nil, ↓reduceIte, eq_self', List.map_nil, beq_self_eq_true, Nat.reduceEqDiff, Nat.reduceAdd, Nat.reduceMul, Nat.reduceLT, Nat.reduceLeDiff, Nat.reducePow, Nat.reduceDiv, Nat.reduceMod, Nat.succ_ne_self, Nat.reduceBEq, Nat.reduceBNe, vint, TyS, TyF, TBS, TBF, DcS, DcF, SvS, SvF, PfS, PfF, g3, g4, g5, g6, Int.toNat_natCast] <;> with_reducible rfl) (by simp only [acall, gcond, SG, Op.operands, Call.operands, Array.toList_append, LS, SS, SX, HS, mkS_cons, mkS_nil, ↓reduceIte, eq_self', List.map_nil, beq_self_eq_true, Nat.reduceEqDiff, Nat.reduceAdd, Nat.reduceMul, Nat.reduceLT, Nat.reduceLeDiff, Nat.reducePow, Nat.reduceDiv, Nat.reduceMod, Nat.succ_ne_self, Nat.reduceBEq, Nat.reduceBNe, vint, TyS, TyF, TBS, TBF, DcS, DcF, SvS, SvF, PfS, PfF, g3, g4, g5, g6, Int.toNat_natCast] <;> with_reducible rfl) (by simp only [acall, gcond, SG, Op.operands, Call.operands, Array.toList_append, LS, SS, SX, HS, mkS_cons, mkS_nil, ↓reduceIte, eq_self', List.map_nil, beq_self_eq_true, Nat.reduceEqDiff, Nat.reduceAdd, Nat.reduceMul, Nat.reduceLT, Nat.reduceLeDiff, Nat.reducePow, Nat.reduceDiv, Nat.reduceMod, Nat.succ_ne_self, Nat.reduceBEq, Nat.reduceBNe, vint, TyS, TyF, TBS, TBF, DcS, DcF, SvS, SvF, PfS, PfF, g3, g4, g5, g6, Int.toNat_natCast]) (by decide) Trygo48 (fun hc => fun H' _ => check_k ds sas hl hd hsl hs k q (by omega) hqw H') (by simp only [gdq, gd0, gd1, gd2, gd3, gcond, gop, SG, Op.operands, Call.operands, Array.toList_append, hapB, effIds, effSet, nextFresh, ard, freshOk, isUnborn, aop, LS, SS, SX, HS, mkS_cons, mkS_nil, ↓reduceIte, eq_self', List.map_nil, beq_self_eq_true, Nat.reduceEqDiff, Nat.reduceAdd, Nat.reduceMul, Nat.reduceLT, Nat.reduceLeDiff, Nat.reducePow, Nat.reduceDiv, Nat.reduceMod, Nat.succ_ne_self, Nat.reduceBEq, Nat.reduceBNe, vint, TyS, TyF, TBS, TBF, DcS, DcF, SvS, SvF, PfS, PfF, g3, g4, g5, g6, Int.toNat_natCast] <;> first | done | rfl) ?_
            refine gd_end (bm := [0, 1, 0, 4, 15, 31, 63, 127, 63, 319, 63, 1087, 63, 4159, 16191, 32767, 65535, 131071, 262143, 524287, 524287, 524287, 4194303, 8388607, 16777215]) (fresh := 0) (by kernel_rfl) (by simp only [gdq, gd0, gd1, gd2, gd3, gcond, gop, SG, Op.operands, Call.operands, Array.toList_append, hapB, effIds, effSet, nextFresh, ard, freshOk, isUnborn, aop, aun, ajust, LS, SS, SX, HS, mkS_cons, mkS_nil, ↓reduceIte, eq_self', List.map_nil, beq_self_eq_true, Nat.reduceEqDiff, Nat.reduceAdd, Nat.reduceMul, Nat.reduceLT, Nat.reduceLeDiff, Nat.reducePow, Nat.reduceDiv, Nat.reduceMod, Nat.succ_ne_self, Nat.reduceBEq, Nat.reduceBNe, vint, TyS, TyF, TBS, TBF, DcS, DcF, SvS, SvF, PfS, PfF, g3, g4, g5, g6, Int.toNat_natCast] <;> with_reducible rfl) (by decide) (by repeat (first | exact Fin.base _ | with_reducible apply Fin.keep | apply Fin.drop)) ?_
            repeat (refine awp_seq ?_)
            refine awp_cond rfl (by simp only [LS, SS, SX, HS, mkS_cons, mkS_nil, ↓reduceIte, eq_self', List.map_nil, beq_self_eq_true, Nat.reduceEqDiff, Nat.reduceAdd, Nat.succ_ne_self, vint, TyS, TyF, TBS, TBF, DcS, DcF, SvS, SvF, PfS, PfF, g3, g4, g5, g6, Int.toNat_natCast] <;> with_reducible rfl) (fun b4 => ?_) (fun b4 => ?_)
            · -- if t152
              refine awp_sel [0, 1, 5, 8, 116, 117, 118] (by simp only [LS, SS, SX, HS, mkS_cons, mkS_nil, ↓reduceIte, eq_self', List.map_nil, beq_self_eq_true, Nat.reduceEqDiff, Nat.reduceAdd, Nat.succ_ne_self, vint, TyS, TyF, TBS, TBF, DcS, DcF, SvS, SvF, PfS, PfF, g3, g4, g5, g6, Int.toNat_natCast] <;> with_reducible rfl) ?_
              -- region 16
              repeat (refine awp_seq ?_)
              refine e_eval (by simp only [asq, as0, as1, as2, awanted, aop, LS, SS, SX, HS, mkS_cons, mkS_nil, ↓reduceIte, eq_self', List.map_nil, beq_self_eq_true, Nat.reduceEqDiff, Nat.reduceAdd, Nat.reduceMul, Nat.reduceLT, Nat.reduceLeDiff, Nat.reducePow, Nat.reduceDiv, Nat.reduceMod, Nat.succ_ne_self, Nat.reduceBEq, Nat.reduceBNe, vint, TyS, TyF, TBS, TBF, DcS, DcF, SvS, SvF, PfS, PfF, g3, g4, g5, g6, Int.toNat_natCast] <;> with_reducible rfl) (by decide) ?_
              repeat (refine awp_seq ?_)
              -- leaf 4 ret
              refine awp_ret ⟨.inr rfl, _, rfl, ?_⟩
              have hx : ((d.bs.zip p.prems).all (fun x : TB × Pf => decide (x.2.tr = x.1.tr) && x.2.t.eqb (mapT (appG d.ps p.args) x.1.t) && checkT ds sas k x.2)) = false := by
                rw [List.all_eq_false]
                refine ⟨(b, q), by rw [← hz]; exact List.getElem_mem _, ?_⟩
                simp only
                grind
              simp only [hx, Bool.and_false]
              simp only [LS, SS, SX, HS, mkS_cons, mkS_nil, ↓reduceIte, eq_self', List.map_nil, beq_self_eq_true, Nat.reduceEqDiff, Nat.reduceAdd, Nat.succ_ne_self, vint, TyS, TyF, TBS, TBF, DcS, DcF, SvS, SvF, PfS, PfF]
            · -- else t152
              repeat (refine awp_seq ?_)
              refine awp_skip ?_
              -- leaf 5 next0
              exact ⟨⟨rfl, rfl, trivial⟩, (), _, ⟨rfl, rfl, rfl, rfl, rfl, trivial⟩, by simp only [LS, SS, SX, HS, mkS_cons, mkS_nil, ↓reduceIte, eq_self', List.map_nil, beq_self_eq_true, Nat.reduceEqDiff, Nat.reduceAdd, Nat.succ_ne_self, vint, TyS, TyF, TBS, TBF, DcS, DcF, SvS, SvF, PfS, PfF] <;> rfl, all_take_succ (by simp; omega) hg (by rw [hz]; simp only; grind)⟩
          · intro s hg
            rw [List.take_of_length_le (by simp; omega)] at hg
            -- region 18
            repeat (refine awp_seq ?_)
            refine e_eval (by simp only [asq, as0, as1, as2, awanted, aop, LS, SS, SX, HS, mkS_cons, mkS_nil, ↓reduceIte, eq_self', List.map_nil, beq_self_eq_true, Nat.reduceEqDiff, Nat.reduceAdd, Nat.reduceMul, Nat.reduceLT, Nat.reduceLeDiff, Nat.reducePow, Nat.reduceDiv, Nat.reduceMod, Nat.succ_ne_self, Nat.reduceBEq, Nat.reduceBNe, vint, TyS, TyF, TBS, TBF, DcS, DcF, SvS, SvF, PfS, PfF] <;> with_reducible rfl) (by decide) ?_
            repeat (refine awp_seq ?_)
            -- leaf 6 ret
            refine awp_ret ⟨.inr rfl, _, rfl, ?_⟩
            simp only [hg, hq2, decide_true, Bool.and_self]
            simp only [LS, SS, SX, HS, mkS_cons, mkS_nil, ↓reduceIte, eq_self', List.map_nil, beq_self_eq_true, Nat.reduceEqDiff, Nat.reduceAdd, Nat.succ_ne_self, vint, TyS, TyF, TBS, TBF, DcS, DcF, SvS, SvF, PfS, PfF]

end Go.Abs
set_option linter.unusedVariables false
namespace Go.Abs
/-! Drawn regions: a first part in which nothing is laid, then operations that lay. -/
def noApp : Op → Bool
  | .call c => match c.callee with
    | .builtin .append => false
    | _ => true
  | .store .. => false
  | _ => true
theorem ard_row {P : Program} {fresh : Nat} {c : Bool} {T : Slots} {G : Nat → Bool} {H : Heap} {o : Op} {v : PV} {e : Eff} (h : gop P fresh c T G H o = some (v, e)) (hn : noApp o = true) : ∀ id ∈ ard T o, ∃ cs, H[id]? = some (.row cs) := by
  have hb : ∀ (x : Option (PV × Eff)) (f : PV × Eff → Option (PV × Eff)) (q : Prop) [Decidable q], (if q then x.bind f else none) = some (v, e) → ∃ r, x = some r := by
    intro x f q _ h
    split at h
    · obtain ⟨r, hr, _⟩ := Option.bind_eq_some_iff.1 h
      exact ⟨r, hr⟩
    · cases h
  cases o with
  | load t x =>
    simp only [gop] at h
    obtain ⟨r, hr⟩ := hb _ _ _ h
    intro id hid
    simp only [ard] at hid
    split at hid
    · rename_i id' off hx
      simp only [List.mem_singleton] at hid
      subst hid
      simp only [aop] at hr
      obtain ⟨i, hi, hr⟩ := Option.bind_eq_some_iff.1 hr
      rw [hx] at hr
      simp only [aload] at hr
      cases hq : H[id]? with
      | none => rw [hq] at hr; simp at hr
      | some ob =>
        cases ob with
        | row cs => exact ⟨cs, rfl⟩
        | unborn => rw [hq] at hr; simp at hr
        | buf n s => rw [hq] at hr; simp at hr
    · cases hid
  | store t x y => cases hn
  | call cl =>
    intro id hid
    simp only [ard] at hid
    simp only [noApp] at hn
    split at hid
    · rename_i hq; rw [hq] at hn; cases hn
    · cases hid
  | _ => intro id hid; simp [ard] at hid
def P1 (n0 k0 : Nat) (prev : Prev) : Prop := ∀ p ∈ prev, p.1 < k0 ∧ p.2.2 = [] ∧ ∀ id ∈ p.2.1, id < n0
theorem P1.app {n0 k : Nat} {prev : Prev} (h : P1 n0 k prev) {rd : List Nat} (hr : ∀ id ∈ rd, id < n0) : P1 n0 (k + 1) (prev ++ [(k, rd, [])]) := by
  intro p hp
  rcases List.mem_append.1 hp with hp | hp
  · obtain ⟨h1, h2⟩ := h p hp; exact ⟨by omega, h2⟩
  · rw [List.mem_singleton] at hp; subst hp; exact ⟨Nat.lt_succ_self _, rfl, hr⟩
theorem P1.noeff {n0 k : Nat} {prev : Prev} (h : P1 n0 k prev) : NoEff prev := fun p hp => (h p hp).2.1
def xchk (n0 k0 m : Nat) (eids : List Nat) : Bool := (eids.all fun id => decide (n0 ≤ id)) || (m % 2 ^ k0 == 2 ^ k0 - 1)
theorem hapB_P1 {n0 k0 m : Nat} {prev : Prev} {rd eids : List Nat} (h : P1 n0 k0 prev) (hm : xchk n0 k0 m eids = true) : hapB m prev rd eids = true := by
  unfold hapB
  rw [List.all_eq_true]
  intro p hp
  obtain ⟨h1, h2, h3⟩ := h p hp
  unfold xchk at hm
  rw [Bool.or_eq_true] at hm ⊢
  rcases hm with hm | hm
  · right
    rw [h2]
    simp only [List.all_nil, Bool.true_and]
    rw [List.all_eq_true] at hm ⊢
    intro id hid
    have := of_decide_eq_true (hm id hid)
    cases hc : p.2.1.contains id with
    | false => rfl
    | true =>
      have := h3 id (by simpa using hc)
      omega
  · left
    have e2 : (m / 2 ^ p.1 % 2 == 1) = m.testBit p.1 := by rw [Nat.testBit_eq_decide_div_mod_eq]; rfl
    rw [e2]
    have hm : m % 2 ^ k0 = 2 ^ k0 - 1 := by simpa using hm
    have := Nat.testBit_mod_two_pow m k0 p.1
    rw [hm, Nat.testBit_two_pow_sub_one] at this
    simp only [h1, decide_true, Bool.true_and] at this
    exact this.symm
theorem hapB_app {m : Nat} {p1 p2 : Prev} {rd eids : List Nat} (h1 : hapB m p1 rd eids = true) (h2 : hapB m p2 rd eids = true) : hapB m (p1 ++ p2) rd eids = true := by
  unfold hapB at h1 h2 ⊢
  rw [List.all_append, h1, h2]; rfl
section
variable {P : Program} {N nb : Nat} {ops : Array Oper} {Q : Post}
def X1 (P : Program) (N : Nat) (ops : Array Oper) (Q : Post) (n0 k : Nat) (l : List Oper) (T : Slots) (H : Heap) : Prop := ∀ prev, P1 n0 k prev → DOps P N ops (fun e T1 H1 => ∃ T2, (∀ i, T2 i = .junk ∨ T2 i = T1 i) ∧ Q e T2 H1) k l prev T H
theorem row_lt {H : Heap} {m id : Nat} {cs : List PV} (h : (H ++ List.replicate m AObj.unborn)[id]? = some (.row cs)) : id < H.length := by
  rcases Nat.lt_or_ge id H.length with hl | hl
  · exact hl
  · rw [List.getElem?_append_right hl, List.getElem?_replicate] at h
    split at h <;> cases h
theorem x_draw {id : Nat} {T : Slots} {H : Heap} (m : Nat) {n0 : Nat} (hn : H.length = n0) (hok : drawOk P ops.toList = true) (h : X1 P N ops Q n0 0 ops.toList (msk (.tup []) T allG) (H ++ List.replicate m .unborn)) : AWP P N nb (.region id ops true) Q T H := by
  refine awp_drawW m hok ?_
  exact h [] (by intro p hp; cases hp)
theorem x1_run {H : Heap} {n0 : Nat} (hu : ∀ id cs, H[id]? = some (.row cs) → id < n0) : ∀ (l l2 : List Oper) (k : Nat) (T : Slots) (G : Nat → Bool) {T' : Slots} {G' : Nat → Bool} {H' : Heap}, l.all (fun o => okOp N o.op) = true → l.all (fun o => noApp o.op) = true →
    psq P N ops.toList l (some (T, G, H)) = some (T', G', H') → (H' = H → X1 P N ops Q n0 (k + l.length) l2 (msk (.tup []) T' G') H) → X1 P N ops Q n0 k (l ++ l2) (msk (.tup []) T G) H
  | [], l2, k, T, G, T', G', H', _, _, hs, h => by cases hs; exact h rfl
  | o :: l, l2, k, T, G, T', G', H', hok, hna, hs, h => by
    simp only [List.all_cons, Bool.and_eq_true] at hok hna
    simp only [psq, ps0] at hs
    cases hw : gcond ops.toList T G N o with
    | none => rw [hw] at hs; simp only [ps1, psq_none] at hs; cases hs
    | some c =>
      rw [hw] at hs
      simp only [ps1] at hs
      cases hg : gop P H.length c T G H o.op with
      | none => rw [hg] at hs; simp only [ps2, psq_none] at hs; cases hs
      | some r =>
        rw [hg] at hs
        obtain ⟨v, e⟩ := r
        cases e with
        | some e => simp only [ps2, psq_none] at hs; cases hs
        | none =>
          simp only [ps2] at hs
          intro prev hp
          refine dops_gstep (fresh := H.length) rfl hok.1 hw hg rfl (hapB_noeff hp.noeff _ _) ?_
          have := x1_run hu l l2 (k + 1) _ _ hok.2 hna.2 hs (fun e => by rw [show k + 1 + l.length = k + (o :: l).length by simp only [List.length_cons]; omega]; exact h e)
          refine this _ (hp.app fun id hid => ?_)
          simp only [effIds, List.append_nil] at hid
          obtain ⟨cs, hcs⟩ := ard_row hg hna.1 id hid
          exact hu id cs hcs
theorem x1_take (n : Nat) {l : List Oper} {n0 k m : Nat} {T T' : Slots} {G G' : Nat → Bool} {B H' : Heap} (hl : B.length = n0) (hs : psq P N ops.toList (l.take n) (some (T, G, B ++ List.replicate m .unborn)) = some (T', G', H'))
    (hok : (l.take n).all (fun o => okOp N o.op) = true) (hna : (l.take n).all (fun o => noApp o.op) = true) (hn : (l.take n).length = n) (h : X1 P N ops Q n0 (k + n) (l.drop n) (msk (.tup []) T' G') (B ++ List.replicate m .unborn)) : X1 P N ops Q n0 k l (msk (.tup []) T G) (B ++ List.replicate m .unborn) := by
  have := x1_run (fun id cs h => hl ▸ row_lt h) (l.take n) (l.drop n) k T G hok hna hs (fun _ => by rw [hn]; exact h)
  rwa [List.take_append_drop] at this
theorem x1_keep {n0 k m : Nat} {o : Oper} {l : List Oper} {T : Slots} {G : Nat → Bool} {B : Heap} {c : Bool} {f : FuncId} {args : List PV} {r : PV} (hl : B.length = n0) (hcall : acall T o.op = some (f, args)) (hc : gcond ops.toList T G N o = some c)
    (hg : o.op.operands.toList.all (gOk c G) = true) (hok : okOp N o.op = true) (hgo : goFn P f = true) (hp : c = true → ∀ L, ACalls P f args (B ++ L) fun r' H'' => r' = r ∧ H'' = B ++ L)
    (h : X1 P N ops Q n0 (k + 1) l (msk (.tup []) (updO T o.dst r) (ugO G o.dst c)) (B ++ List.replicate m .unborn)) : X1 P N ops Q n0 k (o :: l) (msk (.tup []) T G) (B ++ List.replicate m .unborn) := by
  intro prev hn
  cases c
  · rw [msk_put_false] at h
    exact dops_skipR [] (fun p hp => .inr ⟨by rw [hn.noeff p hp]; simp, by simp⟩) hc (h _ (hn.app (by simp)))
  · rw [msk_put_true] at h
    have hcall' := acall_msk (u := .tup []) hcall hg
    obtain ⟨fo, xs, ts, pf, pc, h1, h2, h3⟩ := acall_spec hcall'
    refine dops_call (eff := []) (rd := List.range n0) h1 ((gcond_sound hc).1 rfl _) hok h2 hgo h3 (by simp) (fun H' hH hlen => ?_) (fun p hp => .inr ⟨by rw [hn.noeff p hp]; simp, by simp⟩) (h _ (hn.app (fun id hid => List.mem_range.1 hid)))
    obtain ⟨L, rfl⟩ : ∃ L, H' = B ++ L := by
      refine ⟨H'.drop B.length, ?_⟩
      have hle : B.length ≤ H'.length := by rw [hlen]; simp
      refine (List.take_append_drop B.length H').symm.trans ?_
      congr 1
      refine List.ext_getElem? fun i => ?_
      by_cases hi : i < B.length
      · rw [List.getElem?_take_of_lt hi, hH i (List.mem_range.2 (by omega)), List.getElem?_append_left hi]
      · rw [List.getElem?_eq_none (by simp; omega), List.getElem?_eq_none (by omega)]
    exact hp rfl L
def X2 (P : Program) (N : Nat) (ops : Array Oper) (Q : Post) (n0 k0 k : Nat) (l : List Oper) (prev2 : Prev) (T : Slots) (H : Heap) : Prop := ∀ prev1, P1 n0 k0 prev1 → DOps P N ops (fun e T1 H1 => ∃ T2, (∀ i, T2 i = .junk ∨ T2 i = T1 i) ∧ Q e T2 H1) k l (prev1 ++ prev2) T H
theorem x_mid {n0 k : Nat} {l : List Oper} {T : Slots} {H H1 : Heap} (hH : H = H1) (h : X2 P N ops Q n0 k k l [] T H1) : X1 P N ops Q n0 k l T H := by
  subst hH
  intro prev hp
  have := h prev hp
  rwa [List.append_nil] at this
def xd4 (o : Oper) (k fresh : Nat) (prev : Prev) (T : Slots) (G : Nat → Bool) (H : Heap) (c : Bool) (r : PV × Eff) (rd eids : List Nat) : Bool → Bool → Bool → Option GDSt
  | true, true, true => some (k + 1, nextFresh fresh r.2, prev ++ [(k, rd, eids)], updO T o.dst r.1, ugO G o.dst c, effSet r.2 H)
  | _, _, _ => none
def xd2 (n0 k0 : Nat) (bm : List Nat) (o : Oper) (k fresh : Nat) (prev : Prev) (T : Slots) (G : Nat → Bool) (H : Heap) (c : Bool) : Option (PV × Eff) → Option GDSt
  | some r => xd4 o k fresh prev T G H c r (ard T o.op ++ effIds r.2) (effIds r.2) (freshOk fresh r.2 H) (hapB (bm.getD k 0) prev (ard T o.op ++ effIds r.2) (effIds r.2)) (xchk n0 k0 (bm.getD k 0) (effIds r.2))
  | none => none
def xd1 (P : Program) (n0 k0 : Nat) (bm : List Nat) (o : Oper) (k fresh : Nat) (prev : Prev) (T : Slots) (G : Nat → Bool) (H : Heap) : Option Bool → Option GDSt
  | some c => xd2 n0 k0 bm o k fresh prev T G H c (gop P fresh c T G H o.op)
  | none => none
def xd0 (P : Program) (N : Nat) (ops : List Oper) (n0 k0 : Nat) (bm : List Nat) (o : Oper) : Option GDSt → Option GDSt
  | some (k, fresh, prev, T, G, H) => xd1 P n0 k0 bm o k fresh prev T G H (gcond ops T G N o)
  | none => none
def xq (P : Program) (N : Nat) (ops : List Oper) (n0 k0 : Nat) (bm : List Nat) : List Oper → Option GDSt → Option GDSt
  | [], s => s
  | o :: l, s => xq P N ops n0 k0 bm l (xd0 P N ops n0 k0 bm o s)
theorem xq_none {n0 k0 : Nat} {bm : List Nat} : ∀ l, xq P N ops.toList n0 k0 bm l none = none
  | [] => rfl
  | o :: l => xq_none l
theorem x2_run {n0 k0 : Nat} {bm : List Nat} (hbm : bmasks ops.toList = bm) : ∀ (l l2 : List Oper) (k fresh : Nat) (prev : Prev) (T : Slots) (G : Nat → Bool) (H : Heap) {k' fresh' : Nat} {prev' : Prev} {T' : Slots} {G' : Nat → Bool} {H' : Heap}, l.all (fun o => okOp N o.op) = true →
    xq P N ops.toList n0 k0 bm l (some (k, fresh, prev, T, G, H)) = some (k', fresh', prev', T', G', H') → X2 P N ops Q n0 k0 (k + l.length) l2 prev' (msk (.tup []) T' G') H' → X2 P N ops Q n0 k0 k (l ++ l2) prev (msk (.tup []) T G) H
  | [], l2, k, fresh, prev, T, G, H, k', fresh', prev', T', G', H', _, hs, h => by cases hs; exact h
  | o :: l, l2, k, fresh, prev, T, G, H, k', fresh', prev', T', G', H', hok, hs, h => by
    simp only [List.all_cons, Bool.and_eq_true] at hok
    simp only [xq, xd0] at hs
    cases hw : gcond ops.toList T G N o with
    | none => rw [hw] at hs; simp only [xd1, xq_none] at hs; cases hs
    | some c =>
      rw [hw] at hs
      simp only [xd1] at hs
      cases hg : gop P fresh c T G H o.op with
      | none => rw [hg] at hs; simp only [xd2, xq_none] at hs; cases hs
      | some r =>
        rw [hg] at hs
        simp only [xd2] at hs
        cases h1 : freshOk fresh r.2 H with
        | false => rw [h1] at hs; simp only [xd4, xq_none] at hs; cases hs
        | true =>
          cases h2 : hapB (bm.getD k 0) prev (ard T o.op ++ effIds r.2) (effIds r.2) with
          | false => rw [h1, h2] at hs; simp only [xd4, xq_none] at hs; cases hs
          | true =>
            cases h3 : xchk n0 k0 (bm.getD k 0) (effIds r.2) with
            | false => rw [h1, h2, h3] at hs; simp only [xd4, xq_none] at hs; cases hs
            | true =>
              rw [h1, h2, h3] at hs
              simp only [xd4] at hs
              intro prev1 hp
              refine dops_gstep hbm hok.1 hw hg h1 (hapB_app (hapB_P1 hp h3) h2) ?_
              have := x2_run hbm l l2 (k + 1) _ _ _ _ _ hok.2 hs (by rw [show k + 1 + l.length = k + (o :: l).length by simp only [List.length_cons]; omega]; exact h) prev1 hp
              rwa [← List.append_assoc] at this
theorem x2_take (n : Nat) {l : List Oper} {n0 k0 k k' fresh fresh' : Nat} {bm : List Nat} {prev prev' : Prev} {T T' : Slots} {G G' : Nat → Bool} {H H' : Heap} (hbm : bmasks ops.toList = bm) (hs : xq P N ops.toList n0 k0 bm (l.take n) (some (k, fresh, prev, T, G, H)) = some (k', fresh', prev', T', G', H'))
    (hok : (l.take n).all (fun o => okOp N o.op) = true) (hn : (l.take n).length = n) (h : X2 P N ops Q n0 k0 (k + n) (l.drop n) prev' (msk (.tup []) T' G') H') : X2 P N ops Q n0 k0 k l prev (msk (.tup []) T G) H := by
  have := x2_run hbm (l.take n) (l.drop n) k fresh prev T G H hok hs (by rw [hn]; exact h)
  rwa [List.take_append_drop] at this
theorem x2_end {l : List Oper} {n0 k0 k k' fresh fresh' : Nat} {bm : List Nat} {prev prev' : Prev} {T T' F : Slots} {G G' : Nat → Bool} {H H' : Heap} (hbm : bmasks ops.toList = bm) (hs : xq P N ops.toList n0 k0 bm l (some (k, fresh, prev, T, G, H)) = some (k', fresh', prev', T', G', H'))
    (hok : l.all (fun o => okOp N o.op) = true) (hf : Fin T' G' F) (h : Q .normal F H') : X2 P N ops Q n0 k0 k l prev (msk (.tup []) T G) H := by
  have := x2_run hbm l [] k fresh prev T G H hok hs (Q := Q) (fun prev1 _ => dops_nil ⟨F, fun i => ?_, h⟩)
  · rwa [List.append_nil] at this
  · rcases hf.spec i with e | ⟨e1, e2⟩
    · exact .inl e
    · exact .inr (by simp only [msk, e1, if_true]; exact e2)
theorem x2_fin {n0 k0 k : Nat} {prev : Prev} {T F : Slots} {G : Nat → Bool} {H : Heap} (hf : Fin T G F) (h : Q .normal F H) : X2 P N ops Q n0 k0 k [] prev (msk (.tup []) T G) H :=
  x2_end (fresh := 0) (T' := T) (G' := G) (H' := H) rfl rfl rfl hf h
/-- A call that sets one place (or none: 'ob' as it was). -/
theorem x2_fx {n0 k0 k : Nat} {bm : List Nat} {o : Oper} {l : List Oper} {prev : Prev} {T : Slots} {G : Nat → Bool} {H H1 : Heap} {f : FuncId} {args : List PV} {r : PV} (rd : List Nat) (id : Nat) (ob : AObj) (hbm : bmasks ops.toList = bm) (hcall : acall T o.op = some (f, args)) (hc : gcond ops.toList T G N o = some true)
    (hg : o.op.operands.toList.all (gOk true G) = true) (hok : okOp N o.op = true) (hgo : goFn P f = true) (hp : ∀ H' : Heap, (∀ id ∈ rd, H'[id]? = H[id]?) → H'.length = H.length → ACalls P f args H' fun r' H'' => r' = r ∧ H'' = H'.set id ob) (hid : id ∈ rd)
    (hap : hapB (bm.getD k 0) prev rd [id] = true) (hx : xchk n0 k0 (bm.getD k 0) [id] = true) (hH : H.set id ob = H1) (h : X2 P N ops Q n0 k0 (k + 1) l (prev ++ [(k, rd, [id])]) (msk (.tup []) (updO T o.dst r) (ugO G o.dst true)) H1) : X2 P N ops Q n0 k0 k (o :: l) prev (msk (.tup []) T G) H := by
  subst hH
  intro prev1 hn
  rw [msk_put_true] at h
  have hcall' := acall_msk (u := .tup []) hcall hg
  obtain ⟨fo, xs, ts, pf, pc, h1, h2, h3⟩ := acall_spec hcall'
  have := h prev1 hn
  rw [← List.append_assoc] at this
  refine dops_call (eff := [(id, ob)]) (rd := rd) h1 ((gcond_sound hc).1 rfl _) hok h2 hgo h3 (by simp [hid]) (fun H' hH hl => hp H' hH hl) ?_ this
  exact hapB_spec (eff := [(id, ob)]) (by rw [hbm]; exact hapB_app (hapB_P1 hn hx) hap)
end
end Go.Abs
set_option linter.unusedVariables false
set_option linter.unusedSimpArgs false
set_option maxRecDepth 4000
namespace Go.Abs
open Go.Proofs

structure NC.Ok (c : NC) : Prop where
  len : c.ds.length = c.r.syms.length
  hl : c.ds.length ≤ maxLen
  hd : ∀ d ∈ c.ds, d.B
  hsl : c.sas.length ≤ maxLen
  hs : ∀ b ∈ c.sas, b.W
/-- What normalizing with the depth ahead answers. -/
def NormC (c : NC) (d : Nat) : Prop := ∀ (u : Ty) (im : Nat) (b : Bool) (H : Heap), u.W → im < H.length → ACalls Try.prog 107 [.optr im 0, u.enc, .int .i64 (d : Nat)] (nH c H im b) fun r' H' => r' = (normD (projN c.r.syms c.ds c.sas d) u).1.enc ∧ H' = nH c H im (b || (normD (projN c.r.syms c.ds c.sas d) u).2)
theorem solve_im {ds : List Dc} {sas : List TB} {n : Nat} {t : Ty} {tr : Int} (h : (solveT ds sas n t tr).2 = true) (h2 : 0 ≤ (solveT ds sas n t tr).1.im) : (solveT ds sas n t tr).1.im < ds.length := by
  cases n with
  | zero => simp [solveT] at h
  | succ n =>
    rw [solveT] at h h2 ⊢
    split at h
    · simp at h
    · rename_i h1
      rw [if_neg h1] at h2 ⊢
      split at h
      · rename_i h3; rw [if_pos h3] at h2; simp [Pf.im] at h2
      · rename_i h3
        rw [if_neg h3] at h2 ⊢
        split at h
        · simp at h
        · rename_i h4
          rw [if_neg h4] at h2 ⊢
          split at h
          · rename_i h5
            rw [if_pos h5] at h2 ⊢
            have : 0 ≤ implIx ds t tr := by omega
            exact idxI_lt this
          · simp at h
theorem idx_mem {ds : List Dc} {i : Int} (h : 0 ≤ i ∧ i < ds.length) : ds.getD i.toNat .zero ∈ ds := by
  rw [List.getD_eq_getElem?_getD, List.getElem?_eq_getElem (by omega), Option.getD_some]; exact List.getElem_mem _
theorem zero_W : Ty.zero.W := by simp [Ty.zero, Ty.W_iff]
theorem normD_W {P : Ty → Ty × Bool} (hP : ∀ t, t.W → (P t).1.W) : ∀ t : Ty, t.W → (normD P t).1.W
  | .mk k i us, h => by
    rw [normD_mk]
    have hu : (Ty.mk k i (us.map fun u => (normD P u).1)).W := by
      rw [Ty.W_iff, List.length_map]
      refine ⟨((Ty.W_iff _ _ _).1 h).1, fun u hu => ?_⟩
      obtain ⟨v, hv, rfl⟩ := List.mem_map.1 hu
      exact normD_W hP v (((Ty.W_iff _ _ _).1 h).2 v hv)
    split
    · exact hP _ hu
    · exact hu
theorem projT_W (c : NC) (hc : c.Ok) {f : Option (Ty → Ty × Bool)} (hf : ∀ g, f = some g → ∀ u, u.W → (g u).1.W) (t : Ty) (h : t.W) : (projT c.r.syms c.ds c.sas f t).1.W := by
  obtain ⟨k, i, us⟩ := t
  match us, h with
  | [], _ => exact zero_W
  | _ :: _ :: _, _ => exact zero_W
  | [a], h =>
    have ha : a.W := h.arg (by simp [Ty.args])
    rw [projT_one]
    split
    · exact zero_W
    · split
      · exact h
      · rename_i h2
        cases f with
        | none => exact zero_W
        | some g =>
          simp only
          split
          · exact zero_W
          · rename_i h3
            refine hf g rfl _ ?_
            have hs := solve_W (ds := c.ds) (sas := c.sas) hc.hd 8 a (traitIx c.r.syms i) ha
            have h4 : idxI (memP (solveT c.ds c.sas 8 a (traitIx c.r.syms i)).1.im (c.r.syms.getD i.toNat .zero).name) c.r.syms ≥ 0 := by unfold memIx at h3; omega
            have h5 := idxI_lt h4
            have hm := idx_mem (ds := c.ds) (i := memIx c.r.syms c.ds c.sas i a) ⟨by omega, by rw [hc.len]; exact h5⟩
            exact app_W hs.el_args (hc.hd _ hm).1.st_t
theorem projN_W (c : NC) (hc : c.Ok) : ∀ (d : Nat) (t : Ty), t.W → (projN c.r.syms c.ds c.sas d t).1.W
  | 0, t, h => projT_W c hc (f := none) (fun g e => by cases e) t h
  | d + 1, t, h => projT_W c hc (f := some _) (fun g e u hu => by cases e; exact normD_W (projN_W c hc d) u hu) t h
theorem norm_W (c : NC) (hc : c.Ok) (d : Nat) (t : Ty) (h : t.W) : (normD (projN c.r.syms c.ds c.sas d) t).1.W := normD_W (projN_W c hc d) t h
theorem projN_bad {sy : List Sy} {ds : List Dc} {sas : List TB} {d : Nat} {t : Ty} (h : traitIx sy t.id < 0 ∨ t.args.length ≠ 1) : projN sy ds sas d t = (.zero, true) := by
  have key : ∀ f, projT sy ds sas f t = (.zero, true) := fun f => by
    obtain ⟨k, i, us⟩ := t
    match us, h with
    | [], _ => rfl
    | _ :: _ :: _, _ => rfl
    | [a], h =>
      rw [projT_one, if_pos]
      rcases h with h | h
      · exact h
      · exact (h rfl).elim
  cases d with
  | zero => exact key _
  | succ d => exact key _
theorem projN_rig {sy : List Sy} {ds : List Dc} {sas : List TB} {d : Nat} {t a : Ty} (ha : t.args = [a]) (h : rigid sy ds sas t.id a) : projN sy ds sas d t = (t, false) := by
  obtain ⟨k, i, us⟩ := t
  simp only [Ty.args] at ha
  subst ha
  exact projN_rigid h
theorem projN_none {sy : List Sy} {ds : List Dc} {sas : List TB} {d : Nat} {t a : Ty} (ha : t.args = [a]) (h1 : ¬ traitIx sy t.id < 0) (h2 : ¬ ((solveT ds sas 8 a (traitIx sy t.id)).2 = false ∨ (solveT ds sas 8 a (traitIx sy t.id)).1.im < 0)) (h3 : memIx sy ds sas t.id a < 0 ∨ d = 0) : projN sy ds sas d t = (.zero, false) := by
  obtain ⟨k, i, us⟩ := t
  simp only [Ty.args] at ha
  subst ha
  have h1 : ¬ traitIx sy i < 0 := h1
  have h2 : ¬ ((solveT ds sas 8 a (traitIx sy i)).2 = false ∨ (solveT ds sas 8 a (traitIx sy i)).1.im < 0) := h2
  cases d with
  | zero => rw [projN, projT_one, if_neg h1, if_neg h2]
  | succ d =>
    rw [projN, projT_one, if_neg h1, if_neg h2]
    rcases h3 with h3 | h3
    · exact if_pos h3
    · cases h3
theorem projN_step {sy : List Sy} {ds : List Dc} {sas : List TB} {d : Nat} {t a : Ty} (ha : t.args = [a]) (h1 : ¬ traitIx sy t.id < 0) (h2 : ¬ ((solveT ds sas 8 a (traitIx sy t.id)).2 = false ∨ (solveT ds sas 8 a (traitIx sy t.id)).1.im < 0)) (h3 : ¬ memIx sy ds sas t.id a < 0) : projN sy ds sas (d + 1) t = normD (projN sy ds sas d) (projX sy ds sas t.id a) := by
  obtain ⟨k, i, us⟩ := t
  simp only [Ty.args] at ha
  subst ha
  have h1 : ¬ traitIx sy i < 0 := h1
  have h2 : ¬ ((solveT ds sas 8 a (traitIx sy i)).2 = false ∨ (solveT ds sas 8 a (traitIx sy i)).1.im < 0) := h2
  rw [projN, projT_one, if_neg h1, if_neg h2]
  exact if_neg h3
theorem traitIx_pos {sy : List Sy} {a : Int} (h : ¬ traitIx sy a < 0) : 0 ≤ a ∧ a < sy.length := by
  unfold traitIx at h
  split at h
  · simp at h
  · rename_i h1
    simp only [not_or, Classical.not_not] at h1
    exact h1.1

theorem proj_k (c : NC) (hc : c.Ok) (d : Nat) (hn : ∀ d', d = d' + 1 → NormC c d') (hd9 : d ≤ 8) (t : Ty) (im : Nat) (b : Bool) (H : Heap) (ht : t.W) (him : im < H.length) :
    ACalls Try.prog 132 [.optr im 0, t.enc, .int .i64 (d : Nat)] (nH c H im b) fun r' H' => r' = (projN c.r.syms c.ds c.sas d t).1.enc ∧ H' = nH c H im (b || (projN c.r.syms c.ds c.sas d t).2) := by
  obtain ⟨hlen, hl, hd, hsl, hs⟩ := hc
  have MH := nH_rules c him
  have fa : ∀ k, (im = H.length + k) = False := fun k => by simp; omega
  have fa0 : (im = H.length) = False := by simp; omega
  have fb : ∀ k, (H.length + k == im) = false := fun k => by simp; omega
  have fb0 : (H.length == im) = false := by simp; omega
  have fc : ∀ k, (im == H.length + k) = false := fun k => by simp; omega
  have fc0 : (im == H.length) = false := by simp; omega
  refine muts_of (N := 90) Try.func132 rfl rfl (by simp) (Ty.bel _ _) (by simp only [nH_len]) (fun hb => by rw [nH_len] at hb ⊢; exact nH_bel hb him) fun hb' => ?_
  rw [nH_len]
  rw [nH_len] at hb'
  -- region 0
  repeat (refine awp_seq ?_)
  refine e_eval (by simp only [asq, as0, as1, as2, awanted, aop, LS, SS, SX, HS, mkS_cons, mkS_nil, ↓reduceIte, eq_self', List.map_nil, beq_self_eq_true, Nat.reduceEqDiff, Nat.reduceAdd, Nat.reduceMul, Nat.reduceLT, Nat.reduceLeDiff, Nat.reducePow, Nat.reduceDiv, Nat.reduceMod, Nat.succ_ne_self, Nat.reduceBEq, Nat.reduceBNe, Tryti24, Trytf24, Trytz24, Trytp24, Tryti128, Trytz128, Trytp128, vint, TyS, TyF, TBS, TBF, DcS, DcF, PfS, PfF, SyS, SyF, RsS, RsF, MH, fa, fa0, fb, fb0, fc, fc0, Bool.not_false] <;> with_reducible rfl) (by decide) ?_
  -- region 1
  repeat (refine awp_seq ?_)
  refine awp_region ?_
  refine e_take 3 (by simp only [asq, as0, as1, as2, awanted, aop, aload, ajust, afldAddr, LS, SS, SX, HS, mkS_cons, mkS_nil, ↓reduceIte, eq_self', List.map_nil, beq_self_eq_true, Nat.reduceEqDiff, Nat.reduceAdd, Nat.reduceMul, Nat.reduceLT, Nat.reduceLeDiff, Nat.reducePow, Nat.reduceDiv, Nat.reduceMod, Nat.succ_ne_self, Nat.reduceBEq, Nat.reduceBNe, Tryti3, Trytz3, Trytp3, Trytk3, Tryti24, Trytf24, Trytz24, Trytp24, Tryti128, Trytz128, Trytp128, vint, TyS, TyF, TBS, TBF, DcS, DcF, PfS, PfF, SyS, SyF, RsS, RsF, MH, fa, fa0, fb, fb0, fc, fc0, Bool.not_false] <;> with_reducible rfl) (by decide) ?_
  refine aops_pure (by simp only [acall, awanted, LS, SS, SX, HS, mkS_cons, mkS_nil, ↓reduceIte, eq_self', List.map_nil, beq_self_eq_true, Nat.reduceEqDiff, Nat.reduceAdd, Nat.reduceMul, Nat.reduceLT, Nat.reduceLeDiff, Nat.reducePow, Nat.reduceDiv, Nat.reduceMod, Nat.succ_ne_self, Nat.reduceBEq, Nat.reduceBNe, vint, TyS, TyF, TBS, TBF, DcS, DcF, PfS, PfF, SyS, SyF, RsS, RsF, MH, fa, fa0, fb, fb0, fc, fc0, Bool.not_false] <;> with_reducible rfl) (by simp only [acall, awanted, LS, SS, SX, HS, mkS_cons, mkS_nil, ↓reduceIte, eq_self', List.map_nil, beq_self_eq_true, Nat.reduceEqDiff, Nat.reduceAdd, Nat.reduceMul, Nat.reduceLT, Nat.reduceLeDiff, Nat.reducePow, Nat.reduceDiv, Nat.reduceMod, Nat.succ_ne_self, Nat.reduceBEq, Nat.reduceBNe, vint, TyS, TyF, TBS, TBF, DcS, DcF, PfS, PfF, SyS, SyF, RsS, RsF, MH, fa, fa0, fb, fb0, fc, fc0, Bool.not_false]) (by decide) Trygo146 (trait_c c b _ im (by simp only [MH]; rfl) t.id) ?_
  refine e_end (by simp only [asq, as0, as1, as2, awanted, aop, LS, SS, SX, HS, mkS_cons, mkS_nil, ↓reduceIte, eq_self', List.map_nil, beq_self_eq_true, Nat.reduceEqDiff, Nat.reduceAdd, Nat.reduceMul, Nat.reduceLT, Nat.reduceLeDiff, Nat.reducePow, Nat.reduceDiv, Nat.reduceMod, Nat.succ_ne_self, Nat.reduceBEq, Nat.reduceBNe, vint, TyS, TyF, TBS, TBF, DcS, DcF, PfS, PfF, SyS, SyF, RsS, RsF, MH, fa, fa0, fb, fb0, fc, fc0, Bool.not_false] <;> with_reducible rfl) (by decide) ?_
  -- region 2
  repeat (refine awp_seq ?_)
  refine g_eval (by simp only [gsq, gs0, gs1, gs2, gcond, gop, SG, Op.operands, Call.operands, Array.toList_append, aop, abin, ajust, afldAddr, aload, abuiltin, LS, SS, SX, HS, mkS_cons, mkS_nil, ↓reduceIte, eq_self', List.map_nil, beq_self_eq_true, Nat.reduceEqDiff, Nat.reduceAdd, Nat.reduceMul, Nat.reduceLT, Nat.reduceLeDiff, Nat.reducePow, Nat.reduceDiv, Nat.reduceMod, Nat.succ_ne_self, Nat.reduceBEq, Nat.reduceBNe, Tryti3, Trytz3, Trytp3, Trytk3, Tryti22, Tryte22, Trytz22, Trytp22, Tryti24, Trytf24, Trytz24, Trytp24, vint, TyS, TyF, TBS, TBF, DcS, DcF, PfS, PfF, SyS, SyF, RsS, RsF, MH, fa, fa0, fb, fb0, fc, fc0, Bool.not_false] <;> with_reducible rfl) (by decide) (by repeat (first | exact Fin.base _ | with_reducible apply Fin.keep | apply Fin.drop)) ?_
  repeat (refine awp_seq ?_)
  refine awp_cond rfl (by simp only [LS, SS, SX, HS, mkS_cons, mkS_nil, ↓reduceIte, eq_self', List.map_nil, beq_self_eq_true, Nat.reduceEqDiff, Nat.reduceAdd, Nat.succ_ne_self, vint, TyS, TyF, TBS, TBF, DcS, DcF, PfS, PfF, SyS, SyF, RsS, RsF, MH, fa, fa0, fb, fb0, fc, fc0, Bool.not_false] <;> with_reducible rfl) (fun b0 => ?_) (fun b0 => ?_)
  · -- if t22
    have hp0 : projN c.r.syms c.ds c.sas d t = (.zero, true) := projN_bad (by simp at b0; omega)
    rw [hp0, show (b || ((Ty.zero, true) : Ty × Bool).2) = true from by simp]
    refine awp_sel [3, 6] (by simp only [LS, SS, SX, HS, mkS_cons, mkS_nil, ↓reduceIte, eq_self', List.map_nil, beq_self_eq_true, Nat.reduceEqDiff, Nat.reduceAdd, Nat.succ_ne_self, vint, TyS, TyF, TBS, TBF, DcS, DcF, PfS, PfF, SyS, SyF, RsS, RsF, MH, fa, fa0, fb, fb0, fc, fc0, Bool.not_false] <;> with_reducible rfl) ?_
    -- region 3
    repeat (refine awp_seq ?_)
    refine e_eval (by simp only [asq, as0, as1, as2, awanted, aop, aload, ajust, afldAddr, astore, splice, LS, SS, SX, HS, mkS_cons, mkS_nil, ↓reduceIte, eq_self', List.map_nil, beq_self_eq_true, Nat.reduceEqDiff, Nat.reduceAdd, Nat.reduceMul, Nat.reduceLT, Nat.reduceLeDiff, Nat.reducePow, Nat.reduceDiv, Nat.reduceMod, Nat.succ_ne_self, Nat.reduceBEq, Nat.reduceBNe, Tryti4, Trytz4, Trytp4, Trytb4, Tryti128, Trytz128, Trytp128, Tryti130, Trytf130, Trytz130, Trytp130, vint, TyS, TyF, TBS, TBF, DcS, DcF, PfS, PfF, SyS, SyF, RsS, RsF, MH, fa, fa0, fb, fb0, fc, fc0, Bool.not_false] <;> with_reducible rfl) (by decide) ?_
    -- region 4
    repeat (refine awp_seq ?_)
    refine e_eval (by simp only [asq, as0, as1, as2, awanted, aop, abuild, splice, astore, LS, SS, SX, HS, mkS_cons, mkS_nil, ↓reduceIte, eq_self', List.map_nil, beq_self_eq_true, Nat.reduceEqDiff, Nat.reduceAdd, Nat.reduceMul, Nat.reduceLT, Nat.reduceLeDiff, Nat.reducePow, Nat.reduceDiv, Nat.reduceMod, Nat.succ_ne_self, Nat.reduceBEq, Nat.reduceBNe, Tryti24, Trytf24, Trytz24, Trytp24, vint, TyS, TyF, TBS, TBF, DcS, DcF, PfS, PfF, SyS, SyF, RsS, RsF, MH, fa, fa0, fb, fb0, fc, fc0, Bool.not_false] <;> with_reducible rfl) (by decide) ?_
    repeat (refine awp_seq ?_)
    -- leaf 0 ret
    refine awp_ret ⟨.inr rfl, _, _, (ares_cell 6 24 rfl Tryti24 (by decide) (by simp only [aload, LS, SS, SX, HS, mkS_cons, mkS_nil, ↓reduceIte, eq_self', List.map_nil, beq_self_eq_true, Nat.reduceEqDiff, Nat.reduceAdd, Nat.reduceMul, Nat.reduceLT, Nat.reduceLeDiff, Nat.reducePow, Nat.reduceDiv, Nat.reduceMod, Nat.succ_ne_self, Nat.reduceBEq, Nat.reduceBNe, vint, TyS, TyF, TBS, TBF, DcS, DcF, PfS, PfF, SyS, SyF, RsS, RsF, MH, fa, fa0, fb, fb0, fc, fc0, Bool.not_false] <;> with_reducible rfl)), ?_, rfl⟩
    simp only [LS, SS, SX, HS, mkS_cons, mkS_nil, ↓reduceIte, eq_self', List.map_nil, beq_self_eq_true, Nat.reduceEqDiff, Nat.reduceAdd, Nat.succ_ne_self, vint, TyS, TyF, TBS, TBF, DcS, DcF, PfS, PfF, SyS, SyF, RsS, RsF]
    rfl
  · -- else t22
    have hq : ¬ traitIx c.r.syms t.id < 0 ∧ t.args.length = 1 := by simp at b0; omega
    obtain ⟨a, hargs⟩ := List.length_eq_one_iff.1 hq.2
    have g1 : ((0 : Int) ≤ 0 ∧ 0 < (t.args.length : Int)) = True := by rw [hq.2]; simp
    have g2 : (t.args.map Ty.enc)[Int.toNat 0]? = some a.enc := by rw [hargs]; rfl
    have haW : a.W := ht.arg (by rw [hargs]; simp)
    have hid := traitIx_pos hq.1
    repeat (refine awp_seq ?_)
    refine awp_skip ?_
    refine awp_sel [2, 3, 4, 6, 7] (by simp only [LS, SS, SX, HS, mkS_cons, mkS_nil, ↓reduceIte, eq_self', List.map_nil, beq_self_eq_true, Nat.reduceEqDiff, Nat.reduceAdd, Nat.succ_ne_self, vint, TyS, TyF, TBS, TBF, DcS, DcF, PfS, PfF, SyS, SyF, RsS, RsF, MH, fa, fa0, fb, fb0, fc, fc0, Bool.not_false] <;> with_reducible rfl) ?_
    -- region 5
    repeat (refine awp_seq ?_)
    refine x_draw 1 (n0 := H.length + 3) (by first | rfl | (simp only [List.length_append, List.length_cons, List.length_nil, Nat.reduceAdd, Nat.zero_add, MH, fa, fa0, fb, fb0, fc, fc0, Bool.not_false, g1, g2]; done)) (by kernel_rfl) ?_
    refine x1_take 13 (by first | rfl | (simp only [List.length_append, List.length_cons, List.length_nil, Nat.reduceAdd, Nat.zero_add, MH, fa, fa0, fb, fb0, fc, fc0, Bool.not_false, g1, g2]; done)) (by simp only [psq, ps0, ps1, ps2, gcond, gop, SG, Op.operands, Call.operands, Array.toList_append, aop, aload, ajust, afldAddr, aidxAddr, aidx, LS, SS, SX, HS, mkS_cons, mkS_nil, ↓reduceIte, eq_self', List.map_nil, beq_self_eq_true, Nat.reduceEqDiff, Nat.reduceAdd, Nat.reduceMul, Nat.reduceLT, Nat.reduceLeDiff, Nat.reducePow, Nat.reduceDiv, Nat.reduceMod, Nat.succ_ne_self, Nat.reduceBEq, Nat.reduceBNe, Tryti22, Tryte22, Trytz22, Trytp22, Tryti24, Trytf24, Trytz24, Trytp24, Tryti59, Tryte59, Trytz59, Trytp59, Tryti60, Tryte60, Trytz60, Trytp60, Tryti71, Trytf71, Trytz71, Trytp71, Tryti74, Trytf74, Trytz74, Trytp74, Tryti128, Trytz128, Trytp128, Tryti130, Trytf130, Trytz130, Trytp130, vint, TyS, TyF, TBS, TBF, DcS, DcF, PfS, PfF, SyS, SyF, RsS, RsF, MH, fa, fa0, fb, fb0, fc, fc0, Bool.not_false, g1, g2] <;> with_reducible rfl) (by decide) (by decide) (by decide) ?_
    refine x1_keep (by first | rfl | (simp only [List.length_append, List.length_cons, List.length_nil, Nat.reduceAdd, Nat.zero_add, MH, fa, fa0, fb, fb0, fc, fc0, Bool.not_false, g1, g2]; done)) (by simp only [acall, gcond, SG, Op.operands, Call.operands, Array.toList_append, LS, SS, SX, HS, mkS_cons, mkS_nil, ↓reduceIte, eq_self', List.map_nil, beq_self_eq_true, Nat.reduceEqDiff, Nat.reduceAdd, Nat.reduceMul, Nat.reduceLT, Nat.reduceLeDiff, Nat.reducePow, Nat.reduceDiv, Nat.reduceMod, Nat.succ_ne_self, Nat.reduceBEq, Nat.reduceBNe, vint, TyS, TyF, TBS, TBF, DcS, DcF, PfS, PfF, SyS, SyF, RsS, RsF, MH, fa, fa0, fb, fb0, fc, fc0, Bool.not_false, g1, g2] <;> with_reducible rfl) (by simp only [acall, gcond, SG, Op.operands, Call.operands, Array.toList_append, LS, SS, SX, HS, mkS_cons, mkS_nil, ↓reduceIte, eq_self', List.map_nil, beq_self_eq_true, Nat.reduceEqDiff, Nat.reduceAdd, Nat.reduceMul, Nat.reduceLT, Nat.reduceLeDiff, Nat.reducePow, Nat.reduceDiv, Nat.reduceMod, Nat.succ_ne_self, Nat.reduceBEq, Nat.reduceBNe, vint, TyS, TyF, TBS, TBF, DcS, DcF, PfS, PfF, SyS, SyF, RsS, RsF, MH, fa, fa0, fb, fb0, fc, fc0, Bool.not_false, g1, g2] <;> with_reducible rfl) (by simp only [acall, gcond, SG, Op.operands, Call.operands, Array.toList_append, LS, SS, SX, HS, mkS_cons, mkS_nil, ↓reduceIte, eq_self', List.map_nil, beq_self_eq_true, Nat.reduceEqDiff, Nat.reduceAdd, Nat.reduceMul, Nat.reduceLT, Nat.reduceLeDiff, Nat.reducePow, Nat.reduceDiv, Nat.reduceMod, Nat.succ_ne_self, Nat.reduceBEq, Nat.reduceBNe, vint, TyS, TyF, TBS, TBF, DcS, DcF, PfS, PfF, SyS, SyF, RsS, RsF, MH, fa, fa0, fb, fb0, fc, fc0, Bool.not_false, g1, g2]) (by decide) Trygo46 (fun hc L => solve_c c.ds c.sas a (traitIx c.r.syms t.id) hl hd hsl hs haW _) ?_
    refine x1_take 3 (by first | rfl | (simp only [List.length_append, List.length_cons, List.length_nil, Nat.reduceAdd, Nat.zero_add, MH, fa, fa0, fb, fb0, fc, fc0, Bool.not_false, g1, g2]; done)) (by simp only [psq, ps0, ps1, ps2, gcond, gop, SG, Op.operands, Call.operands, Array.toList_append, aop, ajust, LS, SS, SX, HS, mkS_cons, mkS_nil, ↓reduceIte, eq_self', List.map_nil, beq_self_eq_true, Nat.reduceEqDiff, Nat.reduceAdd, Nat.reduceMul, Nat.reduceLT, Nat.reduceLeDiff, Nat.reducePow, Nat.reduceDiv, Nat.reduceMod, Nat.succ_ne_self, Nat.reduceBEq, Nat.reduceBNe, vint, TyS, TyF, TBS, TBF, DcS, DcF, PfS, PfF, SyS, SyF, RsS, RsF, MH, fa, fa0, fb, fb0, fc, fc0, Bool.not_false, g1, g2] <;> with_reducible rfl) (by decide) (by decide) (by decide) ?_
    refine x_mid (by first | (simp only [LS, HS, List.append_assoc, List.cons_append, List.nil_append, MH, fa, fa0, fb, fb0, fc, fc0, Bool.not_false, g1, g2] <;> with_reducible rfl) | rfl) ?_
    refine x2_end (bm := [0, 1, 3, 7, 0, 16, 48, 112, 0, 256, 768, 1792, 0, 8191, 16383, 32767, 32767, 0, 196607, 524287]) (fresh := (H.length + 3)) (by kernel_rfl) (by simp only [xq, xd0, xd1, xd2, xd4, xchk, gcond, gop, SG, Op.operands, Call.operands, Array.toList_append, hapB, effIds, effSet, nextFresh, ard, freshOk, isUnborn, Nat.reduceSub, Nat.le_refl, decide_true, Bool.true_or, Bool.or_true, List.all_cons, List.all_nil, Bool.and_true, aop, astore, splice, LS, SS, SX, HS, mkS_cons, mkS_nil, ↓reduceIte, eq_self', List.map_nil, beq_self_eq_true, Nat.reduceEqDiff, Nat.reduceAdd, Nat.reduceMul, Nat.reduceLT, Nat.reduceLeDiff, Nat.reducePow, Nat.reduceDiv, Nat.reduceMod, Nat.succ_ne_self, Nat.reduceBEq, Nat.reduceBNe, Tryti63, Trytf63, Trytz63, Trytp63, vint, TyS, TyF, TBS, TBF, DcS, DcF, PfS, PfF, SyS, SyF, RsS, RsF, MH, fa, fa0, fb, fb0, fc, fc0, Bool.not_false, g1, g2] <;> with_reducible rfl) (by decide) (by repeat (first | exact Fin.base _ | with_reducible apply Fin.keep | apply Fin.drop)) ?_
    refine awp_sel [2, 3, 4, 6, 8, 9] (by simp only [LS, SS, SX, HS, mkS_cons, mkS_nil, ↓reduceIte, eq_self', List.map_nil, beq_self_eq_true, Nat.reduceEqDiff, Nat.reduceAdd, Nat.succ_ne_self, vint, TyS, TyF, TBS, TBF, DcS, DcF, PfS, PfF, SyS, SyF, RsS, RsF, MH, fa, fa0, fb, fb0, fc, fc0, Bool.not_false] <;> with_reducible rfl) ?_
    -- region 6
    repeat (refine awp_seq ?_)
    refine g_eval (by simp only [gsq, gs0, gs1, gs2, gcond, gop, SG, Op.operands, Call.operands, Array.toList_append, aop, aun, ajust, afldAddr, aload, abin, LS, SS, SX, HS, mkS_cons, mkS_nil, ↓reduceIte, eq_self', List.map_nil, beq_self_eq_true, Nat.reduceEqDiff, Nat.reduceAdd, Nat.reduceMul, Nat.reduceLT, Nat.reduceLeDiff, Nat.reducePow, Nat.reduceDiv, Nat.reduceMod, Nat.succ_ne_self, Nat.reduceBEq, Nat.reduceBNe, Tryti3, Trytz3, Trytp3, Trytk3, Tryti63, Trytf63, Trytz63, Trytp63, vint, TyS, TyF, TBS, TBF, DcS, DcF, PfS, PfF, SyS, SyF, RsS, RsF, MH, fa, fa0, fb, fb0, fc, fc0, Bool.not_false] <;> with_reducible rfl) (by decide) (by repeat (first | exact Fin.base _ | with_reducible apply Fin.keep | apply Fin.drop)) ?_
    repeat (refine awp_seq ?_)
    refine awp_cond rfl (by simp only [LS, SS, SX, HS, mkS_cons, mkS_nil, ↓reduceIte, eq_self', List.map_nil, beq_self_eq_true, Nat.reduceEqDiff, Nat.reduceAdd, Nat.succ_ne_self, vint, TyS, TyF, TBS, TBF, DcS, DcF, PfS, PfF, SyS, SyF, RsS, RsF, MH, fa, fa0, fb, fb0, fc, fc0, Bool.not_false] <;> with_reducible rfl) (fun b1 => ?_) (fun b1 => ?_)
    · -- if t50
      have hr : rigid c.r.syms c.ds c.sas t.id a := ⟨hq.1, by simpa using b1⟩
      have hp1 : projN c.r.syms c.ds c.sas d t = (t, false) := projN_rig hargs hr
      rw [hp1, show (b || ((t, false) : Ty × Bool).2) = b from by simp]
      -- region 7
      repeat (refine awp_seq ?_)
      refine e_eval (by simp only [asq, as0, as1, as2, awanted, aop, aload, ajust, astore, splice, LS, SS, SX, HS, mkS_cons, mkS_nil, ↓reduceIte, eq_self', List.map_nil, beq_self_eq_true, Nat.reduceEqDiff, Nat.reduceAdd, Nat.reduceMul, Nat.reduceLT, Nat.reduceLeDiff, Nat.reducePow, Nat.reduceDiv, Nat.reduceMod, Nat.succ_ne_self, Nat.reduceBEq, Nat.reduceBNe, Tryti24, Trytf24, Trytz24, Trytp24, vint, TyS, TyF, TBS, TBF, DcS, DcF, PfS, PfF, SyS, SyF, RsS, RsF, MH, fa, fa0, fb, fb0, fc, fc0, Bool.not_false] <;> with_reducible rfl) (by decide) ?_
      repeat (refine awp_seq ?_)
      -- leaf 1 ret
      refine awp_ret ⟨.inr rfl, _, _, (ares_cell 6 24 rfl Tryti24 (by decide) (by simp only [aload, LS, SS, SX, HS, mkS_cons, mkS_nil, ↓reduceIte, eq_self', List.map_nil, beq_self_eq_true, Nat.reduceEqDiff, Nat.reduceAdd, Nat.reduceMul, Nat.reduceLT, Nat.reduceLeDiff, Nat.reducePow, Nat.reduceDiv, Nat.reduceMod, Nat.succ_ne_self, Nat.reduceBEq, Nat.reduceBNe, vint, TyS, TyF, TBS, TBF, DcS, DcF, PfS, PfF, SyS, SyF, RsS, RsF, MH, fa, fa0, fb, fb0, fc, fc0, Bool.not_false] <;> with_reducible rfl)), ?_, rfl⟩
      exact Ty.enc_drop1 _
    · -- else t50
      have h2 : (solveT c.ds c.sas 8 a (traitIx c.r.syms t.id)).2 = true ∧ 0 ≤ (solveT c.ds c.sas 8 a (traitIx c.r.syms t.id)).1.im := by simpa using b1
      have h2n : ¬ ((solveT c.ds c.sas 8 a (traitIx c.r.syms t.id)).2 = false ∨ (solveT c.ds c.sas 8 a (traitIx c.r.syms t.id)).1.im < 0) := by rw [h2.1]; simp; omega
      have him2 := solve_im h2.1 h2.2
      have hpW := solve_W (ds := c.ds) (sas := c.sas) hd 8 a (traitIx c.r.syms t.id) haW
      have hmxl : c.r.syms.length ≤ maxLen := by omega
      obtain ⟨p, hpe⟩ : ∃ p, (solveT c.ds c.sas 8 a (traitIx c.r.syms t.id)).1 = p := ⟨_, rfl⟩
      have hme : memIx c.r.syms c.ds c.sas t.id a = idxI (memP p.im (c.r.syms.getD t.id.toNat .zero).name) c.r.syms := by unfold memIx; rw [hpe]
      rw [hpe] at him2 hpW
      repeat (refine awp_seq ?_)
      refine awp_skip ?_
      -- region 8
      repeat (refine awp_seq ?_)
      rw [hpe]
      refine awp_region ?_
      refine e_take 6 (by simp only [asq, as0, as1, as2, awanted, aop, aload, ajust, afldAddr, LS, SS, SX, HS, mkS_cons, mkS_nil, ↓reduceIte, eq_self', List.map_nil, beq_self_eq_true, Nat.reduceEqDiff, Nat.reduceAdd, Nat.reduceMul, Nat.reduceLT, Nat.reduceLeDiff, Nat.reducePow, Nat.reduceDiv, Nat.reduceMod, Nat.succ_ne_self, Nat.reduceBEq, Nat.reduceBNe, Tryti52, Tryte52, Trytz52, Trytp52, Tryti56, Trytf56, Trytz56, Trytp56, Tryti117, Trytf117, Trytz117, Trytp117, Tryti128, Trytz128, Trytp128, Tryti130, Trytf130, Trytz130, Trytp130, vint, TyS, TyF, TBS, TBF, DcS, DcF, PfS, PfF, SyS, SyF, RsS, RsF, MH, fa, fa0, fb, fb0, fc, fc0, Bool.not_false] <;> with_reducible rfl) (by decide) ?_
      refine aops_pure (by simp only [acall, awanted, LS, SS, SX, HS, mkS_cons, mkS_nil, ↓reduceIte, eq_self', List.map_nil, beq_self_eq_true, Nat.reduceEqDiff, Nat.reduceAdd, Nat.reduceMul, Nat.reduceLT, Nat.reduceLeDiff, Nat.reducePow, Nat.reduceDiv, Nat.reduceMod, Nat.succ_ne_self, Nat.reduceBEq, Nat.reduceBNe, vint, TyS, TyF, TBS, TBF, DcS, DcF, PfS, PfF, SyS, SyF, RsS, RsF, MH, fa, fa0, fb, fb0, fc, fc0, Bool.not_false] <;> with_reducible rfl) (by simp only [acall, awanted, LS, SS, SX, HS, mkS_cons, mkS_nil, ↓reduceIte, eq_self', List.map_nil, beq_self_eq_true, Nat.reduceEqDiff, Nat.reduceAdd, Nat.reduceMul, Nat.reduceLT, Nat.reduceLeDiff, Nat.reducePow, Nat.reduceDiv, Nat.reduceMod, Nat.succ_ne_self, Nat.reduceBEq, Nat.reduceBNe, vint, TyS, TyF, TBS, TBF, DcS, DcF, PfS, PfF, SyS, SyF, RsS, RsF, MH, fa, fa0, fb, fb0, fc, fc0, Bool.not_false]) (by decide) Trygo147 (indexFuncSy (p := memP p.im (c.r.syms.getD t.id.toNat .zero).name) ⟨Trygo148, by simp; exact ⟨.optr _ _ (by simp [nH_len]), .optr _ _ (by simp [nH_len]), .optr _ _ (by simp [nH_len])⟩, fun u hu => memP1 c b p t _ im (H.length + 3) H.length (H.length + 1) (by simp only [MH]; rfl) (by simp only [MH, PfS]; rfl) (by simp only [MH]; rfl) (by simp only [MH, TyS]; rfl) hid u⟩ hmxl) ?_
      refine e_end (by simp only [asq, as0, as1, as2, awanted, aop, LS, SS, SX, HS, mkS_cons, mkS_nil, ↓reduceIte, eq_self', List.map_nil, beq_self_eq_true, Nat.reduceEqDiff, Nat.reduceAdd, Nat.reduceMul, Nat.reduceLT, Nat.reduceLeDiff, Nat.reducePow, Nat.reduceDiv, Nat.reduceMod, Nat.succ_ne_self, Nat.reduceBEq, Nat.reduceBNe, vint, TyS, TyF, TBS, TBF, DcS, DcF, PfS, PfF, SyS, SyF, RsS, RsF, MH, fa, fa0, fb, fb0, fc, fc0, Bool.not_false] <;> with_reducible rfl) (by decide) ?_
      refine awp_sel [2, 3, 6, 8, 10] (by simp only [LS, SS, SX, HS, mkS_cons, mkS_nil, ↓reduceIte, eq_self', List.map_nil, beq_self_eq_true, Nat.reduceEqDiff, Nat.reduceAdd, Nat.succ_ne_self, vint, TyS, TyF, TBS, TBF, DcS, DcF, PfS, PfF, SyS, SyF, RsS, RsF, MH, fa, fa0, fb, fb0, fc, fc0, Bool.not_false] <;> with_reducible rfl) ?_
      -- region 9
      repeat (refine awp_seq ?_)
      refine g_eval (by simp only [gsq, gs0, gs1, gs2, gcond, gop, SG, Op.operands, Call.operands, Array.toList_append, aop, abin, ajust, LS, SS, SX, HS, mkS_cons, mkS_nil, ↓reduceIte, eq_self', List.map_nil, beq_self_eq_true, Nat.reduceEqDiff, Nat.reduceAdd, Nat.reduceMul, Nat.reduceLT, Nat.reduceLeDiff, Nat.reducePow, Nat.reduceDiv, Nat.reduceMod, Nat.succ_ne_self, Nat.reduceBEq, Nat.reduceBNe, Tryti3, Trytz3, Trytp3, Trytk3, vint, TyS, TyF, TBS, TBF, DcS, DcF, PfS, PfF, SyS, SyF, RsS, RsF, MH, fa, fa0, fb, fb0, fc, fc0, Bool.not_false] <;> with_reducible rfl) (by decide) (by repeat (first | exact Fin.base _ | with_reducible apply Fin.keep | apply Fin.drop)) ?_
      repeat (refine awp_seq ?_)
      refine awp_cond rfl (by simp only [LS, SS, SX, HS, mkS_cons, mkS_nil, ↓reduceIte, eq_self', List.map_nil, beq_self_eq_true, Nat.reduceEqDiff, Nat.reduceAdd, Nat.succ_ne_self, vint, TyS, TyF, TBS, TBF, DcS, DcF, PfS, PfF, SyS, SyF, RsS, RsF, MH, fa, fa0, fb, fb0, fc, fc0, Bool.not_false] <;> with_reducible rfl) (fun b2 => ?_) (fun b2 => ?_)
      · -- if t64
        have h3 : memIx c.r.syms c.ds c.sas t.id a < 0 ∨ d = 0 := by
          rw [hme]
          simp only [Bool.or_eq_true, decide_eq_true_eq] at b2
          omega
        have hp2 : projN c.r.syms c.ds c.sas d t = (.zero, false) := projN_none hargs hq.1 h2n h3
        rw [hp2, show (b || ((Ty.zero, false) : Ty × Bool).2) = b from by simp]
        -- region 10
        repeat (refine awp_seq ?_)
        refine e_eval (by simp only [asq, as0, as1, as2, awanted, aop, abuild, splice, astore, LS, SS, SX, HS, mkS_cons, mkS_nil, ↓reduceIte, eq_self', List.map_nil, beq_self_eq_true, Nat.reduceEqDiff, Nat.reduceAdd, Nat.reduceMul, Nat.reduceLT, Nat.reduceLeDiff, Nat.reducePow, Nat.reduceDiv, Nat.reduceMod, Nat.succ_ne_self, Nat.reduceBEq, Nat.reduceBNe, Tryti24, Trytf24, Trytz24, Trytp24, vint, TyS, TyF, TBS, TBF, DcS, DcF, PfS, PfF, SyS, SyF, RsS, RsF, MH, fa, fa0, fb, fb0, fc, fc0, Bool.not_false] <;> with_reducible rfl) (by decide) ?_
        repeat (refine awp_seq ?_)
        -- leaf 2 ret
        refine awp_ret ⟨.inr rfl, _, _, (ares_cell 6 24 rfl Tryti24 (by decide) (by simp only [aload, LS, SS, SX, HS, mkS_cons, mkS_nil, ↓reduceIte, eq_self', List.map_nil, beq_self_eq_true, Nat.reduceEqDiff, Nat.reduceAdd, Nat.reduceMul, Nat.reduceLT, Nat.reduceLeDiff, Nat.reducePow, Nat.reduceDiv, Nat.reduceMod, Nat.succ_ne_self, Nat.reduceBEq, Nat.reduceBNe, vint, TyS, TyF, TBS, TBF, DcS, DcF, PfS, PfF, SyS, SyF, RsS, RsF, MH, fa, fa0, fb, fb0, fc, fc0, Bool.not_false] <;> with_reducible rfl)), ?_, rfl⟩
        simp only [LS, SS, SX, HS, mkS_cons, mkS_nil, ↓reduceIte, eq_self', List.map_nil, beq_self_eq_true, Nat.reduceEqDiff, Nat.reduceAdd, Nat.succ_ne_self, vint, TyS, TyF, TBS, TBF, DcS, DcF, PfS, PfF, SyS, SyF, RsS, RsF]
        rfl
      · -- else t64
        have h3 : ¬ memIx c.r.syms c.ds c.sas t.id a < 0 ∧ d ≠ 0 := by
          rw [hme]
          simp only [Bool.or_eq_false_iff, decide_eq_false_iff_not] at b2
          omega
        have hpi : 0 ≤ p.im := hpe ▸ h2.2
        obtain ⟨d', rfl⟩ : ∃ d', d = d' + 1 := ⟨d - 1, by omega⟩
        have hw1 : IntKind.i64.wrap (((d' + 1 : Nat) : Int) - 1) = (d' : Nat) := by rw [wrap_id (by omega) (by omega)]; omega
        have hp3 := projN_step (d := d') hargs hq.1 h2n h3.1
        obtain ⟨m, hmm⟩ : ∃ m, idxI (memP p.im (c.r.syms.getD t.id.toNat .zero).name) c.r.syms = m := ⟨_, rfl⟩
        have hmr : 0 ≤ m ∧ m < c.ds.length := by
          have e : memIx c.r.syms c.ds c.sas t.id a = m := hme.trans hmm
          have h5 : 0 ≤ idxI (memP p.im (c.r.syms.getD t.id.toNat .zero).name) c.r.syms := by omega
          have := idxI_lt h5
          omega
        have ga : ((0 : Int) ≤ m ∧ m < (c.ds).length) = True := by simp; omega
        have gl : (m).toNat < (c.ds).length := by omega
        obtain ⟨dm, dme⟩ : ∃ z_, (c.ds)[(m).toNat] = z_ := ⟨_, rfl⟩
        have gb := get_enc Dc.enc gl
        rw [dme] at gb
        have gd : (c.ds).getD (m).toNat .zero = dm := by rw [List.getD_eq_getElem?_getD, List.getElem?_eq_getElem gl, dme]; rfl
        have ka : ((0 : Int) ≤ p.im ∧ p.im < (c.ds).length) = True := by simp; omega
        have kl : (p.im).toNat < (c.ds).length := by omega
        obtain ⟨di, die⟩ : ∃ z_, (c.ds)[(p.im).toNat] = z_ := ⟨_, rfl⟩
        have kb := get_enc Dc.enc kl
        rw [die] at kb
        have kd : (c.ds).getD (p.im).toNat .zero = di := by rw [List.getD_eq_getElem?_getD, List.getElem?_eq_getElem kl, die]; rfl
        have hdm := hd dm (by rw [← dme]; exact List.getElem_mem _)
        have hdi := hd di (by rw [← die]; exact List.getElem_mem _)
        have hX : projX c.r.syms c.ds c.sas t.id a = mapT (appG di.ps p.args) dm.t := by
          unfold projX
          rw [hpe, hme, hmm, gd, kd]
        have hXW : (mapT (appG di.ps p.args) dm.t).W := app_W hpW.el_args hdm.1.st_t
        rw [hp3, hX]
        repeat (refine awp_seq ?_)
        refine awp_skip ?_
        -- region 11
        repeat (refine awp_seq ?_)
        rw [hmm]
        refine x_draw 0 rfl (by kernel_rfl) ?_
        refine x1_take 16 rfl (by simp only [psq, ps0, ps1, ps2, gcond, gop, SG, Op.operands, Call.operands, Array.toList_append, aop, aload, ajust, afldAddr, aidxAddr, aidx, LS, SS, SX, HS, mkS_cons, mkS_nil, ↓reduceIte, eq_self', List.map_nil, beq_self_eq_true, Nat.reduceEqDiff, Nat.reduceAdd, Nat.reduceMul, Nat.reduceLT, Nat.reduceLeDiff, Nat.reducePow, Nat.reduceDiv, Nat.reduceMod, Nat.succ_ne_self, Nat.reduceBEq, Nat.reduceBNe, Tryti3, Trytz3, Trytp3, Trytk3, Tryti24, Trytf24, Trytz24, Trytp24, Tryti59, Tryte59, Trytz59, Trytp59, Tryti63, Trytf63, Trytz63, Trytp63, Tryti71, Trytf71, Trytz71, Trytp71, Tryti128, Trytz128, Trytp128, Tryti130, Trytf130, Trytz130, Trytp130, vint, TyS, TyF, TBS, TBF, DcS, DcF, PfS, PfF, SyS, SyF, RsS, RsF, MH, fa, fa0, fb, fb0, fc, fc0, Bool.not_false, ga, gb, ka, kb, hw1] <;> with_reducible rfl) (by decide) (by decide) (by decide) ?_
        refine x1_take 4 rfl (by simp only [psq, ps0, ps1, ps2, gcond, gop, SG, Op.operands, Call.operands, Array.toList_append, aop, afldAddr, ajust, aload, LS, SS, SX, HS, mkS_cons, mkS_nil, ↓reduceIte, eq_self', List.map_nil, beq_self_eq_true, Nat.reduceEqDiff, Nat.reduceAdd, Nat.reduceMul, Nat.reduceLT, Nat.reduceLeDiff, Nat.reducePow, Nat.reduceDiv, Nat.reduceMod, Nat.succ_ne_self, Nat.reduceBEq, Nat.reduceBNe, Tryti3, Trytz3, Trytp3, Trytk3, Tryti22, Tryte22, Trytz22, Trytp22, Tryti24, Trytf24, Trytz24, Trytp24, Tryti25, Tryte25, Trytz25, Trytp25, Tryti63, Trytf63, Trytz63, Trytp63, Tryti71, Trytf71, Trytz71, Trytp71, vint, TyS, TyF, TBS, TBF, DcS, DcF, PfS, PfF, SyS, SyF, RsS, RsF, MH, fa, fa0, fb, fb0, fc, fc0, Bool.not_false, ga, gb, ka, kb, hw1] <;> with_reducible rfl) (by decide) (by decide) (by decide) ?_
        refine x1_keep rfl (by simp only [acall, gcond, SG, Op.operands, Call.operands, Array.toList_append, LS, SS, SX, HS, mkS_cons, mkS_nil, ↓reduceIte, eq_self', List.map_nil, beq_self_eq_true, Nat.reduceEqDiff, Nat.reduceAdd, Nat.reduceMul, Nat.reduceLT, Nat.reduceLeDiff, Nat.reducePow, Nat.reduceDiv, Nat.reduceMod, Nat.succ_ne_self, Nat.reduceBEq, Nat.reduceBNe, vint, TyS, TyF, TBS, TBF, DcS, DcF, PfS, PfF, SyS, SyF, RsS, RsF, MH, fa, fa0, fb, fb0, fc, fc0, Bool.not_false, ga, gb, ka, kb, hw1] <;> with_reducible rfl) (by simp only [acall, gcond, SG, Op.operands, Call.operands, Array.toList_append, LS, SS, SX, HS, mkS_cons, mkS_nil, ↓reduceIte, eq_self', List.map_nil, beq_self_eq_true, Nat.reduceEqDiff, Nat.reduceAdd, Nat.reduceMul, Nat.reduceLT, Nat.reduceLeDiff, Nat.reducePow, Nat.reduceDiv, Nat.reduceMod, Nat.succ_ne_self, Nat.reduceBEq, Nat.reduceBNe, vint, TyS, TyF, TBS, TBF, DcS, DcF, PfS, PfF, SyS, SyF, RsS, RsF, MH, fa, fa0, fb, fb0, fc, fc0, Bool.not_false, ga, gb, ka, kb, hw1] <;> with_reducible rfl) (by simp only [acall, gcond, SG, Op.operands, Call.operands, Array.toList_append, LS, SS, SX, HS, mkS_cons, mkS_nil, ↓reduceIte, eq_self', List.map_nil, beq_self_eq_true, Nat.reduceEqDiff, Nat.reduceAdd, Nat.reduceMul, Nat.reduceLT, Nat.reduceLeDiff, Nat.reducePow, Nat.reduceDiv, Nat.reduceMod, Nat.succ_ne_self, Nat.reduceBEq, Nat.reduceBNe, vint, TyS, TyF, TBS, TBF, DcS, DcF, PfS, PfF, SyS, SyF, RsS, RsF, MH, fa, fa0, fb, fb0, fc, fc0, Bool.not_false, ga, gb, ka, kb, hw1]) (by decide) Trygo24 (fun hc L => apply_c dm.t di.ps p.args hdm.1.st_t hdi.1.max_ps hpW.el_args _) ?_
        refine x1_take 2 rfl (by simp only [psq, ps0, ps1, ps2, gcond, gop, SG, Op.operands, Call.operands, Array.toList_append, aop, abin, ajust, LS, SS, SX, HS, mkS_cons, mkS_nil, ↓reduceIte, eq_self', List.map_nil, beq_self_eq_true, Nat.reduceEqDiff, Nat.reduceAdd, Nat.reduceMul, Nat.reduceLT, Nat.reduceLeDiff, Nat.reducePow, Nat.reduceDiv, Nat.reduceMod, Nat.succ_ne_self, Nat.reduceBEq, Nat.reduceBNe, Tryti3, Trytz3, Trytp3, Trytk3, vint, TyS, TyF, TBS, TBF, DcS, DcF, PfS, PfF, SyS, SyF, RsS, RsF, MH, fa, fa0, fb, fb0, fc, fc0, Bool.not_false, ga, gb, ka, kb, hw1] <;> with_reducible rfl) (by decide) (by decide) (by decide) ?_
        refine x_mid (by first | (simp only [LS, HS, List.append_assoc, List.cons_append, List.nil_append, MH, fa, fa0, fb, fb0, fc, fc0, Bool.not_false, ga, gb, ka, kb, hw1] <;> with_reducible rfl) | rfl) ?_
        refine x2_fx (bm := [0, 0, 2, 6, 14, 0, 62, 126, 254, 0, 512, 1536, 3584, 0, 8192, 32256, 65024, 130560, 0, 262144, 1048574, 0, 2097152, 8388607, 16777215]) [im] im (c.row (b || (normD (projN c.r.syms c.ds c.sas d') (mapT (appG di.ps p.args) dm.t)).2)) (by kernel_rfl) (by simp only [acall, gcond, SG, Op.operands, Call.operands, Array.toList_append, LS, SS, SX, HS, mkS_cons, mkS_nil, ↓reduceIte, eq_self', List.map_nil, beq_self_eq_true, Nat.reduceEqDiff, Nat.reduceAdd, Nat.reduceMul, Nat.reduceLT, Nat.reduceLeDiff, Nat.reducePow, Nat.reduceDiv, Nat.reduceMod, Nat.succ_ne_self, Nat.reduceBEq, Nat.reduceBNe, vint, TyS, TyF, TBS, TBF, DcS, DcF, PfS, PfF, SyS, SyF, RsS, RsF, MH, fa, fa0, fb, fb0, fc, fc0, Bool.not_false, ga, gb, ka, kb, hw1] <;> with_reducible rfl) (by simp only [acall, gcond, SG, Op.operands, Call.operands, Array.toList_append, LS, SS, SX, HS, mkS_cons, mkS_nil, ↓reduceIte, eq_self', List.map_nil, beq_self_eq_true, Nat.reduceEqDiff, Nat.reduceAdd, Nat.reduceMul, Nat.reduceLT, Nat.reduceLeDiff, Nat.reducePow, Nat.reduceDiv, Nat.reduceMod, Nat.succ_ne_self, Nat.reduceBEq, Nat.reduceBNe, vint, TyS, TyF, TBS, TBF, DcS, DcF, PfS, PfF, SyS, SyF, RsS, RsF, MH, fa, fa0, fb, fb0, fc, fc0, Bool.not_false, ga, gb, ka, kb, hw1] <;> with_reducible rfl) (by simp only [acall, gcond, SG, Op.operands, Call.operands, Array.toList_append, LS, SS, SX, HS, mkS_cons, mkS_nil, ↓reduceIte, eq_self', List.map_nil, beq_self_eq_true, Nat.reduceEqDiff, Nat.reduceAdd, Nat.reduceMul, Nat.reduceLT, Nat.reduceLeDiff, Nat.reducePow, Nat.reduceDiv, Nat.reduceMod, Nat.succ_ne_self, Nat.reduceBEq, Nat.reduceBNe, vint, TyS, TyF, TBS, TBF, DcS, DcF, PfS, PfF, SyS, SyF, RsS, RsF, MH, fa, fa0, fb, fb0, fc, fc0, Bool.not_false, ga, gb, ka, kb, hw1]) (by decide) Trygo107 (fun H' hr _ => nSet (fun H him => hn d' rfl (mapT (appG di.ps p.args) dm.t) im b H hXW him) H' (by have := hr im (by simp); simp only [MH] at this; exact this)) (by simp) (by simp only [xq, xd0, xd1, xd2, xd4, xchk, gcond, gop, SG, Op.operands, Call.operands, Array.toList_append, hapB, effIds, effSet, nextFresh, ard, freshOk, isUnborn, Nat.reduceSub, Nat.le_refl, decide_true, Bool.true_or, Bool.or_true, List.all_cons, List.all_nil, Bool.and_true, aop, LS, SS, SX, HS, mkS_cons, mkS_nil, ↓reduceIte, eq_self', List.map_nil, beq_self_eq_true, Nat.reduceEqDiff, Nat.reduceAdd, Nat.reduceMul, Nat.reduceLT, Nat.reduceLeDiff, Nat.reducePow, Nat.reduceDiv, Nat.reduceMod, Nat.succ_ne_self, Nat.reduceBEq, Nat.reduceBNe, vint, TyS, TyF, TBS, TBF, DcS, DcF, PfS, PfF, SyS, SyF, RsS, RsF, MH, fa, fa0, fb, fb0, fc, fc0, Bool.not_false, ga, gb, ka, kb, hw1] <;> first | done | rfl) (by simp only [xq, xd0, xd1, xd2, xd4, xchk, gcond, gop, SG, Op.operands, Call.operands, Array.toList_append, hapB, effIds, effSet, nextFresh, ard, freshOk, isUnborn, Nat.reduceSub, Nat.le_refl, decide_true, Bool.true_or, Bool.or_true, List.all_cons, List.all_nil, Bool.and_true, aop, LS, SS, SX, HS, mkS_cons, mkS_nil, ↓reduceIte, eq_self', List.map_nil, beq_self_eq_true, Nat.reduceEqDiff, Nat.reduceAdd, Nat.reduceMul, Nat.reduceLT, Nat.reduceLeDiff, Nat.reducePow, Nat.reduceDiv, Nat.reduceMod, Nat.succ_ne_self, Nat.reduceBEq, Nat.reduceBNe, vint, TyS, TyF, TBS, TBF, DcS, DcF, PfS, PfF, SyS, SyF, RsS, RsF, MH, fa, fa0, fb, fb0, fc, fc0, Bool.not_false, ga, gb, ka, kb, hw1] <;> first | done | rfl) (by simp only [xq, xd0, xd1, xd2, xd4, xchk, gcond, gop, SG, Op.operands, Call.operands, Array.toList_append, hapB, effIds, effSet, nextFresh, ard, freshOk, isUnborn, Nat.reduceSub, Nat.le_refl, decide_true, Bool.true_or, Bool.or_true, List.all_cons, List.all_nil, Bool.and_true, aop, LS, SS, SX, HS, mkS_cons, mkS_nil, ↓reduceIte, eq_self', List.map_nil, beq_self_eq_true, Nat.reduceEqDiff, Nat.reduceAdd, Nat.reduceMul, Nat.reduceLT, Nat.reduceLeDiff, Nat.reducePow, Nat.reduceDiv, Nat.reduceMod, Nat.succ_ne_self, Nat.reduceBEq, Nat.reduceBNe, vint, TyS, TyF, TBS, TBF, DcS, DcF, PfS, PfF, SyS, SyF, RsS, RsF, MH, fa, fa0, fb, fb0, fc, fc0, Bool.not_false, ga, gb, ka, kb, hw1] <;> with_reducible rfl) ?_
        refine x2_end (bm := [0, 0, 2, 6, 14, 0, 62, 126, 254, 0, 512, 1536, 3584, 0, 8192, 32256, 65024, 130560, 0, 262144, 1048574, 0, 2097152, 8388607, 16777215]) (fresh := 0) (by kernel_rfl) (by simp only [xq, xd0, xd1, xd2, xd4, xchk, gcond, gop, SG, Op.operands, Call.operands, Array.toList_append, hapB, effIds, effSet, nextFresh, ard, freshOk, isUnborn, Nat.reduceSub, Nat.le_refl, decide_true, Bool.true_or, Bool.or_true, List.all_cons, List.all_nil, Bool.and_true, aop, astore, splice, LS, SS, SX, HS, mkS_cons, mkS_nil, ↓reduceIte, eq_self', List.map_nil, beq_self_eq_true, Nat.reduceEqDiff, Nat.reduceAdd, Nat.reduceMul, Nat.reduceLT, Nat.reduceLeDiff, Nat.reducePow, Nat.reduceDiv, Nat.reduceMod, Nat.succ_ne_self, Nat.reduceBEq, Nat.reduceBNe, Tryti24, Trytf24, Trytz24, Trytp24, vint, TyS, TyF, TBS, TBF, DcS, DcF, PfS, PfF, SyS, SyF, RsS, RsF, MH, fa, fa0, fb, fb0, fc, fc0, Bool.not_false, ga, gb, ka, kb, hw1] <;> with_reducible rfl) (by decide) (by repeat (first | exact Fin.base _ | with_reducible apply Fin.keep | apply Fin.drop)) ?_
        repeat (refine awp_seq ?_)
        -- leaf 3 ret
        refine awp_ret ⟨.inr rfl, _, _, (ares_cell 6 24 rfl Tryti24 (by decide) (by simp only [aload, LS, SS, SX, HS, mkS_cons, mkS_nil, ↓reduceIte, eq_self', List.map_nil, beq_self_eq_true, Nat.reduceEqDiff, Nat.reduceAdd, Nat.reduceMul, Nat.reduceLT, Nat.reduceLeDiff, Nat.reducePow, Nat.reduceDiv, Nat.reduceMod, Nat.succ_ne_self, Nat.reduceBEq, Nat.reduceBNe, vint, TyS, TyF, TBS, TBF, DcS, DcF, PfS, PfF, SyS, SyF, RsS, RsF, MH, fa, fa0, fb, fb0, fc, fc0, Bool.not_false] <;> with_reducible rfl)), ?_, rfl⟩
        exact Ty.enc_drop1 _

end Go.Abs
set_option linter.unusedVariables false
set_option linter.unusedSimpArgs false
set_option maxRecDepth 4000
namespace Go.Abs
open Go.Proofs

theorem norm_k (c : NC) (hc : c.Ok) (d : Nat) (hproj : ∀ (t : Ty) (im : Nat) (b : Bool) (H : Heap), t.W → im < H.length → ACalls Try.prog 132 [.optr im 0, t.enc, .int .i64 (d : Nat)] (nH c H im b) fun r' H' => r' = ((projN c.r.syms c.ds c.sas d) t).1.enc ∧ H' = nH c H im (b || ((projN c.r.syms c.ds c.sas d) t).2))
    : ∀ (k : Nat) (u : Ty) (im : Nat) (b : Bool) (H : Heap), u.size ≤ k → u.W → im < H.length → ACalls Try.prog 107 [.optr im 0, u.enc, .int .i64 (d : Nat)] (nH c H im b) fun r' H' => r' = (normD (projN c.r.syms c.ds c.sas d) u).1.enc ∧ H' = nH c H im (b || (normD (projN c.r.syms c.ds c.sas d) u).2)
  | 0, u, im, b, H, h, _, _ => by cases u; simp [Ty.size] at h
  | k + 1, u, im, b, H, h, hu, him => by
    have MH := nH_rules c him
    have fa : ∀ k, (im = H.length + k) = False := fun k => by simp; omega
    have fa0 : (im = H.length) = False := by simp; omega
    have fb : ∀ k, (H.length + k == im) = false := fun k => by simp; omega
    have fb0 : (H.length == im) = false := by simp; omega
    have fc : ∀ k, (im == H.length + k) = false := fun k => by simp; omega
    have fc0 : (im == H.length) = false := by simp; omega
    have fd : ∀ k, (H.length + k = im) = False := fun k => by simp; omega
    have fd0 : (H.length = im) = False := by simp; omega
    refine muts_of (N := 40) Try.func107 rfl rfl (by simp) (Ty.bel _ _) (by simp only [nH_len]) (fun hb => by rw [nH_len] at hb ⊢; exact nH_bel hb him) fun hb' => ?_
    rw [nH_len]
    rw [nH_len] at hb'
    -- region 0
    repeat (refine awp_seq ?_)
    refine e_eval (by simp only [asq, as0, as1, as2, awanted, aop, LS, SS, SX, HS, mkS_cons, mkS_nil, ↓reduceIte, eq_self', List.map_nil, beq_self_eq_true, Nat.reduceEqDiff, Nat.reduceAdd, Nat.reduceMul, Nat.reduceLT, Nat.reduceLeDiff, Nat.reducePow, Nat.reduceDiv, Nat.reduceMod, Nat.succ_ne_self, Nat.reduceBEq, Nat.reduceBNe, Tryti24, Trytf24, Trytz24, Trytp24, vint, TyS, TyF, TBS, TBF, DcS, DcF, PfS, PfF, SyS, SyF, RsS, RsF, MH, fa, fa0, fb, fb0, fc, fc0, fd, fd0, Bool.not_false] <;> with_reducible rfl) (by decide) ?_
    -- region 1
    repeat (refine awp_seq ?_)
    refine e_eval (by simp only [asq, as0, as1, as2, awanted, aop, afldAddr, ajust, aload, abuild, splice, astore, LS, SS, SX, HS, mkS_cons, mkS_nil, ↓reduceIte, eq_self', List.map_nil, beq_self_eq_true, Nat.reduceEqDiff, Nat.reduceAdd, Nat.reduceMul, Nat.reduceLT, Nat.reduceLeDiff, Nat.reducePow, Nat.reduceDiv, Nat.reduceMod, Nat.succ_ne_self, Nat.reduceBEq, Nat.reduceBNe, Tryti3, Trytz3, Trytp3, Trytk3, Tryti24, Trytf24, Trytz24, Trytp24, vint, TyS, TyF, TBS, TBF, DcS, DcF, PfS, PfF, SyS, SyF, RsS, RsF, MH, fa, fa0, fb, fb0, fc, fc0, fd, fd0, Bool.not_false] <;> with_reducible rfl) (by decide) ?_
    -- region 2
    repeat (refine awp_seq ?_)
    refine e_eval (by simp only [asq, as0, as1, as2, awanted, aop, afldAddr, ajust, aload, abuiltin, LS, SS, SX, HS, mkS_cons, mkS_nil, ↓reduceIte, eq_self', List.map_nil, beq_self_eq_true, Nat.reduceEqDiff, Nat.reduceAdd, Nat.reduceMul, Nat.reduceLT, Nat.reduceLeDiff, Nat.reducePow, Nat.reduceDiv, Nat.reduceMod, Nat.succ_ne_self, Nat.reduceBEq, Nat.reduceBNe, Tryti22, Tryte22, Trytz22, Trytp22, Tryti24, Trytf24, Trytz24, Trytp24, vint, TyS, TyF, TBS, TBF, DcS, DcF, PfS, PfF, SyS, SyF, RsS, RsF, MH, fa, fa0, fb, fb0, fc, fc0, fd, fd0, Bool.not_false] <;> with_reducible rfl) (by decide) ?_
    repeat (refine awp_seq ?_)
    refine awp_retok_row (H.length + 2) 2 3 (by simp only [dsq, ds0, ds1, ds2, ds3, awanted, hapB, effIds, effSet, nextFresh, ard, freshOk, isUnborn, aop, LS, SS, SX, HS, mkS_cons, mkS_nil, ↓reduceIte, eq_self', List.map_nil, beq_self_eq_true, Nat.reduceEqDiff, Nat.reduceAdd, Nat.reduceMul, Nat.reduceLT, Nat.reduceLeDiff, Nat.reducePow, Nat.reduceDiv, Nat.reduceMod, Nat.succ_ne_self, Nat.reduceBEq, Nat.reduceBNe, vint, TyS, TyF, TBS, TBF, DcS, DcF, PfS, PfF, SyS, SyF, RsS, RsF, MH] <;> with_reducible rfl) rfl ?_
    refine awp_forS (σ := List Ty × Bool) (u.args.length) (fun (q : List Ty × Bool) => [(0, .optr im 0), (2, .int .i64 (d : Nat)), (4, .optr H.length 0), (6, .optr (H.length + 1) 0), (7, .optr (H.length + 2) 0), (16, .slice (u.args.map Ty.enc) .none)]) [0, 2, 4, 6, 7, 16] ([]) (fun (q : List Ty × Bool) => nH c H im q.2 ++ [.row u.enc.cells, .row [.int .i64 0, .int .i64 0, .slice [] .full], .row [.int .i64 u.kind, .int .i64 u.id, .slice (q.1.map Ty.enc) (.tok (H.length + 3))], .buf q.1.length 3]) (fun (i : Nat) (q : List Ty × Bool) => q.1 = (u.args.take i).map (fun v => (normD (projN c.r.syms c.ds c.sas d) v).1) ∧ q.2 = (b || (u.args.take i).any fun v => (normD (projN c.r.syms c.ds c.sas d) v).2)) (([], b)) ([]) rfl rfl rfl rfl rfl rfl rfl rfl rfl (by decide) (by decide) (by decide) (fun _ => rfl) (hu.lenMax) ⟨(by first | rfl | (simp only [LS, SS, SX, HS, mkS_cons, mkS_nil, ↓reduceIte, eq_self', List.map_nil, beq_self_eq_true, Nat.reduceEqDiff, Nat.reduceAdd, Nat.succ_ne_self, vint, TyS, TyF, TBS, TBF, DcS, DcF, PfS, PfF, SyS, SyF, RsS, RsF, MH, fa, fa0, fb, fb0, fc, fc0, fd, fd0, Bool.not_false] <;> first | done | with_reducible rfl)), (by first | rfl | (simp only [LS, SS, SX, HS, mkS_cons, mkS_nil, ↓reduceIte, eq_self', List.map_nil, beq_self_eq_true, Nat.reduceEqDiff, Nat.reduceAdd, Nat.succ_ne_self, vint, TyS, TyF, TBS, TBF, DcS, DcF, PfS, PfF, SyS, SyF, RsS, RsF, MH, fa, fa0, fb, fb0, fc, fc0, fd, fd0, Bool.not_false] <;> first | done | with_reducible rfl)), (by first | rfl | (simp only [LS, SS, SX, HS, mkS_cons, mkS_nil, ↓reduceIte, eq_self', List.map_nil, beq_self_eq_true, Nat.reduceEqDiff, Nat.reduceAdd, Nat.succ_ne_self, vint, TyS, TyF, TBS, TBF, DcS, DcF, PfS, PfF, SyS, SyF, RsS, RsF, MH, fa, fa0, fb, fb0, fc, fc0, fd, fd0, Bool.not_false] <;> first | done | with_reducible rfl)), (by first | rfl | (simp only [LS, SS, SX, HS, mkS_cons, mkS_nil, ↓reduceIte, eq_self', List.map_nil, beq_self_eq_true, Nat.reduceEqDiff, Nat.reduceAdd, Nat.succ_ne_self, vint, TyS, TyF, TBS, TBF, DcS, DcF, PfS, PfF, SyS, SyF, RsS, RsF, MH, fa, fa0, fb, fb0, fc, fc0, fd, fd0, Bool.not_false] <;> first | done | with_reducible rfl)), (by first | rfl | (simp only [LS, SS, SX, HS, mkS_cons, mkS_nil, ↓reduceIte, eq_self', List.map_nil, beq_self_eq_true, Nat.reduceEqDiff, Nat.reduceAdd, Nat.succ_ne_self, vint, TyS, TyF, TBS, TBF, DcS, DcF, PfS, PfF, SyS, SyF, RsS, RsF, MH, fa, fa0, fb, fb0, fc, fc0, fd, fd0, Bool.not_false] <;> first | done | with_reducible rfl)), (by first | rfl | (simp only [LS, SS, SX, HS, mkS_cons, mkS_nil, ↓reduceIte, eq_self', List.map_nil, beq_self_eq_true, Nat.reduceEqDiff, Nat.reduceAdd, Nat.succ_ne_self, vint, TyS, TyF, TBS, TBF, DcS, DcF, PfS, PfF, SyS, SyF, RsS, RsF, MH, fa, fa0, fb, fb0, fc, fc0, fd, fd0, Bool.not_false] <;> first | done | with_reducible rfl)), (by first | rfl | (simp only [LS, SS, SX, HS, mkS_cons, mkS_nil, ↓reduceIte, eq_self', List.map_nil, beq_self_eq_true, Nat.reduceEqDiff, Nat.reduceAdd, Nat.succ_ne_self, vint, TyS, TyF, TBS, TBF, DcS, DcF, PfS, PfF, SyS, SyF, RsS, RsF, MH, fa, fa0, fb, fb0, fc, fc0, fd, fd0, Bool.not_false] <;> first | done | with_reducible rfl)), (by first | rfl | (simp only [LS, SS, SX, HS, mkS_cons, mkS_nil, ↓reduceIte, eq_self', List.map_nil, beq_self_eq_true, Nat.reduceEqDiff, Nat.reduceAdd, Nat.succ_ne_self, vint, TyS, TyF, TBS, TBF, DcS, DcF, PfS, PfF, SyS, SyF, RsS, RsF, MH, fa, fa0, fb, fb0, fc, fc0, fd, fd0, Bool.not_false] <;> first | done | with_reducible rfl)), trivial⟩ (by first | rfl | (simp only [LS, SS, SX, HS, mkS_cons, mkS_nil, ↓reduceIte, eq_self', List.map_nil, beq_self_eq_true, Nat.reduceEqDiff, Nat.reduceAdd, Nat.succ_ne_self, vint, TyS, TyF, TBS, TBF, DcS, DcF, PfS, PfF, SyS, SyF, RsS, RsF, MH, fa, fa0, fb, fb0, fc, fc0, fd, fd0, Bool.not_false] <;> first | done | with_reducible rfl)) (by simp) (fun i q hg => by simp only [List.nil_append, List.length_append, nH_len]; omega) ?_ ?_ ?_
    · intro i q hg
      refine ⟨?_, by repeat (first | exact BelL.nil | refine BelL.cons (by first | exact Bel.optr _ _ (by simp only [List.length_append, List.length_cons, List.length_nil, nH_len]; omega) | exact bel_ty_tok _ (by simp [nH_len]) | exact bel_Sy _ _ | exact Sy.bel _ _ | exact bel_Rf _ _ | exact bel_Dg _ _ | exact Rs.bel _ _ | exact bel_TB _ _ | exact TB.bel _ _ | exact bel_Dc _ _ | exact Dc.bel _ _ | exact Pf.bel _ _ | exact bel_Pf _ _ | exact Sv.bel _ _ | exact bel_Pf_tok _ (by simp) | exact bel_ints0 _ _ | exact bel_slice_ty _ _ | exact Ty.bel _ _ | exact bel_ty_tok _ (by simp) | exact Bel.int _ _ | exact Bel.bool _ | exact Bel.str _ | exact Bel.nilp | exact Bel.nilfn | exact Bel.optr _ _ (by simp) | exact bel_nil0 _ | exact bel_nil1 _ | exact bel_fn0 _ _ | assumption) ?_)⟩
      simp only [List.nil_append, TyS]
      refine hbel_app' (nH_bel hb' him) (by simp [nH_len]) ?_
      repeat (first | exact hbel_nil _ | exact trivial | exact obel_row_nil _ | (refine HBel.cons ?_ ?_) | (refine obel_row_cons (by first | exact Bel.optr _ _ (by simp only [List.length_append, List.length_cons, List.length_nil, nH_len]; omega) | exact bel_ty_tok _ (by simp [nH_len]) | exact bel_Sy _ _ | exact Sy.bel _ _ | exact bel_Rf _ _ | exact bel_Dg _ _ | exact Rs.bel _ _ | exact bel_TB _ _ | exact TB.bel _ _ | exact bel_Dc _ _ | exact Dc.bel _ _ | exact Pf.bel _ _ | exact bel_Pf _ _ | exact Sv.bel _ _ | exact bel_Pf_tok _ (by simp) | exact bel_ints0 _ _ | exact bel_slice_ty _ _ | exact Ty.bel _ _ | exact bel_ty_tok _ (by simp) | exact Bel.int _ _ | exact Bel.bool _ | exact Bel.str _ | exact Bel.nilp | exact Bel.nilfn | exact Bel.optr _ _ (by simp) | exact bel_nil0 _ | exact bel_nil1 _ | exact bel_fn0 _ _ | assumption) ?_))
    · intro i q hi hg
      have g1 := ix_nat hi
      have g2 := get_enc Ty.enc hi
      have hmem : u.args[i] ∈ u.args := List.getElem_mem hi
      have hsa := Ty.size_arg hmem
      obtain ⟨a, hae⟩ : ∃ a, u.args[i] = a := ⟨_, rfl⟩
      have haw := hu.arg hmem
      rw [hae] at g2 hsa haw
      have hlen := hu.len
      have hql : q.1.length < u.args.length := by rw [hg.1, List.length_map, List.length_take]; omega
      have happ := app_ty (us := q.1) (u := (normD (projN c.r.syms c.ds c.sas d) a).1) (id := H.length + 3) (tl := .full) (by omega)
      -- region 4
      repeat (refine awp_seq ?_)
      refine e_eval (by simp only [asq, as0, as1, as2, awanted, aop, aidxAddr, aidx, ajust, aload, astore, splice, LS, SS, SX, HS, mkS_cons, mkS_nil, ↓reduceIte, eq_self', List.map_nil, beq_self_eq_true, Nat.reduceEqDiff, Nat.reduceAdd, Nat.reduceMul, Nat.reduceLT, Nat.reduceLeDiff, Nat.reducePow, Nat.reduceDiv, Nat.reduceMod, Nat.succ_ne_self, Nat.reduceBEq, Nat.reduceBNe, Tryti22, Tryte22, Trytz22, Trytp22, Tryti24, Trytf24, Trytz24, Trytp24, vint, TyS, TyF, TBS, TBF, DcS, DcF, PfS, PfF, SyS, SyF, RsS, RsF, MH, fa, fa0, fb, fb0, fc, fc0, fd, fd0, Bool.not_false, g1, g2, Int.toNat_natCast] <;> with_reducible rfl) (by decide) ?_
      -- region 5
      repeat (refine awp_seq ?_)
      refine x_draw 0 (n0 := H.length + 5) (by first | rfl | (simp only [List.length_append, List.length_cons, List.length_nil, Nat.reduceAdd, Nat.zero_add, MH, fa, fa0, fb, fb0, fc, fc0, fd, fd0, Bool.not_false, g1, g2, Int.toNat_natCast, happ]; done)) (by kernel_rfl) ?_
      refine x_mid (by first | (simp only [LS, HS, List.append_assoc, List.cons_append, List.nil_append, MH, fa, fa0, fb, fb0, fc, fc0, fd, fd0, Bool.not_false, g1, g2, Int.toNat_natCast, happ] <;> with_reducible rfl) | rfl) ?_
      refine x2_take 5 (bm := [0, 1, 0, 0, 0, 28, 60, 127, 255, 511]) (fresh := (H.length + 5)) (by kernel_rfl) (by simp only [xq, xd0, xd1, xd2, xd4, xchk, gcond, gop, SG, Op.operands, Call.operands, Array.toList_append, hapB, effIds, effSet, nextFresh, ard, freshOk, isUnborn, Nat.reduceSub, Nat.le_refl, decide_true, Bool.true_or, Bool.or_true, List.all_cons, List.all_nil, Bool.and_true, aop, afldAddr, ajust, aload, LS, SS, SX, HS, mkS_cons, mkS_nil, ↓reduceIte, eq_self', List.map_nil, beq_self_eq_true, Nat.reduceEqDiff, Nat.reduceAdd, Nat.reduceMul, Nat.reduceLT, Nat.reduceLeDiff, Nat.reducePow, Nat.reduceDiv, Nat.reduceMod, Nat.succ_ne_self, Nat.reduceBEq, Nat.reduceBNe, Tryti22, Tryte22, Trytz22, Trytp22, Tryti24, Trytf24, Trytz24, Trytp24, vint, TyS, TyF, TBS, TBF, DcS, DcF, PfS, PfF, SyS, SyF, RsS, RsF, MH, fa, fa0, fb, fb0, fc, fc0, fd, fd0, Bool.not_false, g1, g2, Int.toNat_natCast, happ] <;> with_reducible rfl) (by decide) (by decide) ?_
      refine x2_fx (bm := [0, 1, 0, 0, 0, 28, 60, 127, 255, 511]) [im] im (c.row (q.2 || (normD (projN c.r.syms c.ds c.sas d) a).2)) (by kernel_rfl) (by simp only [acall, gcond, SG, Op.operands, Call.operands, Array.toList_append, LS, SS, SX, HS, mkS_cons, mkS_nil, ↓reduceIte, eq_self', List.map_nil, beq_self_eq_true, Nat.reduceEqDiff, Nat.reduceAdd, Nat.reduceMul, Nat.reduceLT, Nat.reduceLeDiff, Nat.reducePow, Nat.reduceDiv, Nat.reduceMod, Nat.succ_ne_self, Nat.reduceBEq, Nat.reduceBNe, vint, TyS, TyF, TBS, TBF, DcS, DcF, PfS, PfF, SyS, SyF, RsS, RsF, MH, fa, fa0, fb, fb0, fc, fc0, fd, fd0, Bool.not_false, g1, g2, Int.toNat_natCast, happ] <;> with_reducible rfl) (by simp only [acall, gcond, SG, Op.operands, Call.operands, Array.toList_append, LS, SS, SX, HS, mkS_cons, mkS_nil, ↓reduceIte, eq_self', List.map_nil, beq_self_eq_true, Nat.reduceEqDiff, Nat.reduceAdd, Nat.reduceMul, Nat.reduceLT, Nat.reduceLeDiff, Nat.reducePow, Nat.reduceDiv, Nat.reduceMod, Nat.succ_ne_self, Nat.reduceBEq, Nat.reduceBNe, vint, TyS, TyF, TBS, TBF, DcS, DcF, PfS, PfF, SyS, SyF, RsS, RsF, MH, fa, fa0, fb, fb0, fc, fc0, fd, fd0, Bool.not_false, g1, g2, Int.toNat_natCast, happ] <;> with_reducible rfl) (by simp only [acall, gcond, SG, Op.operands, Call.operands, Array.toList_append, LS, SS, SX, HS, mkS_cons, mkS_nil, ↓reduceIte, eq_self', List.map_nil, beq_self_eq_true, Nat.reduceEqDiff, Nat.reduceAdd, Nat.reduceMul, Nat.reduceLT, Nat.reduceLeDiff, Nat.reducePow, Nat.reduceDiv, Nat.reduceMod, Nat.succ_ne_self, Nat.reduceBEq, Nat.reduceBNe, vint, TyS, TyF, TBS, TBF, DcS, DcF, PfS, PfF, SyS, SyF, RsS, RsF, MH, fa, fa0, fb, fb0, fc, fc0, fd, fd0, Bool.not_false, g1, g2, Int.toNat_natCast, happ]) (by decide) Trygo107 (fun H' hr _ => nSet (fun H him => norm_k c hc d hproj k a im q.2 H (by omega) haw him) H' (by have := hr im (by simp); simp only [MH] at this; exact this)) (by simp) (by simp only [xq, xd0, xd1, xd2, xd4, xchk, gcond, gop, SG, Op.operands, Call.operands, Array.toList_append, hapB, effIds, effSet, nextFresh, ard, freshOk, isUnborn, Nat.reduceSub, Nat.le_refl, decide_true, Bool.true_or, Bool.or_true, List.all_cons, List.all_nil, Bool.and_true, aop, LS, SS, SX, HS, mkS_cons, mkS_nil, ↓reduceIte, eq_self', List.map_nil, beq_self_eq_true, Nat.reduceEqDiff, Nat.reduceAdd, Nat.reduceMul, Nat.reduceLT, Nat.reduceLeDiff, Nat.reducePow, Nat.reduceDiv, Nat.reduceMod, Nat.succ_ne_self, Nat.reduceBEq, Nat.reduceBNe, vint, TyS, TyF, TBS, TBF, DcS, DcF, PfS, PfF, SyS, SyF, RsS, RsF, MH, fa, fa0, fb, fb0, fc, fc0, fd, fd0, Bool.not_false, g1, g2, Int.toNat_natCast, happ] <;> first | done | rfl) (by simp only [xq, xd0, xd1, xd2, xd4, xchk, gcond, gop, SG, Op.operands, Call.operands, Array.toList_append, hapB, effIds, effSet, nextFresh, ard, freshOk, isUnborn, Nat.reduceSub, Nat.le_refl, decide_true, Bool.true_or, Bool.or_true, List.all_cons, List.all_nil, Bool.and_true, aop, LS, SS, SX, HS, mkS_cons, mkS_nil, ↓reduceIte, eq_self', List.map_nil, beq_self_eq_true, Nat.reduceEqDiff, Nat.reduceAdd, Nat.reduceMul, Nat.reduceLT, Nat.reduceLeDiff, Nat.reducePow, Nat.reduceDiv, Nat.reduceMod, Nat.succ_ne_self, Nat.reduceBEq, Nat.reduceBNe, vint, TyS, TyF, TBS, TBF, DcS, DcF, PfS, PfF, SyS, SyF, RsS, RsF, MH, fa, fa0, fb, fb0, fc, fc0, fd, fd0, Bool.not_false, g1, g2, Int.toNat_natCast, happ] <;> first | done | rfl) (by simp only [xq, xd0, xd1, xd2, xd4, xchk, gcond, gop, SG, Op.operands, Call.operands, Array.toList_append, hapB, effIds, effSet, nextFresh, ard, freshOk, isUnborn, Nat.reduceSub, Nat.le_refl, decide_true, Bool.true_or, Bool.or_true, List.all_cons, List.all_nil, Bool.and_true, aop, LS, SS, SX, HS, mkS_cons, mkS_nil, ↓reduceIte, eq_self', List.map_nil, beq_self_eq_true, Nat.reduceEqDiff, Nat.reduceAdd, Nat.reduceMul, Nat.reduceLT, Nat.reduceLeDiff, Nat.reducePow, Nat.reduceDiv, Nat.reduceMod, Nat.succ_ne_self, Nat.reduceBEq, Nat.reduceBNe, vint, TyS, TyF, TBS, TBF, DcS, DcF, PfS, PfF, SyS, SyF, RsS, RsF, MH, fa, fa0, fb, fb0, fc, fc0, fd, fd0, Bool.not_false, g1, g2, Int.toNat_natCast, happ] <;> with_reducible rfl) ?_
      refine x2_end (bm := [0, 1, 0, 0, 0, 28, 60, 127, 255, 511]) (fresh := (H.length + 5)) (by kernel_rfl) (by simp only [xq, xd0, xd1, xd2, xd4, xchk, gcond, gop, SG, Op.operands, Call.operands, Array.toList_append, hapB, effIds, effSet, nextFresh, ard, freshOk, isUnborn, Nat.reduceSub, Nat.le_refl, decide_true, Bool.true_or, Bool.or_true, List.all_cons, List.all_nil, Bool.and_true, aop, abuildS, abuiltin, afldAddr, ajust, astore, splice, LS, SS, SX, HS, mkS_cons, mkS_nil, ↓reduceIte, eq_self', List.map_nil, beq_self_eq_true, Nat.reduceEqDiff, Nat.reduceAdd, Nat.reduceMul, Nat.reduceLT, Nat.reduceLeDiff, Nat.reducePow, Nat.reduceDiv, Nat.reduceMod, Nat.succ_ne_self, Nat.reduceBEq, Nat.reduceBNe, Tryti22, Tryte22, Trytz22, Trytp22, Tryti24, Trytf24, Trytz24, Trytp24, vint, TyS, TyF, TBS, TBF, DcS, DcF, PfS, PfF, SyS, SyF, RsS, RsF, MH, fa, fa0, fb, fb0, fc, fc0, fd, fd0, Bool.not_false, g1, g2, Int.toNat_natCast, happ] <;> with_reducible rfl) (by decide) (by repeat (first | exact Fin.base _ | with_reducible apply Fin.keep | apply Fin.drop)) ?_
      -- leaf 0 next0
      exact ⟨⟨rfl, rfl, trivial⟩, (q.1 ++ [(normD (projN c.r.syms c.ds c.sas d) a).1], q.2 || (normD (projN c.r.syms c.ds c.sas d) a).2), _, ⟨rfl, rfl, rfl, rfl, rfl, rfl, trivial⟩, by simp only [LS, SS, SX, HS, mkS_cons, mkS_nil, ↓reduceIte, eq_self', List.map_nil, beq_self_eq_true, Nat.reduceEqDiff, Nat.reduceAdd, Nat.succ_ne_self, vint, TyS, TyF, TBS, TBF, DcS, DcF, PfS, PfF, SyS, SyF, RsS, RsF, MH, List.length_append, List.length_singleton, List.append_assoc, List.cons_append, List.nil_append] <;> rfl, by rw [map_take_succ _ hi, ← hg.1, hae], by rw [List.take_succ_eq_append_getElem hi, List.any_append, ← Bool.or_assoc, ← hg.2, hae]; simp⟩
    · intro q hg
      rw [List.take_length] at hg
      obtain ⟨hq1, hq2⟩ := hg
      have hqW : (Ty.mk u.kind u.id q.1).W := by
        rw [Ty.W_iff, hq1, List.length_map]
        exact ⟨hu.len, fun v hv => by obtain ⟨w, hw, rfl⟩ := List.mem_map.1 hv; exact norm_W c hc d w (hu.arg hw)⟩
      -- region 7
      repeat (refine awp_seq ?_)
      refine e_eval (by simp only [asq, as0, as1, as2, awanted, aop, afldAddr, ajust, aload, abin, LS, SS, SX, HS, mkS_cons, mkS_nil, ↓reduceIte, eq_self', List.map_nil, beq_self_eq_true, Nat.reduceEqDiff, Nat.reduceAdd, Nat.reduceMul, Nat.reduceLT, Nat.reduceLeDiff, Nat.reducePow, Nat.reduceDiv, Nat.reduceMod, Nat.succ_ne_self, Nat.reduceBEq, Nat.reduceBNe, Tryti3, Trytz3, Trytp3, Trytk3, Tryti24, Trytf24, Trytz24, Trytp24, vint, TyS, TyF, TBS, TBF, DcS, DcF, PfS, PfF, SyS, SyF, RsS, RsF, MH, fa, fa0, fb, fb0, fc, fc0, fd, fd0, Bool.not_false] <;> with_reducible rfl) (by decide) ?_
      repeat (refine awp_seq ?_)
      refine awp_cond rfl (by simp only [LS, SS, SX, HS, mkS_cons, mkS_nil, ↓reduceIte, eq_self', List.map_nil, beq_self_eq_true, Nat.reduceEqDiff, Nat.reduceAdd, Nat.succ_ne_self, vint, TyS, TyF, TBS, TBF, DcS, DcF, PfS, PfF, SyS, SyF, RsS, RsF, MH, fa, fa0, fb, fb0, fc, fc0, fd, fd0, Bool.not_false] <;> with_reducible rfl) (fun b0 => ?_) (fun b0 => ?_)
      · -- if t34
        have hk : u.kind = 10 := of_decide_eq_true b0
        have hN : normD (projN c.r.syms c.ds c.sas d) u = (((projN c.r.syms c.ds c.sas d) (.mk u.kind u.id q.1)).1, (u.args.any fun v => (normD (projN c.r.syms c.ds c.sas d) v).2) || ((projN c.r.syms c.ds c.sas d) (.mk u.kind u.id q.1)).2) := by rw [normD_eq, if_pos hk, hq1]
        have hfin : (b || (normD (projN c.r.syms c.ds c.sas d) u).2) = (q.2 || ((projN c.r.syms c.ds c.sas d) (.mk u.kind u.id q.1)).2) := by rw [hN, hq2, Bool.or_assoc]
        rw [hfin, hN]
        -- region 8
        repeat (refine awp_seq ?_)
        refine awp_region ?_
        refine e_take 3 (by simp only [asq, as0, as1, as2, awanted, aop, aload, ajust, LS, SS, SX, HS, mkS_cons, mkS_nil, ↓reduceIte, eq_self', List.map_nil, beq_self_eq_true, Nat.reduceEqDiff, Nat.reduceAdd, Nat.reduceMul, Nat.reduceLT, Nat.reduceLeDiff, Nat.reducePow, Nat.reduceDiv, Nat.reduceMod, Nat.succ_ne_self, Nat.reduceBEq, Nat.reduceBNe, Tryti24, Trytf24, Trytz24, Trytp24, vint, TyS, TyF, TBS, TBF, DcS, DcF, PfS, PfF, SyS, SyF, RsS, RsF, MH, fa, fa0, fb, fb0, fc, fc0, fd, fd0, Bool.not_false] <;> with_reducible rfl) (by decide) ?_
        refine aops_acall (by simp only [acall, awanted, LS, SS, SX, HS, mkS_cons, mkS_nil, ↓reduceIte, eq_self', List.map_nil, beq_self_eq_true, Nat.reduceEqDiff, Nat.reduceAdd, Nat.reduceMul, Nat.reduceLT, Nat.reduceLeDiff, Nat.reducePow, Nat.reduceDiv, Nat.reduceMod, Nat.succ_ne_self, Nat.reduceBEq, Nat.reduceBNe, vint, TyS, TyF, TBS, TBF, DcS, DcF, PfS, PfF, SyS, SyF, RsS, RsF, MH, fa, fa0, fb, fb0, fc, fc0, fd, fd0, Bool.not_false] <;> with_reducible rfl) (by simp only [acall, awanted, LS, SS, SX, HS, mkS_cons, mkS_nil, ↓reduceIte, eq_self', List.map_nil, beq_self_eq_true, Nat.reduceEqDiff, Nat.reduceAdd, Nat.reduceMul, Nat.reduceLT, Nat.reduceLeDiff, Nat.reducePow, Nat.reduceDiv, Nat.reduceMod, Nat.succ_ne_self, Nat.reduceBEq, Nat.reduceBNe, vint, TyS, TyF, TBS, TBF, DcS, DcF, PfS, PfF, SyS, SyF, RsS, RsF, MH, fa, fa0, fb, fb0, fc, fc0, fd, fd0, Bool.not_false]) (by decide) Trygo132 (nSet (fun H him => hproj (.mk u.kind u.id q.1) im q.2 H hqW him) _ (by simp only [MH]; rfl)) ?_
        rintro _ _ ⟨rfl, rfl⟩
        refine e_end (by simp only [asq, as0, as1, as2, awanted, aop, astore, splice, LS, SS, SX, HS, mkS_cons, mkS_nil, ↓reduceIte, eq_self', List.map_nil, beq_self_eq_true, Nat.reduceEqDiff, Nat.reduceAdd, Nat.reduceMul, Nat.reduceLT, Nat.reduceLeDiff, Nat.reducePow, Nat.reduceDiv, Nat.reduceMod, Nat.succ_ne_self, Nat.reduceBEq, Nat.reduceBNe, Tryti24, Trytf24, Trytz24, Trytp24, vint, TyS, TyF, TBS, TBF, DcS, DcF, PfS, PfF, SyS, SyF, RsS, RsF, MH, fa, fa0, fb, fb0, fc, fc0, fd, fd0, Bool.not_false] <;> with_reducible rfl) (by decide) ?_
        repeat (refine awp_seq ?_)
        -- leaf 1 ret
        refine awp_ret ⟨.inr rfl, _, _, (ares_cell 6 24 rfl Tryti24 (by decide) (by simp only [aload, LS, SS, SX, HS, mkS_cons, mkS_nil, ↓reduceIte, eq_self', List.map_nil, beq_self_eq_true, Nat.reduceEqDiff, Nat.reduceAdd, Nat.reduceMul, Nat.reduceLT, Nat.reduceLeDiff, Nat.reducePow, Nat.reduceDiv, Nat.reduceMod, Nat.succ_ne_self, Nat.reduceBEq, Nat.reduceBNe, vint, TyS, TyF, TBS, TBF, DcS, DcF, PfS, PfF, SyS, SyF, RsS, RsF, MH, fa, fa0, fb, fb0, fc, fc0, fd, fd0, Bool.not_false] <;> with_reducible rfl)), ?_, rfl⟩
        exact Ty.enc_drop1 _
      · -- else t34
        have hk : ¬ u.kind = 10 := of_decide_eq_false b0
        have hN : normD (projN c.r.syms c.ds c.sas d) u = (.mk u.kind u.id q.1, u.args.any fun v => (normD (projN c.r.syms c.ds c.sas d) v).2) := by rw [normD_eq, if_neg hk, hq1]
        have hfin : (b || (normD (projN c.r.syms c.ds c.sas d) u).2) = q.2 := by rw [hN, hq2]
        rw [hfin, hN]
        repeat (refine awp_seq ?_)
        refine awp_skip ?_
        -- region 9
        repeat (refine awp_seq ?_)
        refine e_eval (by simp only [asq, as0, as1, as2, awanted, aop, aload, ajust, astore, splice, LS, SS, SX, HS, mkS_cons, mkS_nil, ↓reduceIte, eq_self', List.map_nil, beq_self_eq_true, Nat.reduceEqDiff, Nat.reduceAdd, Nat.reduceMul, Nat.reduceLT, Nat.reduceLeDiff, Nat.reducePow, Nat.reduceDiv, Nat.reduceMod, Nat.succ_ne_self, Nat.reduceBEq, Nat.reduceBNe, Tryti24, Trytf24, Trytz24, Trytp24, vint, TyS, TyF, TBS, TBF, DcS, DcF, PfS, PfF, SyS, SyF, RsS, RsF, MH, fa, fa0, fb, fb0, fc, fc0, fd, fd0, Bool.not_false] <;> with_reducible rfl) (by decide) ?_
        repeat (refine awp_seq ?_)
        -- leaf 2 ret
        refine awp_ret ⟨.inr rfl, _, _, (ares_cell 6 24 rfl Tryti24 (by decide) (by simp only [aload, LS, SS, SX, HS, mkS_cons, mkS_nil, ↓reduceIte, eq_self', List.map_nil, beq_self_eq_true, Nat.reduceEqDiff, Nat.reduceAdd, Nat.reduceMul, Nat.reduceLT, Nat.reduceLeDiff, Nat.reducePow, Nat.reduceDiv, Nat.reduceMod, Nat.succ_ne_self, Nat.reduceBEq, Nat.reduceBNe, vint, TyS, TyF, TBS, TBF, DcS, DcF, PfS, PfF, SyS, SyF, RsS, RsF, MH, fa, fa0, fb, fb0, fc, fc0, fd, fd0, Bool.not_false] <;> with_reducible rfl)), ?_, rfl⟩
        first | exact Ty.enc_drop1 _ | (simp only [TyF, d1_agg, LS]; exact Ty.enc_drop1 _) | rfl

end Go.Abs
