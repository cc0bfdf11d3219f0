/- Part 6 of a proof of the law NormalizeMatchesReference: Go data as trees, the walks of the functions that the law reaches, the plain laws. -/
import Derived.Test.YtmjoonaejldkhaaGENormalizeMatchesReference
set_option linter.unusedVariables false
set_option linter.unusedSimpArgs false
namespace Go.Abs
/-- What Normalize answers. -/
def normF (r : Rs) (ds : List Dc) (sas : List TB) (t : Ty) : Ty := if ds.length = r.syms.length then normalT r.syms ds sas t else .zero
def iterR : Rs := ⟨[⟨5, 0, 0, -1, [73, 116, 101, 114], false⟩, ⟨13, 0, 0, 0, [73, 116, 101, 109], false⟩, ⟨6, 0, 0, -1, [], false⟩, ⟨13, 0, 0, 2, [73, 116, 101, 109], false⟩], [], []⟩
def iterD : List Dc := [⟨[], .mk 0 0 [], -1, [], []⟩, ⟨[], .mk 0 0 [], -1, [], []⟩, ⟨[], .mk 3 0 [], 0, [], []⟩, ⟨[], .mk 4 0 [], -1, [], []⟩]
theorem iter_impl : implIx iterD (.mk 3 0 []) 0 = 2 := by
  simp [implIx, iterD, idxI, List.findIdx?_cons, implP, matchP, matchT, Ty.kind, Ty.id, Ty.args, mS0, matchL, cpar]
theorem iter_args : implAs iterD (.mk 3 0 []) 0 = [] := by
  unfold implAs implD; rw [iter_impl]; simp [iterD, matchP, matchT, Ty.kind, Ty.id, Ty.args, mS0, matchL]
theorem iter_solve : solveT iterD [] 8 (.mk 3 0 []) 0 = (.mk (.mk 3 0 []) 0 2 (-1) [] [], true) := by
  rw [solveT]; simp [iter_impl, iter_args, idx_none, Ty.kind, implD]; simp [iterD]
theorem iter_solve2 : solveT iterD [⟨.mk 2 7 [], 0⟩] 8 (.mk 2 7 []) 0 = (.mk (.mk 2 7 []) 0 (-1) 0 [] [], true) := by
  rw [solveT]; simp [idxI, List.findIdx?_cons, boundP, Ty.kind, Ty.eqb_self]
theorem iter_tr : traitIx iterR.syms 1 = 0 := by simp [traitIx, iterR]
theorem iter_mem : memIx iterR.syms iterD [] 1 (.mk 3 0 []) = 3 := by
  unfold memIx; rw [iter_tr, iter_solve]; simp [iterR, Pf.im, idxI, List.findIdx?_cons, memP]
theorem iter_X : projX iterR.syms iterD [] 1 (.mk 3 0 []) = .mk 4 0 [] := by
  unfold projX; rw [iter_mem, iter_tr, iter_solve]; simp [iterD, Pf.im, Pf.args, mapT_eq, appG, Ty.kind, Ty.id, Ty.args]
theorem nf0 (P : Ty → Ty × Bool) (k i : Int) (hk : k ≠ 10) : normD P (.mk k i []) = (.mk k i [], false) := by simp [normD_mk, hk]
theorem nf1 (P : Ty → Ty × Bool) (k i : Int) (u : Ty) : normD P (.mk k i [u]) = if k = 10 then ((P (.mk k i [(normD P u).1])).1, (normD P u).2 || (P (.mk k i [(normD P u).1])).2) else (.mk k i [(normD P u).1], (normD P u).2) := by simp [normD_mk]
theorem iter_pa : projN iterR.syms iterD [] 8 (.mk 10 1 [.mk 3 0 []]) = (.mk 4 0 [], false) := by
  rw [projN, projT_one, if_neg (by rw [iter_tr]; omega), if_neg (by rw [iter_tr, iter_solve]; simp [Pf.im])]
  simp only
  rw [if_neg (by rw [iter_mem]; omega), iter_X, nf0 _ _ _ (by omega)]
theorem work_a : normF iterR iterD [] (.mk 8 0 [.mk 10 1 [.mk 3 0 []]]) = .mk 8 0 [.mk 4 0 []] := by
  have e : normD (projN iterR.syms iterD [] 8) (.mk 8 0 [.mk 10 1 [.mk 3 0 []]]) = (.mk 8 0 [.mk 4 0 []], false) := by
    rw [nf1, nf1, nf0 _ _ _ (by omega), iter_pa]; simp
  unfold normF normalT
  rw [e, if_pos (by simp [iterD, iterR]), if_neg]
  simp [valT, measT, measL, wfT, nwf, Ty.kind, Ty.id, Ty.args]
  omega
theorem work_b : normF iterR iterD [⟨.mk 2 7 [], 0⟩] (.mk 10 1 [.mk 2 7 []]) = .mk 10 1 [.mk 2 7 []] := by
  have hr : rigid iterR.syms iterD [⟨.mk 2 7 [], 0⟩] 1 (.mk 2 7 []) := ⟨by rw [iter_tr]; omega, .inr (by rw [iter_tr, iter_solve2]; simp [Pf.im])⟩
  have e : normD (projN iterR.syms iterD [⟨.mk 2 7 [], 0⟩] 8) (.mk 10 1 [.mk 2 7 []]) = (.mk 10 1 [.mk 2 7 []], false) := by
    rw [nf1, nf0 _ _ _ (by omega), projN_rigid hr]; simp
  unfold normF normalT
  rw [e, if_pos (by simp [iterD, iterR]), if_neg]
  simp [valT, measT, measL, wfT, nwf, Ty.kind, Ty.id, Ty.args]
  omega
end Go.Abs
set_option maxRecDepth 4000
namespace Go.Abs
open Go.Proofs

theorem normC_all (c : NC) (hc : c.Ok) : ∀ d : Nat, d ≤ 8 → NormC c d
  | 0, h => fun u im b H hu him => norm_k c hc 0 (fun t im b H ht him => proj_k c hc 0 (fun d' e => by cases e) h t im b H ht him) _ u im b H (Nat.le_refl _) hu him
  | d + 1, h => fun u im b H hu him => norm_k c hc (d + 1) (fun t im b H ht him => proj_k c hc (d + 1) (fun d' e => by cases e; exact normC_all c hc d (by omega)) h t im b H ht him) _ u im b H (Nat.le_refl _) hu him
theorem norm8 (c : NC) (hc : c.Ok) (u : Ty) (im : Nat) (b : Bool) (H : Heap) (hu : u.W) (him : im < H.length) : ACalls Try.prog 107 [.optr im 0, u.enc, .int .i64 8] (nH c H im b) fun r' H' => r' = (normD (projN c.r.syms c.ds c.sas 8) u).1.enc ∧ H' = nH c H im (b || (normD (projN c.r.syms c.ds c.sas 8) u).2) := normC_all c hc 8 (by omega) u im b H hu him
theorem normF_W {r : Rs} {ds : List Dc} {sas : List TB} (hl : ds.length ≤ maxLen) (hd : ∀ d ∈ ds, d.B) (hsl : sas.length ≤ maxLen) (hs : ∀ b ∈ sas, b.W) (t : Ty) (ht : t.W) : (normF r ds sas t).W := by
  unfold normF
  split
  · rename_i h
    unfold normalT
    split
    · exact zero_W
    · exact norm_W ⟨r, ds, sas⟩ ⟨h, hl, hd, hsl, hs⟩ 8 t ht
  · exact zero_W

theorem normalize_c (r : Rs) (ds : List Dc) (sas : List TB) (hl : ds.length ≤ maxLen) (hd : ∀ d ∈ ds, d.B) (hsl : sas.length ≤ maxLen) (hs : ∀ b ∈ sas, b.W) (t : Ty) (ht : t.W) : PC Try.prog 53 [r.enc, .slice (ds.map Dc.enc) .none, .slice (sas.map TB.enc) .none, t.enc] (normF r ds sas t).enc := by
  refine pc_of (N := 36) Try.func53 rfl rfl (by simp) (by simp [Ty.bel, Rs.bel, bel_Dc, bel_TB]) (Ty.bel _ _) ?_
  repeat (refine awp_seq ?_)
  refine e_eval (by simp only [jA, jO, jN, seval, y24, y56, vint, qA, NC.row] <;> with_reducible rfl) (by decide) ?_
  repeat (refine awp_seq ?_)
  refine e_eval (by simp only [jA, jO, jN, seval, y3, y52, y56, y59, y71, y117, vint, qA, NC.row] <;> with_reducible rfl) (by decide) ?_
  repeat (refine awp_seq ?_)
  refine awp_cond rfl (by simp only [jN, seval, vint, qA, NC.row] <;> with_reducible rfl) (fun b0 => ?_) (fun b0 => ?_)
  ·
    have hq : ¬ ds.length = r.syms.length := by simp at b0; omega
    have hF : normF r ds sas t = .zero := by unfold normF; rw [if_neg hq]
    repeat (refine awp_seq ?_)
    refine e_eval (by simp only [jA, jO, jN, seval, y24, vint, qA, NC.row] <;> with_reducible rfl) (by decide) ?_
    repeat (refine awp_seq ?_)
    refine awp_ret ⟨.inr rfl, _, (ares_cell 8 24 rfl Tryti24 (by decide) (by simp only [jL, jN, seval, vint, qA, NC.row] <;> with_reducible rfl)), ?_⟩
    rw [hF]; rfl
  ·
    have hq : ds.length = r.syms.length := by simp at b0; omega
    have hF : normF r ds sas t = normalT r.syms ds sas t := by unfold normF; rw [if_pos hq]
    rw [hF]
    have hcok : NC.Ok ⟨r, ds, sas⟩ := ⟨hq, hl, hd, hsl, hs⟩
    have hnw := norm_W ⟨r, ds, sas⟩ hcok 8 t ht
    obtain ⟨u, hu⟩ : ∃ u, normD (projN r.syms ds sas 8) t = u := ⟨_, rfl⟩
    simp only [hu] at hnw
    repeat (refine awp_seq ?_)
    refine awp_skip ?_
    repeat (refine awp_seq ?_)
    refine e_eval (by simp only [jA, jO, jN, seval, y56, y130, vint, qA, NC.row] <;> with_reducible rfl) (by decide) ?_
    refine awp_sel [7, 8, 9] (by simp only [jN, seval, vint, qA, NC.row] <;> with_reducible rfl) ?_
    repeat (refine awp_seq ?_)
    refine awp_region ?_
    refine e_take 2 (by simp only [jA, jO, jN, seval, y24, vint, qA, NC.row, hu, Bool.false_or] <;> with_reducible rfl) (by decide) ?_
    refine aops_acall (by simp only [jC, jN, seval, vint, qA, NC.row, hu, Bool.false_or] <;> with_reducible rfl) (by simp only [jC, jN, seval, vint, qA, NC.row, hu, Bool.false_or]) (by decide) Trygo107 (nSet (fun H him => norm8 ⟨r, ds, sas⟩ hcok t 3 false H ht him) _ (by rfl)) ?_
    rintro _ _ ⟨rfl, rfl⟩
    refine e_end (by simp only [jA, jO, jN, seval, y24, vint, qA, NC.row, hu, Bool.false_or] <;> with_reducible rfl) (by decide) ?_
    repeat (refine awp_seq ?_)
    refine awp_region ?_
    refine aops_gstart ?_
    refine g_take 6 (by simp only [jG, jO, jN, seval, y4, y24, y130, vint, qA, NC.row, NC.row, hu, Bool.false_or] <;> with_reducible rfl) (by decide) ?_
    refine aops_gpure (by simp only [jE, jN, seval, vint, qA, NC.row, NC.row, hu, Bool.false_or] <;> with_reducible rfl) (by simp only [jE, jN, seval, vint, qA, NC.row, NC.row, hu, Bool.false_or] <;> with_reducible rfl) (by simp only [jE, jN, seval, vint, qA, NC.row, NC.row, hu, Bool.false_or]) (by decide) Trygo31 (fun hc => validate u.1 hnw _) ?_
    refine g_end (by simp only [jG, jO, jN, seval, y38, vint, qA, NC.row, NC.row, hu, Bool.false_or] <;> with_reducible rfl) (by decide) (by repeat (first | exact Fin.base _ | with_reducible apply Fin.keep | apply Fin.drop)) ?_
    repeat (refine awp_seq ?_)
    refine awp_cond rfl (by simp only [jN, seval, vint, qA, NC.row] <;> with_reducible rfl) (fun b1 => ?_) (fun b1 => ?_)
    ·
      have hz : normalT r.syms ds sas t = .zero := by
        unfold normalT; rw [hu, if_pos]
        simpa using b1
      repeat (refine awp_seq ?_)
      refine e_eval (by simp only [jA, jO, jN, seval, y24, vint, qA, NC.row] <;> with_reducible rfl) (by decide) ?_
      repeat (refine awp_seq ?_)
      refine awp_ret ⟨.inr rfl, _, (ares_cell 8 24 rfl Tryti24 (by decide) (by simp only [jL, jN, seval, vint, qA, NC.row] <;> with_reducible rfl)), ?_⟩
      rw [hz]; rfl
    ·
      have hz : normalT r.syms ds sas t = u.1 := by
        unfold normalT; rw [hu, if_neg]
        simpa using b1
      repeat (refine awp_seq ?_)
      refine awp_skip ?_
      repeat (refine awp_seq ?_)
      refine e_eval (by simp only [jA, jO, jN, seval, y24, vint, qA, NC.row] <;> with_reducible rfl) (by decide) ?_
      repeat (refine awp_seq ?_)
      refine awp_ret ⟨.inr rfl, _, (ares_cell 8 24 rfl Tryti24 (by decide) (by simp only [jL, jN, seval, vint, qA, NC.row] <;> with_reducible rfl)), ?_⟩
      rw [hz]; exact Ty.enc_drop1 _

theorem iterD_B : ∀ d ∈ iterD, d.B := by
  intro d hd
  simp only [iterD, List.mem_cons, List.not_mem_nil, or_false] at hd
  rcases hd with rfl | rfl | rfl | rfl <;> simp [Dc.B, Dc.W, Ty.W_iff, TB.W]

theorem iterSymbolsK : PC Try.prog 106 [] (.tup [iterR.enc, .slice (iterD.map Dc.enc) .none]) := by
  refine pc_of (N := 19) Try.func106 rfl rfl (by simp) (by simp) (.tup _ (by simp [Rs.bel, bel_Dc])) ?_
  repeat (refine awp_seq ?_)
  refine e_eval (by simp only [jA, jO, jN, seval, y56, vint, qA] <;> with_reducible rfl) (by decide) ?_
  repeat (refine awp_seq ?_)
  refine e_eval (by simp only [jA, jO, jN, seval, y52, y56, y117, vint, qA] <;> with_reducible rfl) (by decide) ?_
  repeat (refine awp_seq ?_)
  refine awp_region ?_
  refine e_take 2 (by simp only [jA, jO, jN, seval, y71, vint, qA] <;> with_reducible rfl) (by decide) ?_
  refine aops_pure (by simp only [jC, jN, seval, vint, qA] <;> with_reducible rfl) (by simp only [jC, jN, seval, vint, qA]) (by decide) Trygo73 (intTypeK _) ?_
  refine e_take 1 (by simp only [jA, jO, jN, seval, y71, vint, qA] <;> with_reducible rfl) (by decide) ?_
  refine aops_pure (by simp only [jC, jN, seval, vint, qA] <;> with_reducible rfl) (by simp only [jC, jN, seval, vint, qA]) (by decide) Trygo71 (typK 4 0 [] _) ?_
  refine e_end (by simp only [jA, jO, jN, seval, y59, y71, vint, qA] <;> with_reducible rfl) (by decide) ?_
  refine awp_sel [0, 2, 3] (by simp only [jN, seval, vint, qA] <;> with_reducible rfl) ?_
  repeat (refine awp_seq ?_)
  refine e_eval (by simp only [jA, jO, jN, seval, y56, vint, qA] <;> with_reducible rfl) (by decide) ?_
  repeat (refine awp_seq ?_)
  refine awp_ret ⟨.inr rfl, _, (ares_two (.cell 0 56) (.tmp 1) rfl (ares_cell1 Tryti56 (by decide) (by simp only [jL, jN, seval, vint, qA] <;> with_reducible rfl)) (ares_tmp1 (by decide))), ?_⟩
  rfl

theorem assocWorkK : PC Try.prog 52 [] (.bool true) := by
  have em : maxLen = 9223372036854775807 := by decide
  have hN := fun sas hs1 hs2 t ht => normalize_c iterR iterD sas (by simp [iterD]; omega) iterD_B hs1 hs2 t ht
  have s1 := work_a
  have s2 := work_b
  have q1 := Ty.eqb_self (Ty.mk 8 0 [.mk 4 0 []])
  have q2 := Ty.eqb_self (Ty.mk 10 1 [.mk 2 7 []])
  refine pc_of (N := 38) Try.func52 rfl rfl (by simp) (by simp) (.bool _) ?_
  repeat (refine awp_seq ?_)
  refine e_eval (by simp only [jA, jO, jN, seval, vint, qA] <;> with_reducible rfl) (by decide) ?_
  repeat (refine awp_seq ?_)
  refine awp_region ?_
  refine aops_pure (by simp only [jC, jN, seval, vint, qA] <;> with_reducible rfl) (by simp only [jC, jN, seval, vint, qA]) (by decide) Trygo106 (iterSymbolsK _) ?_
  refine e_end (by simp only [jA, jO, jN, seval, y56, vint, qA] <;> with_reducible rfl) (by decide) ?_
  repeat (refine awp_seq ?_)
  refine x_draw 1 (n0 := 1) (by first | rfl | (simp only [List.length_append, List.length_cons, List.length_nil, Nat.reduceAdd, Nat.zero_add, s1]; done)) (by kernel_rfl) ?_
  refine x1_take 2 (by first | rfl | (simp only [List.length_append, List.length_cons, List.length_nil, Nat.reduceAdd, Nat.zero_add, s1]; done)) (by simp only [jP, jO, jN, seval, y56, vint, qA, s1] <;> with_reducible rfl) (by decide) (by decide) (by decide) ?_
  refine x1_keep (by first | rfl | (simp only [List.length_append, List.length_cons, List.length_nil, Nat.reduceAdd, Nat.zero_add, s1]; done)) (by simp only [jE, jN, seval, vint, qA, s1] <;> with_reducible rfl) (by simp only [jE, jN, seval, vint, qA, s1] <;> with_reducible rfl) (by simp only [jE, jN, seval, vint, qA, s1]) (by decide) Trygo73 (fun hc L => intTypeK _) ?_
  refine x1_take 1 (by first | rfl | (simp only [List.length_append, List.length_cons, List.length_nil, Nat.reduceAdd, Nat.zero_add, s1]; done)) (by simp only [jP, jO, jN, seval, y22, y24, vint, qA, s1] <;> with_reducible rfl) (by decide) (by decide) (by decide) ?_
  refine x1_keep (by first | rfl | (simp only [List.length_append, List.length_cons, List.length_nil, Nat.reduceAdd, Nat.zero_add, s1]; done)) (by simp only [jE, jN, seval, vint, qA, s1] <;> with_reducible rfl) (by simp only [jE, jN, seval, vint, qA, s1] <;> with_reducible rfl) (by simp only [jE, jN, seval, vint, qA, s1]) (by decide) Trygo71 (fun hc L => typK 10 1 [.mk 3 0 []] _) ?_
  refine x1_take 1 (by first | rfl | (simp only [List.length_append, List.length_cons, List.length_nil, Nat.reduceAdd, Nat.zero_add, s1]; done)) (by simp only [jP, jO, jN, seval, y22, y24, vint, qA, s1] <;> with_reducible rfl) (by decide) (by decide) (by decide) ?_
  refine x1_keep (by first | rfl | (simp only [List.length_append, List.length_cons, List.length_nil, Nat.reduceAdd, Nat.zero_add, s1]; done)) (by simp only [jE, jN, seval, vint, qA, s1] <;> with_reducible rfl) (by simp only [jE, jN, seval, vint, qA, s1] <;> with_reducible rfl) (by simp only [jE, jN, seval, vint, qA, s1]) (by decide) Trygo71 (fun hc L => typK 8 0 [.mk 10 1 [.mk 3 0 []]] _) ?_
  refine x1_keep (by first | rfl | (simp only [List.length_append, List.length_cons, List.length_nil, Nat.reduceAdd, Nat.zero_add, s1]; done)) (by simp only [jE, jN, seval, vint, qA, s1] <;> with_reducible rfl) (by simp only [jE, jN, seval, vint, qA, s1] <;> with_reducible rfl) (by simp only [jE, jN, seval, vint, qA, s1]) (by decide) Trygo53 (fun hc L => hN [] (by simp) (by simp) (.mk 8 0 [.mk 10 1 [.mk 3 0 []]]) (by simp [Ty.W_iff]) _) ?_
  refine x_mid (by first | (simp only [LS, HS, List.append_assoc, List.cons_append, List.nil_append, s1] <;> with_reducible rfl) | rfl) ?_
  refine x2_end (bm := [0, 0, 0, 4, 12, 28, 60, 127, 0, 511]) (fresh := (1)) (by kernel_rfl) (by simp only [jX, jO, jN, seval, y24, vint, qA, s1] <;> with_reducible rfl) (by decide) (by repeat (first | exact Fin.base _ | with_reducible apply Fin.keep | apply Fin.drop)) ?_
  refine awp_sel [1, 2, 3] (by simp only [jN, seval, vint, qA] <;> with_reducible rfl) ?_
  repeat (refine awp_seq ?_)
  refine awp_region ?_
  refine aops_pure (by simp only [jC, jN, seval, vint, qA] <;> with_reducible rfl) (by simp only [jC, jN, seval, vint, qA]) (by decide) Trygo72 (typeParamK 7 _) ?_
  refine e_take 1 (by simp only [jA, jO, jN, seval, y22, y24, vint, qA] <;> with_reducible rfl) (by decide) ?_
  refine aops_pure (by simp only [jC, jN, seval, vint, qA] <;> with_reducible rfl) (by simp only [jC, jN, seval, vint, qA]) (by decide) Trygo71 (typK 10 1 [.mk 2 7 []] _) ?_
  refine e_end (by simp only [jA, jO, jN, seval, y24, vint, qA] <;> with_reducible rfl) (by decide) ?_
  repeat (refine awp_seq ?_)
  refine x_draw 1 (n0 := 3) (by first | rfl | (simp only [List.length_append, List.length_cons, List.length_nil, Nat.reduceAdd, Nat.zero_add, s2]; done)) (by kernel_rfl) ?_
  refine x1_take 2 (by first | rfl | (simp only [List.length_append, List.length_cons, List.length_nil, Nat.reduceAdd, Nat.zero_add, s2]; done)) (by simp only [jP, jO, jN, seval, y56, vint, qA, s2] <;> with_reducible rfl) (by decide) (by decide) (by decide) ?_
  refine x1_keep (by first | rfl | (simp only [List.length_append, List.length_cons, List.length_nil, Nat.reduceAdd, Nat.zero_add, s2]; done)) (by simp only [jE, jN, seval, vint, qA, s2] <;> with_reducible rfl) (by simp only [jE, jN, seval, vint, qA, s2] <;> with_reducible rfl) (by simp only [jE, jN, seval, vint, qA, s2]) (by decide) Trygo72 (fun hc L => typeParamK 7 _) ?_
  refine x1_take 3 (by first | rfl | (simp only [List.length_append, List.length_cons, List.length_nil, Nat.reduceAdd, Nat.zero_add, s2]; done)) (by simp only [jP, jO, jN, seval, y24, y60, y74, vint, qA, s2] <;> with_reducible rfl) (by decide) (by decide) (by decide) ?_
  refine x1_keep (by first | rfl | (simp only [List.length_append, List.length_cons, List.length_nil, Nat.reduceAdd, Nat.zero_add, s2]; done)) (by simp only [jE, jN, seval, vint, qA, s2] <;> with_reducible rfl) (by simp only [jE, jN, seval, vint, qA, s2] <;> with_reducible rfl) (by simp only [jE, jN, seval, vint, qA, s2]) (by decide) Trygo53 (fun hc L => hN [⟨.mk 2 7 [], 0⟩] (by simp; omega) (by simp [TB.W, Ty.W_iff]) (.mk 10 1 [.mk 2 7 []]) (by simp [Ty.W_iff]) _) ?_
  refine x_mid (by first | (simp only [LS, HS, List.append_assoc, List.cons_append, List.nil_append, s2] <;> with_reducible rfl) | rfl) ?_
  refine x2_end (bm := [0, 0, 0, 4, 12, 0, 63, 0, 255]) (fresh := (3)) (by kernel_rfl) (by simp only [jX, jO, jN, seval, y24, vint, qA, s2] <;> with_reducible rfl) (by decide) (by repeat (first | exact Fin.base _ | with_reducible apply Fin.keep | apply Fin.drop)) ?_
  repeat (refine awp_seq ?_)
  refine dp_draw (by kernel_rfl) ?_
  refine dp_take 1 (by simp only [jP, jO, jN, seval, y24, vint, qA, q1, q2] <;> with_reducible rfl) (by decide) ?_
  refine dp_keep (by simp only [jE, jN, seval, vint, qA, q1, q2] <;> with_reducible rfl) (by simp only [jE, jN, seval, vint, qA, q1, q2] <;> with_reducible rfl) (by simp only [jE, jN, seval, vint, qA, q1, q2]) (by decide) Trygo71 (fun hc => typK 4 0 [] _) ?_
  refine dp_take 1 (by simp only [jP, jO, jN, seval, y22, y24, vint, qA, q1, q2] <;> with_reducible rfl) (by decide) ?_
  refine dp_keep (by simp only [jE, jN, seval, vint, qA, q1, q2] <;> with_reducible rfl) (by simp only [jE, jN, seval, vint, qA, q1, q2] <;> with_reducible rfl) (by simp only [jE, jN, seval, vint, qA, q1, q2]) (by decide) Trygo71 (fun hc => typK 8 0 [.mk 4 0 []] _) ?_
  refine dp_keep (by simp only [jE, jN, seval, vint, qA, q1, q2] <;> with_reducible rfl) (by simp only [jE, jN, seval, vint, qA, q1, q2] <;> with_reducible rfl) (by simp only [jE, jN, seval, vint, qA, q1, q2]) (by decide) Trygo23 (fun hc => equal_any (.mk 8 0 [.mk 4 0 []]) (.mk 8 0 [.mk 4 0 []]) (by simp [Ty.W_iff]) _) ?_
  refine dp_take 3 (by simp only [jP, jO, jN, seval, y24, vint, qA, q1, q2] <;> with_reducible rfl) (by decide) ?_
  refine dp_keep (by simp only [jE, jN, seval, vint, qA, q1, q2] <;> with_reducible rfl) (by simp only [jE, jN, seval, vint, qA, q1, q2] <;> with_reducible rfl) (by simp only [jE, jN, seval, vint, qA, q1, q2]) (by decide) Trygo23 (fun hc => equal_any (.mk 10 1 [.mk 2 7 []]) (.mk 10 1 [.mk 2 7 []]) (by simp [Ty.W_iff]) _) ?_
  refine dp_end (by simp only [jP, jO, jN, seval, vint, qA, q1, q2] <;> with_reducible rfl) (by decide) (by repeat (first | exact Fin.base _ | with_reducible apply Fin.keep | apply Fin.drop)) ?_
  repeat (refine awp_seq ?_)
  refine awp_ret ⟨.inr rfl, _, rfl, ?_⟩
  simp only [jN, seval, vint, qA]

end Go.Abs
namespace Go.Abs
/-! The reference's normal forms, and how large normal forms grow. -/
section
variable (sy : List Sy) (ds : List Dc) (sas : List TB)
def rproj (f : Option (Ty → Ty × Bool)) (t : Ty) : Ty × Bool :=
  match t.args with
  | [a] =>
    if traitIx sy t.id < 0 then (t, false)
    else if (solveT ds sas 8 a (traitIx sy t.id)).2 = false ∨ (solveT ds sas 8 a (traitIx sy t.id)).1.im < 0 then (t, true)
    else match f with
      | none => (.zero, true)
      | some g => if memIx sy ds sas t.id a < 0 then (.zero, true) else g (projX sy ds sas t.id a)
  | _ => (t, false)
theorem rproj_one (f : Option (Ty → Ty × Bool)) (k i : Int) (a : Ty) : rproj sy ds sas f (.mk k i [a]) =
    if traitIx sy i < 0 then (.mk k i [a], false)
    else if (solveT ds sas 8 a (traitIx sy i)).2 = false ∨ (solveT ds sas 8 a (traitIx sy i)).1.im < 0 then (.mk k i [a], true)
    else match f with
      | none => (.zero, true)
      | some g => if memIx sy ds sas i a < 0 then (.zero, true) else g (projX sy ds sas i a) := rfl
def rnf (P : Ty → Ty × Bool) : Ty → Ty × Bool
  | .mk k i us => match (us.map fun u => rnf P u).find? (fun x => !x.2) with
    | some x => (x.1, false)
    | none => if k = 10 then P (.mk k i (us.map fun u => (rnf P u).1)) else (.mk k i (us.map fun u => (rnf P u).1), true)
theorem rnf_eq (P : Ty → Ty × Bool) (t : Ty) : rnf P t = match (t.args.map (rnf P)).find? (fun x => !x.2) with
    | some x => (x.1, false)
    | none => if t.kind = 10 then P (.mk t.kind t.id (t.args.map fun u => (rnf P u).1)) else (.mk t.kind t.id (t.args.map fun u => (rnf P u).1), true) := by
  cases t; rw [rnf]; rfl
theorem rnf_mk (P : Ty → Ty × Bool) (k i : Int) (us : List Ty) : rnf P (.mk k i us) = match (us.map (rnf P)).find? (fun x => !x.2) with
    | some x => (x.1, false)
    | none => if k = 10 then P (.mk k i (us.map fun u => (rnf P u).1)) else (.mk k i (us.map fun u => (rnf P u).1), true) := rnf_eq P (.mk k i us)
def rprojN : Nat → Ty → Ty × Bool
  | 0 => rproj sy ds sas none
  | d + 1 => rproj sy ds sas (some (rnf (rprojN d)))
/-- One says what the other says. -/
def Agree (x y : Ty × Bool) : Prop := (x.2 = false → y = (x.1, true)) ∧ (x.2 = true → y.2 = false)
variable {sy ds sas}
theorem rproj_agree {f g : Option (Ty → Ty × Bool)} (h : (f = none ∧ g = none) ∨ ∃ a b, f = some a ∧ g = some b ∧ ∀ u, Agree (a u) (b u)) (t : Ty) : Agree (projT sy ds sas f t) (rproj sy ds sas g t) := by
  obtain ⟨k, i, us⟩ := t
  match us with
  | [] => exact ⟨fun h => by simp [projT, Ty.args] at h, fun _ => rfl⟩
  | _ :: _ :: _ => exact ⟨fun h => by simp [projT, Ty.args] at h, fun _ => rfl⟩
  | [a] =>
    rw [projT_one, rproj_one]
    by_cases h1 : traitIx sy i < 0
    · rw [if_pos h1, if_pos h1]; exact ⟨fun h => by simp at h, fun _ => rfl⟩
    · rw [if_neg h1, if_neg h1]
      by_cases h2 : (solveT ds sas 8 a (traitIx sy i)).2 = false ∨ (solveT ds sas 8 a (traitIx sy i)).1.im < 0
      · rw [if_pos h2, if_pos h2]; exact ⟨fun _ => rfl, fun h => by simp at h⟩
      · rw [if_neg h2, if_neg h2]
        rcases h with ⟨rfl, rfl⟩ | ⟨a', b', rfl, rfl, hab⟩
        · exact ⟨fun _ => rfl, fun h => by simp at h⟩
        · simp only
          by_cases h3 : memIx sy ds sas i a < 0
          · rw [if_pos h3, if_pos h3]; exact ⟨fun _ => rfl, fun h => by simp at h⟩
          · rw [if_neg h3, if_neg h3]; exact hab _
theorem rnf_agree {P Q : Ty → Ty × Bool} (hP : ∀ t, Agree (P t) (Q t)) : ∀ t : Ty, Agree (normD P t) (rnf Q t)
  | .mk k i us => by
    have ih : ∀ u ∈ us, Agree (normD P u) (rnf Q u) := fun u hu => rnf_agree hP u
    rw [normD_mk, rnf_mk]
    by_cases hn : (us.any fun u => (normD P u).2) = true
    · rw [hn]
      obtain ⟨u, hu, hq⟩ := List.any_eq_true.1 hn
      have hfs : ∃ x, (us.map (rnf Q)).find? (fun x => !x.2) = some x := by
        rw [← Option.isSome_iff_exists, List.find?_isSome]
        exact ⟨rnf Q u, List.mem_map.2 ⟨u, hu, rfl⟩, by rw [(ih u hu).2 hq]; rfl⟩
      obtain ⟨x, hx⟩ := hfs
      rw [hx]
      refine ⟨fun h => ?_, fun _ => rfl⟩
      split at h <;> simp at h
    · have hn' : (us.any fun u => (normD P u).2) = false := by simpa using hn
      have hall : ∀ u ∈ us, rnf Q u = ((normD P u).1, true) := fun u hu => by
        rw [List.any_eq_false] at hn'
        exact (ih u hu).1 (by simpa using hn' u hu)
      have hf : (us.map (rnf Q)).find? (fun x => !x.2) = none := by
        rw [List.find?_eq_none]
        intro x hx
        obtain ⟨u, hu, rfl⟩ := List.mem_map.1 hx
        rw [hall u hu]; simp
      have hm : (us.map fun u => (rnf Q u).1) = us.map fun u => (normD P u).1 := List.map_congr_left fun u hu => by rw [hall u hu]
      rw [hf, hn', hm]
      simp only [Bool.false_or]
      by_cases hk : k = 10
      · rw [if_pos hk, if_pos hk]
        exact hP (.mk k i (us.map fun u => (normD P u).1))
      · rw [if_neg hk, if_neg hk]
        exact ⟨fun _ => rfl, fun h => by simp at h⟩
theorem rprojN_agree : ∀ (d : Nat) (t : Ty), Agree (projN sy ds sas d t) (rprojN sy ds sas d t)
  | 0, t => rproj_agree (.inl ⟨rfl, rfl⟩) t
  | d + 1, t => rproj_agree (.inr ⟨_, _, rfl, rfl, fun u => rnf_agree (rprojN_agree d) u⟩) t
theorem norm_agree (d : Nat) (t : Ty) : Agree (normD (projN sy ds sas d) t) (rnf (rprojN sy ds sas d) t) := rnf_agree (rprojN_agree d) t

theorem rprojN_bad {d : Nat} {t : Ty} (h : traitIx sy t.id < 0 ∨ t.args.length ≠ 1) : rprojN sy ds sas d t = (t, false) := by
  have key : ∀ f, rproj sy ds sas f t = (t, false) := fun f => by
    obtain ⟨k, i, us⟩ := t
    match us, h with
    | [], _ => rfl
    | _ :: _ :: _, _ => rfl
    | [a], h =>
      rw [rproj_one, if_pos]
      rcases h with h | h
      · exact h
      · exact (h rfl).elim
  cases d with
  | zero => exact key _
  | succ d => exact key _
theorem rprojN_rig {d : Nat} {t a : Ty} (ha : t.args = [a]) (h1 : ¬ traitIx sy t.id < 0) (h2 : (solveT ds sas 8 a (traitIx sy t.id)).2 = false ∨ (solveT ds sas 8 a (traitIx sy t.id)).1.im < 0) : rprojN sy ds sas d t = (t, true) := by
  have key : ∀ f, rproj sy ds sas f t = (t, true) := fun f => by
    obtain ⟨k, i, us⟩ := t
    simp only [Ty.args] at ha
    subst ha
    have h1 : ¬ traitIx sy i < 0 := h1
    rw [rproj_one, if_neg h1]
    exact if_pos h2
  cases d with
  | zero => exact key _
  | succ d => exact key _
theorem rprojN_none {d : Nat} {t a : Ty} (ha : t.args = [a]) (h1 : ¬ traitIx sy t.id < 0) (h2 : ¬ ((solveT ds sas 8 a (traitIx sy t.id)).2 = false ∨ (solveT ds sas 8 a (traitIx sy t.id)).1.im < 0)) (h3 : memIx sy ds sas t.id a < 0 ∨ d = 0) : rprojN sy ds sas d t = (.zero, true) := by
  obtain ⟨k, i, us⟩ := t
  simp only [Ty.args] at ha
  subst ha
  have h1 : ¬ traitIx sy i < 0 := h1
  have h2 : ¬ ((solveT ds sas 8 a (traitIx sy i)).2 = false ∨ (solveT ds sas 8 a (traitIx sy i)).1.im < 0) := h2
  cases d with
  | zero => rw [rprojN, rproj_one, if_neg h1, if_neg h2]
  | succ d =>
    rw [rprojN, rproj_one, if_neg h1, if_neg h2]
    rcases h3 with h3 | h3
    · exact if_pos h3
    · cases h3
theorem rprojN_step {d : Nat} {t a : Ty} (ha : t.args = [a]) (h1 : ¬ traitIx sy t.id < 0) (h2 : ¬ ((solveT ds sas 8 a (traitIx sy t.id)).2 = false ∨ (solveT ds sas 8 a (traitIx sy t.id)).1.im < 0)) (h3 : ¬ memIx sy ds sas t.id a < 0) : rprojN sy ds sas (d + 1) t = rnf (rprojN sy ds sas d) (projX sy ds sas t.id a) := by
  obtain ⟨k, i, us⟩ := t
  simp only [Ty.args] at ha
  subst ha
  have h1 : ¬ traitIx sy i < 0 := h1
  have h2 : ¬ ((solveT ds sas 8 a (traitIx sy i)).2 = false ∨ (solveT ds sas 8 a (traitIx sy i)).1.im < 0) := h2
  rw [rprojN, rproj_one, if_neg h1, if_neg h2]
  exact if_neg h3
theorem rnf_fail {P : Ty → Ty × Bool} {t : Ty} {i : Nat} (hi : i < t.args.length) (h : (t.args.take i).all (fun u => (rnf P u).2) = true) (hf : (rnf P t.args[i]).2 = false) : rnf P t = ((rnf P t.args[i]).1, false) := by
  have : (t.args.map (rnf P)).find? (fun x => !x.2) = some (rnf P t.args[i]) := by
    rw [List.find?_eq_some_iff_getElem]
    refine ⟨by simp [hf], i, by simpa using hi, by simp, fun j hj => ?_⟩
    have hm : t.args[j]'(by omega) ∈ t.args.take i := List.mem_take_iff_getElem.2 ⟨j, by omega, rfl⟩
    simp [List.all_eq_true.1 h _ hm]
  rw [rnf_eq, this]
theorem rnf_done {P : Ty → Ty × Bool} {t : Ty} (h : t.args.all (fun u => (rnf P u).2) = true) : rnf P t = if t.kind = 10 then P (.mk t.kind t.id (t.args.map fun u => (rnf P u).1)) else (.mk t.kind t.id (t.args.map fun u => (rnf P u).1), true) := by
  have : (t.args.map (rnf P)).find? (fun x => !x.2) = none := by
    rw [List.find?_eq_none]
    intro x hx
    obtain ⟨u, hu, rfl⟩ := List.mem_map.1 hx
    simp [List.all_eq_true.1 h u hu]
  rw [rnf_eq, this]
theorem rproj_W (c : NC) (hc : c.Ok) {f : Option (Ty → Ty × Bool)} (hf : ∀ g, f = some g → ∀ u, u.W → (g u).1.W) (t : Ty) (h : t.W) : (rproj c.r.syms c.ds c.sas f t).1.W := by
  obtain ⟨k, i, us⟩ := t
  match us, h with
  | [], h => exact h
  | _ :: _ :: _, h => exact h
  | [a], h =>
    have ha : a.W := h.arg (by simp [Ty.args])
    rw [rproj_one]
    split
    · exact h
    · split
      · exact h
      · rename_i h2
        cases f with
        | none => exact zero_W
        | some g =>
          simp only
          split
          · exact zero_W
          · rename_i h3
            refine hf g rfl _ ?_
            have hs := solve_W (ds := c.ds) (sas := c.sas) hc.hd 8 a (traitIx c.r.syms i) ha
            have h4 : idxI (memP (solveT c.ds c.sas 8 a (traitIx c.r.syms i)).1.im (c.r.syms.getD i.toNat .zero).name) c.r.syms ≥ 0 := by unfold memIx at h3; omega
            have h5 := idxI_lt h4
            have hm := idx_mem (ds := c.ds) (i := memIx c.r.syms c.ds c.sas i a) ⟨by omega, by rw [hc.len]; exact h5⟩
            exact app_W hs.el_args (hc.hd _ hm).1.st_t
theorem rnf_W {P : Ty → Ty × Bool} (hP : ∀ t, t.W → (P t).1.W) : ∀ t : Ty, t.W → (rnf P t).1.W
  | .mk k i us, h => by
    have ih : ∀ u ∈ us, (rnf P u).1.W := fun u hu => rnf_W hP u (((Ty.W_iff _ _ _).1 h).2 u hu)
    have hu : (Ty.mk k i (us.map fun u => (rnf P u).1)).W := by
      rw [Ty.W_iff, List.length_map]
      refine ⟨((Ty.W_iff _ _ _).1 h).1, fun u hu => ?_⟩
      obtain ⟨v, hv, rfl⟩ := List.mem_map.1 hu
      exact ih v hv
    rw [rnf_mk]
    split
    · rename_i x hx
      obtain ⟨u, hu, rfl⟩ := List.mem_map.1 (List.mem_of_find?_eq_some hx)
      exact ih u hu
    · split
      · exact hP _ hu
      · exact hu
theorem rprojN_W (c : NC) (hc : c.Ok) : ∀ (d : Nat) (t : Ty), t.W → (rprojN c.r.syms c.ds c.sas d t).1.W
  | 0, t, h => rproj_W c hc (f := none) (fun g e => by cases e) t h
  | d + 1, t, h => rproj_W c hc (f := some _) (fun g e u hu => by cases e; exact rnf_W (rprojN_W c hc d) u hu) t h
theorem rnorm_W (c : NC) (hc : c.Ok) (d : Nat) (t : Ty) (h : t.W) : (rnf (rprojN c.r.syms c.ds c.sas d) t).1.W := rnf_W (rprojN_W c hc d) t h
/-! Sizes. -/
def npr : Ty → Nat
  | .mk k i us => (if k = 10 then 1 else 0) + (us.map fun u => npr u).sum
theorem npr_eq (t : Ty) : npr t = (if t.kind = 10 then 1 else 0) + (t.args.map npr).sum := by cases t; rw [npr]; rfl
theorem npr_mk (k i : Int) (us : List Ty) : npr (.mk k i us) = (if k = 10 then 1 else 0) + (us.map npr).sum := npr_eq (.mk k i us)
theorem npr_le : ∀ t : Ty, npr t ≤ t.size
  | .mk k i us => by
    have h : ∀ us : List Ty, (∀ u ∈ us, npr u ≤ u.size) → (us.map npr).sum ≤ Ty.sizes us := by
      intro us
      induction us with
      | nil => intro _; simp [Ty.sizes]
      | cons u us ih =>
        intro h
        have := h u (List.mem_cons_self ..)
        have := ih fun v hv => h v (List.mem_cons_of_mem _ hv)
        simp only [List.map_cons, List.sum_cons, Ty.sizes]; omega
    have := h us fun u hu => npr_le u
    rw [npr_mk]
    simp only [Ty.size]
    by_cases hk : k = 10
    · rw [if_pos hk]; omega
    · rw [if_neg hk]; omega
mutual
inductive Sk (Q : Ty → Prop) : Nat → Nat → Ty → Prop
  | leaf {u : Ty} (h : Q u) : Sk Q 1 0 u
  | node {k i : Int} {us : List Ty} {n p : Nat} (h : SkL Q n p us) : Sk Q (n + 1) (p + if k = 10 then 1 else 0) (.mk k i us)
inductive SkL (Q : Ty → Prop) : Nat → Nat → List Ty → Prop
  | nil : SkL Q 0 0 []
  | cons {u : Ty} {us : List Ty} {n p m q : Nat} (h : Sk Q n p u) (t : SkL Q m q us) : SkL Q (n + m) (p + q) (u :: us)
end
def QN (sy : List Sy) (ds : List Dc) (sas : List TB) (s : Nat) (u : Ty) : Prop := NF sy ds sas u ∧ u.size ≤ s
mutual
theorem sk_nf {s : Nat} (hs : 1 ≤ s) : ∀ {n p : Nat} {u : Ty}, Sk (QN sy ds sas s) n p u → p = 0 → NF sy ds sas u ∧ u.size ≤ n * s
  | _, _, _, .leaf h, _ => ⟨h.1, by have := h.2; omega⟩
  | _, _, _, .node (k := k) (n := n) h, hp => by
    have hk : ¬ k = 10 := by intro e; rw [if_pos e] at hp; omega
    rw [if_neg hk] at hp
    obtain ⟨h1, h2⟩ := skL_nf hs h (by omega)
    refine ⟨.mk h1 fun e => (hk e).elim, ?_⟩
    simp only [Ty.size]
    have : (n + 1) * s = n * s + s := by rw [Nat.add_mul, Nat.one_mul]
    omega
theorem skL_nf {s : Nat} (hs : 1 ≤ s) : ∀ {n p : Nat} {us : List Ty}, SkL (QN sy ds sas s) n p us → p = 0 → (∀ u ∈ us, NF sy ds sas u) ∧ Ty.sizes us ≤ n * s
  | _, _, _, .nil, _ => ⟨by simp, by simp [Ty.sizes]⟩
  | _, _, _, .cons (n := n) (m := m) h t, hp => by
    obtain ⟨h1, h2⟩ := sk_nf hs h (by omega)
    obtain ⟨h3, h4⟩ := skL_nf hs t (by omega)
    refine ⟨fun u hu => ?_, ?_⟩
    · rcases List.mem_cons.1 hu with rfl | hu
      · exact h1
      · exact h3 u hu
    · simp only [Ty.sizes]
      have : (n + m) * s = n * s + m * s := by rw [Nat.add_mul]
      omega
end
/-- Subterms of normal forms are normal. -/
theorem NF.arg {t u : Ty} (h : NF sy ds sas t) (hu : u ∈ t.args) : NF sy ds sas u := by
  cases h with
  | mk h _ => exact h u hu
theorem matchL_all {Q : Ty → Prop} : ∀ (l : List (Ty × (Ty → MSt → Bool × MSt))) (s : MSt), (∀ a ∈ s.1, Q a) → (∀ x ∈ l, ∀ s : MSt, (∀ a ∈ s.1, Q a) → ∀ a ∈ (x.2 x.1 s).2.1, Q a) → ∀ a ∈ (matchL l s).2.1, Q a
  | [], s, h, _ => h
  | (a, f) :: r, s, h, hl => by
    have h1 := hl _ (List.mem_cons_self ..) s h
    unfold matchL
    split
    · exact matchL_all r _ h1 (fun x hx => hl x (List.mem_cons_of_mem _ hx))
    · exact h1
theorem matchT_all {Q : Ty → Prop} (hQ : ∀ t, Q t → ∀ u ∈ t.args, Q u) (ps : List Int) : ∀ (p t : Ty) (s : MSt), Q t → (∀ a ∈ s.1, Q a) → ∀ a ∈ (matchT ps t p s).2.1, Q a
  | .mk pk pi us, t, s, hw, h => by
    rw [matchT]
    split
    · split
      · exact h
      · intro a ha
        rcases List.mem_or_eq_of_mem_set ha with h' | h'
        · exact h a h'
        · exact h' ▸ hw
    · split
      · exact h
      · refine matchL_all _ _ h ?_
        rintro ⟨a, f⟩ hx s' hs'
        have hx1 := List.of_mem_zip hx
        obtain ⟨u, hu, rfl⟩ := List.mem_map.1 hx1.2
        exact matchT_all hQ ps u a s' (hQ t hw a hx1.1) hs'
theorem implAs_all {Q : Ty → Prop} (hQ : ∀ t, Q t → ∀ u ∈ t.args, Q u) (hz : Q .zero) {t : Ty} {tr : Int} (ht : Q t) : ∀ a ∈ implAs ds t tr, Q a := by
  unfold implAs
  split
  · unfold matchP
    split
    · refine matchT_all hQ _ _ _ _ ht fun a ha => ?_
      simp only [mS0] at ha
      rw [List.eq_of_mem_replicate ha]; exact hz
    · simp
  · simp
theorem solve_all {Q : Ty → Prop} (hQ : ∀ t, Q t → ∀ u ∈ t.args, Q u) (hz : Q .zero) {t : Ty} {tr : Int} (n : Nat) (ht : Q t) : ∀ a ∈ (solveT ds sas n t tr).1.args, Q a := by
  have h0 : ∀ a ∈ Pf.zero.args, Q a := by simp [Pf.zero, Pf.args]
  cases n with
  | zero => exact h0
  | succ n =>
    rw [solveT]
    split
    · exact h0
    · split
      · simp [Pf.args]
      · split
        · exact h0
        · split
          · exact implAs_all hQ hz ht
          · exact h0
theorem solve_arglen {t : Ty} {tr : Int} (n : Nat) (ht : t.W) (h : (solveT ds sas n t tr).2 = true) (h2 : 0 ≤ (solveT ds sas n t tr).1.im) : (solveT ds sas n t tr).1.args.length = (ds.getD (solveT ds sas n t tr).1.im.toNat .zero).ps.length := by
  cases n with
  | zero => simp [solveT] at h
  | succ n =>
    rw [solveT] at h h2 ⊢
    split at h
    · simp at h
    · rename_i h1
      rw [if_neg h1] at h2 ⊢
      split at h
      · rename_i h3; rw [if_pos h3] at h2; simp [Pf.im] at h2
      · rename_i h3
        rw [if_neg h3] at h2 ⊢
        split at h
        · simp at h
        · rename_i h4
          rw [if_neg h4] at h2 ⊢
          split at h
          · rename_i h5
            rw [if_pos h5] at h2 ⊢
            simp only [Pf.args, Pf.im] at h2 ⊢
            unfold implAs
            rw [if_pos h2]
            obtain ⟨hg, hp⟩ := implD_get (ds := ds) (t := t) (tr := tr) h2
            unfold implP at hp
            simp only [Bool.and_eq_true] at hp
            exact (match_apply _ _ _ ht hp.2).1
          · simp at h
mutual
theorem sk_of {Q : Ty → Prop} (ps : List Int) (xs : List Ty) (hx : ∀ x ∈ xs, Q x) (hz : Q .zero) : ∀ T : Ty, ∃ n p, n ≤ T.size ∧ p ≤ npr T ∧ Sk Q n p (mapT (appG ps xs) T)
  | .mk k i us => by
    rw [mapT_eq]
    split
    · refine ⟨1, 0, by simp [Ty.size], Nat.zero_le _, .leaf ?_⟩
      rename_i h
      unfold appG at h ⊢
      split at h
      · cases h
      · rename_i h'
        rw [if_neg h']
        simp only
        rw [List.getD_eq_getElem?_getD]
        cases hq : xs[(idxI (fun x => decide ((Ty.mk k i us).id = x)) ps).toNat]? with
        | none => exact hz
        | some a => exact hx a (List.mem_of_getElem? hq)
    · obtain ⟨n, p, h1, h2, h3⟩ := skL_of ps xs hx hz us
      refine ⟨n + 1, p + if k = 10 then 1 else 0, by simp only [Ty.size]; omega, ?_, .node h3⟩
      rw [npr_mk]; omega
theorem skL_of {Q : Ty → Prop} (ps : List Int) (xs : List Ty) (hx : ∀ x ∈ xs, Q x) (hz : Q .zero) : ∀ us : List Ty, ∃ n p, n ≤ Ty.sizes us ∧ p ≤ (us.map npr).sum ∧ SkL Q n p (us.map (mapT (appG ps xs)))
  | [] => ⟨0, 0, Nat.le_refl _, Nat.zero_le _, .nil⟩
  | u :: us => by
    obtain ⟨n, p, h1, h2, h3⟩ := sk_of ps xs hx hz u
    obtain ⟨m, q, h4, h5, h6⟩ := skL_of ps xs hx hz us
    exact ⟨n + m, p + q, by simp only [Ty.sizes]; omega, by simp only [List.map_cons, List.sum_cons]; omega, .cons h3 h6⟩
end
/-- A bound of sizes. -/
def gB : Nat → Nat → Nat
  | 0, s => 6 * s + 1
  | d + 1, s => 6 * s + gB d (6 * s)
theorem gB_pos (d s : Nat) : 1 ≤ gB d s := by
  cases d with
  | zero => simp [gB]
  | succ d => have := gB_pos d (6 * s); simp only [gB]; omega
theorem gB_mono : ∀ (d : Nat) {s s' : Nat}, s ≤ s' → gB d s ≤ gB d s'
  | 0, s, s', h => by simp only [gB]; omega
  | d + 1, s, s', h => by have := gB_mono d (s := 6 * s) (s' := 6 * s') (by omega); simp only [gB]; omega
def rB : Nat → Nat → Nat
  | 0, _ => 1
  | d + 1, s => gB d (6 * s)
theorem rB_pos (d s : Nat) : 1 ≤ rB d s := by cases d with | zero => simp [rB] | succ d => exact gB_pos _ _
theorem gB_eq (d s : Nat) : gB d s = 6 * s + rB d s := by cases d <;> rfl
structure DSm (ds : List Dc) : Prop where
  sz : ∀ d ∈ ds, d.t.size ≤ 6
  pr : ∀ d ∈ ds, npr d.t ≤ 1
theorem getD_sm {ds : List Dc} (h : DSm ds) (i : Nat) : (ds.getD i .zero).t.size ≤ 6 ∧ npr (ds.getD i .zero).t ≤ 1 := by
  rw [List.getD_eq_getElem?_getD]
  cases hq : ds[i]? with
  | none => simp [Dc.zero, Ty.size, Ty.sizes, npr]
  | some a => exact ⟨h.sz a (List.mem_of_getElem? hq), h.pr a (List.mem_of_getElem? hq)⟩
/-- A projection whose arguments are normal. -/
theorem proj_size (hd : DSm ds) {d s : Nat} (hs : 1 ≤ s) (ih : ∀ d', d = d' + 1 → ∀ s', 1 ≤ s' → ∀ n p u, n ≤ 6 → p ≤ 1 → Sk (QN sy ds sas s') n p u → (normD (projN sy ds sas d') u).2 = false → (normD (projN sy ds sas d') u).1.size ≤ n * s' + rB d' s')
    {n : Nat} {k i : Int} {us : List Ty} (hn : n + 1 ≤ 6) (h : SkL (QN sy ds sas s) n 0 us) (hok : (projN sy ds sas d (.mk k i us)).2 = false) : (projN sy ds sas d (.mk k i us)).1.size ≤ (n + 1) * s + rB d s := by
  obtain ⟨hnf, hsz⟩ := skL_nf hs h rfl
  have hr := rB_pos d s
  have he : (n + 1) * s = n * s + s := by rw [Nat.add_mul, Nat.one_mul]
  have hz : Ty.zero.size ≤ (n + 1) * s + rB d s := by simp only [Ty.zero, Ty.size, Ty.sizes]; omega
  match us, h, hnf, hsz with
  | [], _, _, _ => rw [projN_bad (.inr (by simp [Ty.args]))]; exact hz
  | _ :: _ :: _, _, _, _ => rw [projN_bad (.inr (by simp [Ty.args]))]; exact hz
  | [a], h, hnf, hsz =>
    by_cases h1 : traitIx sy i < 0
    · rw [projN_bad (.inl h1)]; exact hz
    · by_cases h2 : (solveT ds sas 8 a (traitIx sy i)).2 = false ∨ (solveT ds sas 8 a (traitIx sy i)).1.im < 0
      · rw [projN_rigid ⟨h1, h2⟩]
        simp only [Ty.size]; omega
      · by_cases h3 : memIx sy ds sas i a < 0 ∨ d = 0
        · rw [projN_none (t := .mk k i [a]) (a := a) (d := d) (sy := sy) (ds := ds) (sas := sas) rfl h1 h2 h3]; exact hz
        · obtain ⟨d', rfl⟩ : ∃ d', d = d' + 1 := ⟨d - 1, by omega⟩
          have hstep := projN_step (d := d') (t := .mk k i [a]) (a := a) (sy := sy) (ds := ds) (sas := sas) rfl h1 h2 (fun h => h3 (.inl h))
          rw [hstep] at hok ⊢
          have ha := hnf a (List.mem_cons_self ..)
          have hsa : a.size ≤ n * s := by simp only [Ty.sizes] at hsz; omega
          have ha1 : 1 ≤ a.size := by cases a; simp only [Ty.size]; omega
          have hQ : ∀ t, QN sy ds sas (n * s) t → ∀ u ∈ t.args, QN sy ds sas (n * s) u := fun t ht u hu => ⟨ht.1.arg hu, by have := Ty.size_arg hu; have := ht.2; omega⟩
          have hzQ : QN sy ds sas (n * s) .zero := ⟨.zero, by simp only [Ty.zero, Ty.size, Ty.sizes]; omega⟩
          have hargs := solve_all (ds := ds) (sas := sas) (tr := traitIx sy i) hQ hzQ 8 (show QN sy ds sas (n * s) a from ⟨ha, hsa⟩)
          obtain ⟨m, p, q1, q2, q3⟩ := sk_of (ds.getD (solveT ds sas 8 a (traitIx sy i)).1.im.toNat .zero).ps _ hargs hzQ (ds.getD (memIx sy ds sas i a).toNat .zero).t
          obtain ⟨c1, c2⟩ := getD_sm hd (memIx sy ds sas i a).toNat
          have := ih d' rfl (n * s) (by omega) m p _ (by omega) (by omega) q3 hok
          refine Nat.le_trans this ?_
          have hm : m * (n * s) ≤ 6 * (n * s) := Nat.mul_le_mul_right _ (by omega)
          have hns : n * s ≤ 6 * s := Nat.mul_le_mul_right _ (by omega)
          have hg := gB_mono d' (s := n * s) (s' := 6 * s) hns
          rw [gB_eq d' (n * s)] at hg
          have e2 : rB (d' + 1) s = gB d' (6 * s) := rfl
          rw [e2]
          omega
mutual
theorem sk_size (hd : DSm ds) {d s : Nat} (hs : 1 ≤ s) (ih : ∀ d', d = d' + 1 → ∀ s', 1 ≤ s' → ∀ n p u, n ≤ 6 → p ≤ 1 → Sk (QN sy ds sas s') n p u → (normD (projN sy ds sas d') u).2 = false → (normD (projN sy ds sas d') u).1.size ≤ n * s' + rB d' s') :
    ∀ {n p : Nat} {u : Ty}, Sk (QN sy ds sas s) n p u → n ≤ 6 → p ≤ 1 → (normD (projN sy ds sas d) u).2 = false → (normD (projN sy ds sas d) u).1.size ≤ n * s + p * rB d s
  | _, _, _, .leaf h, _, _, _ => by rw [nf_norm d _ h.1]; have := h.2; simp only; omega
  | _, _, _, .node (k := k) (i := i) (us := us) (n := n) (p := p) h, hn, hp, hok => by
    have he : (n + 1) * s = n * s + s := by rw [Nat.add_mul, Nat.one_mul]
    rw [normD_mk] at hok ⊢
    by_cases hk : k = 10
    · rw [if_pos hk] at hok ⊢
      rw [if_pos hk] at hp
      have hp0 : p = 0 := by omega
      subst hp0
      obtain ⟨hnf, _⟩ := skL_nf hs h rfl
      have hm : (us.map fun u => (normD (projN sy ds sas d) u).1) = us := by
        rw [List.map_congr_left (g := fun u => u) (fun u hu => by rw [nf_norm d u (hnf u hu)])]; simp
      rw [hm] at hok ⊢
      simp only [Bool.or_eq_false_iff] at hok
      have := proj_size hd hs ih hn h hok.2
      simp only [if_pos hk, Nat.zero_add, Nat.one_mul]
      exact this
    · rw [if_neg hk] at hok ⊢
      have := skL_size hd hs ih h (by omega) (by rw [if_neg hk] at hp; omega) hok
      simp only [Ty.size, if_neg hk, Nat.add_zero]
      omega
theorem skL_size (hd : DSm ds) {d s : Nat} (hs : 1 ≤ s) (ih : ∀ d', d = d' + 1 → ∀ s', 1 ≤ s' → ∀ n p u, n ≤ 6 → p ≤ 1 → Sk (QN sy ds sas s') n p u → (normD (projN sy ds sas d') u).2 = false → (normD (projN sy ds sas d') u).1.size ≤ n * s' + rB d' s') :
    ∀ {n p : Nat} {us : List Ty}, SkL (QN sy ds sas s) n p us → n ≤ 6 → p ≤ 1 → (us.any fun u => (normD (projN sy ds sas d) u).2) = false → Ty.sizes (us.map fun u => (normD (projN sy ds sas d) u).1) ≤ n * s + p * rB d s
  | _, _, _, .nil, _, _, _ => by simp [Ty.sizes]
  | _, _, _, .cons (n := n) (p := p) (m := m) (q := q) h t, hn, hp, hok => by
    simp only [List.any_cons, Bool.or_eq_false_iff] at hok
    have h1 := sk_size hd hs ih h (by omega) (by omega) hok.1
    have h2 := skL_size hd hs ih t (by omega) (by omega) hok.2
    simp only [List.map_cons, Ty.sizes]
    have e1 : (n + m) * s = n * s + m * s := by rw [Nat.add_mul]
    have e2 : (p + q) * rB d s = p * rB d s + q * rB d s := by rw [Nat.add_mul]
    omega
end
theorem sk_bound (hd : DSm ds) : ∀ (d s : Nat), 1 ≤ s → ∀ n p u, n ≤ 6 → p ≤ 1 → Sk (QN sy ds sas s) n p u → (normD (projN sy ds sas d) u).2 = false → (normD (projN sy ds sas d) u).1.size ≤ n * s + rB d s := by
  intro d
  induction d with
  | zero =>
    intro s hs n p u hn hp h hok
    have := sk_size hd hs (d := 0) (fun d' e => by cases e) h hn hp hok
    have : p * rB 0 s ≤ 1 * rB 0 s := Nat.mul_le_mul_right _ hp
    omega
  | succ d ih =>
    intro s hs n p u hn hp h hok
    have := sk_size hd hs (d := d + 1) (fun d' e => by cases e; exact ih) h hn hp hok
    have : p * rB (d + 1) s ≤ 1 * rB (d + 1) s := Nat.mul_le_mul_right _ hp
    omega
mutual
theorem sk_plain {Q : Ty → Prop} : ∀ T : Ty, Sk Q T.size (npr T) T
  | .mk k i us => by
    have h := skL_plain (Q := Q) us
    have e : npr (.mk k i us) = (us.map npr).sum + if k = 10 then 1 else 0 := by rw [npr_mk]; omega
    have e2 : (Ty.mk k i us).size = Ty.sizes us + 1 := by simp only [Ty.size]; omega
    rw [e, e2]
    exact .node h
theorem skL_plain {Q : Ty → Prop} : ∀ us : List Ty, SkL Q (Ty.sizes us) (us.map npr).sum us
  | [] => .nil
  | u :: us => .cons (sk_plain u) (skL_plain us)
end
/-- A normal form's size. -/
theorem norm_size (hd : DSm ds) (t : Ty) (h6 : t.size ≤ 6) (h1 : npr t ≤ 1) (hok : (normD (projN sy ds sas 8) t).2 = false) : (normD (projN sy ds sas 8) t).1.size ≤ 4294967296 := by
  have := sk_bound (sy := sy) (sas := sas) hd 8 1 (Nat.le_refl _) _ _ t h6 h1 (sk_plain t) hok
  simp only [rB, gB] at this
  omega
end
end Go.Abs
set_option maxRecDepth 4000
namespace Go.Abs
open Go.Proofs

theorem cloneTB (H : Heap) (id : Nat) (xs : List TB) (hid : H[id]? = some .unborn) (hx : xs.length * 48 ≤ 2 ^ 47) : ACalls Try.prog 51 [.slice (xs.map TB.enc) .none] H fun r' H' => r' = .slice (xs.map TB.enc) (.tok id) ∧ H' = H.set id (.buf xs.length 4) := by
  have em : maxLen = 9223372036854775807 := by decide
  have happ : xs.map TB.enc ≠ [] → ∀ fr HH, aappend ⟨true, 4, 48⟩ fr HH (.slice [] .full) (.slice (xs.map TB.enc) .none) = some (.slice (xs.map TB.enc) (.tok fr), some (fr, .buf xs.length 4)) := fun hne fr HH => by
    have := aappend_all (i := ⟨true, 4, 48⟩) (fresh := fr) (H := HH) (tl := .none) hne (by simpa using hx) (by simp; omega) (fun e he => by obtain ⟨v, _, rfl⟩ := List.mem_map.1 he; exact ⟨v.enc_len, by rw [TB.enc_cells]; rfl⟩) (by decide)
    simpa using this
  refine acalls_of (N := 8) Try.func51 rfl rfl (by simp) fun hb' => ?_
  repeat (refine awp_seq ?_)
  refine e_eval (by simp only [jA, jO, jN, seval, vint, qT] <;> with_reducible rfl) (by decide) ?_
  repeat (refine awp_seq ?_)
  refine awp_region ?_
  refine e_take 1 (by simp only [jA, jO, jN, seval, vint, qT] <;> with_reducible rfl) (by decide) ?_
  refine aops_nilcmp (es := xs.map TB.enc) (tl := .none) rfl (by simp only [jC, jN, seval, vint, qT] <;> rfl) rfl (by decide) (by rw [Tryte60]; rfl) (fun b hb => ?_)
  refine aops_nil ?_
  repeat (refine awp_seq ?_)
  refine awp_cond rfl (by simp only [jN, seval, vint, qT] <;> with_reducible rfl) (fun b0 => ?_) (fun b0 => ?_)
  ·
    have hxs : xs = [] := by
      cases xs with
      | nil => rfl
      | cons a l => rw [hb (by simp)] at b0; cases b0
    subst hxs
    repeat (refine awp_seq ?_)
    refine e_eval (by simp only [jA, jO, jN, seval, vint, qT] <;> with_reducible rfl) (by decide) ?_
    repeat (refine awp_seq ?_)
    refine awp_retokF id 2 4 (es := []) hid (by simp only [jC, jN, seval, vint, qT] <;> rfl) ?_
    refine awp_ret ⟨.inr rfl, _, rfl, ?_⟩
    exact ⟨rfl, rfl⟩
  ·
    repeat (refine awp_seq ?_)
    refine awp_skip ?_
    rcases Classical.em (xs = []) with hxs | hxs
    ·
      subst hxs
      repeat (refine awp_seq ?_)
      refine e_eval (by simp only [jA, jO, jN, seval, y60, y74, vint, qT, List.map_nil, aappend] <;> with_reducible rfl) (by decide) ?_
      repeat (refine awp_seq ?_)
      refine awp_retokF id 2 4 (es := []) hid (by simp only [jC, jN, seval, vint, qT] <;> rfl) ?_
      refine awp_ret ⟨.inr rfl, _, rfl, ?_⟩
      exact ⟨rfl, rfl⟩
    ·
      have ha := happ (by simpa using hxs)
      repeat (refine awp_seq ?_)
      refine awp_region ?_
      refine e_take 2 (by simp only [jA, jO, jN, seval, y60, y74, vint, qT, ha] <;> with_reducible rfl) (by decide) ?_
      refine aops_opF false id hid rfl (by decide) (v := .slice (xs.map TB.enc) (.tok id)) (e := some (id, .buf xs.length 4)) (by simp only [jN, seval, vint, qT, ha, aop, abuiltin, Tryti60, Tryte60] <;> rfl) rfl ?_
      refine e_end (by simp only [jA, jO, jN, seval, vint, qT, ha] <;> with_reducible rfl) (by decide) ?_
      repeat (refine awp_seq ?_)
      refine awp_ret ⟨.inr rfl, _, rfl, ?_⟩
      exact ⟨rfl, rfl⟩

theorem typesEq_k : ∀ (k : Nat) (a b : Ty), a.size ≤ k → a.W → PC Try.prog 38 [a.enc, b.enc] (.bool (a.eqb b))
  | 0, a, b, h, _ => by cases a; simp [Ty.size] at h
  | k + 1, a, b, h, hw => by
    refine pc_of (N := 46) Try.func38 rfl rfl (by simp) (by simp [Ty.bel]) (.bool _) ?_
    repeat (refine awp_seq ?_)
    refine e_eval (by simp only [jA, jO, jN, seval, y24, vint, qT] <;> with_reducible rfl) (by decide) ?_
    repeat (refine awp_seq ?_)
    refine g_eval (by simp only [jG, jO, jN, seval, y3, y22, y24, vint, qT] <;> with_reducible rfl) (by decide) (by repeat (first | exact Fin.base _ | with_reducible apply Fin.keep | apply Fin.drop)) ?_
    repeat (refine awp_seq ?_)
    refine awp_cond rfl (by simp only [jN, seval, vint, qT] <;> with_reducible rfl) (fun bt26 => ?_) (fun bt26 => ?_)
    ·
      have hf : a.eqb b = false := by
        cases hq : a.eqb b with
        | false => rfl
        | true => have := (Ty.eqb_iff a b).1 hq; subst this; simp at bt26
      refine awp_sel [] (by simp only [jN, seval, vint, qT] <;> with_reducible rfl) ?_
      repeat (refine awp_seq ?_)
      refine e_eval (by simp only [jA, jO, jN, seval, vint, qT] <;> with_reducible rfl) (by decide) ?_
      repeat (refine awp_seq ?_)
      refine awp_ret ⟨.inr rfl, _, rfl, ?_⟩
      first | (rw [hf]; rfl) | (rw [ht]; rfl)
    ·
      have hq : a.kind = b.kind ∧ a.id = b.id ∧ (a.args.length : Int) = b.args.length := by simp at bt26; omega
      have hlen : a.args.length = b.args.length := by omega
      repeat (refine awp_seq ?_)
      refine awp_skip ?_
      refine awp_sel [2, 3] (by simp only [jN, seval, vint, qT] <;> with_reducible rfl) ?_
      repeat (refine awp_seq ?_)
      refine e_eval (by simp only [jA, jO, jN, seval, y22, y24, vint, qT] <;> with_reducible rfl) (by decide) ?_
      repeat (refine awp_seq ?_)
      refine awp_forS (σ := Unit) (a.args.length) (fun (s : Unit) => [(2, .optr 0 0), (3, .optr 1 0)]) [2, 3] ([]) (fun (s : Unit) => [.row a.enc.cells, .row b.enc.cells]) (fun (i : Nat) (s : Unit) => ((a.args.zip b.args).take i).all (fun p => p.1.eqb p.2) = true) (()) ([]) rfl rfl rfl rfl rfl rfl rfl rfl rfl (by decide) (by decide) (by decide) (fun _ => rfl) (hw.lenMax) ⟨(by first | rfl | (simp only [jN, seval, vint, qT] <;> first | done | with_reducible rfl)), (by first | rfl | (simp only [jN, seval, vint, qT] <;> first | done | with_reducible rfl)), (by first | rfl | (simp only [jN, seval, vint, qT] <;> first | done | with_reducible rfl)), (by first | rfl | (simp only [jN, seval, vint, qT] <;> first | done | with_reducible rfl)), trivial⟩ (by first | rfl | (simp only [jN, seval, vint, qT] <;> first | done | with_reducible rfl)) (by simp) (fun _ _ _ => by first | exact Nat.zero_le _ | (simp only [List.length_append]; omega)) ?_ ?_ ?_
      · exact fun i s hg => ⟨by simp only [TyS, List.nil_append]; repeat (first | exact hbel_nil _ | exact trivial | exact obel_row_nil _ | (refine HBel.cons ?_ ?_) | (refine obel_row_cons (by first | exact bel_TB _ _ | exact TB.bel _ _ | exact bel_Dc _ _ | exact Dc.bel _ _ | exact Pf.bel _ _ | exact bel_Pf _ _ | exact Sv.bel _ _ | exact bel_Pf_tok _ (by simp) | exact bel_ints0 _ _ | exact bel_slice_ty _ _ | exact Ty.bel _ _ | exact bel_ty_tok _ (by simp) | exact Bel.int _ _ | exact Bel.bool _ | exact Bel.str _ | exact Bel.nilp | exact Bel.nilfn | exact Bel.optr _ _ (by simp) | exact bel_nil0 _ | exact bel_nil1 _ | exact bel_fn0 _ _ | assumption) ?_)), by repeat (first | exact BelL.nil | refine BelL.cons (by first | exact bel_TB _ _ | exact TB.bel _ _ | exact bel_Dc _ _ | exact Dc.bel _ _ | exact Pf.bel _ _ | exact bel_Pf _ _ | exact Sv.bel _ _ | exact bel_Pf_tok _ (by simp) | exact bel_ints0 _ _ | exact bel_slice_ty _ _ | exact Ty.bel _ _ | exact bel_ty_tok _ (by simp) | exact Bel.int _ _ | exact Bel.bool _ | exact Bel.str _ | exact Bel.nilp | exact Bel.nilfn | exact Bel.optr _ _ (by simp) | exact bel_nil0 _ | exact bel_nil1 _ | exact bel_fn0 _ _ | assumption) ?_)⟩
      · intro i s hi hg
        have g1 := ix_nat hi
        have hi2 : i < b.args.length := by omega
        have g3 := ix_nat hi2
        have g2 := get_enc Ty.enc hi
        have g4 := get_enc Ty.enc hi2
        have hmem : a.args[i] ∈ a.args := List.getElem_mem hi
        have hsa := Ty.size_arg hmem
        repeat (refine awp_seq ?_)
        refine e_eval (by simp only [jA, jO, jN, seval, vint, qT, g1, Int.toNat_natCast, g2, g3, g4] <;> with_reducible rfl) (by decide) ?_
        repeat (refine awp_seq ?_)
        refine awp_draw 0 (by kernel_rfl) ?_
        refine d_take (bm := [0, 1, 0, 7, 15, 0, 32, 0, 224, 480, 1023, 2047]) 10 (fresh := 0) (by kernel_rfl) (by simp only [jD, jO, jN, seval, y22, y24, vint, qT, g1, Int.toNat_natCast, g2, g3, g4] <;> with_reducible rfl) (by decide) (by decide) ?_
        refine dops_keep (bm := [0, 1, 0, 7, 15, 0, 32, 0, 224, 480, 1023, 2047]) ([]) (by kernel_rfl) (by simp only [jC, jN, seval, vint, qT, g1, Int.toNat_natCast, g2, g3, g4] <;> with_reducible rfl) (by simp only [jC, jN, seval, vint, qT, g1, Int.toNat_natCast, g2, g3, g4]) (by decide) Trygo38 (fun H' _ => typesEq_k k a.args[i] b.args[i] (by omega) (hw.arg hmem) H') (by simp only [jD, jO, jN, seval, vint, qT, g1, Int.toNat_natCast, g2, g3, g4] <;> first | done | rfl) ?_
        refine d_end (bm := [0, 1, 0, 7, 15, 0, 32, 0, 224, 480, 1023, 2047]) (fresh := 0) (by kernel_rfl) (by simp only [jD, jO, jN, seval, vint, qT, g1, Int.toNat_natCast, g2, g3, g4] <;> with_reducible rfl) (by decide) ?_
        repeat (refine awp_seq ?_)
        refine awp_cond rfl (by simp only [jN, seval, vint, qT, g1, Int.toNat_natCast, g2, g3, g4] <;> with_reducible rfl) (fun bt44 => ?_) (fun bt44 => ?_)
        ·
          have hf : a.eqb b = false := by
            cases hq : a.eqb b with
            | false => rfl
            | true => have := (Ty.eqb_iff a b).1 hq; subst this; simp [Ty.eqb_self] at bt44
          repeat (refine awp_seq ?_)
          refine e_eval (by simp only [jA, jO, jN, seval, vint, qT, g1, Int.toNat_natCast, g2, g3, g4] <;> with_reducible rfl) (by decide) ?_
          repeat (refine awp_seq ?_)
          refine awp_ret ⟨.inr rfl, _, rfl, ?_⟩
          first | (rw [hf]; rfl) | (rw [ht]; rfl)
        ·
          repeat (refine awp_seq ?_)
          refine awp_skip ?_
          have hgt : a.args[i].eqb b.args[i] = true := by simpa using bt44
          exact ⟨⟨rfl, rfl, trivial⟩, (), [], ⟨rfl, rfl, trivial⟩, by simp only [jN, seval, vint, qT] <;> rfl, all_take_succ (by simp; omega) hg (by simpa using hgt)⟩
      · intro s hg
        rw [List.take_of_length_le (by simp; omega)] at hg
        have ht : a.eqb b = true := by
          rw [Ty.eqb_eq, eqbs_all2, decide_eq_true hq.1, decide_eq_true hq.2.1]
          simp [all2, hlen, hg]
        repeat (refine awp_seq ?_)
        refine e_eval (by simp only [jA, jO, jN, seval, vint, qT] <;> with_reducible rfl) (by decide) ?_
        repeat (refine awp_seq ?_)
        refine awp_ret ⟨.inr rfl, _, rfl, ?_⟩
        first | (rw [hf]; rfl) | (rw [ht]; rfl)

theorem typeLists_self (us : List Ty) (h1 : us.length * 40 ≤ 2 ^ 47) (h2 : ∀ u ∈ us, u.W) : PC Try.prog 101 [.slice (us.map Ty.enc) .none, .slice (us.map Ty.enc) .none] (.bool true) := by
  have hs := Ty.eqb_self (Ty.mk 0 0 us)
  refine pc_of (N := 10) Try.func101 rfl rfl (by simp) (by simp [bel_slice_ty]) (.bool _) ?_
  repeat (refine awp_seq ?_)
  refine e_eval (by simp only [jA, jO, jN, seval, vint, qT] <;> with_reducible rfl) (by decide) ?_
  repeat (refine awp_seq ?_)
  refine awp_region ?_
  refine e_take 4 (by simp only [jA, jO, jN, seval, y24, vint, qT] <;> with_reducible rfl) (by decide) ?_
  refine aops_pure (by simp only [jC, jN, seval, vint, qT] <;> with_reducible rfl) (by simp only [jC, jN, seval, vint, qT]) (by decide) Trygo38 (typesEq_k _ (Ty.mk 0 0 us) (Ty.mk 0 0 us) (Nat.le_refl _) ((Ty.W_iff _ _ _).2 ⟨h1, h2⟩) _) ?_
  refine e_end (by simp only [jA, jO, jN, seval, vint, qT] <;> with_reducible rfl) (by decide) ?_
  repeat (refine awp_seq ?_)
  refine awp_ret ⟨.inr rfl, _, rfl, ?_⟩
  simp only [jN, seval, vint, qT, hs]

theorem proofs_self : ∀ (k : Nat) (a : Pf), a.size ≤ k → a.W → PC Try.prog 47 [a.enc, a.enc] (.bool true)
  | 0, a, h, _ => by cases a; simp [Pf.size] at h
  | k + 1, a, h, hw => by
    have hs := Ty.eqb_self a.t
    refine pc_of (N := 69) Try.func47 rfl rfl (by simp) (by simp [Pf.bel]) (.bool _) ?_
    repeat (refine awp_seq ?_)
    refine e_eval (by simp only [jA, jO, jN, seval, y63, vint, qT, Bool.not_true, decide_true, Bool.or_false, Bool.or_self] <;> with_reducible rfl) (by decide) ?_
    repeat (refine awp_seq ?_)
    refine awp_region ?_
    refine aops_gstart ?_
    refine g_take 4 (by simp only [jG, jO, jN, seval, y24, y63, vint, qT, Bool.not_true, decide_true, Bool.or_false, Bool.or_self, hs] <;> with_reducible rfl) (by decide) ?_
    refine aops_gpure (by simp only [jE, jN, seval, vint, qT, Bool.not_true, decide_true, Bool.or_false, Bool.or_self, hs] <;> with_reducible rfl) (by simp only [jE, jN, seval, vint, qT, Bool.not_true, decide_true, Bool.or_false, Bool.or_self, hs] <;> with_reducible rfl) (by simp only [jE, jN, seval, vint, qT, Bool.not_true, decide_true, Bool.or_false, Bool.or_self, hs]) (by decide) Trygo38 (fun hc => typesEq_k _ a.t a.t (Nat.le_refl _) hw.st_t _) ?_
    refine g_take 27 (by simp only [jG, jO, jN, seval, y3, y22, y24, y63, vint, qT, Bool.not_true, decide_true, Bool.or_false, Bool.or_self, hs] <;> with_reducible rfl) (by decide) ?_
    refine aops_gpure (by simp only [jE, jN, seval, vint, qT, Bool.not_true, decide_true, Bool.or_false, Bool.or_self, hs] <;> with_reducible rfl) (by simp only [jE, jN, seval, vint, qT, Bool.not_true, decide_true, Bool.or_false, Bool.or_self, hs] <;> with_reducible rfl) (by simp only [jE, jN, seval, vint, qT, Bool.not_true, decide_true, Bool.or_false, Bool.or_self, hs]) (by decide) Trygo101 (fun hc => typeLists_self a.args hw.len_args hw.el_args _) ?_
    refine g_end (by simp only [jG, jO, jN, seval, y3, y61, y63, vint, qT, Bool.not_true, decide_true, Bool.or_false, Bool.or_self, hs] <;> with_reducible rfl) (by decide) (by repeat (first | exact Fin.base _ | with_reducible apply Fin.keep | apply Fin.drop)) ?_
    repeat (refine awp_seq ?_)
    refine awp_cond_false rfl (by simp only [jN, seval, vint, qT, Bool.not_true, decide_true, Bool.or_false, Bool.or_self] <;> with_reducible rfl) ?_
    repeat (refine awp_seq ?_)
    refine awp_skip ?_
    refine awp_sel [2, 3] (by simp only [jN, seval, vint, qT, Bool.not_true, decide_true, Bool.or_false, Bool.or_self] <;> with_reducible rfl) ?_
    repeat (refine awp_seq ?_)
    refine e_eval (by simp only [jA, jO, jN, seval, y61, y63, vint, qT, Bool.not_true, decide_true, Bool.or_false, Bool.or_self] <;> with_reducible rfl) (by decide) ?_
    repeat (refine awp_seq ?_)
    refine awp_forS (σ := Unit) (a.prems.length) (fun (s : Unit) => [(2, .optr 0 0), (3, .optr 1 0)]) [2, 3] ([]) (fun (s : Unit) => [.row a.enc.cells, .row a.enc.cells]) (fun (i : Nat) (s : Unit) => True) (()) ([]) rfl rfl rfl rfl rfl rfl rfl rfl rfl (by decide) (by decide) (by decide) (fun _ => rfl) (hw.max_prems) ⟨(by first | rfl | (simp only [jN, seval, vint, qT, Bool.not_true, decide_true, Bool.or_false, Bool.or_self] <;> first | done | with_reducible rfl)), (by first | rfl | (simp only [jN, seval, vint, qT, Bool.not_true, decide_true, Bool.or_false, Bool.or_self] <;> first | done | with_reducible rfl)), (by first | rfl | (simp only [jN, seval, vint, qT, Bool.not_true, decide_true, Bool.or_false, Bool.or_self] <;> first | done | with_reducible rfl)), (by first | rfl | (simp only [jN, seval, vint, qT, Bool.not_true, decide_true, Bool.or_false, Bool.or_self] <;> first | done | with_reducible rfl)), trivial⟩ (by first | rfl | (simp only [jN, seval, vint, qT, Bool.not_true, decide_true, Bool.or_false, Bool.or_self] <;> first | done | with_reducible rfl)) (by simp) (fun _ _ _ => by first | exact Nat.zero_le _ | (simp only [List.length_append]; omega)) ?_ ?_ ?_
    · exact fun i s hg => ⟨by simp only [PfS, List.nil_append]; repeat (first | exact hbel_nil _ | exact trivial | exact obel_row_nil _ | (refine HBel.cons ?_ ?_) | (refine obel_row_cons (by first | exact bel_TB _ _ | exact TB.bel _ _ | exact bel_Dc _ _ | exact Dc.bel _ _ | exact Pf.bel _ _ | exact bel_Pf _ _ | exact Sv.bel _ _ | exact bel_Pf_tok _ (by simp) | exact bel_ints0 _ _ | exact bel_slice_ty _ _ | exact Ty.bel _ _ | exact bel_ty_tok _ (by simp) | exact Bel.int _ _ | exact Bel.bool _ | exact Bel.str _ | exact Bel.nilp | exact Bel.nilfn | exact Bel.optr _ _ (by simp) | exact bel_nil0 _ | exact bel_nil1 _ | exact bel_fn0 _ _ | assumption) ?_)), by repeat (first | exact BelL.nil | refine BelL.cons (by first | exact bel_TB _ _ | exact TB.bel _ _ | exact bel_Dc _ _ | exact Dc.bel _ _ | exact Pf.bel _ _ | exact bel_Pf _ _ | exact Sv.bel _ _ | exact bel_Pf_tok _ (by simp) | exact bel_ints0 _ _ | exact bel_slice_ty _ _ | exact Ty.bel _ _ | exact bel_ty_tok _ (by simp) | exact Bel.int _ _ | exact Bel.bool _ | exact Bel.str _ | exact Bel.nilp | exact Bel.nilfn | exact Bel.optr _ _ (by simp) | exact bel_nil0 _ | exact bel_nil1 _ | exact bel_fn0 _ _ | assumption) ?_)⟩
    · intro i s hi hg
      have g1 := ix_nat hi
      have g2 := get_enc Pf.enc hi
      have hmem : a.prems[i] ∈ a.prems := List.getElem_mem hi
      have hsa := Pf.size_prems hmem
      repeat (refine awp_seq ?_)
      refine e_eval (by simp only [jA, jO, jN, seval, vint, qT, Bool.not_true, decide_true, Bool.or_false, Bool.or_self, g1, Int.toNat_natCast, g2] <;> with_reducible rfl) (by decide) ?_
      repeat (refine awp_seq ?_)
      refine awp_draw 0 (by kernel_rfl) ?_
      refine d_take (bm := [0, 1, 0, 7, 15, 0, 32, 0, 224, 480, 1023, 2047]) 10 (fresh := 0) (by kernel_rfl) (by simp only [jD, jO, jN, seval, y61, y63, vint, qT, Bool.not_true, decide_true, Bool.or_false, Bool.or_self, g1, Int.toNat_natCast, g2] <;> with_reducible rfl) (by decide) (by decide) ?_
      refine dops_keep (bm := [0, 1, 0, 7, 15, 0, 32, 0, 224, 480, 1023, 2047]) ([]) (by kernel_rfl) (by simp only [jC, jN, seval, vint, qT, Bool.not_true, decide_true, Bool.or_false, Bool.or_self, g1, Int.toNat_natCast, g2] <;> with_reducible rfl) (by simp only [jC, jN, seval, vint, qT, Bool.not_true, decide_true, Bool.or_false, Bool.or_self, g1, Int.toNat_natCast, g2]) (by decide) Trygo47 (fun H' _ => proofs_self k a.prems[i] (by omega) (hw.prems hmem) H') (by simp only [jD, jO, jN, seval, vint, qT, Bool.not_true, decide_true, Bool.or_false, Bool.or_self, g1, Int.toNat_natCast, g2] <;> first | done | rfl) ?_
      refine d_end (bm := [0, 1, 0, 7, 15, 0, 32, 0, 224, 480, 1023, 2047]) (fresh := 0) (by kernel_rfl) (by simp only [jD, jO, jN, seval, vint, qT, Bool.not_true, decide_true, Bool.or_false, Bool.or_self, g1, Int.toNat_natCast, g2] <;> with_reducible rfl) (by decide) ?_
      repeat (refine awp_seq ?_)
      refine awp_cond_false rfl (by simp only [jN, seval, vint, qT, Bool.not_true, decide_true, Bool.or_false, Bool.or_self, g1, Int.toNat_natCast, g2] <;> with_reducible rfl) ?_
      repeat (refine awp_seq ?_)
      refine awp_skip ?_
      exact ⟨⟨rfl, rfl, trivial⟩, (), [], ⟨rfl, rfl, trivial⟩, by simp only [jN, seval, vint, qT] <;> rfl, trivial⟩
    · intro s hg
      repeat (refine awp_seq ?_)
      refine e_eval (by simp only [jA, jO, jN, seval, vint, qT, Bool.not_true, decide_true, Bool.or_false, Bool.or_self] <;> with_reducible rfl) (by decide) ?_
      repeat (refine awp_seq ?_)
      refine awp_ret ⟨.inr rfl, _, rfl, ?_⟩
      rfl

end Go.Abs
namespace Go.Abs
/-! The reference's matching. -/
def pidx (ps : List Int) (t : Ty) : Int := if t.kind = 2 then idxI (fun x => decide (t.id = x)) ps else -1
abbrev Occ := List (Int × Ty)
def occL : List (Ty × (Ty → Option Occ)) → Option Occ
  | [] => some []
  | (a, f) :: r => match f a with
    | none => none
    | some l => (occL r).map (l ++ ·)
def occT (ps : List Int) (t : Ty) : Ty → Option Occ
  | .mk pk pi us =>
    if 0 ≤ pidx ps (.mk pk pi us) then some [(pidx ps (.mk pk pi us), t)]
    else if t.kind ≠ pk ∨ t.id ≠ pi ∨ t.args.length ≠ us.length then none
    else occL (t.args.zip (us.map fun u => fun a => occT ps a u))
theorem occT_eq (ps : List Int) (t p : Ty) : occT ps t p =
    if 0 ≤ pidx ps p then some [(pidx ps p, t)]
    else if t.kind ≠ p.kind ∨ t.id ≠ p.id ∨ t.args.length ≠ p.args.length then none
    else occL (t.args.zip (p.args.map fun u => fun a => occT ps a u)) := by
  cases p; rw [occT]; rfl
def procL : Occ → MSt → Bool × MSt
  | [], s => (true, s)
  | (i, u) :: r, s => if s.2.getD i.toNat false = true then (if (s.1.getD i.toNat .zero).eqb u = true then procL r s else (false, s)) else procL r (s.1.set i.toNat u, s.2.set i.toNat true)
theorem procL_app : ∀ (l r : Occ) (s : MSt), procL (l ++ r) s = if (procL l s).1 = true then procL r (procL l s).2 else procL l s
  | [], r, s => by simp [procL]
  | (i, u) :: l, r, s => by
    simp only [List.cons_append, procL]
    split
    · split
      · exact procL_app l r s
      · rfl
    · exact procL_app l r _
def OccR (n : Nat) (m : Bool × MSt) (o : Option Occ) (s : MSt) : Prop :=
  match o with
  | none => m.1 = false
  | some l => (∀ x ∈ l, 0 ≤ x.1 ∧ x.1 < n) ∧ m.1 = (procL l s).1 ∧ ((procL l s).1 = true → m.2 = (procL l s).2)
theorem occL_R (n : Nat) : ∀ (ts : List Ty) (fs : List (Ty → MSt → Bool × MSt)) (gs : List (Ty → Option Occ)) (s : MSt), fs.length = gs.length →
    (∀ (j : Nat) (h1 : j < fs.length) (h2 : j < gs.length) a s, OccR n (fs[j] a s) (gs[j] a) s) → OccR n (matchL (ts.zip fs) s) (occL (ts.zip gs)) s
  | [], fs, gs, s, _, _ => by simp [matchL, occL, OccR, procL]
  | t :: ts, [], [], s, _, _ => by simp [matchL, occL, OccR, procL]
  | t :: ts, [], g :: gs, s, h, _ => by simp at h
  | t :: ts, f :: fs, [], s, h, _ => by simp at h
  | t :: ts, f :: fs, g :: gs, s, h, hf => by
    have h0 := hf 0 (by simp) (by simp) t s
    simp only [List.getElem_cons_zero] at h0
    have ih := fun s => occL_R n ts fs gs s (by simpa using h) fun j h1 h2 a s => by
      have := hf (j + 1) (by simpa using h1) (by simpa using h2) a s
      simpa using this
    simp only [List.zip_cons_cons, matchL, occL]
    cases hg : g t with
    | none => rw [hg] at h0; simp only [OccR] at h0; simp [OccR, h0]
    | some l =>
      rw [hg] at h0
      obtain ⟨k1, k2, k3⟩ := h0
      simp only
      by_cases hb : (procL l s).1 = true
      · rw [k2, hb, if_pos rfl, k3 hb]
        have := ih (procL l s).2
        cases ho : occL (ts.zip gs) with
        | none => rw [ho] at this; exact this
        | some r =>
          rw [ho] at this
          obtain ⟨j1, j2, j3⟩ := this
          refine ⟨fun x hx => ?_, ?_, ?_⟩
          · rcases List.mem_append.1 hx with hx | hx
            · exact k1 x hx
            · exact j1 x hx
          · rw [procL_app, if_pos hb]; exact j2
          · rw [procL_app, if_pos hb]; exact j3
      · have hb : (procL l s).1 = false := by simpa using hb
        rw [k2, hb]
        have := ih s
        cases ho : occL (ts.zip gs) with
        | none => simp [OccR]
        | some r =>
          rw [ho] at this
          refine ⟨fun x hx => ?_, ?_, ?_⟩
          · rcases List.mem_append.1 hx with hx | hx
            · exact k1 x hx
            · exact this.1 x hx
          · simp [procL_app, hb]
          · simp [procL_app, hb]
theorem occT_R (ps : List Int) : ∀ (p t : Ty) (s : MSt), OccR ps.length (matchT ps t p s) (occT ps t p) s
  | .mk pk pi us, t, s => by
    rw [matchT, occT]
    have hp : pidx ps (.mk pk pi us) = if pk = 2 then idxI (fun x => decide (pi = x)) ps else -1 := rfl
    by_cases h : 0 ≤ pidx ps (.mk pk pi us)
    · rw [if_pos h]
      have hk : pk = 2 := by rw [hp] at h; split at h <;> simp_all
      have hi : 0 ≤ idxI (fun x => decide (pi = x)) ps := by rw [hp, if_pos hk] at h; exact h
      rw [hp, if_pos hk, if_pos (by simp [hk, hi])]
      have hlt := idxI_lt hi
      simp only [OccR, procL, List.mem_singleton]
      refine ⟨fun x hx => by rw [hx]; exact ⟨hi, hlt⟩, ?_, ?_⟩
      · split
        · split
          · rename_i h1; exact h1
          · rename_i h1; simpa using h1
        · rfl
      · split
        · split
          · intro _; rfl
          · intro _; rfl
        · intro _; rfl
    · rw [if_neg h]
      have hc : ¬ (decide (pk = 2) && decide (idxI (fun x => decide (pi = x)) ps ≥ 0)) = true := by
        intro hc
        simp only [Bool.and_eq_true, decide_eq_true_eq] at hc
        rw [hp, if_pos hc.1] at h
        exact h hc.2
      rw [if_neg hc]
      by_cases hm : t.kind ≠ pk ∨ t.id ≠ pi ∨ t.args.length ≠ us.length
      · rw [if_pos hm, if_pos (by simp; omega)]; rfl
      · rw [if_neg hm, if_neg (by simp; omega)]
        exact occL_R ps.length t.args (us.map fun u => fun a s => matchT ps a u s) (us.map fun u => fun a => occT ps a u) s (by simp) fun j h1 h2 a s => by
          simp only [List.getElem_map]
          have hmem : us[j]'(by simpa using h1) ∈ us := List.getElem_mem _
          exact occT_R ps _ a s
def firstI (l : Occ) (i : Int) : Option Ty := (l.find? fun x => decide (x.1 = i)).map (·.2)
def consI (l : Occ) (i : Int) : Bool := l.all fun x => !decide (x.1 = i) || x.2.eqb ((firstI l i).getD .zero)
theorem firstI_app (l r : Occ) (i : Int) : firstI (l ++ r) i = (firstI l i).or (firstI r i) := by
  unfold firstI; rw [List.find?_append]; cases l.find? _ <;> simp
theorem firstI_mem {l : Occ} {i : Int} (h : ∃ x ∈ l, x.1 = i) : (firstI l i).isSome = true := by
  obtain ⟨x, hx, he⟩ := h
  unfold firstI
  rw [Option.isSome_map, List.find?_isSome]
  exact ⟨x, hx, by simp [he]⟩
theorem consI_iff (l : Occ) (i : Int) : consI l i = true ↔ ∀ x ∈ l, x.1 = i → firstI l i = some x.2 := by
  unfold consI
  rw [List.all_eq_true]
  refine forall_congr' fun x => forall_congr' fun hx => ?_
  by_cases h : x.1 = i
  · have := firstI_mem ⟨x, hx, h⟩
    obtain ⟨u, hu⟩ := Option.isSome_iff_exists.1 this
    simp only [h, hu, Ty.eqb_iff, decide_true, Bool.not_true, Bool.false_or, Option.getD_some, true_imp_iff, Option.some.injEq]
    exact eq_comm
  · simp [h]
structure OInv (n : Nat) (l : Occ) (s : MSt) : Prop where
  l1 : s.1.length = n
  l2 : s.2.length = n
  a : ∀ j : Nat, j < n → s.1.getD j .zero = (firstI l j).getD .zero
  b : ∀ j : Nat, j < n → s.2.getD j false = (firstI l j).isSome
  c : ∀ j : Nat, j < n → consI l j = true
theorem getD_set' {α : Type} (l : List α) (i j : Nat) (a d : α) (hi : i < l.length) : (l.set i a).getD j d = if j = i then a else l.getD j d := getD_set l i j a d hi
theorem procL_inv (n : Nat) : ∀ (l pre : Occ) (s : MSt), OInv n pre s → (∀ x ∈ l, 0 ≤ x.1 ∧ x.1 < n) →
    ((procL l s).1 = true ↔ ∀ j : Nat, j < n → consI (pre ++ l) j = true) ∧ ((procL l s).1 = true → OInv n (pre ++ l) (procL l s).2)
  | [], pre, s, hi, _ => by simp only [procL, List.append_nil, true_iff]; exact ⟨hi.c, fun _ => hi⟩
  | (i, u) :: r, pre, s, hi, hr => by
    obtain ⟨h0, h1⟩ := hr (i, u) (by simp)
    simp only at h0 h1
    have hk : i.toNat < n := by omega
    have hki : ((i.toNat : Nat) : Int) = i := by omega
    have ea : pre ++ (i, u) :: r = (pre ++ [(i, u)]) ++ r := by simp
    rw [ea]
    have one : firstI [(i, u)] i = some u := by simp [firstI]
    have oth : ∀ j, j ≠ i → firstI [(i, u)] j = none := fun j hj => by simp [firstI, Ne.symm hj]
    simp only [procL]
    by_cases hb : s.2.getD i.toNat false = true
    · rw [if_pos hb]
      have hs := hi.b _ hk
      rw [hb, hki] at hs
      obtain ⟨a, ha⟩ := Option.isSome_iff_exists.1 hs.symm
      have hsa := hi.a _ hk
      rw [hki, ha] at hsa
      simp only [Option.getD_some] at hsa
      by_cases he : (s.1.getD i.toNat .zero).eqb u = true
      · rw [if_pos he]
        rw [hsa, Ty.eqb_iff] at he
        subst he
        refine procL_inv n r (pre ++ [(i, a)]) s ⟨hi.l1, hi.l2, fun j hj => ?_, fun j hj => ?_, fun j hj => ?_⟩ fun x hx => hr x (by simp [hx])
        · rw [firstI_app]
          by_cases hji : (j : Int) = i
          · rw [hji, ha]; have := hi.a j hj; rw [hji, ha] at this; exact this
          · rw [oth _ hji, Option.or_none]; exact hi.a j hj
        · rw [firstI_app]
          by_cases hji : (j : Int) = i
          · rw [hji, ha]; have := hi.b j hj; rw [hji, ha] at this; exact this
          · rw [oth _ hji, Option.or_none]; exact hi.b j hj
        · rw [consI_iff]
          intro x hx hxj
          rw [firstI_app]
          rcases List.mem_append.1 hx with hx | hx
          · have := (consI_iff _ _).1 (hi.c j hj) x hx hxj
            rw [this]; rfl
          · rw [List.mem_singleton] at hx
            subst hx
            simp only at hxj ⊢
            rw [← hxj, ha]; rfl
      · rw [if_neg he]
        refine ⟨⟨fun h => by simp at h, fun h => ?_⟩, fun h => by simp at h⟩
        exfalso
        apply he
        rw [hsa, Ty.eqb_iff]
        have := (consI_iff _ _).1 (h i.toNat hk) (i, u) (by simp) (by simp; omega)
        rw [hki, firstI_app, firstI_app, ha] at this
        simpa using this
    · rw [if_neg hb]
      have hs := hi.b _ hk
      have hb' : s.2.getD i.toNat false = false := by simpa using hb
      rw [hb', hki] at hs
      have ha : firstI pre i = none := by
        cases hq : firstI pre i with
        | none => rfl
        | some v => rw [hq] at hs; cases hs
      refine procL_inv n r (pre ++ [(i, u)]) _ ⟨by simp [hi.l1], by simp [hi.l2], fun j hj => ?_, fun j hj => ?_, fun j hj => ?_⟩ fun x hx => hr x (by simp [hx])
      · rw [getD_set _ _ _ _ _ (by rw [hi.l1]; exact hk), firstI_app]
        by_cases hji : j = i.toNat
        · rw [if_pos hji, hji, hki, ha, one]; rfl
        · rw [if_neg hji, oth _ (by omega), Option.or_none]; exact hi.a j hj
      · rw [getD_set _ _ _ _ _ (by rw [hi.l2]; exact hk), firstI_app]
        by_cases hji : j = i.toNat
        · rw [if_pos hji, hji, hki, ha, one]; rfl
        · rw [if_neg hji, oth _ (by omega), Option.or_none]; exact hi.b j hj
      · rw [consI_iff]
        intro x hx hxj
        rw [firstI_app]
        rcases List.mem_append.1 hx with hx | hx
        · have := (consI_iff _ _).1 (hi.c j hj) x hx hxj
          rw [this]; rfl
        · rw [List.mem_singleton] at hx
          subst hx
          simp only at hxj ⊢
          rw [← hxj, ha, one]; rfl
/-- What the reference's MatchScheme answers. -/
def refM (ps : List Int) (t p : Ty) : List Ty × Bool :=
  match occT ps t p with
  | none => ([], false)
  | some l => if ((List.range ps.length).all fun (j : Nat) => consI l (j : Int)) = true then ((List.range ps.length).map fun (j : Nat) => (firstI l (j : Int)).getD .zero, true) else ([], false)
theorem refM_eq (ps : List Int) (t p : Ty) : refM ps t p = matchP ps t p := by
  have hR := occT_R ps p t (mS0 ps)
  unfold refM matchP
  cases ho : occT ps t p with
  | none => rw [ho] at hR; simp only [OccR] at hR; rw [hR]; rfl
  | some l =>
    rw [ho] at hR
    obtain ⟨h1, h2, h3⟩ := hR
    have hget : ∀ j : Nat, (mS0 ps).1.getD j .zero = .zero := fun j => by simp only [mS0, List.getD_eq_getElem?_getD, List.getElem?_replicate]; split <;> rfl
    have hgetb : ∀ j : Nat, (mS0 ps).2.getD j false = false := fun j => by simp only [mS0, List.getD_eq_getElem?_getD, List.getElem?_replicate]; split <;> rfl
    have hI : OInv ps.length [] (mS0 ps) := ⟨by simp [mS0], by simp [mS0], fun j _ => by rw [hget]; rfl, fun j _ => by rw [hgetb]; rfl, fun j _ => rfl⟩
    obtain ⟨k1, k2⟩ := procL_inv ps.length l [] (mS0 ps) hI h1
    rw [List.nil_append] at k1 k2
    simp only
    by_cases hp : (procL l (mS0 ps)).1 = true
    · rw [if_pos (by rw [List.all_eq_true]; intro j hj; exact k1.1 hp j (List.mem_range.1 hj)), h2, if_pos hp, h3 hp]
      have := k2 hp
      congr 1
      apply List.ext_getElem
      · simp [this.l1]
      · intro j h5 h6
        have hj : j < ps.length := by simpa using h5
        have := this.a j hj
        rw [List.getD_eq_getElem?_getD, List.getElem?_eq_getElem h6] at this
        simp only [List.getElem_map, List.getElem_range]
        exact this.symm
    · rw [h2, if_neg hp, if_neg]
      intro h
      apply hp
      rw [k1]
      intro j hj
      exact List.all_eq_true.1 h j (List.mem_range.2 hj)
end Go.Abs
set_option maxRecDepth 4000
namespace Go.Abs
open Go.Proofs

theorem refA_hit {ps : List Int} {xs : List Ty} {t : Ty} (hl : xs.length = ps.length) (h : 0 ≤ pidx ps t) : (pidx ps t).toNat < xs.length ∧ mapT (appG ps xs) t = xs.getD (pidx ps t).toNat (.mk 0 0 []) := by
  have hk : t.kind = 2 := by unfold pidx at h; split at h <;> simp_all
  have hp : pidx ps t = idxI (fun x => decide (t.id = x)) ps := by unfold pidx; rw [if_pos hk]
  rw [hp] at h ⊢
  have hlt := idxI_lt h
  refine ⟨by omega, ?_⟩
  have hg : appG ps xs t = (xs.getD (idxI (fun x => decide (t.id = x)) ps).toNat (.mk 0 0 []), true) := by
    unfold appG; rw [if_neg (by simp [hk]; omega)]
  rw [mapT_eq, hg]; rfl
theorem refA_miss {ps : List Int} {xs : List Ty} {t : Ty} (h : ¬ 0 ≤ pidx ps t) : mapT (appG ps xs) t = .mk t.kind t.id (t.args.map (mapT (appG ps xs))) := by
  have hg : appG ps xs t = (t, false) := by
    unfold appG
    rw [if_pos]
    unfold pidx at h
    by_cases hk : t.kind = 2
    · rw [if_pos hk] at h; simp [hk]; omega
    · simp [hk]
  rw [mapT_eq, hg]; rfl
theorem ap0 (i : TI) (fr : Nat) (H : Heap) (es : List PV) (tl tl' : Tail) : aappend i fr H (.slice es tl) (.slice [] tl') = some (.slice es tl, none) := by simp [aappend]
theorem aappend_tokN {i : TI} {fresh : Nat} {H : Heap} {es ys : List PV} {id n : Nat} {tl : Tail} (hH : H[id]? = some (.buf n i.sz)) (hn : n = es.length) (hne : ys ≠ []) (hb : (es.length + ys.length) * i.bytes ≤ 2 ^ 47) (hm : es.length + ys.length ≤ maxLen)
    (hes : ∀ e ∈ es, e.cells.length = i.sz) (hx : ∀ e ∈ ys, e.cells.length = i.sz ∧ e.cells.all PV.isCell = true) (hs : 0 < i.sz) :
    aappend i fresh H (.slice es (.tok id)) (.slice ys tl) = some (.slice (es ++ ys) (.tok id), some (id, .buf (es.length + ys.length) i.sz)) := by
  unfold aappend
  simp only [if_neg hne]
  rw [if_pos ⟨hb, hm, hes, hx, hs⟩]
  simp only [hH]
  simp only [hn, and_self, if_true]
theorem occL_len : ∀ (ts : List Ty) (us : List Ty) (gs : List (Ty → Option Occ)) (l : Occ), gs.length = us.length → (∀ (j : Nat) (h1 : j < gs.length) (h2 : j < us.length) a q, gs[j] a = some q → q.length ≤ us[j].size) → occL (ts.zip gs) = some l → l.length ≤ Ty.sizes us
  | [], us, gs, l, _, _, h => by simp [occL] at h; subst h; simp
  | t :: ts, [], gs, l, hl, _, h => by
    cases gs with
    | nil => simp [occL] at h; subst h; simp [Ty.sizes]
    | cons g gs => simp at hl
  | t :: ts, u :: us, [], l, hl, _, h => by simp at hl
  | t :: ts, u :: us, g :: gs, l, hl, hg, h => by
    simp only [List.zip_cons_cons, occL] at h
    cases hq : g t with
    | none => rw [hq] at h; cases h
    | some q =>
      rw [hq] at h
      simp only [Option.map_eq_some_iff] at h
      obtain ⟨r, hr, rfl⟩ := h
      have h0 := hg 0 (by simp) (by simp) t q hq
      simp only [List.getElem_cons_zero] at h0
      have ih := occL_len ts us gs r (by simpa using hl) (fun j h1 h2 a q e => by have := hg (j + 1) (by simpa using h1) (by simpa using h2) a q (by simpa using e); simpa using this) hr
      simp only [List.length_append, Ty.sizes]; omega
theorem occT_len (ps : List Int) : ∀ (p t : Ty) (l : Occ), occT ps t p = some l → l.length ≤ p.size
  | .mk pk pi us, t, l, h => by
    rw [occT] at h
    split at h
    · cases h; simp [Ty.size]
    · split at h
      · cases h
      · have := occL_len t.args us _ l (by simp) (fun j h1 h2 a q e => by
          simp only [List.getElem_map] at e
          have hmem : us[j] ∈ us := List.getElem_mem _
          exact occT_len ps _ a q e) h
        simp only [Ty.size]; omega
theorem occL_take : ∀ (ts : List Ty) (gs : List (Ty → Option Occ)) (i : Nat) (h1 : i < ts.length) (h2 : i < gs.length), occL ((ts.zip gs).take (i + 1)) = (occL ((ts.zip gs).take i)).bind fun q => (gs[i] ts[i]).map (q ++ ·)
  | t :: ts, g :: gs, 0, _, _ => by simp [occL]; cases g t <;> simp
  | t :: ts, g :: gs, i + 1, h1, h2 => by
    have ih := occL_take ts gs i (by simpa using h1) (by simpa using h2)
    simp only [List.zip_cons_cons, List.take_succ_cons, occL, ih, List.getElem_cons_succ]
    cases g t with
    | none => rfl
    | some l => cases occL ((ts.zip gs).take i) with
      | none => rfl
      | some q => simp only [Option.bind_some, Option.map_some, Option.map_map]; congr 1; funext x; simp
theorem sizes_take {us : List Ty} {i : Nat} {u : Ty} (hi : i < us.length) (hu : us[i] = u) : Ty.sizes (us.take i) + u.size ≤ Ty.sizes us := by
  induction us generalizing i with
  | nil => simp at hi
  | cons a l ih =>
    cases i with
    | zero => simp at hu; subst hu; simp [Ty.sizes]
    | succ i =>
      have := ih (i := i) (by simpa using hi) (by simpa using hu)
      simp only [List.take_succ_cons, Ty.sizes]; omega
theorem occL_none : ∀ (ts : List Ty) (gs : List (Ty → Option Occ)) (i : Nat), occL ((ts.zip gs).take i) = none → occL (ts.zip gs) = none
  | [], gs, i, h => by simp [occL] at h
  | t :: ts, [], i, h => by simp [occL] at h
  | t :: ts, g :: gs, 0, h => by simp [occL] at h
  | t :: ts, g :: gs, i + 1, h => by
    simp only [List.zip_cons_cons, List.take_succ_cons, occL] at h ⊢
    cases hg : g t with
    | none => rfl
    | some l => rw [hg] at h; simp only [Option.map_eq_none_iff] at h ⊢; exact occL_none ts gs i h

theorem pidx_c (t : Ty) (ps : List Int) (hx : ps.length ≤ maxLen) : PC Try.prog 131 [t.enc, .slice (ps.map vint) .none] (vint (pidx ps t)) := by
  refine pc_of (N := 23) Try.func131 rfl rfl (by simp) (by simp [Ty.bel, bel_ints0]) (.int _ _) ?_
  repeat (refine awp_seq ?_)
  refine e_eval (by simp only [jA, jO, jN, seval, y24, vint, qT] <;> with_reducible rfl) (by decide) ?_
  repeat (refine awp_seq ?_)
  refine e_eval (by simp only [jA, jO, jN, seval, y3, y24, vint, qT] <;> with_reducible rfl) (by decide) ?_
  repeat (refine awp_seq ?_)
  refine awp_cond rfl (by simp only [jN, seval, vint, qT] <;> with_reducible rfl) (fun b0 => ?_) (fun b0 => ?_)
  ·
    have hk : t.kind = 2 := of_decide_eq_true b0
    have hp : pidx ps t = idxI (fun x => decide (t.id = x)) ps := by unfold pidx; rw [if_pos hk]
    rw [hp]
    repeat (refine awp_seq ?_)
    refine e_eval (by simp only [jA, jO, jN, seval, y3, y25, vint, qT] <;> with_reducible rfl) (by decide) ?_
    repeat (refine awp_seq ?_)
    refine awp_forS (σ := Unit) (ps.length) (fun (s : Unit) => [(2, .optr 0 0), (10, .slice (ps.map vint) .none)]) [2, 10] ([]) (fun (s : Unit) => [.row t.enc.cells]) (fun (i : Nat) (s : Unit) => (ps.take i).any (fun x => decide (t.id = x)) = false) (()) ([]) rfl rfl rfl rfl rfl rfl rfl rfl rfl (by decide) (by decide) (by decide) (fun _ => rfl) (hx) ⟨(by first | rfl | (simp only [jN, seval, vint, qT] <;> first | done | with_reducible rfl)), (by first | rfl | (simp only [jN, seval, vint, qT] <;> first | done | with_reducible rfl)), (by first | rfl | (simp only [jN, seval, vint, qT] <;> first | done | with_reducible rfl)), (by first | rfl | (simp only [jN, seval, vint, qT] <;> first | done | with_reducible rfl)), trivial⟩ (by first | rfl | (simp only [jN, seval, vint, qT] <;> first | done | with_reducible rfl)) (by simp) (fun _ _ _ => by first | exact Nat.zero_le _ | (simp only [List.length_append]; omega)) ?_ ?_ ?_
    · exact fun i s hg => ⟨by simp only [TyS, List.nil_append, List.append_nil, List.cons_append]; repeat (first | exact hbel_nil _ | exact trivial | exact obel_row_nil _ | (refine HBel.cons ?_ ?_) | (refine obel_row_cons (by first | exact bel_TB _ _ | exact TB.bel _ _ | exact bel_Dc _ _ | exact Dc.bel _ _ | exact Pf.bel _ _ | exact bel_Pf _ _ | exact Sv.bel _ _ | exact bel_Pf_tok _ (by simp) | exact bel_ints0 _ _ | exact bel_slice_ty _ _ | exact Ty.bel _ _ | exact bel_ty_tok _ (by simp) | exact Bel.int _ _ | exact Bel.bool _ | exact Bel.str _ | exact Bel.nilp | exact Bel.nilfn | exact Bel.optr _ _ (by simp) | exact bel_nil0 _ | exact bel_nil1 _ | exact bel_fn0 _ _ | assumption) ?_)), by repeat (first | exact BelL.nil | refine BelL.cons (by first | exact bel_TB _ _ | exact TB.bel _ _ | exact bel_Dc _ _ | exact Dc.bel _ _ | exact Pf.bel _ _ | exact bel_Pf _ _ | exact Sv.bel _ _ | exact bel_Pf_tok _ (by simp) | exact bel_ints0 _ _ | exact bel_slice_ty _ _ | exact Ty.bel _ _ | exact bel_ty_tok _ (by simp) | exact Bel.int _ _ | exact Bel.bool _ | exact Bel.str _ | exact Bel.nilp | exact Bel.nilfn | exact Bel.optr _ _ (by simp) | exact bel_nil0 _ | exact bel_nil1 _ | exact bel_fn0 _ _ | assumption) ?_)⟩
    · intro i s hi hg
      have g1 := ix_nat hi
      have g2 := get_enc vint hi
      repeat (refine awp_seq ?_)
      refine e_eval (by simp only [jA, jO, jN, seval, y3, y25, vint, qT, g1, Int.toNat_natCast, g2] <;> with_reducible rfl) (by decide) ?_
      repeat (refine awp_seq ?_)
      refine e_eval (by simp only [jA, jO, jN, seval, y3, y24, vint, qT, g1, Int.toNat_natCast, g2] <;> with_reducible rfl) (by decide) ?_
      repeat (refine awp_seq ?_)
      refine awp_cond rfl (by simp only [jN, seval, vint, qT, g1, Int.toNat_natCast, g2] <;> with_reducible rfl) (fun b1 => ?_) (fun b1 => ?_)
      ·
        repeat (refine awp_seq ?_)
        refine e_eval (by simp only [jA, jO, jN, seval, vint, qT, g1, Int.toNat_natCast, g2] <;> with_reducible rfl) (by decide) ?_
        repeat (refine awp_seq ?_)
        refine awp_ret ⟨.inr rfl, _, rfl, ?_⟩
        rw [idxI_at hi (by simp at b1 ⊢; exact b1.symm) hg]
        simp only [jN, seval, vint, qT]
      ·
        repeat (refine awp_seq ?_)
        refine awp_skip ?_
        exact ⟨⟨rfl, rfl, trivial⟩, (), [], ⟨rfl, rfl, trivial⟩, by simp only [jN, seval, vint, qT] <;> rfl, any_take_succ hi hg (by simp at b1 ⊢; exact fun e => b1 e.symm)⟩
    · intro s hg
      rw [List.take_length] at hg
      repeat (refine awp_seq ?_)
      refine e_eval (by simp only [jA, jO, jN, seval, vint, qT] <;> with_reducible rfl) (by decide) ?_
      repeat (refine awp_seq ?_)
      refine awp_ret ⟨.inr rfl, _, rfl, ?_⟩
      rw [idxI_none hg]
      simp only [jN, seval, vint, qT]
  ·
    have hk : ¬ t.kind = 2 := of_decide_eq_false b0
    have hp : pidx ps t = -1 := by unfold pidx; rw [if_neg hk]
    rw [hp]
    repeat (refine awp_seq ?_)
    refine awp_skip ?_
    repeat (refine awp_seq ?_)
    refine e_eval (by simp only [jA, jO, jN, seval, vint, qT] <;> with_reducible rfl) (by decide) ?_
    repeat (refine awp_seq ?_)
    refine awp_ret ⟨.inr rfl, _, rfl, ?_⟩
    simp only [jN, seval, vint, qT]

theorem applyArgs_k (ps : List Int) (xs : List Ty) (hx : ps.length ≤ maxLen) (hl : xs.length = ps.length) (hw : ∀ a ∈ xs, a.W) : ∀ (k : Nat) (t : Ty), t.size ≤ k → t.W → PC Try.prog 105 [t.enc, .slice (ps.map vint) .none, .slice (xs.map Ty.enc) .none] (mapT (appG ps xs) t).enc
  | 0, t, h, _ => by cases t; simp [Ty.size] at h
  | k + 1, t, h, ht => by
    refine pc_of (N := 43) Try.func105 rfl rfl (by simp) (by simp [Ty.bel, bel_ints0, bel_slice_ty]) (Ty.bel _ _) ?_
    repeat (refine awp_seq ?_)
    refine e_eval (by simp only [jA, jO, jN, seval, y24, vint, qT] <;> with_reducible rfl) (by decide) ?_
    repeat (refine awp_seq ?_)
    refine awp_region ?_
    refine e_take 2 (by simp only [jA, jO, jN, seval, y24, vint, qT] <;> with_reducible rfl) (by decide) ?_
    refine aops_pure (by simp only [jC, jN, seval, vint, qT] <;> with_reducible rfl) (by simp only [jC, jN, seval, vint, qT]) (by decide) Trygo131 (pidx_c t ps hx _) ?_
    refine e_end (by simp only [jA, jO, jN, seval, vint, qT] <;> with_reducible rfl) (by decide) ?_
    repeat (refine awp_seq ?_)
    refine e_eval (by simp only [jA, jO, jN, seval, y3, vint, qT] <;> with_reducible rfl) (by decide) ?_
    repeat (refine awp_seq ?_)
    refine awp_cond rfl (by simp only [jN, seval, vint, qT] <;> with_reducible rfl) (fun b0 => ?_) (fun b0 => ?_)
    ·
      have hp : 0 ≤ pidx ps t := by simpa using b0
      obtain ⟨hlt, hst⟩ := refA_hit (xs := xs) hl hp
      have g1 : ((0 : Int) ≤ pidx ps t ∧ pidx ps t < xs.length) = True := by simp; omega
      have g2 := get_enc Ty.enc hlt
      have g3 : decide (pidx ps t < (xs.length : Int)) = true := decide_eq_true (by omega)
      rw [hst, List.getD_eq_getElem?_getD, List.getElem?_eq_getElem hlt]
      repeat (refine awp_seq ?_)
      refine e_eval (by simp only [jA, jO, jN, seval, y3, y22, y24, vint, qT, g3] <;> with_reducible rfl) (by decide) ?_
      repeat (refine awp_seq ?_)
      refine awp_cond_true rfl (by simp only [jN, seval, vint, qT, g3] <;> with_reducible rfl) ?_
      repeat (refine awp_seq ?_)
      refine e_eval (by simp only [jA, jO, jN, seval, y22, y24, vint, qT, g1, g2] <;> with_reducible rfl) (by decide) ?_
      repeat (refine awp_seq ?_)
      refine awp_ret ⟨.inr rfl, _, (ares_cell 6 24 rfl Tryti24 (by decide) (by simp only [jL, jN, seval, vint, qT] <;> with_reducible rfl)), ?_⟩
      exact Ty.enc_drop1 _
    ·
      have hp : ¬ 0 ≤ pidx ps t := by simpa using b0
      rw [refA_miss hp]
      repeat (refine awp_seq ?_)
      refine awp_skip ?_
      repeat (refine awp_seq ?_)
      refine e_eval (by simp only [jA, jO, jN, seval, vint, qT] <;> with_reducible rfl) (by decide) ?_
      repeat (refine awp_seq ?_)
      refine e_eval (by simp only [jA, jO, jN, seval, y22, y24, vint, qT] <;> with_reducible rfl) (by decide) ?_
      repeat (refine awp_seq ?_)
      refine awp_retok 8 3 (es := []) (by simp only [jN, seval, vint, qT] <;> with_reducible rfl) ?_
      refine awp_forS (σ := List Ty) (t.args.length) (fun (r : List Ty) => [(1, .slice (ps.map vint) .none), (2, .slice (xs.map Ty.enc) .none), (3, .optr 0 0), (6, .optr 1 0), (8, .slice (r.map Ty.enc) (.tok 2)), (26, .slice (t.args.map Ty.enc) .none)]) [1, 2, 3, 6, 8, 26] ([]) (fun (r : List Ty) => [.row t.enc.cells, .row [.int .i64 0, .int .i64 0, .slice [] .full], .buf r.length 3]) (fun (i : Nat) (r : List Ty) => r = (t.args.take i).map (mapT (appG ps xs))) ([]) ([]) rfl rfl rfl rfl rfl rfl rfl rfl rfl (by decide) (by decide) (by decide) (fun _ => rfl) (ht.lenMax) ⟨(by first | rfl | (simp only [jN, seval, vint, qT] <;> first | done | with_reducible rfl)), (by first | rfl | (simp only [jN, seval, vint, qT] <;> first | done | with_reducible rfl)), (by first | rfl | (simp only [jN, seval, vint, qT] <;> first | done | with_reducible rfl)), (by first | rfl | (simp only [jN, seval, vint, qT] <;> first | done | with_reducible rfl)), (by first | rfl | (simp only [jN, seval, vint, qT] <;> first | done | with_reducible rfl)), (by first | rfl | (simp only [jN, seval, vint, qT] <;> first | done | with_reducible rfl)), (by first | rfl | (simp only [jN, seval, vint, qT] <;> first | done | with_reducible rfl)), (by first | rfl | (simp only [jN, seval, vint, qT] <;> first | done | with_reducible rfl)), trivial⟩ (by first | rfl | (simp only [jN, seval, vint, qT] <;> first | done | with_reducible rfl)) (by simp) (fun _ _ _ => by first | exact Nat.zero_le _ | (simp only [List.length_append]; omega)) ?_ ?_ ?_
      · exact fun i r hg => ⟨by simp only [TyS, List.nil_append, List.append_nil, List.cons_append]; repeat (first | exact hbel_nil _ | exact trivial | exact obel_row_nil _ | (refine HBel.cons ?_ ?_) | (refine obel_row_cons (by first | exact bel_TB _ _ | exact TB.bel _ _ | exact bel_Dc _ _ | exact Dc.bel _ _ | exact Pf.bel _ _ | exact bel_Pf _ _ | exact Sv.bel _ _ | exact bel_Pf_tok _ (by simp) | exact bel_ints0 _ _ | exact bel_slice_ty _ _ | exact Ty.bel _ _ | exact bel_ty_tok _ (by simp) | exact Bel.int _ _ | exact Bel.bool _ | exact Bel.str _ | exact Bel.nilp | exact Bel.nilfn | exact Bel.optr _ _ (by simp) | exact bel_nil0 _ | exact bel_nil1 _ | exact bel_fn0 _ _ | assumption) ?_)), by repeat (first | exact BelL.nil | refine BelL.cons (by first | exact bel_TB _ _ | exact TB.bel _ _ | exact bel_Dc _ _ | exact Dc.bel _ _ | exact Pf.bel _ _ | exact bel_Pf _ _ | exact Sv.bel _ _ | exact bel_Pf_tok _ (by simp) | exact bel_ints0 _ _ | exact bel_slice_ty _ _ | exact Ty.bel _ _ | exact bel_ty_tok _ (by simp) | exact Bel.int _ _ | exact Bel.bool _ | exact Bel.str _ | exact Bel.nilp | exact Bel.nilfn | exact Bel.optr _ _ (by simp) | exact bel_nil0 _ | exact bel_nil1 _ | exact bel_fn0 _ _ | assumption) ?_)⟩
      · intro i r hi hg
        have g1 := ix_nat hi
        have g2 := get_enc Ty.enc hi
        have hmem : t.args[i] ∈ t.args := List.getElem_mem hi
        have hsa := Ty.size_arg hmem
        have hlen := ht.len
        have hsl : r.length < t.args.length := by rw [hg, List.length_map, List.length_take]; omega
        obtain ⟨a, hae⟩ : ∃ a, t.args[i] = a := ⟨_, rfl⟩
        have haw := ht.arg hmem
        rw [hae] at g2 hsa haw
        have happ := app_ty (us := r) (u := mapT (appG ps xs) a) (id := 2) (tl := .full) (by omega)
        repeat (refine awp_seq ?_)
        refine e_eval (by simp only [jA, jO, jN, seval, y22, y24, vint, qT, g1, g2, Int.toNat_natCast] <;> with_reducible rfl) (by decide) ?_
        repeat (refine awp_seq ?_)
        refine awp_region ?_
        refine e_take 4 (by simp only [jA, jO, jN, seval, y24, vint, qT, g1, g2, Int.toNat_natCast, happ] <;> with_reducible rfl) (by decide) ?_
        refine aops_pure (by simp only [jC, jN, seval, vint, qT, g1, g2, Int.toNat_natCast, happ] <;> with_reducible rfl) (by simp only [jC, jN, seval, vint, qT, g1, g2, Int.toNat_natCast, happ]) (by decide) Trygo105 (applyArgs_k ps xs hx hl hw k a (by omega) haw _) ?_
        refine e_end (by simp only [jA, jO, jN, seval, y22, y24, vint, qT, g1, g2, Int.toNat_natCast, happ] <;> with_reducible rfl) (by decide) ?_
        exact ⟨⟨rfl, rfl, trivial⟩, r ++ [mapT (appG ps xs) a], _, ⟨rfl, rfl, rfl, rfl, rfl, rfl, trivial⟩, by simp only [jN, seval, vint, qT, List.length_append, List.length_singleton] <;> rfl, by rw [hg, map_take_succ _ hi, hae]⟩
      · intro r hg
        rw [List.take_length] at hg
        repeat (refine awp_seq ?_)
        refine e_eval (by simp only [jA, jO, jN, seval, y22, y24, vint, qT] <;> with_reducible rfl) (by decide) ?_
        repeat (refine awp_seq ?_)
        refine e_eval (by simp only [jA, jO, jN, seval, y24, vint, qT] <;> with_reducible rfl) (by decide) ?_
        repeat (refine awp_seq ?_)
        refine awp_ret ⟨.inr rfl, _, (ares_cell 6 24 rfl Tryti24 (by decide) (by simp only [jL, jN, seval, vint, qT] <;> with_reducible rfl)), ?_⟩
        rw [← hg]
        first | exact Ty.enc_drop1 _ | (simp only [TyF, d1_agg, LS]; exact Ty.enc_drop1 _) | rfl

theorem paramOccurs_k (q : Int) : ∀ (k : Nat) (t : Ty), t.size ≤ k → t.W → PC Try.prog 104 [t.enc, vint q] (.bool (cpar q t))
  | 0, t, h, _ => by cases t; simp [Ty.size] at h
  | k + 1, t, h, ht => by
    rw [cpar_eq]
    refine pc_of (N := 32) Try.func104 rfl rfl (by simp) (by simp [Ty.bel, Bel.int]) (.bool _) ?_
    repeat (refine awp_seq ?_)
    refine e_eval (by simp only [jA, jO, jN, seval, y24, vint, qT] <;> with_reducible rfl) (by decide) ?_
    repeat (refine awp_seq ?_)
    refine g_eval (by simp only [jG, jO, jN, seval, y3, y24, vint, qT] <;> with_reducible rfl) (by decide) (by repeat (first | exact Fin.base _ | with_reducible apply Fin.keep | apply Fin.drop)) ?_
    repeat (refine awp_seq ?_)
    refine e_eval (by simp only [jA, jO, jN, seval, y22, y24, vint, qT] <;> with_reducible rfl) (by decide) ?_
    repeat (refine awp_seq ?_)
    refine awp_forS (σ := Bool) (t.args.length) (fun (f : Bool) => [(1, vint q), (2, .optr 0 0), (5, .bool f), (18, .slice (t.args.map Ty.enc) .none)]) [1, 2, 5, 18] ([]) (fun (f : Bool) => [.row t.enc.cells]) (fun (i : Nat) (f : Bool) => f = ((decide (t.kind = 2) && decide (t.id = q)) || (t.args.take i).any (cpar q))) (((decide (t.kind = 2) && decide (t.id = q)) : Bool)) ([]) rfl rfl rfl rfl rfl rfl rfl rfl rfl (by decide) (by decide) (by decide) (fun _ => rfl) (ht.lenMax) ⟨(by first | rfl | (simp only [jN, seval, vint, qT] <;> first | done | with_reducible rfl)), (by first | rfl | (simp only [jN, seval, vint, qT] <;> first | done | with_reducible rfl)), (by first | rfl | (simp only [jN, seval, vint, qT] <;> first | done | with_reducible rfl)), (by first | rfl | (simp only [jN, seval, vint, qT] <;> first | done | with_reducible rfl)), (by first | rfl | (simp only [jN, seval, vint, qT] <;> first | done | with_reducible rfl)), (by first | rfl | (simp only [jN, seval, vint, qT] <;> first | done | with_reducible rfl)), trivial⟩ (by first | rfl | (simp only [jN, seval, vint, qT] <;> first | done | with_reducible rfl)) (by simp) (fun _ _ _ => by first | exact Nat.zero_le _ | (simp only [List.length_append]; omega)) ?_ ?_ ?_
    · exact fun i f hg => ⟨by simp only [TyS, List.nil_append, List.append_nil, List.cons_append]; repeat (first | exact hbel_nil _ | exact trivial | exact obel_row_nil _ | (refine HBel.cons ?_ ?_) | (refine obel_row_cons (by first | exact bel_TB _ _ | exact TB.bel _ _ | exact bel_Dc _ _ | exact Dc.bel _ _ | exact Pf.bel _ _ | exact bel_Pf _ _ | exact Sv.bel _ _ | exact bel_Pf_tok _ (by simp) | exact bel_ints0 _ _ | exact bel_slice_ty _ _ | exact Ty.bel _ _ | exact bel_ty_tok _ (by simp) | exact Bel.int _ _ | exact Bel.bool _ | exact Bel.str _ | exact Bel.nilp | exact Bel.nilfn | exact Bel.optr _ _ (by simp) | exact bel_nil0 _ | exact bel_nil1 _ | exact bel_fn0 _ _ | assumption) ?_)), by repeat (first | exact BelL.nil | refine BelL.cons (by first | exact bel_TB _ _ | exact TB.bel _ _ | exact bel_Dc _ _ | exact Dc.bel _ _ | exact Pf.bel _ _ | exact bel_Pf _ _ | exact Sv.bel _ _ | exact bel_Pf_tok _ (by simp) | exact bel_ints0 _ _ | exact bel_slice_ty _ _ | exact Ty.bel _ _ | exact bel_ty_tok _ (by simp) | exact Bel.int _ _ | exact Bel.bool _ | exact Bel.str _ | exact Bel.nilp | exact Bel.nilfn | exact Bel.optr _ _ (by simp) | exact bel_nil0 _ | exact bel_nil1 _ | exact bel_fn0 _ _ | assumption) ?_)⟩
    · intro i f hi hg
      have g1 := ix_nat hi
      have g2 := get_enc Ty.enc hi
      have hmem : t.args[i] ∈ t.args := List.getElem_mem hi
      have hsa := Ty.size_arg hmem
      obtain ⟨a, hae⟩ : ∃ a, t.args[i] = a := ⟨_, rfl⟩
      have haw := ht.arg hmem
      rw [hae] at g2 hsa haw
      repeat (refine awp_seq ?_)
      refine e_eval (by simp only [jA, jO, jN, seval, y22, y24, vint, qT, g1, g2, Int.toNat_natCast] <;> with_reducible rfl) (by decide) ?_
      repeat (refine awp_seq ?_)
      refine awp_region ?_
      refine aops_gstart ?_
      refine g_take 4 (by simp only [jG, jO, jN, seval, y24, vint, qT, g1, g2, Int.toNat_natCast] <;> with_reducible rfl) (by decide) ?_
      refine aops_gpure (by simp only [jE, jN, seval, vint, qT, g1, g2, Int.toNat_natCast] <;> with_reducible rfl) (by simp only [jE, jN, seval, vint, qT, g1, g2, Int.toNat_natCast] <;> with_reducible rfl) (by simp only [jE, jN, seval, vint, qT, g1, g2, Int.toNat_natCast]) (by decide) Trygo104 (fun hc => paramOccurs_k q k a (by omega) haw _) ?_
      refine g_end (by simp only [jG, jO, jN, seval, vint, qT, g1, g2, Int.toNat_natCast] <;> with_reducible rfl) (by decide) (by repeat (first | exact Fin.base _ | with_reducible apply Fin.keep | apply Fin.drop)) ?_
      exact ⟨⟨rfl, rfl, trivial⟩, (f || cpar q a), _, ⟨rfl, rfl, rfl, rfl, trivial⟩, by simp only [jN, seval, vint, qT] <;> rfl, by rw [hg, List.take_succ_eq_append_getElem hi, List.any_append, hae]; simp [Bool.or_assoc]⟩
    · intro f hg
      rw [List.take_length] at hg
      repeat (refine awp_seq ?_)
      refine e_eval (by simp only [jA, jO, jN, seval, vint, qT] <;> with_reducible rfl) (by decide) ?_
      repeat (refine awp_seq ?_)
      refine awp_ret ⟨.inr rfl, _, rfl, ?_⟩
      rw [← hg]
      rfl

end Go.Abs
set_option maxRecDepth 4000
namespace Go.Abs
open Go.Proofs

def occI (l : Occ) : List Int := l.map (·.1)
def occU (l : Occ) : List Ty := l.map (·.2)
theorem app_ints {us vs : List Int} {id : Nat} (hne : vs ≠ []) (hb : (us.length + vs.length) * 8 ≤ 2 ^ 47) (fresh : Nat) (H : Heap) (hH : H[id]? = some (.buf us.length 1)) :
    aappend ⟨false, 1, 8⟩ fresh H (.slice (us.map vint) (.tok id)) (.slice (vs.map vint) .none) = some (.slice ((us ++ vs).map vint) (.tok id), some (id, .buf (us.length + vs.length) 1)) := by
  have hmx : maxLen = 9223372036854775807 := by decide
  rw [aappend_tokN (n := us.length) hH (by simp) (by simpa using hne) (by simpa using hb) (by simp; omega) (fun e he => by obtain ⟨v, _, rfl⟩ := List.mem_map.1 he; rfl) (fun e he => by obtain ⟨v, _, rfl⟩ := List.mem_map.1 he; exact ⟨rfl, rfl⟩) (by decide)]
  simp
theorem app_tys {us vs : List Ty} {id : Nat} (hne : vs ≠ []) (hb : (us.length + vs.length) * 40 ≤ 2 ^ 47) (fresh : Nat) (H : Heap) (hH : H[id]? = some (.buf us.length 3)) :
    aappend ⟨true, 3, 40⟩ fresh H (.slice (us.map Ty.enc) (.tok id)) (.slice (vs.map Ty.enc) .none) = some (.slice ((us ++ vs).map Ty.enc) (.tok id), some (id, .buf (us.length + vs.length) 3)) := by
  have hmx : maxLen = 9223372036854775807 := by decide
  rw [aappend_tokN (n := us.length) hH (by simp) (by simpa using hne) (by simpa using hb) (by simp; omega) (fun e he => by obtain ⟨v, _, rfl⟩ := List.mem_map.1 he; exact v.enc_len) (fun e he => by obtain ⟨v, _, rfl⟩ := List.mem_map.1 he; exact ⟨v.enc_len, by rw [Ty.enc_cells]; rfl⟩) (by decide)]
  simp

theorem occ_k (ps : List Int) (hx : ps.length ≤ maxLen) : ∀ (k : Nat) (p t : Ty), p.size ≤ k → p.W → p.size * 40 ≤ 2 ^ 47 → PC Try.prog 130 [t.enc, p.enc, .slice (ps.map vint) .none] (.tup [.slice ((occI ((occT ps t p).getD [])).map vint) .none, .slice ((occU ((occT ps t p).getD [])).map Ty.enc) .none, .bool (occT ps t p).isSome])
  | 0, p, t, h, _, _ => by cases p; simp [Ty.size] at h
  | k + 1, p, t, h, hp, hb => by
    have hts : p.size = 1 + Ty.sizes p.args := by cases p; simp [Ty.size, Ty.args]
    refine pc_of (N := 79) Try.func130 rfl rfl (by simp) (by simp [Ty.bel, bel_ints0]) (.tup _ (by simp [bel_ints0, bel_slice_ty, Bel.bool])) ?_
    repeat (refine awp_seq ?_)
    refine e_eval (by simp only [jA, jO, jN, seval, y24, vint, qT] <;> with_reducible rfl) (by decide) ?_
    repeat (refine awp_seq ?_)
    refine awp_region ?_
    refine e_take 2 (by simp only [jA, jO, jN, seval, y24, vint, qT] <;> with_reducible rfl) (by decide) ?_
    refine aops_pure (by simp only [jC, jN, seval, vint, qT] <;> with_reducible rfl) (by simp only [jC, jN, seval, vint, qT]) (by decide) Trygo131 (pidx_c p ps hx _) ?_
    refine e_end (by simp only [jA, jO, jN, seval, vint, qT] <;> with_reducible rfl) (by decide) ?_
    repeat (refine awp_seq ?_)
    refine e_eval (by simp only [jA, jO, jN, seval, y3, vint, qT] <;> with_reducible rfl) (by decide) ?_
    repeat (refine awp_seq ?_)
    refine awp_cond rfl (by simp only [jN, seval, vint, qT] <;> with_reducible rfl) (fun b0 => ?_) (fun b0 => ?_)
    ·
      have hq : 0 ≤ pidx ps p := by simpa using b0
      have ho : occT ps t p = some [(pidx ps p, t)] := by rw [occT_eq, if_pos hq]
      rw [ho]
      repeat (refine awp_seq ?_)
      refine awp_draw 0 (by kernel_rfl) ?_
      refine d_end (bm := [0, 1, 0, 4, 3, 31, 63]) (fresh := 0) (by kernel_rfl) (by simp only [jD, jO, jN, seval, y3, y22, y24, y25, vint, qT] <;> with_reducible rfl) (by decide) ?_
      repeat (refine awp_seq ?_)
      refine awp_ret ⟨.inr rfl, _, (ares_three (.tmp 6) (.tmp 7) (.tmp 8) rfl (ares_tmp1 (by decide)) (ares_tmp1 (by decide)) (ares_tmp1 (by decide))), ?_⟩
      simp only [jN, seval, vint, qT]
      rfl
    ·
      have hq : ¬ 0 ≤ pidx ps p := by simpa using b0
      repeat (refine awp_seq ?_)
      refine awp_skip ?_
      repeat (refine awp_seq ?_)
      refine g_eval (by simp only [jG, jO, jN, seval, y3, y22, y24, vint, qT] <;> with_reducible rfl) (by decide) (by repeat (first | exact Fin.base _ | with_reducible apply Fin.keep | apply Fin.drop)) ?_
      repeat (refine awp_seq ?_)
      refine awp_cond rfl (by simp only [jN, seval, vint, qT] <;> with_reducible rfl) (fun b1 => ?_) (fun b1 => ?_)
      ·
        have hm : t.kind ≠ p.kind ∨ t.id ≠ p.id ∨ t.args.length ≠ p.args.length := by simp at b1; omega
        have ho : occT ps t p = none := by rw [occT_eq, if_neg hq, if_pos hm]
        rw [ho]
        refine awp_sel [] (by simp only [jN, seval, vint, qT] <;> with_reducible rfl) ?_
        repeat (refine awp_seq ?_)
        refine e_eval (by simp only [jA, jO, jN, seval, vint, qT] <;> with_reducible rfl) (by decide) ?_
        repeat (refine awp_seq ?_)
        refine awp_ret ⟨.inr rfl, _, (ares_three (.tmp 6) (.tmp 7) (.tmp 8) rfl (ares_tmp1 (by decide)) (ares_tmp1 (by decide)) (ares_tmp1 (by decide))), ?_⟩
        simp only [jN, seval, vint, qT]
        rfl
      ·
        have hm : ¬ (t.kind ≠ p.kind ∨ t.id ≠ p.id ∨ t.args.length ≠ p.args.length) := by simp at b1; omega
        have ho : occT ps t p = occL (t.args.zip (p.args.map fun u => fun a => occT ps a u)) := by rw [occT_eq, if_neg hq, if_neg hm]
        have hlen : t.args.length = p.args.length := by omega
        repeat (refine awp_seq ?_)
        refine awp_skip ?_
        refine awp_sel [2, 3, 4] (by simp only [jN, seval, vint, qT] <;> with_reducible rfl) ?_
        repeat (refine awp_seq ?_)
        refine e_eval (by simp only [jA, jO, jN, seval, vint, qT] <;> with_reducible rfl) (by decide) ?_
        repeat (refine awp_seq ?_)
        refine e_eval (by simp only [jA, jO, jN, seval, vint, qT] <;> with_reducible rfl) (by decide) ?_
        repeat (refine awp_seq ?_)
        refine e_eval (by simp only [jA, jO, jN, seval, y22, y24, vint, qT] <;> with_reducible rfl) (by decide) ?_
        repeat (refine awp_seq ?_)
        refine awp_retok 10 1 (es := []) (by simp only [jN, seval, vint, qT] <;> with_reducible rfl) ?_
        refine awp_retok 11 3 (es := []) (by simp only [jN, seval, vint, qT] <;> with_reducible rfl) ?_
        refine awp_forS (σ := Occ) (t.args.length) (fun (q : Occ) => [(2, .slice (ps.map vint) .none), (3, .optr 0 0), (4, .optr 1 0), (10, .slice ((occI q).map vint) (.tok 2)), (11, .slice ((occU q).map Ty.enc) (.tok 3))]) [2, 3, 4, 10, 11] ([]) (fun (q : Occ) => [.row t.enc.cells, .row p.enc.cells, .buf q.length 1, .buf q.length 3]) (fun (i : Nat) (q : Occ) => occL ((t.args.zip (p.args.map fun u => fun a => occT ps a u)).take i) = some q) ([]) ([]) rfl rfl rfl rfl rfl rfl rfl rfl rfl (by decide) (by decide) (by decide) (fun _ => rfl) (by rw [hlen]; exact hp.lenMax) ⟨(by first | rfl | (simp only [jN, seval, vint, qT] <;> first | done | with_reducible rfl)), (by first | rfl | (simp only [jN, seval, vint, qT] <;> first | done | with_reducible rfl)), (by first | rfl | (simp only [jN, seval, vint, qT] <;> first | done | with_reducible rfl)), (by first | rfl | (simp only [jN, seval, vint, qT] <;> first | done | with_reducible rfl)), (by first | rfl | (simp only [jN, seval, vint, qT] <;> first | done | with_reducible rfl)), (by first | rfl | (simp only [jN, seval, vint, qT] <;> first | done | with_reducible rfl)), (by first | rfl | (simp only [jN, seval, vint, qT] <;> first | done | with_reducible rfl)), trivial⟩ (by first | rfl | (simp only [jN, seval, vint, qT] <;> first | done | with_reducible rfl)) (by simp [occL]) (fun _ _ _ => by first | exact Nat.zero_le _ | (simp only [List.length_append]; omega)) ?_ ?_ ?_
        · exact fun i q hg => ⟨by simp only [TyS, List.nil_append, List.append_nil, List.cons_append]; repeat (first | exact hbel_nil _ | exact trivial | exact obel_row_nil _ | (refine HBel.cons ?_ ?_) | (refine obel_row_cons (by first | exact bel_int_tok _ (by simp) | exact bel_TB _ _ | exact TB.bel _ _ | exact bel_Dc _ _ | exact Dc.bel _ _ | exact Pf.bel _ _ | exact bel_Pf _ _ | exact Sv.bel _ _ | exact bel_Pf_tok _ (by simp) | exact bel_ints0 _ _ | exact bel_slice_ty _ _ | exact Ty.bel _ _ | exact bel_ty_tok _ (by simp) | exact Bel.int _ _ | exact Bel.bool _ | exact Bel.str _ | exact Bel.nilp | exact Bel.nilfn | exact Bel.optr _ _ (by simp) | exact bel_nil0 _ | exact bel_nil1 _ | exact bel_fn0 _ _ | assumption) ?_)), by repeat (first | exact BelL.nil | refine BelL.cons (by first | exact bel_int_tok _ (by simp) | exact bel_TB _ _ | exact TB.bel _ _ | exact bel_Dc _ _ | exact Dc.bel _ _ | exact Pf.bel _ _ | exact bel_Pf _ _ | exact Sv.bel _ _ | exact bel_Pf_tok _ (by simp) | exact bel_ints0 _ _ | exact bel_slice_ty _ _ | exact Ty.bel _ _ | exact bel_ty_tok _ (by simp) | exact Bel.int _ _ | exact Bel.bool _ | exact Bel.str _ | exact Bel.nilp | exact Bel.nilfn | exact Bel.optr _ _ (by simp) | exact bel_nil0 _ | exact bel_nil1 _ | exact bel_fn0 _ _ | assumption) ?_)⟩
        · intro i q hi hg
          have g1 := ix_nat hi
          have g2 := get_enc Ty.enc hi
          have hi2 : i < p.args.length := by omega
          have g3 := ix_nat hi2
          have g4 := get_enc Ty.enc hi2
          have hmem : p.args[i] ∈ p.args := List.getElem_mem hi2
          have hsa := Ty.size_arg hmem
          have hstep := occL_take t.args (p.args.map fun u => fun a => occT ps a u) i hi (by simpa using hi2)
          rw [hg, Option.bind_some, List.getElem_map] at hstep
          have hql : q.length ≤ Ty.sizes (p.args.take i) := by
            refine occL_len (t.args.take i) (p.args.take i) ((p.args.map fun u => fun a => occT ps a u).take i) q (by simp) (fun j h1 h2 a l e => ?_) (by rw [List.zip_eq_zipWith, ← List.take_zipWith, ← List.zip_eq_zipWith]; exact hg)
            simp only [List.getElem_take, List.getElem_map] at e
            exact occT_len ps _ a l (by simpa using e)
          obtain ⟨a, hae⟩ : ∃ a, t.args[i] = a := ⟨_, rfl⟩
          obtain ⟨u, hue⟩ : ∃ u, p.args[i] = u := ⟨_, rfl⟩
          have huw := hp.arg hmem
          have hsz : Ty.sizes (p.args.take i) + u.size ≤ Ty.sizes p.args := sizes_take hi2 hue
          rw [hae, hue] at hstep
          rw [hae] at g2
          rw [hue] at g4 hsa huw
          repeat (refine awp_seq ?_)
          refine e_eval (by simp only [jA, jO, jN, seval, vint, qT, g1, g2, g3, g4, Int.toNat_natCast] <;> with_reducible rfl) (by decide) ?_
          repeat (refine awp_seq ?_)
          refine awp_draw 0 (by kernel_rfl) ?_
          refine d_take (bm := [0, 1, 0, 7, 15, 0, 32, 0, 224, 480, 0, 2047, 4095, 8191, 8191, 8191, 16383, 98303, 262143]) 11 (fresh := 0) (by kernel_rfl) (by simp only [jD, jO, jN, seval, y22, y24, vint, qT, g1, g2, g3, g4, Int.toNat_natCast] <;> with_reducible rfl) (by decide) (by decide) ?_
          refine dops_keep (bm := [0, 1, 0, 7, 15, 0, 32, 0, 224, 480, 0, 2047, 4095, 8191, 8191, 8191, 16383, 98303, 262143]) ([]) (by kernel_rfl) (by simp only [jC, jN, seval, vint, qT, g1, g2, g3, g4, Int.toNat_natCast] <;> with_reducible rfl) (by simp only [jC, jN, seval, vint, qT, g1, g2, g3, g4, Int.toNat_natCast]) (by decide) Trygo130 (fun H' _ => occ_k ps hx k u a (by omega) huw (by omega) H') (by simp only [jD, jO, jN, seval, vint, qT, g1, g2, g3, g4, Int.toNat_natCast] <;> first | done | rfl) ?_
          refine d_end (bm := [0, 1, 0, 7, 15, 0, 32, 0, 224, 480, 0, 2047, 4095, 8191, 8191, 8191, 16383, 98303, 262143]) (fresh := 0) (by kernel_rfl) (by simp only [jD, jO, jN, seval, vint, qT, g1, g2, g3, g4, Int.toNat_natCast] <;> with_reducible rfl) (by decide) ?_
          refine awp_sel [2, 3, 4, 10, 11, 13, 14, 15, 48, 49] (by simp only [jN, seval, vint, qT, g1, g2, g3, g4, Int.toNat_natCast] <;> with_reducible rfl) ?_
          repeat (refine awp_seq ?_)
          refine e_eval (by simp only [jA, jO, jN, seval, vint, qT, g1, g2, g3, g4, Int.toNat_natCast] <;> with_reducible rfl) (by decide) ?_
          repeat (refine awp_seq ?_)
          refine awp_cond rfl (by simp only [jN, seval, vint, qT, g1, g2, g3, g4, Int.toNat_natCast] <;> with_reducible rfl) (fun b2 => ?_) (fun b2 => ?_)
          ·
            have hn : occT ps a u = none := by simpa using b2
            have ho2 : occT ps t p = none := by
              rw [ho]; refine occL_none t.args (p.args.map fun u => fun a => occT ps a u) (i + 1) ?_
              rw [hstep, hn]; rfl
            rw [ho2]
            repeat (refine awp_seq ?_)
            refine e_eval (by simp only [jA, jO, jN, seval, vint, qT, g1, g2, g3, g4, Int.toNat_natCast] <;> with_reducible rfl) (by decide) ?_
            repeat (refine awp_seq ?_)
            refine awp_ret ⟨.inr rfl, _, (ares_three (.tmp 6) (.tmp 7) (.tmp 8) rfl (ares_tmp1 (by decide)) (ares_tmp1 (by decide)) (ares_tmp1 (by decide))), ?_⟩
            simp only [jN, seval, vint, qT]
            rfl
          ·
            obtain ⟨l, hl⟩ : ∃ l, occT ps a u = some l := by
              cases hz : occT ps a u with
              | none => rw [hz] at b2; simp at b2
              | some l => exact ⟨l, rfl⟩
            have hll := occT_len ps u a l hl
            rw [hl, Option.map_some] at hstep
            repeat (refine awp_seq ?_)
            refine awp_skip ?_
            rcases Classical.em (l = []) with hle | hle
            ·
              subst hle
              have hOI : occI [] = [] := rfl
              have hOU : occU [] = [] := rfl
              rw [List.append_nil] at hstep
              repeat (refine awp_seq ?_)
              refine e_eval (by simp only [jA, jO, jN, seval, y3, y22, y24, y25, vint, qT, g1, g2, g3, g4, Int.toNat_natCast, hl, Option.getD_some, hOI, hOU, List.map_nil, ap0] <;> with_reducible rfl) (by decide) ?_
              exact ⟨⟨rfl, rfl, trivial⟩, q, _, ⟨rfl, rfl, rfl, rfl, rfl, trivial⟩, by simp only [jN, seval, vint, qT] <;> rfl, hstep⟩
            ·
              have ap1 := app_ints (us := occI q) (vs := occI l) (id := 2) (by simpa [occI] using hle) (by simp [occI]; omega)
              have ap2 := app_tys (us := occU q) (vs := occU l) (id := 3) (by simpa [occU] using hle) (by simp [occU]; omega)
              have hI : (occI q).length = q.length := by simp [occI]
              have hU : (occU q).length = q.length := by simp [occU]
              have hI2 : (occI l).length = l.length := by simp [occI]
              have hU2 : (occU l).length = l.length := by simp [occU]
              rw [hI, hI2] at ap1
              rw [hU, hU2] at ap2
              repeat (refine awp_seq ?_)
              refine e_eval (by simp only [jA, jO, jN, seval, y3, y22, y24, y25, vint, qT, g1, g2, g3, g4, Int.toNat_natCast, hl, Option.getD_some, ap1, ap2] <;> with_reducible rfl) (by decide) ?_
              exact ⟨⟨rfl, rfl, trivial⟩, q ++ l, _, ⟨rfl, rfl, rfl, by simp [occI, upd_apply], by simp [occU, upd_apply], trivial⟩, by simp only [jN, seval, vint, qT, occI, occU, List.length_append, List.length_map] <;> rfl, hstep⟩
        · intro q hg
          rw [List.take_of_length_le (by simp; omega)] at hg
          rw [ho, hg]
          repeat (refine awp_seq ?_)
          refine e_eval (by simp only [jA, jO, jN, seval, vint, qT] <;> with_reducible rfl) (by decide) ?_
          repeat (refine awp_seq ?_)
          refine awp_ret ⟨.inr rfl, _, (ares_three (.tmp 6) (.tmp 7) (.tmp 8) rfl (ares_tmp1 (by decide)) (ares_tmp1 (by decide)) (ares_tmp1 (by decide))), ?_⟩
          simp only [jN, seval, vint, qT, Option.getD_some, Option.isSome_some]

end Go.Abs
set_option maxRecDepth 4000
namespace Go.Abs
open Go.Proofs

theorem firstI_take {l : Occ} {k : Nat} (hk : k < l.length) (i : Int) : firstI (l.take (k + 1)) i = (firstI (l.take k) i).or (if l[k].1 = i then some l[k].2 else none) := by
  rw [List.take_succ_eq_append_getElem hk, firstI_app]
  congr 1
  by_cases h : l[k].1 = i <;> simp [firstI, h]
theorem firstI_mono {l : Occ} {k : Nat} {i : Int} {u : Ty} (h : firstI (l.take k) i = some u) : firstI l i = some u := by
  have := List.take_append_drop k l
  rw [← this, firstI_app, h]; rfl
theorem firstI_W {l : Occ} (hw : ∀ x ∈ l, x.2.W) (i : Int) : ((firstI l i).getD .zero).W := by
  unfold firstI
  cases h : l.find? fun x => decide (x.1 = i) with
  | none => simp [Ty.zero, Ty.W_iff]
  | some x => exact hw x (List.mem_of_find?_eq_some h)
theorem occL_W : ∀ (ts : List Ty) (gs : List (Ty → Option Occ)) (l : Occ), (∀ t ∈ ts, t.W) → (∀ g ∈ gs, ∀ a q, a.W → g a = some q → ∀ x ∈ q, x.2.W) → occL (ts.zip gs) = some l → ∀ x ∈ l, x.2.W
  | [], gs, l, _, _, h => by simp [occL] at h; subst h; simp
  | t :: ts, [], l, _, _, h => by simp [occL] at h; subst h; simp
  | t :: ts, g :: gs, l, ht, hg, h => by
    simp only [List.zip_cons_cons, occL] at h
    cases hq : g t with
    | none => rw [hq] at h; cases h
    | some q =>
      rw [hq] at h
      simp only [Option.map_eq_some_iff] at h
      obtain ⟨r, hr, rfl⟩ := h
      intro x hx
      rcases List.mem_append.1 hx with hx | hx
      · exact hg g (by simp) t q (ht t (by simp)) hq x hx
      · exact occL_W ts gs r (fun t h => ht t (by simp [h])) (fun g h => hg g (by simp [h])) hr x hx
theorem occT_W (ps : List Int) : ∀ (p t : Ty) (l : Occ), t.W → occT ps t p = some l → ∀ x ∈ l, x.2.W
  | .mk pk pi us, t, l, ht, h => by
    rw [occT] at h
    split at h
    · cases h; simp [ht]
    · split at h
      · cases h
      · refine occL_W t.args _ l (fun a ha => ht.arg ha) (fun g hg a q ha e => ?_) h
        obtain ⟨u, hu, rfl⟩ := List.mem_map.1 hg
        exact occT_W ps u a q ha e
theorem getI {l : Occ} {j : Nat} (hj : j < l.length) : ((occI l).map vint)[j]? = some (vint l[j].1) := by simp [occI, hj]
theorem getU {l : Occ} {j : Nat} (hj : j < l.length) : ((occU l).map Ty.enc)[j]? = some l[j].2.enc := by simp [occU, hj]
theorem lenI (l : Occ) : (occI l).length = l.length := by simp [occI]
theorem lenU (l : Occ) : (occU l).length = l.length := by simp [occU]
theorem zeroS : Ty.zero.kind = 0 ∧ Ty.zero.id = 0 ∧ Ty.zero.args = [] := ⟨rfl, rfl, rfl⟩
theorem mem_take_succ {α : Type} {l : List α} {j : Nat} (hj : j < l.length) {y : α} (h : y ∈ l.take (j + 1)) : y ∈ l.take j ∨ y = l[j] := by
  rw [List.take_succ_eq_append_getElem hj] at h
  rcases List.mem_append.1 h with h | h
  · exact .inl h
  · exact .inr (List.mem_singleton.1 h)

theorem refM_c (ps : List Int) (t p : Ty) (hx : ps.length * 40 ≤ 2 ^ 47) (ht : t.W) (hp : p.W) (hb : p.size * 40 ≤ 2 ^ 47) : PC Try.prog 103 [t.enc, p.enc, .slice (ps.map vint) .none] (.tup [.slice ((matchP ps t p).1.map Ty.enc) .none, .bool (matchP ps t p).2]) := by
  have em : maxLen = 9223372036854775807 := by decide
  rw [← refM_eq]
  refine pc_of (N := 66) Try.func103 rfl rfl (by simp) (by simp [Ty.bel, bel_ints0]) (.tup _ (by simp [bel_slice_ty, Bel.bool])) ?_
  repeat (refine awp_seq ?_)
  refine e_eval (by simp only [jA, jO, jN, seval, y24, vint, qT, lenI, lenU, zeroS, Option.getD_none, Option.getD_some, Option.isSome_none, Option.isSome_some] <;> with_reducible rfl) (by decide) ?_
  repeat (refine awp_seq ?_)
  refine awp_region ?_
  refine e_take 3 (by simp only [jA, jO, jN, seval, y24, vint, qT, lenI, lenU, zeroS, Option.getD_none, Option.getD_some, Option.isSome_none, Option.isSome_some] <;> with_reducible rfl) (by decide) ?_
  refine aops_pure (by simp only [jC, jN, seval, vint, qT, lenI, lenU, zeroS, Option.getD_none, Option.getD_some, Option.isSome_none, Option.isSome_some] <;> with_reducible rfl) (by simp only [jC, jN, seval, vint, qT, lenI, lenU, zeroS, Option.getD_none, Option.getD_some, Option.isSome_none, Option.isSome_some]) (by decide) Trygo130 (occ_k ps (by omega) _ p t (Nat.le_refl _) hp hb _) ?_
  refine e_end (by simp only [jA, jO, jN, seval, vint, qT, lenI, lenU, zeroS, Option.getD_none, Option.getD_some, Option.isSome_none, Option.isSome_some] <;> with_reducible rfl) (by decide) ?_
  refine awp_sel [2, 8, 9, 10] (by simp only [jN, seval, vint, qT, lenI, lenU, zeroS, Option.getD_none, Option.getD_some, Option.isSome_none, Option.isSome_some] <;> with_reducible rfl) ?_
  repeat (refine awp_seq ?_)
  refine e_eval (by simp only [jA, jO, jN, seval, vint, qT, lenI, lenU, zeroS, Option.getD_none, Option.getD_some, Option.isSome_none, Option.isSome_some] <;> with_reducible rfl) (by decide) ?_
  repeat (refine awp_seq ?_)
  refine awp_cond rfl (by simp only [jN, seval, vint, qT, lenI, lenU, zeroS, Option.getD_none, Option.getD_some, Option.isSome_none, Option.isSome_some] <;> with_reducible rfl) (fun b0 => ?_) (fun b0 => ?_)
  ·
    have hn : occT ps t p = none := by simpa using b0
    have hr : refM ps t p = ([], false) := by unfold refM; rw [hn]
    rw [hr]
    repeat (refine awp_seq ?_)
    refine e_eval (by simp only [jA, jO, jN, seval, vint, qT, lenI, lenU, zeroS, Option.getD_none, Option.getD_some, Option.isSome_none, Option.isSome_some] <;> with_reducible rfl) (by decide) ?_
    repeat (refine awp_seq ?_)
    refine awp_ret ⟨.inr rfl, _, (ares_two (.tmp 6) (.tmp 7) rfl (ares_tmp1 (by decide)) (ares_tmp1 (by decide))), ?_⟩
    simp only [jN, seval, vint, qT]
  ·
    obtain ⟨l, hl⟩ : ∃ l, occT ps t p = some l := by
      cases hz : occT ps t p with
      | none => rw [hz] at b0; simp at b0
      | some l => exact ⟨l, rfl⟩
    have hr : refM ps t p = if ((List.range ps.length).all fun (j : Nat) => consI l (j : Int)) = true then ((List.range ps.length).map fun (j : Nat) => (firstI l (j : Int)).getD .zero, true) else ([], false) := by unfold refM; rw [hl]
    have hll := occT_len ps p t l hl
    have hlw := occT_W ps p t l ht hl
    have hg0 : (occT ps t p).getD [] = l := by rw [hl]; rfl
    rw [hr]
    repeat (refine awp_seq ?_)
    refine awp_skip ?_
    repeat (refine awp_seq ?_)
    refine awp_fix [(2, .slice (ps.map vint) .none), (8, .slice ((occI l).map vint) .none), (9, .slice ((occU l).map Ty.enc) .none)] ⟨rfl, by rw [← hg0]; rfl, by rw [← hg0]; rfl, trivial⟩ (L := []) (List.append_nil _).symm (Nat.zero_le _) (by simp only [jN, seval, vint, qT, TyS]; repeat (first | exact hbel_nil _ | exact trivial | exact obel_row_nil _ | (refine HBel.cons ?_ ?_) | (refine obel_row_cons (by first | exact bel_int_tok _ (by simp) | exact bel_TB _ _ | exact TB.bel _ _ | exact bel_Dc _ _ | exact Dc.bel _ _ | exact Pf.bel _ _ | exact bel_Pf _ _ | exact Sv.bel _ _ | exact bel_Pf_tok _ (by simp) | exact bel_ints0 _ _ | exact bel_slice_ty _ _ | exact Ty.bel _ _ | exact bel_ty_tok _ (by simp) | exact Bel.int _ _ | exact Bel.bool _ | exact Bel.str _ | exact Bel.nilp | exact Bel.nilfn | exact Bel.optr _ _ (by simp) | exact bel_nil0 _ | exact bel_nil1 _ | exact bel_fn0 _ _ | assumption) ?_))) (by repeat (first | exact BelL.nil | refine BelL.cons (by first | exact bel_int_tok _ (by simp) | exact bel_TB _ _ | exact TB.bel _ _ | exact bel_Dc _ _ | exact Dc.bel _ _ | exact Pf.bel _ _ | exact bel_Pf _ _ | exact Sv.bel _ _ | exact bel_Pf_tok _ (by simp) | exact bel_ints0 _ _ | exact bel_slice_ty _ _ | exact Ty.bel _ _ | exact bel_ty_tok _ (by simp) | exact Bel.int _ _ | exact Bel.bool _ | exact Bel.str _ | exact Bel.nilp | exact Bel.nilfn | exact Bel.optr _ _ (by simp) | exact bel_nil0 _ | exact bel_nil1 _ | exact bel_fn0 _ _ | assumption) ?_)) ?_
    refine e_eval (by simp only [jA, jO, jN, seval, vint, qT, lenI, lenU, zeroS, Option.getD_none, Option.getD_some, Option.isSome_none, Option.isSome_some] <;> with_reducible rfl) (by decide) ?_
    repeat (refine awp_seq ?_)
    refine e_eval (by simp only [jA, jO, jN, seval, y3, y25, vint, qT, lenI, lenU, zeroS, Option.getD_none, Option.getD_some, Option.isSome_none, Option.isSome_some] <;> with_reducible rfl) (by decide) ?_
    repeat (refine awp_seq ?_)
    refine awp_retok 11 3 (es := []) (by simp only [jN, seval, vint, qT] <;> with_reducible rfl) ?_
    refine awp_forS (σ := List Ty) (ps.length) (fun (r : List Ty) => [(8, .slice ((occI l).map vint) .none), (9, .slice ((occU l).map Ty.enc) .none), (11, .slice (r.map Ty.enc) (.tok 2)), (27, .slice (ps.map vint) .none)]) [8, 9, 11, 27] ([]) (fun (r : List Ty) => [.row t.enc.cells, .row p.enc.cells, .buf r.length 3]) (fun (i : Nat) (r : List Ty) => r = (List.range i).map (fun (j : Nat) => (firstI l (j : Int)).getD .zero) ∧ ∀ j : Nat, j < i → consI l (j : Int) = true) ([]) ([]) rfl rfl rfl rfl rfl rfl rfl rfl rfl (by decide) (by decide) (by decide) (fun _ => rfl) (by omega) ⟨(by first | rfl | (simp only [jN, seval, vint, qT, lenI, lenU, zeroS, Option.getD_none, Option.getD_some, Option.isSome_none, Option.isSome_some] <;> first | done | with_reducible rfl)), (by first | rfl | (simp only [jN, seval, vint, qT, lenI, lenU, zeroS, Option.getD_none, Option.getD_some, Option.isSome_none, Option.isSome_some] <;> first | done | with_reducible rfl)), (by first | rfl | (simp only [jN, seval, vint, qT, lenI, lenU, zeroS, Option.getD_none, Option.getD_some, Option.isSome_none, Option.isSome_some] <;> first | done | with_reducible rfl)), (by first | rfl | (simp only [jN, seval, vint, qT, lenI, lenU, zeroS, Option.getD_none, Option.getD_some, Option.isSome_none, Option.isSome_some] <;> first | done | with_reducible rfl)), (by first | rfl | (simp only [jN, seval, vint, qT, lenI, lenU, zeroS, Option.getD_none, Option.getD_some, Option.isSome_none, Option.isSome_some] <;> first | done | with_reducible rfl)), (by first | rfl | (simp only [jN, seval, vint, qT, lenI, lenU, zeroS, Option.getD_none, Option.getD_some, Option.isSome_none, Option.isSome_some] <;> first | done | with_reducible rfl)), trivial⟩ (by first | rfl | (simp only [jN, seval, vint, qT, lenI, lenU, zeroS, Option.getD_none, Option.getD_some, Option.isSome_none, Option.isSome_some] <;> first | done | with_reducible rfl)) (by simp) (fun _ _ _ => by first | exact Nat.zero_le _ | (simp only [List.length_append]; omega)) ?_ ?_ ?_
    · exact fun i r hg => ⟨by simp only [TyS, List.nil_append, List.append_nil, List.cons_append]; repeat (first | exact hbel_nil _ | exact trivial | exact obel_row_nil _ | (refine HBel.cons ?_ ?_) | (refine obel_row_cons (by first | exact bel_int_tok _ (by simp) | exact bel_TB _ _ | exact TB.bel _ _ | exact bel_Dc _ _ | exact Dc.bel _ _ | exact Pf.bel _ _ | exact bel_Pf _ _ | exact Sv.bel _ _ | exact bel_Pf_tok _ (by simp) | exact bel_ints0 _ _ | exact bel_slice_ty _ _ | exact Ty.bel _ _ | exact bel_ty_tok _ (by simp) | exact Bel.int _ _ | exact Bel.bool _ | exact Bel.str _ | exact Bel.nilp | exact Bel.nilfn | exact Bel.optr _ _ (by simp) | exact bel_nil0 _ | exact bel_nil1 _ | exact bel_fn0 _ _ | assumption) ?_)), by repeat (first | exact BelL.nil | refine BelL.cons (by first | exact bel_int_tok _ (by simp) | exact bel_TB _ _ | exact TB.bel _ _ | exact bel_Dc _ _ | exact Dc.bel _ _ | exact Pf.bel _ _ | exact bel_Pf _ _ | exact Sv.bel _ _ | exact bel_Pf_tok _ (by simp) | exact bel_ints0 _ _ | exact bel_slice_ty _ _ | exact Ty.bel _ _ | exact bel_ty_tok _ (by simp) | exact Bel.int _ _ | exact Bel.bool _ | exact Bel.str _ | exact Bel.nilp | exact Bel.nilfn | exact Bel.optr _ _ (by simp) | exact bel_nil0 _ | exact bel_nil1 _ | exact bel_fn0 _ _ | assumption) ?_)⟩
    · intro i r hi hg
      have g1 := ix_nat hi
      have hrl : r.length = i := by rw [hg.1]; simp
      have happ := app_ty (us := r) (u := (firstI l (i : Int)).getD .zero) (id := 2) (tl := .full) (by omega)
      repeat (refine awp_seq ?_)
      refine e_eval (by simp only [jA, jO, jN, seval, vint, qT, lenI, lenU, zeroS, Option.getD_none, Option.getD_some, Option.isSome_none, Option.isSome_some, g1, Int.toNat_natCast] <;> with_reducible rfl) (by decide) ?_
      repeat (refine awp_seq ?_)
      refine e_eval (by simp only [jA, jO, jN, seval, y24, vint, qT, lenI, lenU, zeroS, Option.getD_none, Option.getD_some, Option.isSome_none, Option.isSome_some, g1, Int.toNat_natCast] <;> with_reducible rfl) (by decide) ?_
      repeat (refine awp_seq ?_)
      refine e_eval (by simp only [jA, jO, jN, seval, vint, qT, lenI, lenU, zeroS, Option.getD_none, Option.getD_some, Option.isSome_none, Option.isSome_some, g1, Int.toNat_natCast] <;> with_reducible rfl) (by decide) ?_
      repeat (refine awp_seq ?_)
      refine e_eval (by simp only [jA, jO, jN, seval, y3, y25, vint, qT, lenI, lenU, zeroS, Option.getD_none, Option.getD_some, Option.isSome_none, Option.isSome_some, g1, Int.toNat_natCast] <;> with_reducible rfl) (by decide) ?_
      repeat (refine awp_seq ?_)
      refine awp_dropRow 3 rfl ?_
      refine awp_forS (σ := Option Ty) (l.length) (fun (s : Option Ty) => [(9, .slice ((occU l).map Ty.enc) .none), (11, .slice (r.map Ty.enc) (.tok 2)), (12, .int .i64 ((i : Nat) : Int)), (13, .optr 3 0), (14, .bool s.isSome), (27, .slice (ps.map vint) .none), (28, .int .i64 (ps.length : Nat)), (29, .int .i64 ((i : Nat) : Int)), (33, .slice ((occI l).map vint) .none), (8, .slice ((occI l).map vint) .none)]) [9, 11, 12, 13, 14, 27, 28, 29, 33, 8] ([.row t.enc.cells, .row p.enc.cells, .buf r.length 3]) (fun (s : Option Ty) => [.row (s.getD .zero).enc.cells]) (fun (j : Nat) (s : Option Ty) => s = firstI (l.take j) (i : Int) ∧ ∀ x ∈ l.take j, x.1 = (i : Int) → s = some x.2) (none) ([]) rfl rfl rfl rfl rfl rfl rfl rfl rfl (by decide) (by decide) (by decide) (fun _ => rfl) (by have := hp.len; omega) ⟨(by first | rfl | (simp only [jN, seval, vint, qT, lenI, lenU, zeroS, Option.getD_none, Option.getD_some, Option.isSome_none, Option.isSome_some, g1, Int.toNat_natCast] <;> first | done | with_reducible rfl)), (by first | rfl | (simp only [jN, seval, vint, qT, lenI, lenU, zeroS, Option.getD_none, Option.getD_some, Option.isSome_none, Option.isSome_some, g1, Int.toNat_natCast] <;> first | done | with_reducible rfl)), (by first | rfl | (simp only [jN, seval, vint, qT, lenI, lenU, zeroS, Option.getD_none, Option.getD_some, Option.isSome_none, Option.isSome_some, g1, Int.toNat_natCast] <;> first | done | with_reducible rfl)), (by first | rfl | (simp only [jN, seval, vint, qT, lenI, lenU, zeroS, Option.getD_none, Option.getD_some, Option.isSome_none, Option.isSome_some, g1, Int.toNat_natCast] <;> first | done | with_reducible rfl)), (by first | rfl | (simp only [jN, seval, vint, qT, lenI, lenU, zeroS, Option.getD_none, Option.getD_some, Option.isSome_none, Option.isSome_some, g1, Int.toNat_natCast] <;> first | done | with_reducible rfl)), (by first | rfl | (simp only [jN, seval, vint, qT, lenI, lenU, zeroS, Option.getD_none, Option.getD_some, Option.isSome_none, Option.isSome_some, g1, Int.toNat_natCast] <;> first | done | with_reducible rfl)), (by first | rfl | (simp only [jN, seval, vint, qT, lenI, lenU, zeroS, Option.getD_none, Option.getD_some, Option.isSome_none, Option.isSome_some, g1, Int.toNat_natCast] <;> first | done | with_reducible rfl)), (by first | rfl | (simp only [jN, seval, vint, qT, lenI, lenU, zeroS, Option.getD_none, Option.getD_some, Option.isSome_none, Option.isSome_some, g1, Int.toNat_natCast] <;> first | done | with_reducible rfl)), (by first | rfl | (simp only [jN, seval, vint, qT, lenI, lenU, zeroS, Option.getD_none, Option.getD_some, Option.isSome_none, Option.isSome_some, g1, Int.toNat_natCast] <;> first | done | with_reducible rfl)), (by first | rfl | (simp only [jN, seval, vint, qT, lenI, lenU, zeroS, Option.getD_none, Option.getD_some, Option.isSome_none, Option.isSome_some, g1, Int.toNat_natCast] <;> first | done | with_reducible rfl)), (by first | rfl | (simp only [jN, seval, vint, qT, lenI, lenU, zeroS, Option.getD_none, Option.getD_some, Option.isSome_none, Option.isSome_some, g1, Int.toNat_natCast] <;> first | done | with_reducible rfl)), (by first | rfl | (simp only [jN, seval, vint, qT, lenI, lenU, zeroS, Option.getD_none, Option.getD_some, Option.isSome_none, Option.isSome_some, g1, Int.toNat_natCast] <;> first | done | with_reducible rfl)), trivial⟩ (by first | rfl | (simp only [jN, seval, vint, qT, lenI, lenU, zeroS, Option.getD_none, Option.getD_some, Option.isSome_none, Option.isSome_some, g1, Int.toNat_natCast] <;> first | done | with_reducible rfl)) (by simp [firstI]) (fun _ _ _ => by first | exact Nat.zero_le _ | (simp only [List.length_append]; omega)) ?_ ?_ ?_
      · exact fun i s hg => ⟨by simp only [TyS, List.nil_append, List.append_nil, List.cons_append]; repeat (first | exact hbel_nil _ | exact trivial | exact obel_row_nil _ | (refine HBel.cons ?_ ?_) | (refine obel_row_cons (by first | exact bel_int_tok _ (by simp) | exact bel_TB _ _ | exact TB.bel _ _ | exact bel_Dc _ _ | exact Dc.bel _ _ | exact Pf.bel _ _ | exact bel_Pf _ _ | exact Sv.bel _ _ | exact bel_Pf_tok _ (by simp) | exact bel_ints0 _ _ | exact bel_slice_ty _ _ | exact Ty.bel _ _ | exact bel_ty_tok _ (by simp) | exact Bel.int _ _ | exact Bel.bool _ | exact Bel.str _ | exact Bel.nilp | exact Bel.nilfn | exact Bel.optr _ _ (by simp) | exact bel_nil0 _ | exact bel_nil1 _ | exact bel_fn0 _ _ | assumption) ?_)), by repeat (first | exact BelL.nil | refine BelL.cons (by first | exact bel_int_tok _ (by simp) | exact bel_TB _ _ | exact TB.bel _ _ | exact bel_Dc _ _ | exact Dc.bel _ _ | exact Pf.bel _ _ | exact bel_Pf _ _ | exact Sv.bel _ _ | exact bel_Pf_tok _ (by simp) | exact bel_ints0 _ _ | exact bel_slice_ty _ _ | exact Ty.bel _ _ | exact bel_ty_tok _ (by simp) | exact Bel.int _ _ | exact Bel.bool _ | exact Bel.str _ | exact Bel.nilp | exact Bel.nilfn | exact Bel.optr _ _ (by simp) | exact bel_nil0 _ | exact bel_nil1 _ | exact bel_fn0 _ _ | assumption) ?_)⟩
      · intro j s hj hh
        have q1 := ix_nat hj
        have q2 := getI hj
        have q3 := getU hj
        have q4 : ((0 : Int) ≤ (j : Nat) ∧ ((j : Nat) : Int) < l.length) = True := ix_nat hj
        have hxw := hlw _ (List.getElem_mem hj)
        have hft := firstI_take hj (i : Int)
        obtain ⟨x, hxe⟩ : ∃ x, l[j] = x := ⟨_, rfl⟩
        rw [hxe] at q2 q3 hxw hft
        repeat (refine awp_seq ?_)
        refine e_eval (by simp only [jA, jO, jN, seval, y3, y25, vint, qT, lenI, lenU, zeroS, Option.getD_none, Option.getD_some, Option.isSome_none, Option.isSome_some, g1, Int.toNat_natCast, q1, q2, q3, q4, Int.toNat_natCast] <;> with_reducible rfl) (by decide) ?_
        repeat (refine awp_seq ?_)
        refine e_eval (by simp only [jA, jO, jN, seval, y3, vint, qT, lenI, lenU, zeroS, Option.getD_none, Option.getD_some, Option.isSome_none, Option.isSome_some, g1, Int.toNat_natCast, q1, q2, q3, q4, Int.toNat_natCast] <;> with_reducible rfl) (by decide) ?_
        repeat (refine awp_seq ?_)
        refine awp_cond rfl (by simp only [jN, seval, vint, qT, lenI, lenU, zeroS, Option.getD_none, Option.getD_some, Option.isSome_none, Option.isSome_some, g1, Int.toNat_natCast, q1, q2, q3, q4, Int.toNat_natCast] <;> with_reducible rfl) (fun b1 => ?_) (fun b1 => ?_)
        ·
          repeat (refine awp_seq ?_)
          refine awp_exit ?_
          have hne : ¬ x.1 = (i : Int) := by simpa using b1
          refine ⟨⟨rfl, rfl, trivial⟩, s, _, ⟨rfl, rfl, rfl, rfl, rfl, rfl, rfl, rfl, rfl, rfl, trivial⟩, by simp only [jN, seval, vint, qT] <;> rfl, ?_⟩
          rw [hft, if_neg hne, Option.or_none]
          refine ⟨hh.1, fun y hy hyi => ?_⟩
          rcases mem_take_succ hj hy with h | h
          · exact hh.2 y h hyi
          · rw [h, hxe] at hyi; exact (hne hyi).elim
        ·
          have hxi : x.1 = (i : Int) := by simpa using b1
          rw [if_pos hxi] at hft
          repeat (refine awp_seq ?_)
          refine awp_skip ?_
          repeat (refine awp_seq ?_)
          refine awp_drawW 0 (by kernel_rfl) ?_
          refine dops_gstart ?_
          refine gd_take (bm := [0, 1, 3, 3, 15, 31, 3, 127, 255, 511]) 7 (fresh := 0) (by kernel_rfl) (by simp only [jH, jO, jN, seval, y22, y24, vint, qT, lenI, lenU, zeroS, Option.getD_none, Option.getD_some, Option.isSome_none, Option.isSome_some, g1, Int.toNat_natCast, q1, q2, q3, q4, Int.toNat_natCast] <;> with_reducible rfl) (by decide) (by decide) ?_
          refine dops_gkeep (bm := [0, 1, 3, 3, 15, 31, 3, 127, 255, 511]) ([]) (by kernel_rfl) (by simp only [jE, jN, seval, vint, qT, lenI, lenU, zeroS, Option.getD_none, Option.getD_some, Option.isSome_none, Option.isSome_some, g1, Int.toNat_natCast, q1, q2, q3, q4, Int.toNat_natCast] <;> with_reducible rfl) (by simp only [jE, jN, seval, vint, qT, lenI, lenU, zeroS, Option.getD_none, Option.getD_some, Option.isSome_none, Option.isSome_some, g1, Int.toNat_natCast, q1, q2, q3, q4, Int.toNat_natCast] <;> with_reducible rfl) (by simp only [jE, jN, seval, vint, qT, lenI, lenU, zeroS, Option.getD_none, Option.getD_some, Option.isSome_none, Option.isSome_some, g1, Int.toNat_natCast, q1, q2, q3, q4, Int.toNat_natCast]) (by decide) Trygo38 (fun hc => fun H' _ => typesEq_k _ x.2 (s.getD .zero) (Nat.le_refl _) hxw H') (by simp only [jH, jO, jN, seval, vint, qT, lenI, lenU, zeroS, Option.getD_none, Option.getD_some, Option.isSome_none, Option.isSome_some, g1, Int.toNat_natCast, q1, q2, q3, q4, Int.toNat_natCast] <;> first | done | rfl) ?_
          refine gd_end (bm := [0, 1, 3, 3, 15, 31, 3, 127, 255, 511]) (fresh := 0) (by kernel_rfl) (by simp only [jH, jO, jN, seval, vint, qT, lenI, lenU, zeroS, Option.getD_none, Option.getD_some, Option.isSome_none, Option.isSome_some, g1, Int.toNat_natCast, q1, q2, q3, q4, Int.toNat_natCast] <;> with_reducible rfl) (by decide) (by repeat (first | exact Fin.base _ | with_reducible apply Fin.keep | apply Fin.drop)) ?_
          repeat (refine awp_seq ?_)
          refine awp_cond rfl (by simp only [jN, seval, vint, qT, lenI, lenU, zeroS, Option.getD_none, Option.getD_some, Option.isSome_none, Option.isSome_some, g1, Int.toNat_natCast, q1, q2, q3, q4, Int.toNat_natCast] <;> with_reducible rfl) (fun b2 => ?_) (fun b2 => ?_)
          ·
            refine awp_sel [8, 9, 11, 12, 13, 14, 27, 28, 29, 33, 34, 35] (by simp only [jN, seval, vint, qT, lenI, lenU, zeroS, Option.getD_none, Option.getD_some, Option.isSome_none, Option.isSome_some, g1, Int.toNat_natCast, q1, q2, q3, q4, Int.toNat_natCast] <;> with_reducible rfl) ?_
            repeat (refine awp_seq ?_)
            refine e_eval (by simp only [jA, jO, jN, seval, vint, qT, lenI, lenU, zeroS, Option.getD_none, Option.getD_some, Option.isSome_none, Option.isSome_some, g1, Int.toNat_natCast, q1, q2, q3, q4, Int.toNat_natCast] <;> with_reducible rfl) (by decide) ?_
            repeat (refine awp_seq ?_)
            refine awp_ret ⟨.inr rfl, _, (ares_two (.tmp 6) (.tmp 7) rfl (ares_tmp1 (by decide)) (ares_tmp1 (by decide))), ?_⟩
            have hq : s.isSome = true ∧ x.2.eqb (s.getD .zero) = false := by simpa using b2
            obtain ⟨u, hu⟩ := Option.isSome_iff_exists.1 hq.1
            have hf := firstI_mono (hh.1.symm.trans hu)
            have hbad : ¬ ((List.range ps.length).all fun (j : Nat) => consI l (j : Int)) = true := by
              intro hall
              have := (consI_iff _ _).1 (List.all_eq_true.1 hall i (List.mem_range.2 hi)) x (by rw [← hxe]; exact List.getElem_mem hj) hxi
              rw [hf] at this
              cases this
              rw [hu, Option.getD_some, Ty.eqb_self] at hq
              cases hq.2
            rw [if_neg hbad]
            simp only [jN, seval, vint, qT]
          ·
            repeat (refine awp_seq ?_)
            refine awp_skip ?_
            refine awp_sel [8, 9, 11, 12, 13, 14, 15, 27, 28, 29, 33, 34, 35] (by simp only [jN, seval, vint, qT, lenI, lenU, zeroS, Option.getD_none, Option.getD_some, Option.isSome_none, Option.isSome_some, g1, Int.toNat_natCast, q1, q2, q3, q4, Int.toNat_natCast] <;> with_reducible rfl) ?_
            repeat (refine awp_seq ?_)
            refine e_eval (by simp only [jA, jO, jN, seval, vint, qT, lenI, lenU, zeroS, Option.getD_none, Option.getD_some, Option.isSome_none, Option.isSome_some, g1, Int.toNat_natCast, q1, q2, q3, q4, Int.toNat_natCast] <;> with_reducible rfl) (by decide) ?_
            repeat (refine awp_seq ?_)
            refine awp_cond rfl (by simp only [jN, seval, vint, qT, lenI, lenU, zeroS, Option.getD_none, Option.getD_some, Option.isSome_none, Option.isSome_some, g1, Int.toNat_natCast, q1, q2, q3, q4, Int.toNat_natCast] <;> with_reducible rfl) (fun b3 => ?_) (fun b3 => ?_)
            ·
              have hn : s = none := by simpa using b3
              subst hn
              repeat (refine awp_seq ?_)
              refine e_eval (by simp only [jA, jO, jN, seval, y22, y24, vint, qT, lenI, lenU, zeroS, Option.getD_none, Option.getD_some, Option.isSome_none, Option.isSome_some, g1, Int.toNat_natCast, q1, q2, q3, q4, Int.toNat_natCast] <;> with_reducible rfl) (by decide) ?_
              refine ⟨⟨rfl, rfl, trivial⟩, some x.2, _, ⟨rfl, rfl, rfl, rfl, rfl, rfl, rfl, rfl, rfl, rfl, trivial⟩, by simp only [jN, seval, vint, qT] <;> rfl, ?_⟩
              rw [hft, ← hh.1, Option.none_or]
              refine ⟨rfl, fun y hy hyi => ?_⟩
              rcases mem_take_succ hj hy with h | h
              · have := hh.2 y h hyi; cases this
              · rw [h, hxe]
            ·
              repeat (refine awp_seq ?_)
              refine awp_skip ?_
              obtain ⟨u, rfl⟩ : ∃ u, s = some u := by
                cases s with
                | none => simp at b3
                | some u => exact ⟨u, rfl⟩
              have hq : x.2 = u := by
                have hb := b2
                simp [Ty.eqb_iff] at hb
                exact hb
              refine ⟨⟨rfl, rfl, trivial⟩, some u, _, ⟨rfl, rfl, rfl, rfl, rfl, rfl, rfl, rfl, rfl, rfl, trivial⟩, by simp only [jN, seval, vint, qT] <;> rfl, ?_⟩
              rw [hft, ← hh.1, Option.some_or]
              refine ⟨rfl, fun y hy hyi => ?_⟩
              rcases mem_take_succ hj hy with h | h
              · exact hh.2 y h hyi
              · rw [h, hxe, hq]
      · intro s hh
        rw [List.take_length] at hh
        obtain ⟨hh1, hh2⟩ := hh
        subst hh1
        repeat (refine awp_seq ?_)
        refine e_eval (by simp only [jA, jO, jN, seval, y22, y24, vint, qT, lenI, lenU, zeroS, Option.getD_none, Option.getD_some, Option.isSome_none, Option.isSome_some, g1, Int.toNat_natCast, happ] <;> with_reducible rfl) (by decide) ?_
        exact ⟨⟨rfl, rfl, trivial⟩, r ++ [(firstI l (i : Int)).getD .zero], _, ⟨rfl, rfl, rfl, rfl, trivial⟩, by simp only [jN, seval, vint, qT, List.length_append, List.length_singleton] <;> rfl, by rw [List.range_succ, List.map_append, ← hg.1]; rfl, fun j hj => by
          rcases Nat.lt_succ_iff_lt_or_eq.1 hj with h | h
          · exact hg.2 j h
          · rw [h, consI_iff]; exact hh2⟩
    · intro r hg
      repeat (refine awp_seq ?_)
      refine e_eval (by simp only [jA, jO, jN, seval, vint, qT, lenI, lenU, zeroS, Option.getD_none, Option.getD_some, Option.isSome_none, Option.isSome_some] <;> with_reducible rfl) (by decide) ?_
      repeat (refine awp_seq ?_)
      refine awp_ret ⟨.inr rfl, _, (ares_two (.tmp 6) (.tmp 7) rfl (ares_tmp1 (by decide)) (ares_tmp1 (by decide))), ?_⟩
      rw [if_pos (by rw [List.all_eq_true]; intro j hj; exact hg.2 j (List.mem_range.1 hj)), ← hg.1]
      simp only [jN, seval, vint, qT]

end Go.Abs
set_option maxRecDepth 4000
namespace Go.Abs
open Go.Proofs

/-- What the reference's walks ask of a declaration. -/
def Dc.R (d : Dc) : Prop := d.B ∧ d.t.size * 40 ≤ 2 ^ 47

theorem search_0 (ds : List Dc) (sas : List TB) (t : Ty) (tr : Int) : PC Try.prog 50 [.slice (ds.map Dc.enc) .none, .slice (sas.map TB.enc) .none, t.enc, vint tr, .int .i64 0] (.tup [(solveT ds sas 0 t tr).1.enc, .bool (solveT ds sas 0 t tr).2]) := by
  refine pc_of (N := 144) Try.func50 rfl rfl (by simp) (by simp [Ty.bel, bel_Dc, bel_TB, Bel.int]) (.tup _ (by simp [Pf.bel, Bel.bool])) ?_
  repeat (refine awp_seq ?_)
  refine e_eval (by simp only [jA, jO, jN, seval, y24, y63, vint, qT, Int.reduceLT, Bool.true_or, decide_true] <;> with_reducible rfl) (by decide) ?_
  repeat (refine awp_seq ?_)
  refine e_eval (by simp only [jA, jO, jN, seval, y63, vint, qT, Int.reduceLT, Bool.true_or, decide_true] <;> with_reducible rfl) (by decide) ?_
  repeat (refine awp_seq ?_)
  refine g_eval (by simp only [jG, jO, jN, seval, y3, y24, vint, qT, Int.reduceLT, Bool.true_or, decide_true] <;> with_reducible rfl) (by decide) (by repeat (first | exact Fin.base _ | with_reducible apply Fin.keep | apply Fin.drop)) ?_
  repeat (refine awp_seq ?_)
  refine awp_cond_true rfl (by simp only [jN, seval, vint, qT, Int.reduceLT, Bool.true_or, decide_true] <;> with_reducible rfl) ?_
  refine awp_sel [10, 12] (by simp only [jN, seval, vint, qT, Int.reduceLT, Bool.true_or, decide_true] <;> with_reducible rfl) ?_
  repeat (refine awp_seq ?_)
  refine e_eval (by simp only [jA, jO, jN, seval, y63, vint, qT, Int.reduceLT, Bool.true_or, decide_true] <;> with_reducible rfl) (by decide) ?_
  repeat (refine awp_seq ?_)
  refine awp_ret ⟨.inr rfl, _, (ares_two (.cell 10 63) (.tmp 11) rfl (ares_cell1 Tryti63 (by decide) (by simp only [jL, jN, seval, vint, qT, Int.reduceLT, Bool.true_or, decide_true] <;> with_reducible rfl)) (ares_tmp1 (by decide))), ?_⟩
  simp only [jN, seval, vint, qT]
  rfl

theorem search_k (ds : List Dc) (sas : List TB) (hl : ds.length ≤ maxLen) (hd : ∀ d ∈ ds, d.R) (hsl : sas.length ≤ maxLen) (hs : ∀ b ∈ sas, b.W) : ∀ (n : Nat) (t : Ty) (tr : Int), n ≤ 8 → t.W → PC Try.prog 50 [.slice (ds.map Dc.enc) .none, .slice (sas.map TB.enc) .none, t.enc, vint tr, .int .i64 n] (.tup [(solveT ds sas n t tr).1.enc, .bool (solveT ds sas n t tr).2])
  | 0, t, tr, _, _ => search_0 ds sas t tr
  | n + 1, t, tr, hn, ht => by
    have hn0 : decide (((n + 1 : Nat) : Int) < 1) = false := decide_eq_false (by omega)
    have hn1 : IntKind.i64.wrap (((n + 1 : Nat) : Int) - 1) = (n : Nat) := by rw [wrap_id (by omega) (by omega)]; omega
    rw [solveT_s]
    refine pc_of (N := 144) Try.func50 rfl rfl (by simp) (by simp [Ty.bel, bel_Dc, bel_TB, Bel.int]) (.tup _ (by simp [Pf.bel, Bel.bool])) ?_
    repeat (refine awp_seq ?_)
    refine e_eval (by simp only [jA, jO, jN, seval, y24, y63, vint, qT, hn0, hn1] <;> with_reducible rfl) (by decide) ?_
    repeat (refine awp_seq ?_)
    refine e_eval (by simp only [jA, jO, jN, seval, y63, vint, qT, hn0, hn1] <;> with_reducible rfl) (by decide) ?_
    repeat (refine awp_seq ?_)
    refine g_eval (by simp only [jG, jO, jN, seval, y3, y24, vint, qT, hn0, hn1] <;> with_reducible rfl) (by decide) (by repeat (first | exact Fin.base _ | with_reducible apply Fin.keep | apply Fin.drop)) ?_
    repeat (refine awp_seq ?_)
    refine awp_cond rfl (by simp only [jN, seval, vint, qT, hn0, hn1] <;> with_reducible rfl) (fun b0 => ?_) (fun b0 => ?_)
    ·
      have hq : t.kind = 0 ∨ tr < 0 := by simp at b0; omega
      refine awp_sel [10, 12] (by simp only [jN, seval, vint, qT, hn0, hn1] <;> with_reducible rfl) ?_
      repeat (refine awp_seq ?_)
      refine e_eval (by simp only [jA, jO, jN, seval, y63, vint, qT, hn0, hn1] <;> with_reducible rfl) (by decide) ?_
      repeat (refine awp_seq ?_)
      refine awp_ret ⟨.inr rfl, _, (ares_two (.cell 10 63) (.tmp 11) rfl (ares_cell1 Tryti63 (by decide) (by simp only [jL, jN, seval, vint, qT, hn0, hn1] <;> with_reducible rfl)) (ares_tmp1 (by decide))), ?_⟩
      rw [if_pos hq]
      simp only [jN, seval, vint, qT]
      rfl
    ·
      have hq : ¬ (t.kind = 0 ∨ tr < 0) := by simp at b0; omega
      rw [if_neg hq]
      repeat (refine awp_seq ?_)
      refine awp_skip ?_
      refine awp_sel [0, 1, 3, 4, 7, 10, 12] (by simp only [jN, seval, vint, qT, hn0, hn1] <;> with_reducible rfl) ?_
      repeat (refine awp_seq ?_)
      refine e_eval (by simp only [jA, jO, jN, seval, y60, y74, vint, qT, hn0, hn1] <;> with_reducible rfl) (by decide) ?_
      repeat (refine awp_seq ?_)
      refine awp_forS (σ := Unit) (sas.length) (fun (s : Unit) => [(0, .slice (ds.map Dc.enc) .none), (1, .slice (sas.map TB.enc) .none), (3, vint tr), (4, .int .i64 ((n + 1 : Nat) : Int)), (7, .optr 0 0), (10, .optr 1 0), (12, .optr 2 0), (39, .slice (sas.map TB.enc) .none)]) [0, 1, 3, 4, 7, 10, 12, 39] ([]) (fun (s : Unit) => [.row t.enc.cells, .row [.int .i64 0, .int .i64 0, .slice [] .full, .int .i64 0, .int .i64 0, .int .i64 0, .slice [] .full, .slice [] .full], .row [.int .i64 0, .int .i64 0, .slice [] .full, .int .i64 0, .int .i64 0, .int .i64 0, .slice [] .full, .slice [] .full]]) (fun (i : Nat) (s : Unit) => (sas.take i).any (boundP t tr) = false) (()) ([]) rfl rfl rfl rfl rfl rfl rfl rfl rfl (by decide) (by decide) (by decide) (fun _ => rfl) (hsl) ⟨(by first | rfl | (simp only [jN, seval, vint, qT, hn0, hn1] <;> first | done | with_reducible rfl)), (by first | rfl | (simp only [jN, seval, vint, qT, hn0, hn1] <;> first | done | with_reducible rfl)), (by first | rfl | (simp only [jN, seval, vint, qT, hn0, hn1] <;> first | done | with_reducible rfl)), (by first | rfl | (simp only [jN, seval, vint, qT, hn0, hn1] <;> first | done | with_reducible rfl)), (by first | rfl | (simp only [jN, seval, vint, qT, hn0, hn1] <;> first | done | with_reducible rfl)), (by first | rfl | (simp only [jN, seval, vint, qT, hn0, hn1] <;> first | done | with_reducible rfl)), (by first | rfl | (simp only [jN, seval, vint, qT, hn0, hn1] <;> first | done | with_reducible rfl)), (by first | rfl | (simp only [jN, seval, vint, qT, hn0, hn1] <;> first | done | with_reducible rfl)), (by first | rfl | (simp only [jN, seval, vint, qT, hn0, hn1] <;> first | done | with_reducible rfl)), (by first | rfl | (simp only [jN, seval, vint, qT, hn0, hn1] <;> first | done | with_reducible rfl)), trivial⟩ (by first | rfl | (simp only [jN, seval, vint, qT, hn0, hn1] <;> first | done | with_reducible rfl)) (by simp) (fun _ _ _ => by first | exact Nat.zero_le _ | (simp only [List.length_append]; omega)) ?_ ?_ ?_
      · exact fun i s hg => ⟨by simp only [TyS, PfS, DcS, List.nil_append, List.append_nil, List.cons_append]; repeat (first | exact hbel_nil _ | exact trivial | exact obel_row_nil _ | (refine HBel.cons ?_ ?_) | (refine obel_row_cons (by first | exact bel_TB _ _ | exact TB.bel _ _ | exact bel_Dc _ _ | exact Dc.bel _ _ | exact Pf.bel _ _ | exact bel_Pf _ _ | exact Sv.bel _ _ | exact bel_Pf_tok _ (by simp) | exact bel_ints0 _ _ | exact bel_slice_ty _ _ | exact Ty.bel _ _ | exact bel_ty_tok _ (by simp) | exact Bel.int _ _ | exact Bel.bool _ | exact Bel.str _ | exact Bel.nilp | exact Bel.nilfn | exact Bel.optr _ _ (by simp) | exact bel_nil0 _ | exact bel_nil1 _ | exact bel_fn0 _ _ | assumption) ?_)), by repeat (first | exact BelL.nil | refine BelL.cons (by first | exact bel_TB _ _ | exact TB.bel _ _ | exact bel_Dc _ _ | exact Dc.bel _ _ | exact Pf.bel _ _ | exact bel_Pf _ _ | exact Sv.bel _ _ | exact bel_Pf_tok _ (by simp) | exact bel_ints0 _ _ | exact bel_slice_ty _ _ | exact Ty.bel _ _ | exact bel_ty_tok _ (by simp) | exact Bel.int _ _ | exact Bel.bool _ | exact Bel.str _ | exact Bel.nilp | exact Bel.nilfn | exact Bel.optr _ _ (by simp) | exact bel_nil0 _ | exact bel_nil1 _ | exact bel_fn0 _ _ | assumption) ?_)⟩
      · intro i s hi hg
        have g1 := ix_nat hi
        have g2 := get_enc TB.enc hi
        obtain ⟨b, hbe⟩ : ∃ b, sas[i] = b := ⟨_, rfl⟩
        have hbw := hs _ (List.getElem_mem hi)
        rw [hbe] at g2 hbw
        repeat (refine awp_seq ?_)
        refine e_eval (by simp only [jA, jO, jN, seval, y60, y74, vint, qT, hn0, hn1, g1, g2, Int.toNat_natCast] <;> with_reducible rfl) (by decide) ?_
        repeat (refine awp_seq ?_)
        refine awp_region ?_
        refine aops_gstart ?_
        refine g_take 8 (by simp only [jG, jO, jN, seval, y3, y24, y74, vint, qT, hn0, hn1, g1, g2, Int.toNat_natCast] <;> with_reducible rfl) (by decide) ?_
        refine aops_gpure (by simp only [jE, jN, seval, vint, qT, hn0, hn1, g1, g2, Int.toNat_natCast] <;> with_reducible rfl) (by simp only [jE, jN, seval, vint, qT, hn0, hn1, g1, g2, Int.toNat_natCast] <;> with_reducible rfl) (by simp only [jE, jN, seval, vint, qT, hn0, hn1, g1, g2, Int.toNat_natCast]) (by decide) Trygo38 (fun hc => typesEq_k _ b.t t (Nat.le_refl _) hbw.st_t _) ?_
        refine g_end (by simp only [jG, jO, jN, seval, vint, qT, hn0, hn1, g1, g2, Int.toNat_natCast] <;> with_reducible rfl) (by decide) (by repeat (first | exact Fin.base _ | with_reducible apply Fin.keep | apply Fin.drop)) ?_
        repeat (refine awp_seq ?_)
        refine awp_cond rfl (by simp only [jN, seval, vint, qT, hn0, hn1, g1, g2, Int.toNat_natCast] <;> with_reducible rfl) (fun b1 => ?_) (fun b1 => ?_)
        ·
          have hbp : boundP t tr b = true := by unfold boundP; simpa using b1
          have hix := idxI_at hi (by rw [hbe]; exact hbp) hg
          rw [hix, if_pos (by omega)]
          refine awp_sel [0, 1, 3, 4, 7, 10, 12, 13, 39, 40, 41] (by simp only [jN, seval, vint, qT, hn0, hn1, g1, g2, Int.toNat_natCast] <;> with_reducible rfl) ?_
          repeat (refine awp_seq ?_)
          refine e_eval (by simp only [jA, jO, jN, seval, y24, y63, vint, qT, hn0, hn1, g1, g2, Int.toNat_natCast] <;> with_reducible rfl) (by decide) ?_
          repeat (refine awp_seq ?_)
          refine awp_ret ⟨.inr rfl, _, (ares_two (.cell 10 63) (.tmp 11) rfl (ares_cell1 Tryti63 (by decide) (by simp only [jL, jN, seval, vint, qT, hn0, hn1, g1, g2, Int.toNat_natCast] <;> with_reducible rfl)) (ares_tmp1 (by decide))), ?_⟩
          simp only [jN, seval, vint, qT]
        ·
          have hbp : boundP t tr b = false := by unfold boundP; simpa using b1
          repeat (refine awp_seq ?_)
          refine awp_skip ?_
          exact ⟨⟨rfl, rfl, trivial⟩, (), _, ⟨rfl, rfl, rfl, rfl, rfl, rfl, rfl, rfl, trivial⟩, by simp only [jN, seval, vint, qT] <;> rfl, any_take_succ hi hg (by rw [hbe]; exact hbp)⟩
      · intro s hg
        rw [List.take_length] at hg
        have h2 : ¬ 0 ≤ idxI (boundP t tr) sas := by rw [idxI_none hg]; omega
        rw [if_neg h2]
        repeat (refine awp_seq ?_)
        refine e_eval (by simp only [jA, jO, jN, seval, y59, y71, vint, qT, hn0, hn1] <;> with_reducible rfl) (by decide) ?_
        repeat (refine awp_seq ?_)
        refine awp_forS (σ := Unit) (ds.length) (fun (s : Unit) => [(0, .slice (ds.map Dc.enc) .none), (1, .slice (sas.map TB.enc) .none), (3, vint tr), (4, .int .i64 ((n + 1 : Nat) : Int)), (7, .optr 0 0), (10, .optr 1 0), (12, .optr 2 0), (61, .slice (ds.map Dc.enc) .none)]) [0, 1, 3, 4, 7, 10, 12, 61] ([]) (fun (s : Unit) => [.row t.enc.cells, .row [.int .i64 0, .int .i64 0, .slice [] .full, .int .i64 0, .int .i64 0, .int .i64 0, .slice [] .full, .slice [] .full], .row [.int .i64 0, .int .i64 0, .slice [] .full, .int .i64 0, .int .i64 0, .int .i64 0, .slice [] .full, .slice [] .full]]) (fun (i : Nat) (s : Unit) => (ds.take i).any (implP t tr) = false) (()) ([]) rfl rfl rfl rfl rfl rfl rfl rfl rfl (by decide) (by decide) (by decide) (fun _ => rfl) (hl) ⟨(by first | rfl | (simp only [jN, seval, vint, qT, hn0, hn1] <;> first | done | with_reducible rfl)), (by first | rfl | (simp only [jN, seval, vint, qT, hn0, hn1] <;> first | done | with_reducible rfl)), (by first | rfl | (simp only [jN, seval, vint, qT, hn0, hn1] <;> first | done | with_reducible rfl)), (by first | rfl | (simp only [jN, seval, vint, qT, hn0, hn1] <;> first | done | with_reducible rfl)), (by first | rfl | (simp only [jN, seval, vint, qT, hn0, hn1] <;> first | done | with_reducible rfl)), (by first | rfl | (simp only [jN, seval, vint, qT, hn0, hn1] <;> first | done | with_reducible rfl)), (by first | rfl | (simp only [jN, seval, vint, qT, hn0, hn1] <;> first | done | with_reducible rfl)), (by first | rfl | (simp only [jN, seval, vint, qT, hn0, hn1] <;> first | done | with_reducible rfl)), (by first | rfl | (simp only [jN, seval, vint, qT, hn0, hn1] <;> first | done | with_reducible rfl)), (by first | rfl | (simp only [jN, seval, vint, qT, hn0, hn1] <;> first | done | with_reducible rfl)), trivial⟩ (by first | rfl | (simp only [jN, seval, vint, qT, hn0, hn1] <;> first | done | with_reducible rfl)) (by simp) (fun _ _ _ => by first | exact Nat.zero_le _ | (simp only [List.length_append]; omega)) ?_ ?_ ?_
        · exact fun i s hg => ⟨by simp only [TyS, PfS, DcS, List.nil_append, List.append_nil, List.cons_append]; repeat (first | exact hbel_nil _ | exact trivial | exact obel_row_nil _ | (refine HBel.cons ?_ ?_) | (refine obel_row_cons (by first | exact bel_TB _ _ | exact TB.bel _ _ | exact bel_Dc _ _ | exact Dc.bel _ _ | exact Pf.bel _ _ | exact bel_Pf _ _ | exact Sv.bel _ _ | exact bel_Pf_tok _ (by simp) | exact bel_ints0 _ _ | exact bel_slice_ty _ _ | exact Ty.bel _ _ | exact bel_ty_tok _ (by simp) | exact Bel.int _ _ | exact Bel.bool _ | exact Bel.str _ | exact Bel.nilp | exact Bel.nilfn | exact Bel.optr _ _ (by simp) | exact bel_nil0 _ | exact bel_nil1 _ | exact bel_fn0 _ _ | assumption) ?_)), by repeat (first | exact BelL.nil | refine BelL.cons (by first | exact bel_TB _ _ | exact TB.bel _ _ | exact bel_Dc _ _ | exact Dc.bel _ _ | exact Pf.bel _ _ | exact bel_Pf _ _ | exact Sv.bel _ _ | exact bel_Pf_tok _ (by simp) | exact bel_ints0 _ _ | exact bel_slice_ty _ _ | exact Ty.bel _ _ | exact bel_ty_tok _ (by simp) | exact Bel.int _ _ | exact Bel.bool _ | exact Bel.str _ | exact Bel.nilp | exact Bel.nilfn | exact Bel.optr _ _ (by simp) | exact bel_nil0 _ | exact bel_nil1 _ | exact bel_fn0 _ _ | assumption) ?_)⟩
        · intro i s hi hg
          have g1 := ix_nat hi
          have g2 := get_enc Dc.enc hi
          obtain ⟨d, hde⟩ : ∃ d, ds[i] = d := ⟨_, rfl⟩
          obtain ⟨⟨hW, h40⟩, hdz⟩ := hd _ (List.getElem_mem hi)
          rw [hde] at g2 hW h40 hdz
          have hps := hW.max_ps
          repeat (refine awp_seq ?_)
          refine e_eval (by simp only [jA, jO, jN, seval, y59, y71, vint, qT, hn0, hn1, g1, g2, Int.toNat_natCast] <;> with_reducible rfl) (by decide) ?_
          repeat (refine awp_seq ?_)
          refine e_eval (by simp only [jA, jO, jN, seval, y3, y71, vint, qT, hn0, hn1, g1, g2, Int.toNat_natCast] <;> with_reducible rfl) (by decide) ?_
          repeat (refine awp_seq ?_)
          refine awp_cond rfl (by simp only [jN, seval, vint, qT, hn0, hn1, g1, g2, Int.toNat_natCast] <;> with_reducible rfl) (fun b2 => ?_) (fun b2 => ?_)
          ·
            have htr : ¬ d.tr = tr := by simpa using b2
            repeat (refine awp_seq ?_)
            refine awp_exit ?_
            exact ⟨⟨rfl, rfl, trivial⟩, (), _, ⟨rfl, rfl, rfl, rfl, rfl, rfl, rfl, rfl, trivial⟩, by simp only [jN, seval, vint, qT] <;> rfl, any_take_succ hi hg (by rw [hde]; unfold implP; simp [htr])⟩
          ·
            have htr : d.tr = tr := by simpa using b2
            repeat (refine awp_seq ?_)
            refine awp_skip ?_
            repeat (refine awp_seq ?_)
            refine awp_region ?_
            refine e_take 5 (by simp only [jA, jO, jN, seval, y3, y24, y25, y71, vint, qT, hn0, hn1, g1, g2, Int.toNat_natCast] <;> with_reducible rfl) (by decide) ?_
            refine aops_pure (by simp only [jC, jN, seval, vint, qT, hn0, hn1, g1, g2, Int.toNat_natCast] <;> with_reducible rfl) (by simp only [jC, jN, seval, vint, qT, hn0, hn1, g1, g2, Int.toNat_natCast]) (by decide) Trygo103 (refM_c d.ps t d.t h40 ht hW.st_t hdz _) ?_
            refine e_end (by simp only [jA, jO, jN, seval, vint, qT, hn0, hn1, g1, g2, Int.toNat_natCast] <;> with_reducible rfl) (by decide) ?_
            refine awp_sel [0, 1, 3, 4, 7, 10, 12, 15, 16, 17, 18, 61, 62, 63] (by simp only [jN, seval, vint, qT, hn0, hn1, g1, g2, Int.toNat_natCast] <;> with_reducible rfl) ?_
            repeat (refine awp_seq ?_)
            refine e_eval (by simp only [jA, jO, jN, seval, y3, y25, y71, vint, qT, hn0, hn1, g1, g2, Int.toNat_natCast] <;> with_reducible rfl) (by decide) ?_
            repeat (refine awp_seq ?_)
            refine awp_forS (σ := Bool) (d.ps.length) (fun (f : Bool) => [(0, .slice (ds.map Dc.enc) .none), (1, .slice (sas.map TB.enc) .none), (3, vint tr), (4, .int .i64 ((n + 1 : Nat) : Int)), (7, .optr 0 0), (10, .optr 1 0), (12, .optr 2 0), (61, .slice (ds.map Dc.enc) .none), (62, .int .i64 (ds.length : Nat)), (63, .int .i64 ((i : Nat) : Int)), (15, .int .i64 ((i : Nat) : Int)), (16, .optr 3 0), (17, .slice ((matchP d.ps t d.t).1.map Ty.enc) .none), (18, .bool f), (82, .slice (d.ps.map vint) .none)]) [0, 1, 3, 4, 7, 10, 12, 61, 62, 63, 15, 16, 17, 18, 82] ([]) (fun (f : Bool) => [.row t.enc.cells, .row [.int .i64 0, .int .i64 0, .slice [] .full, .int .i64 0, .int .i64 0, .int .i64 0, .slice [] .full, .slice [] .full], .row [.int .i64 0, .int .i64 0, .slice [] .full, .int .i64 0, .int .i64 0, .int .i64 0, .slice [] .full, .slice [] .full], .row d.enc.cells]) (fun (j : Nat) (f : Bool) => f = ((matchP d.ps t d.t).2 && (d.ps.take j).all fun p => cpar p d.t)) ((matchP d.ps t d.t).2) ([]) rfl rfl rfl rfl rfl rfl rfl rfl rfl (by decide) (by decide) (by decide) (fun _ => rfl) (hps) ⟨(by first | rfl | (simp only [jN, seval, vint, qT, hn0, hn1, g1, g2, Int.toNat_natCast] <;> first | done | with_reducible rfl)), (by first | rfl | (simp only [jN, seval, vint, qT, hn0, hn1, g1, g2, Int.toNat_natCast] <;> first | done | with_reducible rfl)), (by first | rfl | (simp only [jN, seval, vint, qT, hn0, hn1, g1, g2, Int.toNat_natCast] <;> first | done | with_reducible rfl)), (by first | rfl | (simp only [jN, seval, vint, qT, hn0, hn1, g1, g2, Int.toNat_natCast] <;> first | done | with_reducible rfl)), (by first | rfl | (simp only [jN, seval, vint, qT, hn0, hn1, g1, g2, Int.toNat_natCast] <;> first | done | with_reducible rfl)), (by first | rfl | (simp only [jN, seval, vint, qT, hn0, hn1, g1, g2, Int.toNat_natCast] <;> first | done | with_reducible rfl)), (by first | rfl | (simp only [jN, seval, vint, qT, hn0, hn1, g1, g2, Int.toNat_natCast] <;> first | done | with_reducible rfl)), (by first | rfl | (simp only [jN, seval, vint, qT, hn0, hn1, g1, g2, Int.toNat_natCast] <;> first | done | with_reducible rfl)), (by first | rfl | (simp only [jN, seval, vint, qT, hn0, hn1, g1, g2, Int.toNat_natCast] <;> first | done | with_reducible rfl)), (by first | rfl | (simp only [jN, seval, vint, qT, hn0, hn1, g1, g2, Int.toNat_natCast] <;> first | done | with_reducible rfl)), (by first | rfl | (simp only [jN, seval, vint, qT, hn0, hn1, g1, g2, Int.toNat_natCast] <;> first | done | with_reducible rfl)), (by first | rfl | (simp only [jN, seval, vint, qT, hn0, hn1, g1, g2, Int.toNat_natCast] <;> first | done | with_reducible rfl)), (by first | rfl | (simp only [jN, seval, vint, qT, hn0, hn1, g1, g2, Int.toNat_natCast] <;> first | done | with_reducible rfl)), (by first | rfl | (simp only [jN, seval, vint, qT, hn0, hn1, g1, g2, Int.toNat_natCast] <;> first | done | with_reducible rfl)), (by first | rfl | (simp only [jN, seval, vint, qT, hn0, hn1, g1, g2, Int.toNat_natCast] <;> first | done | with_reducible rfl)), (by first | rfl | (simp only [jN, seval, vint, qT, hn0, hn1, g1, g2, Int.toNat_natCast] <;> first | done | with_reducible rfl)), (by first | rfl | (simp only [jN, seval, vint, qT, hn0, hn1, g1, g2, Int.toNat_natCast] <;> first | done | with_reducible rfl)), trivial⟩ (by first | rfl | (simp only [jN, seval, vint, qT, hn0, hn1, g1, g2, Int.toNat_natCast] <;> first | done | with_reducible rfl)) (by simp) (fun _ _ _ => by first | exact Nat.zero_le _ | (simp only [List.length_append]; omega)) ?_ ?_ ?_
            · exact fun i f hg => ⟨by simp only [TyS, PfS, DcS, List.nil_append, List.append_nil, List.cons_append]; repeat (first | exact hbel_nil _ | exact trivial | exact obel_row_nil _ | (refine HBel.cons ?_ ?_) | (refine obel_row_cons (by first | exact bel_TB _ _ | exact TB.bel _ _ | exact bel_Dc _ _ | exact Dc.bel _ _ | exact Pf.bel _ _ | exact bel_Pf _ _ | exact Sv.bel _ _ | exact bel_Pf_tok _ (by simp) | exact bel_ints0 _ _ | exact bel_slice_ty _ _ | exact Ty.bel _ _ | exact bel_ty_tok _ (by simp) | exact Bel.int _ _ | exact Bel.bool _ | exact Bel.str _ | exact Bel.nilp | exact Bel.nilfn | exact Bel.optr _ _ (by simp) | exact bel_nil0 _ | exact bel_nil1 _ | exact bel_fn0 _ _ | assumption) ?_)), by repeat (first | exact BelL.nil | refine BelL.cons (by first | exact bel_TB _ _ | exact TB.bel _ _ | exact bel_Dc _ _ | exact Dc.bel _ _ | exact Pf.bel _ _ | exact bel_Pf _ _ | exact Sv.bel _ _ | exact bel_Pf_tok _ (by simp) | exact bel_ints0 _ _ | exact bel_slice_ty _ _ | exact Ty.bel _ _ | exact bel_ty_tok _ (by simp) | exact Bel.int _ _ | exact Bel.bool _ | exact Bel.str _ | exact Bel.nilp | exact Bel.nilfn | exact Bel.optr _ _ (by simp) | exact bel_nil0 _ | exact bel_nil1 _ | exact bel_fn0 _ _ | assumption) ?_)⟩
            · intro j f hj hh
              have q1 := ix_nat hj
              have q2 := get_enc vint hj
              repeat (refine awp_seq ?_)
              refine e_eval (by simp only [jA, jO, jN, seval, y3, y25, vint, qT, hn0, hn1, g1, g2, Int.toNat_natCast, q1, q2, Int.toNat_natCast] <;> with_reducible rfl) (by decide) ?_
              repeat (refine awp_seq ?_)
              refine awp_region ?_
              refine aops_gstart ?_
              refine g_take 5 (by simp only [jG, jO, jN, seval, y24, y71, vint, qT, hn0, hn1, g1, g2, Int.toNat_natCast, q1, q2, Int.toNat_natCast] <;> with_reducible rfl) (by decide) ?_
              refine aops_gpure (by simp only [jE, jN, seval, vint, qT, hn0, hn1, g1, g2, Int.toNat_natCast, q1, q2, Int.toNat_natCast] <;> with_reducible rfl) (by simp only [jE, jN, seval, vint, qT, hn0, hn1, g1, g2, Int.toNat_natCast, q1, q2, Int.toNat_natCast] <;> with_reducible rfl) (by simp only [jE, jN, seval, vint, qT, hn0, hn1, g1, g2, Int.toNat_natCast, q1, q2, Int.toNat_natCast]) (by decide) Trygo104 (fun hc => paramOccurs_k d.ps[j] _ d.t (Nat.le_refl _) hW.st_t _) ?_
              refine g_end (by simp only [jG, jO, jN, seval, vint, qT, hn0, hn1, g1, g2, Int.toNat_natCast, q1, q2, Int.toNat_natCast] <;> with_reducible rfl) (by decide) (by repeat (first | exact Fin.base _ | with_reducible apply Fin.keep | apply Fin.drop)) ?_
              exact ⟨⟨rfl, rfl, trivial⟩, (f && cpar d.ps[j] d.t), [], ⟨rfl, rfl, rfl, rfl, rfl, rfl, rfl, rfl, rfl, rfl, rfl, rfl, rfl, rfl, rfl, trivial⟩, by simp only [jN, seval, vint, qT] <;> rfl, by rw [hh, List.take_succ_eq_append_getElem hj, List.all_append]; simp [Bool.and_assoc]⟩
            · intro f hh
              rw [List.take_length] at hh
              have hip : implP t tr d = f := by
                rw [hh]; unfold implP; rw [decide_eq_true htr, Bool.true_and, Bool.and_comm]; congr 1
                rw [Bool.eq_iff_iff]; simp [List.all_eq_true, List.any_eq_false]
              repeat (refine awp_seq ?_)
              refine e_eval (by simp only [jA, jO, jN, seval, vint, qT, hn0, hn1, g1, g2, Int.toNat_natCast] <;> with_reducible rfl) (by decide) ?_
              repeat (refine awp_seq ?_)
              refine awp_cond rfl (by simp only [jN, seval, vint, qT, hn0, hn1, g1, g2, Int.toNat_natCast] <;> with_reducible rfl) (fun b3 => ?_) (fun b3 => ?_)
              ·
                have hf : f = false := by simpa using b3
                repeat (refine awp_seq ?_)
                refine awp_exit ?_
                exact ⟨⟨rfl, rfl, trivial⟩, (), _, ⟨rfl, rfl, rfl, rfl, rfl, rfl, rfl, rfl, trivial⟩, by simp only [jN, seval, vint, qT] <;> rfl, any_take_succ hi hg (by rw [hde, hip, hf])⟩
              ·
                have hf : f = true := by simpa using b3
                have hipt : implP t tr d = true := hip.trans hf
                have hix : implIx ds t tr = i := idxI_at hi (by rw [hde]; exact hipt) hg
                have hD : implD ds t tr = d := by unfold implD; rw [hix, Int.toNat_natCast, List.getD_eq_getElem?_getD, List.getElem?_eq_getElem hi, hde]; rfl
                have hA : implAs ds t tr = (matchP d.ps t d.t).1 := by unfold implAs; rw [hix, if_pos (by omega), hD]
                have hM2 : (matchP d.ps t d.t).2 = true := by unfold implP at hipt; simp only [Bool.and_eq_true] at hipt; exact hipt.2
                have hMl := (match_apply _ _ _ ht hM2).1
                have hMw := matchP_W d.ps t d.t ht
                repeat (refine awp_seq ?_)
                refine awp_skip ?_
                repeat (refine awp_seq ?_)
                refine e_eval (by simp only [jA, jO, jN, seval, y3, y60, y71, y74, vint, qT, hn0, hn1, g1, g2, Int.toNat_natCast] <;> with_reducible rfl) (by decide) ?_
                repeat (refine awp_seq ?_)
                refine awp_cond rfl (by simp only [jN, seval, vint, qT, hn0, hn1, g1, g2, Int.toNat_natCast] <;> with_reducible rfl) (fun b4 => ?_) (fun b4 => ?_)
                ·
                  have h3 : implIx ds t tr < 0 ∨ 4 < (implD ds t tr).bs.length := by rw [hD]; right; have := b4; simp at this; omega
                  repeat (refine awp_seq ?_)
                  refine e_eval (by simp only [jA, jO, jN, seval, y63, vint, qT, hn0, hn1, g1, g2, Int.toNat_natCast] <;> with_reducible rfl) (by decide) ?_
                  repeat (refine awp_seq ?_)
                  refine awp_ret ⟨.inr rfl, _, (ares_two (.cell 10 63) (.tmp 11) rfl (ares_cell1 Tryti63 (by decide) (by simp only [jL, jN, seval, vint, qT, hn0, hn1, g1, g2, Int.toNat_natCast] <;> with_reducible rfl)) (ares_tmp1 (by decide))), ?_⟩
                  rw [if_pos h3]
                  simp only [jN, seval, vint, qT]
                  rfl
                ·
                  have hb4 : d.bs.length ≤ 4 := by simp at b4; omega
                  have h3 : ¬ (implIx ds t tr < 0 ∨ 4 < (implD ds t tr).bs.length) := by rw [hD]; omega
                  rw [if_neg h3, hD, hA, hix]
                  have hmx : maxLen = 9223372036854775807 := by decide
                  repeat (refine awp_seq ?_)
                  refine awp_skip ?_
                  repeat (refine awp_seq ?_)
                  refine e_eval (by simp only [jA, jO, jN, seval, y24, y63, vint, qT, hn0, hn1, g1, g2, Int.toNat_natCast] <;> with_reducible rfl) (by decide) ?_
                  repeat (refine awp_seq ?_)
                  refine e_eval (by simp only [jA, jO, jN, seval, y60, y71, y74, vint, qT, hn0, hn1, g1, g2, Int.toNat_natCast] <;> with_reducible rfl) (by decide) ?_
                  repeat (refine awp_seq ?_)
                  refine awp_retok_row 4 7 8 (by simp only [LS, SS, SX, HS]; rfl) rfl ?_
                  refine awp_forS (σ := List Pf) (d.bs.length) (fun (s : List Pf) => [(0, .slice (ds.map Dc.enc) .none), (1, .slice (sas.map TB.enc) .none), (4, .int .i64 ((n + 1 : Nat) : Int)), (10, .optr 1 0), (12, .optr 2 0), (16, .optr 3 0), (17, .slice ((matchP d.ps t d.t).1.map Ty.enc) .none), (21, .optr 4 0), (109, .slice (d.bs.map TB.enc) .none)]) [0, 1, 4, 10, 12, 16, 17, 21, 109] ([]) (fun (s : List Pf) => [.row t.enc.cells, .row [.int .i64 0, .int .i64 0, .slice [] .full, .int .i64 0, .int .i64 0, .int .i64 0, .slice [] .full, .slice [] .full], .row [.int .i64 0, .int .i64 0, .slice [] .full, .int .i64 0, .int .i64 0, .int .i64 0, .slice [] .full, .slice [] .full], .row d.enc.cells, .row [.int .i64 t.kind, .int .i64 t.id, .slice (t.args.map Ty.enc) .none, .int .i64 tr, .int .i64 ((i : Nat) : Int), .int .i64 (-1), .slice ((matchP d.ps t d.t).1.map Ty.enc) .none, .slice (s.map Pf.enc) (.tok 5)], .buf s.length 8]) (fun (j : Nat) (s : List Pf) => (d.bs.take j).all (fun b => (solveT ds sas n (mapT (appG d.ps (matchP d.ps t d.t).1) b.t) b.tr).2) = true ∧ s = (d.bs.take j).map (fun b => (solveT ds sas n (mapT (appG d.ps (matchP d.ps t d.t).1) b.t) b.tr).1)) ([]) ([]) rfl rfl rfl rfl rfl rfl rfl rfl rfl (by decide) (by decide) (by decide) (fun _ => rfl) (by omega) ⟨(by first | rfl | (simp only [jN, seval, vint, qT, hn0, hn1, g1, g2, Int.toNat_natCast] <;> first | done | with_reducible rfl)), (by first | rfl | (simp only [jN, seval, vint, qT, hn0, hn1, g1, g2, Int.toNat_natCast] <;> first | done | with_reducible rfl)), (by first | rfl | (simp only [jN, seval, vint, qT, hn0, hn1, g1, g2, Int.toNat_natCast] <;> first | done | with_reducible rfl)), (by first | rfl | (simp only [jN, seval, vint, qT, hn0, hn1, g1, g2, Int.toNat_natCast] <;> first | done | with_reducible rfl)), (by first | rfl | (simp only [jN, seval, vint, qT, hn0, hn1, g1, g2, Int.toNat_natCast] <;> first | done | with_reducible rfl)), (by first | rfl | (simp only [jN, seval, vint, qT, hn0, hn1, g1, g2, Int.toNat_natCast] <;> first | done | with_reducible rfl)), (by first | rfl | (simp only [jN, seval, vint, qT, hn0, hn1, g1, g2, Int.toNat_natCast] <;> first | done | with_reducible rfl)), (by first | rfl | (simp only [jN, seval, vint, qT, hn0, hn1, g1, g2, Int.toNat_natCast] <;> first | done | with_reducible rfl)), (by first | rfl | (simp only [jN, seval, vint, qT, hn0, hn1, g1, g2, Int.toNat_natCast] <;> first | done | with_reducible rfl)), (by first | rfl | (simp only [jN, seval, vint, qT, hn0, hn1, g1, g2, Int.toNat_natCast] <;> first | done | with_reducible rfl)), (by first | rfl | (simp only [jN, seval, vint, qT, hn0, hn1, g1, g2, Int.toNat_natCast] <;> first | done | with_reducible rfl)), trivial⟩ (by first | rfl | (simp only [jN, seval, vint, qT, hn0, hn1, g1, g2, Int.toNat_natCast] <;> first | done | with_reducible rfl)) (by simp) (fun _ _ _ => by first | exact Nat.zero_le _ | (simp only [List.length_append]; omega)) ?_ ?_ ?_
                  · exact fun i s hg => ⟨by simp only [TyS, PfS, DcS, List.nil_append, List.append_nil, List.cons_append]; repeat (first | exact hbel_nil _ | exact trivial | exact obel_row_nil _ | (refine HBel.cons ?_ ?_) | (refine obel_row_cons (by first | exact bel_TB _ _ | exact TB.bel _ _ | exact bel_Dc _ _ | exact Dc.bel _ _ | exact Pf.bel _ _ | exact bel_Pf _ _ | exact Sv.bel _ _ | exact bel_Pf_tok _ (by simp) | exact bel_ints0 _ _ | exact bel_slice_ty _ _ | exact Ty.bel _ _ | exact bel_ty_tok _ (by simp) | exact Bel.int _ _ | exact Bel.bool _ | exact Bel.str _ | exact Bel.nilp | exact Bel.nilfn | exact Bel.optr _ _ (by simp) | exact bel_nil0 _ | exact bel_nil1 _ | exact bel_fn0 _ _ | assumption) ?_)), by repeat (first | exact BelL.nil | refine BelL.cons (by first | exact bel_TB _ _ | exact TB.bel _ _ | exact bel_Dc _ _ | exact Dc.bel _ _ | exact Pf.bel _ _ | exact bel_Pf _ _ | exact Sv.bel _ _ | exact bel_Pf_tok _ (by simp) | exact bel_ints0 _ _ | exact bel_slice_ty _ _ | exact Ty.bel _ _ | exact bel_ty_tok _ (by simp) | exact Bel.int _ _ | exact Bel.bool _ | exact Bel.str _ | exact Bel.nilp | exact Bel.nilfn | exact Bel.optr _ _ (by simp) | exact bel_nil0 _ | exact bel_nil1 _ | exact bel_fn0 _ _ | assumption) ?_)⟩
                  · intro j s hj hk
                    have q1 := ix_nat hj
                    have q2 := get_enc TB.enc hj
                    have hbw := hW.el_bs _ (List.getElem_mem hj)
                    obtain ⟨b, hbe⟩ : ∃ b, d.bs[j] = b := ⟨_, rfl⟩
                    rw [hbe] at q2 hbw
                    have hWa := app_W (ps := d.ps) hMw hbw.st_t
                    have hsn : s.length = j := by rw [hk.2, List.length_map, List.length_take]; omega
                    have happ := app_Pf (us := s) (u := (solveT ds sas n (mapT (appG d.ps (matchP d.ps t d.t).1) b.t) b.tr).1) (id := 5) (tl := .full) (by omega)
                    repeat (refine awp_seq ?_)
                    refine e_eval (by simp only [jA, jO, jN, seval, y60, y74, vint, qT, hn0, hn1, g1, g2, Int.toNat_natCast, q1, q2, Int.toNat_natCast] <;> with_reducible rfl) (by decide) ?_
                    repeat (refine awp_seq ?_)
                    refine awp_draw 1 (by kernel_rfl) ?_
                    refine d_take (bm := [0, 0, 0, 4, 0, 16, 0, 124, 0, 256, 0, 1024, 4095, 8191, 16383, 16383, 0, 98303, 262143]) 7 (fresh := (7)) (by kernel_rfl) (by simp only [jD, jO, jN, seval, y3, y24, y25, y71, y74, vint, qT, hn0, hn1, g1, g2, Int.toNat_natCast, q1, q2, Int.toNat_natCast] <;> with_reducible rfl) (by decide) (by decide) ?_
                    refine dops_keep (bm := [0, 0, 0, 4, 0, 16, 0, 124, 0, 256, 0, 1024, 4095, 8191, 16383, 16383, 0, 98303, 262143]) ([]) (by kernel_rfl) (by simp only [jC, jN, seval, vint, qT, hn0, hn1, g1, g2, Int.toNat_natCast, q1, q2, Int.toNat_natCast] <;> with_reducible rfl) (by simp only [jC, jN, seval, vint, qT, hn0, hn1, g1, g2, Int.toNat_natCast, q1, q2, Int.toNat_natCast]) (by decide) Trygo105 (fun H' _ => applyArgs_k d.ps (matchP d.ps t d.t).1 hps hMl hMw _ b.t (Nat.le_refl _) hbw.st_t H') (by simp only [jD, jO, jN, seval, vint, qT, hn0, hn1, g1, g2, Int.toNat_natCast, q1, q2, Int.toNat_natCast] <;> first | done | rfl) ?_
                    refine d_take (bm := [0, 0, 0, 4, 0, 16, 0, 124, 0, 256, 0, 1024, 4095, 8191, 16383, 16383, 0, 98303, 262143]) 4 (fresh := (7)) (by kernel_rfl) (by simp only [jD, jO, jN, seval, y3, y74, vint, qT, hn0, hn1, g1, g2, Int.toNat_natCast, q1, q2, Int.toNat_natCast] <;> with_reducible rfl) (by decide) (by decide) ?_
                    refine dops_keep (bm := [0, 0, 0, 4, 0, 16, 0, 124, 0, 256, 0, 1024, 4095, 8191, 16383, 16383, 0, 98303, 262143]) ([]) (by kernel_rfl) (by simp only [jC, jN, seval, vint, qT, hn0, hn1, g1, g2, Int.toNat_natCast, q1, q2, Int.toNat_natCast] <;> with_reducible rfl) (by simp only [jC, jN, seval, vint, qT, hn0, hn1, g1, g2, Int.toNat_natCast, q1, q2, Int.toNat_natCast]) (by decide) Trygo50 (fun H' _ => search_k ds sas hl hd hsl hs n (mapT (appG d.ps (matchP d.ps t d.t).1) b.t) b.tr (by omega) hWa H') (by simp only [jD, jO, jN, seval, vint, qT, hn0, hn1, g1, g2, Int.toNat_natCast, q1, q2, Int.toNat_natCast] <;> first | done | rfl) ?_
                    refine d_end (bm := [0, 0, 0, 4, 0, 16, 0, 124, 0, 256, 0, 1024, 4095, 8191, 16383, 16383, 0, 98303, 262143]) (fresh := (7)) (by kernel_rfl) (by simp only [jD, jO, jN, seval, y63, vint, qT, hn0, hn1, g1, g2, Int.toNat_natCast, q1, q2, Int.toNat_natCast] <;> with_reducible rfl) (by decide) ?_
                    refine awp_sel [0, 1, 3, 4, 7, 10, 12, 16, 17, 21, 24, 25, 61, 62, 63, 109, 110, 111] (by simp only [jN, seval, vint, qT, hn0, hn1, g1, g2, Int.toNat_natCast, q1, q2, Int.toNat_natCast] <;> with_reducible rfl) ?_
                    repeat (refine awp_seq ?_)
                    refine e_eval (by simp only [jA, jO, jN, seval, vint, qT, hn0, hn1, g1, g2, Int.toNat_natCast, q1, q2, Int.toNat_natCast] <;> with_reducible rfl) (by decide) ?_
                    repeat (refine awp_seq ?_)
                    refine awp_cond rfl (by simp only [jN, seval, vint, qT, hn0, hn1, g1, g2, Int.toNat_natCast, q1, q2, Int.toNat_natCast] <;> with_reducible rfl) (fun b5 => ?_) (fun b5 => ?_)
                    ·
                      repeat (refine awp_seq ?_)
                      refine e_eval (by simp only [jA, jO, jN, seval, y63, vint, qT, hn0, hn1, g1, g2, Int.toNat_natCast, q1, q2, Int.toNat_natCast] <;> with_reducible rfl) (by decide) ?_
                      repeat (refine awp_seq ?_)
                      refine awp_ret ⟨.inr rfl, _, (ares_two (.cell 10 63) (.tmp 11) rfl (ares_cell1 Tryti63 (by decide) (by simp only [jL, jN, seval, vint, qT, hn0, hn1, g1, g2, Int.toNat_natCast, q1, q2, Int.toNat_natCast] <;> with_reducible rfl)) (ares_tmp1 (by decide))), ?_⟩
                      have hbad : ¬ (d.bs.all (fun b => (solveT ds sas n (mapT (appG d.ps (matchP d.ps t d.t).1) b.t) b.tr).2)) = true := by
                        rw [List.all_eq_true]
                        intro h
                        have := h d.bs[j] (List.getElem_mem hj)
                        rw [hbe] at this
                        simp [this] at b5
                      rw [if_neg hbad]
                      simp only [jN, seval, vint, qT]
                      rfl
                    ·
                      repeat (refine awp_seq ?_)
                      refine awp_skip ?_
                      repeat (refine awp_seq ?_)
                      refine e_eval (by simp only [jA, jO, jN, seval, y61, y63, vint, qT, hn0, hn1, g1, g2, Int.toNat_natCast, q1, q2, Int.toNat_natCast, happ] <;> with_reducible rfl) (by decide) ?_
                      exact ⟨⟨rfl, rfl, trivial⟩, s ++ [(solveT ds sas n (mapT (appG d.ps (matchP d.ps t d.t).1) b.t) b.tr).1], _, ⟨rfl, rfl, rfl, rfl, rfl, rfl, rfl, rfl, rfl, trivial⟩, by simp only [jN, seval, vint, qT, List.length_append, List.length_singleton] <;> rfl, all_take_succ hj hk.1 (by simp only [hbe]; simpa using b5), by rw [hk.2, map_take_succ _ hj, hbe]⟩
                  · intro s hk
                    rw [List.take_length] at hk
                    repeat (refine awp_seq ?_)
                    refine e_eval (by simp only [jA, jO, jN, seval, y63, vint, qT, hn0, hn1, g1, g2, Int.toNat_natCast] <;> with_reducible rfl) (by decide) ?_
                    repeat (refine awp_seq ?_)
                    refine awp_ret ⟨.inr rfl, _, (ares_two (.cell 10 63) (.tmp 11) rfl (ares_cell1 Tryti63 (by decide) (by simp only [jL, jN, seval, vint, qT, hn0, hn1, g1, g2, Int.toNat_natCast] <;> with_reducible rfl)) (ares_tmp1 (by decide))), ?_⟩
                    rw [if_pos hk.1, ← hk.2]
                    simp only [jN, seval, vint, qT]
        · intro s hg
          rw [List.take_length] at hg
          have h3 : implIx ds t tr < 0 ∨ 4 < (implD ds t tr).bs.length := by left; unfold implIx; rw [idxI_none hg]; omega
          rw [if_pos h3]
          repeat (refine awp_seq ?_)
          refine e_eval (by simp only [jA, jO, jN, seval, y63, vint, qT, hn0, hn1] <;> with_reducible rfl) (by decide) ?_
          repeat (refine awp_seq ?_)
          refine awp_ret ⟨.inr rfl, _, (ares_two (.cell 10 63) (.tmp 11) rfl (ares_cell1 Tryti63 (by decide) (by simp only [jL, jN, seval, vint, qT, hn0, hn1] <;> with_reducible rfl)) (ares_tmp1 (by decide))), ?_⟩
          simp only [jN, seval, vint, qT]
          rfl

end Go.Abs
namespace Go.Abs
/-! The plain laws of package types. -/
theorem measL_mono : ∀ (fs : List (Int → Int × Int)) (L : Int) (s : Int × Int), (∀ f ∈ fs, ∀ M, 0 ≤ M → 1 ≤ (f M).1) → s.1 ≤ (measL fs L s).1
  | [], L, s, _ => Int.le_refl _
  | f :: fs, L, s, hf => by
    rw [measL_cons]
    split
    · exact Int.le_refl _
    · rename_i h
      have hs : s.1 ≤ L := by have : ¬ s.1 > L := fun q => h (decide_eq_true q); omega
      have h1 := hf f (List.mem_cons_self ..) (L - s.1) (by omega)
      have h2 := measL_mono fs L (s.1 + (f (L - s.1)).1, max s.2 (f (L - s.1)).2) fun g hg => hf g (List.mem_cons_of_mem _ hg)
      simp only at h2
      omega
theorem measT_size : ∀ (t : Ty) (L : Int), 0 ≤ L → (measT t L).1 ≤ L → (measT t L).1 = t.size
  | .mk k i us, L, hL, h => by
    have key : ∀ (vs : List Ty), (∀ u ∈ vs, u ∈ us) → ∀ s : Int × Int, (measL (vs.map fun u L => measT u L) L s).1 ≤ L → (measL (vs.map fun u L => measT u L) L s).1 = s.1 + Ty.sizes vs := by
      intro vs
      induction vs with
      | nil => intro _ s _; simp [measL, Ty.sizes]
      | cons u vs ih =>
        intro hv s hle
        have hpos : ∀ f ∈ vs.map (fun u L => measT u L), ∀ M, 0 ≤ M → 1 ≤ (f M).1 := fun f hf M hM => by
          obtain ⟨u, _, rfl⟩ := List.mem_map.1 hf
          exact (measT_bd u M hM).1
        rw [List.map_cons, measL_cons] at hle ⊢
        split at hle
        · rename_i hq; have := of_decide_eq_true hq; omega
        · rename_i hq
          rw [if_neg hq]
          have hs : s.1 ≤ L := by have : ¬ s.1 > L := fun q => hq (decide_eq_true q); omega
          have hmono := measL_mono (vs.map fun u L => measT u L) L (s.1 + (measT u (L - s.1)).1, max s.2 (measT u (L - s.1)).2) hpos
          simp only at hmono
          have hu := measT_size u (L - s.1) (by omega) (by omega)
          rw [ih (fun w hw => hv w (List.mem_cons_of_mem _ hw)) _ hle]
          simp only [hu, Ty.sizes]
          omega
    rw [measT] at h ⊢
    simp only at h ⊢
    rw [key us (fun u hu => hu) (1, 0) h]
    simp only [Ty.size]
    omega
  termination_by t => t
  decreasing_by
    simp_wf
    have hmem := hv u (List.mem_cons_self ..)
    have := List.sizeOf_lt_of_mem hmem
    omega
theorem val_size {t : Ty} (h : valT t = 0) : t.size ≤ 100 := by
  unfold valT at h
  split at h
  · cases h
  · rename_i hq
    rw [Bool.or_eq_true, not_or] at hq
    have h1 : (measT t 100).1 ≤ 100 := by have : ¬ (measT t 100).1 > 100 := fun q => hq.1 (decide_eq_true q); omega
    have := measT_size t 100 (by decide) h1
    omega

/-- The variable x occurs. -/
def occ (x : Int) : Ty → Bool
  | .mk k i us => (decide (k = 1) && decide (i = x)) || (us.map fun u => occ x u).any id
theorem occ_eq (x : Int) (t : Ty) : occ x t = ((decide (t.kind = 1) && decide (t.id = x)) || t.args.any (occ x)) := by
  cases t; rw [occ, List.any_map]; rfl
theorem occ_mk (x : Int) (k i : Int) (us : List Ty) : occ x (.mk k i us) = ((decide (k = 1) && decide (i = x)) || us.any (occ x)) := by
  rw [occ, List.any_map]; rfl
theorem mem_afv (x : Int) : ∀ (t : Ty) (vs : List Int), x ∈ afv t vs ↔ x ∈ vs ∨ occ x t = true
  | .mk k i us, vs => by
    have key : ∀ (us : List Ty), (∀ u ∈ us, ∀ vs : List Int, x ∈ afv u vs ↔ x ∈ vs ∨ occ x u = true) → ∀ vs : List Int, x ∈ afvL (us.map fun u vs => afv u vs) vs ↔ x ∈ vs ∨ us.any (occ x) = true := by
      intro us
      induction us with
      | nil => intro _ vs; simp [afvL]
      | cons u us ih =>
        intro h vs
        rw [List.map_cons, afvL_cons, ih (fun u hu => h u (List.mem_cons_of_mem _ hu)), h u (List.mem_cons_self ..)]
        simp only [List.any_cons, Bool.or_eq_true, or_assoc]
    rw [afv, key us (fun u hu vs => mem_afv x u vs), occ_mk]
    by_cases hk : k = 1
    · cases hv : vs.any (fun x => decide (i = x)) with
      | true =>
        have hm : i ∈ vs := by
          obtain ⟨y, hy, e⟩ := List.any_eq_true.1 hv
          exact of_decide_eq_true e ▸ hy
        rw [if_neg (by simp)]
        by_cases hx : i = x
        · subst hx; simp [hm]
        · simp [hx]
      | false =>
        rw [if_pos (by simp [hk])]
        by_cases hx : i = x
        · subst hx; simp [hk]
        · have hx2 : ¬ x = i := fun e => hx e.symm
          simp [hx, hx2]
    · rw [if_neg (by simp [hk])]
      simp [hk]

theorem sub_none (s : List Bd) : ∀ (t : Ty), (∀ b ∈ s, occ b.v t = false) → mapT (subG s) t = t
  | .mk k i us, h => by
    have hh : ∀ b ∈ s, (decide (k = 1) && decide (i = b.v)) = false ∧ us.any (occ b.v) = false := fun b hb => by
      have := h b hb
      rw [occ_mk, Bool.or_eq_false_iff] at this
      exact this
    have hg : (subG s (.mk k i us)).2 = false := by
      unfold subG
      by_cases hk : k = 1
      · have : (s.any fun b => decide (b.v = (Ty.mk k i us).id)) = false := by
          rw [List.any_eq_false]
          intro b hb e
          have h1 := (hh b hb).1
          have e' : b.v = i := of_decide_eq_true e
          simp [hk, e'] at h1
        rw [idxI_none this]
        split <;> rfl
      · have : (Ty.mk k i us).kind ≠ 1 := hk
        rw [decide_eq_false this]; rfl
    rw [mapT, hg, if_neg (by simp)]
    congr 1
    have : ∀ u ∈ us, mapT (subG s) u = u := fun u hu => sub_none s u fun b hb => by
      have := (hh b hb).2
      rw [List.any_eq_false] at this
      simpa using this u hu
    rw [List.map_congr_left this, List.map_id'']
    intro x; rfl

theorem sub_hit {s : List Bd} {u : Ty} {i : Nat} (hk : u.kind = 1) (hi : i < s.length) (h1 : s[i].v = u.id) (h2 : (s.take i).any (fun b : Bd => decide (b.v = u.id)) = false) : subG s u = (s[i].t, true) := by
  unfold subG
  rw [decide_eq_true hk, idxI_at hi (decide_eq_true h1) h2, if_neg (by simp), if_neg (by simp)]
  simp [List.getD, hi]
theorem sub_miss {s : List Bd} {u : Ty} (h : u.kind = 1 → s.any (fun b : Bd => decide (b.v = u.id)) = false) : subG s u = (u, false) := by
  unfold subG
  by_cases hk : u.kind = 1
  · rw [idxI_none (h hk)]
    split <;> rfl
  · rw [decide_eq_false hk]; rfl

theorem sub1_eq (v : Int) (r u : Ty) : subG [⟨v, r⟩] u = if u.kind = 1 ∧ u.id = v then (r, true) else (u, false) := by
  by_cases hk : u.kind = 1 ∧ u.id = v
  · rw [if_pos hk]
    exact sub_hit (i := 0) hk.1 (by simp) hk.2.symm rfl
  · rw [if_neg hk]
    refine sub_miss fun h => ?_
    simp only [List.any_cons, List.any_nil, Bool.or_false]
    exact decide_eq_false fun e => hk ⟨h, e.symm⟩
theorem occ_sub (x v : Int) (r : Ty) : ∀ t : Ty, occ x (mapT (subG [⟨v, r⟩]) t) = true → occ x r = true ∨ (x ≠ v ∧ occ x t = true)
  | .mk k i us, h => by
    rw [mapT, sub1_eq] at h
    by_cases hq : (Ty.mk k i us).kind = 1 ∧ (Ty.mk k i us).id = v
    · rw [if_pos hq, if_pos rfl] at h
      exact .inl h
    · rw [if_neg hq, if_neg (by simp), occ_mk, Bool.or_eq_true] at h
      rcases h with h | h
      · rw [Bool.and_eq_true] at h
        have h1 : k = 1 := of_decide_eq_true h.1
        have h2 : i = x := of_decide_eq_true h.2
        refine .inr ⟨fun e => hq ⟨h1, h2.trans e⟩, ?_⟩
        rw [occ_mk, decide_eq_true h1, decide_eq_true h2]; rfl
      · rw [List.any_map, List.any_eq_true] at h
        obtain ⟨u, hu, h⟩ := h
        rcases occ_sub x v r u h with h | ⟨h1, h2⟩
        · exact .inl h
        · refine .inr ⟨h1, ?_⟩
          rw [occ_mk, Bool.or_eq_true]
          exact .inr (List.any_eq_true.2 ⟨u, hu, h2⟩)
theorem sub2_eq (x y : Int) (a b u : Ty) (hxy : x ≠ y) : subG [⟨x, a⟩, ⟨y, b⟩] u = if u.kind = 1 ∧ u.id = x then (a, true) else if u.kind = 1 ∧ u.id = y then (b, true) else (u, false) := by
  by_cases hx : u.kind = 1 ∧ u.id = x
  · rw [if_pos hx]
    exact sub_hit (i := 0) hx.1 (by simp) hx.2.symm rfl
  · rw [if_neg hx]
    by_cases hy : u.kind = 1 ∧ u.id = y
    · rw [if_pos hy]
      refine sub_hit (i := 1) hy.1 (by simp) hy.2.symm ?_
      simp only [List.take_succ_cons, List.take_zero, List.any_cons, List.any_nil, Bool.or_false]
      exact decide_eq_false fun e => hxy (e.trans hy.2)
    · rw [if_neg hy]
      refine sub_miss fun h => ?_
      simp only [List.any_cons, List.any_nil, Bool.or_false]
      rw [decide_eq_false fun e => hx ⟨h, e.symm⟩, decide_eq_false fun e => hy ⟨h, e.symm⟩]
      rfl
theorem sub_seq (x y : Int) (a b : Ty) (hxy : x ≠ y) (ha : occ y a = false) : ∀ t : Ty, mapT (subG [⟨y, b⟩]) (mapT (subG [⟨x, a⟩]) t) = mapT (subG [⟨x, a⟩, ⟨y, b⟩]) t
  | .mk k i us => by
    have hra : mapT (subG [⟨y, b⟩]) a = a := sub_none _ a (by simp [ha])
    by_cases hx : (Ty.mk k i us).kind = 1 ∧ (Ty.mk k i us).id = x
    · rw [mapT, mapT, sub1_eq, sub2_eq _ _ _ _ _ hxy, if_pos hx, if_pos hx, if_pos rfl, if_pos rfl]
      exact hra
    · rw [mapT, mapT, sub1_eq, sub2_eq _ _ _ _ _ hxy, if_neg hx, if_neg hx, if_neg (by simp), mapT, sub1_eq]
      by_cases hy : k = 1 ∧ i = y
      · have h1 : (Ty.mk k i (us.map (mapT (subG [⟨x, a⟩])))).kind = 1 ∧ (Ty.mk k i (us.map (mapT (subG [⟨x, a⟩])))).id = y := hy
        have h2 : (Ty.mk k i us).kind = 1 ∧ (Ty.mk k i us).id = y := hy
        rw [if_pos h1, if_pos h2, if_pos rfl, if_pos rfl]
      · have h1 : ¬ ((Ty.mk k i (us.map (mapT (subG [⟨x, a⟩])))).kind = 1 ∧ (Ty.mk k i (us.map (mapT (subG [⟨x, a⟩])))).id = y) := hy
        have h2 : ¬ ((Ty.mk k i us).kind = 1 ∧ (Ty.mk k i us).id = y) := hy
        rw [if_neg h1, if_neg h2, if_neg (by simp), if_neg (by simp), List.map_map]
        congr 1
        exact List.map_congr_left fun u hu => sub_seq x y a b hxy ha u
theorem sub_swap (x y : Int) (a b : Ty) (hxy : x ≠ y) : ∀ t : Ty, mapT (subG [⟨x, a⟩, ⟨y, b⟩]) t = mapT (subG [⟨y, b⟩, ⟨x, a⟩]) t
  | .mk k i us => by
    rw [mapT, mapT, sub2_eq _ _ _ _ _ hxy, sub2_eq _ _ _ _ _ (Ne.symm hxy)]
    by_cases hx : (Ty.mk k i us).kind = 1 ∧ (Ty.mk k i us).id = x
    · have hy : ¬ ((Ty.mk k i us).kind = 1 ∧ (Ty.mk k i us).id = y) := fun h => hxy (hx.2.symm.trans h.2)
      rw [if_pos hx, if_neg hy, if_pos hx, if_pos rfl, if_pos rfl]
    · rw [if_neg hx, if_neg hx]
      by_cases hy : (Ty.mk k i us).kind = 1 ∧ (Ty.mk k i us).id = y
      · rw [if_pos hy, if_pos rfl, if_pos rfl]
      · rw [if_neg hy, if_neg (by simp), if_neg (by simp)]
        congr 1
        exact List.map_congr_left fun u hu => sub_swap x y a b hxy u
theorem ground {a : Ty} (h : afv a [] = []) (x : Int) : occ x a = false := by
  cases hq : occ x a with
  | false => rfl
  | true => have := (mem_afv x a []).2 (.inr hq); rw [h] at this; cases this
/-- Two substitutions of ground types. -/
theorem sub_comm (t a b : Ty) (x y : Int) (hxy : x ≠ y) (ha : afv a [] = []) (hb : afv b [] = []) :
    mapT (subG [⟨y, b⟩]) (mapT (subG [⟨x, a⟩]) t) = mapT (subG [⟨x, a⟩, ⟨y, b⟩]) t ∧ mapT (subG [⟨x, a⟩]) (mapT (subG [⟨y, b⟩]) t) = mapT (subG [⟨x, a⟩, ⟨y, b⟩]) t :=
  ⟨sub_seq x y a b hxy (ground ha y) t, (sub_seq y x b a (Ne.symm hxy) (ground hb x) t).trans (sub_swap y x b a (Ne.symm hxy) t)⟩
end Go.Abs
namespace Go.Abs
theorem any_occ (t : Ty) (w : Int) : ((afv t []).any fun x => decide (w = x)) = occ w t := by
  rw [Bool.eq_iff_iff, List.any_eq_true]
  have := mem_afv w t []
  simp only [List.not_mem_nil, false_or] at this
  rw [← this]
  constructor
  · rintro ⟨x, hx, e⟩; exact of_decide_eq_true e ▸ hx
  · intro h; exact ⟨w, h, decide_eq_true rfl⟩
theorem size_ge (t : Ty) : 1 ≤ t.size := by cases t; simp [Ty.size]
theorem sub_size (s : List Bd) (m : Nat) (hm : 1 ≤ m) (hs : ∀ b ∈ s, b.t.size ≤ m) : ∀ t : Ty, (mapT (subG s) t).size ≤ t.size * m
  | .mk k i us => by
    have hsz : (Ty.mk k i us).size = 1 + Ty.sizes us := by simp [Ty.size]
    rw [mapT]
    split
    · rename_i hq
      have h1 : (subG s (Ty.mk k i us)).1.size ≤ m := by
        unfold subG at hq ⊢
        split at hq
        · cases hq
        · rename_i a1
          split at hq
          · cases hq
          · rename_i a2
            rw [if_neg a1, if_neg a2]
            simp only
            rw [List.getD_eq_getElem?_getD]
            cases hq' : s[(idxI (fun b : Bd => decide (b.v = (Ty.mk k i us).id)) s).toNat]? with
            | none => simp [Ty.size, Ty.sizes]; omega
            | some b => exact hs b (List.mem_of_getElem? hq')
      have := Nat.le_mul_of_pos_left m (size_ge (Ty.mk k i us))
      omega
    · have key : ∀ vs : List Ty, (∀ u ∈ vs, (mapT (subG s) u).size ≤ u.size * m) → Ty.sizes (vs.map fun u => mapT (subG s) u) ≤ Ty.sizes vs * m := by
        intro vs
        induction vs with
        | nil => intro _; simp [Ty.sizes]
        | cons u vs ih =>
          intro h
          have h1 := h u (List.mem_cons_self ..)
          have h2 := ih fun w hw => h w (List.mem_cons_of_mem _ hw)
          simp only [List.map_cons, Ty.sizes, Nat.add_mul]
          omega
      have h1 := key us fun u hu => sub_size s m hm hs u
      rw [hsz, Nat.add_mul]
      simp only [Ty.size]
      omega
end Go.Abs
namespace Go.Abs
theorem afv_max {t : Ty} (h : t.size ≤ 10000) : (afv t []).length ≤ maxLen := by
  have em : maxLen = 9223372036854775807 := by decide
  have := (afv_len t []).2
  simp at this
  rw [em]; omega
end Go.Abs
namespace Go.Abs
/-! The reference's functions on types. -/
def depL : List Int → Int → Int
  | [], m => m
  | d :: ds, m => depL ds (max m (d + 1))
def dep : Ty → Int
  | .mk _ _ us => depL (us.map fun u => dep u) 1
theorem depL_cons (d : Int) (ds : List Int) (m : Int) : depL (d :: ds) m = depL ds (max m (d + 1)) := rfl
theorem depL_nil (m : Int) : depL [] m = m := rfl
theorem dep_eq (t : Ty) : dep t = depL (t.args.map dep) 1 := by cases t; rw [dep]; rfl
theorem depL_bd : ∀ (ds : List Int) (m : Int), 1 ≤ m → m ≤ depL ds m
  | [], m, h => Int.le_refl _
  | d :: ds, m, h => by
    have := depL_bd ds (max m (d + 1)) (by omega)
    rw [depL_cons]; omega
theorem depL_le : ∀ (us : List Ty) (m : Int), (∀ u ∈ us, dep u ≤ u.size) → depL (us.map dep) m ≤ max m (Ty.sizes us + 1)
  | [], m, _ => by simp only [List.map_nil, depL_nil]; omega
  | u :: us, m, h => by
    have h1 := h u (List.mem_cons_self ..)
    have h2 := depL_le us (max m (dep u + 1)) fun w hw => h w (List.mem_cons_of_mem _ hw)
    rw [List.map_cons, depL_cons]
    simp only [Ty.sizes]
    omega
theorem dep_bd : ∀ t : Ty, 1 ≤ dep t ∧ dep t ≤ t.size
  | .mk k i us => by
    have h1 := depL_bd (us.map dep) 1 (by decide)
    have h2 := depL_le us 1 fun u hu => (dep_bd u).2
    rw [dep_eq]
    simp only [Ty.args, Ty.size]
    constructor
    · exact h1
    · omega
theorem measT_full : ∀ (t : Ty) (L : Int), (t.size : Int) ≤ L → measT t L = ((t.size : Int), dep t)
  | .mk k i us, L, h => by
    have hsz : (Ty.mk k i us).size = 1 + Ty.sizes us := by simp [Ty.size]
    have key : ∀ (vs : List Ty), (∀ u ∈ vs, u ∈ us) → ∀ s : Int × Int, 1 ≤ s.1 → 0 ≤ s.2 → s.1 + Ty.sizes vs ≤ L → measL (vs.map fun u L => measT u L) L s = (s.1 + Ty.sizes vs, depL (vs.map dep) (s.2 + 1) - 1) := by
      intro vs
      induction vs with
      | nil => intro _ s _ _ _; simp [measL, Ty.sizes, depL]
      | cons u vs ih =>
        intro hv s h1 h0 hle
        simp only [Ty.sizes] at hle
        have hd := dep_bd u
        rw [List.map_cons, measL_cons, if_neg (by simp; omega), measT_full u (L - s.1) (by omega)]
        rw [ih (fun w hw => hv w (List.mem_cons_of_mem _ hw)) _ (by simp only; omega) (by simp only; omega) (by simp only; omega), List.map_cons, depL_cons]
        simp only [Ty.sizes]
        have e : max s.2 (dep u) + 1 = max (s.2 + 1) (dep u + 1) := by omega
        rw [e]
        congr 1
        omega
    rw [measT, key us (fun u hu => hu) (1, 0) (by decide) (by decide) (by simp only; omega), dep_eq, hsz]
    simp only [Ty.args]
    refine Prod.ext (by simp only; omega) ?_
    simp only
    show depL (us.map dep) (0 + 1) - 1 + 1 = depL (us.map dep) 1
    rw [Int.zero_add]; omega
  termination_by t => t
  decreasing_by
    simp_wf
    have hmem := hv u (List.mem_cons_self ..)
    have := List.sizeOf_lt_of_mem hmem
    omega
theorem val_eq (t : Ty) : (if (decide ((t.size : Int) > 100) || decide (dep t > 12)) = true then 2 else if (!wfT t) = true then 3 else 0) = valT t := by
  unfold valT
  by_cases h : (t.size : Int) ≤ 100
  · rw [measT_full t 100 h]
  · have h1 : ¬ (measT t 100).1 ≤ 100 := fun q => by have := measT_size t 100 (by decide) q; omega
    rw [if_pos (by rw [Bool.or_eq_true]; exact .inl (decide_eq_true (by omega))), if_pos (by rw [Bool.or_eq_true]; exact .inl (decide_eq_true (by omega)))]

/-- The variables as the reference gathers them. -/
def addv (vs : List Int) (x : Int) : List Int := if (vs.any fun y => decide (y = x)) = true then vs else vs ++ [x]
def varsT : Ty → List Int
  | .mk k i us => if decide (k = 1) = true then [i] else (us.map fun u => varsT u).foldl (fun vs ws => ws.foldl addv vs) []
theorem varsT_eq (t : Ty) : varsT t = if decide (t.kind = 1) = true then [t.id] else (t.args.map varsT).foldl (fun vs ws => ws.foldl addv vs) [] := by
  cases t; rw [varsT]; rfl
theorem mem_addv {x : Int} {vs : List Int} {y : Int} (h : x ∈ vs) : x ∈ addv vs y := by
  unfold addv; split
  · exact h
  · exact List.mem_append_left _ h
theorem mem_addv_self (vs : List Int) (y : Int) : y ∈ addv vs y := by
  unfold addv; split
  · rename_i h
    obtain ⟨x, hx, e⟩ := List.any_eq_true.1 h
    exact of_decide_eq_true e ▸ hx
  · simp
theorem mem_foldv {x : Int} : ∀ {l vs : List Int}, x ∈ vs → x ∈ l.foldl addv vs
  | [], _, h => h
  | _ :: l, _, h => mem_foldv (l := l) (mem_addv h)
theorem mem_foldv' {x : Int} : ∀ {l : List Int} (vs : List Int), x ∈ l → x ∈ l.foldl addv vs
  | y :: l, vs, h => by
    rcases List.mem_cons.1 h with rfl | h
    · exact mem_foldv (l := l) (mem_addv_self vs x)
    · exact mem_foldv' (addv vs y) h
theorem addv_mem {vs : List Int} {x : Int} (h : x ∈ vs) : addv vs x = vs := by
  unfold addv; rw [if_pos (List.any_eq_true.2 ⟨x, h, decide_eq_true rfl⟩)]
theorem fold_addv (vs ws : List Int) (x : Int) : (addv ws x).foldl addv vs = addv (ws.foldl addv vs) x := by
  by_cases h : x ∈ ws
  · rw [addv_mem h, addv_mem (mem_foldv' vs h)]
  · have : addv ws x = ws ++ [x] := by
      unfold addv; rw [if_neg]; intro q
      obtain ⟨y, hy, e⟩ := List.any_eq_true.1 q
      exact h (of_decide_eq_true e ▸ hy)
    rw [this, List.foldl_append]; rfl
theorem fold_fold : ∀ (l vs ws : List Int), (l.foldl addv ws).foldl addv vs = l.foldl addv (ws.foldl addv vs)
  | [], _, _ => rfl
  | x :: l, vs, ws => by rw [List.foldl_cons, fold_fold l, fold_addv]; rfl
theorem fold_folds (vs : List Int) : ∀ (ls : List (List Int)) (ws : List Int), (ls.foldl (fun a b => b.foldl addv a) ws).foldl addv vs = ls.foldl (fun a b => b.foldl addv a) (ws.foldl addv vs)
  | [], _ => rfl
  | l :: ls, ws => by rw [List.foldl_cons, fold_folds vs ls, fold_fold]; rfl
theorem addv_eq (vs : List Int) (i : Int) : (if (!vs.any fun x => decide (i = x)) = true then vs ++ [i] else vs) = addv vs i := by
  unfold addv
  have : (vs.any fun x => decide (i = x)) = (vs.any fun y => decide (y = i)) := by
    congr 1; funext x; exact decide_eq_decide.2 eq_comm
  rw [this]
  cases vs.any fun y => decide (y = i) <;> rfl
theorem wf_var {t : Ty} (h : wfT t = true) (hk : t.kind = 1) : t.args = [] := by
  rw [wfT_eq, Bool.and_eq_true] at h
  have := h.1
  unfold nwf at this
  simp [hk] at this
  exact this.2
theorem wf_arg {t u : Ty} (h : wfT t = true) (hu : u ∈ t.args) : wfT u = true := by
  rw [wfT_eq, Bool.and_eq_true, Bool.not_eq_true', List.any_eq_false] at h
  have := h.2 u hu
  simpa using this
theorem afv_vars : ∀ (t : Ty), wfT t = true → ∀ vs, afv t vs = (varsT t).foldl addv vs
  | .mk k i us, h, vs => by
    rw [afv_eq, varsT_eq]
    by_cases hk : k = 1
    · have ha : (Ty.mk k i us).args = [] := wf_var h hk
      have hk' : (Ty.mk k i us).kind = 1 := hk
      rw [ha, decide_eq_true hk', if_pos rfl, List.map_nil, afvL_nil, Bool.true_and, addv_eq]; rfl
    · have hk' : ¬ (Ty.mk k i us).kind = 1 := hk
      rw [decide_eq_false hk', Bool.false_and, if_neg (by simp), if_neg (by simp), fold_folds]
      have key : ∀ (ws : List Ty), (∀ u ∈ ws, u ∈ us) → ∀ vs, afvL (ws.map afv) vs = (ws.map varsT).foldl (fun a b => b.foldl addv a) vs := by
        intro ws
        induction ws with
        | nil => intro _ _; rfl
        | cons u ws ih =>
          intro hw vs
          rw [List.map_cons, afvL_cons, afv_vars u (wf_arg h (hw u (List.mem_cons_self ..))), ih fun w hq => hw w (List.mem_cons_of_mem _ hq)]
          rfl
      exact key us (fun u hu => hu) _
  termination_by t => t
  decreasing_by
    simp_wf
    have hmem := hw u (List.mem_cons_self ..)
    have := List.sizeOf_lt_of_mem hmem
    omega
theorem vars_eq {t : Ty} (h : wfT t = true) : varsT t = afv t [] := by
  rw [afv_vars t h]
  have := fold_fold (varsT t) [] []
  have key : ∀ (us : List Ty), (us.map varsT).foldl (fun a b => b.foldl addv a) [] = ((us.map varsT).foldl (fun a b => b.foldl addv a) []).foldl addv [] := fun us => by
    rw [fold_folds]; rfl
  rw [varsT_eq]
  split
  · simp [addv]
  · exact key t.args
end Go.Abs
namespace Go.Abs
theorem addv_len (vs : List Int) (x : Int) : (addv vs x).length ≤ vs.length + 1 := by
  unfold addv; split
  · omega
  · simp
theorem foldv_len : ∀ (l vs : List Int), (l.foldl addv vs).length ≤ vs.length + l.length
  | [], _ => Nat.le_refl _
  | x :: l, vs => by
    have h1 := foldv_len l (addv vs x)
    have h2 := addv_len vs x
    simp only [List.foldl_cons, List.length_cons]; omega
theorem foldvs_len : ∀ (us : List Ty) (vs : List Int), (∀ u ∈ us, (varsT u).length ≤ u.size) → ((us.map varsT).foldl (fun a b => b.foldl addv a) vs).length ≤ vs.length + Ty.sizes us
  | [], _, _ => by simp [Ty.sizes]
  | u :: us, vs, h => by
    have h1 := foldvs_len us ((varsT u).foldl addv vs) fun w hw => h w (List.mem_cons_of_mem _ hw)
    have h2 := foldv_len (varsT u) vs
    have h3 := h u (List.mem_cons_self ..)
    simp only [List.map_cons, List.foldl_cons, Ty.sizes]; omega
theorem varsT_len : ∀ t : Ty, (varsT t).length ≤ t.size
  | .mk k i us => by
    have h1 := foldvs_len us [] fun u hu => varsT_len u
    rw [varsT_eq]
    have hsz : (Ty.mk k i us).size = 1 + Ty.sizes us := by simp [Ty.size]
    split
    · simp; omega
    · simp only [Ty.args]; simp only [List.length_nil] at h1; omega
end Go.Abs
