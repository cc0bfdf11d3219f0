/- Part 8 of a proof of the law NormalizeMatchesReference: Go data as trees, the walks of the functions that the law reaches, the plain laws. -/
import Derived.Test.YtmjoonaejldkhaaGGNormalizeMatchesReference
import GoSem.ClaimJoined
import Derived.ChangeArms
import Derived.Carry
import Derived.SizedLaws
import Derived.JoinedCond
import Derived.Deep.CondSized
import Derived.JoinedOf
import Derived.KernelRfl
set_option linter.unusedVariables false
set_option linter.unusedSimpArgs false
set_option maxRecDepth 4000
namespace Go.Abs
open Go.Proofs

theorem iterSymbolsL : PC Try.prog 108 [] (.tup [iterR.enc, .slice (iterD.map Dc.enc) .none]) := by
  refine pc_of (N := 19) Try.func108 rfl rfl (by simp) (by simp) (.tup _ (by simp [Rs.bel, bel_Dc])) ?_
  repeat (refine awp_seq ?_)
  refine e_eval (by simp only [jA, jO, jN, seval, y56, vint, qA] <;> with_reducible rfl) (by decide) ?_
  repeat (refine awp_seq ?_)
  refine e_eval (by simp only [jA, jO, jN, seval, y52, y56, y117, vint, qA] <;> with_reducible rfl) (by decide) ?_
  repeat (refine awp_seq ?_)
  refine awp_region ?_
  refine e_take 2 (by simp only [jA, jO, jN, seval, y71, vint, qA] <;> with_reducible rfl) (by decide) ?_
  refine aops_pure (by simp only [jC, jN, seval, vint, qA] <;> with_reducible rfl) (by simp only [jC, jN, seval, vint, qA]) (by decide) Trygo92 (intTypeL _) ?_
  refine e_take 1 (by simp only [jA, jO, jN, seval, y71, vint, qA] <;> with_reducible rfl) (by decide) ?_
  refine aops_pure (by simp only [jC, jN, seval, vint, qA] <;> with_reducible rfl) (by simp only [jC, jN, seval, vint, qA]) (by decide) Trygo90 (typL 4 0 [] _) ?_
  refine e_end (by simp only [jA, jO, jN, seval, y59, y71, vint, qA] <;> with_reducible rfl) (by decide) ?_
  refine awp_sel [0, 2, 3] (by simp only [jN, seval, vint, qA] <;> with_reducible rfl) ?_
  repeat (refine awp_seq ?_)
  refine e_eval (by simp only [jA, jO, jN, seval, y56, vint, qA] <;> with_reducible rfl) (by decide) ?_
  repeat (refine awp_seq ?_)
  refine awp_ret ⟨.inr rfl, _, (ares_two (.cell 0 56) (.tmp 1) rfl (ares_cell1 Tryti56 (by decide) (by simp only [jL, jN, seval, vint, qA] <;> with_reducible rfl)) (ares_tmp1 (by decide))), ?_⟩
  rfl

theorem assocWorkL : PC Try.prog 56 [] (.bool true) := by
  have em : maxLen = 9223372036854775807 := by decide
  have hN := fun sas hs1 hs2 t ht => normalize_c iterR iterD sas (by simp [iterD]; omega) iterD_B hs1 hs2 t ht
  have s1 := work_a
  have s2 := work_b
  have q1 := Ty.eqb_self (Ty.mk 8 0 [.mk 4 0 []])
  have q2 := Ty.eqb_self (Ty.mk 10 1 [.mk 2 7 []])
  refine pc_of (N := 38) Try.func56 rfl rfl (by simp) (by simp) (.bool _) ?_
  repeat (refine awp_seq ?_)
  refine e_eval (by simp only [jA, jO, jN, seval, vint, qA] <;> with_reducible rfl) (by decide) ?_
  repeat (refine awp_seq ?_)
  refine awp_region ?_
  refine aops_pure (by simp only [jC, jN, seval, vint, qA] <;> with_reducible rfl) (by simp only [jC, jN, seval, vint, qA]) (by decide) Trygo108 (iterSymbolsL _) ?_
  refine e_end (by simp only [jA, jO, jN, seval, y56, vint, qA] <;> with_reducible rfl) (by decide) ?_
  repeat (refine awp_seq ?_)
  refine x_draw 1 (n0 := 1) (by first | rfl | (simp only [List.length_append, List.length_cons, List.length_nil, Nat.reduceAdd, Nat.zero_add, s1]; done)) (by kernel_rfl) ?_
  refine x1_take 2 (by first | rfl | (simp only [List.length_append, List.length_cons, List.length_nil, Nat.reduceAdd, Nat.zero_add, s1]; done)) (by simp only [jP, jO, jN, seval, y56, vint, qA, s1] <;> with_reducible rfl) (by decide) (by decide) (by decide) ?_
  refine x1_keep (by first | rfl | (simp only [List.length_append, List.length_cons, List.length_nil, Nat.reduceAdd, Nat.zero_add, s1]; done)) (by simp only [jE, jN, seval, vint, qA, s1] <;> with_reducible rfl) (by simp only [jE, jN, seval, vint, qA, s1] <;> with_reducible rfl) (by simp only [jE, jN, seval, vint, qA, s1]) (by decide) Trygo92 (fun hc L => intTypeL _) ?_
  refine x1_take 1 (by first | rfl | (simp only [List.length_append, List.length_cons, List.length_nil, Nat.reduceAdd, Nat.zero_add, s1]; done)) (by simp only [jP, jO, jN, seval, y22, y24, vint, qA, s1] <;> with_reducible rfl) (by decide) (by decide) (by decide) ?_
  refine x1_keep (by first | rfl | (simp only [List.length_append, List.length_cons, List.length_nil, Nat.reduceAdd, Nat.zero_add, s1]; done)) (by simp only [jE, jN, seval, vint, qA, s1] <;> with_reducible rfl) (by simp only [jE, jN, seval, vint, qA, s1] <;> with_reducible rfl) (by simp only [jE, jN, seval, vint, qA, s1]) (by decide) Trygo90 (fun hc L => typL 10 1 [.mk 3 0 []] _) ?_
  refine x1_take 1 (by first | rfl | (simp only [List.length_append, List.length_cons, List.length_nil, Nat.reduceAdd, Nat.zero_add, s1]; done)) (by simp only [jP, jO, jN, seval, y22, y24, vint, qA, s1] <;> with_reducible rfl) (by decide) (by decide) (by decide) ?_
  refine x1_keep (by first | rfl | (simp only [List.length_append, List.length_cons, List.length_nil, Nat.reduceAdd, Nat.zero_add, s1]; done)) (by simp only [jE, jN, seval, vint, qA, s1] <;> with_reducible rfl) (by simp only [jE, jN, seval, vint, qA, s1] <;> with_reducible rfl) (by simp only [jE, jN, seval, vint, qA, s1]) (by decide) Trygo90 (fun hc L => typL 8 0 [.mk 10 1 [.mk 3 0 []]] _) ?_
  refine x1_keep (by first | rfl | (simp only [List.length_append, List.length_cons, List.length_nil, Nat.reduceAdd, Nat.zero_add, s1]; done)) (by simp only [jE, jN, seval, vint, qA, s1] <;> with_reducible rfl) (by simp only [jE, jN, seval, vint, qA, s1] <;> with_reducible rfl) (by simp only [jE, jN, seval, vint, qA, s1]) (by decide) Trygo53 (fun hc L => hN [] (by simp) (by simp) (.mk 8 0 [.mk 10 1 [.mk 3 0 []]]) (by simp [Ty.W_iff]) _) ?_
  refine x_mid (by first | (simp only [LS, HS, List.append_assoc, List.cons_append, List.nil_append, s1] <;> with_reducible rfl) | rfl) ?_
  refine x2_end (bm := [0, 0, 0, 4, 12, 28, 60, 127, 0, 511]) (fresh := (1)) (by kernel_rfl) (by simp only [jX, jO, jN, seval, y24, vint, qA, s1] <;> with_reducible rfl) (by decide) (by repeat (first | exact Fin.base _ | with_reducible apply Fin.keep | apply Fin.drop)) ?_
  refine awp_sel [1, 2, 3] (by simp only [jN, seval, vint, qA] <;> with_reducible rfl) ?_
  repeat (refine awp_seq ?_)
  refine awp_region ?_
  refine aops_pure (by simp only [jC, jN, seval, vint, qA] <;> with_reducible rfl) (by simp only [jC, jN, seval, vint, qA]) (by decide) Trygo109 (typeParamL 7 _) ?_
  refine e_take 1 (by simp only [jA, jO, jN, seval, y22, y24, vint, qA] <;> with_reducible rfl) (by decide) ?_
  refine aops_pure (by simp only [jC, jN, seval, vint, qA] <;> with_reducible rfl) (by simp only [jC, jN, seval, vint, qA]) (by decide) Trygo90 (typL 10 1 [.mk 2 7 []] _) ?_
  refine e_end (by simp only [jA, jO, jN, seval, y24, vint, qA] <;> with_reducible rfl) (by decide) ?_
  repeat (refine awp_seq ?_)
  refine x_draw 1 (n0 := 3) (by first | rfl | (simp only [List.length_append, List.length_cons, List.length_nil, Nat.reduceAdd, Nat.zero_add, s2]; done)) (by kernel_rfl) ?_
  refine x1_take 2 (by first | rfl | (simp only [List.length_append, List.length_cons, List.length_nil, Nat.reduceAdd, Nat.zero_add, s2]; done)) (by simp only [jP, jO, jN, seval, y56, vint, qA, s2] <;> with_reducible rfl) (by decide) (by decide) (by decide) ?_
  refine x1_keep (by first | rfl | (simp only [List.length_append, List.length_cons, List.length_nil, Nat.reduceAdd, Nat.zero_add, s2]; done)) (by simp only [jE, jN, seval, vint, qA, s2] <;> with_reducible rfl) (by simp only [jE, jN, seval, vint, qA, s2] <;> with_reducible rfl) (by simp only [jE, jN, seval, vint, qA, s2]) (by decide) Trygo109 (fun hc L => typeParamL 7 _) ?_
  refine x1_take 3 (by first | rfl | (simp only [List.length_append, List.length_cons, List.length_nil, Nat.reduceAdd, Nat.zero_add, s2]; done)) (by simp only [jP, jO, jN, seval, y24, y60, y74, vint, qA, s2] <;> with_reducible rfl) (by decide) (by decide) (by decide) ?_
  refine x1_keep (by first | rfl | (simp only [List.length_append, List.length_cons, List.length_nil, Nat.reduceAdd, Nat.zero_add, s2]; done)) (by simp only [jE, jN, seval, vint, qA, s2] <;> with_reducible rfl) (by simp only [jE, jN, seval, vint, qA, s2] <;> with_reducible rfl) (by simp only [jE, jN, seval, vint, qA, s2]) (by decide) Trygo53 (fun hc L => hN [⟨.mk 2 7 [], 0⟩] (by simp; omega) (by simp [TB.W, Ty.W_iff]) (.mk 10 1 [.mk 2 7 []]) (by simp [Ty.W_iff]) _) ?_
  refine x_mid (by first | (simp only [LS, HS, List.append_assoc, List.cons_append, List.nil_append, s2] <;> with_reducible rfl) | rfl) ?_
  refine x2_end (bm := [0, 0, 0, 4, 12, 0, 63, 0, 255]) (fresh := (3)) (by kernel_rfl) (by simp only [jX, jO, jN, seval, y24, vint, qA, s2] <;> with_reducible rfl) (by decide) (by repeat (first | exact Fin.base _ | with_reducible apply Fin.keep | apply Fin.drop)) ?_
  repeat (refine awp_seq ?_)
  refine dp_draw (by kernel_rfl) ?_
  refine dp_take 1 (by simp only [jP, jO, jN, seval, y24, vint, qA, q1, q2] <;> with_reducible rfl) (by decide) ?_
  refine dp_keep (by simp only [jE, jN, seval, vint, qA, q1, q2] <;> with_reducible rfl) (by simp only [jE, jN, seval, vint, qA, q1, q2] <;> with_reducible rfl) (by simp only [jE, jN, seval, vint, qA, q1, q2]) (by decide) Trygo90 (fun hc => typL 4 0 [] _) ?_
  refine dp_take 1 (by simp only [jP, jO, jN, seval, y22, y24, vint, qA, q1, q2] <;> with_reducible rfl) (by decide) ?_
  refine dp_keep (by simp only [jE, jN, seval, vint, qA, q1, q2] <;> with_reducible rfl) (by simp only [jE, jN, seval, vint, qA, q1, q2] <;> with_reducible rfl) (by simp only [jE, jN, seval, vint, qA, q1, q2]) (by decide) Trygo90 (fun hc => typL 8 0 [.mk 4 0 []] _) ?_
  refine dp_keep (by simp only [jE, jN, seval, vint, qA, q1, q2] <;> with_reducible rfl) (by simp only [jE, jN, seval, vint, qA, q1, q2] <;> with_reducible rfl) (by simp only [jE, jN, seval, vint, qA, q1, q2]) (by decide) Trygo23 (fun hc => equal_any (.mk 8 0 [.mk 4 0 []]) (.mk 8 0 [.mk 4 0 []]) (by simp [Ty.W_iff]) _) ?_
  refine dp_take 3 (by simp only [jP, jO, jN, seval, y24, vint, qA, q1, q2] <;> with_reducible rfl) (by decide) ?_
  refine dp_keep (by simp only [jE, jN, seval, vint, qA, q1, q2] <;> with_reducible rfl) (by simp only [jE, jN, seval, vint, qA, q1, q2] <;> with_reducible rfl) (by simp only [jE, jN, seval, vint, qA, q1, q2]) (by decide) Trygo23 (fun hc => equal_any (.mk 10 1 [.mk 2 7 []]) (.mk 10 1 [.mk 2 7 []]) (by simp [Ty.W_iff]) _) ?_
  refine dp_end (by simp only [jP, jO, jN, seval, vint, qA, q1, q2] <;> with_reducible rfl) (by decide) (by repeat (first | exact Fin.base _ | with_reducible apply Fin.keep | apply Fin.drop)) ?_
  repeat (refine awp_seq ?_)
  refine awp_ret ⟨.inr rfl, _, rfl, ?_⟩
  simp only [jN, seval, vint, qA]

/-- What the law asks of a declaration. -/
def smD (n : Nat) (d : Dc) : Bool := !(decide ((d.t.size : Int) > 6) || decide ((d.bs.length : Int) > 1) || decide ((n : Int) > 12) || decide ((npr d.t : Int) > 1))
theorem eqb_zero : (Ty.mk 0 0 []).eqb (Ty.mk 0 0 []) = true := Ty.eqb_self _
theorem zero_mk : Ty.zero = Ty.mk 0 0 [] := rfl
theorem bel_Dc_tl {n : Nat} (us : List Dc) {tl : Tail} (h : ∀ id, tl = .tok id → id < n) : Bel n (.slice (us.map Dc.enc) tl) := by
  have := bel_Dc n us
  cases this with
  | slice _ _ h1 _ => exact .slice _ _ h1 h

theorem law_nref (r : Rs) (ds : List Dc) (sas : List TB) (t : Ty) (hln : (ds.length + 1) * 120 ≤ 2 ^ 47) (hd : ∀ d ∈ ds, d.R) (hdz : ∀ d ∈ ds, (d.t.size : Int) ≤ 4294967296) (hsl : sas.length ≤ maxLen) (hs : ∀ b ∈ sas, b.W) (ht : t.W) (htz : (t.size : Int) ≤ 4294967296) : PC Try.prog 15 [r.enc, .slice (ds.map Dc.enc) .none, .slice (sas.map TB.enc) .none, t.enc] (.bool true) := by
  have em : maxLen = 9223372036854775807 := by decide
  have hl : ds.length ≤ maxLen := by omega
  have hdB : ∀ d ∈ ds, d.B := fun d h => (hd d h).1
  obtain ⟨es, hes⟩ : ∃ es, (Dc.mk [] t 0 [] [] :: ds) = es := ⟨_, rfl⟩
  have hel : es.length = ds.length + 1 := by rw [← hes]; simp
  have hall : ∀ z ∈ es, z.t.W ∧ (z.t.size : Int) ≤ 4294967296 := fun z hz => by
    rw [← hes] at hz
    rcases List.mem_cons.1 hz with rfl | hz
    · exact ⟨ht, htz⟩
    · exact ⟨(hd z hz).1.1.st_t, hdz z hz⟩
  have hsm : es.all (smD ds.length) = true → t.size ≤ 6 ∧ npr t ≤ 1 ∧ DSm ds := fun h => by
    rw [← hes] at h
    rw [List.all_eq_true] at h
    have h0 := h _ (List.mem_cons_self ..)
    simp [smD] at h0
    refine ⟨by omega, by omega, fun d hd => ?_, fun d hd => ?_⟩
    · have h1 := h d (List.mem_cons_of_mem _ hd)
      simp [smD] at h1; omega
    · have h1 := h d (List.mem_cons_of_mem _ hd)
      simp [smD] at h1; omega
  refine pc_of (N := 87) Try.func15 rfl rfl (by simp) (by simp [Ty.bel, Rs.bel, bel_Dc, bel_TB]) (.bool _) ?_
  repeat (refine awp_seq ?_)
  refine e_eval (by simp only [jA, jO, jN, seval, y24, y56, vint, qA] <;> with_reducible rfl) (by decide) ?_
  repeat (refine awp_seq ?_)
  refine awp_region ?_
  refine aops_pure (by simp only [jC, jN, seval, vint, qA] <;> with_reducible rfl) (by simp only [jC, jN, seval, vint, qA]) (by decide) Trygo56 (assocWorkL _) ?_
  refine e_end (by simp only [jA, jO, jN, seval, vint, qA] <;> with_reducible rfl) (by decide) ?_
  repeat (refine awp_seq ?_)
  refine awp_cond_false rfl (by simp only [jN, seval, vint, qA] <;> with_reducible rfl) ?_
  repeat (refine awp_seq ?_)
  refine awp_skip ?_
  repeat (refine awp_seq ?_)
  refine awp_region ?_
  refine e_take 4 (by simp only [jA, jO, jN, seval, y24, y56, vint, qA] <;> with_reducible rfl) (by decide) ?_
  refine aops_pure (by simp only [jC, jN, seval, vint, qA] <;> with_reducible rfl) (by simp only [jC, jN, seval, vint, qA]) (by decide) Trygo53 (normalize_c r ds sas hl hdB hsl hs t ht _) ?_
  refine e_end (by simp only [jA, jO, jN, seval, y24, vint, qA] <;> with_reducible rfl) (by decide) ?_
  repeat (refine awp_seq ?_)
  refine e_eval (by simp only [jA, jO, jN, seval, y3, y52, y56, y59, y71, y117, vint, qA] <;> with_reducible rfl) (by decide) ?_
  repeat (refine awp_seq ?_)
  refine awp_cond rfl (by simp only [jN, seval, vint, qA] <;> with_reducible rfl) (fun b1 => ?_) (fun b1 => ?_)
  ·
    have hq : ¬ ds.length = r.syms.length := by simp at b1; omega
    have hgot : normF r ds sas t = .zero := by unfold normF; rw [if_neg hq]
    refine awp_sel [9] (by simp only [jN, seval, vint, qA] <;> with_reducible rfl) ?_
    repeat (refine awp_seq ?_)
    refine awp_region ?_
    refine e_take 2 (by simp only [jA, jO, jN, seval, y24, vint, qA, hgot, zero_mk, eqb_zero] <;> with_reducible rfl) (by decide) ?_
    refine aops_pure (by simp only [jC, jN, seval, vint, qA, hgot, zero_mk, eqb_zero] <;> with_reducible rfl) (by simp only [jC, jN, seval, vint, qA, hgot, zero_mk, eqb_zero]) (by decide) Trygo38 (typesEq_k _ (.mk 0 0 []) (.mk 0 0 []) (Nat.le_refl _) zero_W _) ?_
    refine e_end (by simp only [jA, jO, jN, seval, vint, qA, hgot, zero_mk, eqb_zero] <;> with_reducible rfl) (by decide) ?_
    repeat (refine awp_seq ?_)
    refine awp_ret ⟨.inr rfl, _, rfl, ?_⟩
    simp only [jN, seval, vint, qA]
  ·
    have hq : ds.length = r.syms.length := by simp at b1; omega
    have hcok : NC.Ok ⟨r, ds, sas⟩ := ⟨hq, hl, hdB, hsl, hs⟩
    repeat (refine awp_seq ?_)
    refine awp_skip ?_
    refine awp_sel [1, 2, 4, 7, 9] (by simp only [jN, seval, vint, qA] <;> with_reducible rfl) ?_
    rcases Classical.em (ds = []) with hds | hds
    ·
      have happ : ∀ fr H, aappend ⟨true, 7, 120⟩ fr H (.slice [(Dc.mk [] t 0 [] []).enc] .full) (.slice (ds.map Dc.enc) .none) = some (.slice (es.map Dc.enc) .full, none) := fun fr H => by rw [hds] at hes ⊢; rw [← hes]; simp [aappend]
      repeat (refine awp_seq ?_)
      refine e_eval (by simp only [jA, jO, jN, seval, y24, y59, y71, vint, qA, happ] <;> with_reducible rfl) (by decide) ?_
      repeat (refine awp_seq ?_)
      refine awp_forS (σ := Unit) (es.length) (fun (u_ : Unit) => [(1, .slice (ds.map Dc.enc) .none), (2, .slice (sas.map TB.enc) .none), (4, .optr 0 0), (7, .optr 1 0), (9, .optr 2 0), (36, .slice (es.map Dc.enc) .full)]) [1, 2, 4, 7, 9, 36] ([]) (fun (u_ : Unit) => [.row r.enc.cells, .row t.enc.cells, .row (normF r ds sas t).enc.cells]) (fun (i : Nat) (u_ : Unit) => (es.take i).all (smD ds.length) = true) (()) ([]) rfl rfl rfl rfl rfl rfl rfl rfl rfl (by decide) (by decide) (by decide) (fun _ => rfl) (by rw [hel]; omega) ⟨(by first | rfl | (simp only [jN, seval, vint, qA, happ] <;> first | done | with_reducible rfl)), (by first | rfl | (simp only [jN, seval, vint, qA, happ] <;> first | done | with_reducible rfl)), (by first | rfl | (simp only [jN, seval, vint, qA, happ] <;> first | done | with_reducible rfl)), (by first | rfl | (simp only [jN, seval, vint, qA, happ] <;> first | done | with_reducible rfl)), (by first | rfl | (simp only [jN, seval, vint, qA, happ] <;> first | done | with_reducible rfl)), (by first | rfl | (simp only [jN, seval, vint, qA, happ] <;> first | done | with_reducible rfl)), (by first | rfl | (simp only [jN, seval, vint, qA, happ] <;> first | done | with_reducible rfl)), (by first | rfl | (simp only [jN, seval, vint, qA, happ] <;> first | done | with_reducible rfl)), trivial⟩ (by first | rfl | (simp only [jN, seval, vint, qA, happ] <;> first | done | with_reducible rfl)) (by simp) (fun _ _ _ => by first | exact Nat.zero_le _ | (simp only [List.length_append]; omega)) ?_ ?_ ?_
      · exact fun i u_ hg => ⟨by simp only [TyS, RsS, DcS, List.nil_append]; repeat (first | exact hbel_nil _ | exact trivial | exact obel_row_nil _ | (refine HBel.cons ?_ ?_) | (refine obel_row_cons (by first | exact bel_Dc_tl _ (by simp) | exact bel_Sy _ _ | exact Sy.bel _ _ | exact bel_Rf _ _ | exact bel_Dg _ _ | exact Rs.bel _ _ | exact bel_TB _ _ | exact TB.bel _ _ | exact bel_Dc _ _ | exact Dc.bel _ _ | exact Pf.bel _ _ | exact bel_Pf _ _ | exact Sv.bel _ _ | exact bel_Pf_tok _ (by simp) | exact bel_ints0 _ _ | exact bel_slice_ty _ _ | exact Ty.bel _ _ | exact bel_ty_tok _ (by simp) | exact Bel.int _ _ | exact Bel.bool _ | exact Bel.str _ | exact Bel.nilp | exact Bel.nilfn | exact Bel.optr _ _ (by simp) | exact bel_nil0 _ | exact bel_nil1 _ | exact bel_fn0 _ _ | assumption) ?_)), by repeat (first | exact BelL.nil | refine BelL.cons (by first | exact bel_Dc_tl _ (by simp) | exact bel_Sy _ _ | exact Sy.bel _ _ | exact bel_Rf _ _ | exact bel_Dg _ _ | exact Rs.bel _ _ | exact bel_TB _ _ | exact TB.bel _ _ | exact bel_Dc _ _ | exact Dc.bel _ _ | exact Pf.bel _ _ | exact bel_Pf _ _ | exact Sv.bel _ _ | exact bel_Pf_tok _ (by simp) | exact bel_ints0 _ _ | exact bel_slice_ty _ _ | exact Ty.bel _ _ | exact bel_ty_tok _ (by simp) | exact Bel.int _ _ | exact Bel.bool _ | exact Bel.str _ | exact Bel.nilp | exact Bel.nilfn | exact Bel.optr _ _ (by simp) | exact bel_nil0 _ | exact bel_nil1 _ | exact bel_fn0 _ _ | assumption) ?_)⟩
      · intro i u_ hi hg
        have g1 := ix_nat hi
        have g2 := get_enc Dc.enc hi
        have hmem : es[i] ∈ es := List.getElem_mem hi
        obtain ⟨z, hz⟩ : ∃ z, es[i] = z := ⟨_, rfl⟩
        rw [hz] at g2 hmem
        have hzz := hall z hmem
        repeat (refine awp_seq ?_)
        refine e_eval (by simp only [jA, jO, jN, seval, y59, y71, vint, qA, happ, g1, g2, Int.toNat_natCast] <;> with_reducible rfl) (by decide) ?_
        repeat (refine awp_seq ?_)
        refine awp_region ?_
        refine e_take 2 (by simp only [jA, jO, jN, seval, y24, y71, vint, qA, happ, g1, g2, Int.toNat_natCast] <;> with_reducible rfl) (by decide) ?_
        refine aops_pure (by simp only [jC, jN, seval, vint, qA, happ, g1, g2, Int.toNat_natCast] <;> with_reducible rfl) (by simp only [jC, jN, seval, vint, qA, happ, g1, g2, Int.toNat_natCast]) (by decide) Trygo36 (typeSize_k _ z.t (Nat.le_refl _) hzz.1 hzz.2 _) ?_
        refine e_end (by simp only [jA, jO, jN, seval, vint, qA, happ, g1, g2, Int.toNat_natCast] <;> with_reducible rfl) (by decide) ?_
        repeat (refine awp_seq ?_)
        refine awp_region ?_
        refine aops_gstart ?_
        refine g_take 16 (by simp only [jG, jO, jN, seval, y3, y24, y59, y60, y71, y74, vint, qA, happ, g1, g2, Int.toNat_natCast] <;> with_reducible rfl) (by decide) ?_
        refine aops_gpure (by simp only [jE, jN, seval, vint, qA, happ, g1, g2, Int.toNat_natCast] <;> with_reducible rfl) (by simp only [jE, jN, seval, vint, qA, happ, g1, g2, Int.toNat_natCast] <;> with_reducible rfl) (by simp only [jE, jN, seval, vint, qA, happ, g1, g2, Int.toNat_natCast]) (by decide) Trygo57 (fun hc => projs_k _ z.t (Nat.le_refl _) hzz.1 hzz.2 _) ?_
        refine g_end (by simp only [jG, jO, jN, seval, y3, vint, qA, happ, g1, g2, Int.toNat_natCast] <;> with_reducible rfl) (by decide) (by repeat (first | exact Fin.base _ | with_reducible apply Fin.keep | apply Fin.drop)) ?_
        repeat (refine awp_seq ?_)
        refine awp_cond rfl (by simp only [jN, seval, vint, qA, happ, g1, g2, Int.toNat_natCast] <;> with_reducible rfl) (fun bt66 => ?_) (fun bt66 => ?_)
        ·
          refine awp_sel [1, 2, 4, 7, 9, 36, 37, 38] (by simp only [jN, seval, vint, qA, happ, g1, g2, Int.toNat_natCast] <;> with_reducible rfl) ?_
          repeat (refine awp_seq ?_)
          refine e_eval (by simp only [jA, jO, jN, seval, vint, qA, happ, g1, g2, Int.toNat_natCast] <;> with_reducible rfl) (by decide) ?_
          repeat (refine awp_seq ?_)
          refine awp_ret ⟨.inr rfl, _, rfl, ?_⟩
          simp only [jN, seval, vint, qA, Ty.eqb_self]
        ·
          have hb66 := bt66
          repeat (refine awp_seq ?_)
          refine awp_skip ?_
          exact ⟨⟨rfl, rfl, trivial⟩, (), _, ⟨rfl, rfl, rfl, rfl, rfl, rfl, trivial⟩, by simp only [jN, seval, vint, qA] <;> rfl, all_take_succ hi hg (by rw [hz]; unfold smD; rw [bt66]; rfl)⟩
      · intro u_ hg
        rw [List.take_length] at hg
        obtain ⟨hsm1, hsm2, hsm3⟩ := hsm hg
        have hok8 := norm_agree (sy := r.syms) (ds := ds) (sas := sas) 8 t
        have hnsz := norm_size (sy := r.syms) (ds := ds) (sas := sas) hsm3 t hsm1 hsm2
        have hnW := norm_W ⟨r, ds, sas⟩ hcok 8 t ht
        have hgot : normF r ds sas t = normalT r.syms ds sas t := by unfold normF; rw [if_pos hq]
        obtain ⟨N, hN⟩ : ∃ N, (normD (projN r.syms ds sas 8) t) = N := ⟨_, rfl⟩
        simp only [hN] at hok8 hnsz hnW
        obtain ⟨K, hK⟩ : ∃ K, rnf (rprojN r.syms ds sas 8) t = K := ⟨_, rfl⟩
        rw [hK] at hok8
        have hKW := rnorm_W ⟨r, ds, sas⟩ hcok 8 t ht
        simp only [hK] at hKW
        have hnf := nform_all r ds sas hq hl hd hsl hs 8 (by omega) t ht
        rw [hK] at hnf
        repeat (refine awp_seq ?_)
        refine awp_region ?_
        refine e_take 4 (by simp only [jA, jO, jN, seval, y24, y56, vint, qA, happ] <;> with_reducible rfl) (by decide) ?_
        refine aops_pure (by simp only [jC, jN, seval, vint, qA, happ] <;> with_reducible rfl) (by simp only [jC, jN, seval, vint, qA, happ]) (by decide) Trygo58 ((by simpa using hnf _)) ?_
        refine e_end (by simp only [jA, jO, jN, seval, y24, vint, qA, happ] <;> with_reducible rfl) (by decide) ?_
        rcases hNf : N.2 with _ | _
        ·
          obtain rfl := hok8.1 hNf
          repeat (refine awp_seq ?_)
          refine awp_region ?_
          refine aops_gstart ?_
          refine g_take 4 (by simp only [jG, jO, jN, seval, y24, vint, qA, happ, Bool.not_true] <;> with_reducible rfl) (by decide) ?_
          refine aops_gpure (by simp only [jE, jN, seval, vint, qA, happ, Bool.not_true] <;> with_reducible rfl) (by simp only [jE, jN, seval, vint, qA, happ, Bool.not_true] <;> with_reducible rfl) (by simp only [jE, jN, seval, vint, qA, happ, Bool.not_true]) (by decide) Trygo37 (fun hc => typeError N.1 hnW (by have := hnsz hNf; omega) _) ?_
          refine g_end (by simp only [jG, jO, jN, seval, y38, vint, qA, happ, Bool.not_true] <;> with_reducible rfl) (by decide) (by repeat (first | exact Fin.base _ | with_reducible apply Fin.keep | apply Fin.drop)) ?_
          repeat (refine awp_seq ?_)
          refine awp_cond rfl (by simp only [jN, seval, vint, qA, happ, Bool.not_true] <;> with_reducible rfl) (fun bt82 => ?_) (fun bt82 => ?_)
          ·
            have hgz : normF r ds sas t = Ty.mk 0 0 [] := by rw [hgot]; unfold normalT; rw [hN, if_pos (.inr (by simpa using bt82))]; rfl
            have hgW : (Ty.mk 0 0 []).W := zero_W
            refine awp_sel [9, 14] (by simp only [jN, seval, vint, qA, happ, Bool.not_true] <;> with_reducible rfl) ?_
            repeat (refine awp_seq ?_)
            refine e_eval (by simp only [jA, jO, jN, seval, y24, vint, qA, happ, Bool.not_true] <;> with_reducible rfl) (by decide) ?_
            repeat (refine awp_seq ?_)
            refine awp_region ?_
            refine e_take 2 (by simp only [jA, jO, jN, seval, y24, vint, qA, happ, Bool.not_true, hgz] <;> with_reducible rfl) (by decide) ?_
            refine aops_pure (by simp only [jC, jN, seval, vint, qA, happ, Bool.not_true, hgz] <;> with_reducible rfl) (by simp only [jC, jN, seval, vint, qA, happ, Bool.not_true, hgz]) (by decide) Trygo38 (typesEq_k _ _ _ (Nat.le_refl _) hgW _) ?_
            refine e_end (by simp only [jA, jO, jN, seval, vint, qA, happ, Bool.not_true, hgz] <;> with_reducible rfl) (by decide) ?_
            repeat (refine awp_seq ?_)
            refine awp_ret ⟨.inr rfl, _, rfl, ?_⟩
            simp only [jN, seval, vint, qA, Ty.eqb_self]
          ·
            have hgz : normF r ds sas t = N.1 := by rw [hgot]; unfold normalT; rw [hN, if_neg (by rw [hNf]; simpa using bt82)]
            have hgW := hnW
            repeat (refine awp_seq ?_)
            refine awp_skip ?_
            refine awp_sel [9, 14] (by simp only [jN, seval, vint, qA, happ, Bool.not_true] <;> with_reducible rfl) ?_
            repeat (refine awp_seq ?_)
            refine awp_region ?_
            refine e_take 2 (by simp only [jA, jO, jN, seval, y24, vint, qA, happ, Bool.not_true, hgz] <;> with_reducible rfl) (by decide) ?_
            refine aops_pure (by simp only [jC, jN, seval, vint, qA, happ, Bool.not_true, hgz] <;> with_reducible rfl) (by simp only [jC, jN, seval, vint, qA, happ, Bool.not_true, hgz]) (by decide) Trygo38 (typesEq_k _ _ _ (Nat.le_refl _) hgW _) ?_
            refine e_end (by simp only [jA, jO, jN, seval, vint, qA, happ, Bool.not_true, hgz] <;> with_reducible rfl) (by decide) ?_
            repeat (refine awp_seq ?_)
            refine awp_ret ⟨.inr rfl, _, rfl, ?_⟩
            simp only [jN, seval, vint, qA, Ty.eqb_self]
        ·
          have hKf : K.2 = false := hok8.2 hNf
          have hgz : normF r ds sas t = Ty.mk 0 0 [] := by rw [hgot]; unfold normalT; rw [hN, if_pos (.inl hNf)]; rfl
          have hgW : (Ty.mk 0 0 []).W := zero_W
          repeat (refine awp_seq ?_)
          refine awp_region ?_
          refine aops_gstart ?_
          refine g_take 3 (by simp only [jG, jO, jN, seval, vint, qA, happ, hKf, Bool.not_false, hgz] <;> with_reducible rfl) (by decide) ?_
          refine aops_gskip (r := .tup []) (by simp only [jE, jN, seval, vint, qA, hKf, Bool.not_false] <;> with_reducible rfl) ?_
          refine aops_gskip (r := .tup []) (by simp only [jE, jN, seval, vint, qA, hKf, Bool.not_false] <;> with_reducible rfl) ?_
          refine aops_gskip (r := .tup []) (by simp only [jE, jN, seval, vint, qA, hKf, Bool.not_false] <;> with_reducible rfl) ?_
          refine g_end (by simp only [jG, jO, jN, seval, vint, qA, happ, hKf, Bool.not_false, hgz] <;> with_reducible rfl) (by decide) (by repeat (first | exact Fin.base _ | with_reducible apply Fin.keep | apply Fin.drop)) ?_
          repeat (refine awp_seq ?_)
          refine awp_cond_true rfl (by simp only [jN, seval, vint, qA, happ, hKf, Bool.not_false, hgz] <;> with_reducible rfl) ?_
          refine awp_sel [9, 14] (by simp only [jN, seval, vint, qA, happ, hKf, Bool.not_false, hgz] <;> with_reducible rfl) ?_
          repeat (refine awp_seq ?_)
          refine e_eval (by simp only [jA, jO, jN, seval, y24, vint, qA, happ, hKf, Bool.not_false, hgz] <;> with_reducible rfl) (by decide) ?_
          repeat (refine awp_seq ?_)
          refine awp_region ?_
          refine e_take 2 (by simp only [jA, jO, jN, seval, y24, vint, qA, happ, hKf, Bool.not_false, hgz, hgz] <;> with_reducible rfl) (by decide) ?_
          refine aops_pure (by simp only [jC, jN, seval, vint, qA, happ, hKf, Bool.not_false, hgz, hgz] <;> with_reducible rfl) (by simp only [jC, jN, seval, vint, qA, happ, hKf, Bool.not_false, hgz, hgz]) (by decide) Trygo38 (typesEq_k _ _ _ (Nat.le_refl _) hgW _) ?_
          refine e_end (by simp only [jA, jO, jN, seval, vint, qA, happ, hKf, Bool.not_false, hgz, hgz] <;> with_reducible rfl) (by decide) ?_
          repeat (refine awp_seq ?_)
          refine awp_ret ⟨.inr rfl, _, rfl, ?_⟩
          simp only [jN, seval, vint, qA, Ty.eqb_self]
    ·
      have happ : ∀ fr H, aappend ⟨true, 7, 120⟩ fr H (.slice [(Dc.mk [] t 0 [] []).enc] .full) (.slice (ds.map Dc.enc) .none) = some (.slice (es.map Dc.enc) (.tok fr), some (fr, .buf (1 + ds.length) 7)) := fun fr H => by
        unfold aappend
        simp only [List.map_eq_nil_iff, if_neg hds]
        rw [if_pos ⟨by simp; omega, by simp; omega, by intro e he; rw [List.mem_singleton.1 he]; exact Dc.enc_len _, fun e he => by obtain ⟨v, _, rfl⟩ := List.mem_map.1 he; exact ⟨Dc.enc_len v, by rw [Dc.enc_cells]; rfl⟩, by decide⟩, ← hes]
        simp
      repeat (refine awp_seq ?_)
      refine e_eval (by simp only [jA, jO, jN, seval, y24, y59, y71, vint, qA, happ] <;> with_reducible rfl) (by decide) ?_
      repeat (refine awp_seq ?_)
      refine awp_forS (σ := Unit) (es.length) (fun (u_ : Unit) => [(1, .slice (ds.map Dc.enc) .none), (2, .slice (sas.map TB.enc) .none), (4, .optr 0 0), (7, .optr 1 0), (9, .optr 2 0), (36, .slice (es.map Dc.enc) (.tok 3))]) [1, 2, 4, 7, 9, 36] ([]) (fun (u_ : Unit) => [.row r.enc.cells, .row t.enc.cells, .row (normF r ds sas t).enc.cells, .buf (1 + ds.length) 7]) (fun (i : Nat) (u_ : Unit) => (es.take i).all (smD ds.length) = true) (()) ([]) rfl rfl rfl rfl rfl rfl rfl rfl rfl (by decide) (by decide) (by decide) (fun _ => rfl) (by rw [hel]; omega) ⟨(by first | rfl | (simp only [jN, seval, vint, qA, happ] <;> first | done | with_reducible rfl)), (by first | rfl | (simp only [jN, seval, vint, qA, happ] <;> first | done | with_reducible rfl)), (by first | rfl | (simp only [jN, seval, vint, qA, happ] <;> first | done | with_reducible rfl)), (by first | rfl | (simp only [jN, seval, vint, qA, happ] <;> first | done | with_reducible rfl)), (by first | rfl | (simp only [jN, seval, vint, qA, happ] <;> first | done | with_reducible rfl)), (by first | rfl | (simp only [jN, seval, vint, qA, happ] <;> first | done | with_reducible rfl)), (by first | rfl | (simp only [jN, seval, vint, qA, happ] <;> first | done | with_reducible rfl)), (by first | rfl | (simp only [jN, seval, vint, qA, happ] <;> first | done | with_reducible rfl)), trivial⟩ (by first | rfl | (simp only [jN, seval, vint, qA, happ] <;> first | done | with_reducible rfl)) (by simp) (fun _ _ _ => by first | exact Nat.zero_le _ | (simp only [List.length_append]; omega)) ?_ ?_ ?_
      · exact fun i u_ hg => ⟨by simp only [TyS, RsS, DcS, List.nil_append]; repeat (first | exact hbel_nil _ | exact trivial | exact obel_row_nil _ | (refine HBel.cons ?_ ?_) | (refine obel_row_cons (by first | exact bel_Dc_tl _ (by simp) | exact bel_Sy _ _ | exact Sy.bel _ _ | exact bel_Rf _ _ | exact bel_Dg _ _ | exact Rs.bel _ _ | exact bel_TB _ _ | exact TB.bel _ _ | exact bel_Dc _ _ | exact Dc.bel _ _ | exact Pf.bel _ _ | exact bel_Pf _ _ | exact Sv.bel _ _ | exact bel_Pf_tok _ (by simp) | exact bel_ints0 _ _ | exact bel_slice_ty _ _ | exact Ty.bel _ _ | exact bel_ty_tok _ (by simp) | exact Bel.int _ _ | exact Bel.bool _ | exact Bel.str _ | exact Bel.nilp | exact Bel.nilfn | exact Bel.optr _ _ (by simp) | exact bel_nil0 _ | exact bel_nil1 _ | exact bel_fn0 _ _ | assumption) ?_)), by repeat (first | exact BelL.nil | refine BelL.cons (by first | exact bel_Dc_tl _ (by simp) | exact bel_Sy _ _ | exact Sy.bel _ _ | exact bel_Rf _ _ | exact bel_Dg _ _ | exact Rs.bel _ _ | exact bel_TB _ _ | exact TB.bel _ _ | exact bel_Dc _ _ | exact Dc.bel _ _ | exact Pf.bel _ _ | exact bel_Pf _ _ | exact Sv.bel _ _ | exact bel_Pf_tok _ (by simp) | exact bel_ints0 _ _ | exact bel_slice_ty _ _ | exact Ty.bel _ _ | exact bel_ty_tok _ (by simp) | exact Bel.int _ _ | exact Bel.bool _ | exact Bel.str _ | exact Bel.nilp | exact Bel.nilfn | exact Bel.optr _ _ (by simp) | exact bel_nil0 _ | exact bel_nil1 _ | exact bel_fn0 _ _ | assumption) ?_)⟩
      · intro i u_ hi hg
        have g1 := ix_nat hi
        have g2 := get_enc Dc.enc hi
        have hmem : es[i] ∈ es := List.getElem_mem hi
        obtain ⟨z, hz⟩ : ∃ z, es[i] = z := ⟨_, rfl⟩
        rw [hz] at g2 hmem
        have hzz := hall z hmem
        repeat (refine awp_seq ?_)
        refine e_eval (by simp only [jA, jO, jN, seval, y59, y71, vint, qA, happ, g1, g2, Int.toNat_natCast] <;> with_reducible rfl) (by decide) ?_
        repeat (refine awp_seq ?_)
        refine awp_region ?_
        refine e_take 2 (by simp only [jA, jO, jN, seval, y24, y71, vint, qA, happ, g1, g2, Int.toNat_natCast] <;> with_reducible rfl) (by decide) ?_
        refine aops_pure (by simp only [jC, jN, seval, vint, qA, happ, g1, g2, Int.toNat_natCast] <;> with_reducible rfl) (by simp only [jC, jN, seval, vint, qA, happ, g1, g2, Int.toNat_natCast]) (by decide) Trygo36 (typeSize_k _ z.t (Nat.le_refl _) hzz.1 hzz.2 _) ?_
        refine e_end (by simp only [jA, jO, jN, seval, vint, qA, happ, g1, g2, Int.toNat_natCast] <;> with_reducible rfl) (by decide) ?_
        repeat (refine awp_seq ?_)
        refine awp_region ?_
        refine aops_gstart ?_
        refine g_take 16 (by simp only [jG, jO, jN, seval, y3, y24, y59, y60, y71, y74, vint, qA, happ, g1, g2, Int.toNat_natCast] <;> with_reducible rfl) (by decide) ?_
        refine aops_gpure (by simp only [jE, jN, seval, vint, qA, happ, g1, g2, Int.toNat_natCast] <;> with_reducible rfl) (by simp only [jE, jN, seval, vint, qA, happ, g1, g2, Int.toNat_natCast] <;> with_reducible rfl) (by simp only [jE, jN, seval, vint, qA, happ, g1, g2, Int.toNat_natCast]) (by decide) Trygo57 (fun hc => projs_k _ z.t (Nat.le_refl _) hzz.1 hzz.2 _) ?_
        refine g_end (by simp only [jG, jO, jN, seval, y3, vint, qA, happ, g1, g2, Int.toNat_natCast] <;> with_reducible rfl) (by decide) (by repeat (first | exact Fin.base _ | with_reducible apply Fin.keep | apply Fin.drop)) ?_
        repeat (refine awp_seq ?_)
        refine awp_cond rfl (by simp only [jN, seval, vint, qA, happ, g1, g2, Int.toNat_natCast] <;> with_reducible rfl) (fun bt66 => ?_) (fun bt66 => ?_)
        ·
          refine awp_sel [1, 2, 4, 7, 9, 36, 37, 38] (by simp only [jN, seval, vint, qA, happ, g1, g2, Int.toNat_natCast] <;> with_reducible rfl) ?_
          repeat (refine awp_seq ?_)
          refine e_eval (by simp only [jA, jO, jN, seval, vint, qA, happ, g1, g2, Int.toNat_natCast] <;> with_reducible rfl) (by decide) ?_
          repeat (refine awp_seq ?_)
          refine awp_ret ⟨.inr rfl, _, rfl, ?_⟩
          simp only [jN, seval, vint, qA, Ty.eqb_self]
        ·
          have hb66 := bt66
          repeat (refine awp_seq ?_)
          refine awp_skip ?_
          exact ⟨⟨rfl, rfl, trivial⟩, (), _, ⟨rfl, rfl, rfl, rfl, rfl, rfl, trivial⟩, by simp only [jN, seval, vint, qA] <;> rfl, all_take_succ hi hg (by rw [hz]; unfold smD; rw [bt66]; rfl)⟩
      · intro u_ hg
        rw [List.take_length] at hg
        obtain ⟨hsm1, hsm2, hsm3⟩ := hsm hg
        have hok8 := norm_agree (sy := r.syms) (ds := ds) (sas := sas) 8 t
        have hnsz := norm_size (sy := r.syms) (ds := ds) (sas := sas) hsm3 t hsm1 hsm2
        have hnW := norm_W ⟨r, ds, sas⟩ hcok 8 t ht
        have hgot : normF r ds sas t = normalT r.syms ds sas t := by unfold normF; rw [if_pos hq]
        obtain ⟨N, hN⟩ : ∃ N, (normD (projN r.syms ds sas 8) t) = N := ⟨_, rfl⟩
        simp only [hN] at hok8 hnsz hnW
        obtain ⟨K, hK⟩ : ∃ K, rnf (rprojN r.syms ds sas 8) t = K := ⟨_, rfl⟩
        rw [hK] at hok8
        have hKW := rnorm_W ⟨r, ds, sas⟩ hcok 8 t ht
        simp only [hK] at hKW
        have hnf := nform_all r ds sas hq hl hd hsl hs 8 (by omega) t ht
        rw [hK] at hnf
        repeat (refine awp_seq ?_)
        refine awp_region ?_
        refine e_take 4 (by simp only [jA, jO, jN, seval, y24, y56, vint, qA, happ] <;> with_reducible rfl) (by decide) ?_
        refine aops_pure (by simp only [jC, jN, seval, vint, qA, happ] <;> with_reducible rfl) (by simp only [jC, jN, seval, vint, qA, happ]) (by decide) Trygo58 ((by simpa using hnf _)) ?_
        refine e_end (by simp only [jA, jO, jN, seval, y24, vint, qA, happ] <;> with_reducible rfl) (by decide) ?_
        rcases hNf : N.2 with _ | _
        ·
          obtain rfl := hok8.1 hNf
          repeat (refine awp_seq ?_)
          refine awp_region ?_
          refine aops_gstart ?_
          refine g_take 4 (by simp only [jG, jO, jN, seval, y24, vint, qA, happ, Bool.not_true] <;> with_reducible rfl) (by decide) ?_
          refine aops_gpure (by simp only [jE, jN, seval, vint, qA, happ, Bool.not_true] <;> with_reducible rfl) (by simp only [jE, jN, seval, vint, qA, happ, Bool.not_true] <;> with_reducible rfl) (by simp only [jE, jN, seval, vint, qA, happ, Bool.not_true]) (by decide) Trygo37 (fun hc => typeError N.1 hnW (by have := hnsz hNf; omega) _) ?_
          refine g_end (by simp only [jG, jO, jN, seval, y38, vint, qA, happ, Bool.not_true] <;> with_reducible rfl) (by decide) (by repeat (first | exact Fin.base _ | with_reducible apply Fin.keep | apply Fin.drop)) ?_
          repeat (refine awp_seq ?_)
          refine awp_cond rfl (by simp only [jN, seval, vint, qA, happ, Bool.not_true] <;> with_reducible rfl) (fun bt82 => ?_) (fun bt82 => ?_)
          ·
            have hgz : normF r ds sas t = Ty.mk 0 0 [] := by rw [hgot]; unfold normalT; rw [hN, if_pos (.inr (by simpa using bt82))]; rfl
            have hgW : (Ty.mk 0 0 []).W := zero_W
            refine awp_sel [9, 14] (by simp only [jN, seval, vint, qA, happ, Bool.not_true] <;> with_reducible rfl) ?_
            repeat (refine awp_seq ?_)
            refine e_eval (by simp only [jA, jO, jN, seval, y24, vint, qA, happ, Bool.not_true] <;> with_reducible rfl) (by decide) ?_
            repeat (refine awp_seq ?_)
            refine awp_region ?_
            refine e_take 2 (by simp only [jA, jO, jN, seval, y24, vint, qA, happ, Bool.not_true, hgz] <;> with_reducible rfl) (by decide) ?_
            refine aops_pure (by simp only [jC, jN, seval, vint, qA, happ, Bool.not_true, hgz] <;> with_reducible rfl) (by simp only [jC, jN, seval, vint, qA, happ, Bool.not_true, hgz]) (by decide) Trygo38 (typesEq_k _ _ _ (Nat.le_refl _) hgW _) ?_
            refine e_end (by simp only [jA, jO, jN, seval, vint, qA, happ, Bool.not_true, hgz] <;> with_reducible rfl) (by decide) ?_
            repeat (refine awp_seq ?_)
            refine awp_ret ⟨.inr rfl, _, rfl, ?_⟩
            simp only [jN, seval, vint, qA, Ty.eqb_self]
          ·
            have hgz : normF r ds sas t = N.1 := by rw [hgot]; unfold normalT; rw [hN, if_neg (by rw [hNf]; simpa using bt82)]
            have hgW := hnW
            repeat (refine awp_seq ?_)
            refine awp_skip ?_
            refine awp_sel [9, 14] (by simp only [jN, seval, vint, qA, happ, Bool.not_true] <;> with_reducible rfl) ?_
            repeat (refine awp_seq ?_)
            refine awp_region ?_
            refine e_take 2 (by simp only [jA, jO, jN, seval, y24, vint, qA, happ, Bool.not_true, hgz] <;> with_reducible rfl) (by decide) ?_
            refine aops_pure (by simp only [jC, jN, seval, vint, qA, happ, Bool.not_true, hgz] <;> with_reducible rfl) (by simp only [jC, jN, seval, vint, qA, happ, Bool.not_true, hgz]) (by decide) Trygo38 (typesEq_k _ _ _ (Nat.le_refl _) hgW _) ?_
            refine e_end (by simp only [jA, jO, jN, seval, vint, qA, happ, Bool.not_true, hgz] <;> with_reducible rfl) (by decide) ?_
            repeat (refine awp_seq ?_)
            refine awp_ret ⟨.inr rfl, _, rfl, ?_⟩
            simp only [jN, seval, vint, qA, Ty.eqb_self]
        ·
          have hKf : K.2 = false := hok8.2 hNf
          have hgz : normF r ds sas t = Ty.mk 0 0 [] := by rw [hgot]; unfold normalT; rw [hN, if_pos (.inl hNf)]; rfl
          have hgW : (Ty.mk 0 0 []).W := zero_W
          repeat (refine awp_seq ?_)
          refine awp_region ?_
          refine aops_gstart ?_
          refine g_take 3 (by simp only [jG, jO, jN, seval, vint, qA, happ, hKf, Bool.not_false, hgz] <;> with_reducible rfl) (by decide) ?_
          refine aops_gskip (r := .tup []) (by simp only [jE, jN, seval, vint, qA, hKf, Bool.not_false] <;> with_reducible rfl) ?_
          refine aops_gskip (r := .tup []) (by simp only [jE, jN, seval, vint, qA, hKf, Bool.not_false] <;> with_reducible rfl) ?_
          refine aops_gskip (r := .tup []) (by simp only [jE, jN, seval, vint, qA, hKf, Bool.not_false] <;> with_reducible rfl) ?_
          refine g_end (by simp only [jG, jO, jN, seval, vint, qA, happ, hKf, Bool.not_false, hgz] <;> with_reducible rfl) (by decide) (by repeat (first | exact Fin.base _ | with_reducible apply Fin.keep | apply Fin.drop)) ?_
          repeat (refine awp_seq ?_)
          refine awp_cond_true rfl (by simp only [jN, seval, vint, qA, happ, hKf, Bool.not_false, hgz] <;> with_reducible rfl) ?_
          refine awp_sel [9, 14] (by simp only [jN, seval, vint, qA, happ, hKf, Bool.not_false, hgz] <;> with_reducible rfl) ?_
          repeat (refine awp_seq ?_)
          refine e_eval (by simp only [jA, jO, jN, seval, y24, vint, qA, happ, hKf, Bool.not_false, hgz] <;> with_reducible rfl) (by decide) ?_
          repeat (refine awp_seq ?_)
          refine awp_region ?_
          refine e_take 2 (by simp only [jA, jO, jN, seval, y24, vint, qA, happ, hKf, Bool.not_false, hgz, hgz] <;> with_reducible rfl) (by decide) ?_
          refine aops_pure (by simp only [jC, jN, seval, vint, qA, happ, hKf, Bool.not_false, hgz, hgz] <;> with_reducible rfl) (by simp only [jC, jN, seval, vint, qA, happ, hKf, Bool.not_false, hgz, hgz]) (by decide) Trygo38 (typesEq_k _ _ _ (Nat.le_refl _) hgW _) ?_
          refine e_end (by simp only [jA, jO, jN, seval, vint, qA, happ, hKf, Bool.not_false, hgz, hgz] <;> with_reducible rfl) (by decide) ?_
          repeat (refine awp_seq ?_)
          refine awp_ret ⟨.inr rfl, _, rfl, ?_⟩
          simp only [jN, seval, vint, qA, Ty.eqb_self]

end Go.Abs
namespace Go.Abs

/-! From a reading of the arguments to the trees, and back. -/

/-- A world as it is handed to a call: all that lies in it stays. -/
def env0 (W : World) : Env := { w := W, κ := fun _ => .fixed, ρ := fun _ => 0, tb := fun _ => none, H := [] }
theorem env0_ok (W : World) : (env0 W).Ok := by
  constructor
  · intro id cs h; simp [env0] at h
  · intro id n sz b h; simp [env0] at h
  · intro id id' cs cs' h; simp [env0] at h
  · intro id id' n sz n' sz' b h; simp [env0] at h
theorem env0_cell (W : World) (a : Addr) : (env0 W).view.cell a = W.cell? a := rfl

theorem calls_of_pc {P : Program} {f : FuncId} {args : List PV} {b : Bool} (h : PC P f args (.bool b)) (W : World) (vargs : Array Value) (hr : RL (env0 W).view vargs args) :
    Calls P f vargs W fun e w' => e = .returned (.bool b) ∧ Go.RowKit.Below W.heap.size W w' := by
  refine (h [] (env0 W) vargs (env0_ok W) rfl hr).mono ?_
  rintro e w' ⟨E', v, r, rfl, rfl, hle, hok, hv, rfl, _⟩
  refine ⟨by rw [hv.bool_inv], hle.os, hle.tape, hle.output, hle.size, fun k hk => (hle.other k hk ?_ ?_).2⟩
  · rintro ⟨id, cs, h, _⟩; simp [env0] at h
  · rintro ⟨id, n, sz, h, _⟩; simp [env0] at h

def RLl (V : View) (cs : List Value) (ps : List PV) : Prop := cs.length = ps.length ∧ ∀ i (h : i < ps.length), VRel V (cs.getD i undef) ps[i]

theorem RLl.nil {V : View} : RLl V [] [] := ⟨rfl, fun i h => by cases h⟩
theorem RLl.cons {V : View} {c : Value} {cs : List Value} {p : PV} {ps : List PV} (h : VRel V c p) (hs : RLl V cs ps) : RLl V (c :: cs) (p :: ps) := by
  refine ⟨by simp [hs.1], fun i hi => ?_⟩
  cases i with
  | zero => exact h
  | succ i => exact hs.2 i (by simpa using hi)
theorem RLl.app {V : View} {c1 c2 : List Value} {p1 p2 : List PV} (h1 : RLl V c1 p1) (h2 : RLl V c2 p2) : RLl V (c1 ++ c2) (p1 ++ p2) := by
  refine ⟨by simp [h1.1, h2.1], fun i hi => ?_⟩
  by_cases h : i < p1.length
  · have := h1.2 i h
    simp only [List.getD_eq_getElem?_getD] at this ⊢
    rw [List.getElem?_append_left (by rw [h1.1]; exact h), List.getElem_append_left h]; exact this
  · have := h2.2 (i - p1.length) (by simp at hi; omega)
    simp only [List.getD_eq_getElem?_getD] at this ⊢
    rw [List.getElem?_append_right (by rw [h1.1]; omega), List.getElem_append_right (by omega), h1.1]; exact this
theorem RLl.agg {V : View} {arr : Array Value} {ps : List PV} (h : RLl V arr.toList ps) : VRel V (.agg arr) (.agg ps) := by
  refine .agg _ _ (by have := h.1; simpa using this) fun i hi => ?_
  have := h.2 i hi
  rw [List.getD_eq_getElem?_getD, Array.getElem?_toList] at this
  rw [Array.getD_eq_getD_getElem?]; exact this
theorem RLl.one {V : View} {v : Value} {p : PV} (h : RLl V [v] [p]) : VRel V v p := h.2 0 (by simp)

theorem exists_list {α : Type} {n : Nat} {p : Nat → α → Prop} (h : ∀ i, i < n → ∃ a, p i a) : ∃ xs : List α, xs.length = n ∧ ∀ i (hi : i < xs.length), p i xs[i] := by
  induction n with
  | zero => exact ⟨[], rfl, fun i hi => by cases hi⟩
  | succ n ih =>
    obtain ⟨xs, h1, h2⟩ := ih fun i hi => h i (by omega)
    obtain ⟨a, ha⟩ := h n (by omega)
    refine ⟨xs ++ [a], by simp [h1], fun i hi => ?_⟩
    by_cases hlt : i < xs.length
    · rw [List.getElem_append_left hlt]; exact h2 i hlt
    · rw [List.getElem_append_right (by omega)]
      simp at hi
      obtain rfl : i = n := by omega
      simpa using ha

/-- A list and the data of a slice. -/
def SlD {α : Type} {H : Type} (D : α → DataW H → Prop) (xs : List α) (d : DataW H) : Prop :=
  (xs = [] ∧ d = .nil) ∨ ∃ els sp, d = .slice els sp ∧ xs.length = els.length ∧ ∀ i (h1 : i < xs.length) (h2 : i < els.length), D xs[i] els[i]

section
variable {H : Type} {enc : TypeId × Value → H} {P : Program} {W : World} {spare : Nat → Bool} {held : Bool}

theorem rd_slice {α : Type} (en : α → PV) (D : α → DataW H → Prop) {t e : TypeId} {fuel : Nat} {cs : List Value} {x : DataW H × List MemPlace} (ht : P.underlying t = some (.slice e)) (hsz : ∀ a, (en a).cells.length = P.cellsOf e)
    (h : DataW.trod enc P W 0 spare held fuel t cs = some x) (ih : ∀ n cs' x', n < fuel → DataW.trod enc P W 0 spare held n e cs' = some x' → ∃ a, RLl (env0 W).view cs' (en a).cells ∧ D a x'.1) :
    ∃ (xs : List α) (v : Value), cs = [v] ∧ VRel (env0 W).view v (.slice (xs.map en) .none) ∧ SlD D xs x.1 := by
  rcases DataW.trod_slice ht h with ⟨rfl, rfl⟩ | ⟨a, len, cap, elems, rest, n, rfl, rfl, rfl, hb, hl, hm, hlen, hel, _, _⟩
  · exact ⟨[], _, rfl, .nils .none trivial, .inl ⟨rfl, rfl⟩⟩
  · obtain ⟨ys, hys, hp⟩ := exists_list (α := α × List Value) (n := len) (p := fun i y => W.cells? 0 (a.add (i * P.cellsOf e)) (P.cellsOf e) = some y.2 ∧ RLl (env0 W).view y.2 (en y.1).cells ∧ ∀ h : i < elems.length, D y.1 elems[i].1) (fun i hi => by
      have := hel i hi
      rw [List.getElem?_eq_getElem (by omega)] at this
      obtain ⟨cs', h1, h2⟩ := Option.bind_eq_some_iff.1 this
      obtain ⟨y, h3, h4⟩ := ih n cs' _ (by omega) h2
      exact ⟨(y, cs'), h1, h3, fun _ => h4⟩)
    refine ⟨ys.map (·.1), _, rfl, ?_, .inr ⟨_, _, rfl, by simp [hys, hlen], fun i h1 h2 => ?_⟩⟩
    · have hget : ∀ i (hi : i < ys.length), ys[i]? = some ys[i] := fun i hi => List.getElem?_eq_getElem hi
      refine .slice a len cap (P.cellsOf e) _ .none (fun i j => match ys[i]? with | some y => y.2.getD j undef | none => undef) (by simp [hys]) hl hm ?_ ?_ ?_ trivial
      · intro i hi; simp only [List.getElem_map]; exact hsz _
      · intro i j hi hj
        have hi' : i < ys.length := by omega
        obtain ⟨h1, h2, _⟩ := hp i hi'
        obtain ⟨_, h4, h5⟩ := World.cells?_some h1
        have := h5 j hj
        rw [hget i hi']
        simp only
        rw [env0_cell, ← add_add, this, List.getD_eq_getElem?_getD, List.getElem?_eq_getElem (by omega)]; rfl
      · intro i j hi hj
        have hi' : i < ys.length := by simpa using hi
        simp only [List.getElem_map] at hj ⊢
        rw [hget i hi']
        exact (hp i hi').2.1.2 j hj
    · simp only [List.getElem_map]
      exact (hp i (by simpa using h1)).2.2 _

/-- The field of a structure. -/
theorem rd_fields {t : TypeId} {fs : Array Field} {fuel : Nat} {cs : List Value} {x : DataW H × List MemPlace} (ht : P.underlying t = some (.struct fs)) (h : DataW.trod enc P W 0 spare held fuel t cs = some x) :
    ∃ (ds : List (DataW H)) (n : Nat), fuel = n + 1 ∧ x.1 = .agg ds ∧ cs.length = P.cellsOf t ∧ ds.length = fs.size ∧ ∀ (i : Nat) (f : Field), fs[i]? = some f → ∃ d ps, ds[i]? = some d ∧ DataW.trod enc P W 0 spare held n f.type ((cs.drop f.offset).take (P.cellsOf f.type)) = some (d, ps) := by
  obtain ⟨xs, n, h1, rfl, h3, h4, h5⟩ := DataW.trod_struct ht h
  refine ⟨xs.map (·.1), n, h1, rfl, h3, by simpa using h4, fun i f hf => ?_⟩
  have hi : i < xs.length := by
    rw [h4]
    rcases Nat.lt_or_ge i fs.size with hl | hl
    · exact hl
    · rw [Array.getElem?_eq_none hl] at hf; cases hf
  have := h5 i f hf
  rw [List.getElem?_eq_getElem hi] at this
  exact ⟨xs[i].1, xs[i].2, by simp [hi], this⟩

theorem rd_int {t : TypeId} {k : IntKind} {fuel : Nat} {cs : List Value} {x : DataW H × List MemPlace} (ht : P.underlying t = some (.int k)) (h : DataW.trod enc P W 0 spare held fuel t cs = some x) : ∃ n, RLl (env0 W).view cs [.int k n] ∧ x.1 = .lit (.int k n) ∧ (Lit.int k n).wf = true ∧ cs = [.int k n] := by
  obtain ⟨n, rfl, rfl, h3⟩ := DataW.trod_int ht h
  exact ⟨n, .cons (.int _ _) .nil, rfl, h3, rfl⟩
theorem rd_bool {t : TypeId} {fuel : Nat} {cs : List Value} {x : DataW H × List MemPlace} (ht : P.underlying t = some .bool) (h : DataW.trod enc P W 0 spare held fuel t cs = some x) : ∃ b, RLl (env0 W).view cs [.bool b] ∧ x.1 = .lit (.bool b) := by
  obtain ⟨n, rfl, rfl⟩ := DataW.trod_bool ht h
  exact ⟨n, .cons (.bool _) .nil, rfl⟩
theorem rd_string {t : TypeId} {fuel : Nat} {cs : List Value} {x : DataW H × List MemPlace} (ht : P.underlying t = some .string) (h : DataW.trod enc P W 0 spare held fuel t cs = some x) : ∃ s : List UInt8, RLl (env0 W).view cs [.str s] ∧ x.1 = .lit (.string s) ∧ s.length ≤ maxLen := by
  obtain ⟨s, rfl, rfl, h3⟩ := DataW.trod_string ht h
  exact ⟨s.data.toList, .cons (.str _) .nil, rfl, by simpa using h3⟩
end

/-- The data of a type. -/
inductive TyD {H : Type} : Ty → DataW H → Prop
  | nil (k i : Int) : TyD (.mk k i []) (.agg [.lit (.int .i64 k), .lit (.int .i64 i), .nil])
  | slice (k i : Int) (xs : List Ty) (es sp : List (DataW H)) (hl : xs.length = es.length) (h : ∀ j (h1 : j < xs.length) (h2 : j < es.length), TyD xs[j] es[j]) : TyD (.mk k i xs) (.agg [.lit (.int .i64 k), .lit (.int .i64 i), .slice es sp])
theorem TyD.of {H : Type} {k i : Int} {xs : List Ty} {d : DataW H} (h : SlD TyD xs d) : TyD (.mk k i xs) (.agg [.lit (.int .i64 k), .lit (.int .i64 i), d]) := by
  rcases h with ⟨rfl, rfl⟩ | ⟨es, sp, rfl, h1, h2⟩
  · exact .nil k i
  · exact .slice k i xs es sp h1 h2

/-- The facts on a program's type 'api.Type' that a reading looks at. -/
structure TyAt (P : Program) (T S : TypeId) : Prop where
  st : ∃ f0 f1 f2 : Field, P.underlying T = some (.struct #[f0, f1, f2]) ∧ P.underlying f0.type = some (.int .i64) ∧ P.underlying f1.type = some (.int .i64) ∧ f2.type = S ∧ f0.offset = 0 ∧ f1.offset = 1 ∧ f2.offset = 2 ∧ P.cellsOf f0.type = 1 ∧ P.cellsOf f1.type = 1
  sl : P.underlying S = some (.slice T)
  c : P.cellsOf T = 3
  cs : P.cellsOf S = 1
  by40 : P.bytesOf T = 40

section
variable {H : Type} {enc : TypeId × Value → H} {P : Program} {W : World} {spare : Nat → Bool} {held : Bool} {T S : TypeId}

theorem rd_ty (F : TyAt P T S) : ∀ (fuel : Nat) (cs : List Value) (x : DataW H × List MemPlace), DataW.trod enc P W 0 spare held fuel T cs = some x → ∃ t : Ty, RLl (env0 W).view cs t.enc.cells ∧ TyD t x.1 := by
  intro fuel
  induction fuel using Nat.strongRecOn with
  | _ fuel ih =>
  intro cs x h
  obtain ⟨f0, f1, f2, hst, u0, u1, e2, o0, o1, o2, c0, c1⟩ := F.st
  obtain ⟨ds, n, rfl, hx, hlen, hdl, hf⟩ := rd_fields hst h
  rw [F.c] at hlen
  match cs, hlen with
  | [v0, v1, v2], _ =>
  obtain ⟨d0, p0, g0, r0⟩ := hf 0 f0 rfl
  obtain ⟨d1, p1, g1, r1⟩ := hf 1 f1 rfl
  obtain ⟨d2, p2, g2, r2⟩ := hf 2 f2 rfl
  rw [o0, c0] at r0
  rw [o1, c1] at r1
  rw [o2, e2, F.cs] at r2
  obtain ⟨k, q0, rfl, w0, _⟩ := rd_int u0 r0
  obtain ⟨i, q1, rfl, w1, _⟩ := rd_int u1 r1
  obtain ⟨xs, v, hv, hr, hd⟩ := rd_slice Ty.enc TyD F.sl (fun a => by rw [F.c, Ty.enc_len]) r2 (fun m cs' x' hm h' => ih m (by omega) cs' x' h')
  simp only [List.drop_succ_cons, List.drop_zero, List.take_succ_cons, List.take_zero, List.cons.injEq, and_true] at hv
  subst hv
  refine ⟨.mk k i xs, ?_, ?_⟩
  · rw [Ty.enc_cells]
    exact .cons q0.one (.cons q1.one (.cons hr .nil))
  · rw [hx]
    have : ds = [.lit (.int .i64 k), .lit (.int .i64 i), d2] := by
      match ds, hdl with
      | [a, b, c], _ =>
        simp at g0 g1 g2
        rw [g0, g1, g2]
    rw [this]
    exact .of hd

/-- No list of arguments is longer than the row's own bound bears. -/
theorem ty_weights (F : TyAt P T S) {t : Ty} {d : DataW H} (h : TyD t d) (hw : (d.weights P T).all (· ≤ reachBytes) = true) : t.W := by
  obtain ⟨f0, f1, f2, hst, u0, u1, e2, _⟩ := F.st
  induction h with
  | nil k i => exact .mk (by simp) (by simp)
  | slice k i xs es sp hl h ih =>
    simp only [DataW.weights, hst, DataW.weightsEach, List.map_cons, List.map_nil, e2, F.sl, F.by40, List.nil_append, List.append_nil, List.all_cons, List.all_append, Bool.and_eq_true, decide_eq_true_eq] at hw
    have hb : reachBytes = 140737488351232 := rfl
    refine .mk (by rw [hl]; have := hw.1; omega) fun u hu => ?_
    obtain ⟨j, hj, rfl⟩ := List.mem_iff_getElem.1 hu
    refine ih j hj (by omega) ?_
    have h2 := hw.2.1
    rw [List.all_eq_true] at h2 ⊢
    intro x hx
    refine h2 x ?_
    have hmem : ∀ (l : List (DataW H)) (e : DataW H), e ∈ l → x ∈ e.weights P T → x ∈ DataW.weightsAll P T l := by
      intro l
      induction l with
      | nil => intro e he; cases he
      | cons a l ihl =>
        intro e he hx
        simp only [DataW.weightsAll, List.mem_append]
        rcases List.mem_cons.1 he with rfl | he
        · exact .inl hx
        · exact .inr (ihl e he hx)
    exact hmem es _ (List.getElem_mem _) hx

theorem weights_mem {l : List (DataW H)} {e : TypeId} {d : DataW H} (hd : d ∈ l) (h : (DataW.weightsAll P e l).all (· ≤ reachBytes) = true) : (d.weights P e).all (· ≤ reachBytes) = true := by
  rw [List.all_eq_true] at h ⊢
  intro x hx
  refine h x ?_
  clear h
  induction l with
  | nil => cases hd
  | cons a l ih =>
    simp only [DataW.weightsAll, List.mem_append]
    rcases List.mem_cons.1 hd with rfl | hd
    · exact .inl hx
    · exact .inr (ih hd)

/-- A slice's elements and its length. -/
theorem sl_weights {α : Type} {D : α → DataW H → Prop} {Sl E : TypeId} (hs : P.underlying Sl = some (.slice E)) {xs : List α} {d : DataW H} (h : SlD D xs d) (hw : (d.weights P Sl).all (· ≤ reachBytes) = true) :
    xs.length * P.bytesOf E ≤ reachBytes ∧ ∀ a ∈ xs, ∃ d', D a d' ∧ (d'.weights P E).all (· ≤ reachBytes) = true := by
  rcases h with ⟨rfl, rfl⟩ | ⟨els, sp, rfl, h1, h2⟩
  · simp
  · simp only [DataW.weights, hs, List.all_cons, List.all_append, Bool.and_eq_true, decide_eq_true_eq] at hw
    refine ⟨?_, fun a ha => ?_⟩
    · rw [h1]
      refine Nat.le_trans (Nat.mul_le_mul_right _ (Nat.le_add_right _ _)) hw.1
    · obtain ⟨j, hj, rfl⟩ := List.mem_iff_getElem.1 ha
      exact ⟨_, h2 j hj (by omega), weights_mem (List.getElem_mem _) hw.2.1⟩
end
end Go.Abs
namespace Go.Abs
theorem RLl.rl {V : View} {arr : Array Value} {ps : List PV} (h : RLl V arr.toList ps) : RL V arr ps := by
  refine ⟨by have := h.1; simpa using this, fun i hi => ?_⟩
  have := h.2 i hi
  rw [List.getD_eq_getElem?_getD, Array.getElem?_toList] at this
  rw [Array.getD_eq_getD_getElem?]; exact this
theorem Ty.enc_agg (t : Ty) : PV.agg t.enc.cells = t.enc := by rw [Ty.enc_cells, Ty.enc_eq]
end Go.Abs
namespace Go.Abs
/-! Reading bindings. -/
def BdD {H : Type} (b : Bd) (d : DataW H) : Prop := ∃ d1, d = .agg [.lit (.int .i64 b.v), d1] ∧ TyD b.t d1
structure BdAt (P : Program) (B T : TypeId) : Prop where
  st : ∃ f0 f1 : Field, P.underlying B = some (.struct #[f0, f1]) ∧ P.underlying f0.type = some (.int .i64) ∧ f1.type = T ∧ f0.offset = 0 ∧ f1.offset = 1 ∧ P.cellsOf f0.type = 1
  c : P.cellsOf B = 4
section
variable {H : Type} {enc : TypeId × Value → H} {P : Program} {W : World} {spare : Nat → Bool} {held : Bool} {B T S : TypeId}
theorem rd_bd (F : TyAt P T S) (G : BdAt P B T) (fuel : Nat) (cs : List Value) (x : DataW H × List MemPlace) (h : DataW.trod enc P W 0 spare held fuel B cs = some x) : ∃ b : Bd, RLl (env0 W).view cs b.enc.cells ∧ BdD b x.1 := by
  obtain ⟨f0, f1, hst, u0, e1, o0, o1, c0⟩ := G.st
  obtain ⟨ds, n, rfl, hx, hlen, hdl, hf⟩ := rd_fields hst h
  rw [G.c] at hlen
  match cs, hlen with
  | [v0, v1, v2, v3], _ =>
  obtain ⟨d0, p0, g0, r0⟩ := hf 0 f0 rfl
  obtain ⟨d1, p1, g1, r1⟩ := hf 1 f1 rfl
  rw [o0, c0] at r0
  rw [o1, e1, F.c] at r1
  obtain ⟨k, q0, rfl, w0, _⟩ := rd_int u0 r0
  obtain ⟨t, q1, w1⟩ := rd_ty F _ _ _ r1
  refine ⟨⟨k, t⟩, ?_, d1, ?_, w1⟩
  · have := RLl.app q0 q1
    rw [Ty.enc_cells] at this
    exact this
  · rw [hx]
    match ds, hdl with
    | [a, b], _ =>
      simp at g0 g1
      rw [g0, g1]
theorem bd_weights (F : TyAt P T S) (G : BdAt P B T) {b : Bd} {d : DataW H} (h : BdD b d) (hw : (d.weights P B).all (· ≤ reachBytes) = true) : b.t.W := by
  obtain ⟨d1, rfl, h1⟩ := h
  obtain ⟨f0, f1, hst, u0, e1, _⟩ := G.st
  simp only [DataW.weights, hst, DataW.weightsEach, List.map_cons, List.map_nil, e1, List.nil_append, List.append_nil] at hw
  exact ty_weights F h1 hw
end
end Go.Abs
set_option maxRecDepth 4000
namespace Go.Abs
open Go.Proofs
theorem tyAt : TyAt Try.prog 24 22 := ⟨⟨_, _, _, Try.underlying24, Try.underlying3, Try.underlying3, rfl, rfl, rfl, rfl, by kernel_rfl, by kernel_rfl⟩, Try.underlying22, by kernel_rfl, by kernel_rfl, by kernel_rfl⟩
theorem rd_Ty {H : Type} {enc : TypeId × Value → H} {W : World} {spare : Nat → Bool} {held : Bool} (fuel : Nat) (cs : List Value) (x : DataW H × List MemPlace) (h : DataW.trod enc Try.prog W 0 spare held fuel 24 cs = some x) : ∃ t : Ty, RLl (env0 W).view cs t.enc.cells ∧ TyD t x.1 := rd_ty tyAt fuel cs x h
def TBD {H : Type} (t : TB) (d : DataW H) : Prop := ∃ d0, d = .agg [d0, .lit (.int .i64 t.tr)] ∧ TyD t.t d0
section
variable {H : Type} {enc : TypeId × Value → H} {W : World} {spare : Nat → Bool} {held : Bool}
theorem rd_TB (fuel : Nat) (cs : List Value) (x : DataW H × List MemPlace) (h : DataW.trod enc Try.prog W 0 spare held fuel 74 cs = some x) : ∃ t : TB, RLl (env0 W).view cs t.enc.cells ∧ TBD t x.1 := by
  obtain ⟨ds, n, rfl, hx, hlen, hdl, hf⟩ := rd_fields Try.underlying74 h
  rw [show Try.prog.cellsOf 74 = 4 from by kernel_rfl] at hlen
  match cs, hlen with
  | [v0, v1, v2, v3], _ =>
  obtain ⟨d0, p0, g0, r0⟩ := hf 0 _ rfl
  have r0 : DataW.trod enc Try.prog W 0 spare held n 24 [v0, v1, v2] = some (d0, p0) := by
    have e : Try.prog.cellsOf 24 = 3 := by kernel_rfl
    have r0 : DataW.trod enc Try.prog W 0 spare held n 24 (List.take (Try.prog.cellsOf 24) (List.drop 0 [v0, v1, v2, v3])) = some (d0, p0) := r0
    rw [e] at r0
    exact r0
  obtain ⟨a0, q0, hd0⟩ := rd_Ty _ _ _ r0
  rw [Ty.enc_cells] at q0
  obtain ⟨d1, p1, g1, r1⟩ := hf 1 _ rfl
  have r1 : DataW.trod enc Try.prog W 0 spare held n 3 [v3] = some (d1, p1) := by
    have e : Try.prog.cellsOf 3 = 1 := by kernel_rfl
    have r1 : DataW.trod enc Try.prog W 0 spare held n 3 (List.take (Try.prog.cellsOf 3) (List.drop 3 [v0, v1, v2, v3])) = some (d1, p1) := r1
    rw [e] at r1
    exact r1
  obtain ⟨a1, q1, rfl, _, _⟩ := rd_int Try.underlying3 r1
  refine ⟨TB.mk a0 a1, ?_, ?_⟩
  · rw [TB.enc_cells]
    exact (RLl.app q0 q1)
  · rw [hx]
    have e : ds = [d0, .lit (.int .i64 a1)] := by
      match ds, hdl with
      | [e0, e1], _ =>
        simp at g0 g1
        rw [g0, g1]
    rw [e]
    exact ⟨_, rfl, hd0⟩
theorem TB_weights {t : TB} {d : DataW H} (h : TBD t d) (hw : (d.weights Try.prog 74).all (· ≤ reachBytes) = true) : t.W := by
  have hb : reachBytes = 140737488351232 := rfl
  have hfl : ∀ (c : DataW H), True := fun _ => trivial
  obtain ⟨d0, rfl, k0⟩ := h
  simp only [DataW.weights, Try.underlying74, DataW.weightsEach, List.map_cons, List.map_nil, List.nil_append, List.append_nil, List.all_append, List.all_cons, List.all_nil, Bool.and_eq_true, Bool.and_true, decide_eq_true_eq] at hw
  have z0 := hw
  unfold TB.W
  exact (ty_weights tyAt k0 z0)
end
def DcD {H : Type} (t : Dc) (d : DataW H) : Prop := ∃ d0 d1 d3 d4, d = .agg [d0, d1, .lit (.int .i64 t.tr), d3, d4] ∧ SlD (fun n d => d = .lit (.int .i64 n)) t.ps d0 ∧ TyD t.t d1 ∧ SlD TBD t.bs d3 ∧ SlD (fun n d => d = .lit (.int .i64 n)) t.ms d4
section
variable {H : Type} {enc : TypeId × Value → H} {W : World} {spare : Nat → Bool} {held : Bool}
theorem rd_Dc (fuel : Nat) (cs : List Value) (x : DataW H × List MemPlace) (h : DataW.trod enc Try.prog W 0 spare held fuel 71 cs = some x) : ∃ t : Dc, RLl (env0 W).view cs t.enc.cells ∧ DcD t x.1 := by
  obtain ⟨ds, n, rfl, hx, hlen, hdl, hf⟩ := rd_fields Try.underlying71 h
  rw [show Try.prog.cellsOf 71 = 7 from by kernel_rfl] at hlen
  match cs, hlen with
  | [v0, v1, v2, v3, v4, v5, v6], _ =>
  obtain ⟨d0, p0, g0, r0⟩ := hf 0 _ rfl
  have r0 : DataW.trod enc Try.prog W 0 spare held n 25 [v0] = some (d0, p0) := by
    have e : Try.prog.cellsOf 25 = 1 := by kernel_rfl
    have r0 : DataW.trod enc Try.prog W 0 spare held n 25 (List.take (Try.prog.cellsOf 25) (List.drop 0 [v0, v1, v2, v3, v4, v5, v6])) = some (d0, p0) := r0
    rw [e] at r0
    exact r0
  obtain ⟨a0, w0, hv0, hr0, hd0⟩ := rd_slice vint (fun n d => d = .lit (.int .i64 n)) Try.underlying25 (by intro a; kernel_rfl) r0 (fun m cs' x' hm h' => by obtain ⟨n, q, e, _, _⟩ := rd_int Try.underlying3 h'; exact ⟨n, q, e⟩)
  obtain rfl : v0 = w0 := by simpa using hv0
  have q0 : RLl (env0 W).view [v0] [_] := .cons hr0 .nil
  obtain ⟨d1, p1, g1, r1⟩ := hf 1 _ rfl
  have r1 : DataW.trod enc Try.prog W 0 spare held n 24 [v1, v2, v3] = some (d1, p1) := by
    have e : Try.prog.cellsOf 24 = 3 := by kernel_rfl
    have r1 : DataW.trod enc Try.prog W 0 spare held n 24 (List.take (Try.prog.cellsOf 24) (List.drop 1 [v0, v1, v2, v3, v4, v5, v6])) = some (d1, p1) := r1
    rw [e] at r1
    exact r1
  obtain ⟨a1, q1, hd1⟩ := rd_Ty _ _ _ r1
  rw [Ty.enc_cells] at q1
  obtain ⟨d2, p2, g2, r2⟩ := hf 2 _ rfl
  have r2 : DataW.trod enc Try.prog W 0 spare held n 3 [v4] = some (d2, p2) := by
    have e : Try.prog.cellsOf 3 = 1 := by kernel_rfl
    have r2 : DataW.trod enc Try.prog W 0 spare held n 3 (List.take (Try.prog.cellsOf 3) (List.drop 4 [v0, v1, v2, v3, v4, v5, v6])) = some (d2, p2) := r2
    rw [e] at r2
    exact r2
  obtain ⟨a2, q2, rfl, _, _⟩ := rd_int Try.underlying3 r2
  obtain ⟨d3, p3, g3, r3⟩ := hf 3 _ rfl
  have r3 : DataW.trod enc Try.prog W 0 spare held n 60 [v5] = some (d3, p3) := by
    have e : Try.prog.cellsOf 60 = 1 := by kernel_rfl
    have r3 : DataW.trod enc Try.prog W 0 spare held n 60 (List.take (Try.prog.cellsOf 60) (List.drop 5 [v0, v1, v2, v3, v4, v5, v6])) = some (d3, p3) := r3
    rw [e] at r3
    exact r3
  obtain ⟨a3, w3, hv3, hr3, hd3⟩ := rd_slice TB.enc TBD Try.underlying60 (by intro a; rw [TB.enc_len]; kernel_rfl) r3 (fun m cs' x' hm h' => rd_TB m cs' x' h')
  obtain rfl : v5 = w3 := by simpa using hv3
  have q3 : RLl (env0 W).view [v5] [_] := .cons hr3 .nil
  obtain ⟨d4, p4, g4, r4⟩ := hf 4 _ rfl
  have r4 : DataW.trod enc Try.prog W 0 spare held n 25 [v6] = some (d4, p4) := by
    have e : Try.prog.cellsOf 25 = 1 := by kernel_rfl
    have r4 : DataW.trod enc Try.prog W 0 spare held n 25 (List.take (Try.prog.cellsOf 25) (List.drop 6 [v0, v1, v2, v3, v4, v5, v6])) = some (d4, p4) := r4
    rw [e] at r4
    exact r4
  obtain ⟨a4, w4, hv4, hr4, hd4⟩ := rd_slice vint (fun n d => d = .lit (.int .i64 n)) Try.underlying25 (by intro a; kernel_rfl) r4 (fun m cs' x' hm h' => by obtain ⟨n, q, e, _, _⟩ := rd_int Try.underlying3 h'; exact ⟨n, q, e⟩)
  obtain rfl : v6 = w4 := by simpa using hv4
  have q4 : RLl (env0 W).view [v6] [_] := .cons hr4 .nil
  refine ⟨Dc.mk a0 a1 a2 a3 a4, ?_, ?_⟩
  · rw [Dc.enc_cells]
    exact (RLl.app q0 (RLl.app q1 (RLl.app q2 (RLl.app q3 q4))))
  · rw [hx]
    have e : ds = [d0, d1, .lit (.int .i64 a2), d3, d4] := by
      match ds, hdl with
      | [e0, e1, e2, e3, e4], _ =>
        simp at g0 g1 g2 g3 g4
        rw [g0, g1, g2, g3, g4]
    rw [e]
    exact ⟨_, _, _, _, rfl, hd0, hd1, hd3, hd4⟩
theorem Dc_weights {t : Dc} {d : DataW H} (h : DcD t d) (hw : (d.weights Try.prog 71).all (· ≤ reachBytes) = true) : t.W := by
  have hb : reachBytes = 140737488351232 := rfl
  have hfl : ∀ (c : DataW H), True := fun _ => trivial
  obtain ⟨d0, d1, d3, d4, rfl, k0, k1, k3, k4⟩ := h
  simp only [DataW.weights, Try.underlying71, DataW.weightsEach, List.map_cons, List.map_nil, List.nil_append, List.append_nil, List.all_append, List.all_cons, List.all_nil, Bool.and_eq_true, Bool.and_true, decide_eq_true_eq] at hw
  obtain ⟨z0, z1, z3, z4⟩ := hw
  have m0 := sl_weights Try.underlying25 k0 z0
  have m3 := sl_weights Try.underlying60 k3 z3
  have m4 := sl_weights Try.underlying25 k4 z4
  exact ⟨(by
      have e : Try.prog.bytesOf 3 = 8 := by kernel_rfl
      have := m0.1; rw [e] at this; omega), (ty_weights tyAt k1 z1), (by
      have e : Try.prog.bytesOf 74 = 48 := by kernel_rfl
      have := m3.1; rw [e] at this; omega), (fun u hu => by
      obtain ⟨e, h1, h2⟩ := m3.2 u hu
      exact TB_weights h1 h2), (by
      have e : Try.prog.bytesOf 3 = 8 := by kernel_rfl
      have := m4.1; rw [e] at this; omega)⟩
end
end Go.Abs
set_option maxRecDepth 4000
namespace Go.Abs
open Go.Proofs
def SyD {H : Type} (t : Sy) (d : DataW H) : Prop := d = .agg [.lit (.int .i64 t.kind), .lit (.int .i64 t.mod), .lit (.int .i64 t.st), .lit (.int .i64 t.par), .lit (.string t.name), .lit (.bool t.pub)] ∧ t.name.length ≤ maxLen
section
variable {H : Type} {enc : TypeId × Value → H} {W : World} {spare : Nat → Bool} {held : Bool}
theorem rd_Sy (fuel : Nat) (cs : List Value) (x : DataW H × List MemPlace) (h : DataW.trod enc Try.prog W 0 spare held fuel 117 cs = some x) : ∃ t : Sy, RLl (env0 W).view cs t.enc.cells ∧ SyD t x.1 := by
  obtain ⟨ds, n, rfl, hx, hlen, hdl, hf⟩ := rd_fields Try.underlying117 h
  rw [show Try.prog.cellsOf 117 = 6 from by kernel_rfl] at hlen
  match cs, hlen with
  | [v0, v1, v2, v3, v4, v5], _ =>
  obtain ⟨d0, p0, g0, r0⟩ := hf 0 _ rfl
  have r0 : DataW.trod enc Try.prog W 0 spare held n 3 [v0] = some (d0, p0) := by
    have e : Try.prog.cellsOf 3 = 1 := by kernel_rfl
    have r0 : DataW.trod enc Try.prog W 0 spare held n 3 (List.take (Try.prog.cellsOf 3) (List.drop 0 [v0, v1, v2, v3, v4, v5])) = some (d0, p0) := r0
    rw [e] at r0
    exact r0
  obtain ⟨a0, q0, rfl, _, _⟩ := rd_int Try.underlying3 r0
  obtain ⟨d1, p1, g1, r1⟩ := hf 1 _ rfl
  have r1 : DataW.trod enc Try.prog W 0 spare held n 3 [v1] = some (d1, p1) := by
    have e : Try.prog.cellsOf 3 = 1 := by kernel_rfl
    have r1 : DataW.trod enc Try.prog W 0 spare held n 3 (List.take (Try.prog.cellsOf 3) (List.drop 1 [v0, v1, v2, v3, v4, v5])) = some (d1, p1) := r1
    rw [e] at r1
    exact r1
  obtain ⟨a1, q1, rfl, _, _⟩ := rd_int Try.underlying3 r1
  obtain ⟨d2, p2, g2, r2⟩ := hf 2 _ rfl
  have r2 : DataW.trod enc Try.prog W 0 spare held n 3 [v2] = some (d2, p2) := by
    have e : Try.prog.cellsOf 3 = 1 := by kernel_rfl
    have r2 : DataW.trod enc Try.prog W 0 spare held n 3 (List.take (Try.prog.cellsOf 3) (List.drop 2 [v0, v1, v2, v3, v4, v5])) = some (d2, p2) := r2
    rw [e] at r2
    exact r2
  obtain ⟨a2, q2, rfl, _, _⟩ := rd_int Try.underlying3 r2
  obtain ⟨d3, p3, g3, r3⟩ := hf 3 _ rfl
  have r3 : DataW.trod enc Try.prog W 0 spare held n 3 [v3] = some (d3, p3) := by
    have e : Try.prog.cellsOf 3 = 1 := by kernel_rfl
    have r3 : DataW.trod enc Try.prog W 0 spare held n 3 (List.take (Try.prog.cellsOf 3) (List.drop 3 [v0, v1, v2, v3, v4, v5])) = some (d3, p3) := r3
    rw [e] at r3
    exact r3
  obtain ⟨a3, q3, rfl, _, _⟩ := rd_int Try.underlying3 r3
  obtain ⟨d4, p4, g4, r4⟩ := hf 4 _ rfl
  have r4 : DataW.trod enc Try.prog W 0 spare held n 9 [v4] = some (d4, p4) := by
    have e : Try.prog.cellsOf 9 = 1 := by kernel_rfl
    have r4 : DataW.trod enc Try.prog W 0 spare held n 9 (List.take (Try.prog.cellsOf 9) (List.drop 4 [v0, v1, v2, v3, v4, v5])) = some (d4, p4) := r4
    rw [e] at r4
    exact r4
  obtain ⟨a4, q4, rfl, l4⟩ := rd_string Try.underlying9 r4
  obtain ⟨d5, p5, g5, r5⟩ := hf 5 _ rfl
  have r5 : DataW.trod enc Try.prog W 0 spare held n 4 [v5] = some (d5, p5) := by
    have e : Try.prog.cellsOf 4 = 1 := by kernel_rfl
    have r5 : DataW.trod enc Try.prog W 0 spare held n 4 (List.take (Try.prog.cellsOf 4) (List.drop 5 [v0, v1, v2, v3, v4, v5])) = some (d5, p5) := r5
    rw [e] at r5
    exact r5
  obtain ⟨a5, q5, rfl⟩ := rd_bool Try.underlying4 r5
  refine ⟨Sy.mk a0 a1 a2 a3 a4 a5, ?_, ?_⟩
  · rw [Sy.enc_cells]
    exact (RLl.app q0 (RLl.app q1 (RLl.app q2 (RLl.app q3 (RLl.app q4 q5)))))
  · rw [hx]
    have e : ds = [.lit (.int .i64 a0), .lit (.int .i64 a1), .lit (.int .i64 a2), .lit (.int .i64 a3), .lit (.string a4), .lit (.bool a5)] := by
      match ds, hdl with
      | [e0, e1, e2, e3, e4, e5], _ =>
        simp at g0 g1 g2 g3 g4 g5
        rw [g0, g1, g2, g3, g4, g5]
    rw [e]
    exact ⟨rfl, l4⟩
theorem Sy_weights {t : Sy} {d : DataW H} (h : SyD t d) (hw : (d.weights Try.prog 117).all (· ≤ reachBytes) = true) : t.W := by
  have hb : reachBytes = 140737488351232 := rfl
  have hfl : ∀ (c : DataW H), True := fun _ => trivial
  obtain ⟨rfl, k4⟩ := h
  simp only [DataW.weights, Try.underlying117, DataW.weightsEach, List.map_cons, List.map_nil, List.nil_append, List.append_nil, List.all_append, List.all_cons, List.all_nil, Bool.and_eq_true, Bool.and_true, decide_eq_true_eq] at hw
  have s4 := hw
  unfold Sy.W
  exact (by have := s4; simp only [hb] at this; omega)
end
def RfD {H : Type} (t : Rf) (d : DataW H) : Prop := d = .agg [.lit (.int .i64 t.mod), .lit (.int .i64 t.st), .lit (.int .i64 t.sym)]
section
variable {H : Type} {enc : TypeId × Value → H} {W : World} {spare : Nat → Bool} {held : Bool}
theorem rd_Rf (fuel : Nat) (cs : List Value) (x : DataW H × List MemPlace) (h : DataW.trod enc Try.prog W 0 spare held fuel 217 cs = some x) : ∃ t : Rf, RLl (env0 W).view cs t.enc.cells ∧ RfD t x.1 := by
  obtain ⟨ds, n, rfl, hx, hlen, hdl, hf⟩ := rd_fields Try.underlying217 h
  rw [show Try.prog.cellsOf 217 = 3 from by kernel_rfl] at hlen
  match cs, hlen with
  | [v0, v1, v2], _ =>
  obtain ⟨d0, p0, g0, r0⟩ := hf 0 _ rfl
  have r0 : DataW.trod enc Try.prog W 0 spare held n 3 [v0] = some (d0, p0) := by
    have e : Try.prog.cellsOf 3 = 1 := by kernel_rfl
    have r0 : DataW.trod enc Try.prog W 0 spare held n 3 (List.take (Try.prog.cellsOf 3) (List.drop 0 [v0, v1, v2])) = some (d0, p0) := r0
    rw [e] at r0
    exact r0
  obtain ⟨a0, q0, rfl, _, _⟩ := rd_int Try.underlying3 r0
  obtain ⟨d1, p1, g1, r1⟩ := hf 1 _ rfl
  have r1 : DataW.trod enc Try.prog W 0 spare held n 3 [v1] = some (d1, p1) := by
    have e : Try.prog.cellsOf 3 = 1 := by kernel_rfl
    have r1 : DataW.trod enc Try.prog W 0 spare held n 3 (List.take (Try.prog.cellsOf 3) (List.drop 1 [v0, v1, v2])) = some (d1, p1) := r1
    rw [e] at r1
    exact r1
  obtain ⟨a1, q1, rfl, _, _⟩ := rd_int Try.underlying3 r1
  obtain ⟨d2, p2, g2, r2⟩ := hf 2 _ rfl
  have r2 : DataW.trod enc Try.prog W 0 spare held n 3 [v2] = some (d2, p2) := by
    have e : Try.prog.cellsOf 3 = 1 := by kernel_rfl
    have r2 : DataW.trod enc Try.prog W 0 spare held n 3 (List.take (Try.prog.cellsOf 3) (List.drop 2 [v0, v1, v2])) = some (d2, p2) := r2
    rw [e] at r2
    exact r2
  obtain ⟨a2, q2, rfl, _, _⟩ := rd_int Try.underlying3 r2
  refine ⟨Rf.mk a0 a1 a2, ?_, ?_⟩
  · rw [Rf.enc_cells]
    exact (RLl.app q0 (RLl.app q1 q2))
  · rw [hx]
    have e : ds = [.lit (.int .i64 a0), .lit (.int .i64 a1), .lit (.int .i64 a2)] := by
      match ds, hdl with
      | [e0, e1, e2], _ =>
        simp at g0 g1 g2
        rw [g0, g1, g2]
    subst e
    rfl
theorem Rf_weights {t : Rf} {d : DataW H} (h : RfD t d) (hw : (d.weights Try.prog 217).all (· ≤ reachBytes) = true) : t.W := by
  have hb : reachBytes = 140737488351232 := rfl
  have hfl : ∀ (c : DataW H), True := fun _ => trivial
  obtain ⟨rfl⟩ := h
  simp only [DataW.weights, Try.underlying217, DataW.weightsEach, List.map_cons, List.map_nil, List.nil_append, List.append_nil, List.all_append, List.all_cons, List.all_nil, Bool.and_eq_true, Bool.and_true, decide_eq_true_eq] at hw
  trivial
end
def DgD {H : Type} (t : Dg) (d : DataW H) : Prop := d = .agg [.lit (.int .i64 t.code), .lit (.int .i64 t.mod), .lit (.int .i64 t.st), .lit (.int .i64 t.en), .lit (.string t.name)] ∧ t.name.length ≤ maxLen
section
variable {H : Type} {enc : TypeId × Value → H} {W : World} {spare : Nat → Bool} {held : Bool}
theorem rd_Dg (fuel : Nat) (cs : List Value) (x : DataW H × List MemPlace) (h : DataW.trod enc Try.prog W 0 spare held fuel 219 cs = some x) : ∃ t : Dg, RLl (env0 W).view cs t.enc.cells ∧ DgD t x.1 := by
  obtain ⟨ds, n, rfl, hx, hlen, hdl, hf⟩ := rd_fields Try.underlying219 h
  rw [show Try.prog.cellsOf 219 = 5 from by kernel_rfl] at hlen
  match cs, hlen with
  | [v0, v1, v2, v3, v4], _ =>
  obtain ⟨d0, p0, g0, r0⟩ := hf 0 _ rfl
  have r0 : DataW.trod enc Try.prog W 0 spare held n 3 [v0] = some (d0, p0) := by
    have e : Try.prog.cellsOf 3 = 1 := by kernel_rfl
    have r0 : DataW.trod enc Try.prog W 0 spare held n 3 (List.take (Try.prog.cellsOf 3) (List.drop 0 [v0, v1, v2, v3, v4])) = some (d0, p0) := r0
    rw [e] at r0
    exact r0
  obtain ⟨a0, q0, rfl, _, _⟩ := rd_int Try.underlying3 r0
  obtain ⟨d1, p1, g1, r1⟩ := hf 1 _ rfl
  have r1 : DataW.trod enc Try.prog W 0 spare held n 3 [v1] = some (d1, p1) := by
    have e : Try.prog.cellsOf 3 = 1 := by kernel_rfl
    have r1 : DataW.trod enc Try.prog W 0 spare held n 3 (List.take (Try.prog.cellsOf 3) (List.drop 1 [v0, v1, v2, v3, v4])) = some (d1, p1) := r1
    rw [e] at r1
    exact r1
  obtain ⟨a1, q1, rfl, _, _⟩ := rd_int Try.underlying3 r1
  obtain ⟨d2, p2, g2, r2⟩ := hf 2 _ rfl
  have r2 : DataW.trod enc Try.prog W 0 spare held n 3 [v2] = some (d2, p2) := by
    have e : Try.prog.cellsOf 3 = 1 := by kernel_rfl
    have r2 : DataW.trod enc Try.prog W 0 spare held n 3 (List.take (Try.prog.cellsOf 3) (List.drop 2 [v0, v1, v2, v3, v4])) = some (d2, p2) := r2
    rw [e] at r2
    exact r2
  obtain ⟨a2, q2, rfl, _, _⟩ := rd_int Try.underlying3 r2
  obtain ⟨d3, p3, g3, r3⟩ := hf 3 _ rfl
  have r3 : DataW.trod enc Try.prog W 0 spare held n 3 [v3] = some (d3, p3) := by
    have e : Try.prog.cellsOf 3 = 1 := by kernel_rfl
    have r3 : DataW.trod enc Try.prog W 0 spare held n 3 (List.take (Try.prog.cellsOf 3) (List.drop 3 [v0, v1, v2, v3, v4])) = some (d3, p3) := r3
    rw [e] at r3
    exact r3
  obtain ⟨a3, q3, rfl, _, _⟩ := rd_int Try.underlying3 r3
  obtain ⟨d4, p4, g4, r4⟩ := hf 4 _ rfl
  have r4 : DataW.trod enc Try.prog W 0 spare held n 9 [v4] = some (d4, p4) := by
    have e : Try.prog.cellsOf 9 = 1 := by kernel_rfl
    have r4 : DataW.trod enc Try.prog W 0 spare held n 9 (List.take (Try.prog.cellsOf 9) (List.drop 4 [v0, v1, v2, v3, v4])) = some (d4, p4) := r4
    rw [e] at r4
    exact r4
  obtain ⟨a4, q4, rfl, l4⟩ := rd_string Try.underlying9 r4
  refine ⟨Dg.mk a0 a1 a2 a3 a4, ?_, ?_⟩
  · rw [Dg.enc_cells]
    exact (RLl.app q0 (RLl.app q1 (RLl.app q2 (RLl.app q3 q4))))
  · rw [hx]
    have e : ds = [.lit (.int .i64 a0), .lit (.int .i64 a1), .lit (.int .i64 a2), .lit (.int .i64 a3), .lit (.string a4)] := by
      match ds, hdl with
      | [e0, e1, e2, e3, e4], _ =>
        simp at g0 g1 g2 g3 g4
        rw [g0, g1, g2, g3, g4]
    rw [e]
    exact ⟨rfl, l4⟩
theorem Dg_weights {t : Dg} {d : DataW H} (h : DgD t d) (hw : (d.weights Try.prog 219).all (· ≤ reachBytes) = true) : t.W := by
  have hb : reachBytes = 140737488351232 := rfl
  have hfl : ∀ (c : DataW H), True := fun _ => trivial
  obtain ⟨rfl, k4⟩ := h
  simp only [DataW.weights, Try.underlying219, DataW.weightsEach, List.map_cons, List.map_nil, List.nil_append, List.append_nil, List.all_append, List.all_cons, List.all_nil, Bool.and_eq_true, Bool.and_true, decide_eq_true_eq] at hw
  have s4 := hw
  unfold Dg.W
  exact (by have := s4; simp only [hb] at this; omega)
end
def RsD {H : Type} (t : Rs) (d : DataW H) : Prop := ∃ d0 d1 d2, d = .agg [d0, d1, d2] ∧ SlD SyD t.syms d0 ∧ SlD RfD t.refs d1 ∧ SlD DgD t.dgs d2
section
variable {H : Type} {enc : TypeId × Value → H} {W : World} {spare : Nat → Bool} {held : Bool}
theorem rd_Rs (fuel : Nat) (cs : List Value) (x : DataW H × List MemPlace) (h : DataW.trod enc Try.prog W 0 spare held fuel 56 cs = some x) : ∃ t : Rs, RLl (env0 W).view cs t.enc.cells ∧ RsD t x.1 := by
  obtain ⟨ds, n, rfl, hx, hlen, hdl, hf⟩ := rd_fields Try.underlying56 h
  rw [show Try.prog.cellsOf 56 = 3 from by kernel_rfl] at hlen
  match cs, hlen with
  | [v0, v1, v2], _ =>
  obtain ⟨d0, p0, g0, r0⟩ := hf 0 _ rfl
  have r0 : DataW.trod enc Try.prog W 0 spare held n 52 [v0] = some (d0, p0) := by
    have e : Try.prog.cellsOf 52 = 1 := by kernel_rfl
    have r0 : DataW.trod enc Try.prog W 0 spare held n 52 (List.take (Try.prog.cellsOf 52) (List.drop 0 [v0, v1, v2])) = some (d0, p0) := r0
    rw [e] at r0
    exact r0
  obtain ⟨a0, w0, hv0, hr0, hd0⟩ := rd_slice Sy.enc SyD Try.underlying52 (by intro a; rw [Sy.enc_len]; kernel_rfl) r0 (fun m cs' x' hm h' => rd_Sy m cs' x' h')
  obtain rfl : v0 = w0 := by simpa using hv0
  have q0 : RLl (env0 W).view [v0] [_] := .cons hr0 .nil
  obtain ⟨d1, p1, g1, r1⟩ := hf 1 _ rfl
  have r1 : DataW.trod enc Try.prog W 0 spare held n 53 [v1] = some (d1, p1) := by
    have e : Try.prog.cellsOf 53 = 1 := by kernel_rfl
    have r1 : DataW.trod enc Try.prog W 0 spare held n 53 (List.take (Try.prog.cellsOf 53) (List.drop 1 [v0, v1, v2])) = some (d1, p1) := r1
    rw [e] at r1
    exact r1
  obtain ⟨a1, w1, hv1, hr1, hd1⟩ := rd_slice Rf.enc RfD Try.underlying53 (by intro a; rw [Rf.enc_len]; kernel_rfl) r1 (fun m cs' x' hm h' => rd_Rf m cs' x' h')
  obtain rfl : v1 = w1 := by simpa using hv1
  have q1 : RLl (env0 W).view [v1] [_] := .cons hr1 .nil
  obtain ⟨d2, p2, g2, r2⟩ := hf 2 _ rfl
  have r2 : DataW.trod enc Try.prog W 0 spare held n 54 [v2] = some (d2, p2) := by
    have e : Try.prog.cellsOf 54 = 1 := by kernel_rfl
    have r2 : DataW.trod enc Try.prog W 0 spare held n 54 (List.take (Try.prog.cellsOf 54) (List.drop 2 [v0, v1, v2])) = some (d2, p2) := r2
    rw [e] at r2
    exact r2
  obtain ⟨a2, w2, hv2, hr2, hd2⟩ := rd_slice Dg.enc DgD Try.underlying54 (by intro a; rw [Dg.enc_len]; kernel_rfl) r2 (fun m cs' x' hm h' => rd_Dg m cs' x' h')
  obtain rfl : v2 = w2 := by simpa using hv2
  have q2 : RLl (env0 W).view [v2] [_] := .cons hr2 .nil
  refine ⟨Rs.mk a0 a1 a2, ?_, ?_⟩
  · rw [Rs.enc_cells]
    exact (RLl.app q0 (RLl.app q1 q2))
  · rw [hx]
    have e : ds = [d0, d1, d2] := by
      match ds, hdl with
      | [e0, e1, e2], _ =>
        simp at g0 g1 g2
        rw [g0, g1, g2]
    rw [e]
    exact ⟨_, _, _, rfl, hd0, hd1, hd2⟩
theorem Rs_weights {t : Rs} {d : DataW H} (h : RsD t d) (hw : (d.weights Try.prog 56).all (· ≤ reachBytes) = true) : t.W := by
  have hb : reachBytes = 140737488351232 := rfl
  have hfl : ∀ (c : DataW H), True := fun _ => trivial
  obtain ⟨d0, d1, d2, rfl, k0, k1, k2⟩ := h
  simp only [DataW.weights, Try.underlying56, DataW.weightsEach, List.map_cons, List.map_nil, List.nil_append, List.append_nil, List.all_append, List.all_cons, List.all_nil, Bool.and_eq_true, Bool.and_true, decide_eq_true_eq] at hw
  obtain ⟨z0, z1, z2⟩ := hw
  have m0 := sl_weights Try.underlying52 k0 z0
  have m1 := sl_weights Try.underlying53 k1 z1
  have m2 := sl_weights Try.underlying54 k2 z2
  exact ⟨(by
      have e : Try.prog.bytesOf 117 = 56 := by kernel_rfl
      have := m0.1; rw [e] at this; omega), (fun u hu => by
      obtain ⟨e, h1, h2⟩ := m0.2 u hu
      exact Sy_weights h1 h2), (by
      have e : Try.prog.bytesOf 217 = 24 := by kernel_rfl
      have := m1.1; rw [e] at this; omega), (fun u hu => by
      obtain ⟨e, h1, h2⟩ := m1.2 u hu
      exact Rf_weights h1 h2), (by
      have e : Try.prog.bytesOf 219 = 48 := by kernel_rfl
      have := m2.1; rw [e] at this; omega), (fun u hu => by
      obtain ⟨e, h1, h2⟩ := m2.2 u hu
      exact Dg_weights h1 h2)⟩
end
end Go.Abs
namespace Go.Abs
theorem strip (r : List (List Char)) : stripLifts liftWords ("cut".toList :: r) = ([], "cut".toList :: r) := by
  simp only [liftWords]
  repeat (rw [stripLifts, if_neg (by decide)])
  rfl
theorem mayEnter_of {P : Program} {r : List (List Char)} (h : behindMainWord (wordsSigns P.initOrder.toList) = "cut".toList :: r) (h1 : P.laysLater = false) (h2 : P.bearsReflect = false) (h3 : P.doorFits [] = true) : P.mayEnter = true := by
  unfold Program.mayEnter
  rw [h]
  simp only [strip, h1, h2, h3]
  rfl
theorem headLifts_of {P : Program} {r : List (List Char)} (h : behindMainWord (wordsSigns P.initOrder.toList) = "cut".toList :: r) : P.headLifts = [] := by
  unfold Program.headLifts
  rw [h, strip]
  rfl
theorem liftsFinal_of {P : Program} {r : List (List Char)} (h : behindMainWord (wordsSigns P.initOrder.toList) = "cut".toList :: r) : P.liftsFinal = false := by
  unfold Program.liftsFinal
  rw [headLifts_of h, h]
  rfl
theorem make_of {P : Program} {r : List (List Char)} (h : behindMainWord (wordsSigns P.initOrder.toList) = "cut".toList :: r) : P.make = some .cut := by
  unfold Program.make
  rw [h]
  rfl
def sg (l : List Nat) : List Char := l.map Char.ofNat
theorem words_cons (c : Char) (r : List Char) (h : (c == Char.ofNat 32) = false) : wordsSigns (c :: r) = match wordsSigns r with | w :: ws => (c :: w) :: ws | [] => [[c]] := by
  rw [wordsSigns]
  · rfl
  · intro e
    subst e
    simp at h
theorem words_word : ∀ (w r : List Char), w.all (fun c => !(c == Char.ofNat 32)) = true → wordsSigns (w ++ Char.ofNat 32 :: r) = w :: wordsSigns r
  | [], r, _ => by rfl
  | c :: w, r, h => by
    simp only [List.all_cons, Bool.and_eq_true, Bool.not_eq_true'] at h
    rw [List.cons_append, words_cons c _ h.1, words_word w r h.2]
/-- The head of a cut: 'harness', a sum, 'cut'. -/
theorem behind_of {P : Program} {a b c r : List Char} (hio : P.initOrder = String.ofList (a ++ Char.ofNat 32 :: (b ++ Char.ofNat 32 :: (c ++ Char.ofNat 32 :: r)))) (ha : a.all (fun c => !(c == Char.ofNat 32)) = true) (hb : b.all (fun c => !(c == Char.ofNat 32)) = true) (hc : c.all (fun c => !(c == Char.ofNat 32)) = true)
    (h : ((a == "harness".toList || a == "ownmain".toList) && isSumSigns b) = true) (hc2 : c = "cut".toList) : behindMainWord (wordsSigns P.initOrder.toList) = "cut".toList :: wordsSigns r := by
  rw [hio, String.toList_ofList, words_word _ _ ha, words_word _ _ hb, words_word _ _ hc]
  simp only [behindMainWord]
  rw [if_pos h, hc2]
end Go.Abs
