/- Part 8 of a proof of the law UnifyMostGeneral: Go data as trees, the walks of the functions that the law reaches, the plain laws. -/
import Derived.Test.YtgjpdplbjbgebaaGGUnifyMostGeneral
import GoSem.ClaimJoined
import Derived.ChangeArms
import Derived.Carry
import Derived.SizedLaws
import Derived.JoinedCond
import Derived.Deep.CondSized
import Derived.JoinedOf
import Derived.KernelRfl
set_option linter.unusedVariables false
set_option linter.unusedSimpArgs false
set_option maxRecDepth 4000
namespace Go.Abs
open Go.Proofs

theorem typesEqual_k : ∀ (k : Nat) (a b : Ty), a.size ≤ k → a.W → PC Try.prog 45 [a.enc, b.enc] (.bool (a.eqb b))
  | 0, a, b, h, _ => by cases a; simp [Ty.size] at h
  | k + 1, a, b, h, hw => by
    refine pc_of (N := 46) Try.func45 rfl rfl (by simp) (by simp [Ty.bel]) (.bool _) ?_
    repeat (refine awp_seq ?_)
    refine e_eval (by simp only [jA, jO, jN, seval, y29, vint, TyS, TyF, BdS] <;> with_reducible rfl) (by decide) ?_
    repeat (refine awp_seq ?_)
    refine g_eval (by simp only [jG, jO, jN, seval, y3, y27, y29, vint, TyS, TyF, BdS] <;> with_reducible rfl) (by decide) (by repeat (first | exact Fin.base _ | with_reducible apply Fin.keep | apply Fin.drop)) ?_
    repeat (refine awp_seq ?_)
    refine awp_cond rfl (by simp only [jN, seval, vint, TyS, TyF, BdS] <;> with_reducible rfl) (fun bt26 => ?_) (fun bt26 => ?_)
    ·
      have hf : a.eqb b = false := by
        cases hq : a.eqb b with
        | false => rfl
        | true => have := (Ty.eqb_iff a b).1 hq; subst this; simp at bt26
      refine awp_sel [] (by simp only [jN, seval, vint, TyS, TyF, BdS] <;> with_reducible rfl) ?_
      repeat (refine awp_seq ?_)
      refine e_eval (by simp only [jA, jO, jN, seval, vint, TyS, TyF, BdS] <;> with_reducible rfl) (by decide) ?_
      repeat (refine awp_seq ?_)
      refine awp_ret ⟨.inr rfl, _, rfl, ?_⟩
      first | (rw [hf]; rfl) | (rw [ht]; rfl)
    ·
      have hq : a.kind = b.kind ∧ a.id = b.id ∧ (a.args.length : Int) = b.args.length := by simp at bt26; omega
      have hlen : a.args.length = b.args.length := by omega
      repeat (refine awp_seq ?_)
      refine awp_skip ?_
      refine awp_sel [2, 3] (by simp only [jN, seval, vint, TyS, TyF, BdS] <;> with_reducible rfl) ?_
      repeat (refine awp_seq ?_)
      refine e_eval (by simp only [jA, jO, jN, seval, y27, y29, vint, TyS, TyF, BdS] <;> with_reducible rfl) (by decide) ?_
      repeat (refine awp_seq ?_)
      refine awp_forS (σ := Unit) (a.args.length) (fun (s : Unit) => [(2, .optr 0 0), (3, .optr 1 0)]) [2, 3] ([]) (fun (s : Unit) => [.row a.enc.cells, .row b.enc.cells]) (fun (i : Nat) (s : Unit) => ((a.args.zip b.args).take i).all (fun p => p.1.eqb p.2) = true) (()) ([]) rfl rfl rfl rfl rfl rfl rfl rfl rfl (by decide) (by decide) (by decide) (fun _ => rfl) (hw.lenMax) ⟨(by first | rfl | (simp only [jN, seval, vint, TyS, TyF, BdS] <;> first | done | with_reducible rfl)), (by first | rfl | (simp only [jN, seval, vint, TyS, TyF, BdS] <;> first | done | with_reducible rfl)), (by first | rfl | (simp only [jN, seval, vint, TyS, TyF, BdS] <;> first | done | with_reducible rfl)), (by first | rfl | (simp only [jN, seval, vint, TyS, TyF, BdS] <;> first | done | with_reducible rfl)), trivial⟩ (by first | rfl | (simp only [jN, seval, vint, TyS, TyF, BdS] <;> first | done | with_reducible rfl)) (by simp) (fun _ _ _ => by first | exact Nat.zero_le _ | (simp only [List.length_append]; omega)) ?_ ?_ ?_
      · intro i s hg
        simp only [List.nil_append, TyS]
        refine ⟨?_, by repeat (first | exact BelL.nil | refine BelL.cons (by first | exact bel_Bd _ _ | exact Bd.bel _ _ | exact bel_int_tok _ (by simp) | exact bel_ints0 _ _ | exact bel_slice_ty _ _ | exact Ty.bel _ _ | exact bel_ty_tok _ (by simp) | exact Bel.int _ _ | exact Bel.bool _ | exact Bel.str _ | exact Bel.nilp | exact Bel.nilfn | exact Bel.optr _ _ (by simp) | exact bel_nil0 _ | exact bel_nil1 _ | exact bel_fn0 _ _ | assumption) ?_)⟩
        repeat (first | exact hbel_nil _ | exact trivial | exact obel_row_nil _ | (refine HBel.cons ?_ ?_) | (refine obel_row_cons (by first | exact bel_Bd _ _ | exact Bd.bel _ _ | exact bel_int_tok _ (by simp) | exact bel_ints0 _ _ | exact bel_slice_ty _ _ | exact Ty.bel _ _ | exact bel_ty_tok _ (by simp) | exact Bel.int _ _ | exact Bel.bool _ | exact Bel.str _ | exact Bel.nilp | exact Bel.nilfn | exact Bel.optr _ _ (by simp) | exact bel_nil0 _ | exact bel_nil1 _ | exact bel_fn0 _ _ | assumption) ?_))
      · intro i s hi hg
        have g1 := ix_nat hi
        have hi2 : i < b.args.length := by omega
        have g3 := ix_nat hi2
        have g2 := get_enc Ty.enc hi
        have g4 := get_enc Ty.enc hi2
        have hmem : a.args[i] ∈ a.args := List.getElem_mem hi
        have hsa := Ty.size_arg hmem
        repeat (refine awp_seq ?_)
        refine e_eval (by simp only [jA, jO, jN, seval, vint, TyS, TyF, BdS, g1, Int.toNat_natCast, g2, g3, g4] <;> with_reducible rfl) (by decide) ?_
        repeat (refine awp_seq ?_)
        refine awp_draw 0 (by kernel_rfl) ?_
        refine d_take (bm := [0, 1, 0, 7, 15, 0, 32, 0, 224, 480, 1023, 2047]) 10 (fresh := 0) (by kernel_rfl) (by simp only [jD, jO, jN, seval, y27, y29, vint, TyS, TyF, BdS, g1, Int.toNat_natCast, g2, g3, g4] <;> with_reducible rfl) (by decide) (by decide) ?_
        refine dops_keep (bm := [0, 1, 0, 7, 15, 0, 32, 0, 224, 480, 1023, 2047]) ([]) (by kernel_rfl) (by simp only [jC, jN, seval, vint, TyS, TyF, BdS, g1, Int.toNat_natCast, g2, g3, g4] <;> with_reducible rfl) (by simp only [jC, jN, seval, vint, TyS, TyF, BdS, g1, Int.toNat_natCast, g2, g3, g4]) (by decide) Trygo45 (fun H' _ => typesEqual_k k a.args[i] b.args[i] (by omega) (hw.arg hmem) H') (by simp only [jD, jO, jN, seval, vint, TyS, TyF, BdS, g1, Int.toNat_natCast, g2, g3, g4] <;> first | done | rfl) ?_
        refine d_end (bm := [0, 1, 0, 7, 15, 0, 32, 0, 224, 480, 1023, 2047]) (fresh := 0) (by kernel_rfl) (by simp only [jD, jO, jN, seval, vint, TyS, TyF, BdS, g1, Int.toNat_natCast, g2, g3, g4] <;> with_reducible rfl) (by decide) ?_
        repeat (refine awp_seq ?_)
        refine awp_cond rfl (by simp only [jN, seval, vint, TyS, TyF, BdS, g1, Int.toNat_natCast, g2, g3, g4] <;> with_reducible rfl) (fun bt44 => ?_) (fun bt44 => ?_)
        ·
          have hf : a.eqb b = false := by
            cases hq : a.eqb b with
            | false => rfl
            | true => have := (Ty.eqb_iff a b).1 hq; subst this; simp [Ty.eqb_self] at bt44
          repeat (refine awp_seq ?_)
          refine e_eval (by simp only [jA, jO, jN, seval, vint, TyS, TyF, BdS, g1, Int.toNat_natCast, g2, g3, g4] <;> with_reducible rfl) (by decide) ?_
          repeat (refine awp_seq ?_)
          refine awp_ret ⟨.inr rfl, _, rfl, ?_⟩
          first | (rw [hf]; rfl) | (rw [ht]; rfl)
        ·
          repeat (refine awp_seq ?_)
          refine awp_skip ?_
          have hgt : a.args[i].eqb b.args[i] = true := by simpa using bt44
          exact ⟨⟨rfl, rfl, trivial⟩, (), [], ⟨rfl, rfl, trivial⟩, by simp only [jN, seval, vint, TyS, TyF, BdS] <;> rfl, all_take_succ (by simp; omega) hg (by simpa using hgt)⟩
      · intro s hg
        rw [List.take_of_length_le (by simp; omega)] at hg
        have ht : a.eqb b = true := by
          rw [Ty.eqb_eq, eqbs_all2, decide_eq_true hq.1, decide_eq_true hq.2.1]
          simp [all2, hlen, hg]
        repeat (refine awp_seq ?_)
        refine e_eval (by simp only [jA, jO, jN, seval, vint, TyS, TyF, BdS] <;> with_reducible rfl) (by decide) ?_
        repeat (refine awp_seq ?_)
        refine awp_ret ⟨.inr rfl, _, rfl, ?_⟩
        first | (rw [hf]; rfl) | (rw [ht]; rfl)

theorem varsOf_k : ∀ (k : Nat) (t : Ty), t.size ≤ k → t.W → t.size * 8 ≤ 2 ^ 47 → PC Try.prog 44 [t.enc] (.slice ((varsT t).map vint) .none)
  | 0, t, h, _, _ => by cases t; simp [Ty.size] at h
  | k + 1, t, h, hw, hsz => by
    have hts : t.size = 1 + Ty.sizes t.args := by cases t; simp [Ty.size, Ty.args]
    have em : maxLen = 9223372036854775807 := by decide
    have heq := varsT_eq t
    refine pc_of (N := 39) Try.func44 rfl rfl (by simp) (by simp [Ty.bel]) (bel_ints0 _ _) ?_
    repeat (refine awp_seq ?_)
    refine e_eval (by simp only [jA, jO, jN, seval, y29, vint, TyS, TyF, BdS] <;> with_reducible rfl) (by decide) ?_
    repeat (refine awp_seq ?_)
    refine e_eval (by simp only [jA, jO, jN, seval, y3, y29, vint, TyS, TyF, BdS] <;> with_reducible rfl) (by decide) ?_
    repeat (refine awp_seq ?_)
    refine awp_cond rfl (by simp only [jN, seval, vint, TyS, TyF, BdS] <;> with_reducible rfl) (fun bt10 => ?_) (fun bt10 => ?_)
    ·
      rw [if_pos bt10] at heq
      repeat (refine awp_seq ?_)
      refine e_eval (by simp only [jA, jO, jN, seval, y3, y29, y50, vint, TyS, TyF, BdS] <;> with_reducible rfl) (by decide) ?_
      repeat (refine awp_seq ?_)
      refine awp_ret ⟨.inr rfl, _, rfl, ?_⟩
      rw [heq]; rfl
    ·
      rw [if_neg (by rw [bt10]; simp)] at heq
      repeat (refine awp_seq ?_)
      refine awp_skip ?_
      repeat (refine awp_seq ?_)
      refine e_eval (by simp only [jA, jO, jN, seval, vint, TyS, TyF, BdS] <;> with_reducible rfl) (by decide) ?_
      repeat (refine awp_seq ?_)
      refine e_eval (by simp only [jA, jO, jN, seval, y27, y29, vint, TyS, TyF, BdS] <;> with_reducible rfl) (by decide) ?_
      repeat (refine awp_seq ?_)
      refine awp_retok 3 1 (es := []) (by simp only [jN, seval, vint, TyS, TyF, BdS] <;> with_reducible rfl) ?_
      refine awp_forS (σ := List Int) (t.args.length) (fun (q : List Int) => [(3, .slice (q.map vint) (.tok 1)), (15, .slice (t.args.map Ty.enc) .none)]) [3, 15] ([]) (fun (q : List Int) => [.row t.enc.cells, .buf q.length 1]) (fun (i : Nat) (q : List Int) => q = ((t.args.take i).map varsT).foldl (fun a b => b.foldl addv a) [] ∧ q.length + Ty.sizes (t.args.drop i) + 1 ≤ t.size) ([]) ([]) rfl rfl rfl rfl rfl rfl rfl rfl rfl (by decide) (by decide) (by decide) (fun _ => rfl) (hw.lenMax) ⟨(by first | rfl | (simp only [jN, seval, vint, TyS, TyF, BdS] <;> first | done | with_reducible rfl)), (by first | rfl | (simp only [jN, seval, vint, TyS, TyF, BdS] <;> first | done | with_reducible rfl)), (by first | rfl | (simp only [jN, seval, vint, TyS, TyF, BdS] <;> first | done | with_reducible rfl)), (by first | rfl | (simp only [jN, seval, vint, TyS, TyF, BdS] <;> first | done | with_reducible rfl)), trivial⟩ (by first | rfl | (simp only [jN, seval, vint, TyS, TyF, BdS] <;> first | done | with_reducible rfl)) (⟨rfl, by simp; omega⟩) (fun _ _ _ => by first | exact Nat.zero_le _ | (simp only [List.length_append]; omega)) ?_ ?_ ?_
      · intro i q hg
        simp only [List.nil_append, TyS]
        refine ⟨?_, by repeat (first | exact BelL.nil | refine BelL.cons (by first | exact bel_Bd _ _ | exact Bd.bel _ _ | exact bel_int_tok _ (by simp) | exact bel_ints0 _ _ | exact bel_slice_ty _ _ | exact Ty.bel _ _ | exact bel_ty_tok _ (by simp) | exact Bel.int _ _ | exact Bel.bool _ | exact Bel.str _ | exact Bel.nilp | exact Bel.nilfn | exact Bel.optr _ _ (by simp) | exact bel_nil0 _ | exact bel_nil1 _ | exact bel_fn0 _ _ | assumption) ?_)⟩
        repeat (first | exact hbel_nil _ | exact trivial | exact obel_row_nil _ | (refine HBel.cons ?_ ?_) | (refine obel_row_cons (by first | exact bel_Bd _ _ | exact Bd.bel _ _ | exact bel_int_tok _ (by simp) | exact bel_ints0 _ _ | exact bel_slice_ty _ _ | exact Ty.bel _ _ | exact bel_ty_tok _ (by simp) | exact Bel.int _ _ | exact Bel.bool _ | exact Bel.str _ | exact Bel.nilp | exact Bel.nilfn | exact Bel.optr _ _ (by simp) | exact bel_nil0 _ | exact bel_nil1 _ | exact bel_fn0 _ _ | assumption) ?_))
      · intro i q hi hg
        obtain ⟨hqe, hql⟩ := hg
        have g1 := ix_nat hi
        have g2 := get_enc Ty.enc hi
        have hmem : t.args[i] ∈ t.args := List.getElem_mem hi
        have hsa := Ty.size_arg hmem
        have hvl := varsT_len t.args[i]
        have htk := List.take_succ_eq_append_getElem hi
        rw [List.drop_eq_getElem_cons hi, Ty.sizes] at hql
        obtain ⟨u, hu⟩ : ∃ u, u = t.args[i] := ⟨_, rfl⟩
        rw [← hu] at g2 hmem hsa hvl hql htk
        repeat (refine awp_seq ?_)
        refine e_eval (by simp only [jA, jO, jN, seval, y27, y29, vint, TyS, TyF, BdS, g1, g2, Int.toNat_natCast] <;> with_reducible rfl) (by decide) ?_
        repeat (refine awp_seq ?_)
        refine awp_region ?_
        refine e_take 1 (by simp only [jA, jO, jN, seval, y29, vint, TyS, TyF, BdS, g1, g2, Int.toNat_natCast] <;> with_reducible rfl) (by decide) ?_
        refine aops_pure (by simp only [jC, jN, seval, vint, TyS, TyF, BdS, g1, g2, Int.toNat_natCast] <;> with_reducible rfl) (by simp only [jC, jN, seval, vint, TyS, TyF, BdS, g1, g2, Int.toNat_natCast]) (by decide) Trygo44 (varsOf_k k u (by omega) (hw.arg hmem) (by omega) _) ?_
        refine e_end (by simp only [jA, jO, jN, seval, y3, y50, vint, TyS, TyF, BdS, g1, g2, Int.toNat_natCast] <;> with_reducible rfl) (by decide) ?_
        repeat (refine awp_seq ?_)
        refine awp_forS (σ := List Int) ((varsT u).length) (fun (p : List Int) => [(3, .slice (p.map vint) (.tok 1)), (22, .slice ((varsT u).map vint) .none), (15, .slice (t.args.map Ty.enc) .none), (16, vint (t.args.length : Int)), (17, vint (i : Int))]) [3, 22, 15, 16, 17] ([]) (fun (p : List Int) => [.row t.enc.cells, .buf p.length 1]) (fun (i : Nat) (p : List Int) => p = ((varsT u).take i).foldl addv q ∧ p.length ≤ q.length + i) (q) (_) rfl rfl rfl rfl rfl rfl rfl rfl rfl (by decide) (by decide) (by decide) (fun _ => rfl) ((by rw [em]; omega)) ⟨(by first | rfl | (simp only [jN, seval, vint, TyS, TyF, BdS, g1, g2, Int.toNat_natCast] <;> first | done | with_reducible rfl)), (by first | rfl | (simp only [jN, seval, vint, TyS, TyF, BdS, g1, g2, Int.toNat_natCast] <;> first | done | with_reducible rfl)), (by first | rfl | (simp only [jN, seval, vint, TyS, TyF, BdS, g1, g2, Int.toNat_natCast] <;> first | done | with_reducible rfl)), (by first | rfl | (simp only [jN, seval, vint, TyS, TyF, BdS, g1, g2, Int.toNat_natCast] <;> first | done | with_reducible rfl)), (by first | rfl | (simp only [jN, seval, vint, TyS, TyF, BdS, g1, g2, Int.toNat_natCast] <;> first | done | with_reducible rfl)), (by first | rfl | (simp only [jN, seval, vint, TyS, TyF, BdS, g1, g2, Int.toNat_natCast] <;> first | done | with_reducible rfl)), (by first | rfl | (simp only [jN, seval, vint, TyS, TyF, BdS, g1, g2, Int.toNat_natCast] <;> first | done | with_reducible rfl)), trivial⟩ (by first | rfl | (simp only [jN, seval, vint, TyS, TyF, BdS, g1, g2, Int.toNat_natCast] <;> first | done | with_reducible rfl)) (⟨rfl, by omega⟩) (fun _ _ _ => by first | exact Nat.zero_le _ | (simp only [List.length_append]; omega)) ?_ ?_ ?_
        · intro i p hg
          simp only [List.nil_append, TyS]
          refine ⟨?_, by repeat (first | exact BelL.nil | refine BelL.cons (by first | exact bel_Bd _ _ | exact Bd.bel _ _ | exact bel_int_tok _ (by simp) | exact bel_ints0 _ _ | exact bel_slice_ty _ _ | exact Ty.bel _ _ | exact bel_ty_tok _ (by simp) | exact Bel.int _ _ | exact Bel.bool _ | exact Bel.str _ | exact Bel.nilp | exact Bel.nilfn | exact Bel.optr _ _ (by simp) | exact bel_nil0 _ | exact bel_nil1 _ | exact bel_fn0 _ _ | assumption) ?_)⟩
          repeat (first | exact hbel_nil _ | exact trivial | exact obel_row_nil _ | (refine HBel.cons ?_ ?_) | (refine obel_row_cons (by first | exact bel_Bd _ _ | exact Bd.bel _ _ | exact bel_int_tok _ (by simp) | exact bel_ints0 _ _ | exact bel_slice_ty _ _ | exact Ty.bel _ _ | exact bel_ty_tok _ (by simp) | exact Bel.int _ _ | exact Bel.bool _ | exact Bel.str _ | exact Bel.nilp | exact Bel.nilfn | exact Bel.optr _ _ (by simp) | exact bel_nil0 _ | exact bel_nil1 _ | exact bel_fn0 _ _ | assumption) ?_))
        · intro i p hi hg
          obtain ⟨hp, hpl⟩ := hg
          have g3 := ix_nat hi
          have g4 := get_enc vint hi
          have htz := List.take_succ_eq_append_getElem hi
          obtain ⟨z, hz⟩ : ∃ z, z = (varsT u)[i] := ⟨_, rfl⟩
          rw [← hz] at g4 htz
          have happ := app_int (us := p) (u := z) (id := 1) (tl := .full) (by omega)
          repeat (refine awp_seq ?_)
          refine e_eval (by simp only [jA, jO, jN, seval, y3, y50, vint, TyS, TyF, BdS, g1, g2, Int.toNat_natCast, g3, g4] <;> with_reducible rfl) (by decide) ?_
          repeat (refine awp_seq ?_)
          refine awp_region ?_
          refine e_take 2 (by simp only [jA, jO, jN, seval, vint, TyS, TyF, BdS, g1, g2, Int.toNat_natCast, g3, g4] <;> with_reducible rfl) (by decide) ?_
          refine aops_pure (by simp only [jC, jN, seval, vint, TyS, TyF, BdS, g1, g2, Int.toNat_natCast, g3, g4] <;> with_reducible rfl) (by simp only [jC, jN, seval, vint, TyS, TyF, BdS, g1, g2, Int.toNat_natCast, g3, g4]) (by decide) Trygo43 (containsIntR p z (by rw [em]; omega) _) ?_
          refine e_end (by simp only [jA, jO, jN, seval, vint, TyS, TyF, BdS, g1, g2, Int.toNat_natCast, g3, g4] <;> with_reducible rfl) (by decide) ?_
          repeat (refine awp_seq ?_)
          refine awp_cond rfl (by simp only [jN, seval, vint, TyS, TyF, BdS, g1, g2, Int.toNat_natCast, g3, g4] <;> with_reducible rfl) (fun bt31 => ?_) (fun bt31 => ?_)
          ·
            have had : addv p z = p ++ [z] := by unfold addv; rw [if_neg]; intro q; rw [q] at bt31; cases bt31
            repeat (refine awp_seq ?_)
            refine e_eval (by simp only [jA, jO, jN, seval, y3, y50, vint, TyS, TyF, BdS, g1, g2, Int.toNat_natCast, g3, g4, happ] <;> with_reducible rfl) (by decide) ?_
            have hgd : ∀ r, addv p z = r → r = ((varsT u).take (i + 1)).foldl addv q := fun r hr => by rw [htz, List.foldl_append, ← hp, ← hr]; rfl
            first
              | exact ⟨⟨rfl, rfl, trivial⟩, p ++ [z], _, ⟨rfl, rfl, rfl, rfl, rfl, trivial⟩, by simp only [jN, seval, vint, TyS, TyF, BdS, List.length_append, List.length_singleton] <;> rfl, hgd _ had, by simp; omega⟩
              | exact ⟨⟨rfl, rfl, trivial⟩, p, _, ⟨rfl, rfl, rfl, rfl, rfl, trivial⟩, by simp only [jN, seval, vint, TyS, TyF, BdS] <;> rfl, hgd _ had, by omega⟩
          ·
            have had : addv p z = p := by unfold addv; rw [if_pos]; simpa using bt31
            repeat (refine awp_seq ?_)
            refine awp_skip ?_
            have hgd : ∀ r, addv p z = r → r = ((varsT u).take (i + 1)).foldl addv q := fun r hr => by rw [htz, List.foldl_append, ← hp, ← hr]; rfl
            first
              | exact ⟨⟨rfl, rfl, trivial⟩, p ++ [z], _, ⟨rfl, rfl, rfl, rfl, rfl, trivial⟩, by simp only [jN, seval, vint, TyS, TyF, BdS, List.length_append, List.length_singleton] <;> rfl, hgd _ had, by simp; omega⟩
              | exact ⟨⟨rfl, rfl, trivial⟩, p, _, ⟨rfl, rfl, rfl, rfl, rfl, trivial⟩, by simp only [jN, seval, vint, TyS, TyF, BdS] <;> rfl, hgd _ had, by omega⟩
        · intro p hg
          obtain ⟨hp, hpl⟩ := hg
          rw [List.take_length] at hp
          exact ⟨⟨rfl, rfl, trivial⟩, p, _, ⟨rfl, rfl, trivial⟩, by simp only [jN, seval, vint, TyS, TyF, BdS] <;> rfl, by rw [htk, List.map_append, List.foldl_append, ← hqe, hp]; rfl, by omega⟩
      · intro q hg
        rw [List.take_length] at hg
        rw [← hg.1] at heq
        repeat (refine awp_seq ?_)
        refine e_eval (by simp only [jA, jO, jN, seval, vint, TyS, TyF, BdS] <;> with_reducible rfl) (by decide) ?_
        repeat (refine awp_seq ?_)
        refine awp_ret ⟨.inr rfl, _, rfl, ?_⟩
        rw [heq]; rfl

theorem substV_k (s : List Bd) (hx : s.length ≤ maxLen) (hwb : ∀ b ∈ s, b.t.W) : ∀ (k : Nat) (t : Ty), t.size ≤ k → t.W → PC Try.prog 41 [t.enc, .slice (s.map Bd.enc) .none] (mapT (subG s) t).enc
  | 0, t, h, _ => by cases t; simp [Ty.size] at h
  | k + 1, t, h, hw => by
    have heq := mapT_eq (subG s) t
    refine pc_of (N := 44) Try.func41 rfl rfl (by simp) (by simp [Ty.bel, bel_Bd]) (Ty.bel _ _) ?_
    repeat (refine awp_seq ?_)
    refine e_eval (by simp only [jA, jO, jN, seval, y29, vint, TyS, TyF, BdS] <;> with_reducible rfl) (by decide) ?_
    repeat (refine awp_seq ?_)
    refine e_eval (by simp only [jA, jO, jN, seval, y3, y29, vint, TyS, TyF, BdS] <;> with_reducible rfl) (by decide) ?_
    repeat (refine awp_seq ?_)
    refine awp_cond rfl (by simp only [jN, seval, vint, TyS, TyF, BdS] <;> with_reducible rfl) (fun bt12 => ?_) (fun bt12 => ?_)
    ·
      repeat (refine awp_seq ?_)
      refine e_eval (by simp only [jA, jO, jN, seval, y24, y42, vint, TyS, TyF, BdS] <;> with_reducible rfl) (by decide) ?_
      repeat (refine awp_seq ?_)
      refine awp_forS (σ := Unit) (s.length) (fun (_u : Unit) => [(1, .slice (s.map Bd.enc) .none), (2, .optr 0 0), (4, .optr 1 0), (13, .slice (s.map Bd.enc) .none)]) [1, 2, 4, 13] ([]) (fun (_u : Unit) => [.row t.enc.cells, .row [.int .i64 0, .int .i64 0, .slice [] .full]]) (fun (i : Nat) (_u : Unit) => (s.take i).any (fun b => decide (b.v = t.id)) = false) (()) ([]) rfl rfl rfl rfl rfl rfl rfl rfl rfl (by decide) (by decide) (by decide) (fun _ => rfl) (hx) ⟨(by first | rfl | (simp only [jN, seval, vint, TyS, TyF, BdS] <;> first | done | with_reducible rfl)), (by first | rfl | (simp only [jN, seval, vint, TyS, TyF, BdS] <;> first | done | with_reducible rfl)), (by first | rfl | (simp only [jN, seval, vint, TyS, TyF, BdS] <;> first | done | with_reducible rfl)), (by first | rfl | (simp only [jN, seval, vint, TyS, TyF, BdS] <;> first | done | with_reducible rfl)), (by first | rfl | (simp only [jN, seval, vint, TyS, TyF, BdS] <;> first | done | with_reducible rfl)), (by first | rfl | (simp only [jN, seval, vint, TyS, TyF, BdS] <;> first | done | with_reducible rfl)), trivial⟩ (by first | rfl | (simp only [jN, seval, vint, TyS, TyF, BdS] <;> first | done | with_reducible rfl)) (by simp) (fun _ _ _ => by first | exact Nat.zero_le _ | (simp only [List.length_append]; omega)) ?_ ?_ ?_
      · intro i _ hg
        simp only [List.nil_append, TyS]
        refine ⟨?_, by repeat (first | exact BelL.nil | refine BelL.cons (by first | exact bel_Bd _ _ | exact Bd.bel _ _ | exact bel_int_tok _ (by simp) | exact bel_ints0 _ _ | exact bel_slice_ty _ _ | exact Ty.bel _ _ | exact bel_ty_tok _ (by simp) | exact Bel.int _ _ | exact Bel.bool _ | exact Bel.str _ | exact Bel.nilp | exact Bel.nilfn | exact Bel.optr _ _ (by simp) | exact bel_nil0 _ | exact bel_nil1 _ | exact bel_fn0 _ _ | assumption) ?_)⟩
        repeat (first | exact hbel_nil _ | exact trivial | exact obel_row_nil _ | (refine HBel.cons ?_ ?_) | (refine obel_row_cons (by first | exact bel_Bd _ _ | exact Bd.bel _ _ | exact bel_int_tok _ (by simp) | exact bel_ints0 _ _ | exact bel_slice_ty _ _ | exact Ty.bel _ _ | exact bel_ty_tok _ (by simp) | exact Bel.int _ _ | exact Bel.bool _ | exact Bel.str _ | exact Bel.nilp | exact Bel.nilfn | exact Bel.optr _ _ (by simp) | exact bel_nil0 _ | exact bel_nil1 _ | exact bel_fn0 _ _ | assumption) ?_))
      · intro i _u hi hg
        have g1 := ix_nat hi
        have g2 := get_enc Bd.enc hi
        repeat (refine awp_seq ?_)
        refine e_eval (by simp only [jA, jO, jN, seval, y24, y42, vint, TyS, TyF, BdS, g1, g2, Int.toNat_natCast] <;> with_reducible rfl) (by decide) ?_
        repeat (refine awp_seq ?_)
        refine e_eval (by simp only [jA, jO, jN, seval, y3, y29, y42, vint, TyS, TyF, BdS, g1, g2, Int.toNat_natCast] <;> with_reducible rfl) (by decide) ?_
        repeat (refine awp_seq ?_)
        refine awp_cond rfl (by simp only [jN, seval, vint, TyS, TyF, BdS, g1, g2, Int.toNat_natCast] <;> with_reducible rfl) (fun bt23 => ?_) (fun bt23 => ?_)
        ·
          have hhit := sub_hit (s := s) (u := t) (i := i) (of_decide_eq_true bt12) hi (of_decide_eq_true bt23) hg
          rw [hhit, if_pos rfl] at heq
          repeat (refine awp_seq ?_)
          refine e_eval (by simp only [jA, jO, jN, seval, y29, y42, vint, TyS, TyF, BdS, g1, g2, Int.toNat_natCast] <;> with_reducible rfl) (by decide) ?_
          repeat (refine awp_seq ?_)
          refine awp_ret ⟨.inr rfl, _, (ares_cell 4 29 rfl Tryti29 (by decide) (by simp only [jL, jN, seval, vint, TyS, TyF, BdS, g1, g2, Int.toNat_natCast] <;> with_reducible rfl)), ?_⟩
          rw [heq]
          exact Ty.enc_drop1 _
        ·
          repeat (refine awp_seq ?_)
          refine awp_skip ?_
          exact ⟨⟨rfl, rfl, trivial⟩, (), _, ⟨rfl, rfl, rfl, rfl, trivial⟩, by simp only [jN, seval, vint, TyS, TyF, BdS] <;> rfl, any_take_succ hi hg bt23⟩
      · intro _u hg
        rw [List.take_length] at hg
        have hmiss := sub_miss (s := s) (u := t) (fun _ => hg)
        repeat (refine awp_seq ?_)
        refine e_eval (by simp only [jA, jO, jN, seval, vint, TyS, TyF, BdS] <;> with_reducible rfl) (by decide) ?_
        repeat (refine awp_seq ?_)
        refine e_eval (by simp only [jA, jO, jN, seval, y27, y29, vint, TyS, TyF, BdS] <;> with_reducible rfl) (by decide) ?_
        repeat (refine awp_seq ?_)
        refine awp_retok 7 3 (es := []) (by simp only [jN, seval, vint, TyS, TyF, BdS] <;> with_reducible rfl) ?_
        refine awp_forS (σ := List Ty) (t.args.length) (fun (r : List Ty) => [(1, .slice (s.map Bd.enc) .none), (2, .optr 0 0), (4, .optr 1 0), (7, .slice (r.map Ty.enc) (.tok 2)), (28, .slice (t.args.map Ty.enc) .none)]) [1, 2, 4, 7, 28] ([]) (fun (r : List Ty) => [.row t.enc.cells, .row [.int .i64 0, .int .i64 0, .slice [] .full], .buf r.length 3]) (fun (i : Nat) (r : List Ty) => r = (t.args.take i).map (mapT (subG s))) ([]) ([]) rfl rfl rfl rfl rfl rfl rfl rfl rfl (by decide) (by decide) (by decide) (fun _ => rfl) (hw.lenMax) ⟨(by first | rfl | (simp only [jN, seval, vint, TyS, TyF, BdS] <;> first | done | with_reducible rfl)), (by first | rfl | (simp only [jN, seval, vint, TyS, TyF, BdS] <;> first | done | with_reducible rfl)), (by first | rfl | (simp only [jN, seval, vint, TyS, TyF, BdS] <;> first | done | with_reducible rfl)), (by first | rfl | (simp only [jN, seval, vint, TyS, TyF, BdS] <;> first | done | with_reducible rfl)), (by first | rfl | (simp only [jN, seval, vint, TyS, TyF, BdS] <;> first | done | with_reducible rfl)), (by first | rfl | (simp only [jN, seval, vint, TyS, TyF, BdS] <;> first | done | with_reducible rfl)), (by first | rfl | (simp only [jN, seval, vint, TyS, TyF, BdS] <;> first | done | with_reducible rfl)), trivial⟩ (by first | rfl | (simp only [jN, seval, vint, TyS, TyF, BdS] <;> first | done | with_reducible rfl)) (by simp) (fun _ _ _ => by first | exact Nat.zero_le _ | (simp only [List.length_append]; omega)) ?_ ?_ ?_
        · intro i r hg
          simp only [List.nil_append, TyS]
          refine ⟨?_, by repeat (first | exact BelL.nil | refine BelL.cons (by first | exact bel_Bd _ _ | exact Bd.bel _ _ | exact bel_int_tok _ (by simp) | exact bel_ints0 _ _ | exact bel_slice_ty _ _ | exact Ty.bel _ _ | exact bel_ty_tok _ (by simp) | exact Bel.int _ _ | exact Bel.bool _ | exact Bel.str _ | exact Bel.nilp | exact Bel.nilfn | exact Bel.optr _ _ (by simp) | exact bel_nil0 _ | exact bel_nil1 _ | exact bel_fn0 _ _ | assumption) ?_)⟩
          repeat (first | exact hbel_nil _ | exact trivial | exact obel_row_nil _ | (refine HBel.cons ?_ ?_) | (refine obel_row_cons (by first | exact bel_Bd _ _ | exact Bd.bel _ _ | exact bel_int_tok _ (by simp) | exact bel_ints0 _ _ | exact bel_slice_ty _ _ | exact Ty.bel _ _ | exact bel_ty_tok _ (by simp) | exact Bel.int _ _ | exact Bel.bool _ | exact Bel.str _ | exact Bel.nilp | exact Bel.nilfn | exact Bel.optr _ _ (by simp) | exact bel_nil0 _ | exact bel_nil1 _ | exact bel_fn0 _ _ | assumption) ?_))
        · intro i r hi hg
          have g1 := ix_nat hi
          have g2 := get_enc Ty.enc hi
          have hmem : t.args[i] ∈ t.args := List.getElem_mem hi
          have hsa := Ty.size_arg hmem
          have hlen := hw.len
          have hsl : r.length < t.args.length := by rw [hg, List.length_map, List.length_take]; omega
          have happ := app_ty (us := r) (u := mapT (subG s) t.args[i]) (id := 2) (tl := .full) (by omega)
          repeat (refine awp_seq ?_)
          refine e_eval (by simp only [jA, jO, jN, seval, y27, y29, vint, TyS, TyF, BdS, g1, g2, Int.toNat_natCast] <;> with_reducible rfl) (by decide) ?_
          repeat (refine awp_seq ?_)
          refine awp_region ?_
          refine e_take 3 (by simp only [jA, jO, jN, seval, y29, vint, TyS, TyF, BdS, g1, g2, Int.toNat_natCast, happ] <;> with_reducible rfl) (by decide) ?_
          refine aops_pure (by simp only [jC, jN, seval, vint, TyS, TyF, BdS, g1, g2, Int.toNat_natCast, happ] <;> with_reducible rfl) (by simp only [jC, jN, seval, vint, TyS, TyF, BdS, g1, g2, Int.toNat_natCast, happ]) (by decide) Trygo41 (substV_k s hx hwb k t.args[i] (by omega) (hw.arg hmem) _) ?_
          refine e_end (by simp only [jA, jO, jN, seval, y27, y29, vint, TyS, TyF, BdS, g1, g2, Int.toNat_natCast, happ] <;> with_reducible rfl) (by decide) ?_
          exact ⟨⟨rfl, rfl, trivial⟩, r ++ [mapT (subG s) t.args[i]], _, ⟨rfl, rfl, rfl, rfl, rfl, trivial⟩, by simp only [jN, seval, vint, TyS, TyF, BdS, List.length_append, List.length_singleton] <;> rfl, by rw [hg, map_take_succ _ hi]⟩
        · intro r hg
          rw [List.take_length] at hg
          rw [hmiss, if_neg (by simp), ← hg] at heq
          repeat (refine awp_seq ?_)
          refine e_eval (by simp only [jA, jO, jN, seval, y27, y29, vint, TyS, TyF, BdS] <;> with_reducible rfl) (by decide) ?_
          repeat (refine awp_seq ?_)
          refine e_eval (by simp only [jA, jO, jN, seval, y29, vint, TyS, TyF, BdS] <;> with_reducible rfl) (by decide) ?_
          repeat (refine awp_seq ?_)
          refine awp_ret ⟨.inr rfl, _, (ares_cell 4 29 rfl Tryti29 (by decide) (by simp only [jL, jN, seval, vint, TyS, TyF, BdS] <;> with_reducible rfl)), ?_⟩
          rw [heq]
          try simp only [TyF, d1_agg, LS]
          first | done | exact Ty.enc_drop1 _ | rfl
    ·
      have hmiss := sub_miss (s := s) (u := t) (fun h => absurd h (of_decide_eq_false bt12))
      repeat (refine awp_seq ?_)
      refine awp_skip ?_
      repeat (refine awp_seq ?_)
      refine e_eval (by simp only [jA, jO, jN, seval, vint, TyS, TyF, BdS] <;> with_reducible rfl) (by decide) ?_
      repeat (refine awp_seq ?_)
      refine e_eval (by simp only [jA, jO, jN, seval, y27, y29, vint, TyS, TyF, BdS] <;> with_reducible rfl) (by decide) ?_
      repeat (refine awp_seq ?_)
      refine awp_retok 7 3 (es := []) (by simp only [jN, seval, vint, TyS, TyF, BdS] <;> with_reducible rfl) ?_
      refine awp_forS (σ := List Ty) (t.args.length) (fun (r : List Ty) => [(1, .slice (s.map Bd.enc) .none), (2, .optr 0 0), (4, .optr 1 0), (7, .slice (r.map Ty.enc) (.tok 2)), (28, .slice (t.args.map Ty.enc) .none)]) [1, 2, 4, 7, 28] ([]) (fun (r : List Ty) => [.row t.enc.cells, .row [.int .i64 0, .int .i64 0, .slice [] .full], .buf r.length 3]) (fun (i : Nat) (r : List Ty) => r = (t.args.take i).map (mapT (subG s))) ([]) ([]) rfl rfl rfl rfl rfl rfl rfl rfl rfl (by decide) (by decide) (by decide) (fun _ => rfl) (hw.lenMax) ⟨(by first | rfl | (simp only [jN, seval, vint, TyS, TyF, BdS] <;> first | done | with_reducible rfl)), (by first | rfl | (simp only [jN, seval, vint, TyS, TyF, BdS] <;> first | done | with_reducible rfl)), (by first | rfl | (simp only [jN, seval, vint, TyS, TyF, BdS] <;> first | done | with_reducible rfl)), (by first | rfl | (simp only [jN, seval, vint, TyS, TyF, BdS] <;> first | done | with_reducible rfl)), (by first | rfl | (simp only [jN, seval, vint, TyS, TyF, BdS] <;> first | done | with_reducible rfl)), (by first | rfl | (simp only [jN, seval, vint, TyS, TyF, BdS] <;> first | done | with_reducible rfl)), (by first | rfl | (simp only [jN, seval, vint, TyS, TyF, BdS] <;> first | done | with_reducible rfl)), trivial⟩ (by first | rfl | (simp only [jN, seval, vint, TyS, TyF, BdS] <;> first | done | with_reducible rfl)) (by simp) (fun _ _ _ => by first | exact Nat.zero_le _ | (simp only [List.length_append]; omega)) ?_ ?_ ?_
      · intro i r hg
        simp only [List.nil_append, TyS]
        refine ⟨?_, by repeat (first | exact BelL.nil | refine BelL.cons (by first | exact bel_Bd _ _ | exact Bd.bel _ _ | exact bel_int_tok _ (by simp) | exact bel_ints0 _ _ | exact bel_slice_ty _ _ | exact Ty.bel _ _ | exact bel_ty_tok _ (by simp) | exact Bel.int _ _ | exact Bel.bool _ | exact Bel.str _ | exact Bel.nilp | exact Bel.nilfn | exact Bel.optr _ _ (by simp) | exact bel_nil0 _ | exact bel_nil1 _ | exact bel_fn0 _ _ | assumption) ?_)⟩
        repeat (first | exact hbel_nil _ | exact trivial | exact obel_row_nil _ | (refine HBel.cons ?_ ?_) | (refine obel_row_cons (by first | exact bel_Bd _ _ | exact Bd.bel _ _ | exact bel_int_tok _ (by simp) | exact bel_ints0 _ _ | exact bel_slice_ty _ _ | exact Ty.bel _ _ | exact bel_ty_tok _ (by simp) | exact Bel.int _ _ | exact Bel.bool _ | exact Bel.str _ | exact Bel.nilp | exact Bel.nilfn | exact Bel.optr _ _ (by simp) | exact bel_nil0 _ | exact bel_nil1 _ | exact bel_fn0 _ _ | assumption) ?_))
      · intro i r hi hg
        have g1 := ix_nat hi
        have g2 := get_enc Ty.enc hi
        have hmem : t.args[i] ∈ t.args := List.getElem_mem hi
        have hsa := Ty.size_arg hmem
        have hlen := hw.len
        have hsl : r.length < t.args.length := by rw [hg, List.length_map, List.length_take]; omega
        have happ := app_ty (us := r) (u := mapT (subG s) t.args[i]) (id := 2) (tl := .full) (by omega)
        repeat (refine awp_seq ?_)
        refine e_eval (by simp only [jA, jO, jN, seval, y27, y29, vint, TyS, TyF, BdS, g1, g2, Int.toNat_natCast] <;> with_reducible rfl) (by decide) ?_
        repeat (refine awp_seq ?_)
        refine awp_region ?_
        refine e_take 3 (by simp only [jA, jO, jN, seval, y29, vint, TyS, TyF, BdS, g1, g2, Int.toNat_natCast, happ] <;> with_reducible rfl) (by decide) ?_
        refine aops_pure (by simp only [jC, jN, seval, vint, TyS, TyF, BdS, g1, g2, Int.toNat_natCast, happ] <;> with_reducible rfl) (by simp only [jC, jN, seval, vint, TyS, TyF, BdS, g1, g2, Int.toNat_natCast, happ]) (by decide) Trygo41 (substV_k s hx hwb k t.args[i] (by omega) (hw.arg hmem) _) ?_
        refine e_end (by simp only [jA, jO, jN, seval, y27, y29, vint, TyS, TyF, BdS, g1, g2, Int.toNat_natCast, happ] <;> with_reducible rfl) (by decide) ?_
        exact ⟨⟨rfl, rfl, trivial⟩, r ++ [mapT (subG s) t.args[i]], _, ⟨rfl, rfl, rfl, rfl, rfl, trivial⟩, by simp only [jN, seval, vint, TyS, TyF, BdS, List.length_append, List.length_singleton] <;> rfl, by rw [hg, map_take_succ _ hi]⟩
      · intro r hg
        rw [List.take_length] at hg
        rw [hmiss, if_neg (by simp), ← hg] at heq
        repeat (refine awp_seq ?_)
        refine e_eval (by simp only [jA, jO, jN, seval, y27, y29, vint, TyS, TyF, BdS] <;> with_reducible rfl) (by decide) ?_
        repeat (refine awp_seq ?_)
        refine e_eval (by simp only [jA, jO, jN, seval, y29, vint, TyS, TyF, BdS] <;> with_reducible rfl) (by decide) ?_
        repeat (refine awp_seq ?_)
        refine awp_ret ⟨.inr rfl, _, (ares_cell 4 29 rfl Tryti29 (by decide) (by simp only [jL, jN, seval, vint, TyS, TyF, BdS] <;> with_reducible rfl)), ?_⟩
        rw [heq]
        try simp only [TyF, d1_agg, LS]
        first | done | exact Ty.enc_drop1 _ | rfl

end Go.Abs
set_option maxRecDepth 4000
namespace Go.Abs
open Go.Proofs
def eqBd (a b : Bd) : Bool := decide (a.v = b.v) && a.t.eqb b.t
def eqBs (xs ys : List Bd) : Bool := xs.length == ys.length && (xs.zip ys).all fun p => eqBd p.1 p.2
theorem eqBd_iff (a b : Bd) : eqBd a b = true ↔ a = b := by
  unfold eqBd
  rw [Bool.and_eq_true, decide_eq_true_eq, Ty.eqb_iff]
  constructor
  · rintro ⟨h1, h2⟩; cases a; cases b; simp only at h1 h2; rw [h1, h2]
  · rintro rfl; exact ⟨rfl, rfl⟩
theorem eqBs_iff : ∀ (xs ys : List Bd), eqBs xs ys = true ↔ xs = ys
  | [], [] => by simp [eqBs]
  | [], y :: ys => by simp [eqBs]
  | x :: xs, [] => by simp [eqBs]
  | x :: xs, y :: ys => by
    have ih := eqBs_iff xs ys
    have hx := eqBd_iff x y
    unfold eqBs at ih ⊢
    simp only [List.length_cons, List.zip_cons_cons, List.all_cons, Bool.and_eq_true, beq_iff_eq, List.cons.injEq, Nat.add_right_cancel_iff] at ih ⊢
    rw [hx, ← ih]
    constructor
    · rintro ⟨h1, h2, h3⟩; exact ⟨h2, h1, h3⟩
    · rintro ⟨h2, h1, h3⟩; exact ⟨h1, h2, h3⟩

theorem bindingsEqual (us vs : List Bd) (hx : us.length ≤ maxLen) (hw : ∀ b ∈ us, b.t.W) : PC Try.prog 12 [.slice (us.map Bd.enc) .none, .slice (vs.map Bd.enc) .none] (.bool (eqBs us vs)) := by
  refine pc_of (N := 42) Try.func12 rfl rfl (by simp) (by simp [bel_Bd]) (.bool _) ?_
  repeat (refine awp_seq ?_)
  refine e_eval (by simp only [jA, jO, jN, seval, vint, TyS, TyF, MapS, EqS, BdS] <;> with_reducible rfl) (by decide) ?_
  repeat (refine awp_seq ?_)
  refine e_eval (by simp only [jA, jO, jN, seval, y3, y24, y42, vint, TyS, TyF, MapS, EqS, BdS] <;> with_reducible rfl) (by decide) ?_
  repeat (refine awp_seq ?_)
  refine awp_cond rfl (by simp only [jN, seval, vint, TyS, TyF, MapS, EqS, BdS] <;> with_reducible rfl) (fun bt10 => ?_) (fun bt10 => ?_)
  ·
    skip
    repeat (refine awp_seq ?_)
    refine e_eval (by simp only [jA, jO, jN, seval, vint, TyS, TyF, MapS, EqS, BdS] <;> with_reducible rfl) (by decide) ?_
    repeat (refine awp_seq ?_)
    refine awp_ret ⟨.inr rfl, _, rfl, ?_⟩
    simp only [jN, seval, vint, TyS, TyF, MapS, EqS, BdS]
    have : us.length ≠ vs.length := by simp at bt10; omega
    simp [eqBs, this]
  ·
    have hlen : us.length = vs.length := by simp at bt10; omega
    repeat (refine awp_seq ?_)
    refine awp_skip ?_
    repeat (refine awp_seq ?_)
    refine e_eval (by simp only [jA, jO, jN, seval, y24, y42, vint, TyS, TyF, MapS, EqS, BdS] <;> with_reducible rfl) (by decide) ?_
    repeat (refine awp_seq ?_)
    refine awp_forS (σ := Unit) (us.length) (fun (s : Unit) => [(0, .slice (us.map Bd.enc) .none), (1, .slice (vs.map Bd.enc) .none)]) [0, 1] ([]) (fun (s : Unit) => []) (fun (i : Nat) (s : Unit) => ((us.zip vs).take i).all (fun p => eqBd p.1 p.2) = true) (()) ([]) rfl rfl rfl rfl rfl rfl rfl rfl rfl (by decide) (by decide) (by decide) (fun _ => rfl) (hx) ⟨(by first | rfl | (simp only [jN, seval, vint, TyS, TyF, MapS, EqS, BdS] <;> first | done | with_reducible rfl)), (by first | rfl | (simp only [jN, seval, vint, TyS, TyF, MapS, EqS, BdS] <;> first | done | with_reducible rfl)), (by first | rfl | (simp only [jN, seval, vint, TyS, TyF, MapS, EqS, BdS] <;> first | done | with_reducible rfl)), (by first | rfl | (simp only [jN, seval, vint, TyS, TyF, MapS, EqS, BdS] <;> first | done | with_reducible rfl)), trivial⟩ (by first | rfl | (simp only [jN, seval, vint, TyS, TyF, MapS, EqS, BdS] <;> first | done | with_reducible rfl)) (by simp) (fun _ _ _ => by first | exact Nat.zero_le _ | (simp only [List.length_append]; omega)) ?_ ?_ ?_
    · exact fun i s hg => ⟨by first | exact hbel_nil _ | (simp only [List.append_nil]; assumption) | (refine hbel_app' hb' (by simp) ?_; repeat (first | exact hbel_nil _ | exact trivial | exact obel_row_nil _ | (refine HBel.cons ?_ ?_) | (refine obel_row_cons (by first | exact bel_Bd _ _ | exact bel_Eq2 _ _ | exact bel_ints0 _ _ | exact bel_slice_ty _ _ | exact Ty.bel _ _ | exact bel_ty_tok _ (by simp) | exact Bel.int _ _ | exact Bel.bool _ | exact Bel.str _ | exact Bel.nilp | exact Bel.nilfn | exact Bel.optr _ _ (by simp) | exact bel_nil0 _ | exact bel_nil1 _ | exact bel_fn0 _ _ | assumption) ?_))), by repeat (first | exact BelL.nil | refine BelL.cons (by first | exact bel_Bd _ _ | exact bel_Eq2 _ _ | exact bel_ints0 _ _ | exact bel_slice_ty _ _ | exact Ty.bel _ _ | exact bel_ty_tok _ (by simp) | exact Bel.int _ _ | exact Bel.bool _ | exact Bel.str _ | exact Bel.nilp | exact Bel.nilfn | exact Bel.optr _ _ (by simp) | exact bel_nil0 _ | exact bel_nil1 _ | exact bel_fn0 _ _ | assumption) ?_)⟩
    · intro i s hi hg
      have g1 := ix_nat hi
      have hi2 : i < vs.length := by omega
      have g3 := ix_nat hi2
      have g2 := get_enc Bd.enc hi
      have g4 := get_enc Bd.enc hi2
      have hwi := hw _ (List.getElem_mem hi)
      repeat (refine awp_seq ?_)
      refine e_eval (by simp only [jA, jO, jN, seval, vint, TyS, TyF, MapS, EqS, BdS, g1, Int.toNat_natCast, g2, g3, g4] <;> with_reducible rfl) (by decide) ?_
      repeat (refine awp_seq ?_)
      refine dp_draw (by kernel_rfl) ?_
      refine dp_take 22 (by simp only [jP, jO, jN, seval, y3, y24, y29, y42, vint, TyS, TyF, MapS, EqS, BdS, g1, Int.toNat_natCast, g2, g3, g4] <;> with_reducible rfl) (by decide) ?_
      refine dp_keep (by simp only [jE, jN, seval, vint, TyS, TyF, MapS, EqS, BdS, g1, Int.toNat_natCast, g2, g3, g4] <;> with_reducible rfl) (by simp only [jE, jN, seval, vint, TyS, TyF, MapS, EqS, BdS, g1, Int.toNat_natCast, g2, g3, g4] <;> with_reducible rfl) (by simp only [jE, jN, seval, vint, TyS, TyF, MapS, EqS, BdS, g1, Int.toNat_natCast, g2, g3, g4]) (by decide) Trygo45 (fun hc => typesEqual_k _ us[i].t vs[i].t (Nat.le_refl _) hwi _) ?_
      refine dp_end (by simp only [jP, jO, jN, seval, vint, TyS, TyF, MapS, EqS, BdS, g1, Int.toNat_natCast, g2, g3, g4] <;> with_reducible rfl) (by decide) (by repeat (first | exact Fin.base _ | with_reducible apply Fin.keep | apply Fin.drop)) ?_
      repeat (refine awp_seq ?_)
      refine awp_cond rfl (by simp only [jN, seval, vint, TyS, TyF, MapS, EqS, BdS, g1, Int.toNat_natCast, g2, g3, g4] <;> with_reducible rfl) (fun bt40 => ?_) (fun bt40 => ?_)
      ·
        skip
        refine awp_sel [0, 1, 12, 13] (by simp only [jN, seval, vint, TyS, TyF, MapS, EqS, BdS, g1, Int.toNat_natCast, g2, g3, g4] <;> with_reducible rfl) ?_
        repeat (refine awp_seq ?_)
        refine e_eval (by simp only [jA, jO, jN, seval, vint, TyS, TyF, MapS, EqS, BdS, g1, Int.toNat_natCast, g2, g3, g4] <;> with_reducible rfl) (by decide) ?_
        repeat (refine awp_seq ?_)
        refine awp_ret ⟨.inr rfl, _, rfl, ?_⟩
        simp only [jN, seval, vint, TyS, TyF, MapS, EqS, BdS]
        have hgf : eqBd us[i] vs[i] = false := by unfold eqBd; revert bt40; cases decide (us[i].v = vs[i].v) <;> cases us[i].t.eqb vs[i].t <;> simp
        have hmem : (us[i], vs[i]) ∈ us.zip vs := by
          rw [List.mem_iff_getElem]; exact ⟨i, by simp; omega, by simp⟩
        have : ((us.zip vs).all fun p => eqBd p.1 p.2) = false := by
          rw [List.all_eq_false]; exact ⟨_, hmem, by simp [hgf]⟩
        simp [eqBs, this]
      ·
        repeat (refine awp_seq ?_)
        refine awp_skip ?_
        have hgt : eqBd us[i] vs[i] = true := by unfold eqBd; revert bt40; cases decide (us[i].v = vs[i].v) <;> cases us[i].t.eqb vs[i].t <;> simp
        exact ⟨⟨rfl, rfl, trivial⟩, (), _, ⟨rfl, rfl, trivial⟩, rfl, all_take_succ (by simp; omega) hg (by simpa using hgt)⟩
    · intro s hg
      repeat (refine awp_seq ?_)
      refine e_eval (by simp only [jA, jO, jN, seval, vint, TyS, TyF, MapS, EqS, BdS] <;> with_reducible rfl) (by decide) ?_
      repeat (refine awp_seq ?_)
      refine awp_ret ⟨.inr rfl, _, rfl, ?_⟩
      simp only [jN, seval, vint, TyS, TyF, MapS, EqS, BdS]
      rw [List.take_of_length_le (by simp; omega)] at hg
      simp [eqBs, hlen, hg]

end Go.Abs
set_option maxRecDepth 4000
namespace Go.Abs
open Go.Proofs
theorem unifyW1' : PC Try.prog 9 [.slice [.agg [.int .i64 9, .int .i64 0, .slice [(Ty.mk 1 1 []).enc, (Ty.mk 1 2 []).enc] .none, .int .i64 9, .int .i64 0, .slice [(Ty.mk 3 0 []).enc, (Ty.mk 1 1 []).enc] .none]] .none] (.tup [.slice [(Bd.mk 1 (Ty.mk 3 0 [])).enc, (Bd.mk 2 (Ty.mk 3 0 [])).enc] .none, .bool true]) := unifyW1
theorem unifyW2' : PC Try.prog 9 [.slice [.agg [.int .i64 1, .int .i64 0, .slice [] .none, .int .i64 8, .int .i64 0, .slice [(Ty.mk 1 0 []).enc] .none]] .none] (.tup [.slice [] .none, .bool false]) := unifyW2
theorem bindW' : PC Try.prog 12 [.slice [(Bd.mk 1 (Ty.mk 3 0 [])).enc, (Bd.mk 2 (Ty.mk 3 0 [])).enc] .none, .slice [(Bd.mk 1 (Ty.mk 3 0 [])).enc, (Bd.mk 2 (Ty.mk 3 0 [])).enc] .none] (.bool true) := by
  have := bindingsEqual ansW ansW (by simp [ansW, maxLen]) (by simp [ansW, ti, Ty.W_iff])
  rw [(eqBs_iff _ _).2 rfl] at this
  exact this
theorem worksEq : eqBs ansW [⟨1, ti⟩, ⟨2, ti⟩] = true := (eqBs_iff _ _).2 rfl

theorem worksK : PC Try.prog 13 [] (.bool true) := by
  refine pc_of (N := 43) Try.func13 rfl rfl (by simp) (by simp) (.bool _) ?_
  repeat (refine awp_seq ?_)
  refine e_eval (by simp only [jA, jO, jN, seval, vint, TyS, TyF, MapS, EqS, BdS] <;> with_reducible rfl) (by decide) ?_
  repeat (refine awp_seq ?_)
  refine awp_region ?_
  refine aops_pure (by simp only [jC, jN, seval, vint, TyS, TyF, MapS, EqS, BdS] <;> with_reducible rfl) (by simp only [jC, jN, seval, vint, TyS, TyF, MapS, EqS, BdS]) (by decide) Trygo19 (typeVarK 1 _) ?_
  refine aops_pure (by simp only [jC, jN, seval, vint, TyS, TyF, MapS, EqS, BdS] <;> with_reducible rfl) (by simp only [jC, jN, seval, vint, TyS, TyF, MapS, EqS, BdS]) (by decide) Trygo19 (typeVarK 2 _) ?_
  refine e_take 1 (by simp only [jA, jO, jN, seval, y27, y29, vint, TyS, TyF, MapS, EqS, BdS] <;> with_reducible rfl) (by decide) ?_
  refine aops_pure (by simp only [jC, jN, seval, vint, TyS, TyF, MapS, EqS, BdS] <;> with_reducible rfl) (by simp only [jC, jN, seval, vint, TyS, TyF, MapS, EqS, BdS]) (by decide) Trygo26 (typK 9 0 [.mk 1 1 [], .mk 1 2 []] _) ?_
  refine aops_pure (by simp only [jC, jN, seval, vint, TyS, TyF, MapS, EqS, BdS] <;> with_reducible rfl) (by simp only [jC, jN, seval, vint, TyS, TyF, MapS, EqS, BdS]) (by decide) Trygo46 (intTypeK _) ?_
  refine aops_pure (by simp only [jC, jN, seval, vint, TyS, TyF, MapS, EqS, BdS] <;> with_reducible rfl) (by simp only [jC, jN, seval, vint, TyS, TyF, MapS, EqS, BdS]) (by decide) Trygo19 (typeVarK 1 _) ?_
  refine e_take 1 (by simp only [jA, jO, jN, seval, y27, y29, vint, TyS, TyF, MapS, EqS, BdS] <;> with_reducible rfl) (by decide) ?_
  refine aops_pure (by simp only [jC, jN, seval, vint, TyS, TyF, MapS, EqS, BdS] <;> with_reducible rfl) (by simp only [jC, jN, seval, vint, TyS, TyF, MapS, EqS, BdS]) (by decide) Trygo26 (typK 9 0 [.mk 3 0 [], .mk 1 1 []] _) ?_
  refine e_take 2 (by simp only [jA, jO, jN, seval, y22, y31, vint, TyS, TyF, MapS, EqS, BdS] <;> with_reducible rfl) (by decide) ?_
  refine aops_pure (by simp only [jC, jN, seval, vint, TyS, TyF, MapS, EqS, BdS] <;> with_reducible rfl) (by simp only [jC, jN, seval, vint, TyS, TyF, MapS, EqS, BdS]) (by decide) Trygo9 (unifyW1' _) ?_
  refine e_end (by simp only [jA, jO, jN, seval, vint, TyS, TyF, MapS, EqS, BdS] <;> with_reducible rfl) (by decide) ?_
  refine awp_sel [1, 2] (by simp only [jN, seval, vint, TyS, TyF, MapS, EqS, BdS] <;> with_reducible rfl) ?_
  repeat (refine awp_seq ?_)
  refine awp_region ?_
  refine aops_pure (by simp only [jC, jN, seval, vint, TyS, TyF, MapS, EqS, BdS] <;> with_reducible rfl) (by simp only [jC, jN, seval, vint, TyS, TyF, MapS, EqS, BdS]) (by decide) Trygo19 (typeVarK 0 _) ?_
  refine aops_pure (by simp only [jC, jN, seval, vint, TyS, TyF, MapS, EqS, BdS] <;> with_reducible rfl) (by simp only [jC, jN, seval, vint, TyS, TyF, MapS, EqS, BdS]) (by decide) Trygo19 (typeVarK 0 _) ?_
  refine e_take 1 (by simp only [jA, jO, jN, seval, y27, y29, vint, TyS, TyF, MapS, EqS, BdS] <;> with_reducible rfl) (by decide) ?_
  refine aops_pure (by simp only [jC, jN, seval, vint, TyS, TyF, MapS, EqS, BdS] <;> with_reducible rfl) (by simp only [jC, jN, seval, vint, TyS, TyF, MapS, EqS, BdS]) (by decide) Trygo26 (typK 8 0 [.mk 1 0 []] _) ?_
  refine e_take 2 (by simp only [jA, jO, jN, seval, y22, y31, vint, TyS, TyF, MapS, EqS, BdS] <;> with_reducible rfl) (by decide) ?_
  refine aops_pure (by simp only [jC, jN, seval, vint, TyS, TyF, MapS, EqS, BdS] <;> with_reducible rfl) (by simp only [jC, jN, seval, vint, TyS, TyF, MapS, EqS, BdS]) (by decide) Trygo9 (unifyW2' _) ?_
  refine e_end (by simp only [jA, jO, jN, seval, vint, TyS, TyF, MapS, EqS, BdS] <;> with_reducible rfl) (by decide) ?_
  repeat (refine awp_seq ?_)
  refine awp_region ?_
  refine aops_gstart ?_
  refine g_take 7 (by simp only [jG, jO, jN, seval, vint, TyS, TyF, MapS, EqS, BdS] <;> with_reducible rfl) (by decide) ?_
  refine aops_gpure (by simp only [jE, jN, seval, vint, TyS, TyF, MapS, EqS, BdS] <;> with_reducible rfl) (by simp only [jE, jN, seval, vint, TyS, TyF, MapS, EqS, BdS] <;> with_reducible rfl) (by simp only [jE, jN, seval, vint, TyS, TyF, MapS, EqS, BdS]) (by decide) Trygo46 (fun hc => intTypeK _) ?_
  refine g_take 1 (by simp only [jG, jO, jN, seval, y42, vint, TyS, TyF, MapS, EqS, BdS] <;> with_reducible rfl) (by decide) ?_
  refine aops_gpure (by simp only [jE, jN, seval, vint, TyS, TyF, MapS, EqS, BdS] <;> with_reducible rfl) (by simp only [jE, jN, seval, vint, TyS, TyF, MapS, EqS, BdS] <;> with_reducible rfl) (by simp only [jE, jN, seval, vint, TyS, TyF, MapS, EqS, BdS]) (by decide) Trygo46 (fun hc => intTypeK _) ?_
  refine g_take 2 (by simp only [jG, jO, jN, seval, y24, y42, vint, TyS, TyF, MapS, EqS, BdS] <;> with_reducible rfl) (by decide) ?_
  refine aops_gpure (by simp only [jE, jN, seval, vint, TyS, TyF, MapS, EqS, BdS] <;> with_reducible rfl) (by simp only [jE, jN, seval, vint, TyS, TyF, MapS, EqS, BdS] <;> with_reducible rfl) (by simp only [jE, jN, seval, vint, TyS, TyF, MapS, EqS, BdS]) (by decide) Trygo12 (fun hc => bindW' _) ?_
  refine g_end (by simp only [jG, jO, jN, seval, vint, TyS, TyF, MapS, EqS, BdS] <;> with_reducible rfl) (by decide) (by repeat (first | exact Fin.base _ | with_reducible apply Fin.keep | apply Fin.drop)) ?_
  repeat (refine awp_seq ?_)
  refine awp_ret ⟨.inr rfl, _, rfl, ?_⟩
  simp only [jN, seval, vint, TyS, TyF, MapS, EqS, BdS]

theorem worksL : PC Try.prog 8 [] (.bool true) := by
  refine pc_of (N := 43) Try.func8 rfl rfl (by simp) (by simp) (.bool _) ?_
  repeat (refine awp_seq ?_)
  refine e_eval (by simp only [jA, jO, jN, seval, vint, TyS, TyF, MapS, EqS, BdS] <;> with_reducible rfl) (by decide) ?_
  repeat (refine awp_seq ?_)
  refine awp_region ?_
  refine aops_pure (by simp only [jC, jN, seval, vint, TyS, TyF, MapS, EqS, BdS] <;> with_reducible rfl) (by simp only [jC, jN, seval, vint, TyS, TyF, MapS, EqS, BdS]) (by decide) Trygo28 (typeVarL 1 _) ?_
  refine aops_pure (by simp only [jC, jN, seval, vint, TyS, TyF, MapS, EqS, BdS] <;> with_reducible rfl) (by simp only [jC, jN, seval, vint, TyS, TyF, MapS, EqS, BdS]) (by decide) Trygo28 (typeVarL 2 _) ?_
  refine e_take 1 (by simp only [jA, jO, jN, seval, y27, y29, vint, TyS, TyF, MapS, EqS, BdS] <;> with_reducible rfl) (by decide) ?_
  refine aops_pure (by simp only [jC, jN, seval, vint, TyS, TyF, MapS, EqS, BdS] <;> with_reducible rfl) (by simp only [jC, jN, seval, vint, TyS, TyF, MapS, EqS, BdS]) (by decide) Trygo27 (typL 9 0 [.mk 1 1 [], .mk 1 2 []] _) ?_
  refine aops_pure (by simp only [jC, jN, seval, vint, TyS, TyF, MapS, EqS, BdS] <;> with_reducible rfl) (by simp only [jC, jN, seval, vint, TyS, TyF, MapS, EqS, BdS]) (by decide) Trygo29 (intTypeL _) ?_
  refine aops_pure (by simp only [jC, jN, seval, vint, TyS, TyF, MapS, EqS, BdS] <;> with_reducible rfl) (by simp only [jC, jN, seval, vint, TyS, TyF, MapS, EqS, BdS]) (by decide) Trygo28 (typeVarL 1 _) ?_
  refine e_take 1 (by simp only [jA, jO, jN, seval, y27, y29, vint, TyS, TyF, MapS, EqS, BdS] <;> with_reducible rfl) (by decide) ?_
  refine aops_pure (by simp only [jC, jN, seval, vint, TyS, TyF, MapS, EqS, BdS] <;> with_reducible rfl) (by simp only [jC, jN, seval, vint, TyS, TyF, MapS, EqS, BdS]) (by decide) Trygo27 (typL 9 0 [.mk 3 0 [], .mk 1 1 []] _) ?_
  refine e_take 2 (by simp only [jA, jO, jN, seval, y22, y31, vint, TyS, TyF, MapS, EqS, BdS] <;> with_reducible rfl) (by decide) ?_
  refine aops_pure (by simp only [jC, jN, seval, vint, TyS, TyF, MapS, EqS, BdS] <;> with_reducible rfl) (by simp only [jC, jN, seval, vint, TyS, TyF, MapS, EqS, BdS]) (by decide) Trygo9 (unifyW1' _) ?_
  refine e_end (by simp only [jA, jO, jN, seval, vint, TyS, TyF, MapS, EqS, BdS] <;> with_reducible rfl) (by decide) ?_
  refine awp_sel [1, 2] (by simp only [jN, seval, vint, TyS, TyF, MapS, EqS, BdS] <;> with_reducible rfl) ?_
  repeat (refine awp_seq ?_)
  refine awp_region ?_
  refine aops_pure (by simp only [jC, jN, seval, vint, TyS, TyF, MapS, EqS, BdS] <;> with_reducible rfl) (by simp only [jC, jN, seval, vint, TyS, TyF, MapS, EqS, BdS]) (by decide) Trygo28 (typeVarL 0 _) ?_
  refine aops_pure (by simp only [jC, jN, seval, vint, TyS, TyF, MapS, EqS, BdS] <;> with_reducible rfl) (by simp only [jC, jN, seval, vint, TyS, TyF, MapS, EqS, BdS]) (by decide) Trygo28 (typeVarL 0 _) ?_
  refine e_take 1 (by simp only [jA, jO, jN, seval, y27, y29, vint, TyS, TyF, MapS, EqS, BdS] <;> with_reducible rfl) (by decide) ?_
  refine aops_pure (by simp only [jC, jN, seval, vint, TyS, TyF, MapS, EqS, BdS] <;> with_reducible rfl) (by simp only [jC, jN, seval, vint, TyS, TyF, MapS, EqS, BdS]) (by decide) Trygo27 (typL 8 0 [.mk 1 0 []] _) ?_
  refine e_take 2 (by simp only [jA, jO, jN, seval, y22, y31, vint, TyS, TyF, MapS, EqS, BdS] <;> with_reducible rfl) (by decide) ?_
  refine aops_pure (by simp only [jC, jN, seval, vint, TyS, TyF, MapS, EqS, BdS] <;> with_reducible rfl) (by simp only [jC, jN, seval, vint, TyS, TyF, MapS, EqS, BdS]) (by decide) Trygo9 (unifyW2' _) ?_
  refine e_end (by simp only [jA, jO, jN, seval, vint, TyS, TyF, MapS, EqS, BdS] <;> with_reducible rfl) (by decide) ?_
  repeat (refine awp_seq ?_)
  refine awp_region ?_
  refine aops_gstart ?_
  refine g_take 7 (by simp only [jG, jO, jN, seval, vint, TyS, TyF, MapS, EqS, BdS] <;> with_reducible rfl) (by decide) ?_
  refine aops_gpure (by simp only [jE, jN, seval, vint, TyS, TyF, MapS, EqS, BdS] <;> with_reducible rfl) (by simp only [jE, jN, seval, vint, TyS, TyF, MapS, EqS, BdS] <;> with_reducible rfl) (by simp only [jE, jN, seval, vint, TyS, TyF, MapS, EqS, BdS]) (by decide) Trygo29 (fun hc => intTypeL _) ?_
  refine g_take 1 (by simp only [jG, jO, jN, seval, y42, vint, TyS, TyF, MapS, EqS, BdS] <;> with_reducible rfl) (by decide) ?_
  refine aops_gpure (by simp only [jE, jN, seval, vint, TyS, TyF, MapS, EqS, BdS] <;> with_reducible rfl) (by simp only [jE, jN, seval, vint, TyS, TyF, MapS, EqS, BdS] <;> with_reducible rfl) (by simp only [jE, jN, seval, vint, TyS, TyF, MapS, EqS, BdS]) (by decide) Trygo29 (fun hc => intTypeL _) ?_
  refine g_take 2 (by simp only [jG, jO, jN, seval, y24, y42, vint, TyS, TyF, MapS, EqS, BdS] <;> with_reducible rfl) (by decide) ?_
  refine aops_gpure (by simp only [jE, jN, seval, vint, TyS, TyF, MapS, EqS, BdS] <;> with_reducible rfl) (by simp only [jE, jN, seval, vint, TyS, TyF, MapS, EqS, BdS] <;> with_reducible rfl) (by simp only [jE, jN, seval, vint, TyS, TyF, MapS, EqS, BdS]) (by decide) Trygo12 (fun hc => bindW' _) ?_
  refine g_end (by simp only [jG, jO, jN, seval, vint, TyS, TyF, MapS, EqS, BdS] <;> with_reducible rfl) (by decide) (by repeat (first | exact Fin.base _ | with_reducible apply Fin.keep | apply Fin.drop)) ?_
  repeat (refine awp_seq ?_)
  refine awp_ret ⟨.inr rfl, _, rfl, ?_⟩
  simp only [jN, seval, vint, TyS, TyF, MapS, EqS, BdS]

end Go.Abs
set_option maxRecDepth 4000
namespace Go.Abs
open Go.Proofs

theorem errT_k : ∀ (k : Nat) (t : Ty), t.size ≤ k → t.W → PC Try.prog 48 [t.enc] (.bool (errT t))
  | 0, t, h, _ => by cases t; simp [Ty.size] at h
  | k + 1, t, h, hw => by
    refine pc_of (N := 11) Try.func48 rfl rfl (by simp) (by simp [Ty.bel]) (.bool _) ?_
    repeat (refine awp_seq ?_)
    refine e_eval (by simp only [jA, jO, jN, seval, y29, vint, TyS, TyF, MapS, EqS, BdS] <;> with_reducible rfl) (by decide) ?_
    repeat (refine awp_seq ?_)
    refine awp_region ?_
    refine aops_gstart ?_
    refine g_take 6 (by simp only [jG, jO, jN, seval, y3, y27, y29, vint, TyS, TyF, MapS, EqS, BdS] <;> with_reducible rfl) (by decide) ?_
    refine aops_gpure (by simp only [jE, jN, seval, vint, TyS, TyF, MapS, EqS, BdS] <;> with_reducible rfl) (by simp only [jE, jN, seval, vint, TyS, TyF, MapS, EqS, BdS] <;> with_reducible rfl) (by simp only [jE, jN, seval, vint, TyS, TyF, MapS, EqS, BdS]) (by decide) Trygo68 (fun hc => containsFuncTy (p := errT) ⟨Trygo48, by simp, fun u hu => errT_k k u (by have := Ty.size_arg hu; omega) (hw.arg hu) _⟩ hw.lenMax) ?_
    refine g_end (by simp only [jG, jO, jN, seval, vint, TyS, TyF, MapS, EqS, BdS] <;> with_reducible rfl) (by decide) (by repeat (first | exact Fin.base _ | with_reducible apply Fin.keep | apply Fin.drop)) ?_
    repeat (refine awp_seq ?_)
    refine awp_ret ⟨.inr rfl, _, rfl, ?_⟩
    simp only [jN, seval, vint, TyS, TyF, MapS, EqS, BdS]
    rw [errT_eq]

theorem errT_c (t : Ty) (hw : t.W) : PC Try.prog 48 [t.enc] (.bool (errT t)) := errT_k t.size t (Nat.le_refl _) hw

theorem errE_c (e : Eq2) (hl : e.l.W) (hr : e.r.W) : PC Try.prog 47 [e.enc] (.bool (errE e)) := by
  refine pc_of (N := 11) Try.func47 rfl rfl (by simp) (by simp [Eq2.bel]) (.bool _) ?_
  repeat (refine awp_seq ?_)
  refine e_eval (by simp only [jA, jO, jN, seval, y31, vint, TyS, TyF, MapS, EqS, BdS] <;> with_reducible rfl) (by decide) ?_
  repeat (refine awp_seq ?_)
  refine awp_region ?_
  refine aops_gstart ?_
  refine g_take 2 (by simp only [jG, jO, jN, seval, y29, y31, vint, TyS, TyF, MapS, EqS, BdS] <;> with_reducible rfl) (by decide) ?_
  refine aops_gpure (by simp only [jE, jN, seval, vint, TyS, TyF, MapS, EqS, BdS] <;> with_reducible rfl) (by simp only [jE, jN, seval, vint, TyS, TyF, MapS, EqS, BdS] <;> with_reducible rfl) (by simp only [jE, jN, seval, vint, TyS, TyF, MapS, EqS, BdS]) (by decide) Trygo48 (fun hc => errT_c e.l hl _) ?_
  refine g_take 3 (by simp only [jG, jO, jN, seval, y29, y31, vint, TyS, TyF, MapS, EqS, BdS] <;> with_reducible rfl) (by decide) ?_
  refine aops_gpure (by simp only [jE, jN, seval, vint, TyS, TyF, MapS, EqS, BdS] <;> with_reducible rfl) (by simp only [jE, jN, seval, vint, TyS, TyF, MapS, EqS, BdS] <;> with_reducible rfl) (by simp only [jE, jN, seval, vint, TyS, TyF, MapS, EqS, BdS]) (by decide) Trygo48 (fun hc => errT_c e.r hr _) ?_
  refine g_end (by simp only [jG, jO, jN, seval, vint, TyS, TyF, MapS, EqS, BdS] <;> with_reducible rfl) (by decide) (by repeat (first | exact Fin.base _ | with_reducible apply Fin.keep | apply Fin.drop)) ?_
  repeat (refine awp_seq ?_)
  refine awp_ret ⟨.inr rfl, _, rfl, ?_⟩
  simp only [jN, seval, vint, TyS, TyF, MapS, EqS, BdS]
  simp [errE]

theorem anyErr_c (eqs : List Eq2) (hw : ∀ e ∈ eqs, e.l.W ∧ e.r.W) (hlen : eqs.length ≤ maxLen) : PC Try.prog 14 [.slice (eqs.map Eq2.enc) .none] (.bool (eqs.any errE)) := by
  refine pc_of (N := 5) Try.func14 rfl rfl (by simp) (by simp [bel_Eq2]) (.bool _) ?_
  repeat (refine awp_seq ?_)
  refine e_eval (by simp only [jA, jO, jN, seval, vint, TyS, TyF, MapS, EqS, BdS] <;> with_reducible rfl) (by decide) ?_
  repeat (refine awp_seq ?_)
  refine awp_region ?_
  refine e_take 1 (by simp only [jA, jO, jN, seval, vint, TyS, TyF, MapS, EqS, BdS] <;> with_reducible rfl) (by decide) ?_
  refine aops_pure (by simp only [jC, jN, seval, vint, TyS, TyF, MapS, EqS, BdS] <;> with_reducible rfl) (by simp only [jC, jN, seval, vint, TyS, TyF, MapS, EqS, BdS]) (by decide) Trygo30 (containsFuncEq2 (p := errE) ⟨Trygo47, by simp, fun e he => errE_c e (hw e he).1 (hw e he).2 _⟩ hlen) ?_
  refine e_end (by simp only [jA, jO, jN, seval, vint, TyS, TyF, MapS, EqS, BdS] <;> with_reducible rfl) (by decide) ?_
  repeat (refine awp_seq ?_)
  refine awp_ret ⟨.inr rfl, _, rfl, ?_⟩
  simp only [jN, seval, vint, TyS, TyF, MapS, EqS, BdS]

end Go.Abs
set_option maxRecDepth 4000
namespace Go.Abs
open Go.Proofs
theorem bd_get {bs : List Bd} (h : ∀ b ∈ bs, b.t.W) {i : Nat} (hi : i < bs.length) : bs[i].t.W := h _ (List.getElem_mem hi)

theorem indexFuncBd {f : FuncId} {caps : List PV} {H : Heap} {us : List Bd} {p : Bd → Bool} (hc : CloB Try.prog Bd.enc f caps H us p) (hl : us.length ≤ maxLen) : ACalls Try.prog 53 [.slice (us.map Bd.enc) .none, .fn (.func f) [] caps] H fun r' H' => r' = vint (idxI p us) ∧ H' = H := by
  have hgo := hc.go
  refine keeps_of (N := 19) Try.func53 rfl rfl (by simp) (.int _ _) fun hb' => ?_
  repeat (refine awp_seq ?_)
  refine e_eval (by simp only [jA, jO, jN, seval, vint, TyS, TyF, BdS] <;> with_reducible rfl) (by decide) ?_
  repeat (refine awp_seq ?_)
  refine e_eval (by simp only [jA, jO, jN, seval, y24, y42, vint, TyS, TyF, BdS] <;> with_reducible rfl) (by decide) ?_
  repeat (refine awp_seq ?_)
  refine awp_forS (σ := Unit) (us.length) (fun (s : Unit) => [(0, .slice (us.map Bd.enc) .none), (1, .fn (.func f) [] caps)]) [0, 1] (H) (fun (s : Unit) => []) (fun (i : Nat) (s : Unit) => (us.take i).any p = false) (()) ([]) rfl rfl rfl rfl rfl rfl rfl rfl rfl (by decide) (by decide) (by decide) (fun _ => rfl) (hl) ⟨(by first | rfl | (simp only [jN, seval, vint, TyS, TyF, BdS] <;> first | done | with_reducible rfl)), (by first | rfl | (simp only [jN, seval, vint, TyS, TyF, BdS] <;> first | done | with_reducible rfl)), (by first | rfl | (simp only [jN, seval, vint, TyS, TyF, BdS] <;> first | done | with_reducible rfl)), (by first | rfl | (simp only [jN, seval, vint, TyS, TyF, BdS] <;> first | done | with_reducible rfl)), trivial⟩ (by first | rfl | (simp only [jN, seval, vint, TyS, TyF, BdS] <;> first | done | with_reducible rfl)) (by simp) (fun _ _ _ => by first | exact Nat.zero_le _ | (simp only [List.length_append]; omega)) ?_ ?_ ?_
  · exact fun i s hg => ⟨by simp only [List.append_nil]; exact hb', .cons (bel_Bd _ _) (.cons (.fn _ _ _ (by simp) (fun c hc' => (hc.bel c hc').mono (by simp))) .nil)⟩
  · intro i s hi hg
    have g1 := ix_nat hi
    have g2 := get_enc Bd.enc hi
    repeat (refine awp_seq ?_)
    refine e_eval (by simp only [jA, jO, jN, seval, vint, TyS, TyF, BdS, g1, Int.toNat_natCast, g2] <;> with_reducible rfl) (by decide) ?_
    repeat (refine awp_seq ?_)
    refine awp_region ?_
    refine e_take 5 (by simp only [jA, jO, jN, seval, y24, y42, vint, TyS, TyF, BdS, g1, Int.toNat_natCast, g2] <;> with_reducible rfl) (by decide) ?_
    refine aops_pure (by simp only [jC, jN, seval, vint, TyS, TyF, BdS, g1, Int.toNat_natCast, g2] <;> with_reducible rfl) (by simp only [jC, jN, seval, vint, TyS, TyF, BdS, g1, Int.toNat_natCast, g2]) (by decide) (by assumption) (hc.call _ (List.getElem_mem hi)) ?_
    refine aops_nil ?_
    repeat (refine awp_seq ?_)
    refine awp_cond rfl (by simp only [jN, seval, vint, TyS, TyF, BdS, g1, Int.toNat_natCast, g2] <;> with_reducible rfl) (fun b0 => ?_) (fun b0 => ?_)
    ·
      repeat (refine awp_seq ?_)
      refine e_eval (by simp only [jA, jO, jN, seval, vint, TyS, TyF, BdS, g1, Int.toNat_natCast, g2] <;> with_reducible rfl) (by decide) ?_
      repeat (refine awp_seq ?_)
      refine awp_ret ⟨.inr rfl, _, _, rfl, ?_, (by first | exact (List.append_nil _).symm | rfl)⟩
      rw [idxI_at hi b0 hg]; rfl
    ·
      repeat (refine awp_seq ?_)
      refine awp_skip ?_
      exact ⟨⟨rfl, rfl, trivial⟩, (), [], ⟨rfl, rfl, trivial⟩, by simp only [List.append_nil], any_take_succ hi hg b0⟩
  · intro s hg
    rw [List.take_length] at hg
    repeat (refine awp_seq ?_)
    refine e_eval (by simp only [jA, jO, jN, seval, vint, TyS, TyF, BdS] <;> with_reducible rfl) (by decide) ?_
    repeat (refine awp_seq ?_)
    refine awp_ret ⟨.inr rfl, _, _, rfl, ?_, (by first | exact (List.append_nil _).symm | rfl)⟩
    rw [idxI_none hg]; rfl

theorem containsFuncBd {f : FuncId} {caps : List PV} {H : Heap} {us : List Bd} {p : Bd → Bool} (hc : CloB Try.prog Bd.enc f caps H us p) (hl : us.length ≤ maxLen) : ACalls Try.prog 22 [.slice (us.map Bd.enc) .none, .fn (.func f) [] caps] H fun r' H' => r' = .bool (us.any p) ∧ H' = H := by
  refine keeps_of (N := 9) Try.func22 rfl rfl (by simp) (.bool _) fun hb' => ?_
  repeat (refine awp_seq ?_)
  refine e_eval (by simp only [jA, jO, jN, seval, vint, TyS, TyF, BdS] <;> with_reducible rfl) (by decide) ?_
  repeat (refine awp_seq ?_)
  refine awp_region ?_
  refine e_take 2 (by simp only [jA, jO, jN, seval, vint, TyS, TyF, BdS] <;> with_reducible rfl) (by decide) ?_
  refine aops_pure (by simp only [jC, jN, seval, vint, TyS, TyF, BdS] <;> with_reducible rfl) (by simp only [jC, jN, seval, vint, TyS, TyF, BdS]) (by decide) Trygo53 (indexFuncBd hc hl) ?_
  refine e_end (by simp only [jA, jO, jN, seval, y3, vint, TyS, TyF, BdS] <;> with_reducible rfl) (by decide) ?_
  repeat (refine awp_seq ?_)
  refine awp_ret ⟨.inr rfl, _, _, rfl, ?_, (by first | exact (List.append_nil _).symm | rfl)⟩
  rw [← idxI_nonneg]; rfl

theorem sub11 (u : Ty) (H : Heap) (id : Nat) (h1 : H[id]? = some (.row u.enc.cells)) (b : Bd) : ACalls Try.prog 54 [b.enc, .optr id 0] H fun r' H' => r' = .bool (decide (b.v = u.id)) ∧ H' = H := by
  simp only [TyS] at h1
  have q1 : ∀ L, (H ++ L)[id]? = some (.row [.int .i64 u.kind, .int .i64 u.id, .slice (u.args.map Ty.enc) .none]) := fun L => by rw [List.getElem?_append_left (len_of_get h1)]; exact h1
  refine keeps_of (N := 9) Try.func54 rfl rfl (by simp) (.bool _) fun hb' => ?_
  repeat (refine awp_seq ?_)
  refine e_eval (by simp only [jA, jO, jN, seval, y42, vint, TyS, TyF, BdS, q1, h1] <;> with_reducible rfl) (by decide) ?_
  repeat (refine awp_seq ?_)
  refine e_eval (by simp only [jA, jO, jN, seval, y3, y29, y42, vint, TyS, TyF, BdS, q1, h1] <;> with_reducible rfl) (by decide) ?_
  repeat (refine awp_seq ?_)
  refine awp_ret ⟨.inr rfl, _, _, rfl, ?_, (by first | exact (List.append_nil _).symm | rfl)⟩
  simp only [jN, seval, vint, TyS, TyF, BdS]

theorem sub1 (s : List Bd) (H : Heap) (i1 : Nat) (hx : s.length ≤ maxLen) (hw : ∀ b ∈ s, b.t.W) (h1 : H[i1]? = some (.row [.slice (s.map Bd.enc) .none])) (u : Ty) :
    ACalls Try.prog 52 [u.enc, .optr i1 0] H fun r' H' => r' = .tup [(subG s u).1.enc, .bool (subG s u).2] ∧ H' = H := by
  have q1 : ∀ L, (H ++ L)[i1]? = some (.row [.slice (s.map Bd.enc) .none]) := fun L => by rw [List.getElem?_append_left (len_of_get h1)]; exact h1
  refine keeps_of (N := 22) Try.func52 rfl rfl (by simp) (.tup _ (by simp [Ty.bel, Bel.bool])) fun hb' => ?_
  repeat (refine awp_seq ?_)
  refine e_eval (by simp only [jA, jO, jN, seval, y29, vint, TyS, TyF, BdS, q1] <;> with_reducible rfl) (by decide) ?_
  repeat (refine awp_seq ?_)
  refine e_eval (by simp only [jA, jO, jN, seval, y3, y29, vint, TyS, TyF, BdS, q1] <;> with_reducible rfl) (by decide) ?_
  repeat (refine awp_seq ?_)
  refine awp_cond rfl (by simp only [jN, seval, vint, TyS, TyF, BdS, q1] <;> with_reducible rfl) (fun b0 => ?_) (fun b0 => ?_)
  ·
    repeat (refine awp_seq ?_)
    refine e_eval (by simp only [jA, jO, jN, seval, y29, vint, TyS, TyF, BdS, q1] <;> with_reducible rfl) (by decide) ?_
    repeat (refine awp_seq ?_)
    refine awp_ret ⟨.inr rfl, _, _, (ares_two (.cell 3 29) (.tmp 4) rfl (ares_cell1 Tryti29 (by decide) (by simp only [jL, jN, seval, vint, TyS, TyF, BdS, q1] <;> with_reducible rfl)) (ares_tmp1 (by decide))), ?_, (by first | exact (List.append_nil _).symm | rfl)⟩
    simp only [jN, seval, vint, TyS, TyF, BdS]
    simp only [subG, b0, if_true]
  ·
    repeat (refine awp_seq ?_)
    refine awp_skip ?_
    repeat (refine awp_seq ?_)
    refine awp_region ?_
    refine e_take 2 (by simp only [jA, jO, jN, seval, y24, y42, vint, TyS, TyF, BdS, q1] <;> with_reducible rfl) (by decide) ?_
    refine aops_pure (by simp only [jC, jN, seval, vint, TyS, TyF, BdS, q1] <;> with_reducible rfl) (by simp only [jC, jN, seval, vint, TyS, TyF, BdS, q1]) (by decide) Trygo53 (indexFuncBd (p := fun b => decide (b.v = u.id)) ⟨Trygo54, by simp; exact .optr _ _ (by simp), fun b _ => sub11 u _ _ (by simp only [TyS]; simp) b⟩ hx) ?_
    refine e_end (by simp only [jA, jO, jN, seval, vint, TyS, TyF, BdS, q1] <;> with_reducible rfl) (by decide) ?_
    repeat (refine awp_seq ?_)
    refine e_eval (by simp only [jA, jO, jN, seval, y3, vint, TyS, TyF, BdS, q1] <;> with_reducible rfl) (by decide) ?_
    repeat (refine awp_seq ?_)
    refine awp_cond rfl (by simp only [jN, seval, vint, TyS, TyF, BdS, q1] <;> with_reducible rfl) (fun b1 => ?_) (fun b1 => ?_)
    ·
      repeat (refine awp_seq ?_)
      refine e_eval (by simp only [jA, jO, jN, seval, y29, vint, TyS, TyF, BdS, q1] <;> with_reducible rfl) (by decide) ?_
      repeat (refine awp_seq ?_)
      refine awp_ret ⟨.inr rfl, _, _, (ares_two (.cell 3 29) (.tmp 4) rfl (ares_cell1 Tryti29 (by decide) (by simp only [jL, jN, seval, vint, TyS, TyF, BdS, q1] <;> with_reducible rfl)) (ares_tmp1 (by decide))), ?_, (by first | exact (List.append_nil _).symm | rfl)⟩
      simp only [jN, seval, vint, TyS, TyF, BdS]
      simp only [subG, b0, b1, Bool.false_eq_true, if_false, if_true]
    ·
      have hge : 0 ≤ idxI (fun b : Bd => decide (b.v = u.id)) s := by have : ¬ idxI (fun b : Bd => decide (b.v = u.id)) s < 0 := of_decide_eq_false b1; omega
      have hlt0 := idxI_lt (p := fun b : Bd => decide (b.v = u.id)) hge
      have hb : 0 ≤ idxI (fun b : Bd => decide (b.v = u.id)) s ∧ idxI (fun b : Bd => decide (b.v = u.id)) s < s.length := ⟨hge, hlt0⟩
      have g1 : ((0 : Int) ≤ idxI (fun b : Bd => decide (b.v = u.id)) s ∧ idxI (fun b : Bd => decide (b.v = u.id)) s < s.length) = True := by simp only [hb, and_self]
      have hlt : (idxI (fun b : Bd => decide (b.v = u.id)) s).toNat < s.length := by omega
      have g2 := get_enc Bd.enc hlt
      have hwa := bd_get hw hlt
      repeat (refine awp_seq ?_)
      refine awp_skip ?_
      repeat (refine awp_seq ?_)
      refine awp_region ?_
      refine e_take 5 (by simp only [jA, jO, jN, seval, y24, y29, y42, vint, TyS, TyF, BdS, q1, g1, g2] <;> with_reducible rfl) (by decide) ?_
      refine aops_pure (by simp only [jC, jN, seval, vint, TyS, TyF, BdS, q1, g1, g2] <;> with_reducible rfl) (by simp only [jC, jN, seval, vint, TyS, TyF, BdS, q1, g1, g2]) (by decide) Trygo55 (clone _ hwa _) ?_
      refine e_end (by simp only [jA, jO, jN, seval, y29, vint, TyS, TyF, BdS, q1, g1, g2] <;> with_reducible rfl) (by decide) ?_
      repeat (refine awp_seq ?_)
      refine awp_ret ⟨.inr rfl, _, _, (ares_two (.cell 3 29) (.tmp 4) rfl (ares_cell1 Tryti29 (by decide) (by simp only [jL, jN, seval, vint, TyS, TyF, BdS, q1] <;> with_reducible rfl)) (ares_tmp1 (by decide))), ?_, (by first | exact (List.append_nil _).symm | rfl)⟩
      simp only [jN, seval, vint, TyS, TyF, BdS]
      simp only [subG, b0, b1, Bool.false_eq_true, if_false, List.getD_eq_getElem?_getD, List.getElem?_eq_getElem hlt, Option.getD_some]

theorem subst (t : Ty) (s : List Bd) (ht : t.W) (hx : s.length ≤ maxLen) (hw : ∀ b ∈ s, b.t.W) : PC Try.prog 17 [t.enc, .slice (s.map Bd.enc) .none] (mapT (subG s) t).enc := by
  refine pc_of (N := 8) Try.func17 rfl rfl (by simp) (by simp [Ty.bel, bel_Bd]) (Ty.bel _ _) ?_
  repeat (refine awp_seq ?_)
  refine e_eval (by simp only [jA, jO, jN, seval, y24, y29, y42, vint, TyS, TyF, BdS] <;> with_reducible rfl) (by decide) ?_
  repeat (refine awp_seq ?_)
  refine awp_region ?_
  refine e_take 2 (by simp only [jA, jO, jN, seval, y29, vint, TyS, TyF, BdS] <;> with_reducible rfl) (by decide) ?_
  refine aops_pure (by simp only [jC, jN, seval, vint, TyS, TyF, BdS] <;> with_reducible rfl) (by simp only [jC, jN, seval, vint, TyS, TyF, BdS]) (by decide) Trygo51 (map_k (D := fun _ => True) (rd := [(1, .row [.slice (s.map Bd.enc) .none])]) (g := subG s) ⟨Trygo52, fun H h => by have := len_of_get (h _ (.head _)); simp; exact .optr _ _ (by assumption), fun _ _ _ _ => trivial, fun H u _ h => sub1 s H 1 hx hw (h _ (.head _)) u⟩ _ t _ (Nat.le_refl _) ht trivial (by simp)) ?_
  refine e_end (by simp only [jA, jO, jN, seval, y29, vint, TyS, TyF, BdS] <;> with_reducible rfl) (by decide) ?_
  repeat (refine awp_seq ?_)
  refine awp_ret ⟨.inr rfl, _, (ares_cell 4 29 rfl Tryti29 (by decide) (by simp only [jL, jN, seval, vint, TyS, TyF, BdS] <;> with_reducible rfl)), ?_⟩
  exact Ty.enc_drop1 _

def tw1 : Ty := .mk 9 0 [.mk 1 3 [], .mk 7 7 [.mk 1 1 [], .mk 1 3 []]]
def tw2 : Ty := .mk 9 0 [.mk 3 0 [], .mk 7 7 [.mk 1 1 [], .mk 3 0 []]]
theorem tw_sub : mapT (subG [⟨3, .mk 3 0 []⟩]) (.mk 9 0 [.mk 1 3 [], .mk 7 7 [.mk 1 1 [], .mk 1 3 []]]) = .mk 9 0 [.mk 3 0 [], .mk 7 7 [.mk 1 1 [], .mk 3 0 []]] := by
  simp [mapT, sub1_eq, Ty.kind, Ty.id, Ty.args]
theorem tw_val : valT (.mk 9 0 [.mk 1 3 [], .mk 7 7 [.mk 1 1 [], .mk 1 3 []]]) = 0 := by
  simp [valT, measT, measL, wfT, nwf, Ty.kind, Ty.id, Ty.args]
  omega
theorem tw_val3 : valT (.mk 8 2 [.mk 9 0 [.mk 1 3 [], .mk 7 7 [.mk 1 1 [], .mk 1 3 []]]]) = 3 := by
  simp [valT, measT, measL, wfT, nwf, Ty.kind, Ty.id, Ty.args]
  omega
theorem tw_fv : afv (.mk 9 0 [.mk 1 3 [], .mk 7 7 [.mk 1 1 [], .mk 1 3 []]]) [] = [3, 1] := by
  simp [afv, afvL]
theorem tw_fv2 : afv (.mk 9 0 [.mk 3 0 [], .mk 7 7 [.mk 1 1 [], .mk 3 0 []]]) [] = [1] := by
  simp [afv, afvL]

end Go.Abs
set_option maxRecDepth 4000
namespace Go.Abs
open Go.Proofs

theorem law_solves (eqs : List Eq2) (hw : ∀ e ∈ eqs, e.l.W ∧ e.r.W) (hlen : eqs.length ≤ maxLen) : PC Try.prog 5 [.slice (eqs.map Eq2.enc) .none] (.bool true) := by
  have em : maxLen = 9223372036854775807 := by decide
  obtain ⟨R, ok, hu, hU⟩ := uni_c hw hlen
  have hRl : R.length ≤ maxLen := by have := hU.len; omega
  have hRW := hU.w
  have hno := hU.no
  refine pc_of (N := 83) Try.func5 rfl rfl (by simp) (by simp [bel_Eq2]) (.bool _) ?_
  repeat (refine awp_seq ?_)
  refine e_eval (by simp only [jA, jO, jN, seval, vint, TyS, TyF, MapS, EqS, BdS] <;> with_reducible rfl) (by decide) ?_
  repeat (refine awp_seq ?_)
  refine awp_region ?_
  refine aops_pure (by simp only [jC, jN, seval, vint, TyS, TyF, MapS, EqS, BdS] <;> with_reducible rfl) (by simp only [jC, jN, seval, vint, TyS, TyF, MapS, EqS, BdS]) (by decide) Trygo13 (worksK _) ?_
  refine e_end (by simp only [jA, jO, jN, seval, vint, TyS, TyF, MapS, EqS, BdS] <;> with_reducible rfl) (by decide) ?_
  repeat (refine awp_seq ?_)
  refine awp_cond_false rfl (by simp only [jN, seval, vint, TyS, TyF, MapS, EqS, BdS] <;> with_reducible rfl) ?_
  repeat (refine awp_seq ?_)
  refine awp_skip ?_
  repeat (refine awp_seq ?_)
  refine awp_region ?_
  refine e_take 1 (by simp only [jA, jO, jN, seval, vint, TyS, TyF, MapS, EqS, BdS] <;> with_reducible rfl) (by decide) ?_
  refine aops_pure (by simp only [jC, jN, seval, vint, TyS, TyF, MapS, EqS, BdS] <;> with_reducible rfl) (by simp only [jC, jN, seval, vint, TyS, TyF, MapS, EqS, BdS]) (by decide) Trygo9 (hu _) ?_
  refine e_end (by simp only [jA, jO, jN, seval, vint, TyS, TyF, MapS, EqS, BdS] <;> with_reducible rfl) (by decide) ?_
  repeat (refine awp_seq ?_)
  refine awp_region ?_
  refine aops_gstart ?_
  refine aops_gpure (by simp only [jE, jN, seval, vint, TyS, TyF, MapS, EqS, BdS] <;> with_reducible rfl) (by simp only [jE, jN, seval, vint, TyS, TyF, MapS, EqS, BdS] <;> with_reducible rfl) (by simp only [jE, jN, seval, vint, TyS, TyF, MapS, EqS, BdS]) (by decide) Trygo13 (fun hc => worksK _) ?_
  refine g_take 7 (by simp only [jG, jO, jN, seval, vint, TyS, TyF, MapS, EqS, BdS] <;> with_reducible rfl) (by decide) ?_
  refine aops_gpure (by simp only [jE, jN, seval, vint, TyS, TyF, MapS, EqS, BdS] <;> with_reducible rfl) (by simp only [jE, jN, seval, vint, TyS, TyF, MapS, EqS, BdS] <;> with_reducible rfl) (by simp only [jE, jN, seval, vint, TyS, TyF, MapS, EqS, BdS]) (by decide) Trygo14 (fun hc => anyErr_c eqs hw hlen _) ?_
  refine g_end (by simp only [jG, jO, jN, seval, vint, TyS, TyF, MapS, EqS, BdS] <;> with_reducible rfl) (by decide) (by repeat (first | exact Fin.base _ | with_reducible apply Fin.keep | apply Fin.drop)) ?_
  repeat (refine awp_seq ?_)
  refine awp_cond rfl (by simp only [jN, seval, vint, TyS, TyF, MapS, EqS, BdS] <;> with_reducible rfl) (fun bt25 => ?_) (fun bt25 => ?_)
  ·
    refine awp_sel [3, 4] (by simp only [jN, seval, vint, TyS, TyF, MapS, EqS, BdS] <;> with_reducible rfl) ?_
    repeat (refine awp_seq ?_)
    refine awp_region ?_
    refine aops_gstart ?_
    refine aops_gpure (by simp only [jE, jN, seval, vint, TyS, TyF, MapS, EqS, BdS] <;> with_reducible rfl) (by simp only [jE, jN, seval, vint, TyS, TyF, MapS, EqS, BdS] <;> with_reducible rfl) (by simp only [jE, jN, seval, vint, TyS, TyF, MapS, EqS, BdS]) (by decide) Trygo13 (fun hc => worksK _) ?_
    refine g_end (by simp only [jG, jO, jN, seval, y3, y24, y42, vint, TyS, TyF, MapS, EqS, BdS] <;> with_reducible rfl) (by decide) (by repeat (first | exact Fin.base _ | with_reducible apply Fin.keep | apply Fin.drop)) ?_
    repeat (refine awp_seq ?_)
    refine awp_ret ⟨.inr rfl, _, rfl, ?_⟩
    simp only [jN, seval, vint, TyS, TyF, MapS, EqS, BdS]
    cases ok with
    | true => rfl
    | false => rw [hno rfl]; rfl
  ·
    have hq : ok = true ∧ eqs.any errE = false := by revert bt25; cases ok <;> cases eqs.any errE <;> simp
    have hok := hq.1
    subst hok
    obtain ⟨p1, p2, p3⟩ := solves_plain hU hq.2
    repeat (refine awp_seq ?_)
    refine awp_skip ?_
    refine awp_sel [0, 3] (by simp only [jN, seval, vint, TyS, TyF, MapS, EqS, BdS] <;> with_reducible rfl) ?_
    repeat (refine awp_seq ?_)
    refine e_eval (by simp only [jA, jO, jN, seval, y22, y31, vint, TyS, TyF, MapS, EqS, BdS] <;> with_reducible rfl) (by decide) ?_
    repeat (refine awp_seq ?_)
    refine awp_forS (σ := Unit) (eqs.length) (fun (s : Unit) => [(3, .slice (R.map Bd.enc) .none), (35, .slice (eqs.map Eq2.enc) .none)]) [3, 35] ([]) (fun (s : Unit) => []) (fun (i : Nat) (s : Unit) => True) (()) ([]) rfl rfl rfl rfl rfl rfl rfl rfl rfl (by decide) (by decide) (by decide) (fun _ => rfl) (hlen) ⟨(by first | rfl | (simp only [jN, seval, vint, TyS, TyF, MapS, EqS, BdS] <;> first | done | with_reducible rfl)), (by first | rfl | (simp only [jN, seval, vint, TyS, TyF, MapS, EqS, BdS] <;> first | done | with_reducible rfl)), (by first | rfl | (simp only [jN, seval, vint, TyS, TyF, MapS, EqS, BdS] <;> first | done | with_reducible rfl)), (by first | rfl | (simp only [jN, seval, vint, TyS, TyF, MapS, EqS, BdS] <;> first | done | with_reducible rfl)), trivial⟩ (by first | rfl | (simp only [jN, seval, vint, TyS, TyF, MapS, EqS, BdS] <;> first | done | with_reducible rfl)) (by simp) (fun _ _ _ => by first | exact Nat.zero_le _ | (simp only [List.length_append]; omega)) ?_ ?_ ?_
    · exact fun i s hg => ⟨by first | exact hbel_nil _ | (simp only [List.append_nil]; assumption) | (refine hbel_app' hb' (by simp) ?_; repeat (first | exact hbel_nil _ | exact trivial | exact obel_row_nil _ | (refine HBel.cons ?_ ?_) | (refine obel_row_cons (by first | exact bel_Bd _ _ | exact bel_Eq2 _ _ | exact Eq2.bel _ _ | exact Bd.bel _ _ | exact bel_ints0 _ _ | exact bel_slice_ty _ _ | exact Ty.bel _ _ | exact bel_ty_tok _ (by simp) | exact Bel.int _ _ | exact Bel.bool _ | exact Bel.str _ | exact Bel.nilp | exact Bel.nilfn | exact Bel.optr _ _ (by simp) | exact bel_nil0 _ | exact bel_nil1 _ | exact bel_fn0 _ _ | assumption) ?_))), by repeat (first | exact BelL.nil | refine BelL.cons (by first | exact bel_Bd _ _ | exact bel_Eq2 _ _ | exact Eq2.bel _ _ | exact Bd.bel _ _ | exact bel_ints0 _ _ | exact bel_slice_ty _ _ | exact Ty.bel _ _ | exact bel_ty_tok _ (by simp) | exact Bel.int _ _ | exact Bel.bool _ | exact Bel.str _ | exact Bel.nilp | exact Bel.nilfn | exact Bel.optr _ _ (by simp) | exact bel_nil0 _ | exact bel_nil1 _ | exact bel_fn0 _ _ | assumption) ?_)⟩
    · intro i s hi hg
      have g1 := ix_nat hi
      have g2 := get_enc Eq2.enc hi
      have hmem := List.getElem_mem hi
      have hWe := hw _ hmem
      have hE := p1 _ hmem
      generalize eqs[i] = e at g2 hmem hWe hE
      have hfin : e.l.W ∧ e.r.W := hWe
      repeat (refine awp_seq ?_)
      refine e_eval (by simp only [jA, jO, jN, seval, y22, y31, vint, TyS, TyF, MapS, EqS, BdS, g1, g2, Int.toNat_natCast] <;> with_reducible rfl) (by decide) ?_
      repeat (refine awp_seq ?_)
      refine dp_draw (by kernel_rfl) ?_
      refine dp_take 3 (by simp only [jP, jO, jN, seval, y29, y31, vint, TyS, TyF, MapS, EqS, BdS, g1, g2, Int.toNat_natCast, hE, Ty.eqb_self] <;> with_reducible rfl) (by decide) ?_
      refine dp_keep (by simp only [jE, jN, seval, vint, TyS, TyF, MapS, EqS, BdS, g1, g2, Int.toNat_natCast, hE, Ty.eqb_self] <;> with_reducible rfl) (by simp only [jE, jN, seval, vint, TyS, TyF, MapS, EqS, BdS, g1, g2, Int.toNat_natCast, hE, Ty.eqb_self] <;> with_reducible rfl) (by simp only [jE, jN, seval, vint, TyS, TyF, MapS, EqS, BdS, g1, g2, Int.toNat_natCast, hE, Ty.eqb_self]) (by decide) Trygo17 (fun hc => subst e.l R hWe.1 hRl hRW _) ?_
      refine dp_take 3 (by simp only [jP, jO, jN, seval, y29, y31, vint, TyS, TyF, MapS, EqS, BdS, g1, g2, Int.toNat_natCast, hE, Ty.eqb_self] <;> with_reducible rfl) (by decide) ?_
      refine dp_keep (by simp only [jE, jN, seval, vint, TyS, TyF, MapS, EqS, BdS, g1, g2, Int.toNat_natCast, hE, Ty.eqb_self] <;> with_reducible rfl) (by simp only [jE, jN, seval, vint, TyS, TyF, MapS, EqS, BdS, g1, g2, Int.toNat_natCast, hE, Ty.eqb_self] <;> with_reducible rfl) (by simp only [jE, jN, seval, vint, TyS, TyF, MapS, EqS, BdS, g1, g2, Int.toNat_natCast, hE, Ty.eqb_self]) (by decide) Trygo17 (fun hc => subst e.r R hWe.2 hRl hRW _) ?_
      refine dp_keep (by simp only [jE, jN, seval, vint, TyS, TyF, MapS, EqS, BdS, g1, g2, Int.toNat_natCast, hE, Ty.eqb_self] <;> with_reducible rfl) (by simp only [jE, jN, seval, vint, TyS, TyF, MapS, EqS, BdS, g1, g2, Int.toNat_natCast, hE, Ty.eqb_self] <;> with_reducible rfl) (by simp only [jE, jN, seval, vint, TyS, TyF, MapS, EqS, BdS, g1, g2, Int.toNat_natCast, hE, Ty.eqb_self]) (by decide) Trygo16 (fun hc => equal_any (mapT (subG R) e.l) (mapT (subG R) e.r) (sub_W hRW hWe.1) _) ?_
      refine dp_end (by simp only [jP, jO, jN, seval, vint, TyS, TyF, MapS, EqS, BdS, g1, g2, Int.toNat_natCast, hE, Ty.eqb_self] <;> with_reducible rfl) (by decide) (by repeat (first | exact Fin.base _ | with_reducible apply Fin.keep | apply Fin.drop)) ?_
      repeat (refine awp_seq ?_)
      refine awp_cond_false rfl (by simp only [jN, seval, vint, TyS, TyF, MapS, EqS, BdS, g1, g2, Int.toNat_natCast] <;> with_reducible rfl) ?_
      repeat (refine awp_seq ?_)
      refine awp_skip ?_
      exact ⟨⟨rfl, rfl, trivial⟩, (), _, ⟨rfl, rfl, trivial⟩, by simp only [jN, seval, vint, TyS, TyF, MapS, EqS, BdS] <;> rfl, trivial⟩
    · intro s hg
      repeat (refine awp_seq ?_)
      refine e_eval (by simp only [jA, jO, jN, seval, y24, y42, vint, TyS, TyF, MapS, EqS, BdS] <;> with_reducible rfl) (by decide) ?_
      repeat (refine awp_seq ?_)
      refine awp_forS (σ := Unit) (R.length) (fun (s : Unit) => [(3, .slice (R.map Bd.enc) .none), (52, .slice (R.map Bd.enc) .none)]) [3, 52] ([]) (fun (s : Unit) => []) (fun (i : Nat) (s : Unit) => True) (()) ([]) rfl rfl rfl rfl rfl rfl rfl rfl rfl (by decide) (by decide) (by decide) (fun _ => rfl) (hRl) ⟨(by first | rfl | (simp only [jN, seval, vint, TyS, TyF, MapS, EqS, BdS] <;> first | done | with_reducible rfl)), (by first | rfl | (simp only [jN, seval, vint, TyS, TyF, MapS, EqS, BdS] <;> first | done | with_reducible rfl)), (by first | rfl | (simp only [jN, seval, vint, TyS, TyF, MapS, EqS, BdS] <;> first | done | with_reducible rfl)), (by first | rfl | (simp only [jN, seval, vint, TyS, TyF, MapS, EqS, BdS] <;> first | done | with_reducible rfl)), trivial⟩ (by first | rfl | (simp only [jN, seval, vint, TyS, TyF, MapS, EqS, BdS] <;> first | done | with_reducible rfl)) (by simp) (fun _ _ _ => by first | exact Nat.zero_le _ | (simp only [List.length_append]; omega)) ?_ ?_ ?_
      · exact fun i s hg => ⟨by first | exact hbel_nil _ | (simp only [List.append_nil]; assumption) | (refine hbel_app' hb' (by simp) ?_; repeat (first | exact hbel_nil _ | exact trivial | exact obel_row_nil _ | (refine HBel.cons ?_ ?_) | (refine obel_row_cons (by first | exact bel_Bd _ _ | exact bel_Eq2 _ _ | exact Eq2.bel _ _ | exact Bd.bel _ _ | exact bel_ints0 _ _ | exact bel_slice_ty _ _ | exact Ty.bel _ _ | exact bel_ty_tok _ (by simp) | exact Bel.int _ _ | exact Bel.bool _ | exact Bel.str _ | exact Bel.nilp | exact Bel.nilfn | exact Bel.optr _ _ (by simp) | exact bel_nil0 _ | exact bel_nil1 _ | exact bel_fn0 _ _ | assumption) ?_))), by repeat (first | exact BelL.nil | refine BelL.cons (by first | exact bel_Bd _ _ | exact bel_Eq2 _ _ | exact Eq2.bel _ _ | exact Bd.bel _ _ | exact bel_ints0 _ _ | exact bel_slice_ty _ _ | exact Ty.bel _ _ | exact bel_ty_tok _ (by simp) | exact Bel.int _ _ | exact Bel.bool _ | exact Bel.str _ | exact Bel.nilp | exact Bel.nilfn | exact Bel.optr _ _ (by simp) | exact bel_nil0 _ | exact bel_nil1 _ | exact bel_fn0 _ _ | assumption) ?_)⟩
      · intro i s hi hg
        have g1 := ix_nat hi
        have g2 := get_enc Bd.enc hi
        have hmem := List.getElem_mem hi
        have hWe := hRW _ hmem
        have hE := p2 _ hmem
        repeat (refine awp_seq ?_)
        refine e_eval (by simp only [jA, jO, jN, seval, y24, y42, vint, TyS, TyF, MapS, EqS, BdS, g1, g2, Int.toNat_natCast] <;> with_reducible rfl) (by decide) ?_
        rcases Nat.eq_zero_or_pos i with h0 | h0
        ·
          subst h0
          have gz : decide (((0 : Nat) : Int) > 0) = false := by decide
          have gz2 : decide ((0 : Int) > 0) = false := by decide
          have gz3 : ((0 : Nat) : Int) = 0 := rfl
          repeat (refine awp_seq ?_)
          refine dp_draw (by kernel_rfl) ?_
          refine dp_take 3 (by simp only [jP, jO, jN, seval, y29, y42, vint, TyS, TyF, MapS, EqS, BdS, g1, g2, Int.toNat_natCast, gz, gz2, gz3, hE, Ty.eqb_self] <;> with_reducible rfl) (by decide) ?_
          refine dp_keep (by simp only [jE, jN, seval, vint, TyS, TyF, MapS, EqS, BdS, g1, g2, Int.toNat_natCast, gz, gz2, gz3, hE, Ty.eqb_self] <;> with_reducible rfl) (by simp only [jE, jN, seval, vint, TyS, TyF, MapS, EqS, BdS, g1, g2, Int.toNat_natCast, gz, gz2, gz3, hE, Ty.eqb_self] <;> with_reducible rfl) (by simp only [jE, jN, seval, vint, TyS, TyF, MapS, EqS, BdS, g1, g2, Int.toNat_natCast, gz, gz2, gz3, hE, Ty.eqb_self]) (by decide) Trygo17 (fun hc => subst _ R hWe hRl hRW _) ?_
          refine dp_take 2 (by simp only [jP, jO, jN, seval, y29, y42, vint, TyS, TyF, MapS, EqS, BdS, g1, g2, Int.toNat_natCast, gz, gz2, gz3, hE, Ty.eqb_self] <;> with_reducible rfl) (by decide) ?_
          refine dp_keep (by simp only [jE, jN, seval, vint, TyS, TyF, MapS, EqS, BdS, g1, g2, Int.toNat_natCast, gz, gz2, gz3, hE, Ty.eqb_self] <;> with_reducible rfl) (by simp only [jE, jN, seval, vint, TyS, TyF, MapS, EqS, BdS, g1, g2, Int.toNat_natCast, gz, gz2, gz3, hE, Ty.eqb_self] <;> with_reducible rfl) (by simp only [jE, jN, seval, vint, TyS, TyF, MapS, EqS, BdS, g1, g2, Int.toNat_natCast, gz, gz2, gz3, hE, Ty.eqb_self]) (by decide) Trygo16 (fun hc => equal_any _ _ hWe _) ?_
          refine dp_take 5 (by simp only [jP, jO, jN, seval, y3, vint, TyS, TyF, MapS, EqS, BdS, g1, g2, Int.toNat_natCast, gz, gz2, gz3, hE, Ty.eqb_self] <;> with_reducible rfl) (by decide) ?_
          refine dp_skip (r := .tup []) (by simp only [jE, jN, seval, vint, TyS, TyF, MapS, EqS, BdS, g1, g2, Int.toNat_natCast, gz, gz2, gz3, hE, Ty.eqb_self] <;> with_reducible rfl) ?_
          refine dp_skip (r := .tup []) (by simp only [jE, jN, seval, vint, TyS, TyF, MapS, EqS, BdS, g1, g2, Int.toNat_natCast, gz, gz2, gz3, hE, Ty.eqb_self] <;> with_reducible rfl) ?_
          refine dp_skip (r := .tup []) (by simp only [jE, jN, seval, vint, TyS, TyF, MapS, EqS, BdS, g1, g2, Int.toNat_natCast, gz, gz2, gz3, hE, Ty.eqb_self] <;> with_reducible rfl) ?_
          refine dp_skip (r := .tup []) (by simp only [jE, jN, seval, vint, TyS, TyF, MapS, EqS, BdS, g1, g2, Int.toNat_natCast, gz, gz2, gz3, hE, Ty.eqb_self] <;> with_reducible rfl) ?_
          refine dp_skip (r := .tup []) (by simp only [jE, jN, seval, vint, TyS, TyF, MapS, EqS, BdS, g1, g2, Int.toNat_natCast, gz, gz2, gz3, hE, Ty.eqb_self] <;> with_reducible rfl) ?_
          refine dp_skip (r := .tup []) (by simp only [jE, jN, seval, vint, TyS, TyF, MapS, EqS, BdS, g1, g2, Int.toNat_natCast, gz, gz2, gz3, hE, Ty.eqb_self] <;> with_reducible rfl) ?_
          refine dp_skip (r := .tup []) (by simp only [jE, jN, seval, vint, TyS, TyF, MapS, EqS, BdS, g1, g2, Int.toNat_natCast, gz, gz2, gz3, hE, Ty.eqb_self] <;> with_reducible rfl) ?_
          refine dp_skip (r := .tup []) (by simp only [jE, jN, seval, vint, TyS, TyF, MapS, EqS, BdS, g1, g2, Int.toNat_natCast, gz, gz2, gz3, hE, Ty.eqb_self] <;> with_reducible rfl) ?_
          refine dp_skip (r := .tup []) (by simp only [jE, jN, seval, vint, TyS, TyF, MapS, EqS, BdS, g1, g2, Int.toNat_natCast, gz, gz2, gz3, hE, Ty.eqb_self] <;> with_reducible rfl) ?_
          refine dp_end (by simp only [jP, jO, jN, seval, vint, TyS, TyF, MapS, EqS, BdS, g1, g2, Int.toNat_natCast, gz, gz2, gz3, hE, Ty.eqb_self] <;> with_reducible rfl) (by decide) (by repeat (first | exact Fin.base _ | with_reducible apply Fin.keep | apply Fin.drop)) ?_
          repeat (refine awp_seq ?_)
          refine awp_cond_false rfl (by simp only [jN, seval, vint, TyS, TyF, MapS, EqS, BdS, g1, g2, Int.toNat_natCast, gz, gz2, gz3] <;> with_reducible rfl) ?_
          repeat (refine awp_seq ?_)
          refine awp_skip ?_
          exact ⟨⟨rfl, rfl, trivial⟩, (), _, ⟨rfl, rfl, trivial⟩, by simp only [jN, seval, vint, TyS, TyF, MapS, EqS, BdS] <;> rfl, trivial⟩
        ·
          obtain ⟨j, rfl⟩ : ∃ j, i = j + 1 := ⟨i - 1, by omega⟩
          have hj : j < R.length := by omega
          have gz : decide (((j + 1 : Nat) : Int) > 0) = true := decide_eq_true (by omega)
          have gw : IntKind.i64.wrap (((j + 1 : Nat) : Int) - 1) = (j : Int) := by rw [wrap_id (by omega) (by omega)]; omega
          have g3 := ix_nat hj
          have g4 := get_enc Bd.enc hj
          have hlt : R[j].v < R[j + 1].v := (List.pairwise_iff_getElem.1 p3) j (j + 1) (by omega) hi (by omega)
          have gd : decide (R[j].v ≥ R[j + 1].v) = false := decide_eq_false (by omega)
          repeat (refine awp_seq ?_)
          refine dp_draw (by kernel_rfl) ?_
          refine dp_take 3 (by simp only [jP, jO, jN, seval, y29, y42, vint, TyS, TyF, MapS, EqS, BdS, g1, g2, Int.toNat_natCast, gz, gw, g3, g4, gd, hE, Ty.eqb_self] <;> with_reducible rfl) (by decide) ?_
          refine dp_keep (by simp only [jE, jN, seval, vint, TyS, TyF, MapS, EqS, BdS, g1, g2, Int.toNat_natCast, gz, gw, g3, g4, gd, hE, Ty.eqb_self] <;> with_reducible rfl) (by simp only [jE, jN, seval, vint, TyS, TyF, MapS, EqS, BdS, g1, g2, Int.toNat_natCast, gz, gw, g3, g4, gd, hE, Ty.eqb_self] <;> with_reducible rfl) (by simp only [jE, jN, seval, vint, TyS, TyF, MapS, EqS, BdS, g1, g2, Int.toNat_natCast, gz, gw, g3, g4, gd, hE, Ty.eqb_self]) (by decide) Trygo17 (fun hc => subst _ R hWe hRl hRW _) ?_
          refine dp_take 2 (by simp only [jP, jO, jN, seval, y29, y42, vint, TyS, TyF, MapS, EqS, BdS, g1, g2, Int.toNat_natCast, gz, gw, g3, g4, gd, hE, Ty.eqb_self] <;> with_reducible rfl) (by decide) ?_
          refine dp_keep (by simp only [jE, jN, seval, vint, TyS, TyF, MapS, EqS, BdS, g1, g2, Int.toNat_natCast, gz, gw, g3, g4, gd, hE, Ty.eqb_self] <;> with_reducible rfl) (by simp only [jE, jN, seval, vint, TyS, TyF, MapS, EqS, BdS, g1, g2, Int.toNat_natCast, gz, gw, g3, g4, gd, hE, Ty.eqb_self] <;> with_reducible rfl) (by simp only [jE, jN, seval, vint, TyS, TyF, MapS, EqS, BdS, g1, g2, Int.toNat_natCast, gz, gw, g3, g4, gd, hE, Ty.eqb_self]) (by decide) Trygo16 (fun hc => equal_any _ _ hWe _) ?_
          refine dp_end (by simp only [jP, jO, jN, seval, y3, y24, y42, vint, TyS, TyF, MapS, EqS, BdS, g1, g2, Int.toNat_natCast, gz, gw, g3, g4, gd, hE, Ty.eqb_self] <;> with_reducible rfl) (by decide) (by repeat (first | exact Fin.base _ | with_reducible apply Fin.keep | apply Fin.drop)) ?_
          repeat (refine awp_seq ?_)
          refine awp_cond_false rfl (by simp only [jN, seval, vint, TyS, TyF, MapS, EqS, BdS, g1, g2, Int.toNat_natCast, gz, gw, g3, g4, gd] <;> with_reducible rfl) ?_
          repeat (refine awp_seq ?_)
          refine awp_skip ?_
          exact ⟨⟨rfl, rfl, trivial⟩, (), _, ⟨rfl, rfl, trivial⟩, by simp only [jN, seval, vint, TyS, TyF, MapS, EqS, BdS] <;> rfl, trivial⟩
      · intro s hg
        repeat (refine awp_seq ?_)
        refine e_eval (by simp only [jA, jO, jN, seval, vint, TyS, TyF, MapS, EqS, BdS] <;> with_reducible rfl) (by decide) ?_
        repeat (refine awp_seq ?_)
        refine awp_ret ⟨.inr rfl, _, rfl, ?_⟩
        simp only [jN, seval, vint, TyS, TyF, MapS, EqS, BdS]

end Go.Abs
set_option maxRecDepth 4000
namespace Go.Abs
open Go.Proofs
def solE (other : List Bd) (e : Eq2) : Bool := (decide (valT e.l = 0) && decide (valT e.r = 0)) && (mapT (subG other) e.l).eqb (mapT (subG other) e.r)
theorem solE_iff {other : List Bd} {e : Eq2} : solE other e = true ↔ (valT e.l = 0 ∧ valT e.r = 0) ∧ mapT (subG other) e.l = mapT (subG other) e.r := by
  unfold solE; rw [Bool.and_eq_true, Bool.and_eq_true, decide_eq_true_eq, decide_eq_true_eq, Ty.eqb_iff]

theorem invB (b : Bd) (hb : b.t.W) : PC Try.prog 23 [b.enc] (.bool (decide (valT b.t ≠ 0))) := by
  refine pc_of (N := 7) Try.func23 rfl rfl (by simp) (by simp [Bd.bel]) (.bool _) ?_
  repeat (refine awp_seq ?_)
  refine e_eval (by simp only [jA, jO, jN, seval, y42, vint, TyS, TyF, MapS, EqS, BdS] <;> with_reducible rfl) (by decide) ?_
  repeat (refine awp_seq ?_)
  refine awp_region ?_
  refine e_take 2 (by simp only [jA, jO, jN, seval, y29, y42, vint, TyS, TyF, MapS, EqS, BdS] <;> with_reducible rfl) (by decide) ?_
  refine aops_pure (by simp only [jC, jN, seval, vint, TyS, TyF, MapS, EqS, BdS] <;> with_reducible rfl) (by simp only [jC, jN, seval, vint, TyS, TyF, MapS, EqS, BdS]) (by decide) Trygo21 (validate b.t hb _) ?_
  refine e_end (by simp only [jA, jO, jN, seval, y32, vint, TyS, TyF, MapS, EqS, BdS] <;> with_reducible rfl) (by decide) ?_
  repeat (refine awp_seq ?_)
  refine awp_ret ⟨.inr rfl, _, rfl, ?_⟩
  simp only [jN, seval, vint, TyS, TyF, MapS, EqS, BdS]
  simp

theorem law_most (eqs : List Eq2) (other : List Bd) (hw : ∀ e ∈ eqs, e.l.W ∧ e.r.W) (hlen : eqs.length ≤ maxLen) (how : ∀ b ∈ other, b.t.W) (hol : other.length ≤ maxLen) : PC Try.prog 7 [.slice (eqs.map Eq2.enc) .none, .slice (other.map Bd.enc) .none] (.bool true) := by
  have em : maxLen = 9223372036854775807 := by decide
  obtain ⟨R, ok, hu, hU⟩ := uni_c hw hlen
  have hRl : R.length ≤ maxLen := by have := hU.len; omega
  have hRW := hU.w
  refine pc_of (N := 102) Try.func7 rfl rfl (by simp) (by simp [bel_Eq2, bel_Bd]) (.bool _) ?_
  repeat (refine awp_seq ?_)
  refine e_eval (by simp only [jA, jO, jN, seval, vint, TyS, TyF, MapS, EqS, BdS] <;> with_reducible rfl) (by decide) ?_
  repeat (refine awp_seq ?_)
  refine awp_region ?_
  refine aops_pure (by simp only [jC, jN, seval, vint, TyS, TyF, MapS, EqS, BdS] <;> with_reducible rfl) (by simp only [jC, jN, seval, vint, TyS, TyF, MapS, EqS, BdS]) (by decide) Trygo13 (worksK _) ?_
  refine e_end (by simp only [jA, jO, jN, seval, vint, TyS, TyF, MapS, EqS, BdS] <;> with_reducible rfl) (by decide) ?_
  repeat (refine awp_seq ?_)
  refine awp_cond_false rfl (by simp only [jN, seval, vint, TyS, TyF, MapS, EqS, BdS] <;> with_reducible rfl) ?_
  repeat (refine awp_seq ?_)
  refine awp_skip ?_
  repeat (refine awp_seq ?_)
  refine awp_region ?_
  refine e_take 1 (by simp only [jA, jO, jN, seval, vint, TyS, TyF, MapS, EqS, BdS] <;> with_reducible rfl) (by decide) ?_
  refine aops_pure (by simp only [jC, jN, seval, vint, TyS, TyF, MapS, EqS, BdS] <;> with_reducible rfl) (by simp only [jC, jN, seval, vint, TyS, TyF, MapS, EqS, BdS]) (by decide) Trygo9 (hu _) ?_
  refine e_end (by simp only [jA, jO, jN, seval, vint, TyS, TyF, MapS, EqS, BdS] <;> with_reducible rfl) (by decide) ?_
  repeat (refine awp_seq ?_)
  refine awp_region ?_
  refine aops_gstart ?_
  refine aops_gpure (by simp only [jE, jN, seval, vint, TyS, TyF, MapS, EqS, BdS] <;> with_reducible rfl) (by simp only [jE, jN, seval, vint, TyS, TyF, MapS, EqS, BdS] <;> with_reducible rfl) (by simp only [jE, jN, seval, vint, TyS, TyF, MapS, EqS, BdS]) (by decide) Trygo13 (fun hc => worksK _) ?_
  refine g_take 3 (by simp only [jG, jO, jN, seval, vint, TyS, TyF, MapS, EqS, BdS] <;> with_reducible rfl) (by decide) ?_
  refine aops_gpure (by simp only [jE, jN, seval, vint, TyS, TyF, MapS, EqS, BdS] <;> with_reducible rfl) (by simp only [jE, jN, seval, vint, TyS, TyF, MapS, EqS, BdS] <;> with_reducible rfl) (by simp only [jE, jN, seval, vint, TyS, TyF, MapS, EqS, BdS]) (by decide) Trygo14 (fun hc => anyErr_c eqs hw hlen _) ?_
  refine g_end (by simp only [jG, jO, jN, seval, y3, y22, y31, vint, TyS, TyF, MapS, EqS, BdS] <;> with_reducible rfl) (by decide) (by repeat (first | exact Fin.base _ | with_reducible apply Fin.keep | apply Fin.drop)) ?_
  repeat (refine awp_seq ?_)
  refine awp_cond rfl (by simp only [jN, seval, vint, TyS, TyF, MapS, EqS, BdS] <;> with_reducible rfl) (fun bt30 => ?_) (fun bt30 => ?_)
  ·
    refine awp_sel [] (by simp only [jN, seval, vint, TyS, TyF, MapS, EqS, BdS] <;> with_reducible rfl) ?_
    repeat (refine awp_seq ?_)
    refine awp_region ?_
    refine aops_pure (by simp only [jC, jN, seval, vint, TyS, TyF, MapS, EqS, BdS] <;> with_reducible rfl) (by simp only [jC, jN, seval, vint, TyS, TyF, MapS, EqS, BdS]) (by decide) Trygo13 (worksK _) ?_
    refine e_end (by simp only [jA, jO, jN, seval, vint, TyS, TyF, MapS, EqS, BdS] <;> with_reducible rfl) (by decide) ?_
    repeat (refine awp_seq ?_)
    refine awp_ret ⟨.inr rfl, _, rfl, ?_⟩
    simp only [jN, seval, vint, TyS, TyF, MapS, EqS, BdS]
  ·
    have hq : eqs.any errE = false ∧ ((eqs.length : Nat) : Int) ≤ 20 := by simp at bt30; exact ⟨by simpa using bt30.1, by omega⟩
    have hl20 : eqs.length ≤ 20 := by omega
    repeat (refine awp_seq ?_)
    refine awp_skip ?_
    refine awp_sel [0, 1, 5, 6] (by simp only [jN, seval, vint, TyS, TyF, MapS, EqS, BdS] <;> with_reducible rfl) ?_
    repeat (refine awp_seq ?_)
    refine e_eval (by simp only [jA, jO, jN, seval, y22, y31, vint, TyS, TyF, MapS, EqS, BdS] <;> with_reducible rfl) (by decide) ?_
    repeat (refine awp_seq ?_)
    refine awp_forS (σ := Unit) (eqs.length) (fun (s : Unit) => [(0, .slice (eqs.map Eq2.enc) .none), (1, .slice (other.map Bd.enc) .none), (5, .slice (R.map Bd.enc) .none), (6, .bool ok), (32, .slice (eqs.map Eq2.enc) .none)]) [0, 1, 5, 6, 32] ([]) (fun (s : Unit) => []) (fun (i : Nat) (s : Unit) => (eqs.take i).all (solE other) = true) (()) ([]) rfl rfl rfl rfl rfl rfl rfl rfl rfl (by decide) (by decide) (by decide) (fun _ => rfl) (hlen) ⟨(by first | rfl | (simp only [jN, seval, vint, TyS, TyF, MapS, EqS, BdS] <;> first | done | with_reducible rfl)), (by first | rfl | (simp only [jN, seval, vint, TyS, TyF, MapS, EqS, BdS] <;> first | done | with_reducible rfl)), (by first | rfl | (simp only [jN, seval, vint, TyS, TyF, MapS, EqS, BdS] <;> first | done | with_reducible rfl)), (by first | rfl | (simp only [jN, seval, vint, TyS, TyF, MapS, EqS, BdS] <;> first | done | with_reducible rfl)), (by first | rfl | (simp only [jN, seval, vint, TyS, TyF, MapS, EqS, BdS] <;> first | done | with_reducible rfl)), (by first | rfl | (simp only [jN, seval, vint, TyS, TyF, MapS, EqS, BdS] <;> first | done | with_reducible rfl)), (by first | rfl | (simp only [jN, seval, vint, TyS, TyF, MapS, EqS, BdS] <;> first | done | with_reducible rfl)), trivial⟩ (by first | rfl | (simp only [jN, seval, vint, TyS, TyF, MapS, EqS, BdS] <;> first | done | with_reducible rfl)) (by simp) (fun _ _ _ => by first | exact Nat.zero_le _ | (simp only [List.length_append]; omega)) ?_ ?_ ?_
    · exact fun i s hg => ⟨by first | exact hbel_nil _ | (simp only [List.append_nil]; assumption) | (refine hbel_app' hb' (by simp) ?_; repeat (first | exact hbel_nil _ | exact trivial | exact obel_row_nil _ | (refine HBel.cons ?_ ?_) | (refine obel_row_cons (by first | exact bel_Bd _ _ | exact bel_Eq2 _ _ | exact Eq2.bel _ _ | exact Bd.bel _ _ | exact bel_ints0 _ _ | exact bel_slice_ty _ _ | exact Ty.bel _ _ | exact bel_ty_tok _ (by simp) | exact Bel.int _ _ | exact Bel.bool _ | exact Bel.str _ | exact Bel.nilp | exact Bel.nilfn | exact Bel.optr _ _ (by simp) | exact bel_nil0 _ | exact bel_nil1 _ | exact bel_fn0 _ _ | assumption) ?_))), by repeat (first | exact BelL.nil | refine BelL.cons (by first | exact bel_Bd _ _ | exact bel_Eq2 _ _ | exact Eq2.bel _ _ | exact Bd.bel _ _ | exact bel_ints0 _ _ | exact bel_slice_ty _ _ | exact Ty.bel _ _ | exact bel_ty_tok _ (by simp) | exact Bel.int _ _ | exact Bel.bool _ | exact Bel.str _ | exact Bel.nilp | exact Bel.nilfn | exact Bel.optr _ _ (by simp) | exact bel_nil0 _ | exact bel_nil1 _ | exact bel_fn0 _ _ | assumption) ?_)⟩
    · intro i s hi hg
      have g1 := ix_nat hi
      have g2 := get_enc Eq2.enc hi
      have hWe := hw _ (List.getElem_mem hi)
      repeat (refine awp_seq ?_)
      refine e_eval (by simp only [jA, jO, jN, seval, y22, y31, vint, TyS, TyF, MapS, EqS, BdS, g1, g2, Int.toNat_natCast] <;> with_reducible rfl) (by decide) ?_
      repeat (refine awp_seq ?_)
      refine dp_draw (by kernel_rfl) ?_
      refine dp_take 2 (by simp only [jP, jO, jN, seval, y29, y31, vint, TyS, TyF, MapS, EqS, BdS, g1, g2, Int.toNat_natCast] <;> with_reducible rfl) (by decide) ?_
      refine dp_keep (by simp only [jE, jN, seval, vint, TyS, TyF, MapS, EqS, BdS, g1, g2, Int.toNat_natCast] <;> with_reducible rfl) (by simp only [jE, jN, seval, vint, TyS, TyF, MapS, EqS, BdS, g1, g2, Int.toNat_natCast] <;> with_reducible rfl) (by simp only [jE, jN, seval, vint, TyS, TyF, MapS, EqS, BdS, g1, g2, Int.toNat_natCast]) (by decide) Trygo21 (fun hc => validate eqs[i].l hWe.1 _) ?_
      refine dp_take 2 (by simp only [jP, jO, jN, seval, y29, y31, vint, TyS, TyF, MapS, EqS, BdS, g1, g2, Int.toNat_natCast] <;> with_reducible rfl) (by decide) ?_
      refine dp_keep (by simp only [jE, jN, seval, vint, TyS, TyF, MapS, EqS, BdS, g1, g2, Int.toNat_natCast] <;> with_reducible rfl) (by simp only [jE, jN, seval, vint, TyS, TyF, MapS, EqS, BdS, g1, g2, Int.toNat_natCast] <;> with_reducible rfl) (by simp only [jE, jN, seval, vint, TyS, TyF, MapS, EqS, BdS, g1, g2, Int.toNat_natCast]) (by decide) Trygo21 (fun hc => validate eqs[i].r hWe.2 _) ?_
      refine dp_take 1 (by simp only [jP, jO, jN, seval, y32, y75, vint, TyS, TyF, MapS, EqS, BdS, g1, g2, Int.toNat_natCast] <;> with_reducible rfl) (by decide) ?_
      refine dp_keep (by simp only [jE, jN, seval, vint, TyS, TyF, MapS, EqS, BdS, g1, g2, Int.toNat_natCast] <;> with_reducible rfl) (by simp only [jE, jN, seval, vint, TyS, TyF, MapS, EqS, BdS, g1, g2, Int.toNat_natCast] <;> with_reducible rfl) (by simp only [jE, jN, seval, vint, TyS, TyF, MapS, EqS, BdS, g1, g2, Int.toNat_natCast]) (by decide) Trygo20 (fun hc => allOK_c [valT eqs[i].l, valT eqs[i].r] (by simp; decide) _) ?_
      refine dp_take 5 (by simp only [jP, jO, jN, seval, y29, y31, vint, TyS, TyF, MapS, EqS, BdS, g1, g2, Int.toNat_natCast] <;> with_reducible rfl) (by decide) ?_
      refine dp_keep (by simp only [jE, jN, seval, vint, TyS, TyF, MapS, EqS, BdS, g1, g2, Int.toNat_natCast] <;> with_reducible rfl) (by simp only [jE, jN, seval, vint, TyS, TyF, MapS, EqS, BdS, g1, g2, Int.toNat_natCast] <;> with_reducible rfl) (by simp only [jE, jN, seval, vint, TyS, TyF, MapS, EqS, BdS, g1, g2, Int.toNat_natCast]) (by decide) Trygo17 (fun hc => subst eqs[i].l other hWe.1 hol how _) ?_
      refine dp_take 3 (by simp only [jP, jO, jN, seval, y29, y31, vint, TyS, TyF, MapS, EqS, BdS, g1, g2, Int.toNat_natCast] <;> with_reducible rfl) (by decide) ?_
      refine dp_keep (by simp only [jE, jN, seval, vint, TyS, TyF, MapS, EqS, BdS, g1, g2, Int.toNat_natCast] <;> with_reducible rfl) (by simp only [jE, jN, seval, vint, TyS, TyF, MapS, EqS, BdS, g1, g2, Int.toNat_natCast] <;> with_reducible rfl) (by simp only [jE, jN, seval, vint, TyS, TyF, MapS, EqS, BdS, g1, g2, Int.toNat_natCast]) (by decide) Trygo17 (fun hc => subst eqs[i].r other hWe.2 hol how _) ?_
      refine dp_keep (by simp only [jE, jN, seval, vint, TyS, TyF, MapS, EqS, BdS, g1, g2, Int.toNat_natCast] <;> with_reducible rfl) (by simp only [jE, jN, seval, vint, TyS, TyF, MapS, EqS, BdS, g1, g2, Int.toNat_natCast] <;> with_reducible rfl) (by simp only [jE, jN, seval, vint, TyS, TyF, MapS, EqS, BdS, g1, g2, Int.toNat_natCast]) (by decide) Trygo16 (fun hc => equal_any _ _ (sub_W how hWe.1) _) ?_
      refine dp_end (by simp only [jP, jO, jN, seval, vint, TyS, TyF, MapS, EqS, BdS, g1, g2, Int.toNat_natCast] <;> with_reducible rfl) (by decide) (by repeat (first | exact Fin.base _ | with_reducible apply Fin.keep | apply Fin.drop)) ?_
      repeat (refine awp_seq ?_)
      refine awp_cond rfl (by simp only [jN, seval, vint, TyS, TyF, MapS, EqS, BdS, g1, g2, Int.toNat_natCast] <;> with_reducible rfl) (fun bt58 => ?_) (fun bt58 => ?_)
      ·
        refine awp_sel [0, 1, 5, 6, 32, 33, 34] (by simp only [jN, seval, vint, TyS, TyF, MapS, EqS, BdS, g1, g2, Int.toNat_natCast] <;> with_reducible rfl) ?_
        repeat (refine awp_seq ?_)
        refine e_eval (by simp only [jA, jO, jN, seval, vint, TyS, TyF, MapS, EqS, BdS, g1, g2, Int.toNat_natCast] <;> with_reducible rfl) (by decide) ?_
        repeat (refine awp_seq ?_)
        refine awp_ret ⟨.inr rfl, _, rfl, ?_⟩
        simp only [jN, seval, vint, TyS, TyF, MapS, EqS, BdS]
      ·
        skip
        repeat (refine awp_seq ?_)
        refine awp_skip ?_
        have hgt : solE other eqs[i] = true := by
          rw [solE_iff, ← Ty.eqb_iff]
          simpa [and_assoc] using bt58
        exact ⟨⟨rfl, rfl, trivial⟩, (), _, ⟨rfl, rfl, rfl, rfl, rfl, trivial⟩, by simp only [jN, seval, vint, TyS, TyF, MapS, EqS, BdS] <;> rfl, all_take_succ hi hg hgt⟩
    · intro s hg
      rw [List.take_length, List.all_eq_true] at hg
      have hs : ∀ e ∈ eqs, (valT e.l = 0 ∧ valT e.r = 0) ∧ mapT (subG other) e.l = mapT (subG other) e.r := fun e he => solE_iff.1 (hg e he)
      obtain ⟨q1, q2⟩ := most_plain hU hq.1 hl20 (fun e he => (hs e he).1) (fun e he => (hs e he).2)
      repeat (refine awp_seq ?_)
      refine e_eval (by simp only [jA, jO, jN, seval, vint, TyS, TyF, MapS, EqS, BdS] <;> with_reducible rfl) (by decide) ?_
      repeat (refine awp_seq ?_)
      refine awp_cond rfl (by simp only [jN, seval, vint, TyS, TyF, MapS, EqS, BdS] <;> with_reducible rfl) (fun bt61 => ?_) (fun bt61 => ?_)
      ·
        have hok : ok = false := by simpa using bt61
        have ha := q1 hok
        repeat (refine awp_seq ?_)
        refine awp_region ?_
        refine aops_gstart ?_
        refine g_take 1 (by simp only [jG, jO, jN, seval, vint, TyS, TyF, MapS, EqS, BdS, ha] <;> with_reducible rfl) (by decide) ?_
        refine aops_gpure (by simp only [jE, jN, seval, vint, TyS, TyF, MapS, EqS, BdS, ha] <;> with_reducible rfl) (by simp only [jE, jN, seval, vint, TyS, TyF, MapS, EqS, BdS, ha] <;> with_reducible rfl) (by simp only [jE, jN, seval, vint, TyS, TyF, MapS, EqS, BdS, ha]) (by decide) Trygo22 (fun hc => containsFuncBd (p := fun b => decide (valT b.t ≠ 0)) ⟨Trygo23, by simp, fun b hb => invB b (how b hb) _⟩ hol) ?_
        refine g_take 1 (by simp only [jG, jO, jN, seval, vint, TyS, TyF, MapS, EqS, BdS, ha] <;> with_reducible rfl) (by decide) ?_
        refine aops_gskip (r := .tup []) (by simp only [jE, jN, seval, vint, TyS, TyF, MapS, EqS, BdS, ha] <;> with_reducible rfl) ?_
        refine aops_gskip (r := .tup []) (by simp only [jE, jN, seval, vint, TyS, TyF, MapS, EqS, BdS, ha] <;> with_reducible rfl) ?_
        refine aops_gskip (r := .tup []) (by simp only [jE, jN, seval, vint, TyS, TyF, MapS, EqS, BdS, ha] <;> with_reducible rfl) ?_
        refine aops_gskip (r := .tup []) (by simp only [jE, jN, seval, vint, TyS, TyF, MapS, EqS, BdS, ha] <;> with_reducible rfl) ?_
        refine g_end (by simp only [jG, jO, jN, seval, vint, TyS, TyF, MapS, EqS, BdS, ha] <;> with_reducible rfl) (by decide) (by repeat (first | exact Fin.base _ | with_reducible apply Fin.keep | apply Fin.drop)) ?_
        repeat (refine awp_seq ?_)
        refine awp_ret ⟨.inr rfl, _, rfl, ?_⟩
        simp only [jN, seval, vint, TyS, TyF, MapS, EqS, BdS]
      ·
        have hok : ok = true := by simpa using bt61
        subst hok
        repeat (refine awp_seq ?_)
        refine awp_skip ?_
        repeat (refine awp_seq ?_)
        refine e_eval (by simp only [jA, jO, jN, seval, y22, y31, vint, TyS, TyF, MapS, EqS, BdS] <;> with_reducible rfl) (by decide) ?_
        repeat (refine awp_seq ?_)
        refine awp_forS (σ := Unit) (eqs.length) (fun (s : Unit) => [(1, .slice (other.map Bd.enc) .none), (5, .slice (R.map Bd.enc) .none), (70, .slice (eqs.map Eq2.enc) .none)]) [1, 5, 70] ([]) (fun (s : Unit) => []) (fun (i : Nat) (s : Unit) => True) (()) (_) rfl rfl rfl rfl rfl rfl rfl rfl rfl (by decide) (by decide) (by decide) (fun _ => rfl) (hlen) ⟨(by first | rfl | (simp only [jN, seval, vint, TyS, TyF, MapS, EqS, BdS] <;> first | done | with_reducible rfl)), (by first | rfl | (simp only [jN, seval, vint, TyS, TyF, MapS, EqS, BdS] <;> first | done | with_reducible rfl)), (by first | rfl | (simp only [jN, seval, vint, TyS, TyF, MapS, EqS, BdS] <;> first | done | with_reducible rfl)), (by first | rfl | (simp only [jN, seval, vint, TyS, TyF, MapS, EqS, BdS] <;> first | done | with_reducible rfl)), (by first | rfl | (simp only [jN, seval, vint, TyS, TyF, MapS, EqS, BdS] <;> first | done | with_reducible rfl)), trivial⟩ (by first | rfl | (simp only [jN, seval, vint, TyS, TyF, MapS, EqS, BdS] <;> first | done | with_reducible rfl)) (by simp) (fun _ _ _ => by first | exact Nat.zero_le _ | (simp only [List.length_append]; omega)) ?_ ?_ ?_
        · exact fun i s hg => ⟨by first | exact hbel_nil _ | (simp only [List.append_nil]; assumption) | (refine hbel_app' hb' (by simp) ?_; repeat (first | exact hbel_nil _ | exact trivial | exact obel_row_nil _ | (refine HBel.cons ?_ ?_) | (refine obel_row_cons (by first | exact bel_Bd _ _ | exact bel_Eq2 _ _ | exact Eq2.bel _ _ | exact Bd.bel _ _ | exact bel_ints0 _ _ | exact bel_slice_ty _ _ | exact Ty.bel _ _ | exact bel_ty_tok _ (by simp) | exact Bel.int _ _ | exact Bel.bool _ | exact Bel.str _ | exact Bel.nilp | exact Bel.nilfn | exact Bel.optr _ _ (by simp) | exact bel_nil0 _ | exact bel_nil1 _ | exact bel_fn0 _ _ | assumption) ?_))), by repeat (first | exact BelL.nil | refine BelL.cons (by first | exact bel_Bd _ _ | exact bel_Eq2 _ _ | exact Eq2.bel _ _ | exact Bd.bel _ _ | exact bel_ints0 _ _ | exact bel_slice_ty _ _ | exact Ty.bel _ _ | exact bel_ty_tok _ (by simp) | exact Bel.int _ _ | exact Bel.bool _ | exact Bel.str _ | exact Bel.nilp | exact Bel.nilfn | exact Bel.optr _ _ (by simp) | exact bel_nil0 _ | exact bel_nil1 _ | exact bel_fn0 _ _ | assumption) ?_)⟩
        · intro i s hi hg
          have g1 := ix_nat hi
          have g2 := get_enc Eq2.enc hi
          have hmem := List.getElem_mem hi
          have hWe := hw _ hmem
          have hvE := (hs _ hmem).1
          have hqE := q2 rfl _ hmem
          generalize eqs[i] = e at g2 hmem hWe hvE hqE
          have z1 := val_size hvE.1
          have z2 := val_size hvE.2
          have hWt : (Ty.mk 9 0 [e.l, e.r]).W := W2W hWe.1 hWe.2
          have hsz : (Ty.mk 9 0 [e.l, e.r]).size ≤ 10000 := by simp only [Ty.size, Ty.sizes]; omega
          repeat (refine awp_seq ?_)
          refine e_eval (by simp only [jA, jO, jN, seval, y22, y31, vint, TyS, TyF, MapS, EqS, BdS, g1, g2, Int.toNat_natCast] <;> with_reducible rfl) (by decide) ?_
          repeat (refine awp_seq ?_)
          refine awp_region ?_
          refine e_take 5 (by simp only [jA, jO, jN, seval, y27, y29, y31, vint, TyS, TyF, MapS, EqS, BdS, g1, g2, Int.toNat_natCast] <;> with_reducible rfl) (by decide) ?_
          refine aops_pure (by simp only [jC, jN, seval, vint, TyS, TyF, MapS, EqS, BdS, g1, g2, Int.toNat_natCast] <;> with_reducible rfl) (by simp only [jC, jN, seval, vint, TyS, TyF, MapS, EqS, BdS, g1, g2, Int.toNat_natCast]) (by decide) Trygo26 (typK 9 0 [e.l, e.r] _) ?_
          refine aops_pure (by simp only [jC, jN, seval, vint, TyS, TyF, MapS, EqS, BdS, g1, g2, Int.toNat_natCast] <;> with_reducible rfl) (by simp only [jC, jN, seval, vint, TyS, TyF, MapS, EqS, BdS, g1, g2, Int.toNat_natCast]) (by decide) Trygo25 (freeVars (Ty.mk 9 0 [e.l, e.r]) hWt (by omega) _) ?_
          refine e_end (by simp only [jA, jO, jN, seval, y3, y50, vint, TyS, TyF, MapS, EqS, BdS, g1, g2, Int.toNat_natCast] <;> with_reducible rfl) (by decide) ?_
          repeat (refine awp_seq ?_)
          refine awp_forS (σ := Unit) ((afv (Ty.mk 9 0 [e.l, e.r]) []).length) (fun (s : Unit) => [(1, .slice (other.map Bd.enc) .none), (5, .slice (R.map Bd.enc) .none), (70, .slice (eqs.map Eq2.enc) .none), (71, vint (eqs.length : Int)), (72, vint (i : Int)), (82, .slice ((afv (Ty.mk 9 0 [e.l, e.r]) []).map vint) .none)]) [1, 5, 70, 71, 72, 82] ([]) (fun (s : Unit) => []) (fun (j : Nat) (s : Unit) => True) (()) (_) rfl rfl rfl rfl rfl rfl rfl rfl rfl (by decide) (by decide) (by decide) (fun _ => rfl) (afv_max hsz) ⟨(by first | rfl | (simp only [jN, seval, vint, TyS, TyF, MapS, EqS, BdS, g1, g2, Int.toNat_natCast] <;> first | done | with_reducible rfl)), (by first | rfl | (simp only [jN, seval, vint, TyS, TyF, MapS, EqS, BdS, g1, g2, Int.toNat_natCast] <;> first | done | with_reducible rfl)), (by first | rfl | (simp only [jN, seval, vint, TyS, TyF, MapS, EqS, BdS, g1, g2, Int.toNat_natCast] <;> first | done | with_reducible rfl)), (by first | rfl | (simp only [jN, seval, vint, TyS, TyF, MapS, EqS, BdS, g1, g2, Int.toNat_natCast] <;> first | done | with_reducible rfl)), (by first | rfl | (simp only [jN, seval, vint, TyS, TyF, MapS, EqS, BdS, g1, g2, Int.toNat_natCast] <;> first | done | with_reducible rfl)), (by first | rfl | (simp only [jN, seval, vint, TyS, TyF, MapS, EqS, BdS, g1, g2, Int.toNat_natCast] <;> first | done | with_reducible rfl)), (by first | rfl | (simp only [jN, seval, vint, TyS, TyF, MapS, EqS, BdS, g1, g2, Int.toNat_natCast] <;> first | done | with_reducible rfl)), (by first | rfl | (simp only [jN, seval, vint, TyS, TyF, MapS, EqS, BdS, g1, g2, Int.toNat_natCast] <;> first | done | with_reducible rfl)), trivial⟩ (by first | rfl | (simp only [jN, seval, vint, TyS, TyF, MapS, EqS, BdS, g1, g2, Int.toNat_natCast] <;> first | done | with_reducible rfl)) (by simp) (fun _ _ _ => by first | exact Nat.zero_le _ | (simp only [List.length_append]; omega)) ?_ ?_ ?_
          · exact fun i s hg => ⟨by first | exact hbel_nil _ | (simp only [List.append_nil]; assumption) | (refine hbel_app' hb' (by simp) ?_; repeat (first | exact hbel_nil _ | exact trivial | exact obel_row_nil _ | (refine HBel.cons ?_ ?_) | (refine obel_row_cons (by first | exact bel_Bd _ _ | exact bel_Eq2 _ _ | exact Eq2.bel _ _ | exact Bd.bel _ _ | exact bel_ints0 _ _ | exact bel_slice_ty _ _ | exact Ty.bel _ _ | exact bel_ty_tok _ (by simp) | exact Bel.int _ _ | exact Bel.bool _ | exact Bel.str _ | exact Bel.nilp | exact Bel.nilfn | exact Bel.optr _ _ (by simp) | exact bel_nil0 _ | exact bel_nil1 _ | exact bel_fn0 _ _ | assumption) ?_))), by repeat (first | exact BelL.nil | refine BelL.cons (by first | exact bel_Bd _ _ | exact bel_Eq2 _ _ | exact Eq2.bel _ _ | exact Bd.bel _ _ | exact bel_ints0 _ _ | exact bel_slice_ty _ _ | exact Ty.bel _ _ | exact bel_ty_tok _ (by simp) | exact Bel.int _ _ | exact Bel.bool _ | exact Bel.str _ | exact Bel.nilp | exact Bel.nilfn | exact Bel.optr _ _ (by simp) | exact bel_nil0 _ | exact bel_nil1 _ | exact bel_fn0 _ _ | assumption) ?_)⟩
          · intro j s hj hg
            have g3 := ix_nat hj
            have g4 := get_enc vint hj
            have hmz : (afv (Ty.mk 9 0 [e.l, e.r]) [])[j] ∈ afv (Ty.mk 9 0 [e.l, e.r]) [] := List.getElem_mem hj
            generalize (afv (Ty.mk 9 0 [e.l, e.r]) [])[j] = z at g4 hmz
            have hocc : occ z e.l = true ∨ occ z e.r = true := by
              have := (mem_afv z (Ty.mk 9 0 [e.l, e.r]) []).1 hmz
              rw [occ_mk] at this
              simpa using this
            have hE : mapT (subG other) (mapT (subG R) (.mk 1 z [])) = mapT (subG other) (.mk 1 z []) := (hqE z hocc).symm
            have hWv : (Ty.mk 1 z []).W := .mk (by simp) nofun
            have hWR := sub_W hRW hWv
            have hWs := sub_W how hWv
            repeat (refine awp_seq ?_)
            refine e_eval (by simp only [jA, jO, jN, seval, y3, y50, vint, TyS, TyF, MapS, EqS, BdS, g1, g2, Int.toNat_natCast, g3, g4, Int.toNat_natCast] <;> with_reducible rfl) (by decide) ?_
            repeat (refine awp_seq ?_)
            refine awp_region ?_
            refine e_take 1 (by simp only [jA, jO, jN, seval, vint, TyS, TyF, MapS, EqS, BdS, g1, g2, Int.toNat_natCast, g3, g4, Int.toNat_natCast, hE, Ty.eqb_self] <;> with_reducible rfl) (by decide) ?_
            refine aops_pure (by simp only [jC, jN, seval, vint, TyS, TyF, MapS, EqS, BdS, g1, g2, Int.toNat_natCast, g3, g4, Int.toNat_natCast, hE, Ty.eqb_self] <;> with_reducible rfl) (by simp only [jC, jN, seval, vint, TyS, TyF, MapS, EqS, BdS, g1, g2, Int.toNat_natCast, g3, g4, Int.toNat_natCast, hE, Ty.eqb_self]) (by decide) Trygo19 (typeVarK z _) ?_
            refine e_take 1 (by simp only [jA, jO, jN, seval, vint, TyS, TyF, MapS, EqS, BdS, g1, g2, Int.toNat_natCast, g3, g4, Int.toNat_natCast, hE, Ty.eqb_self] <;> with_reducible rfl) (by decide) ?_
            refine aops_pure (by simp only [jC, jN, seval, vint, TyS, TyF, MapS, EqS, BdS, g1, g2, Int.toNat_natCast, g3, g4, Int.toNat_natCast, hE, Ty.eqb_self] <;> with_reducible rfl) (by simp only [jC, jN, seval, vint, TyS, TyF, MapS, EqS, BdS, g1, g2, Int.toNat_natCast, g3, g4, Int.toNat_natCast, hE, Ty.eqb_self]) (by decide) Trygo17 (subst (.mk 1 z []) other hWv hol how _) ?_
            refine e_take 1 (by simp only [jA, jO, jN, seval, vint, TyS, TyF, MapS, EqS, BdS, g1, g2, Int.toNat_natCast, g3, g4, Int.toNat_natCast, hE, Ty.eqb_self] <;> with_reducible rfl) (by decide) ?_
            refine aops_pure (by simp only [jC, jN, seval, vint, TyS, TyF, MapS, EqS, BdS, g1, g2, Int.toNat_natCast, g3, g4, Int.toNat_natCast, hE, Ty.eqb_self] <;> with_reducible rfl) (by simp only [jC, jN, seval, vint, TyS, TyF, MapS, EqS, BdS, g1, g2, Int.toNat_natCast, g3, g4, Int.toNat_natCast, hE, Ty.eqb_self]) (by decide) Trygo19 (typeVarK z _) ?_
            refine e_take 1 (by simp only [jA, jO, jN, seval, vint, TyS, TyF, MapS, EqS, BdS, g1, g2, Int.toNat_natCast, g3, g4, Int.toNat_natCast, hE, Ty.eqb_self] <;> with_reducible rfl) (by decide) ?_
            refine aops_pure (by simp only [jC, jN, seval, vint, TyS, TyF, MapS, EqS, BdS, g1, g2, Int.toNat_natCast, g3, g4, Int.toNat_natCast, hE, Ty.eqb_self] <;> with_reducible rfl) (by simp only [jC, jN, seval, vint, TyS, TyF, MapS, EqS, BdS, g1, g2, Int.toNat_natCast, g3, g4, Int.toNat_natCast, hE, Ty.eqb_self]) (by decide) Trygo17 (subst (.mk 1 z []) R hWv hRl hRW _) ?_
            refine e_take 1 (by simp only [jA, jO, jN, seval, vint, TyS, TyF, MapS, EqS, BdS, g1, g2, Int.toNat_natCast, g3, g4, Int.toNat_natCast, hE, Ty.eqb_self] <;> with_reducible rfl) (by decide) ?_
            refine aops_pure (by simp only [jC, jN, seval, vint, TyS, TyF, MapS, EqS, BdS, g1, g2, Int.toNat_natCast, g3, g4, Int.toNat_natCast, hE, Ty.eqb_self] <;> with_reducible rfl) (by simp only [jC, jN, seval, vint, TyS, TyF, MapS, EqS, BdS, g1, g2, Int.toNat_natCast, g3, g4, Int.toNat_natCast, hE, Ty.eqb_self]) (by decide) Trygo17 (subst _ other hWR hol how _) ?_
            refine aops_pure (by simp only [jC, jN, seval, vint, TyS, TyF, MapS, EqS, BdS, g1, g2, Int.toNat_natCast, g3, g4, Int.toNat_natCast, hE, Ty.eqb_self] <;> with_reducible rfl) (by simp only [jC, jN, seval, vint, TyS, TyF, MapS, EqS, BdS, g1, g2, Int.toNat_natCast, g3, g4, Int.toNat_natCast, hE, Ty.eqb_self]) (by decide) Trygo16 (equal_any _ _ hWs _) ?_
            refine e_end (by simp only [jA, jO, jN, seval, vint, TyS, TyF, MapS, EqS, BdS, g1, g2, Int.toNat_natCast, g3, g4, Int.toNat_natCast, hE, Ty.eqb_self] <;> with_reducible rfl) (by decide) ?_
            repeat (refine awp_seq ?_)
            refine awp_cond_false rfl (by simp only [jN, seval, vint, TyS, TyF, MapS, EqS, BdS, g1, g2, Int.toNat_natCast, g3, g4, Int.toNat_natCast] <;> with_reducible rfl) ?_
            repeat (refine awp_seq ?_)
            refine awp_skip ?_
            exact ⟨⟨rfl, rfl, trivial⟩, (), _, ⟨rfl, rfl, rfl, rfl, rfl, rfl, trivial⟩, by simp only [jN, seval, vint, TyS, TyF, MapS, EqS, BdS] <;> rfl, trivial⟩
          · intro s hg
            exact ⟨⟨rfl, rfl, trivial⟩, (), _, ⟨rfl, rfl, rfl, trivial⟩, by simp only [jN, seval, vint, TyS, TyF, MapS, EqS, BdS] <;> rfl, trivial⟩
        · intro s hg
          repeat (refine awp_seq ?_)
          refine e_eval (by simp only [jA, jO, jN, seval, vint, TyS, TyF, MapS, EqS, BdS] <;> with_reducible rfl) (by decide) ?_
          repeat (refine awp_seq ?_)
          refine awp_ret ⟨.inr rfl, _, rfl, ?_⟩
          simp only [jN, seval, vint, TyS, TyF, MapS, EqS, BdS]

end Go.Abs
namespace Go.Abs

/-! From a reading of the arguments to the trees, and back. -/

/-- A world as it is handed to a call: all that lies in it stays. -/
def env0 (W : World) : Env := { w := W, κ := fun _ => .fixed, ρ := fun _ => 0, tb := fun _ => none, H := [] }
theorem env0_ok (W : World) : (env0 W).Ok := by
  constructor
  · intro id cs h; simp [env0] at h
  · intro id n sz b h; simp [env0] at h
  · intro id id' cs cs' h; simp [env0] at h
  · intro id id' n sz n' sz' b h; simp [env0] at h
  · intro id b vs h; simp [env0] at h
  · exact ⟨fun id k h => by simp [env0] at h, fun id id' k k' h => by simp [env0] at h⟩
theorem env0_cell (W : World) (a : Addr) : (env0 W).view.cell a = W.cell? a := rfl

theorem calls_of_pc {P : Program} {f : FuncId} {args : List PV} {b : Bool} (h : PC P f args (.bool b)) (W : World) (vargs : Array Value) (hr : RL (env0 W).view vargs args) :
    Calls P f vargs W fun e w' => e = .returned (.bool b) ∧ Go.RowKit.Below W.heap.size W w' := by
  refine (h [] (env0 W) vargs (env0_ok W) rfl hr).mono ?_
  rintro e w' ⟨E', v, r, rfl, rfl, hle, hok, hv, rfl, _⟩
  refine ⟨by rw [hv.bool_inv], hle.os, hle.tape, hle.output, hle.size, fun k hk => (hle.other k hk ?_).2⟩
  rintro (⟨id, cs, h, _⟩ | ⟨id, n, sz, h, _⟩ | ⟨id, k, h, _⟩) <;> simp [env0] at h

def RLl (V : View) (cs : List Value) (ps : List PV) : Prop := cs.length = ps.length ∧ ∀ i (h : i < ps.length), VRel V (cs.getD i undef) ps[i]

theorem RLl.nil {V : View} : RLl V [] [] := ⟨rfl, fun i h => by cases h⟩
theorem RLl.cons {V : View} {c : Value} {cs : List Value} {p : PV} {ps : List PV} (h : VRel V c p) (hs : RLl V cs ps) : RLl V (c :: cs) (p :: ps) := by
  refine ⟨by simp [hs.1], fun i hi => ?_⟩
  cases i with
  | zero => exact h
  | succ i => exact hs.2 i (by simpa using hi)
theorem RLl.app {V : View} {c1 c2 : List Value} {p1 p2 : List PV} (h1 : RLl V c1 p1) (h2 : RLl V c2 p2) : RLl V (c1 ++ c2) (p1 ++ p2) := by
  refine ⟨by simp [h1.1, h2.1], fun i hi => ?_⟩
  by_cases h : i < p1.length
  · have := h1.2 i h
    simp only [List.getD_eq_getElem?_getD] at this ⊢
    rw [List.getElem?_append_left (by rw [h1.1]; exact h), List.getElem_append_left h]; exact this
  · have := h2.2 (i - p1.length) (by simp at hi; omega)
    simp only [List.getD_eq_getElem?_getD] at this ⊢
    rw [List.getElem?_append_right (by rw [h1.1]; omega), List.getElem_append_right (by omega), h1.1]; exact this
theorem RLl.agg {V : View} {arr : Array Value} {ps : List PV} (h : RLl V arr.toList ps) : VRel V (.agg arr) (.agg ps) := by
  refine .agg _ _ (by have := h.1; simpa using this) fun i hi => ?_
  have := h.2 i hi
  rw [List.getD_eq_getElem?_getD, Array.getElem?_toList] at this
  rw [Array.getD_eq_getD_getElem?]; exact this
theorem RLl.one {V : View} {v : Value} {p : PV} (h : RLl V [v] [p]) : VRel V v p := h.2 0 (by simp)

theorem exists_list {α : Type} {n : Nat} {p : Nat → α → Prop} (h : ∀ i, i < n → ∃ a, p i a) : ∃ xs : List α, xs.length = n ∧ ∀ i (hi : i < xs.length), p i xs[i] := by
  induction n with
  | zero => exact ⟨[], rfl, fun i hi => by cases hi⟩
  | succ n ih =>
    obtain ⟨xs, h1, h2⟩ := ih fun i hi => h i (by omega)
    obtain ⟨a, ha⟩ := h n (by omega)
    refine ⟨xs ++ [a], by simp [h1], fun i hi => ?_⟩
    by_cases hlt : i < xs.length
    · rw [List.getElem_append_left hlt]; exact h2 i hlt
    · rw [List.getElem_append_right (by omega)]
      simp at hi
      obtain rfl : i = n := by omega
      simpa using ha

/-- A list and the data of a slice. -/
def SlD {α : Type} {H : Type} (D : α → DataW H → Prop) (xs : List α) (d : DataW H) : Prop :=
  (xs = [] ∧ d = .nil) ∨ ∃ els sp, d = .slice els sp ∧ xs.length = els.length ∧ ∀ i (h1 : i < xs.length) (h2 : i < els.length), D xs[i] els[i]

section
variable {H : Type} {enc : TypeId × Value → H} {P : Program} {W : World} {spare : Nat → Bool} {held : Bool}

theorem rd_slice {α : Type} (en : α → PV) (D : α → DataW H → Prop) {t e : TypeId} {fuel : Nat} {cs : List Value} {x : DataW H × List MemPlace} (ht : P.underlying t = some (.slice e)) (hsz : ∀ a, (en a).cells.length = P.cellsOf e)
    (h : DataW.trod enc P W 0 spare held fuel t cs = some x) (ih : ∀ n cs' x', n < fuel → DataW.trod enc P W 0 spare held n e cs' = some x' → ∃ a, RLl (env0 W).view cs' (en a).cells ∧ D a x'.1) :
    ∃ (xs : List α) (v : Value), cs = [v] ∧ VRel (env0 W).view v (.slice (xs.map en) .none) ∧ SlD D xs x.1 := by
  rcases DataW.trod_slice ht h with ⟨rfl, rfl⟩ | ⟨a, len, cap, elems, rest, n, rfl, rfl, rfl, hb, hl, hm, hlen, hel, _, _⟩
  · exact ⟨[], _, rfl, .nils .none trivial, .inl ⟨rfl, rfl⟩⟩
  · obtain ⟨ys, hys, hp⟩ := exists_list (α := α × List Value) (n := len) (p := fun i y => W.cells? 0 (a.add (i * P.cellsOf e)) (P.cellsOf e) = some y.2 ∧ RLl (env0 W).view y.2 (en y.1).cells ∧ ∀ h : i < elems.length, D y.1 elems[i].1) (fun i hi => by
      have := hel i hi
      rw [List.getElem?_eq_getElem (by omega)] at this
      obtain ⟨cs', h1, h2⟩ := Option.bind_eq_some_iff.1 this
      obtain ⟨y, h3, h4⟩ := ih n cs' _ (by omega) h2
      exact ⟨(y, cs'), h1, h3, fun _ => h4⟩)
    refine ⟨ys.map (·.1), _, rfl, ?_, .inr ⟨_, _, rfl, by simp [hys, hlen], fun i h1 h2 => ?_⟩⟩
    · have hget : ∀ i (hi : i < ys.length), ys[i]? = some ys[i] := fun i hi => List.getElem?_eq_getElem hi
      refine .slice a len cap (P.cellsOf e) _ .none (fun i j => match ys[i]? with | some y => y.2.getD j undef | none => undef) (by simp [hys]) hl hm ?_ ?_ ?_ trivial
      · intro i hi; simp only [List.getElem_map]; exact hsz _
      · intro i j hi hj
        have hi' : i < ys.length := by omega
        obtain ⟨h1, h2, _⟩ := hp i hi'
        obtain ⟨_, h4, h5⟩ := World.cells?_some h1
        have := h5 j hj
        rw [hget i hi']
        simp only
        rw [env0_cell, ← add_add, this, List.getD_eq_getElem?_getD, List.getElem?_eq_getElem (by omega)]; rfl
      · intro i j hi hj
        have hi' : i < ys.length := by simpa using hi
        simp only [List.getElem_map] at hj ⊢
        rw [hget i hi']
        exact (hp i hi').2.1.2 j hj
    · simp only [List.getElem_map]
      exact (hp i (by simpa using h1)).2.2 _

/-- The field of a structure. -/
theorem rd_fields {t : TypeId} {fs : Array Field} {fuel : Nat} {cs : List Value} {x : DataW H × List MemPlace} (ht : P.underlying t = some (.struct fs)) (h : DataW.trod enc P W 0 spare held fuel t cs = some x) :
    ∃ (ds : List (DataW H)) (n : Nat), fuel = n + 1 ∧ x.1 = .agg ds ∧ cs.length = P.cellsOf t ∧ ds.length = fs.size ∧ ∀ (i : Nat) (f : Field), fs[i]? = some f → ∃ d ps, ds[i]? = some d ∧ DataW.trod enc P W 0 spare held n f.type ((cs.drop f.offset).take (P.cellsOf f.type)) = some (d, ps) := by
  obtain ⟨xs, n, h1, rfl, h3, h4, h5⟩ := DataW.trod_struct ht h
  refine ⟨xs.map (·.1), n, h1, rfl, h3, by simpa using h4, fun i f hf => ?_⟩
  have hi : i < xs.length := by
    rw [h4]
    rcases Nat.lt_or_ge i fs.size with hl | hl
    · exact hl
    · rw [Array.getElem?_eq_none hl] at hf; cases hf
  have := h5 i f hf
  rw [List.getElem?_eq_getElem hi] at this
  exact ⟨xs[i].1, xs[i].2, by simp [hi], this⟩

theorem rd_int {t : TypeId} {k : IntKind} {fuel : Nat} {cs : List Value} {x : DataW H × List MemPlace} (ht : P.underlying t = some (.int k)) (h : DataW.trod enc P W 0 spare held fuel t cs = some x) : ∃ n, RLl (env0 W).view cs [.int k n] ∧ x.1 = .lit (.int k n) ∧ (Lit.int k n).wf = true ∧ cs = [.int k n] := by
  obtain ⟨n, rfl, rfl, h3⟩ := DataW.trod_int ht h
  exact ⟨n, .cons (.int _ _) .nil, rfl, h3, rfl⟩
theorem rd_bool {t : TypeId} {fuel : Nat} {cs : List Value} {x : DataW H × List MemPlace} (ht : P.underlying t = some .bool) (h : DataW.trod enc P W 0 spare held fuel t cs = some x) : ∃ b, RLl (env0 W).view cs [.bool b] ∧ x.1 = .lit (.bool b) := by
  obtain ⟨n, rfl, rfl⟩ := DataW.trod_bool ht h
  exact ⟨n, .cons (.bool _) .nil, rfl⟩
theorem rd_string {t : TypeId} {fuel : Nat} {cs : List Value} {x : DataW H × List MemPlace} (ht : P.underlying t = some .string) (h : DataW.trod enc P W 0 spare held fuel t cs = some x) : ∃ s : List UInt8, RLl (env0 W).view cs [.str s] ∧ x.1 = .lit (.string s) ∧ s.length ≤ maxLen := by
  obtain ⟨s, rfl, rfl, h3⟩ := DataW.trod_string ht h
  exact ⟨s.data.toList, .cons (.str _) .nil, rfl, by simpa using h3⟩
end

/-- The data of a type. -/
inductive TyD {H : Type} : Ty → DataW H → Prop
  | nil (k i : Int) : TyD (.mk k i []) (.agg [.lit (.int .i64 k), .lit (.int .i64 i), .nil])
  | slice (k i : Int) (xs : List Ty) (es sp : List (DataW H)) (hl : xs.length = es.length) (h : ∀ j (h1 : j < xs.length) (h2 : j < es.length), TyD xs[j] es[j]) : TyD (.mk k i xs) (.agg [.lit (.int .i64 k), .lit (.int .i64 i), .slice es sp])
theorem TyD.of {H : Type} {k i : Int} {xs : List Ty} {d : DataW H} (h : SlD TyD xs d) : TyD (.mk k i xs) (.agg [.lit (.int .i64 k), .lit (.int .i64 i), d]) := by
  rcases h with ⟨rfl, rfl⟩ | ⟨es, sp, rfl, h1, h2⟩
  · exact .nil k i
  · exact .slice k i xs es sp h1 h2

/-- The facts on a program's type 'api.Type' that a reading looks at. -/
structure TyAt (P : Program) (T S : TypeId) : Prop where
  st : ∃ f0 f1 f2 : Field, P.underlying T = some (.struct #[f0, f1, f2]) ∧ P.underlying f0.type = some (.int .i64) ∧ P.underlying f1.type = some (.int .i64) ∧ f2.type = S ∧ f0.offset = 0 ∧ f1.offset = 1 ∧ f2.offset = 2 ∧ P.cellsOf f0.type = 1 ∧ P.cellsOf f1.type = 1
  sl : P.underlying S = some (.slice T)
  c : P.cellsOf T = 3
  cs : P.cellsOf S = 1
  by40 : P.bytesOf T = 40

section
variable {H : Type} {enc : TypeId × Value → H} {P : Program} {W : World} {spare : Nat → Bool} {held : Bool} {T S : TypeId}

theorem rd_ty (F : TyAt P T S) : ∀ (fuel : Nat) (cs : List Value) (x : DataW H × List MemPlace), DataW.trod enc P W 0 spare held fuel T cs = some x → ∃ t : Ty, RLl (env0 W).view cs t.enc.cells ∧ TyD t x.1 := by
  intro fuel
  induction fuel using Nat.strongRecOn with
  | _ fuel ih =>
  intro cs x h
  obtain ⟨f0, f1, f2, hst, u0, u1, e2, o0, o1, o2, c0, c1⟩ := F.st
  obtain ⟨ds, n, rfl, hx, hlen, hdl, hf⟩ := rd_fields hst h
  rw [F.c] at hlen
  match cs, hlen with
  | [v0, v1, v2], _ =>
  obtain ⟨d0, p0, g0, r0⟩ := hf 0 f0 rfl
  obtain ⟨d1, p1, g1, r1⟩ := hf 1 f1 rfl
  obtain ⟨d2, p2, g2, r2⟩ := hf 2 f2 rfl
  rw [o0, c0] at r0
  rw [o1, c1] at r1
  rw [o2, e2, F.cs] at r2
  obtain ⟨k, q0, rfl, w0, _⟩ := rd_int u0 r0
  obtain ⟨i, q1, rfl, w1, _⟩ := rd_int u1 r1
  obtain ⟨xs, v, hv, hr, hd⟩ := rd_slice Ty.enc TyD F.sl (fun a => by rw [F.c, Ty.enc_len]) r2 (fun m cs' x' hm h' => ih m (by omega) cs' x' h')
  simp only [List.drop_succ_cons, List.drop_zero, List.take_succ_cons, List.take_zero, List.cons.injEq, and_true] at hv
  subst hv
  refine ⟨.mk k i xs, ?_, ?_⟩
  · rw [Ty.enc_cells]
    exact .cons q0.one (.cons q1.one (.cons hr .nil))
  · rw [hx]
    have : ds = [.lit (.int .i64 k), .lit (.int .i64 i), d2] := by
      match ds, hdl with
      | [a, b, c], _ =>
        simp at g0 g1 g2
        rw [g0, g1, g2]
    rw [this]
    exact .of hd

/-- No list of arguments is longer than the row's own bound bears. -/
theorem ty_weights (F : TyAt P T S) {t : Ty} {d : DataW H} (h : TyD t d) (hw : (d.weights P T).all (· ≤ reachBytes) = true) : t.W := by
  obtain ⟨f0, f1, f2, hst, u0, u1, e2, _⟩ := F.st
  induction h with
  | nil k i => exact .mk (by simp) (by simp)
  | slice k i xs es sp hl h ih =>
    simp only [DataW.weights, hst, DataW.weightsEach, List.map_cons, List.map_nil, e2, F.sl, F.by40, List.nil_append, List.append_nil, List.all_cons, List.all_append, Bool.and_eq_true, decide_eq_true_eq] at hw
    have hb : reachBytes = 140737488351232 := rfl
    refine .mk (by rw [hl]; have := hw.1; omega) fun u hu => ?_
    obtain ⟨j, hj, rfl⟩ := List.mem_iff_getElem.1 hu
    refine ih j hj (by omega) ?_
    have h2 := hw.2.1
    rw [List.all_eq_true] at h2 ⊢
    intro x hx
    refine h2 x ?_
    have hmem : ∀ (l : List (DataW H)) (e : DataW H), e ∈ l → x ∈ e.weights P T → x ∈ DataW.weightsAll P T l := by
      intro l
      induction l with
      | nil => intro e he; cases he
      | cons a l ihl =>
        intro e he hx
        simp only [DataW.weightsAll, List.mem_append]
        rcases List.mem_cons.1 he with rfl | he
        · exact .inl hx
        · exact .inr (ihl e he hx)
    exact hmem es _ (List.getElem_mem _) hx

theorem weights_mem {l : List (DataW H)} {e : TypeId} {d : DataW H} (hd : d ∈ l) (h : (DataW.weightsAll P e l).all (· ≤ reachBytes) = true) : (d.weights P e).all (· ≤ reachBytes) = true := by
  rw [List.all_eq_true] at h ⊢
  intro x hx
  refine h x ?_
  clear h
  induction l with
  | nil => cases hd
  | cons a l ih =>
    simp only [DataW.weightsAll, List.mem_append]
    rcases List.mem_cons.1 hd with rfl | hd
    · exact .inl hx
    · exact .inr (ih hd)

/-- A slice's elements and its length. -/
theorem sl_weights {α : Type} {D : α → DataW H → Prop} {Sl E : TypeId} (hs : P.underlying Sl = some (.slice E)) {xs : List α} {d : DataW H} (h : SlD D xs d) (hw : (d.weights P Sl).all (· ≤ reachBytes) = true) :
    xs.length * P.bytesOf E ≤ reachBytes ∧ ∀ a ∈ xs, ∃ d', D a d' ∧ (d'.weights P E).all (· ≤ reachBytes) = true := by
  rcases h with ⟨rfl, rfl⟩ | ⟨els, sp, rfl, h1, h2⟩
  · simp
  · simp only [DataW.weights, hs, List.all_cons, List.all_append, Bool.and_eq_true, decide_eq_true_eq] at hw
    refine ⟨?_, fun a ha => ?_⟩
    · rw [h1]
      refine Nat.le_trans (Nat.mul_le_mul_right _ (Nat.le_add_right _ _)) hw.1
    · obtain ⟨j, hj, rfl⟩ := List.mem_iff_getElem.1 ha
      exact ⟨_, h2 j hj (by omega), weights_mem (List.getElem_mem _) hw.2.1⟩
end
end Go.Abs
namespace Go.Abs
theorem RLl.rl {V : View} {arr : Array Value} {ps : List PV} (h : RLl V arr.toList ps) : RL V arr ps := by
  refine ⟨by have := h.1; simpa using this, fun i hi => ?_⟩
  have := h.2 i hi
  rw [List.getD_eq_getElem?_getD, Array.getElem?_toList] at this
  rw [Array.getD_eq_getD_getElem?]; exact this
theorem Ty.enc_agg (t : Ty) : PV.agg t.enc.cells = t.enc := by rw [Ty.enc_cells, Ty.enc_eq]
end Go.Abs
namespace Go.Abs
/-! Reading bindings. -/
def BdD {H : Type} (b : Bd) (d : DataW H) : Prop := ∃ d1, d = .agg [.lit (.int .i64 b.v), d1] ∧ TyD b.t d1
structure BdAt (P : Program) (B T : TypeId) : Prop where
  st : ∃ f0 f1 : Field, P.underlying B = some (.struct #[f0, f1]) ∧ P.underlying f0.type = some (.int .i64) ∧ f1.type = T ∧ f0.offset = 0 ∧ f1.offset = 1 ∧ P.cellsOf f0.type = 1
  c : P.cellsOf B = 4
section
variable {H : Type} {enc : TypeId × Value → H} {P : Program} {W : World} {spare : Nat → Bool} {held : Bool} {B T S : TypeId}
theorem rd_bd (F : TyAt P T S) (G : BdAt P B T) (fuel : Nat) (cs : List Value) (x : DataW H × List MemPlace) (h : DataW.trod enc P W 0 spare held fuel B cs = some x) : ∃ b : Bd, RLl (env0 W).view cs b.enc.cells ∧ BdD b x.1 := by
  obtain ⟨f0, f1, hst, u0, e1, o0, o1, c0⟩ := G.st
  obtain ⟨ds, n, rfl, hx, hlen, hdl, hf⟩ := rd_fields hst h
  rw [G.c] at hlen
  match cs, hlen with
  | [v0, v1, v2, v3], _ =>
  obtain ⟨d0, p0, g0, r0⟩ := hf 0 f0 rfl
  obtain ⟨d1, p1, g1, r1⟩ := hf 1 f1 rfl
  rw [o0, c0] at r0
  rw [o1, e1, F.c] at r1
  obtain ⟨k, q0, rfl, w0, _⟩ := rd_int u0 r0
  obtain ⟨t, q1, w1⟩ := rd_ty F _ _ _ r1
  refine ⟨⟨k, t⟩, ?_, d1, ?_, w1⟩
  · have := RLl.app q0 q1
    rw [Ty.enc_cells] at this
    exact this
  · rw [hx]
    match ds, hdl with
    | [a, b], _ =>
      simp at g0 g1
      rw [g0, g1]
theorem bd_weights (F : TyAt P T S) (G : BdAt P B T) {b : Bd} {d : DataW H} (h : BdD b d) (hw : (d.weights P B).all (· ≤ reachBytes) = true) : b.t.W := by
  obtain ⟨d1, rfl, h1⟩ := h
  obtain ⟨f0, f1, hst, u0, e1, _⟩ := G.st
  simp only [DataW.weights, hst, DataW.weightsEach, List.map_cons, List.map_nil, e1, List.nil_append, List.append_nil] at hw
  exact ty_weights F h1 hw
end
end Go.Abs
set_option maxRecDepth 4000
namespace Go.Abs
open Go.Proofs
theorem tyAt : TyAt Try.prog 29 27 := ⟨⟨_, _, _, Try.underlying29, Try.underlying3, Try.underlying3, rfl, rfl, rfl, rfl, by kernel_rfl, by kernel_rfl⟩, Try.underlying27, by kernel_rfl, by kernel_rfl, by kernel_rfl⟩
theorem bdAt : BdAt Try.prog 42 29 := ⟨⟨_, _, Try.underlying42, Try.underlying3, rfl, rfl, rfl, by kernel_rfl⟩, by kernel_rfl⟩
theorem rd_Ty {H : Type} {enc : TypeId × Value → H} {W : World} {spare : Nat → Bool} {held : Bool} (fuel : Nat) (cs : List Value) (x : DataW H × List MemPlace) (h : DataW.trod enc Try.prog W 0 spare held fuel 29 cs = some x) : ∃ t : Ty, RLl (env0 W).view cs t.enc.cells ∧ TyD t x.1 := rd_ty tyAt fuel cs x h
theorem Eq2.enc_cells (t : Eq2) : t.enc.cells = [.int .i64 t.l.kind, .int .i64 t.l.id, .slice (t.l.args.map Ty.enc) .none, .int .i64 t.r.kind, .int .i64 t.r.id, .slice (t.r.args.map Ty.enc) .none] := rfl
theorem Eq2.enc_len (t : Eq2) : t.enc.cells.length = 6 := rfl
theorem Eq2.enc_agg (t : Eq2) : PV.agg t.enc.cells = t.enc := rfl
def Eq2.W (t : Eq2) : Prop := t.l.W ∧ t.r.W
def Eq2D {H : Type} (t : Eq2) (d : DataW H) : Prop := ∃ d0 d1, d = .agg [d0, d1] ∧ TyD t.l d0 ∧ TyD t.r d1
section
variable {H : Type} {enc : TypeId × Value → H} {W : World} {spare : Nat → Bool} {held : Bool}
theorem rd_Eq2 (fuel : Nat) (cs : List Value) (x : DataW H × List MemPlace) (h : DataW.trod enc Try.prog W 0 spare held fuel 31 cs = some x) : ∃ t : Eq2, RLl (env0 W).view cs t.enc.cells ∧ Eq2D t x.1 := by
  obtain ⟨ds, n, rfl, hx, hlen, hdl, hf⟩ := rd_fields Try.underlying31 h
  rw [show Try.prog.cellsOf 31 = 6 from by kernel_rfl] at hlen
  match cs, hlen with
  | [v0, v1, v2, v3, v4, v5], _ =>
  obtain ⟨d0, p0, g0, r0⟩ := hf 0 _ rfl
  have r0 : DataW.trod enc Try.prog W 0 spare held n 29 [v0, v1, v2] = some (d0, p0) := by
    have e : Try.prog.cellsOf 29 = 3 := by kernel_rfl
    have r0 : DataW.trod enc Try.prog W 0 spare held n 29 (List.take (Try.prog.cellsOf 29) (List.drop 0 [v0, v1, v2, v3, v4, v5])) = some (d0, p0) := r0
    rw [e] at r0
    exact r0
  obtain ⟨a0, q0, hd0⟩ := rd_Ty _ _ _ r0
  rw [Ty.enc_cells] at q0
  obtain ⟨d1, p1, g1, r1⟩ := hf 1 _ rfl
  have r1 : DataW.trod enc Try.prog W 0 spare held n 29 [v3, v4, v5] = some (d1, p1) := by
    have e : Try.prog.cellsOf 29 = 3 := by kernel_rfl
    have r1 : DataW.trod enc Try.prog W 0 spare held n 29 (List.take (Try.prog.cellsOf 29) (List.drop 3 [v0, v1, v2, v3, v4, v5])) = some (d1, p1) := r1
    rw [e] at r1
    exact r1
  obtain ⟨a1, q1, hd1⟩ := rd_Ty _ _ _ r1
  rw [Ty.enc_cells] at q1
  refine ⟨Eq2.mk a0 a1, ?_, ?_⟩
  · rw [Eq2.enc_cells]
    exact (RLl.app q0 q1)
  · rw [hx]
    have e : ds = [d0, d1] := by
      match ds, hdl with
      | [e0, e1], _ =>
        simp at g0 g1
        rw [g0, g1]
    rw [e]
    exact ⟨_, _, rfl, hd0, hd1⟩
theorem Eq2_weights {t : Eq2} {d : DataW H} (h : Eq2D t d) (hw : (d.weights Try.prog 31).all (· ≤ reachBytes) = true) : t.W := by
  have hb : reachBytes = 140737488351232 := rfl
  have hfl : ∀ (c : DataW H), True := fun _ => trivial
  obtain ⟨d0, d1, rfl, k0, k1⟩ := h
  simp only [DataW.weights, Try.underlying31, DataW.weightsEach, List.map_cons, List.map_nil, List.nil_append, List.append_nil, List.all_append, List.all_cons, List.all_nil, Bool.and_eq_true, Bool.and_true, decide_eq_true_eq] at hw
  obtain ⟨z0, z1⟩ := hw
  exact ⟨(ty_weights tyAt k0 z0), (ty_weights tyAt k1 z1)⟩
end
end Go.Abs
namespace Go.Abs
theorem strip (r : List (List Char)) : stripLifts liftWords ("cut".toList :: r) = ([], "cut".toList :: r) := by
  simp only [liftWords]
  repeat (rw [stripLifts, if_neg (by decide)])
  rfl
theorem mayEnter_of {P : Program} {r : List (List Char)} (h : behindMainWord (wordsSigns P.initOrder.toList) = "cut".toList :: r) (h1 : P.laysLater = false) (h2 : P.bearsReflect = false) (h3 : P.doorFits [] = true) : P.mayEnter = true := by
  unfold Program.mayEnter
  rw [h]
  simp only [strip, h1, h2, h3]
  rfl
theorem headLifts_of {P : Program} {r : List (List Char)} (h : behindMainWord (wordsSigns P.initOrder.toList) = "cut".toList :: r) : P.headLifts = [] := by
  unfold Program.headLifts
  rw [h, strip]
  rfl
theorem liftsFinal_of {P : Program} {r : List (List Char)} (h : behindMainWord (wordsSigns P.initOrder.toList) = "cut".toList :: r) : P.liftsFinal = false := by
  unfold Program.liftsFinal
  rw [headLifts_of h, h]
  rfl
theorem make_of {P : Program} {r : List (List Char)} (h : behindMainWord (wordsSigns P.initOrder.toList) = "cut".toList :: r) : P.make = some .cut := by
  unfold Program.make
  rw [h]
  rfl
def sg (l : List Nat) : List Char := l.map Char.ofNat
theorem words_cons (c : Char) (r : List Char) (h : (c == Char.ofNat 32) = false) : wordsSigns (c :: r) = match wordsSigns r with | w :: ws => (c :: w) :: ws | [] => [[c]] := by
  rw [wordsSigns]
  · rfl
  · intro e
    subst e
    simp at h
theorem words_word : ∀ (w r : List Char), w.all (fun c => !(c == Char.ofNat 32)) = true → wordsSigns (w ++ Char.ofNat 32 :: r) = w :: wordsSigns r
  | [], r, _ => by rfl
  | c :: w, r, h => by
    simp only [List.all_cons, Bool.and_eq_true, Bool.not_eq_true'] at h
    rw [List.cons_append, words_cons c _ h.1, words_word w r h.2]
/-- The head of a cut: 'harness', a sum, 'cut'. -/
theorem behind_of {P : Program} {a b c r : List Char} (hio : P.initOrder = String.ofList (a ++ Char.ofNat 32 :: (b ++ Char.ofNat 32 :: (c ++ Char.ofNat 32 :: r)))) (ha : a.all (fun c => !(c == Char.ofNat 32)) = true) (hb : b.all (fun c => !(c == Char.ofNat 32)) = true) (hc : c.all (fun c => !(c == Char.ofNat 32)) = true)
    (h : ((a == "harness".toList || a == "ownmain".toList) && isSumSigns b) = true) (hc2 : c = "cut".toList) : behindMainWord (wordsSigns P.initOrder.toList) = "cut".toList :: wordsSigns r := by
  rw [hio, String.toList_ofList, words_word _ _ ha, words_word _ _ hb, words_word _ _ hc]
  simp only [behindMainWord]
  rw [if_pos h, hc2]
end Go.Abs
