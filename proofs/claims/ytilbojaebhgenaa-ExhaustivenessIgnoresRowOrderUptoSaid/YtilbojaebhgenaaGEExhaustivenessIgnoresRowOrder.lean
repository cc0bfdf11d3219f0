/- Part 5 of a proof of the law ExhaustivenessIgnoresRowOrder: Go data as trees, the walks of the functions that the law reaches, the plain laws. -/
import Derived.Test.YtilbojaebhgenaaGDExhaustivenessIgnoresRowOrder
set_option linter.unusedVariables false
set_option linter.unusedSimpArgs false
set_option maxRecDepth 4000
namespace Go.Abs
open Go.Proofs

theorem find_at {α : Type} {p : α → Bool} {xs : List α} {i : Nat} (hi : i < xs.length) (h : p xs[i] = true) (h' : (xs.take i).any p = false) : xs.find? p = some xs[i] := by
  rw [List.find?_eq_some_iff_getElem]
  refine ⟨h, i, hi, rfl, fun j hj => ?_⟩
  have := List.any_eq_false.1 h' xs[j] (by rw [List.mem_take_iff_getElem]; exact ⟨j, by omega, rfl⟩)
  simpa using this
theorem find_no {α : Type} {p : α → Bool} {xs : List α} (h' : xs.any p = false) : xs.find? p = none := List.find?_eq_none.2 fun x hx => List.any_eq_false.1 h' x hx

theorem fields (d : Dm) (hd : d.W) (p : Ty) : PC Try.prog 51 [d.enc, p.enc] (.slice ((fieldsOf d p).map vint) .none) := by
  refine pc_of (N := 21) Try.func51 rfl rfl (by simp) (by simp [Ty.bel, bel_slice_ty, bel_ints0, bel_Dv, bel_Dm, Dv.bel, Dm.bel, bel_Row, Bel.int, bel_mE]) (bel_ints0 _ _) ?_
  repeat (refine awp_seq ?_)
  refine e_eval (by simp only [jA, jO, jN, seval, y42, y48, vint, qD] <;> with_reducible rfl) (by decide) ?_
  repeat (refine awp_seq ?_)
  refine awp_region ?_
  refine e_take 3 (by simp only [jA, jO, jN, seval, y3, y42, y48, vint, qD] <;> with_reducible rfl) (by decide) ?_
  refine aops_pure (by simp only [jC, jN, seval, vint, qD] <;> with_reducible rfl) (by simp only [jC, jN, seval, vint, qD]) (by decide) Trygo47 (variant_c d hd p.id _) ?_
  refine e_end (by simp only [jA, jO, jN, seval, vint, qD] <;> with_reducible rfl) (by decide) ?_
  rcases hfv : findV d p.id with _ | v
  ·
    have hfo : fieldsOf d p = [] := by unfold fieldsOf; rw [hfv]
    repeat (refine awp_seq ?_)
    refine g_eval (by simp only [jG, jO, jN, seval, y3, y42, y71, vint, qD, hfv, vptr, Bool.and_false] <;> with_reducible rfl) (by decide) (by repeat (first | exact Fin.base _ | with_reducible apply Fin.keep | apply Fin.drop)) ?_
    repeat (refine awp_seq ?_)
    refine awp_cond_false rfl (by simp only [jN, seval, vint, qD, hfv, vptr, Bool.and_false] <;> with_reducible rfl) ?_
    repeat (refine awp_seq ?_)
    refine awp_skip ?_
    refine awp_sel [] (by simp only [jN, seval, vint, qD, hfv, vptr, Bool.and_false] <;> with_reducible rfl) ?_
    repeat (refine awp_seq ?_)
    refine e_eval (by simp only [jA, jO, jN, seval, vint, qD, hfv, vptr, Bool.and_false] <;> with_reducible rfl) (by decide) ?_
    repeat (refine awp_seq ?_)
    refine awp_ret ⟨.inr rfl, _, rfl, ?_⟩
    simp only [jN, seval, vint, qD, hfo]
  ·
    have hfo : fieldsOf d p = if p.kind = 1 then v.fields else [] := by unfold fieldsOf; rw [hfv]
    repeat (refine awp_seq ?_)
    refine g_eval (by simp only [jG, jO, jN, seval, y3, y42, y71, vint, qD, hfv, vptr, Bool.not_false, Bool.and_true, DvS] <;> with_reducible rfl) (by decide) (by repeat (first | exact Fin.base _ | with_reducible apply Fin.keep | apply Fin.drop)) ?_
    repeat (refine awp_seq ?_)
    refine awp_cond rfl (by simp only [jN, seval, vint, qD, hfv, vptr, Bool.not_false, Bool.and_true, DvS] <;> with_reducible rfl) (fun bt16 => ?_) (fun bt16 => ?_)
    ·
      have hk : p.kind = 1 := by simpa using bt16
      rw [if_pos hk] at hfo
      refine awp_sel [5] (by simp only [jN, seval, vint, qD, hfv, vptr, Bool.not_false, Bool.and_true, DvS] <;> with_reducible rfl) ?_
      repeat (refine awp_seq ?_)
      refine e_eval (by simp only [jA, jO, jN, seval, y3, y23, y51, vint, qD, hfv, vptr, Bool.not_false, Bool.and_true, DvS] <;> with_reducible rfl) (by decide) ?_
      repeat (refine awp_seq ?_)
      refine awp_ret ⟨.inr rfl, _, rfl, ?_⟩
      simp only [jN, seval, vint, qD, hfo]
    ·
      have hk : ¬ p.kind = 1 := by simpa using bt16
      rw [if_neg hk] at hfo
      repeat (refine awp_seq ?_)
      refine awp_skip ?_
      refine awp_sel [] (by simp only [jN, seval, vint, qD, hfv, vptr, Bool.not_false, Bool.and_true, DvS] <;> with_reducible rfl) ?_
      repeat (refine awp_seq ?_)
      refine e_eval (by simp only [jA, jO, jN, seval, vint, qD, hfv, vptr, Bool.not_false, Bool.and_true, DvS] <;> with_reducible rfl) (by decide) ?_
      repeat (refine awp_seq ?_)
      refine awp_ret ⟨.inr rfl, _, rfl, ?_⟩
      simp only [jN, seval, vint, qD, hfo]

theorem absent11 (n : Int) (H : Heap) (id : Nat) (h1 : H[id]? = some (.row [vint n])) (p : Ty) : ACalls Try.prog 60 [p.enc, .optr id 0] H fun r' H' => r' = .bool (decide (p.id = n)) ∧ H' = H := by
  have q1 : ∀ L, (H ++ L)[id]? = some (.row [.int .i64 n]) := fun L => by rw [List.getElem?_append_left (len_of_get h1)]; exact h1
  refine keeps_of (N := 8) Try.func60 rfl rfl (by simp) (.bool _) fun hb' => ?_
  repeat (refine awp_seq ?_)
  refine e_eval (by simp only [jA, jO, jN, seval, y42, vint, qD, q1] <;> with_reducible rfl) (by decide) ?_
  repeat (refine awp_seq ?_)
  refine e_eval (by simp only [jA, jO, jN, seval, y3, y42, vint, qD, q1] <;> with_reducible rfl) (by decide) ?_
  repeat (refine awp_seq ?_)
  refine awp_ret ⟨.inr rfl, _, _, rfl, ?_, (by first | exact (List.append_nil _).symm | rfl)⟩
  simp only [jN, seval, vint, qD]

theorem absent1 (used : List Ty) (hu : used.length ≤ maxLen) (H : Heap) (id : Nat) (h1 : H[id]? = some (.row [.slice (used.map Ty.enc) .none])) (n : Int) : ACalls Try.prog 59 [vint n, .optr id 0] H fun r' H' => r' = .bool (hasId used n) ∧ H' = H := by
  have q1 : ∀ L, (H ++ L)[id]? = some (.row [.slice (used.map Ty.enc) .none]) := fun L => by rw [List.getElem?_append_left (len_of_get h1)]; exact h1
  refine keeps_of (N := 7) Try.func59 rfl rfl (by simp) (.bool _) fun hb' => ?_
  repeat (refine awp_seq ?_)
  refine e_eval (by simp only [jA, jO, jN, seval, y3, vint, qD, q1] <;> with_reducible rfl) (by decide) ?_
  repeat (refine awp_seq ?_)
  refine awp_region ?_
  refine e_take 2 (by simp only [jA, jO, jN, seval, y25, y42, vint, qD, q1] <;> with_reducible rfl) (by decide) ?_
  refine aops_pure (by simp only [jC, jN, seval, vint, qD, q1] <;> with_reducible rfl) (by simp only [jC, jN, seval, vint, qD, q1]) (by decide) Trygo55 (containsFuncTy (p := fun q : Ty => decide (q.id = n)) ⟨Trygo60, by simp; exact .optr _ _ (by simp), fun u hu => absent11 n _ H.length (by simp) u⟩ hu) ?_
  refine e_end (by simp only [jA, jO, jN, seval, vint, qD, q1] <;> with_reducible rfl) (by decide) ?_
  repeat (refine awp_seq ?_)
  refine awp_ret ⟨.inr rfl, _, _, rfl, ?_, (by first | exact (List.append_nil _).symm | rfl)⟩
  simp only [jN, seval, vint, qD]
  rfl

theorem absent (d : Dm) (hd : d.W) (hf : ∀ v ∈ d.vs, v.fields.length * 40 ≤ 2 ^ 47) (used : List Ty) (hu : used.length * 40 ≤ 2 ^ 47) : PC Try.prog 49 [d.enc, .slice (used.map Ty.enc) .none] (.tup [((absentP d used).getD wildP).enc, .bool (absentP d used).isSome]) := by
  have em : maxLen = 9223372036854775807 := by decide
  have hum : used.length ≤ maxLen := by omega
  have hW : wildP.enc = (Ty.mk 0 0 []).enc := rfl
  refine pc_of (N := 61) Try.func49 rfl rfl (by simp) (by simp [Ty.bel, bel_slice_ty, bel_ints0, bel_Dv, bel_Dm, Dv.bel, Dm.bel, bel_Row, Bel.int, bel_mE]) (.tup _ (by simp [Ty.bel, Bel.bool])) ?_
  repeat (refine awp_seq ?_)
  refine e_eval (by simp only [jA, jO, jN, seval, y25, y42, y48, vint, qD] <;> with_reducible rfl) (by decide) ?_
  repeat (refine awp_seq ?_)
  refine e_eval (by simp only [jA, jO, jN, seval, y3, y25, y42, vint, qD] <;> with_reducible rfl) (by decide) ?_
  repeat (refine awp_seq ?_)
  refine awp_cond rfl (by simp only [jN, seval, vint, qD] <;> with_reducible rfl) (fun bt13 => ?_) (fun bt13 => ?_)
  ·
    have hu0 : used = [] := by simpa using bt13
    have hab : absentP d used = some wildP := by unfold absentP; rw [if_pos hu0]
    repeat (refine awp_seq ?_)
    refine e_eval (by simp only [jA, jO, jN, seval, y42, vint, qD] <;> with_reducible rfl) (by decide) ?_
    repeat (refine awp_seq ?_)
    refine awp_ret ⟨.inr rfl, _, (ares_two (.cell 4 42) (.tmp 5) rfl (ares_cell1 Tryti42 (by decide) (by simp only [jL, jN, seval, vint, qD] <;> with_reducible rfl)) (ares_tmp1 (by decide))), ?_⟩
    simp only [jN, seval, vint, qD, hab, hW, Option.getD_some, Option.isSome_some]
  ·
    have hu0 : ¬ used = [] := by simpa using bt13
    repeat (refine awp_seq ?_)
    refine awp_skip ?_
    repeat (refine awp_seq ?_)
    refine e_eval (by simp only [jA, jO, jN, seval, vint, qD] <;> with_reducible rfl) (by decide) ?_
    repeat (refine awp_seq ?_)
    refine e_eval (by simp only [jA, jO, jN, seval, y3, y48, vint, qD] <;> with_reducible rfl) (by decide) ?_
    repeat (refine awp_seq ?_)
    refine awp_block ?_
    repeat (refine awp_seq ?_)
    refine e_eval (by simp only [jA, jO, jN, seval, y3, vint, qD] <;> with_reducible rfl) (by decide) ?_
    repeat (refine awp_seq ?_)
    refine awp_cond rfl (by simp only [jN, seval, vint, qD] <;> with_reducible rfl) (fun bt18 => ?_) (fun bt18 => ?_)
    ·
      have hk : d.kind = 2 := by simpa using bt18
      have hab : absentP d used = some (.mk 2 (freeId used used.length 0) []) := by unfold absentP; rw [if_neg hu0, if_pos hk]
      repeat (refine awp_seq ?_)
      refine e_eval (by simp only [jA, jO, jN, seval, vint, qD] <;> with_reducible rfl) (by decide) ?_
      repeat (refine awp_seq ?_)
      refine awp_block ?_
      refine awp_loopS (σ := Nat) (fun (n : Nat) => [(4, .optr 2 0), (6, .fn (.func 59) [] [.optr 1 0]), (7, vint (n : Int))]) ([]) (fun (n : Nat) => [.row d.enc.cells, .row [.slice (used.map Ty.enc) .none], .row [.int .i64 0, .int .i64 0, .slice [] .full]]) (fun (n : Nat) => used.length - n) (fun (n : Nat) => (∀ j : Nat, j < n → hasId used j = true) ∧ n ≤ used.length ∧ freeId used used.length 0 = freeId used (used.length - n) n) (0) (_) ⟨(by first | rfl | (simp only [jN, seval, vint, qD] <;> first | done | with_reducible rfl)), (by first | rfl | (simp only [jN, seval, vint, qD] <;> first | done | with_reducible rfl)), (by first | rfl | (simp only [jN, seval, vint, qD] <;> first | done | with_reducible rfl)), trivial⟩ (by first | rfl | (simp only [jN, seval, vint, qD] <;> first | done | with_reducible rfl)) (⟨fun j h => absurd h (by omega), Nat.zero_le _, rfl⟩) (fun _ _ => by first | exact Nat.zero_le _ | (simp only [List.length_append]; omega)) ?_ ?_
      · exact fun n hg => ⟨by simp only [DmS, TyS, List.nil_append]; repeat (first | exact hbel_nil _ | exact trivial | exact obel_row_nil _ | (refine HBel.cons ?_ ?_) | (refine obel_row_cons (by first | exact bel_nilfull _ | exact bel_Ty_tok _ (by simp) | exact .fn _ _ _ (by simp) (by simp; exact .optr _ _ (by simp)) | exact bel_ints0 _ _ | exact bel_slice_ty _ _ | exact Ty.bel _ _ | exact bel_ty_tok _ (by simp) | exact bel_Dv _ _ | exact Dv.bel _ _ | exact bel_Dm _ _ | exact Dm.bel _ _ | exact bel_Row _ _ | exact bel_mE _ _ | exact bel_iptr _ _ | exact bel_iptr2 _ _ _ | exact bel_Row_tok _ (by simp) | exact Bel.int _ _ | exact Bel.bool _ | exact Bel.str _ | exact Bel.nilp | exact Bel.nilfn | exact Bel.optr _ _ (by simp) | exact bel_nil0 _ | exact bel_nil1 _ | exact bel_fn0 _ _ | assumption) ?_)), by repeat (first | exact BelL.nil | refine BelL.cons (by first | exact bel_nilfull _ | exact bel_Ty_tok _ (by simp) | exact .fn _ _ _ (by simp) (by simp; exact .optr _ _ (by simp)) | exact bel_ints0 _ _ | exact bel_slice_ty _ _ | exact Ty.bel _ _ | exact bel_ty_tok _ (by simp) | exact bel_Dv _ _ | exact Dv.bel _ _ | exact bel_Dm _ _ | exact Dm.bel _ _ | exact bel_Row _ _ | exact bel_mE _ _ | exact bel_iptr _ _ | exact bel_iptr2 _ _ _ | exact bel_Row_tok _ (by simp) | exact Bel.int _ _ | exact Bel.bool _ | exact Bel.str _ | exact Bel.nilp | exact Bel.nilfn | exact Bel.optr _ _ (by simp) | exact bel_nil0 _ | exact bel_nil1 _ | exact bel_fn0 _ _ | assumption) ?_)⟩
      · intro n hg
        obtain ⟨hga, hgb, hgc⟩ := hg
        have hwn : IntKind.i64.wrap ((n : Int) + 1) = ((n + 1 : Nat) : Int) := by rw [wrap_id (by omega) (by omega)]; rfl
        repeat (refine awp_seq ?_)
        refine awp_region ?_
        refine e_take 2 (by simp only [jA, jO, jN, seval, vint, qD, hwn] <;> with_reducible rfl) (by decide) ?_
        refine aops_pure (by simp only [jC, jN, seval, vint, qD, hwn] <;> with_reducible rfl) (by simp only [jC, jN, seval, vint, qD, hwn]) (by decide) Trygo59 (absent1 used hum _ 1 rfl _) ?_
        refine aops_nil ?_
        repeat (refine awp_seq ?_)
        refine awp_cond rfl (by simp only [jN, seval, vint, qD, hwn] <;> with_reducible rfl) (fun bt22 => ?_) (fun bt22 => ?_)
        ·
          have hlt : n < used.length := by
            rcases Nat.lt_or_ge n used.length with h | h
            · exact h
            · exact (free_some used (n + 1) (upto_next hga bt22) (by omega)).elim
          have hgd : freeId used (used.length - n) n = freeId used (used.length - (n + 1)) (n + 1) := by
            rw [show used.length - n = (used.length - (n + 1)) + 1 by omega, freeId, if_pos bt22]
          repeat (refine awp_seq ?_)
          refine awp_skip ?_
          repeat (refine awp_seq ?_)
          refine awp_block ?_
          repeat (refine awp_seq ?_)
          refine e_eval (by simp only [jA, jO, jN, seval, y3, vint, qD, hwn] <;> with_reducible rfl) (by decide) ?_
          try simp only [thenQ, blockQ]
          exact ⟨n + 1, _, by omega, ⟨rfl, rfl, rfl, trivial⟩, by simp only [jN, seval, vint, qD] <;> rfl, upto_next hga bt22, by omega, hgc.trans hgd⟩
        ·
          have hgd : freeId used (used.length - n) n = n := by
            cases used.length - n with
            | zero => rfl
            | succ k => rw [freeId, if_neg (by rw [bt22]; simp)]
          rw [hgc, hgd] at hab
          repeat (refine awp_seq ?_)
          refine awp_exit ?_
          simp only [thenQ, blockQ, reduceIte, Nat.reduceEqDiff, Nat.succ_ne_self, if_true, if_false]
          repeat (refine awp_seq ?_)
          refine e_eval (by simp only [jA, jO, jN, seval, y42, vint, qD, hwn] <;> with_reducible rfl) (by decide) ?_
          repeat (refine awp_seq ?_)
          refine awp_ret ⟨.inr rfl, _, (ares_two (.cell 4 42) (.tmp 5) rfl (ares_cell1 Tryti42 (by decide) (by simp only [jL, jN, seval, vint, qD, hwn] <;> with_reducible rfl)) (ares_tmp1 (by decide))), ?_⟩
          simp only [jN, seval, vint, qD, hab, hW, Option.getD_some, Option.isSome_some, Option.map_some, Option.getD_none, Option.isSome_none, Option.map_none]
    ·
      have hk : ¬ d.kind = 2 := by simpa using bt18
      repeat (refine awp_seq ?_)
      refine e_eval (by simp only [jA, jO, jN, seval, y3, vint, qD] <;> with_reducible rfl) (by decide) ?_
      repeat (refine awp_seq ?_)
      refine awp_cond rfl (by simp only [jN, seval, vint, qD] <;> with_reducible rfl) (fun bt27 => ?_) (fun bt27 => ?_)
      ·
        have hk3 : d.kind = 3 := by simpa using bt27
        have hab : absentP d used = if hasId used 0 then (if hasId used 1 then none else some (.mk 3 1 [])) else some (.mk 3 0 []) := by unfold absentP; rw [if_neg hu0, if_neg hk, if_pos hk3]
        refine awp_sel [4, 6] (by simp only [jN, seval, vint, qD] <;> with_reducible rfl) ?_
        repeat (refine awp_seq ?_)
        refine e_eval (by simp only [jA, jO, jN, seval, vint, qD] <;> with_reducible rfl) (by decide) ?_
        repeat (refine awp_seq ?_)
        refine awp_block ?_
        refine awp_loopS (σ := Nat) (fun (n : Nat) => [(4, .optr 2 0), (6, .fn (.func 59) [] [.optr 1 0]), (29, vint (n : Int))]) ([]) (fun (n : Nat) => [.row d.enc.cells, .row [.slice (used.map Ty.enc) .none], .row [.int .i64 0, .int .i64 0, .slice [] .full]]) (fun (n : Nat) => 2 - n) (fun (n : Nat) => (∀ j : Nat, j < n → hasId used j = true) ∧ n ≤ 2) (0) (_) ⟨(by first | rfl | (simp only [jN, seval, vint, qD] <;> first | done | with_reducible rfl)), (by first | rfl | (simp only [jN, seval, vint, qD] <;> first | done | with_reducible rfl)), (by first | rfl | (simp only [jN, seval, vint, qD] <;> first | done | with_reducible rfl)), trivial⟩ (by first | rfl | (simp only [jN, seval, vint, qD] <;> first | done | with_reducible rfl)) (⟨fun j h => absurd h (by omega), Nat.zero_le _⟩) (fun _ _ => by first | exact Nat.zero_le _ | (simp only [List.length_append]; omega)) ?_ ?_
        · exact fun n hg => ⟨by simp only [DmS, TyS, List.nil_append]; repeat (first | exact hbel_nil _ | exact trivial | exact obel_row_nil _ | (refine HBel.cons ?_ ?_) | (refine obel_row_cons (by first | exact bel_nilfull _ | exact bel_Ty_tok _ (by simp) | exact .fn _ _ _ (by simp) (by simp; exact .optr _ _ (by simp)) | exact bel_ints0 _ _ | exact bel_slice_ty _ _ | exact Ty.bel _ _ | exact bel_ty_tok _ (by simp) | exact bel_Dv _ _ | exact Dv.bel _ _ | exact bel_Dm _ _ | exact Dm.bel _ _ | exact bel_Row _ _ | exact bel_mE _ _ | exact bel_iptr _ _ | exact bel_iptr2 _ _ _ | exact bel_Row_tok _ (by simp) | exact Bel.int _ _ | exact Bel.bool _ | exact Bel.str _ | exact Bel.nilp | exact Bel.nilfn | exact Bel.optr _ _ (by simp) | exact bel_nil0 _ | exact bel_nil1 _ | exact bel_fn0 _ _ | assumption) ?_)), by repeat (first | exact BelL.nil | refine BelL.cons (by first | exact bel_nilfull _ | exact bel_Ty_tok _ (by simp) | exact .fn _ _ _ (by simp) (by simp; exact .optr _ _ (by simp)) | exact bel_ints0 _ _ | exact bel_slice_ty _ _ | exact Ty.bel _ _ | exact bel_ty_tok _ (by simp) | exact bel_Dv _ _ | exact Dv.bel _ _ | exact bel_Dm _ _ | exact Dm.bel _ _ | exact bel_Row _ _ | exact bel_mE _ _ | exact bel_iptr _ _ | exact bel_iptr2 _ _ _ | exact bel_Row_tok _ (by simp) | exact Bel.int _ _ | exact Bel.bool _ | exact Bel.str _ | exact Bel.nilp | exact Bel.nilfn | exact Bel.optr _ _ (by simp) | exact bel_nil0 _ | exact bel_nil1 _ | exact bel_fn0 _ _ | assumption) ?_)⟩
        · intro n hg
          obtain ⟨hga, hgb⟩ := hg
          have hwn : IntKind.i64.wrap ((n : Int) + 1) = ((n + 1 : Nat) : Int) := by rw [wrap_id (by omega) (by omega)]; rfl
          repeat (refine awp_seq ?_)
          refine e_eval (by simp only [jA, jO, jN, seval, y3, vint, qD, hwn] <;> with_reducible rfl) (by decide) ?_
          repeat (refine awp_seq ?_)
          refine awp_cond rfl (by simp only [jN, seval, vint, qD, hwn] <;> with_reducible rfl) (fun bt30 => ?_) (fun bt30 => ?_)
          ·
            have hlt : n < 2 := by simp at bt30; omega
            repeat (refine awp_seq ?_)
            refine awp_skip ?_
            repeat (refine awp_seq ?_)
            refine awp_block ?_
            repeat (refine awp_seq ?_)
            refine e_eval (by simp only [jA, jO, jN, seval, vint, qD, hwn] <;> with_reducible rfl) (by decide) ?_
            repeat (refine awp_seq ?_)
            refine awp_region ?_
            refine e_take 2 (by simp only [jA, jO, jN, seval, vint, qD, hwn] <;> with_reducible rfl) (by decide) ?_
            refine aops_pure (by simp only [jC, jN, seval, vint, qD, hwn] <;> with_reducible rfl) (by simp only [jC, jN, seval, vint, qD, hwn]) (by decide) Trygo59 (absent1 used hum _ 1 rfl _) ?_
            refine e_end (by simp only [jA, jO, jN, seval, vint, qD, hwn] <;> with_reducible rfl) (by decide) ?_
            repeat (refine awp_seq ?_)
            refine awp_cond rfl (by simp only [jN, seval, vint, qD, hwn] <;> with_reducible rfl) (fun bt35 => ?_) (fun bt35 => ?_)
            ·
              have hq : hasId used n = false := by simpa using bt35
              have hab2 : absentP d used = some (.mk 3 n []) := by
                rw [hab]
                rcases (by omega : n = 0 ∨ n = 1) with rfl | rfl
                · rw [if_neg (by rw [show hasId used 0 = false from hq]; simp)]; rfl
                · rw [if_pos (show hasId used 0 = true from hga 0 (by omega)), if_neg (by rw [show hasId used 1 = false from hq]; simp)]; rfl
              repeat (refine awp_seq ?_)
              refine e_eval (by simp only [jA, jO, jN, seval, y42, vint, qD, hwn] <;> with_reducible rfl) (by decide) ?_
              repeat (refine awp_seq ?_)
              refine awp_ret ⟨.inr rfl, _, (ares_two (.cell 4 42) (.tmp 5) rfl (ares_cell1 Tryti42 (by decide) (by simp only [jL, jN, seval, vint, qD, hwn] <;> with_reducible rfl)) (ares_tmp1 (by decide))), ?_⟩
              simp only [jN, seval, vint, qD, hab2, hW, Option.getD_some, Option.isSome_some]
            ·
              have hq : hasId used n = true := by simpa using bt35
              repeat (refine awp_seq ?_)
              refine awp_skip ?_
              repeat (refine awp_seq ?_)
              refine e_eval (by simp only [jA, jO, jN, seval, y3, vint, qD, hwn] <;> with_reducible rfl) (by decide) ?_
              try simp only [thenQ, blockQ]
              exact ⟨n + 1, _, by omega, ⟨rfl, rfl, rfl, trivial⟩, by simp only [jN, seval, vint, qD] <;> rfl, upto_next hga hq, by omega⟩
          ·
            have h2 : n = 2 := by simp at bt30; omega
            subst h2
            have hq0 : hasId used 0 = true := hga 0 (by omega)
            have hq1 : hasId used 1 = true := hga 1 (by omega)
            rw [if_pos hq0, if_pos hq1] at hab
            repeat (refine awp_seq ?_)
            refine awp_exit ?_
            simp only [thenQ, blockQ, reduceIte, Nat.reduceEqDiff, Nat.succ_ne_self, if_true, if_false]
            repeat (refine awp_seq ?_)
            refine e_eval (by simp only [jA, jO, jN, seval, y42, vint, qD, hwn] <;> with_reducible rfl) (by decide) ?_
            repeat (refine awp_seq ?_)
            refine awp_ret ⟨.inr rfl, _, (ares_two (.cell 4 42) (.tmp 5) rfl (ares_cell1 Tryti42 (by decide) (by simp only [jL, jN, seval, vint, qD, hwn] <;> with_reducible rfl)) (ares_tmp1 (by decide))), ?_⟩
            simp only [jN, seval, vint, qD, hab, hW, Option.getD_some, Option.isSome_some, Option.map_some, Option.getD_none, Option.isSome_none, Option.map_none]
      ·
        have hk3 : ¬ d.kind = 3 := by simpa using bt27
        have hab : absentP d used = (d.vs.find? fun v => !hasId used v.id).map fun v => .mk 1 v.id (List.replicate v.fields.length wildP) := by unfold absentP; rw [if_neg hu0, if_neg hk, if_neg hk3]
        repeat (refine awp_seq ?_)
        refine awp_skip ?_
        refine awp_sel [2, 4, 6] (by simp only [jN, seval, vint, qD] <;> with_reducible rfl) ?_
        repeat (refine awp_seq ?_)
        refine e_eval (by simp only [jA, jO, jN, seval, y46, y48, y51, vint, qD] <;> with_reducible rfl) (by decide) ?_
        repeat (refine awp_seq ?_)
        refine awp_forS (σ := Unit) (d.vs.length) (fun (u_ : Unit) => [(4, .optr 2 0), (6, .fn (.func 59) [] [.optr 1 0]), (41, .slice (d.vs.map Dv.enc) .none)]) [4, 6, 41] ([]) (fun (u_ : Unit) => [.row d.enc.cells, .row [.slice (used.map Ty.enc) .none], .row [.int .i64 0, .int .i64 0, .slice [] .full]]) (fun (i : Nat) (u_ : Unit) => (d.vs.take i).any (fun v => !hasId used v.id) = false) (()) (_) rfl rfl rfl rfl rfl rfl rfl rfl rfl (by decide) (by decide) (by decide) (fun _ => rfl) (hd.max_vs) ⟨(by first | rfl | (simp only [jN, seval, vint, qD] <;> first | done | with_reducible rfl)), (by first | rfl | (simp only [jN, seval, vint, qD] <;> first | done | with_reducible rfl)), (by first | rfl | (simp only [jN, seval, vint, qD] <;> first | done | with_reducible rfl)), (by first | rfl | (simp only [jN, seval, vint, qD] <;> first | done | with_reducible rfl)), (by first | rfl | (simp only [jN, seval, vint, qD] <;> first | done | with_reducible rfl)), trivial⟩ (by first | rfl | (simp only [jN, seval, vint, qD] <;> first | done | with_reducible rfl)) (by simp) (fun _ _ _ => by first | exact Nat.zero_le _ | (simp only [List.length_append]; omega)) ?_ ?_ ?_
        · exact fun i u_ hg => ⟨by simp only [DmS, TyS, List.nil_append]; repeat (first | exact hbel_nil _ | exact trivial | exact obel_row_nil _ | (refine HBel.cons ?_ ?_) | (refine obel_row_cons (by first | exact bel_nilfull _ | exact bel_Ty_tok _ (by simp) | exact .fn _ _ _ (by simp) (by simp; exact .optr _ _ (by simp)) | exact bel_ints0 _ _ | exact bel_slice_ty _ _ | exact Ty.bel _ _ | exact bel_ty_tok _ (by simp) | exact bel_Dv _ _ | exact Dv.bel _ _ | exact bel_Dm _ _ | exact Dm.bel _ _ | exact bel_Row _ _ | exact bel_mE _ _ | exact bel_iptr _ _ | exact bel_iptr2 _ _ _ | exact bel_Row_tok _ (by simp) | exact Bel.int _ _ | exact Bel.bool _ | exact Bel.str _ | exact Bel.nilp | exact Bel.nilfn | exact Bel.optr _ _ (by simp) | exact bel_nil0 _ | exact bel_nil1 _ | exact bel_fn0 _ _ | assumption) ?_)), by repeat (first | exact BelL.nil | refine BelL.cons (by first | exact bel_nilfull _ | exact bel_Ty_tok _ (by simp) | exact .fn _ _ _ (by simp) (by simp; exact .optr _ _ (by simp)) | exact bel_ints0 _ _ | exact bel_slice_ty _ _ | exact Ty.bel _ _ | exact bel_ty_tok _ (by simp) | exact bel_Dv _ _ | exact Dv.bel _ _ | exact bel_Dm _ _ | exact Dm.bel _ _ | exact bel_Row _ _ | exact bel_mE _ _ | exact bel_iptr _ _ | exact bel_iptr2 _ _ _ | exact bel_Row_tok _ (by simp) | exact Bel.int _ _ | exact Bel.bool _ | exact Bel.str _ | exact Bel.nilp | exact Bel.nilfn | exact Bel.optr _ _ (by simp) | exact bel_nil0 _ | exact bel_nil1 _ | exact bel_fn0 _ _ | assumption) ?_)⟩
        · intro i u_ hi hg
          have g1 := ix_nat hi
          have g2 := get_enc Dv.enc hi
          have hmem : d.vs[i] ∈ d.vs := List.getElem_mem hi
          obtain ⟨v, hve⟩ : ∃ v, d.vs[i] = v := ⟨_, rfl⟩
          rw [hve] at g2 hmem
          have hfl := hf v hmem
          have g3a : ((0 : Int) ≤ (v.fields.length : Int)) = True := by simp
          have g3b : ((v.fields.length : Int) * 40 ≤ 140737488355328) = True := eq_true (by omega)
          have g3c : ((v.fields.length : Int) ≤ (maxLen : Int)) = True := eq_true (by rw [em]; omega)
          repeat (refine awp_seq ?_)
          refine e_eval (by simp only [jA, jO, jN, seval, y46, y51, vint, qD, g1, g2, Int.toNat_natCast] <;> with_reducible rfl) (by decide) ?_
          repeat (refine awp_seq ?_)
          refine awp_region ?_
          refine e_take 3 (by simp only [jA, jO, jN, seval, y3, y51, vint, qD, g1, g2, Int.toNat_natCast] <;> with_reducible rfl) (by decide) ?_
          refine aops_pure (by simp only [jC, jN, seval, vint, qD, g1, g2, Int.toNat_natCast] <;> with_reducible rfl) (by simp only [jC, jN, seval, vint, qD, g1, g2, Int.toNat_natCast]) (by decide) Trygo59 (absent1 used hum _ 1 rfl _) ?_
          refine e_end (by simp only [jA, jO, jN, seval, vint, qD, g1, g2, Int.toNat_natCast] <;> with_reducible rfl) (by decide) ?_
          repeat (refine awp_seq ?_)
          refine awp_cond rfl (by simp only [jN, seval, vint, qD, g1, g2, Int.toNat_natCast] <;> with_reducible rfl) (fun bt51 => ?_) (fun bt51 => ?_)
          ·
            have hq : hasId used v.id = false := by simpa using bt51
            rw [find_at hi (by rw [hve, hq]; rfl) hg, hve] at hab
            repeat (refine awp_seq ?_)
            refine x_draw 0 (n0 := 4) (by first | rfl | (simp only [List.length_append, List.length_cons, List.length_nil, Nat.reduceAdd, Nat.zero_add, g1, g2, Int.toNat_natCast, g3a, g3b, g3c, Int.le_refl, rep_wild]; done)) (by kernel_rfl) ?_
            refine x1_take 7 (by first | rfl | (simp only [List.length_append, List.length_cons, List.length_nil, Nat.reduceAdd, Nat.zero_add, g1, g2, Int.toNat_natCast, g3a, g3b, g3c, Int.le_refl, rep_wild]; done)) (by simp only [jP, jO, jN, seval, y3, y23, y25, y42, y51, vint, qD, g1, g2, Int.toNat_natCast, g3a, g3b, g3c, Int.le_refl, rep_wild] <;> with_reducible rfl) (by decide) (by decide) (by decide) ?_
            refine x_mid (by first | (simp only [LS, HS, List.append_assoc, List.cons_append, List.nil_append, g1, g2, Int.toNat_natCast, g3a, g3b, g3c, Int.le_refl, rep_wild] <;> with_reducible rfl) | rfl) ?_
            refine x2_end (bm := [0, 1, 0, 4, 12, 28, 63, 127, 255]) (fresh := (4)) (by kernel_rfl) (by simp only [jX, jO, jN, seval, y42, vint, qD, g1, g2, Int.toNat_natCast, g3a, g3b, g3c, Int.le_refl, rep_wild] <;> with_reducible rfl) (by decide) (by repeat (first | exact Fin.base _ | with_reducible apply Fin.keep | apply Fin.drop)) ?_
            repeat (refine awp_seq ?_)
            refine awp_ret ⟨.inr rfl, _, (ares_two (.cell 4 42) (.tmp 5) rfl (ares_cell1 Tryti42 (by decide) (by simp only [jL, jN, seval, vint, qD, g1, g2, Int.toNat_natCast] <;> with_reducible rfl)) (ares_tmp1 (by decide))), ?_⟩
            simp only [jN, seval, vint, qD, hab, hW, Option.getD_some, Option.isSome_some, Option.map_some, Option.getD_none, Option.isSome_none, Option.map_none]
          ·
            have hq : hasId used v.id = true := by simpa using bt51
            repeat (refine awp_seq ?_)
            refine awp_skip ?_
            exact ⟨⟨rfl, rfl, trivial⟩, (), _, ⟨rfl, rfl, rfl, trivial⟩, by simp only [jN, seval, vint, qD] <;> rfl, any_take_succ hi hg (by rw [hve, hq]; rfl)⟩
        · intro u_ hg
          rw [List.take_length] at hg
          rw [find_no hg] at hab
          repeat (refine awp_seq ?_)
          refine e_eval (by simp only [jA, jO, jN, seval, y42, vint, qD] <;> with_reducible rfl) (by decide) ?_
          repeat (refine awp_seq ?_)
          refine awp_ret ⟨.inr rfl, _, (ares_two (.cell 4 42) (.tmp 5) rfl (ares_cell1 Tryti42 (by decide) (by simp only [jL, jN, seval, vint, qD] <;> with_reducible rfl)) (ares_tmp1 (by decide))), ?_⟩
          simp only [jN, seval, vint, qD, hab, hW, Option.getD_some, Option.isSome_some, Option.map_some, Option.getD_none, Option.isSome_none, Option.map_none]

end Go.Abs
namespace Go.Abs
/-- What every call of the algorithm may take for granted. -/
structure MIn (ds : List Dm) (cols : List Int) (rows : List Row) : Prop where
  c : ColsOk ds cols
  r : RowsOk ds cols rows
  w : ∀ r ∈ rows, ∀ u ∈ r, u.W
  n : rows.length ≤ 12
  b : muM cols rows ≤ 2 ^ 30
structure DIn (ds : List Dm) : Prop where
  w : DsW ds
  d : DOk ds
  u : UniqV ds
  f : Fld4 ds
theorem wildP_W : wildP.W := .mk (by simp) (by simp)
theorem spec_W {rows : List Row} {k i : Int} {n : Nat} (h : ∀ r ∈ rows, ∀ u ∈ r, u.W) : ∀ r ∈ spec rows k i n, ∀ u ∈ r, u.W := by
  intro r' hr' u hu
  obtain ⟨r, hr, hs⟩ := spec_mem hr'
  cases r with
  | nil => simp [specRow] at hs
  | cons p r =>
    have hp := h _ hr
    rw [specRow_cons] at hs
    split at hs
    · cases hs
      rcases List.mem_append.1 hu with hu | hu
      · rw [(List.mem_replicate.1 hu).2]; exact wildP_W
      · exact hp u (List.mem_cons_of_mem _ hu)
    · split at hs
      · cases hs
        rcases List.mem_append.1 hu with hu | hu
        · exact (hp p (List.mem_cons_self ..)).arg hu
        · exact hp u (List.mem_cons_of_mem _ hu)
      · cases hs
theorem MIn.default {ds : List Dm} (D : DIn ds) {c : Int} {cs : List Int} {rows : List Row} (h : MIn ds (c :: cs) rows) : MIn ds cs (spec rows (-1) 0 0) :=
  ⟨h.c.tail, rows_default D.d h.r h.c.head, spec_W h.w, Nat.le_trans (spec_length ..) h.n, by have := mu_default (k := 2 ^ 30) (Nat.lt_succ_of_le h.b); omega⟩
theorem MIn.spec {ds : List Dm} (D : DIn ds) {c : Int} {cs : List Int} {rows : List Row} (h : MIn ds (c :: cs) rows) {p : Ty} (hp : p ∈ cons rows) : MIn ds (fieldsOf (domOf ds c) p ++ cs) (spec rows p.kind p.id (fieldsOf (domOf ds c) p).length) :=
  ⟨(fieldsOf_len D.d h.c.head).app h.c.tail, rows_spec D.d h.r h.c.head p (cons_mem hp).1, spec_W h.w, Nat.le_trans (spec_length ..) h.n, by have := mu_spec D.f h.c.head hp (k := 2 ^ 30) (Nat.lt_succ_of_le h.b); omega⟩
theorem MIn.heads {ds : List Dm} {c : Int} {cs : List Int} {rows : List Row} (h : MIn ds (c :: cs) rows) : Heads rows := fun r hr => by
  obtain ⟨q, r', rfl, _⟩ := h.r.cases hr
  simp
theorem conf_args4 {ds : List Dm} (D : DIn ds) {c : Int} (hc : okIx ds c = true) {p : Ty} (h : confP ds p c = true) : p.args.length ≤ 4 := by
  by_cases hk : p.kind = 0
  · rw [confP_eq, if_pos hk] at h
    simp only [Bool.and_eq_true] at h
    rw [List.isEmpty_iff.1 h.2]; simp
  · rw [confL_len (conf_args D.d hc h hk)]; exact fields4 D.f hc p
theorem MIn.rows {ds : List Dm} (D : DIn ds) {c : Int} {cs : List Int} {rows : List Row} (h : MIn ds (c :: cs) rows) {p : Ty} {r : Row} (hr : p :: r ∈ rows) : r.length = cs.length ∧ cs.length < 2 ^ 30 ∧ p.args.length ≤ 4 := by
  obtain ⟨q, r', e, h1, h2⟩ := h.r.cases hr
  cases e
  refine ⟨confL_len h2, ?_, conf_args4 D h.c.head h1⟩
  have := h.b
  simp only [muM, List.length_cons] at this; omega
theorem MIn.cs {ds : List Dm} {c : Int} {cs : List Int} {rows : List Row} (h : MIn ds (c :: cs) rows) : cs.length < 2 ^ 30 := by
  have := h.b
  simp only [muM, List.length_cons] at this; omega
/-- What 'missing' answers. -/
def missE (o : Option Row) : PV := .tup [rowE (o.getD []), .bool o.isSome]
theorem bel_missE (n : Nat) (o : Option Row) : Bel n (missE o) := .tup _ (by simp [bel_slice_ty, Bel.bool])
theorem app_row1 {p : Ty} {rest : List Ty} (hne : rest ≠ []) (hb : (1 + rest.length) * 40 ≤ 2 ^ 47) (fr : Nat) (H : Heap) (tl : Tail) :
    aappend ⟨true, 3, 40⟩ fr H (.slice [p.enc] .full) (.slice (rest.map Ty.enc) tl) = some (.slice (p.enc :: rest.map Ty.enc) (.tok fr), some (fr, .buf (1 + rest.length) 3)) := by
  have em : maxLen = 9223372036854775807 := by decide
  unfold aappend
  simp only [List.map_eq_nil_iff, if_neg hne]
  rw [if_pos ⟨by simpa using hb, by simp; omega, by intro e he; rw [List.mem_singleton.1 he]; exact Ty.enc_len _, fun e he => by obtain ⟨v, _, rfl⟩ := List.mem_map.1 he; exact ⟨Ty.enc_len v, by rw [Ty.enc_cells]; rfl⟩, by decide⟩]
  simp
theorem missM_s (ds : List Dm) (k : Nat) (c : Int) (cs : List Int) (rows : List Row) : missM ds (k + 1) (c :: cs) rows =
    match (absentP (domOf ds c) (cons rows)).bind fun p => (missM ds k cs (spec rows (-1) 0 0)).map fun r => p :: r with
    | some r => some r
    | none => missU (fun p => missM ds k (fieldsOf (domOf ds c) p ++ cs) (spec rows p.kind p.id (fieldsOf (domOf ds c) p).length)) ds (domOf ds c) (cons rows) := rfl
theorem missU_drop {f : Ty → Option Row} {ds : List Dm} {d : Dm} {us : List Ty} {i : Nat} (hi : i < us.length) : missU f ds d (us.drop i) = match f us[i] with
    | some row => some (.mk us[i].kind us[i].id (row.take (fieldsOf d us[i]).length) :: row.drop (fieldsOf d us[i]).length)
    | none => missU f ds d (us.drop (i + 1)) := by
  rw [List.drop_eq_getElem_cons hi]; rfl
theorem aapp_nilR (i : TI) (fr : Nat) (H : Heap) (es : List PV) (tl : Tail) : aappend i fr H (.slice es tl) (rowE []) = some (.slice es tl, none) := aapp_nil i fr H es tl .none
theorem tk_map {α : Type} (f : α → PV) (n : Nat) (l : List α) : List.take n (l.map f) = (l.take n).map f := (List.map_take ..).symm
theorem all3 (l : List Ty) : (∀ e ∈ l.map Ty.enc, e.cells.length = 3) = True := eq_true fun e he => by obtain ⟨u, _, rfl⟩ := List.mem_map.1 he; exact u.enc_len
theorem all3c (p : Ty) (l : List Ty) : (∀ e ∈ p.enc :: l.map Ty.enc, e.cells.length = 3) = True := all3 (p :: l)
theorem all1 (l : List Int) : (∀ e ∈ l.map vint, e.cells.length = 1) = True := eq_true fun e he => by obtain ⟨u, _, rfl⟩ := List.mem_map.1 he; rfl
theorem all1c (c : Int) (l : List Int) : (∀ e ∈ (PV.int .i64 c) :: l.map vint, e.cells.length = 1) = True := all1 (c :: l)
theorem bel_nats (n : Nat) (us : List Nat) : Bel n (.slice (us.map fun i : Nat => PV.int .i64 (i : Int)) .none) := .slice _ _ (fun e he c hc => by
  obtain ⟨x, _, rfl⟩ := List.mem_map.1 he
  simp [PV.cells] at hc; subst hc; exact .int _ _) (by simp)
theorem bel_nats_tok {n id : Nat} (us : List Nat) (h : id < n) : Bel n (.slice (us.map fun i : Nat => PV.int .i64 (i : Int)) (.tok id)) := by
  have := bel_nats n us
  cases this with
  | slice _ _ h1 h2 => exact .slice _ _ h1 (fun _ e => by cases e; exact h)
theorem app_nat {us : List Nat} {u : Nat} {id : Nat} {tl : Tail} (hb : (us.length + 1) * 8 ≤ 2 ^ 47) (fresh : Nat) (H : Heap) (hH : H[id]? = some (.buf us.length 1)) :
    aappend ⟨false, 1, 8⟩ fresh H (.slice (us.map fun i : Nat => PV.int .i64 (i : Int)) (.tok id)) (.slice [.int .i64 (u : Int)] tl) = some (.slice ((us ++ [u]).map fun i : Nat => PV.int .i64 (i : Int)) (.tok id), some (id, .buf (us.length + 1) 1)) := by
  have hmx : maxLen = 9223372036854775807 := by decide
  rw [aappend_tok1 (n := us.length) hH (by simp) (by simpa using hb) (by simp; omega) (fun e he => by obtain ⟨v, _, rfl⟩ := List.mem_map.1 he; rfl) rfl rfl (by decide)]
  simp [PV.cells]
structure UIn (ds : List Dm) (cols : List Int) (rows : List Row) (row : Row) : Prop where
  m : MIn ds cols rows
  cr : confL ds row cols = true
  wr : ∀ u ∈ row, u.W
  b : 4 * nwR rows + 4 * nws row + cols.length ≤ 2 ^ 30
theorem usef_mu0 {ds : List Dm} {c : Int} {cs : List Int} {rows : List Row} {p : Ty} {r : Row} {K : Nat} (h : 4 * nwR rows + 4 * nws (p :: r) + (c :: cs).length < K + 1) : 4 * nwR (spec rows (-1) 0 0) + 4 * nws r + cs.length < K := by
  have := spec_le (-1) 0 0 rows
  simp only [nws, List.length_cons] at h; omega
theorem usef_mu1 {ds : List Dm} (D : DIn ds) {c : Int} (hc : okIx ds c = true) {cs : List Int} {rows : List Row} {p : Ty} {r : Row} {K : Nat} (h : 4 * nwR rows + 4 * nws (p :: r) + (c :: cs).length < K + 1) {q : Ty} (hq : q ∈ cons rows) :
    4 * nwR (spec rows q.kind q.id (fieldsOf (domOf ds c) q).length) + 4 * nws (List.replicate (fieldsOf (domOf ds c) q).length wildP ++ r) + (fieldsOf (domOf ds c) q ++ cs).length < K := by
  obtain ⟨hk, r0, hr0⟩ := cons_mem hq
  have := spec_lt (k := q.kind) (i := q.id) (n := (fieldsOf (domOf ds c) q).length) hk hr0
  have := fields4 D.f hc q
  rw [nws_app, nws_wild]
  simp only [nws, List.length_cons, List.length_append] at h ⊢; omega
theorem usef_mu2 {ds : List Dm} (D : DIn ds) {c : Int} (hc : okIx ds c = true) {cs : List Int} {rows : List Row} {p : Ty} {r : Row} {K : Nat} (hk : p.kind ≠ 0) (h : 4 * nwR rows + 4 * nws (p :: r) + (c :: cs).length < K + 1) :
    4 * nwR (spec rows p.kind p.id (fieldsOf (domOf ds c) p).length) + 4 * nws (p.args ++ r) + (fieldsOf (domOf ds c) p ++ cs).length < K := by
  have := spec_le p.kind p.id (fieldsOf (domOf ds c) p).length rows
  have := fields4 D.f hc p
  have := nw_eq p
  rw [if_neg hk] at this
  rw [nws_app]
  simp only [nws, List.length_cons, List.length_append] at h ⊢; omega
theorem UIn.default {ds : List Dm} (D : DIn ds) {c : Int} {cs : List Int} {rows : List Row} {p : Ty} {r : Row} (h : UIn ds (c :: cs) rows (p :: r)) : UIn ds cs (spec rows (-1) 0 0) r := by
  have hc := h.cr
  simp only [confL, Bool.and_eq_true] at hc
  exact ⟨h.m.default D, hc.2, fun u hu => h.wr u (List.mem_cons_of_mem _ hu), by have := usef_mu0 (ds := ds) (K := 2 ^ 30) (Nat.lt_succ_of_le h.b); omega⟩
theorem UIn.spec1 {ds : List Dm} (D : DIn ds) {c : Int} {cs : List Int} {rows : List Row} {p : Ty} {r : Row} (h : UIn ds (c :: cs) rows (p :: r)) {q : Ty} (hq : q ∈ cons rows) : UIn ds (fieldsOf (domOf ds c) q ++ cs) (spec rows q.kind q.id (fieldsOf (domOf ds c) q).length) (List.replicate (fieldsOf (domOf ds c) q).length wildP ++ r) := by
  have hc := h.cr
  simp only [confL, Bool.and_eq_true] at hc
  refine ⟨h.m.spec D hq, confL_app (confL_wild ds _) hc.2, fun u hu => ?_, by have := usef_mu1 D h.m.c.head (K := 2 ^ 30) (Nat.lt_succ_of_le h.b) hq; omega⟩
  rcases List.mem_append.1 hu with hu | hu
  · rw [(List.mem_replicate.1 hu).2]; exact wildP_W
  · exact h.wr u (List.mem_cons_of_mem _ hu)
theorem UIn.spec2 {ds : List Dm} (D : DIn ds) {c : Int} {cs : List Int} {rows : List Row} {p : Ty} {r : Row} (h : UIn ds (c :: cs) rows (p :: r)) (hk : p.kind ≠ 0) : UIn ds (fieldsOf (domOf ds c) p ++ cs) (spec rows p.kind p.id (fieldsOf (domOf ds c) p).length) (p.args ++ r) := by
  have hc := h.cr
  simp only [confL, Bool.and_eq_true] at hc
  have hb := usef_mu2 D h.m.c.head (K := 2 ^ 30) hk (Nat.lt_succ_of_le h.b)
  refine ⟨⟨(fieldsOf_len D.d h.m.c.head).app h.m.c.tail, rows_spec D.d h.m.r h.m.c.head p hk, spec_W h.m.w, Nat.le_trans (spec_length ..) h.m.n, by unfold muM; omega⟩, confL_app (conf_args D.d h.m.c.head hc.1 hk) hc.2, fun u hu => ?_, by omega⟩
  rcases List.mem_append.1 hu with hu | hu
  · exact (h.wr p (List.mem_cons_self ..)).arg hu
  · exact h.wr u (List.mem_cons_of_mem _ hu)
theorem usefM_s (ds : List Dm) (k : Nat) (c : Int) (cs : List Int) (rows : List Row) (p : Ty) (r : Row) : usefM ds (k + 1) (c :: cs) rows (p :: r) =
    if p.kind = 0 then ((absentP (domOf ds c) (cons rows)).isSome && usefM ds k cs (spec rows (-1) 0 0) r) ||
      (cons rows).any fun q => usefM ds k (fieldsOf (domOf ds c) q ++ cs) (spec rows q.kind q.id (fieldsOf (domOf ds c) q).length) (List.replicate (fieldsOf (domOf ds c) q).length wildP ++ r)
    else usefM ds k (fieldsOf (domOf ds c) p ++ cs) (spec rows p.kind p.id (fieldsOf (domOf ds c) p).length) (p.args ++ r) := rfl
end Go.Abs
set_option maxRecDepth 4000
namespace Go.Abs
open Go.Proofs

theorem bel_ints_c (n : Nat) (c : Int) (cs : List Int) : Bel n (.slice (.int .i64 c :: cs.map vint) .none) := bel_ints0 n (c :: cs)

theorem missing_nil (ds : List Dm) (rows : List Row) (k : Nat) : PC Try.prog 34 [.agg [.slice (ds.map Dm.enc) .none], .slice (([]).map vint) .none, .slice (rows.map rowE) .none] (missE (missM ds (k + 1) [] rows)) := by
  have hm : missM ds (k + 1) [] rows = if rows = [] then some [] else none := rfl
  refine pc_of (N := 100) Try.func34 rfl rfl (by simp) (by simp [bel_Dm, bel_nil0, bel_nil1, bel_Row, bel_mE]; try exact bel_ints_c _ _ _) (bel_missE _ _) ?_
  repeat (refine awp_seq ?_)
  refine e_eval (by simp only [jA, jO, jN, seval, y54, vint, qD, List.length_nil, List.map_nil] <;> with_reducible rfl) (by decide) ?_
  repeat (refine awp_seq ?_)
  refine e_eval (by simp only [jA, jO, jN, seval, y3, y23, vint, qD, List.length_nil, List.map_nil] <;> with_reducible rfl) (by decide) ?_
  repeat (refine awp_seq ?_)
  refine awp_cond_true rfl (by simp only [jN, seval, vint, qD, List.length_nil, List.map_nil] <;> with_reducible rfl) ?_
  repeat (refine awp_seq ?_)
  refine e_eval (by simp only [jA, jO, jN, seval, y3, y24, y25, vint, qD, List.length_nil, List.map_nil] <;> with_reducible rfl) (by decide) ?_
  repeat (refine awp_seq ?_)
  refine awp_ret ⟨.inr rfl, _, (ares_two (.tmp 6) (.tmp 7) rfl (ares_tmp1 (by decide)) (ares_tmp1 (by decide))), ?_⟩
  rw [hm]
  cases rows with
  | nil => rfl
  | cons r rows => rw [if_neg (by simp)]; simp only [jN, seval, vint, qD]; rfl

theorem missing_k (ds : List Dm) (D : DIn ds) : ∀ (k : Nat) (cols : List Int) (rows : List Row), MIn ds cols rows → muM cols rows < k → PC Try.prog 34 [.agg [.slice (ds.map Dm.enc) .none], .slice ((cols).map vint) .none, .slice (rows.map rowE) .none] (missE (missM ds k cols rows))
  | 0, cols, rows, _, h => by omega
  | k + 1, [], rows, _, _ => missing_nil ds rows k
  | k + 1, c :: cs, rows, hin, hmu => by
    have em : maxLen = 9223372036854775807 := by decide
    obtain ⟨g1, g2⟩ := ix_dom hin.c.head
    have hdm := domOf_mem hin.c.head
    have hsp := missM_s ds k c cs rows
    have hspec := fun p hp => hin.spec D (p := p) hp
    have hmus := fun p hp => mu_spec D.f hin.c.head (p := p) hp hmu
    have hmiss := fun p hp row h => (miss_some D.d D.u k _ _ row (hspec p hp).c (hspec p hp).r h).1
    obtain ⟨dm, hdme⟩ : ∃ dm, domOf ds c = dm := ⟨_, rfl⟩
    rw [hdme] at g2 hdm hsp hspec hmus hmiss
    have hdw := D.w.el dm hdm
    have hd4 : ∀ v ∈ dm.vs, v.fields.length * 40 ≤ 2 ^ 47 := fun v hv => by have := D.f dm hdm v hv; omega
    have hcl := hin.cs
    have hrn := hin.n
    obtain ⟨us, huse⟩ : ∃ us, cons rows = us := ⟨_, rfl⟩
    have hul : us.length ≤ 12 := by rw [← huse]; have := cons_length rows []; simp only [List.length_nil] at this; unfold cons; omega
    have huw : ∀ u ∈ us, u.W := by rw [← huse]; exact cons_W hin.w
    have hcon := constructors rows (by omega) hin.heads
    have hdef := defaultRows rows (by omega) hin.heads (fun p r h => by have := hin.rows D h; omega)
    have hrec := missing_k ds D k cs _ (hin.default D) (mu_default hmu)
    have habs := absent dm hdw hd4 us (by omega)
    rw [huse] at hcon hsp hspec hmus hmiss
    have g6 : ((0 : Int) < ((cs.length + 1 : Nat) : Int)) = True := eq_true (by omega)
    have g5 : ((1 : Int) ≤ ((cs.length + 1 : Nat) : Int)) = True := eq_true (by omega)
    have hne0 : decide (((cs.length + 1 : Nat) : Int) = 0) = false := decide_eq_false (by omega)
    obtain ⟨ao, hao⟩ : ∃ ao, absentP dm us = ao := ⟨_, rfl⟩
    obtain ⟨pa, hpa⟩ : ∃ pa, ao.getD wildP = pa := ⟨_, rfl⟩
    rw [hao, hpa] at habs
    obtain ⟨ro, hro⟩ : ∃ ro, missM ds k cs (spec rows (-1) 0 0) = ro := ⟨_, rfl⟩
    rw [hro] at hrec
    rw [hao, hro] at hsp
    unfold missE at hrec
    obtain ⟨rest, hrest⟩ : ∃ rest, ro.getD [] = rest := ⟨_, rfl⟩
    rw [hrest] at hrec
    have hrl : ro = some rest → rest.length = cs.length := fun h => by
      have := (miss_some D.d D.u k _ _ rest (hin.default D).c (hin.default D).r (hro.trans h)).1
      exact confL_len this
    refine pc_of (N := 100) Try.func34 rfl rfl (by simp) (by simp [bel_Dm, bel_ints0, bel_Row, bel_mE]; try exact bel_ints_c _ _ _) (bel_missE _ _) ?_
    repeat (refine awp_seq ?_)
    refine e_eval (by simp only [jA, jO, jN, seval, y54, vint, qD] <;> with_reducible rfl) (by decide) ?_
    repeat (refine awp_seq ?_)
    refine e_eval (by simp only [jA, jO, jN, seval, y3, y23, vint, qD, hne0, List.length_map] <;> with_reducible rfl) (by decide) ?_
    repeat (refine awp_seq ?_)
    refine awp_cond_false rfl (by simp only [jN, seval, vint, qD, hne0] <;> with_reducible rfl) ?_
    repeat (refine awp_seq ?_)
    refine awp_skip ?_
    repeat (refine awp_seq ?_)
    refine x_draw 1 (n0 := 1) (by first | rfl | (simp only [List.length_append, List.length_cons, List.length_nil, Nat.reduceAdd, Nat.zero_add, g1, g2, g6, List.map_cons, List.length_cons, List.length_map, List.getElem?_cons_zero, Int.toNat_zero]; done)) (by kernel_rfl) ?_
    refine x1_take 7 (by first | rfl | (simp only [List.length_append, List.length_cons, List.length_nil, Nat.reduceAdd, Nat.zero_add, g1, g2, g6, List.map_cons, List.length_cons, List.length_map, List.getElem?_cons_zero, Int.toNat_zero]; done)) (by simp only [jP, jO, jN, seval, y3, y22, y23, y48, y54, vint, qD, g1, g2, g6, List.map_cons, List.length_cons, List.length_map, List.getElem?_cons_zero, Int.toNat_zero] <;> with_reducible rfl) (by decide) (by decide) (by decide) ?_
    refine x_mid (by first | (simp only [LS, HS, List.append_assoc, List.cons_append, List.nil_append, g1, g2, g6, List.map_cons, List.length_cons, List.length_map, List.getElem?_cons_zero, Int.toNat_zero] <;> with_reducible rfl) | rfl) ?_
    refine x2_end (bm := [0, 1, 0, 4, 12, 31, 63, 0, 255]) (fresh := (1)) (by kernel_rfl) (by simp only [jX, jO, jN, seval, y48, vint, qD, g1, g2, g6, List.map_cons, List.length_cons, List.length_map, List.getElem?_cons_zero, Int.toNat_zero] <;> with_reducible rfl) (by decide) (by repeat (first | exact Fin.base _ | with_reducible apply Fin.keep | apply Fin.drop)) ?_
    repeat (refine awp_seq ?_)
    refine awp_region ?_
    refine e_take 1 (by simp only [jA, jO, jN, seval, vint, qD] <;> with_reducible rfl) (by decide) ?_
    refine aops_pure (by simp only [jC, jN, seval, vint, qD] <;> with_reducible rfl) (by simp only [jC, jN, seval, vint, qD]) (by decide) Trygo48 (hcon _) ?_
    refine e_end (by simp only [jA, jO, jN, seval, vint, qD] <;> with_reducible rfl) (by decide) ?_
    refine awp_sel [1, 2, 3, 8, 9] (by simp only [jN, seval, vint, qD] <;> with_reducible rfl) ?_
    repeat (refine awp_seq ?_)
    refine awp_region ?_
    refine e_take 2 (by simp only [jA, jO, jN, seval, y48, vint, qD] <;> with_reducible rfl) (by decide) ?_
    refine aops_pure (by simp only [jC, jN, seval, vint, qD] <;> with_reducible rfl) (by simp only [jC, jN, seval, vint, qD]) (by decide) Trygo49 (habs _) ?_
    refine e_end (by simp only [jA, jO, jN, seval, y42, vint, qD] <;> with_reducible rfl) (by decide) ?_
    repeat (refine awp_seq ?_)
    refine e_eval (by simp only [jA, jO, jN, seval, vint, qD] <;> with_reducible rfl) (by decide) ?_
    repeat (refine awp_seq ?_)
    refine awp_joinT (σ := Unit) (fun (s : Unit) => [(1, .slice ((c :: cs).map vint) .none), (2, .slice (rows.map rowE) .none), (3, .optr 0 0), (8, .optr 1 0), (9, .slice (us.map Ty.enc) .none)]) (fun (s : Unit) => [.row [.slice (ds.map Dm.enc) .none], .row dm.enc.cells, .row pa.enc.cells]) (fun (s : Unit) => ao = none ∨ ro = none) ?_ ?_ ?_
    · intro s hg
      exact ⟨by simp, by simp only [DmS, TyS, List.nil_append]; repeat (first | exact hbel_nil _ | exact trivial | exact obel_row_nil _ | (refine HBel.cons ?_ ?_) | (refine obel_row_cons (by first | exact bel_nilfull _ | exact bel_Ty_tok _ (by simp) | exact bel_Int _ _ | exact bel_ints_c _ _ _ | exact bel_ints0 _ _ | exact bel_slice_ty _ _ | exact Ty.bel _ _ | exact bel_ty_tok _ (by simp) | exact bel_Dv _ _ | exact Dv.bel _ _ | exact bel_Dm _ _ | exact Dm.bel _ _ | exact bel_Row _ _ | exact bel_mE _ _ | exact bel_iptr _ _ | exact bel_iptr2 _ _ _ | exact bel_Row_tok _ (by simp) | exact Bel.int _ _ | exact Bel.bool _ | exact Bel.str _ | exact Bel.nilp | exact Bel.nilfn | exact Bel.optr _ _ (by simp) | exact bel_nil0 _ | exact bel_nil1 _ | exact bel_fn0 _ _ | assumption) ?_)), by repeat (first | exact BelL.nil | refine BelL.cons (by first | exact bel_nilfull _ | exact bel_Ty_tok _ (by simp) | exact bel_Int _ _ | exact bel_ints_c _ _ _ | exact bel_ints0 _ _ | exact bel_slice_ty _ _ | exact Ty.bel _ _ | exact bel_ty_tok _ (by simp) | exact bel_Dv _ _ | exact Dv.bel _ _ | exact bel_Dm _ _ | exact Dm.bel _ _ | exact bel_Row _ _ | exact bel_mE _ _ | exact bel_iptr _ _ | exact bel_iptr2 _ _ _ | exact bel_Row_tok _ (by simp) | exact Bel.int _ _ | exact Bel.bool _ | exact Bel.str _ | exact Bel.nilp | exact Bel.nilfn | exact Bel.optr _ _ (by simp) | exact bel_nil0 _ | exact bel_nil1 _ | exact bel_fn0 _ _ | assumption) ?_)⟩
    · -- to the meeting
      repeat (refine awp_seq ?_)
      refine awp_cond rfl (by simp only [jN, seval, vint, qD] <;> with_reducible rfl) (fun bt41 => ?_) (fun bt41 => ?_)
      ·
        obtain ⟨pz, hpz⟩ := Option.isSome_iff_exists.1 bt41
        repeat (refine awp_seq ?_)
        refine dp_draw (by kernel_rfl) ?_
        refine dp_take 4 (by simp only [jP, jO, jN, seval, y3, y23, y54, jS, vint, qD, g5, all1c, take_map, List.map_cons, List.length_cons, List.length_map] <;> with_reducible rfl) (by decide) ?_
        refine dp_keep (by simp only [jE, jN, seval, vint, qD, g5, all1c, take_map, List.map_cons, List.length_cons, List.length_map] <;> with_reducible rfl) (by simp only [jE, jN, seval, vint, qD, g5, all1c, take_map, List.map_cons, List.length_cons, List.length_map] <;> with_reducible rfl) (by simp only [jE, jN, seval, vint, qD, g5, all1c, take_map, List.map_cons, List.length_cons, List.length_map]) (by decide) Trygo50 (fun hc => hdef _) ?_
        refine dp_keep (by simp only [jE, jN, seval, vint, qD, g5, all1c, take_map, List.map_cons, List.length_cons, List.length_map] <;> with_reducible rfl) (by simp only [jE, jN, seval, vint, qD, g5, all1c, take_map, List.map_cons, List.length_cons, List.length_map] <;> with_reducible rfl) (by simp only [jE, jN, seval, vint, qD, g5, all1c, take_map, List.map_cons, List.length_cons, List.length_map]) (by decide) Trygo34 (fun hc => hrec _) ?_
        refine dp_end (by simp only [jP, jO, jN, seval, vint, qD, g5, all1c, take_map, List.map_cons, List.length_cons, List.length_map] <;> with_reducible rfl) (by decide) (by repeat (first | exact Fin.base _ | with_reducible apply Fin.keep | apply Fin.drop)) ?_
        repeat (refine awp_seq ?_)
        refine e_eval (by simp only [jA, jO, jN, seval, vint, qD] <;> with_reducible rfl) (by decide) ?_
        repeat (refine awp_seq ?_)
        refine awp_cond rfl (by simp only [jN, seval, vint, qD] <;> with_reducible rfl) (fun bt51 => ?_) (fun bt51 => ?_)
        ·
          have hr1 : ro = some rest := by obtain ⟨r, hr⟩ := Option.isSome_iff_exists.1 bt51; rw [hr] at hrest ⊢; simpa using hrest
          have hsp1 : missM ds (k + 1) (c :: cs) rows = some (pa :: rest) := by rw [hsp, hpz, hr1]; rw [hpz] at hpa; simp only [Option.getD_some] at hpa; rw [hpa]; rfl
          have hrl2 := hrl hr1
          rcases Classical.em (rest = []) with hr0 | hr0
          ·
            subst hr0
            repeat (refine awp_seq ?_)
            refine e_eval (by simp only [jA, jO, jN, seval, y25, y42, vint, qD, List.map_nil, aapp_nil, aapp_nilR] <;> with_reducible rfl) (by decide) ?_
            repeat (refine awp_seq ?_)
            refine awp_ret ⟨.inr rfl, _, (ares_two (.tmp 6) (.tmp 7) rfl (ares_tmp1 (by decide)) (ares_tmp1 (by decide))), ?_⟩
            rw [hsp1]; unfold missE; simp only [jN, seval, vint, qD, Option.getD_some, Option.isSome_some, List.map_cons, List.map_nil]; try rfl
          ·
            have happ := fun fr H => app_row1 (p := pa) (rest := rest) hr0 (by omega) fr H .none
            repeat (refine awp_seq ?_)
            refine e_eval (by simp only [jA, jO, jN, seval, y25, y42, vint, qD, happ] <;> with_reducible rfl) (by decide) ?_
            repeat (refine awp_seq ?_)
            refine awp_ret ⟨.inr rfl, _, (ares_two (.tmp 6) (.tmp 7) rfl (ares_tmp1 (by decide)) (ares_tmp1 (by decide))), ?_⟩
            rw [hsp1]; unfold missE; simp only [jN, seval, vint, qD, Option.getD_some, Option.isSome_some, List.map_cons]; try rfl
        ·
          have hr0 : ro = none := by simpa using bt51
          repeat (refine awp_seq ?_)
          refine awp_skip ?_
          exact ⟨(), _, ⟨(by first | rfl | (simp only [jN, seval, vint, qD] <;> first | done | with_reducible rfl)), (by first | rfl | (simp only [jN, seval, vint, qD] <;> first | done | with_reducible rfl)), (by first | rfl | (simp only [jN, seval, vint, qD] <;> first | done | with_reducible rfl)), (by first | rfl | (simp only [jN, seval, vint, qD] <;> first | done | with_reducible rfl)), (by first | rfl | (simp only [jN, seval, vint, qD] <;> first | done | with_reducible rfl)), trivial⟩, (by first | rfl | (simp only [jN, seval, vint, qD] <;> first | done | with_reducible rfl)), by exact Or.inr hr0⟩
      ·
        have ha0 : ao = none := by simpa using bt41
        repeat (refine awp_seq ?_)
        refine awp_skip ?_
        exact ⟨(), _, ⟨(by first | rfl | (simp only [jN, seval, vint, qD] <;> first | done | with_reducible rfl)), (by first | rfl | (simp only [jN, seval, vint, qD] <;> first | done | with_reducible rfl)), (by first | rfl | (simp only [jN, seval, vint, qD] <;> first | done | with_reducible rfl)), (by first | rfl | (simp only [jN, seval, vint, qD] <;> first | done | with_reducible rfl)), (by first | rfl | (simp only [jN, seval, vint, qD] <;> first | done | with_reducible rfl)), trivial⟩, (by first | rfl | (simp only [jN, seval, vint, qD] <;> first | done | with_reducible rfl)), by exact Or.inl ha0⟩
    · intro s hg
      have hsp2 : missM ds (k + 1) (c :: cs) rows = missU (fun p => missM ds k (fieldsOf dm p ++ cs) (spec rows p.kind p.id (fieldsOf dm p).length)) ds dm us := by
        rw [hsp]; rcases hg with rfl | rfl
        · rfl
        · cases ao <;> rfl
      repeat (refine awp_seq ?_)
      refine e_eval (by simp only [jA, jO, jN, seval, y25, y42, vint, qD] <;> with_reducible rfl) (by decide) ?_
      repeat (refine awp_seq ?_)
      refine awp_forS (σ := Unit) (us.length) (fun (u_ : Unit) => [(1, .slice ((c :: cs).map vint) .none), (2, .slice (rows.map rowE) .none), (3, .optr 0 0), (8, .optr 1 0), (56, .slice (us.map Ty.enc) .none)]) [1, 2, 3, 8, 56] ([]) (fun (u_ : Unit) => [.row [.slice (ds.map Dm.enc) .none], .row dm.enc.cells, .row pa.enc.cells]) (fun (i : Nat) (u_ : Unit) => missM ds (k + 1) (c :: cs) rows = missU (fun p => missM ds k (fieldsOf dm p ++ cs) (spec rows p.kind p.id (fieldsOf dm p).length)) ds dm (us.drop i)) (()) (_) rfl rfl rfl rfl rfl rfl rfl rfl rfl (by decide) (by decide) (by decide) (fun _ => rfl) ((by omega)) ⟨(by first | rfl | (simp only [jN, seval, vint, qD] <;> first | done | with_reducible rfl)), (by first | rfl | (simp only [jN, seval, vint, qD] <;> first | done | with_reducible rfl)), (by first | rfl | (simp only [jN, seval, vint, qD] <;> first | done | with_reducible rfl)), (by first | rfl | (simp only [jN, seval, vint, qD] <;> first | done | with_reducible rfl)), (by first | rfl | (simp only [jN, seval, vint, qD] <;> first | done | with_reducible rfl)), (by first | rfl | (simp only [jN, seval, vint, qD] <;> first | done | with_reducible rfl)), (by first | rfl | (simp only [jN, seval, vint, qD] <;> first | done | with_reducible rfl)), trivial⟩ (by first | rfl | (simp only [jN, seval, vint, qD] <;> first | done | with_reducible rfl)) (by rw [hsp2]; rfl) (fun _ _ _ => by first | exact Nat.zero_le _ | (simp only [List.length_append]; omega)) ?_ ?_ ?_
      · exact fun i u_ hg => ⟨by simp only [TyS, DvS, DmS, List.nil_append]; repeat (first | exact hbel_nil _ | exact trivial | exact obel_row_nil _ | (refine HBel.cons ?_ ?_) | (refine obel_row_cons (by first | exact bel_nilfull _ | exact bel_Ty_tok _ (by simp) | exact bel_Int _ _ | exact bel_ints_c _ _ _ | exact bel_ints0 _ _ | exact bel_slice_ty _ _ | exact Ty.bel _ _ | exact bel_ty_tok _ (by simp) | exact bel_Dv _ _ | exact Dv.bel _ _ | exact bel_Dm _ _ | exact Dm.bel _ _ | exact bel_Row _ _ | exact bel_mE _ _ | exact bel_iptr _ _ | exact bel_iptr2 _ _ _ | exact bel_Row_tok _ (by simp) | exact Bel.int _ _ | exact Bel.bool _ | exact Bel.str _ | exact Bel.nilp | exact Bel.nilfn | exact Bel.optr _ _ (by simp) | exact bel_nil0 _ | exact bel_nil1 _ | exact bel_fn0 _ _ | assumption) ?_)), by repeat (first | exact BelL.nil | refine BelL.cons (by first | exact bel_nilfull _ | exact bel_Ty_tok _ (by simp) | exact bel_Int _ _ | exact bel_ints_c _ _ _ | exact bel_ints0 _ _ | exact bel_slice_ty _ _ | exact Ty.bel _ _ | exact bel_ty_tok _ (by simp) | exact bel_Dv _ _ | exact Dv.bel _ _ | exact bel_Dm _ _ | exact Dm.bel _ _ | exact bel_Row _ _ | exact bel_mE _ _ | exact bel_iptr _ _ | exact bel_iptr2 _ _ _ | exact bel_Row_tok _ (by simp) | exact Bel.int _ _ | exact Bel.bool _ | exact Bel.str _ | exact Bel.nilp | exact Bel.nilfn | exact Bel.optr _ _ (by simp) | exact bel_nil0 _ | exact bel_nil1 _ | exact bel_fn0 _ _ | assumption) ?_)⟩
      · intro i u_ hi hg
        have g3 := ix_nat hi
        have g4 := get_enc Ty.enc hi
        have hmem : us[i] ∈ us := List.getElem_mem hi
        have hmd := missU_drop (f := fun p => missM ds k (fieldsOf dm p ++ cs) (spec rows p.kind p.id (fieldsOf dm p).length)) (ds := ds) (d := dm) hi
        obtain ⟨p, hpe⟩ : ∃ p, us[i] = p := ⟨_, rfl⟩
        rw [hpe] at g4 hmem hmd
        try simp only at hmd
        have hin2 := hspec p hmem
        have hmu2 := hmus p hmem
        have hmi2 := hmiss p hmem
        have hfl := fields dm hdw p
        obtain ⟨fs, hfse⟩ : ∃ fs, fieldsOf dm p = fs := ⟨_, rfl⟩
        have hf4 : fs.length ≤ 4 := by rw [← hfse, ← hdme]; exact fields4 D.f hin.c.head p
        rw [hfse] at hin2 hmu2 hfl hmd hmi2
        have hcc := concatInt [fs, cs] (by simp [em]) (by simp; omega)
        have hss := specialize rows p.kind p.id fs.length (by omega) hin.heads (by omega) (fun q r h => by have := hin.rows D h; omega)
        have hrec2 := missing_k ds D k _ _ hin2 hmu2
        obtain ⟨mo, hmo⟩ : ∃ mo, missM ds k (fs ++ cs) (spec rows p.kind p.id fs.length) = mo := ⟨_, rfl⟩
        rw [hmo] at hrec2 hmd hmi2
        unfold missE at hrec2
        obtain ⟨row, hrow⟩ : ∃ row, mo.getD [] = row := ⟨_, rfl⟩
        rw [hrow] at hrec2
        simp only [List.flatten_cons, List.flatten_nil, List.append_nil] at hcc
        repeat (refine awp_seq ?_)
        refine e_eval (by simp only [jA, jO, jN, seval, y25, y42, vint, qD, g3, g4, Int.toNat_natCast] <;> with_reducible rfl) (by decide) ?_
        repeat (refine awp_seq ?_)
        refine awp_region ?_
        refine e_take 2 (by simp only [jA, jO, jN, seval, y42, y48, vint, qD, g3, g4, Int.toNat_natCast] <;> with_reducible rfl) (by decide) ?_
        refine aops_pure (by simp only [jC, jN, seval, vint, qD, g3, g4, Int.toNat_natCast] <;> with_reducible rfl) (by simp only [jC, jN, seval, vint, qD, g3, g4, Int.toNat_natCast]) (by decide) Trygo51 (hfl _) ?_
        refine e_end (by simp only [jA, jO, jN, seval, vint, qD, g3, g4, Int.toNat_natCast] <;> with_reducible rfl) (by decide) ?_
        repeat (refine awp_seq ?_)
        refine e_eval (by simp only [jA, jO, jN, seval, y3, y23, vint, qD, g3, g4, Int.toNat_natCast] <;> with_reducible rfl) (by decide) ?_
        repeat (refine awp_seq ?_)
        refine dp_draw (by kernel_rfl) ?_
        refine dp_take 5 (by simp only [jP, jO, jN, seval, y3, y23, y54, y82, jS, vint, qD, g3, g4, Int.toNat_natCast, g5, all1c, take_map, List.map_cons, List.length_cons, List.length_map] <;> with_reducible rfl) (by decide) ?_
        refine dp_keep (by simp only [jE, jN, seval, vint, qD, g3, g4, Int.toNat_natCast, g5, all1c, take_map, List.map_cons, List.length_cons, List.length_map] <;> with_reducible rfl) (by simp only [jE, jN, seval, vint, qD, g3, g4, Int.toNat_natCast, g5, all1c, take_map, List.map_cons, List.length_cons, List.length_map] <;> with_reducible rfl) (by simp only [jE, jN, seval, vint, qD, g3, g4, Int.toNat_natCast, g5, all1c, take_map, List.map_cons, List.length_cons, List.length_map]) (by decide) Trygo52 (fun hc => hcc _) ?_
        refine dp_take 6 (by simp only [jP, jO, jN, seval, y3, y42, vint, qD, g3, g4, Int.toNat_natCast, g5, all1c, take_map, List.map_cons, List.length_cons, List.length_map] <;> with_reducible rfl) (by decide) ?_
        refine dp_keep (by simp only [jE, jN, seval, vint, qD, g3, g4, Int.toNat_natCast, g5, all1c, take_map, List.map_cons, List.length_cons, List.length_map] <;> with_reducible rfl) (by simp only [jE, jN, seval, vint, qD, g3, g4, Int.toNat_natCast, g5, all1c, take_map, List.map_cons, List.length_cons, List.length_map] <;> with_reducible rfl) (by simp only [jE, jN, seval, vint, qD, g3, g4, Int.toNat_natCast, g5, all1c, take_map, List.map_cons, List.length_cons, List.length_map]) (by decide) Trygo53 (fun hc => hss _) ?_
        refine dp_keep (by simp only [jE, jN, seval, vint, qD, g3, g4, Int.toNat_natCast, g5, all1c, take_map, List.map_cons, List.length_cons, List.length_map] <;> with_reducible rfl) (by simp only [jE, jN, seval, vint, qD, g3, g4, Int.toNat_natCast, g5, all1c, take_map, List.map_cons, List.length_cons, List.length_map] <;> with_reducible rfl) (by simp only [jE, jN, seval, vint, qD, g3, g4, Int.toNat_natCast, g5, all1c, take_map, List.map_cons, List.length_cons, List.length_map]) (by decide) Trygo34 (fun hc => hrec2 _) ?_
        refine dp_end (by simp only [jP, jO, jN, seval, vint, qD, g3, g4, Int.toNat_natCast, g5, all1c, take_map, List.map_cons, List.length_cons, List.length_map] <;> with_reducible rfl) (by decide) (by repeat (first | exact Fin.base _ | with_reducible apply Fin.keep | apply Fin.drop)) ?_
        refine awp_sel [1, 2, 3, 8, 15, 17, 18, 19, 56, 57, 58] (by simp only [jN, seval, vint, qD, g3, g4, Int.toNat_natCast] <;> with_reducible rfl) ?_
        repeat (refine awp_seq ?_)
        refine e_eval (by simp only [jA, jO, jN, seval, vint, qD, g3, g4, Int.toNat_natCast] <;> with_reducible rfl) (by decide) ?_
        repeat (refine awp_seq ?_)
        refine awp_cond rfl (by simp only [jN, seval, vint, qD, g3, g4, Int.toNat_natCast] <;> with_reducible rfl) (fun bt84 => ?_) (fun bt84 => ?_)
        ·
          have hm1 : mo = some row := by obtain ⟨r, hr⟩ := Option.isSome_iff_exists.1 bt84; rw [hr] at hrow ⊢; simpa using hrow
          have hrl3 : row.length = fs.length + cs.length := by have := confL_len (hmi2 row hm1); simpa using this
          have hres : missM ds (k + 1) (c :: cs) rows = some (.mk p.kind p.id (row.take fs.length) :: row.drop fs.length) := by rw [hg, hmd, hm1]
          have g7 : ((fs.length : Int) ≤ (row.length : Int)) = True := eq_true (by omega)
          have g8 : ((0 : Int) ≤ (fs.length : Int)) = True := eq_true (by omega)
          rcases Classical.em (row.drop fs.length = []) with hr0 | hr0
          ·
            have hr1 : List.drop fs.length (List.take row.length (row.map Ty.enc)) = [] := by rw [take_map, ← List.map_drop, hr0]; rfl
            have hr2 : List.drop fs.length (row.map Ty.enc) = [] := by rw [← List.map_drop, hr0]; rfl
            repeat (refine awp_seq ?_)
            refine x_draw 1 (n0 := 4) (by first | rfl | (simp only [List.length_append, List.length_cons, List.length_nil, Nat.reduceAdd, Nat.zero_add, g3, g4, Int.toNat_natCast, hr1, hr2, aapp_nil, g7, g8, all3, List.length_map, tk_map, List.take_length, Int.le_refl, List.drop_zero]; done)) (by kernel_rfl) ?_
            refine x1_take 13 (by first | rfl | (simp only [List.length_append, List.length_cons, List.length_nil, Nat.reduceAdd, Nat.zero_add, g3, g4, Int.toNat_natCast, hr1, hr2, aapp_nil, g7, g8, all3, List.length_map, tk_map, List.take_length, Int.le_refl, List.drop_zero]; done)) (by simp only [jP, jO, jN, seval, y3, y25, y42, jS, vint, qD, g3, g4, Int.toNat_natCast, hr1, hr2, aapp_nil, g7, g8, all3, List.length_map, tk_map, List.take_length, Int.le_refl, List.drop_zero] <;> with_reducible rfl) (by decide) (by decide) (by decide) ?_
            refine x_mid (by first | (simp only [LS, HS, List.append_assoc, List.cons_append, List.nil_append, g3, g4, Int.toNat_natCast, hr1, hr2, aapp_nil, g7, g8, all3, List.length_map, tk_map, List.take_length, Int.le_refl, List.drop_zero] <;> with_reducible rfl) | rfl) ?_
            refine x2_end (bm := [0, 1, 0, 4, 0, 0, 0, 112, 255, 511, 0, 0, 3072, 8191, 16383, 32767]) (fresh := (4)) (by kernel_rfl) (by simp only [jX, jO, jN, seval, y25, y42, vint, qD, g3, g4, Int.toNat_natCast, hr1, hr2, aapp_nil, g7, g8, all3, List.length_map, tk_map, List.take_length, Int.le_refl, List.drop_zero] <;> with_reducible rfl) (by decide) (by repeat (first | exact Fin.base _ | with_reducible apply Fin.keep | apply Fin.drop)) ?_
            repeat (refine awp_seq ?_)
            refine awp_ret ⟨.inr rfl, _, (ares_two (.tmp 6) (.tmp 7) rfl (ares_tmp1 (by decide)) (ares_tmp1 (by decide))), ?_⟩
            rw [hres]; unfold missE; simp only [jN, seval, vint, qD, Option.getD_some, Option.isSome_some, List.map_cons, List.map_nil, hr0]; try rfl
          ·
            have happ := fun fr H => app_row1 (p := .mk p.kind p.id (row.take fs.length)) (rest := row.drop fs.length) hr0 (by rw [List.length_drop]; omega) fr H .none
            have hr1 : List.drop fs.length (List.take row.length (row.map Ty.enc)) = (row.drop fs.length).map Ty.enc := by rw [take_map, List.map_drop]
            have hr2 : List.drop fs.length (row.map Ty.enc) = (row.drop fs.length).map Ty.enc := by rw [List.map_drop]
            repeat (refine awp_seq ?_)
            refine x_draw 1 (n0 := 4) (by first | rfl | (simp only [List.length_append, List.length_cons, List.length_nil, Nat.reduceAdd, Nat.zero_add, g3, g4, Int.toNat_natCast, hr1, hr2, happ, g7, g8, all3, List.length_map, tk_map, List.take_length, Int.le_refl, List.drop_zero]; done)) (by kernel_rfl) ?_
            refine x1_take 13 (by first | rfl | (simp only [List.length_append, List.length_cons, List.length_nil, Nat.reduceAdd, Nat.zero_add, g3, g4, Int.toNat_natCast, hr1, hr2, happ, g7, g8, all3, List.length_map, tk_map, List.take_length, Int.le_refl, List.drop_zero]; done)) (by simp only [jP, jO, jN, seval, y3, y25, y42, jS, vint, qD, g3, g4, Int.toNat_natCast, hr1, hr2, happ, g7, g8, all3, List.length_map, tk_map, List.take_length, Int.le_refl, List.drop_zero] <;> with_reducible rfl) (by decide) (by decide) (by decide) ?_
            refine x_mid (by first | (simp only [LS, HS, List.append_assoc, List.cons_append, List.nil_append, g3, g4, Int.toNat_natCast, hr1, hr2, happ, g7, g8, all3, List.length_map, tk_map, List.take_length, Int.le_refl, List.drop_zero] <;> with_reducible rfl) | rfl) ?_
            refine x2_end (bm := [0, 1, 0, 4, 0, 0, 0, 112, 255, 511, 0, 0, 3072, 8191, 16383, 32767]) (fresh := (4)) (by kernel_rfl) (by simp only [jX, jO, jN, seval, y25, y42, vint, qD, g3, g4, Int.toNat_natCast, hr1, hr2, happ, g7, g8, all3, List.length_map, tk_map, List.take_length, Int.le_refl, List.drop_zero] <;> with_reducible rfl) (by decide) (by repeat (first | exact Fin.base _ | with_reducible apply Fin.keep | apply Fin.drop)) ?_
            repeat (refine awp_seq ?_)
            refine awp_ret ⟨.inr rfl, _, (ares_two (.tmp 6) (.tmp 7) rfl (ares_tmp1 (by decide)) (ares_tmp1 (by decide))), ?_⟩
            rw [hres]; unfold missE; simp only [jN, seval, vint, qD, Option.getD_some, Option.isSome_some, List.map_cons]; try rfl
        ·
          have hm0 : mo = none := by simpa using bt84
          repeat (refine awp_seq ?_)
          refine awp_skip ?_
          exact ⟨⟨rfl, rfl, trivial⟩, (), _, ⟨rfl, rfl, rfl, rfl, rfl, trivial⟩, by simp only [jN, seval, vint, qD] <;> rfl, by rw [hg, hmd, hm0]⟩
      · intro u_ hg
        rw [List.drop_length] at hg
        have hres : missM ds (k + 1) (c :: cs) rows = none := hg
        repeat (refine awp_seq ?_)
        refine e_eval (by simp only [jA, jO, jN, seval, vint, qD] <;> with_reducible rfl) (by decide) ?_
        repeat (refine awp_seq ?_)
        refine awp_ret ⟨.inr rfl, _, (ares_two (.tmp 6) (.tmp 7) rfl (ares_tmp1 (by decide)) (ares_tmp1 (by decide))), ?_⟩
        rw [hres]; unfold missE; simp only [jN, seval, vint, qD, Option.getD_none, Option.isSome_none]; try rfl

end Go.Abs
set_option maxRecDepth 4000
namespace Go.Abs
open Go.Proofs

theorem useful1 (ds : List Dm) (D : DIn ds) (c : Int) (cs : List Int) (rows : List Row) (p : Ty) (r : Row) (hin : UIn ds (c :: cs) rows (p :: r)) (k : Nat) (hrec : ∀ q ∈ cons rows, PC Try.prog 35 [.agg [.slice (ds.map Dm.enc) .none], .slice (((fieldsOf (domOf ds c) q) ++ cs).map vint) .none, .slice ((spec rows q.kind q.id (fieldsOf (domOf ds c) q).length).map rowE) .none, .slice ((List.replicate (fieldsOf (domOf ds c) q).length wildP ++ r).map Ty.enc) .none] (.bool (usefM ds k ((fieldsOf (domOf ds c) q) ++ cs) (spec rows q.kind q.id (fieldsOf (domOf ds c) q).length) (List.replicate (fieldsOf (domOf ds c) q).length wildP ++ r))))
    (H : Heap) (h0 : H[0]? = some (.row [.slice (ds.map Dm.enc) .none])) (h1 : H[1]? = some (.row [.slice ((c :: cs).map vint) .none])) (h2 : H[2]? = some (.row [.slice (rows.map rowE) .none])) (h3 : H[3]? = some (.row [.slice ((p :: r).map Ty.enc) .none])) (h4 : H[4]? = some (.row (domOf ds c).enc.cells)) (q : Ty) (hq : q ∈ cons rows) :
    ACalls Try.prog 56 [q.enc, .optr 4 0, .optr 0 0, .optr 1 0, .optr 2 0, .optr 3 0] H fun r' H' => r' = .bool (usefM ds k ((fieldsOf (domOf ds c) q) ++ cs) (spec rows q.kind q.id (fieldsOf (domOf ds c) q).length) (List.replicate (fieldsOf (domOf ds c) q).length wildP ++ r)) ∧ H' = H := by
  have em : maxLen = 9223372036854775807 := by decide
  have ap : ∀ (n : Nat) (o : AObj), H[n]? = some o → ∀ L, (H ++ L)[n]? = some o := fun n o h L => by rw [List.getElem?_append_left (len_of_get h)]; exact h
  have hdm := domOf_mem hin.m.c.head
  have hf4 := fields4 D.f hin.m.c.head q
  have hrq := hrec q hq
  obtain ⟨dm, hdme⟩ : ∃ dm, domOf ds c = dm := ⟨_, rfl⟩
  rw [hdme] at h4 hdm hf4 hrq
  rw [hdme]
  simp only [DmS, List.map_cons] at h4 h1 h3
  have a0 := ap _ _ h0
  have a1 := ap _ _ h1
  have a2 := ap _ _ h2
  have a3 := ap _ _ h3
  have a4 := ap _ _ h4
  have hdw := D.w.el dm hdm
  have hcl := hin.m.cs
  have hrn := hin.m.n
  have hfl := fields dm hdw q
  obtain ⟨fs, hfse⟩ : ∃ fs, fieldsOf dm q = fs := ⟨_, rfl⟩
  rw [hfse] at hf4 hrq hfl
  rw [hfse]
  have hrl : r.length = cs.length := by have := confL_len hin.cr; simpa using this
  have hcc := concatInt [fs, cs] (by simp [em]) (by simp; omega)
  have hss := specialize rows q.kind q.id fs.length (by omega) hin.m.heads (by omega) (fun q r h => by have := hin.m.rows D h; omega)
  have hct := concatTy [List.replicate fs.length wildP, r] (by simp [em]) (by simp; omega)
  simp only [List.flatten_cons, List.flatten_nil, List.append_nil] at hcc hct
  have g5 : ((1 : Int) ≤ ((cs.length + 1 : Nat) : Int)) = True := eq_true (by omega)
  have g9 : ((1 : Int) ≤ ((r.length + 1 : Nat) : Int)) = True := eq_true (by omega)
  have g3a : ((0 : Int) ≤ (fs.length : Int)) = True := by simp
  have g3b : ((fs.length : Int) * 40 ≤ 140737488355328) = True := eq_true (by omega)
  have g3c : ((fs.length : Int) ≤ (maxLen : Int)) = True := eq_true (by rw [em]; omega)
  refine keeps_of (N := 34) Try.func56 rfl rfl (by simp) (.bool _) fun hb' => ?_
  repeat (refine awp_seq ?_)
  refine e_eval (by simp only [jA, jO, jN, seval, y42, vint, qD, a0, a1, a2, a3, a4] <;> with_reducible rfl) (by decide) ?_
  repeat (refine awp_seq ?_)
  refine awp_region ?_
  refine e_take 2 (by simp only [jA, jO, jN, seval, y42, y48, vint, qD, a0, a1, a2, a3, a4] <;> with_reducible rfl) (by decide) ?_
  refine aops_pure (by simp only [jC, jN, seval, vint, qD, a0, a1, a2, a3, a4] <;> with_reducible rfl) (by simp only [jC, jN, seval, vint, qD, a0, a1, a2, a3, a4]) (by decide) Trygo51 (hfl _) ?_
  refine e_end (by simp only [jA, jO, jN, seval, vint, qD, a0, a1, a2, a3, a4] <;> with_reducible rfl) (by decide) ?_
  repeat (refine awp_seq ?_)
  refine dp_draw (by kernel_rfl) ?_
  refine dp_take 5 (by simp only [jP, jO, jN, seval, y3, y23, y54, y82, jS, vint, qD, a0, a1, a2, a3, a4, g5, g9, all1c, all3c, take_map, List.map_cons, List.length_cons, List.length_map, g3a, g3b, g3c, Int.le_refl, rep_wild] <;> with_reducible rfl) (by decide) ?_
  refine dp_keep (by simp only [jE, jN, seval, vint, qD, a0, a1, a2, a3, a4, g5, g9, all1c, all3c, take_map, List.map_cons, List.length_cons, List.length_map, g3a, g3b, g3c, Int.le_refl, rep_wild] <;> with_reducible rfl) (by simp only [jE, jN, seval, vint, qD, a0, a1, a2, a3, a4, g5, g9, all1c, all3c, take_map, List.map_cons, List.length_cons, List.length_map, g3a, g3b, g3c, Int.le_refl, rep_wild] <;> with_reducible rfl) (by simp only [jE, jN, seval, vint, qD, a0, a1, a2, a3, a4, g5, g9, all1c, all3c, take_map, List.map_cons, List.length_cons, List.length_map, g3a, g3b, g3c, Int.le_refl, rep_wild]) (by decide) Trygo52 (fun hc => hcc _) ?_
  refine dp_take 7 (by simp only [jP, jO, jN, seval, y3, y23, y24, y25, y42, vint, qD, a0, a1, a2, a3, a4, g5, g9, all1c, all3c, take_map, List.map_cons, List.length_cons, List.length_map, g3a, g3b, g3c, Int.le_refl, rep_wild] <;> with_reducible rfl) (by decide) ?_
  refine dp_keep (by simp only [jE, jN, seval, vint, qD, a0, a1, a2, a3, a4, g5, g9, all1c, all3c, take_map, List.map_cons, List.length_cons, List.length_map, g3a, g3b, g3c, Int.le_refl, rep_wild] <;> with_reducible rfl) (by simp only [jE, jN, seval, vint, qD, a0, a1, a2, a3, a4, g5, g9, all1c, all3c, take_map, List.map_cons, List.length_cons, List.length_map, g3a, g3b, g3c, Int.le_refl, rep_wild] <;> with_reducible rfl) (by simp only [jE, jN, seval, vint, qD, a0, a1, a2, a3, a4, g5, g9, all1c, all3c, take_map, List.map_cons, List.length_cons, List.length_map, g3a, g3b, g3c, Int.le_refl, rep_wild]) (by decide) Trygo53 (fun hc => hss _) ?_
  refine dp_take 6 (by simp only [jP, jO, jN, seval, y3, y23, y24, y25, y42, jS, vint, qD, a0, a1, a2, a3, a4, g5, g9, all1c, all3c, take_map, List.map_cons, List.length_cons, List.length_map, g3a, g3b, g3c, Int.le_refl, rep_wild] <;> with_reducible rfl) (by decide) ?_
  refine dp_keep (by simp only [jE, jN, seval, vint, qD, a0, a1, a2, a3, a4, g5, g9, all1c, all3c, take_map, List.map_cons, List.length_cons, List.length_map, g3a, g3b, g3c, Int.le_refl, rep_wild] <;> with_reducible rfl) (by simp only [jE, jN, seval, vint, qD, a0, a1, a2, a3, a4, g5, g9, all1c, all3c, take_map, List.map_cons, List.length_cons, List.length_map, g3a, g3b, g3c, Int.le_refl, rep_wild] <;> with_reducible rfl) (by simp only [jE, jN, seval, vint, qD, a0, a1, a2, a3, a4, g5, g9, all1c, all3c, take_map, List.map_cons, List.length_cons, List.length_map, g3a, g3b, g3c, Int.le_refl, rep_wild]) (by decide) Trygo54 (fun hc => hct _) ?_
  refine dp_keep (by simp only [jE, jN, seval, vint, qD, a0, a1, a2, a3, a4, g5, g9, all1c, all3c, take_map, List.map_cons, List.length_cons, List.length_map, g3a, g3b, g3c, Int.le_refl, rep_wild] <;> with_reducible rfl) (by simp only [jE, jN, seval, vint, qD, a0, a1, a2, a3, a4, g5, g9, all1c, all3c, take_map, List.map_cons, List.length_cons, List.length_map, g3a, g3b, g3c, Int.le_refl, rep_wild] <;> with_reducible rfl) (by simp only [jE, jN, seval, vint, qD, a0, a1, a2, a3, a4, g5, g9, all1c, all3c, take_map, List.map_cons, List.length_cons, List.length_map, g3a, g3b, g3c, Int.le_refl, rep_wild]) (by decide) Trygo35 (fun hc => hrq _) ?_
  refine dp_end (by simp only [jP, jO, jN, seval, vint, qD, a0, a1, a2, a3, a4, g5, g9, all1c, all3c, take_map, List.map_cons, List.length_cons, List.length_map, g3a, g3b, g3c, Int.le_refl, rep_wild] <;> with_reducible rfl) (by decide) (by repeat (first | exact Fin.base _ | with_reducible apply Fin.keep | apply Fin.drop)) ?_
  repeat (refine awp_seq ?_)
  refine awp_ret ⟨.inr rfl, _, _, rfl, ?_, (by first | exact (List.append_nil _).symm | rfl)⟩
  simp only [jN, seval, vint, qD]

theorem bel_Ty_c (n : Nat) (p : Ty) (r : List Ty) : Bel n (.slice (p.enc :: r.map Ty.enc) .none) := bel_slice_ty n (p :: r)

theorem useful_nil (ds : List Dm) (rows : List Row) (row : Row) (k : Nat) : PC Try.prog 35 [.agg [.slice (ds.map Dm.enc) .none], .slice (([]).map vint) .none, .slice ((rows).map rowE) .none, .slice ((row).map Ty.enc) .none] (.bool (usefM ds (k + 1) [] rows row)) := by
  have hm : usefM ds (k + 1) [] rows row = decide (rows = []) := rfl
  refine pc_of (N := 80) Try.func35 rfl rfl (by simp) (by simp [bel_Dm, bel_Row, bel_mE, bel_nil0, bel_nil1, bel_slice_ty]; try exact ⟨bel_ints_c _ _ _, bel_Ty_c _ _ _⟩) (.bool _) ?_
  repeat (refine awp_seq ?_)
  refine e_eval (by simp only [jA, jO, jN, seval, y3, y23, y24, y25, y42, y54, vint, qD, List.length_nil, List.map_nil] <;> with_reducible rfl) (by decide) ?_
  repeat (refine awp_seq ?_)
  refine e_eval (by simp only [jA, jO, jN, seval, y3, y23, vint, qD, List.length_nil, List.map_nil] <;> with_reducible rfl) (by decide) ?_
  repeat (refine awp_seq ?_)
  refine awp_cond_true rfl (by simp only [jN, seval, vint, qD, List.length_nil, List.map_nil] <;> with_reducible rfl) ?_
  repeat (refine awp_seq ?_)
  refine e_eval (by simp only [jA, jO, jN, seval, y3, y24, y25, vint, qD, List.length_nil, List.map_nil] <;> with_reducible rfl) (by decide) ?_
  repeat (refine awp_seq ?_)
  refine awp_ret ⟨.inr rfl, _, rfl, ?_⟩
  rw [hm]
  simp only [jN, seval, vint, qD]
  cases rows <;> simp <;> omega

theorem useful_k (ds : List Dm) (D : DIn ds) : ∀ (k : Nat) (cols : List Int) (rows : List Row) (row : Row), UIn ds cols rows row → 4 * nwR rows + 4 * nws row + cols.length < k → PC Try.prog 35 [.agg [.slice (ds.map Dm.enc) .none], .slice ((cols).map vint) .none, .slice ((rows).map rowE) .none, .slice ((row).map Ty.enc) .none] (.bool (usefM ds k cols rows row))
  | 0, cols, rows, row, _, h => by omega
  | k + 1, [], rows, row, _, _ => useful_nil ds rows row k
  | k + 1, c :: cs, rows, [], hin, _ => by have := hin.cr; simp [confL] at this
  | k + 1, c :: cs, rows, p :: r, hin, hmu => by
    have em : maxLen = 9223372036854775807 := by decide
    obtain ⟨g1, g2⟩ := ix_dom hin.m.c.head
    have hdm := domOf_mem hin.m.c.head
    have hsp := usefM_s ds k c cs rows p r
    have hU1 := useful1 ds D c cs rows p r hin k (fun q hq => useful_k ds D k _ _ _ (hin.spec1 D hq) (usef_mu1 D hin.m.c.head hmu hq))
    have hU2 := fun hk => useful_k ds D k _ _ _ (hin.spec2 D hk) (usef_mu2 D hin.m.c.head hk hmu)
    have hf4 := fields4 D.f hin.m.c.head p
    obtain ⟨dm, hdme⟩ : ∃ dm, domOf ds c = dm := ⟨_, rfl⟩
    rw [hdme] at g2 hdm hsp hf4
    simp only [hdme] at hU1 hU2
    have hdw := D.w.el dm hdm
    have hd4 : ∀ v ∈ dm.vs, v.fields.length * 40 ≤ 2 ^ 47 := fun v hv => by have := D.f dm hdm v hv; omega
    have hcl := hin.m.cs
    have hrn := hin.m.n
    have hrl : r.length = cs.length := by have := confL_len hin.cr; simpa using this
    obtain ⟨us, huse⟩ : ∃ us, cons rows = us := ⟨_, rfl⟩
    have hul : us.length ≤ 12 := by rw [← huse]; have := cons_length rows []; simp only [List.length_nil] at this; unfold cons; omega
    have hum : us.length ≤ maxLen := by omega
    have hcon := constructors rows (by omega) hin.m.heads
    have hdef := defaultRows rows (by omega) hin.m.heads (fun p r h => by have := hin.m.rows D h; omega)
    have hrec := useful_k ds D k cs _ _ (hin.default D) (usef_mu0 (ds := ds) hmu)
    have habs := absent dm hdw hd4 us (by omega)
    rw [huse] at hcon hsp hU1
    have hfl := fields dm hdw p
    obtain ⟨fs, hfse⟩ : ∃ fs, fieldsOf dm p = fs := ⟨_, rfl⟩
    rw [hfse] at hf4 hsp hfl
    simp only [hfse] at hU2
    have hp4 : p.args.length ≤ 4 := by have := hin.cr; simp only [confL, Bool.and_eq_true] at this; exact conf_args4 D hin.m.c.head this.1
    have hcc := concatInt [fs, cs] (by simp [em]) (by simp; omega)
    have hss := specialize rows p.kind p.id fs.length (by omega) hin.m.heads (by omega) (fun q r h => by have := hin.m.rows D h; omega)
    have hct := concatTy [p.args, r] (by simp [em]) (by simp; omega)
    simp only [List.flatten_cons, List.flatten_nil, List.append_nil] at hcc hct
    have g6 : ((0 : Int) < ((cs.length + 1 : Nat) : Int)) = True := eq_true (by omega)
    have g7 : ((0 : Int) < ((r.length + 1 : Nat) : Int)) = True := eq_true (by omega)
    have g5 : ((1 : Int) ≤ ((cs.length + 1 : Nat) : Int)) = True := eq_true (by omega)
    have g9 : ((1 : Int) ≤ ((r.length + 1 : Nat) : Int)) = True := eq_true (by omega)
    have hne0 : decide (((cs.length + 1 : Nat) : Int) = 0) = false := decide_eq_false (by omega)
    obtain ⟨ao, hao⟩ : ∃ ao, absentP dm us = ao := ⟨_, rfl⟩
    obtain ⟨pa, hpa⟩ : ∃ pa, ao.getD wildP = pa := ⟨_, rfl⟩
    rw [hao, hpa] at habs
    rw [hao] at hsp
    refine pc_of (N := 80) Try.func35 rfl rfl (by simp) (by simp [bel_Dm, bel_Row, bel_mE, bel_nil0, bel_nil1, bel_slice_ty]; try exact ⟨bel_ints_c _ _ _, bel_Ty_c _ _ _⟩) (.bool _) ?_
    repeat (refine awp_seq ?_)
    refine e_eval (by simp only [jA, jO, jN, seval, y3, y23, y24, y25, y42, y54, vint, qD] <;> with_reducible rfl) (by decide) ?_
    repeat (refine awp_seq ?_)
    refine e_eval (by simp only [jA, jO, jN, seval, y3, y23, vint, qD, hne0, List.length_map, List.map_cons, List.length_cons] <;> with_reducible rfl) (by decide) ?_
    repeat (refine awp_seq ?_)
    refine awp_cond_false rfl (by simp only [jN, seval, vint, qD, hne0] <;> with_reducible rfl) ?_
    repeat (refine awp_seq ?_)
    refine awp_skip ?_
    repeat (refine awp_seq ?_)
    refine x_draw 2 (n0 := 4) (by first | rfl | (simp only [List.length_append, List.length_cons, List.length_nil, Nat.reduceAdd, Nat.zero_add, g1, g2, g6, g7, List.map_cons, List.length_cons, List.length_map, List.getElem?_cons_zero, Int.toNat_zero]; done)) (by kernel_rfl) ?_
    refine x1_take 10 (by first | rfl | (simp only [List.length_append, List.length_cons, List.length_nil, Nat.reduceAdd, Nat.zero_add, g1, g2, g6, g7, List.map_cons, List.length_cons, List.length_map, List.getElem?_cons_zero, Int.toNat_zero]; done)) (by simp only [jP, jO, jN, seval, y3, y22, y23, y25, y42, y48, y54, vint, qD, g1, g2, g6, g7, List.map_cons, List.length_cons, List.length_map, List.getElem?_cons_zero, Int.toNat_zero] <;> with_reducible rfl) (by decide) (by decide) (by decide) ?_
    refine x_mid (by first | (simp only [LS, HS, List.append_assoc, List.cons_append, List.nil_append, g1, g2, g6, g7, List.map_cons, List.length_cons, List.length_map, List.getElem?_cons_zero, Int.toNat_zero] <;> with_reducible rfl) | rfl) ?_
    refine x2_end (bm := [0, 1, 0, 4, 12, 31, 63, 0, 128, 384, 0, 0, 3199, 8191]) (fresh := (4)) (by kernel_rfl) (by simp only [jX, jO, jN, seval, y42, y48, vint, qD, g1, g2, g6, g7, List.map_cons, List.length_cons, List.length_map, List.getElem?_cons_zero, Int.toNat_zero] <;> with_reducible rfl) (by decide) (by repeat (first | exact Fin.base _ | with_reducible apply Fin.keep | apply Fin.drop)) ?_
    refine awp_sel [4, 5, 6, 7, 9, 10] (by simp only [jN, seval, vint, qD] <;> with_reducible rfl) ?_
    repeat (refine awp_seq ?_)
    refine e_eval (by simp only [jA, jO, jN, seval, y3, y42, vint, qD] <;> with_reducible rfl) (by decide) ?_
    repeat (refine awp_seq ?_)
    refine awp_cond rfl (by simp only [jN, seval, vint, qD] <;> with_reducible rfl) (fun bt33 => ?_) (fun bt33 => ?_)
    ·
      have hk : p.kind ≠ 0 := by simpa using bt33
      rw [if_neg hk] at hsp
      repeat (refine awp_seq ?_)
      refine awp_region ?_
      refine e_take 2 (by simp only [jA, jO, jN, seval, y42, y48, vint, qD] <;> with_reducible rfl) (by decide) ?_
      refine aops_pure (by simp only [jC, jN, seval, vint, qD] <;> with_reducible rfl) (by simp only [jC, jN, seval, vint, qD]) (by decide) Trygo51 (hfl _) ?_
      refine e_end (by simp only [jA, jO, jN, seval, vint, qD] <;> with_reducible rfl) (by decide) ?_
      repeat (refine awp_seq ?_)
      refine dp_draw (by kernel_rfl) ?_
      refine dp_take 5 (by simp only [jP, jO, jN, seval, y3, y23, y54, y82, jS, vint, qD, g5, g9, all1c, all3c, take_map, List.map_cons, List.length_cons, List.length_map] <;> with_reducible rfl) (by decide) ?_
      refine dp_keep (by simp only [jE, jN, seval, vint, qD, g5, g9, all1c, all3c, take_map, List.map_cons, List.length_cons, List.length_map] <;> with_reducible rfl) (by simp only [jE, jN, seval, vint, qD, g5, g9, all1c, all3c, take_map, List.map_cons, List.length_cons, List.length_map] <;> with_reducible rfl) (by simp only [jE, jN, seval, vint, qD, g5, g9, all1c, all3c, take_map, List.map_cons, List.length_cons, List.length_map]) (by decide) Trygo52 (fun hc => hcc _) ?_
      refine dp_take 7 (by simp only [jP, jO, jN, seval, y3, y23, y24, y25, y42, vint, qD, g5, g9, all1c, all3c, take_map, List.map_cons, List.length_cons, List.length_map] <;> with_reducible rfl) (by decide) ?_
      refine dp_keep (by simp only [jE, jN, seval, vint, qD, g5, g9, all1c, all3c, take_map, List.map_cons, List.length_cons, List.length_map] <;> with_reducible rfl) (by simp only [jE, jN, seval, vint, qD, g5, g9, all1c, all3c, take_map, List.map_cons, List.length_cons, List.length_map] <;> with_reducible rfl) (by simp only [jE, jN, seval, vint, qD, g5, g9, all1c, all3c, take_map, List.map_cons, List.length_cons, List.length_map]) (by decide) Trygo53 (fun hc => hss _) ?_
      refine dp_take 5 (by simp only [jP, jO, jN, seval, y24, y25, y42, jS, vint, qD, g5, g9, all1c, all3c, take_map, List.map_cons, List.length_cons, List.length_map] <;> with_reducible rfl) (by decide) ?_
      refine dp_keep (by simp only [jE, jN, seval, vint, qD, g5, g9, all1c, all3c, take_map, List.map_cons, List.length_cons, List.length_map] <;> with_reducible rfl) (by simp only [jE, jN, seval, vint, qD, g5, g9, all1c, all3c, take_map, List.map_cons, List.length_cons, List.length_map] <;> with_reducible rfl) (by simp only [jE, jN, seval, vint, qD, g5, g9, all1c, all3c, take_map, List.map_cons, List.length_cons, List.length_map]) (by decide) Trygo54 (fun hc => hct _) ?_
      refine dp_keep (by simp only [jE, jN, seval, vint, qD, g5, g9, all1c, all3c, take_map, List.map_cons, List.length_cons, List.length_map] <;> with_reducible rfl) (by simp only [jE, jN, seval, vint, qD, g5, g9, all1c, all3c, take_map, List.map_cons, List.length_cons, List.length_map] <;> with_reducible rfl) (by simp only [jE, jN, seval, vint, qD, g5, g9, all1c, all3c, take_map, List.map_cons, List.length_cons, List.length_map]) (by decide) Trygo35 (fun hc => hU2 hk _) ?_
      refine dp_end (by simp only [jP, jO, jN, seval, vint, qD, g5, g9, all1c, all3c, take_map, List.map_cons, List.length_cons, List.length_map] <;> with_reducible rfl) (by decide) (by repeat (first | exact Fin.base _ | with_reducible apply Fin.keep | apply Fin.drop)) ?_
      repeat (refine awp_seq ?_)
      refine awp_ret ⟨.inr rfl, _, rfl, ?_⟩
      rw [hsp]
      simp only [jN, seval, vint, qD]
    ·
      have hk : p.kind = 0 := by simpa using bt33
      rw [if_pos hk] at hsp
      repeat (refine awp_seq ?_)
      refine awp_skip ?_
      repeat (refine awp_seq ?_)
      refine awp_region ?_
      refine e_take 1 (by simp only [jA, jO, jN, seval, y24, y25, vint, qD] <;> with_reducible rfl) (by decide) ?_
      refine aops_pure (by simp only [jC, jN, seval, vint, qD] <;> with_reducible rfl) (by simp only [jC, jN, seval, vint, qD]) (by decide) Trygo48 (hcon _) ?_
      refine e_end (by simp only [jA, jO, jN, seval, vint, qD] <;> with_reducible rfl) (by decide) ?_
      repeat (refine awp_seq ?_)
      refine awp_region ?_
      refine e_take 2 (by simp only [jA, jO, jN, seval, y48, vint, qD] <;> with_reducible rfl) (by decide) ?_
      refine aops_pure (by simp only [jC, jN, seval, vint, qD] <;> with_reducible rfl) (by simp only [jC, jN, seval, vint, qD]) (by decide) Trygo49 (habs _) ?_
      refine e_end (by simp only [jA, jO, jN, seval, y42, vint, qD] <;> with_reducible rfl) (by decide) ?_
      repeat (refine awp_seq ?_)
      refine dp_draw (by kernel_rfl) ?_
      refine dp_take 6 (by simp only [jP, jO, jN, seval, y3, y23, y24, y25, y54, jS, vint, qD, g5, g9, all1c, all3c, take_map, List.map_cons, List.length_cons, List.length_map] <;> with_reducible rfl) (by decide) ?_
      refine dp_keep (by simp only [jE, jN, seval, vint, qD, g5, g9, all1c, all3c, take_map, List.map_cons, List.length_cons, List.length_map] <;> with_reducible rfl) (by simp only [jE, jN, seval, vint, qD, g5, g9, all1c, all3c, take_map, List.map_cons, List.length_cons, List.length_map] <;> with_reducible rfl) (by simp only [jE, jN, seval, vint, qD, g5, g9, all1c, all3c, take_map, List.map_cons, List.length_cons, List.length_map]) (by decide) Trygo50 (fun hc => hdef _) ?_
      refine dp_take 2 (by simp only [jP, jO, jN, seval, y25, y42, jS, vint, qD, g5, g9, all1c, all3c, take_map, List.map_cons, List.length_cons, List.length_map] <;> with_reducible rfl) (by decide) ?_
      refine dp_keep (by simp only [jE, jN, seval, vint, qD, g5, g9, all1c, all3c, take_map, List.map_cons, List.length_cons, List.length_map] <;> with_reducible rfl) (by simp only [jE, jN, seval, vint, qD, g5, g9, all1c, all3c, take_map, List.map_cons, List.length_cons, List.length_map] <;> with_reducible rfl) (by simp only [jE, jN, seval, vint, qD, g5, g9, all1c, all3c, take_map, List.map_cons, List.length_cons, List.length_map]) (by decide) Trygo35 (fun hc => hrec _) ?_
      refine dp_end (by simp only [jP, jO, jN, seval, vint, qD, g5, g9, all1c, all3c, take_map, List.map_cons, List.length_cons, List.length_map] <;> with_reducible rfl) (by decide) (by repeat (first | exact Fin.base _ | with_reducible apply Fin.keep | apply Fin.drop)) ?_
      repeat (refine awp_seq ?_)
      refine awp_cond rfl (by simp only [jN, seval, vint, qD] <;> with_reducible rfl) (fun bt76 => ?_) (fun bt76 => ?_)
      ·
        rw [bt76, Bool.true_or] at hsp
        refine awp_sel [] (by simp only [jN, seval, vint, qD] <;> with_reducible rfl) ?_
        repeat (refine awp_seq ?_)
        refine e_eval (by simp only [jA, jO, jN, seval, vint, qD] <;> with_reducible rfl) (by decide) ?_
        repeat (refine awp_seq ?_)
        refine awp_ret ⟨.inr rfl, _, rfl, ?_⟩
        rw [hsp]
        simp only [jN, seval, vint, qD]
      ·
        rw [bt76, Bool.false_or] at hsp
        repeat (refine awp_seq ?_)
        refine awp_skip ?_
        refine awp_sel [4, 5, 6, 7, 9, 12] (by simp only [jN, seval, vint, qD] <;> with_reducible rfl) ?_
        repeat (refine awp_seq ?_)
        refine awp_region ?_
        refine e_take 2 (by simp only [jA, jO, jN, seval, vint, qD] <;> with_reducible rfl) (by decide) ?_
        refine aops_pure (by simp only [jC, jN, seval, vint, qD] <;> with_reducible rfl) (by simp only [jC, jN, seval, vint, qD]) (by decide) Trygo55 (containsFuncTy ⟨Trygo56, by simp [Bel.optr], fun u hu => hU1 _ rfl rfl rfl rfl (by simp only [DmS]; rfl) u hu⟩ hum) ?_
        refine e_end (by simp only [jA, jO, jN, seval, vint, qD] <;> with_reducible rfl) (by decide) ?_
        repeat (refine awp_seq ?_)
        refine awp_ret ⟨.inr rfl, _, rfl, ?_⟩
        rw [hsp]
        simp only [jN, seval, vint, qD]

end Go.Abs
namespace Go.Abs
/-- What 'Missing' answers. -/
def missF (ds : List Dm) (cols : List Int) (rows : List Row) : Option Row := if validM ds cols rows = 0 then missM ds (muM cols rows + 1) cols rows else none
def useF (ds : List Dm) (cols : List Int) (rows : List Row) (row : Row) : Bool := usefM ds (4 * nwR rows + 4 * nws row + cols.length + 1) cols rows row
/-- What 'Redundant' answers. -/
def redI (ds : List Dm) (cols : List Int) (rows : List Row) (n : Nat) : List Nat := (List.range n).filter fun i => !useF ds cols (rows.take i) (rows.getD i [])
def redF (ds : List Dm) (cols : List Int) (rows : List Row) : List Nat := if validM ds cols rows = 0 then redI ds cols rows rows.length else []
structure XIn (ds : List Dm) (cols : List Int) (rows : List Row) : Prop where
  w : DsW ds
  c : cols.length ≤ maxLen
  r : RowsW rows
  b : nwR rows ≤ 2 ^ 22
theorem XIn.min {ds : List Dm} {cols : List Int} {rows : List Row} (h : XIn ds cols rows) (hv : validM ds cols rows = 0) : DIn ds ∧ MIn ds cols rows := by
  have m := valid_ok hv
  refine ⟨⟨h.w, m.d, m.u, m.f⟩, m.c, m.r, fun r hr => (h.r.el r hr).2, m.nr, ?_⟩
  have := m.nc
  have := h.b
  unfold muM; omega
theorem nws_le_R {rows : List Row} {r : Row} (h : r ∈ rows) : nws r ≤ nwR rows := by
  induction rows with
  | nil => cases h
  | cons s rows ih =>
    simp only [nwR, List.map_cons, List.sum_cons] at ih ⊢
    rcases List.mem_cons.1 h with rfl | h
    · omega
    · have := ih h; omega
theorem nwR_take (rows : List Row) (i : Nat) : nwR (rows.take i) ≤ nwR rows := sum_take_le nws rows i
theorem XIn.uin {ds : List Dm} {cols : List Int} {rows : List Row} (h : XIn ds cols rows) (hv : validM ds cols rows = 0) {i : Nat} (hi : i < rows.length) : UIn ds cols (rows.take i) rows[i] := by
  have m := valid_ok hv
  obtain ⟨D, M⟩ := h.min hv
  have hm : rows[i] ∈ rows := List.getElem_mem hi
  have h1 := nwR_take rows i
  have h2 := nws_le_R hm
  have h3 := h.b
  have h4 := m.nc
  refine ⟨⟨M.c, fun r hr => M.r r (List.mem_of_mem_take hr), fun r hr => M.w r (List.mem_of_mem_take hr), by rw [List.length_take]; have := M.n; omega, by unfold muM; omega⟩, M.r _ hm, M.w _ hm, by omega⟩
theorem redI_succ {ds : List Dm} {cols : List Int} {rows : List Row} {i : Nat} : redI ds cols rows (i + 1) = redI ds cols rows i ++ (if useF ds cols (rows.take i) (rows.getD i []) then [] else [i]) := by
  unfold redI
  rw [List.range_succ, List.filter_append]
  congr 1
  cases h : useF ds cols (rows.take i) (rows.getD i []) <;> simp only [List.filter_cons, h, Bool.not_true, Bool.not_false, Bool.false_eq_true, if_true, if_false, List.filter_nil]
theorem redI_len (ds : List Dm) (cols : List Int) (rows : List Row) (n : Nat) : (redI ds cols rows n).length ≤ n := by
  have := List.length_filter_le (fun i => !useF ds cols (rows.take i) (rows.getD i [])) (List.range n)
  simpa [redI] using this
def listD : List Dm := [⟨1, [⟨5, []⟩, ⟨6, [1, 0]⟩]⟩, ⟨3, []⟩, ⟨2, []⟩]
def rows0 : List Row := [[.mk 1 5 []], [.mk 1 6 [.mk 3 1 [], .mk 0 0 []]]]
def rows1 : List Row := [[.mk 1 5 []], [.mk 1 6 [.mk 3 1 [], .mk 0 0 []]], [.mk 0 0 []], [.mk 1 5 []]]
theorem pcT_mk (k i : Int) (us : List Ty) : pcT (.mk k i us) = pcL (us.map pcT) 1 := pcT_eq _
theorem vv0 : (listD.any fun d => !vvar listD d) = false := by decide
theorem valid0 : validM listD [0] rows0 = 0 := by
  unfold validM
  rw [vv0, show bigM listD [0] rows0 = false from by decide, show ([(0 : Int)].any fun c => !okIx listD c) = false from by decide]
  simp [rows0, rowOk, confL, confP_mk, listD, domOf, findV, pcT_mk, pcL, IntKind.wrap, IntKind.bits, IntKind.signed]
theorem valid1 : validM listD [0] rows1 = 0 := by
  unfold validM
  rw [vv0, show bigM listD [0] rows1 = false from by decide, show ([(0 : Int)].any fun c => !okIx listD c) = false from by decide]
  simp [rows1, rowOk, confL, confP_mk, listD, domOf, findV, pcT_mk, pcL, IntKind.wrap, IntKind.bits, IntKind.signed]
theorem miss0 : missF listD [0] rows0 = some [.mk 1 6 [.mk 3 0 [], .mk 0 0 []]] := by
  unfold missF; rw [if_pos valid0]; rfl
theorem miss1 : missF listD [0] rows1 = none := by
  unfold missF; rw [if_pos valid1]; rfl
theorem red1 : redF listD [0] rows1 = [3] := by
  unfold redF; rw [if_pos valid1]; rfl
theorem listD_W : DsW listD := ⟨by simp [listD], fun d hd => by
  simp only [listD, List.mem_cons, List.not_mem_nil, or_false] at hd
  rcases hd with rfl | rfl | rfl <;> simp [Dm.W, Dv.W]⟩
theorem xin0 : XIn listD [0] rows0 := ⟨listD_W, by decide, ⟨by simp [rows0], fun r hr => by
  simp only [rows0, List.mem_cons, List.not_mem_nil, or_false] at hr
  rcases hr with rfl | rfl <;> simp [Ty.W_iff]⟩, by decide⟩
theorem xin1 : XIn listD [0] rows1 := ⟨listD_W, by decide, ⟨by simp [rows1], fun r hr => by
  simp only [rows1, List.mem_cons, List.not_mem_nil, or_false] at hr
  rcases hr with rfl | rfl | rfl | rfl <;> simp [Ty.W_iff]⟩, by decide⟩
end Go.Abs
set_option maxRecDepth 4000
namespace Go.Abs
open Go.Proofs

theorem missing_c (ds : List Dm) (cols : List Int) (rows : List Row) (hx : XIn ds cols rows) : PC Try.prog 12 [.slice (ds.map Dm.enc) .none, .slice (cols.map vint) .none, .slice (rows.map rowE) .none] (missE (missF ds cols rows)) := by
  have hv := validate ds cols rows hx.w hx.c hx.r
  refine pc_of (N := 20) Try.func12 rfl rfl (by simp) (by simp [Ty.bel, bel_slice_ty, bel_ints0, bel_Dv, bel_Dm, Dv.bel, Dm.bel, bel_Row, Bel.int, bel_mE]) (bel_missE _ _) ?_
  repeat (refine awp_seq ?_)
  refine e_eval (by simp only [jA, jO, jN, seval, vint, qD] <;> with_reducible rfl) (by decide) ?_
  repeat (refine awp_seq ?_)
  refine awp_region ?_
  refine e_take 3 (by simp only [jA, jO, jN, seval, vint, qD] <;> with_reducible rfl) (by decide) ?_
  refine aops_pure (by simp only [jC, jN, seval, vint, qD] <;> with_reducible rfl) (by simp only [jC, jN, seval, vint, qD]) (by decide) Trygo10 (hv _) ?_
  refine e_end (by simp only [jA, jO, jN, seval, y28, vint, qD] <;> with_reducible rfl) (by decide) ?_
  repeat (refine awp_seq ?_)
  refine awp_cond rfl (by simp only [jN, seval, vint, qD] <;> with_reducible rfl) (fun bt12 => ?_) (fun bt12 => ?_)
  ·
    have h0 : ¬ validM ds cols rows = 0 := by simpa using bt12
    have hf : missF ds cols rows = none := by unfold missF; rw [if_neg h0]
    repeat (refine awp_seq ?_)
    refine e_eval (by simp only [jA, jO, jN, seval, vint, qD] <;> with_reducible rfl) (by decide) ?_
    repeat (refine awp_seq ?_)
    refine awp_ret ⟨.inr rfl, _, (ares_two (.tmp 6) (.tmp 7) rfl (ares_tmp1 (by decide)) (ares_tmp1 (by decide))), ?_⟩
    rw [hf]; unfold missE; simp only [jN, seval, vint, qD, Option.getD_none, Option.isSome_none]; try rfl
  ·
    have h0 : validM ds cols rows = 0 := by simpa using bt12
    obtain ⟨D, M⟩ := hx.min h0
    have hm := missing_k ds D _ cols rows M (Nat.lt_succ_self _)
    have hf : missF ds cols rows = missM ds (muM cols rows + 1) cols rows := by unfold missF; rw [if_pos h0]
    rw [← hf] at hm
    unfold missE at hm ⊢
    repeat (refine awp_seq ?_)
    refine awp_skip ?_
    repeat (refine awp_seq ?_)
    refine awp_region ?_
    refine e_take 4 (by simp only [jA, jO, jN, seval, y54, vint, qD] <;> with_reducible rfl) (by decide) ?_
    refine aops_pure (by simp only [jC, jN, seval, vint, qD] <;> with_reducible rfl) (by simp only [jC, jN, seval, vint, qD]) (by decide) Trygo34 (hm _) ?_
    refine e_end (by simp only [jA, jO, jN, seval, vint, qD] <;> with_reducible rfl) (by decide) ?_
    repeat (refine awp_seq ?_)
    refine awp_ret ⟨.inr rfl, _, (ares_two (.tmp 6) (.tmp 7) rfl (ares_tmp1 (by decide)) (ares_tmp1 (by decide))), ?_⟩
    simp only [jN, seval, vint, qD]

theorem redundant_c (ds : List Dm) (cols : List Int) (rows : List Row) (hx : XIn ds cols rows) : PC Try.prog 13 [.slice (ds.map Dm.enc) .none, .slice (cols.map vint) .none, .slice (rows.map rowE) .none] (.slice ((redF ds cols rows).map fun i : Nat => PV.int .i64 (i : Int)) .none) := by
  have em : maxLen = 9223372036854775807 := by decide
  have hv := validate ds cols rows hx.w hx.c hx.r
  refine pc_of (N := 39) Try.func13 rfl rfl (by simp) (by simp [Ty.bel, bel_slice_ty, bel_ints0, bel_Dv, bel_Dm, Dv.bel, Dm.bel, bel_Row, Bel.int, bel_mE]) (bel_nats _ _) ?_
  repeat (refine awp_seq ?_)
  refine e_eval (by simp only [jA, jO, jN, seval, vint, qD] <;> with_reducible rfl) (by decide) ?_
  repeat (refine awp_seq ?_)
  refine awp_region ?_
  refine e_take 3 (by simp only [jA, jO, jN, seval, vint, qD] <;> with_reducible rfl) (by decide) ?_
  refine aops_pure (by simp only [jC, jN, seval, vint, qD] <;> with_reducible rfl) (by simp only [jC, jN, seval, vint, qD]) (by decide) Trygo10 (hv _) ?_
  refine e_end (by simp only [jA, jO, jN, seval, y28, vint, qD] <;> with_reducible rfl) (by decide) ?_
  repeat (refine awp_seq ?_)
  refine awp_cond rfl (by simp only [jN, seval, vint, qD] <;> with_reducible rfl) (fun bt15 => ?_) (fun bt15 => ?_)
  ·
    have h0 : ¬ validM ds cols rows = 0 := by simpa using bt15
    have hf : redF ds cols rows = [] := by unfold redF; rw [if_neg h0]
    repeat (refine awp_seq ?_)
    refine e_eval (by simp only [jA, jO, jN, seval, vint, qD] <;> with_reducible rfl) (by decide) ?_
    repeat (refine awp_seq ?_)
    refine awp_ret ⟨.inr rfl, _, rfl, ?_⟩
    rw [hf]; simp only [jN, seval, vint, qD]
  ·
    have h0 : validM ds cols rows = 0 := by simpa using bt15
    obtain ⟨D, M⟩ := hx.min h0
    have hf : redF ds cols rows = redI ds cols rows rows.length := by unfold redF; rw [if_pos h0]
    have hrn := M.n
    repeat (refine awp_seq ?_)
    refine awp_skip ?_
    repeat (refine awp_seq ?_)
    refine e_eval (by simp only [jA, jO, jN, seval, y54, vint, qD] <;> with_reducible rfl) (by decide) ?_
    repeat (refine awp_seq ?_)
    refine e_eval (by simp only [jA, jO, jN, seval, vint, qD] <;> with_reducible rfl) (by decide) ?_
    repeat (refine awp_seq ?_)
    refine e_eval (by simp only [jA, jO, jN, seval, y24, y25, vint, qD] <;> with_reducible rfl) (by decide) ?_
    repeat (refine awp_seq ?_)
    refine awp_retok 8 1 (es := []) (by simp only [jC, jN, seval, vint, qD] <;> rfl) ?_
    refine awp_forS (σ := List Nat) (rows.length) (fun (q : List Nat) => [(1, .slice (cols.map vint) .none), (2, .slice (rows.map rowE) .none), (7, .optr 0 0), (8, .slice (q.map fun i : Nat => PV.int .i64 (i : Int)) (.tok 1)), (18, .slice (rows.map rowE) .none)]) [1, 2, 7, 8, 18] ([]) (fun (q : List Nat) => [.row [.slice (ds.map Dm.enc) .none], .buf q.length 1]) (fun (i : Nat) (q : List Nat) => q = redI ds cols rows i) ([]) (_) rfl rfl rfl rfl rfl rfl rfl rfl rfl (by decide) (by decide) (by decide) (fun _ => rfl) ((by omega)) ⟨(by first | rfl | (simp only [jN, seval, vint, qD] <;> first | done | with_reducible rfl)), (by first | rfl | (simp only [jN, seval, vint, qD] <;> first | done | with_reducible rfl)), (by first | rfl | (simp only [jN, seval, vint, qD] <;> first | done | with_reducible rfl)), (by first | rfl | (simp only [jN, seval, vint, qD] <;> first | done | with_reducible rfl)), (by first | rfl | (simp only [jN, seval, vint, qD] <;> first | done | with_reducible rfl)), (by first | rfl | (simp only [jN, seval, vint, qD] <;> first | done | with_reducible rfl)), (by first | rfl | (simp only [jN, seval, vint, qD] <;> first | done | with_reducible rfl)), trivial⟩ (by first | rfl | (simp only [jN, seval, vint, qD] <;> first | done | with_reducible rfl)) (by simp [redI]) (fun _ _ _ => by first | exact Nat.zero_le _ | (simp only [List.length_append]; omega)) ?_ ?_ ?_
    · exact fun i q hg => ⟨by simp only [List.nil_append]; repeat (first | exact hbel_nil _ | exact trivial | exact obel_row_nil _ | (refine HBel.cons ?_ ?_) | (refine obel_row_cons (by first | exact bel_nilfull _ | exact bel_Ty_tok _ (by simp) | exact bel_Int _ _ | exact bel_ints_c _ _ _ | exact bel_ints0 _ _ | exact bel_slice_ty _ _ | exact Ty.bel _ _ | exact bel_ty_tok _ (by simp) | exact bel_Dv _ _ | exact Dv.bel _ _ | exact bel_Dm _ _ | exact Dm.bel _ _ | exact bel_Row _ _ | exact bel_mE _ _ | exact bel_iptr _ _ | exact bel_iptr2 _ _ _ | exact bel_Row_tok _ (by simp) | exact Bel.int _ _ | exact Bel.bool _ | exact Bel.str _ | exact Bel.nilp | exact Bel.nilfn | exact Bel.optr _ _ (by simp) | exact bel_nil0 _ | exact bel_nil1 _ | exact bel_fn0 _ _ | assumption) ?_)), .cons (bel_ints0 _ _) (.cons (bel_Row _ _) (.cons (.optr _ _ (by simp)) (.cons (bel_nats_tok _ (by simp)) (.cons (bel_Row _ _) .nil))))⟩
    · intro i q hi hg
      have g1 := ix_nat hi
      have g2 := get_enc rowE hi
      have hu := hx.uin h0 hi
      have hst := redI_succ (ds := ds) (cols := cols) (rows := rows) (i := i)
      have hgd : rows.getD i [] = rows[i] := by rw [List.getD_eq_getElem?_getD, List.getElem?_eq_getElem hi]; rfl
      rw [hgd] at hst
      have hql : q.length ≤ i := by rw [hg]; exact redI_len ..
      obtain ⟨r, hre⟩ : ∃ r, rows[i] = r := ⟨_, rfl⟩
      rw [hre] at g2 hu hst
      have huk := useful_k ds D _ cols _ r hu (Nat.lt_succ_self _)
      have huf : usefM ds (4 * nwR (rows.take i) + 4 * nws r + cols.length).succ cols (rows.take i) r = useF ds cols (rows.take i) r := rfl
      rw [huf] at huk
      have happ := app_nat (us := q) (u := i) (id := 1) (tl := .full) (by omega)
      have g3 : ((0 : Int) ≤ i ∧ (i : Int) ≤ rows.length) = True := by simp; omega
      have g4 : (∀ e ∈ rows.map rowE, e.cells.length = 1) = True := eq_true fun e he => by obtain ⟨u, _, rfl⟩ := List.mem_map.1 he; rfl
      have hne : ¬ i = rows.length := by omega
      repeat (refine awp_seq ?_)
      refine e_eval (by simp only [jA, jO, jN, seval, y24, y25, y42, vint, qD, g1, g2, Int.toNat_natCast] <;> with_reducible rfl) (by decide) ?_
      repeat (refine awp_seq ?_)
      refine dp_draw (by kernel_rfl) ?_
      refine dp_take 6 (by simp only [jP, jO, jN, seval, y24, y25, y54, jS, vint, qD, g1, g2, Int.toNat_natCast, g3, g4, hne, tk_map, false_and, ite_false, List.drop_zero] <;> with_reducible rfl) (by decide) ?_
      refine dp_keep (by simp only [jE, jN, seval, vint, qD, g1, g2, Int.toNat_natCast, g3, g4, hne, tk_map, false_and, ite_false, List.drop_zero] <;> with_reducible rfl) (by simp only [jE, jN, seval, vint, qD, g1, g2, Int.toNat_natCast, g3, g4, hne, tk_map, false_and, ite_false, List.drop_zero] <;> with_reducible rfl) (by simp only [jE, jN, seval, vint, qD, g1, g2, Int.toNat_natCast, g3, g4, hne, tk_map, false_and, ite_false, List.drop_zero]) (by decide) Trygo35 (fun hc => huk _) ?_
      refine dp_end (by simp only [jP, jO, jN, seval, vint, qD, g1, g2, Int.toNat_natCast, g3, g4, hne, tk_map, false_and, ite_false, List.drop_zero] <;> with_reducible rfl) (by decide) (by repeat (first | exact Fin.base _ | with_reducible apply Fin.keep | apply Fin.drop)) ?_
      repeat (refine awp_seq ?_)
      refine awp_cond rfl (by simp only [jN, seval, vint, qD, g1, g2, Int.toNat_natCast] <;> with_reducible rfl) (fun bt32 => ?_) (fun bt32 => ?_)
      ·
        have hu0 : useF ds cols (rows.take i) r = false := by simpa using bt32
        rw [hu0, if_neg (by simp), ← hg] at hst
        repeat (refine awp_seq ?_)
        refine e_eval (by simp only [jA, jO, jN, seval, y3, y23, vint, qD, g1, g2, Int.toNat_natCast, happ] <;> with_reducible rfl) (by decide) ?_
        exact ⟨⟨rfl, rfl, trivial⟩, q ++ [i], _, ⟨rfl, rfl, rfl, rfl, rfl, trivial⟩, by simp only [jN, seval, vint, qD, List.length_append, List.length_singleton] <;> rfl, hst.symm⟩
      ·
        have hu0 : useF ds cols (rows.take i) r = true := by simpa using bt32
        rw [hu0, if_pos rfl, ← hg, List.append_nil] at hst
        repeat (refine awp_seq ?_)
        refine awp_skip ?_
        exact ⟨⟨rfl, rfl, trivial⟩, q, _, ⟨rfl, rfl, rfl, rfl, rfl, trivial⟩, by simp only [jN, seval, vint, qD] <;> rfl, hst.symm⟩
    · intro q hg
      have hres := hf.trans hg.symm
      repeat (refine awp_seq ?_)
      refine e_eval (by simp only [jA, jO, jN, seval, vint, qD] <;> with_reducible rfl) (by decide) ?_
      repeat (refine awp_seq ?_)
      refine awp_ret ⟨.inr rfl, _, rfl, ?_⟩
      rw [hf, ← hg]; rfl

theorem patternK (k i : Int) (us : List Ty) : PC Try.prog 21 [vint k, vint i, .slice (us.map Ty.enc) .none] (Ty.mk k i us).enc := by
  refine pc_of (N := 11) Try.func21 rfl rfl (by simp) (by simp [Ty.bel, bel_slice_ty, bel_ints0, bel_Dv, bel_Dm, Dv.bel, Dm.bel, bel_Row, Bel.int, bel_mE]) (Ty.bel _ _) ?_
  repeat (refine awp_seq ?_)
  refine e_eval (by simp only [jA, jO, jN, seval, y42, vint, qD] <;> with_reducible rfl) (by decide) ?_
  repeat (refine awp_seq ?_)
  refine e_eval (by simp only [jA, jO, jN, seval, y42, vint, qD] <;> with_reducible rfl) (by decide) ?_
  repeat (refine awp_seq ?_)
  refine awp_ret ⟨.inr rfl, _, (ares_cell 6 42 rfl Tryti42 (by decide) (by simp only [jL, jN, seval, vint, qD] <;> with_reducible rfl)), ?_⟩
  simp only [jN, seval, vint, qD]

theorem pattern0K (k i : Int) : PC Try.prog 21 [vint k, vint i, .slice [] .none] (Ty.mk k i []).enc := by
  refine pc_of (N := 11) Try.func21 rfl rfl (by simp) (by simp [bel_nil1, Ty.bel, bel_slice_ty, bel_ints0, bel_Dv, bel_Dm, Dv.bel, Dm.bel, bel_Row, Bel.int, bel_mE]) (Ty.bel _ _) ?_
  repeat (refine awp_seq ?_)
  refine e_eval (by simp only [jA, jO, jN, seval, y42, vint, qD] <;> with_reducible rfl) (by decide) ?_
  repeat (refine awp_seq ?_)
  refine e_eval (by simp only [jA, jO, jN, seval, y42, vint, qD] <;> with_reducible rfl) (by decide) ?_
  repeat (refine awp_seq ?_)
  refine awp_ret ⟨.inr rfl, _, (ares_cell 6 42 rfl Tryti42 (by decide) (by simp only [jL, jN, seval, vint, qD] <;> with_reducible rfl)), ?_⟩
  simp only [jN, seval, vint, qD]

theorem listDomainsK : PC Try.prog 22 [] (.slice (listD.map Dm.enc) .none) := by
  refine pc_of (N := 9) Try.func22 rfl rfl (by simp) (by simp [Ty.bel, bel_slice_ty, bel_ints0, bel_Dv, bel_Dm, Dv.bel, Dm.bel, bel_Row, Bel.int, bel_mE]) (bel_Dm _ _) ?_
  repeat (refine awp_seq ?_)
  refine e_eval (by simp only [jA, jO, jN, seval, vint, qD] <;> with_reducible rfl) (by decide) ?_
  repeat (refine awp_seq ?_)
  refine e_eval (by simp only [jA, jO, jN, seval, y3, y22, y23, y46, y48, y51, vint, qD] <;> with_reducible rfl) (by decide) ?_
  repeat (refine awp_seq ?_)
  refine awp_ret ⟨.inr rfl, _, rfl, ?_⟩
  rfl

theorem patternL (k i : Int) (us : List Ty) : PC Try.prog 40 [vint k, vint i, .slice (us.map Ty.enc) .none] (Ty.mk k i us).enc := by
  refine pc_of (N := 11) Try.func40 rfl rfl (by simp) (by simp [Ty.bel, bel_slice_ty, bel_ints0, bel_Dv, bel_Dm, Dv.bel, Dm.bel, bel_Row, Bel.int, bel_mE]) (Ty.bel _ _) ?_
  repeat (refine awp_seq ?_)
  refine e_eval (by simp only [jA, jO, jN, seval, y42, vint, qD] <;> with_reducible rfl) (by decide) ?_
  repeat (refine awp_seq ?_)
  refine e_eval (by simp only [jA, jO, jN, seval, y42, vint, qD] <;> with_reducible rfl) (by decide) ?_
  repeat (refine awp_seq ?_)
  refine awp_ret ⟨.inr rfl, _, (ares_cell 6 42 rfl Tryti42 (by decide) (by simp only [jL, jN, seval, vint, qD] <;> with_reducible rfl)), ?_⟩
  simp only [jN, seval, vint, qD]

theorem pattern0L (k i : Int) : PC Try.prog 40 [vint k, vint i, .slice [] .none] (Ty.mk k i []).enc := by
  refine pc_of (N := 11) Try.func40 rfl rfl (by simp) (by simp [bel_nil1, Ty.bel, bel_slice_ty, bel_ints0, bel_Dv, bel_Dm, Dv.bel, Dm.bel, bel_Row, Bel.int, bel_mE]) (Ty.bel _ _) ?_
  repeat (refine awp_seq ?_)
  refine e_eval (by simp only [jA, jO, jN, seval, y42, vint, qD] <;> with_reducible rfl) (by decide) ?_
  repeat (refine awp_seq ?_)
  refine e_eval (by simp only [jA, jO, jN, seval, y42, vint, qD] <;> with_reducible rfl) (by decide) ?_
  repeat (refine awp_seq ?_)
  refine awp_ret ⟨.inr rfl, _, (ares_cell 6 42 rfl Tryti42 (by decide) (by simp only [jL, jN, seval, vint, qD] <;> with_reducible rfl)), ?_⟩
  simp only [jN, seval, vint, qD]

theorem listDomainsL : PC Try.prog 41 [] (.slice (listD.map Dm.enc) .none) := by
  refine pc_of (N := 9) Try.func41 rfl rfl (by simp) (by simp [Ty.bel, bel_slice_ty, bel_ints0, bel_Dv, bel_Dm, Dv.bel, Dm.bel, bel_Row, Bel.int, bel_mE]) (bel_Dm _ _) ?_
  repeat (refine awp_seq ?_)
  refine e_eval (by simp only [jA, jO, jN, seval, vint, qD] <;> with_reducible rfl) (by decide) ?_
  repeat (refine awp_seq ?_)
  refine e_eval (by simp only [jA, jO, jN, seval, y3, y22, y23, y46, y48, y51, vint, qD] <;> with_reducible rfl) (by decide) ?_
  repeat (refine awp_seq ?_)
  refine awp_ret ⟨.inr rfl, _, rfl, ?_⟩
  rfl

theorem equalInt (us vs : List Int) (ha : us.length ≤ maxLen) : PC Try.prog 23 [.slice (us.map vint) .none, .slice (vs.map vint) .none] (.bool (decide (us = vs))) := by
  refine pc_of (N := 26) Try.func23 rfl rfl (by simp) (by simp [Ty.bel, bel_slice_ty, bel_ints0, bel_Dv, bel_Dm, Dv.bel, Dm.bel, bel_Row, Bel.int, bel_mE]) (.bool _) ?_
  repeat (refine awp_seq ?_)
  refine e_eval (by simp only [jA, jO, jN, seval, vint, qD] <;> with_reducible rfl) (by decide) ?_
  repeat (refine awp_seq ?_)
  refine e_eval (by simp only [jA, jO, jN, seval, y3, y23, vint, qD] <;> with_reducible rfl) (by decide) ?_
  repeat (refine awp_seq ?_)
  refine awp_cond rfl (by simp only [jN, seval, vint, qD] <;> with_reducible rfl) (fun bt10 => ?_) (fun bt10 => ?_)
  ·
    have hl : ¬ us.length = vs.length := by simp at bt10; omega
    have hf : decide (us = vs) = false := decide_eq_false fun h => hl (by rw [h])
    repeat (refine awp_seq ?_)
    refine e_eval (by simp only [jA, jO, jN, seval, vint, qD] <;> with_reducible rfl) (by decide) ?_
    repeat (refine awp_seq ?_)
    refine awp_ret ⟨.inr rfl, _, rfl, ?_⟩
    simp only [jN, seval, vint, qD, hf]
  ·
    have hl : us.length = vs.length := by simp at bt10; omega
    repeat (refine awp_seq ?_)
    refine awp_skip ?_
    repeat (refine awp_seq ?_)
    refine e_eval (by simp only [jA, jO, jN, seval, y3, y23, vint, qD] <;> with_reducible rfl) (by decide) ?_
    repeat (refine awp_seq ?_)
    refine awp_forS (σ := Unit) (us.length) (fun (u_ : Unit) => [(0, .slice (us.map vint) .none), (1, .slice (vs.map vint) .none)]) [0, 1] ([]) (fun (u_ : Unit) => []) (fun (i : Nat) (u_ : Unit) => ∀ j (h1 : j < i) (h2 : j < us.length) (h3 : j < vs.length), us[j] = vs[j]) (()) ([]) rfl rfl rfl rfl rfl rfl rfl rfl rfl (by decide) (by decide) (by decide) (fun _ => rfl) (ha) ⟨(by first | rfl | (simp only [jN, seval, vint, qD] <;> first | done | with_reducible rfl)), (by first | rfl | (simp only [jN, seval, vint, qD] <;> first | done | with_reducible rfl)), (by first | rfl | (simp only [jN, seval, vint, qD] <;> first | done | with_reducible rfl)), (by first | rfl | (simp only [jN, seval, vint, qD] <;> first | done | with_reducible rfl)), trivial⟩ (by first | rfl | (simp only [jN, seval, vint, qD] <;> first | done | with_reducible rfl)) (fun j h => absurd h (by omega)) (fun _ _ _ => by first | exact Nat.zero_le _ | (simp only [List.length_append]; omega)) ?_ ?_ ?_
    · exact fun i s hg => ⟨by first | exact hbel_nil _ | (simp only [List.append_nil]; assumption) | (refine hbel_app' hb' (by simp) ?_; repeat (first | exact hbel_nil _ | exact trivial | exact obel_row_nil _ | (refine HBel.cons ?_ ?_) | (refine obel_row_cons (by first | exact bel_nilfull _ | exact bel_Ty_tok _ (by simp) | exact bel_Int _ _ | exact bel_ints_c _ _ _ | exact bel_ints0 _ _ | exact bel_slice_ty _ _ | exact Ty.bel _ _ | exact bel_ty_tok _ (by simp) | exact bel_Dv _ _ | exact Dv.bel _ _ | exact bel_Dm _ _ | exact Dm.bel _ _ | exact bel_Row _ _ | exact bel_mE _ _ | exact bel_iptr _ _ | exact bel_iptr2 _ _ _ | exact bel_Row_tok _ (by simp) | exact Bel.int _ _ | exact Bel.bool _ | exact Bel.str _ | exact Bel.nilp | exact Bel.nilfn | exact Bel.optr _ _ (by simp) | exact bel_nil0 _ | exact bel_nil1 _ | exact bel_fn0 _ _ | assumption) ?_))), by repeat (first | exact BelL.nil | refine BelL.cons (by first | exact bel_nilfull _ | exact bel_Ty_tok _ (by simp) | exact bel_Int _ _ | exact bel_ints_c _ _ _ | exact bel_ints0 _ _ | exact bel_slice_ty _ _ | exact Ty.bel _ _ | exact bel_ty_tok _ (by simp) | exact bel_Dv _ _ | exact Dv.bel _ _ | exact bel_Dm _ _ | exact Dm.bel _ _ | exact bel_Row _ _ | exact bel_mE _ _ | exact bel_iptr _ _ | exact bel_iptr2 _ _ _ | exact bel_Row_tok _ (by simp) | exact Bel.int _ _ | exact Bel.bool _ | exact Bel.str _ | exact Bel.nilp | exact Bel.nilfn | exact Bel.optr _ _ (by simp) | exact bel_nil0 _ | exact bel_nil1 _ | exact bel_fn0 _ _ | assumption) ?_)⟩
    · intro i u_ hi hg
      have g1 := ix_nat hi
      have hi2 : i < vs.length := by omega
      have g3 := ix_nat hi2
      have g2 := get_enc vint hi
      have g4 := get_enc vint hi2
      repeat (refine awp_seq ?_)
      refine e_eval (by simp only [jA, jO, jN, seval, vint, qD, g1, g2, g3, g4, Int.toNat_natCast] <;> with_reducible rfl) (by decide) ?_
      repeat (refine awp_seq ?_)
      refine dp_draw (by kernel_rfl) ?_
      refine dp_end (by simp only [jP, jO, jN, seval, y3, y23, vint, qD, g1, g2, g3, g4, Int.toNat_natCast] <;> with_reducible rfl) (by decide) (by repeat (first | exact Fin.base _ | with_reducible apply Fin.keep | apply Fin.drop)) ?_
      repeat (refine awp_seq ?_)
      refine awp_cond rfl (by simp only [jN, seval, vint, qD, g1, g2, g3, g4, Int.toNat_natCast] <;> with_reducible rfl) (fun bt24 => ?_) (fun bt24 => ?_)
      ·
        have hne : ¬ us[i] = vs[i] := by simpa using bt24
        have hf : decide (us = vs) = false := decide_eq_false fun h => hne (by subst h; rfl)
        repeat (refine awp_seq ?_)
        refine e_eval (by simp only [jA, jO, jN, seval, vint, qD, g1, g2, g3, g4, Int.toNat_natCast] <;> with_reducible rfl) (by decide) ?_
        repeat (refine awp_seq ?_)
        refine awp_ret ⟨.inr rfl, _, rfl, ?_⟩
        simp only [jN, seval, vint, qD, hf]
      ·
        have heq : us[i] = vs[i] := by simpa using bt24
        repeat (refine awp_seq ?_)
        refine awp_skip ?_
        exact ⟨⟨rfl, rfl, trivial⟩, (), _, ⟨rfl, rfl, trivial⟩, rfl, fun j h1 h2 h3 => by
          rcases Nat.lt_or_ge j i with q | q
          · exact hg j q h2 h3
          · obtain rfl : j = i := by omega
            exact heq⟩
    · intro u_ hg
      have hf : decide (us = vs) = true := decide_eq_true (List.ext_getElem hl fun j h1 h2 => hg j h1 h1 h2)
      repeat (refine awp_seq ?_)
      refine e_eval (by simp only [jA, jO, jN, seval, vint, qD] <;> with_reducible rfl) (by decide) ?_
      repeat (refine awp_seq ?_)
      refine awp_ret ⟨.inr rfl, _, rfl, ?_⟩
      simp only [jN, seval, vint, qD, hf]

end Go.Abs
set_option maxRecDepth 4000
namespace Go.Abs
open Go.Proofs

theorem missW0 : PC Try.prog 12 [.slice (listD.map Dm.enc) .none, .slice [.int .i64 0] .none, .slice [.slice [(Ty.mk 1 5 []).enc] .none, .slice [(Ty.mk 1 6 [Ty.mk 3 1 [], Ty.mk 0 0 []]).enc] .none] .none] (.tup [.slice [(Ty.mk 1 6 [.mk 3 0 [], .mk 0 0 []]).enc] .none, .bool true]) := by
  have := missing_c listD [0] rows0 xin0
  rw [miss0] at this
  exact this
theorem missW1 : PC Try.prog 12 [.slice (listD.map Dm.enc) .none, .slice [.int .i64 0] .none, .slice [.slice [(Ty.mk 1 5 []).enc] .none, .slice [(Ty.mk 1 6 [Ty.mk 3 1 [], Ty.mk 0 0 []]).enc] .none, .slice [(Ty.mk 0 0 []).enc] .none, .slice [(Ty.mk 1 5 []).enc] .none] .none] (.tup [.slice [] .none, .bool false]) := by
  have := missing_c listD [0] rows1 xin1
  rw [miss1] at this
  exact this
theorem redW : PC Try.prog 13 [.slice (listD.map Dm.enc) .none, .slice [.int .i64 0] .none, .slice [.slice [(Ty.mk 1 5 []).enc] .none, .slice [(Ty.mk 1 6 [Ty.mk 3 1 [], Ty.mk 0 0 []]).enc] .none, .slice [(Ty.mk 0 0 []).enc] .none, .slice [(Ty.mk 1 5 []).enc] .none] .none] (.slice [.int .i64 3] .none) := by
  have := redundant_c listD [0] rows1 xin1
  rw [red1] at this
  exact this
theorem eqW : PC Try.prog 23 [.slice [.int .i64 3] .none, .slice [.int .i64 3] .none] (.bool true) := by
  have := equalInt [3] [3] (by decide)
  simpa using this
theorem happW (fr : Nat) (H : Heap) (a b c d : List PV) : aappend ⟨false, 1, 24⟩ fr H (.slice [.slice a .none, .slice b .none] .full) (.slice [.slice c .none, .slice d .none] .full) = some (.slice [.slice a .none, .slice b .none, .slice c .none, .slice d .none] (.tok fr), some (fr, .buf 4 1)) := by
  have em : maxLen = 9223372036854775807 := by decide
  unfold aappend
  simp only [reduceCtorEq, if_false]
  rw [if_pos ⟨by simp, by simp [em], by simp [PV.cells], by simp [PV.cells, PV.isCell], by decide⟩]
  rfl

theorem exWorkK : PC Try.prog 8 [] (.bool true) := by
  refine pc_of (N := 89) Try.func8 rfl rfl (by simp) (by simp) (.bool _) ?_
  repeat (refine awp_seq ?_)
  refine e_eval (by simp only [jA, jO, jN, seval, vint, qD] <;> with_reducible rfl) (by decide) ?_
  repeat (refine awp_seq ?_)
  refine awp_region ?_
  refine aops_pure (by simp only [jC, jN, seval, vint, qD] <;> with_reducible rfl) (by simp only [jC, jN, seval, vint, qD]) (by decide) Trygo21 (pattern0K 1 5 _) ?_
  refine e_take 1 (by simp only [jA, jO, jN, seval, y25, y42, vint, qD] <;> with_reducible rfl) (by decide) ?_
  refine aops_pure (by simp only [jC, jN, seval, vint, qD] <;> with_reducible rfl) (by simp only [jC, jN, seval, vint, qD]) (by decide) Trygo21 (pattern0K 3 1 _) ?_
  refine e_take 2 (by simp only [jA, jO, jN, seval, y25, y42, vint, qD] <;> with_reducible rfl) (by decide) ?_
  refine aops_pure (by simp only [jC, jN, seval, vint, qD] <;> with_reducible rfl) (by simp only [jC, jN, seval, vint, qD]) (by decide) Trygo21 (patternK 1 6 [Ty.mk 3 1 [], Ty.mk 0 0 []] _) ?_
  refine e_end (by simp only [jA, jO, jN, seval, y24, y25, y42, vint, qD] <;> with_reducible rfl) (by decide) ?_
  repeat (refine awp_seq ?_)
  refine awp_region ?_
  refine aops_pure (by simp only [jC, jN, seval, vint, qD] <;> with_reducible rfl) (by simp only [jC, jN, seval, vint, qD]) (by decide) Trygo22 (listDomainsK _) ?_
  refine e_take 2 (by simp only [jA, jO, jN, seval, y3, y23, vint, qD] <;> with_reducible rfl) (by decide) ?_
  refine aops_pure (by simp only [jC, jN, seval, vint, qD] <;> with_reducible rfl) (by simp only [jC, jN, seval, vint, qD]) (by decide) Trygo12 (missW0 _) ?_
  refine e_end (by simp only [jA, jO, jN, seval, vint, qD] <;> with_reducible rfl) (by decide) ?_
  refine awp_sel [1, 2, 3] (by simp only [jN, seval, vint, qD] <;> with_reducible rfl) ?_
  repeat (refine awp_seq ?_)
  refine awp_region ?_
  refine e_take 3 (by simp only [jA, jO, jN, seval, y25, y42, vint, qD, happW] <;> with_reducible rfl) (by decide) ?_
  refine aops_pure (by simp only [jC, jN, seval, vint, qD, happW] <;> with_reducible rfl) (by simp only [jC, jN, seval, vint, qD, happW]) (by decide) Trygo21 (pattern0K 1 5 _) ?_
  refine e_end (by simp only [jA, jO, jN, seval, y24, y25, y42, vint, qD, happW] <;> with_reducible rfl) (by decide) ?_
  repeat (refine awp_seq ?_)
  refine awp_region ?_
  refine aops_pure (by simp only [jC, jN, seval, vint, qD] <;> with_reducible rfl) (by simp only [jC, jN, seval, vint, qD]) (by decide) Trygo22 (listDomainsK _) ?_
  refine e_take 2 (by simp only [jA, jO, jN, seval, y3, y23, vint, qD] <;> with_reducible rfl) (by decide) ?_
  refine aops_pure (by simp only [jC, jN, seval, vint, qD] <;> with_reducible rfl) (by simp only [jC, jN, seval, vint, qD]) (by decide) Trygo12 (missW1 _) ?_
  refine e_end (by simp only [jA, jO, jN, seval, vint, qD] <;> with_reducible rfl) (by decide) ?_
  refine awp_sel [2, 3, 4, 6] (by simp only [jN, seval, vint, qD] <;> with_reducible rfl) ?_
  repeat (refine awp_seq ?_)
  refine awp_region ?_
  refine aops_gstart ?_
  refine g_take 46 (by simp only [jG, jO, jN, seval, y3, y25, y42, vint, qD, Bool.not_false, Bool.true_and, decide_true] <;> with_reducible rfl) (by decide) ?_
  refine aops_gpure (by simp only [jE, jN, seval, vint, qD, Bool.not_false, Bool.true_and, decide_true] <;> with_reducible rfl) (by simp only [jE, jN, seval, vint, qD, Bool.not_false, Bool.true_and, decide_true] <;> with_reducible rfl) (by simp only [jE, jN, seval, vint, qD, Bool.not_false, Bool.true_and, decide_true]) (by decide) Trygo22 (fun hc => listDomainsK _) ?_
  refine g_take 2 (by simp only [jG, jO, jN, seval, y3, y23, vint, qD, Bool.not_false, Bool.true_and, decide_true] <;> with_reducible rfl) (by decide) ?_
  refine aops_gpure (by simp only [jE, jN, seval, vint, qD, Bool.not_false, Bool.true_and, decide_true] <;> with_reducible rfl) (by simp only [jE, jN, seval, vint, qD, Bool.not_false, Bool.true_and, decide_true] <;> with_reducible rfl) (by simp only [jE, jN, seval, vint, qD, Bool.not_false, Bool.true_and, decide_true]) (by decide) Trygo13 (fun hc => redW _) ?_
  refine g_take 1 (by simp only [jG, jO, jN, seval, y3, y23, vint, qD, Bool.not_false, Bool.true_and, decide_true] <;> with_reducible rfl) (by decide) ?_
  refine aops_gpure (by simp only [jE, jN, seval, vint, qD, Bool.not_false, Bool.true_and, decide_true] <;> with_reducible rfl) (by simp only [jE, jN, seval, vint, qD, Bool.not_false, Bool.true_and, decide_true] <;> with_reducible rfl) (by simp only [jE, jN, seval, vint, qD, Bool.not_false, Bool.true_and, decide_true]) (by decide) Trygo23 (fun hc => eqW _) ?_
  refine g_end (by simp only [jG, jO, jN, seval, vint, qD, Bool.not_false, Bool.true_and, decide_true] <;> with_reducible rfl) (by decide) (by repeat (first | exact Fin.base _ | with_reducible apply Fin.keep | apply Fin.drop)) ?_
  repeat (refine awp_seq ?_)
  refine awp_ret ⟨.inr rfl, _, rfl, ?_⟩
  simp only [jN, seval, vint, qD]

theorem exWorkL : PC Try.prog 19 [] (.bool true) := by
  refine pc_of (N := 89) Try.func19 rfl rfl (by simp) (by simp) (.bool _) ?_
  repeat (refine awp_seq ?_)
  refine e_eval (by simp only [jA, jO, jN, seval, vint, qD] <;> with_reducible rfl) (by decide) ?_
  repeat (refine awp_seq ?_)
  refine awp_region ?_
  refine aops_pure (by simp only [jC, jN, seval, vint, qD] <;> with_reducible rfl) (by simp only [jC, jN, seval, vint, qD]) (by decide) Trygo40 (pattern0L 1 5 _) ?_
  refine e_take 1 (by simp only [jA, jO, jN, seval, y25, y42, vint, qD] <;> with_reducible rfl) (by decide) ?_
  refine aops_pure (by simp only [jC, jN, seval, vint, qD] <;> with_reducible rfl) (by simp only [jC, jN, seval, vint, qD]) (by decide) Trygo40 (pattern0L 3 1 _) ?_
  refine e_take 2 (by simp only [jA, jO, jN, seval, y25, y42, vint, qD] <;> with_reducible rfl) (by decide) ?_
  refine aops_pure (by simp only [jC, jN, seval, vint, qD] <;> with_reducible rfl) (by simp only [jC, jN, seval, vint, qD]) (by decide) Trygo40 (patternL 1 6 [Ty.mk 3 1 [], Ty.mk 0 0 []] _) ?_
  refine e_end (by simp only [jA, jO, jN, seval, y24, y25, y42, vint, qD] <;> with_reducible rfl) (by decide) ?_
  repeat (refine awp_seq ?_)
  refine awp_region ?_
  refine aops_pure (by simp only [jC, jN, seval, vint, qD] <;> with_reducible rfl) (by simp only [jC, jN, seval, vint, qD]) (by decide) Trygo41 (listDomainsL _) ?_
  refine e_take 2 (by simp only [jA, jO, jN, seval, y3, y23, vint, qD] <;> with_reducible rfl) (by decide) ?_
  refine aops_pure (by simp only [jC, jN, seval, vint, qD] <;> with_reducible rfl) (by simp only [jC, jN, seval, vint, qD]) (by decide) Trygo12 (missW0 _) ?_
  refine e_end (by simp only [jA, jO, jN, seval, vint, qD] <;> with_reducible rfl) (by decide) ?_
  refine awp_sel [1, 2, 3] (by simp only [jN, seval, vint, qD] <;> with_reducible rfl) ?_
  repeat (refine awp_seq ?_)
  refine awp_region ?_
  refine e_take 3 (by simp only [jA, jO, jN, seval, y25, y42, vint, qD, happW] <;> with_reducible rfl) (by decide) ?_
  refine aops_pure (by simp only [jC, jN, seval, vint, qD, happW] <;> with_reducible rfl) (by simp only [jC, jN, seval, vint, qD, happW]) (by decide) Trygo40 (pattern0L 1 5 _) ?_
  refine e_end (by simp only [jA, jO, jN, seval, y24, y25, y42, vint, qD, happW] <;> with_reducible rfl) (by decide) ?_
  repeat (refine awp_seq ?_)
  refine awp_region ?_
  refine aops_pure (by simp only [jC, jN, seval, vint, qD] <;> with_reducible rfl) (by simp only [jC, jN, seval, vint, qD]) (by decide) Trygo41 (listDomainsL _) ?_
  refine e_take 2 (by simp only [jA, jO, jN, seval, y3, y23, vint, qD] <;> with_reducible rfl) (by decide) ?_
  refine aops_pure (by simp only [jC, jN, seval, vint, qD] <;> with_reducible rfl) (by simp only [jC, jN, seval, vint, qD]) (by decide) Trygo12 (missW1 _) ?_
  refine e_end (by simp only [jA, jO, jN, seval, vint, qD] <;> with_reducible rfl) (by decide) ?_
  refine awp_sel [2, 3, 4, 6] (by simp only [jN, seval, vint, qD] <;> with_reducible rfl) ?_
  repeat (refine awp_seq ?_)
  refine awp_region ?_
  refine aops_gstart ?_
  refine g_take 46 (by simp only [jG, jO, jN, seval, y3, y25, y42, vint, qD, Bool.not_false, Bool.true_and, decide_true] <;> with_reducible rfl) (by decide) ?_
  refine aops_gpure (by simp only [jE, jN, seval, vint, qD, Bool.not_false, Bool.true_and, decide_true] <;> with_reducible rfl) (by simp only [jE, jN, seval, vint, qD, Bool.not_false, Bool.true_and, decide_true] <;> with_reducible rfl) (by simp only [jE, jN, seval, vint, qD, Bool.not_false, Bool.true_and, decide_true]) (by decide) Trygo41 (fun hc => listDomainsL _) ?_
  refine g_take 2 (by simp only [jG, jO, jN, seval, y3, y23, vint, qD, Bool.not_false, Bool.true_and, decide_true] <;> with_reducible rfl) (by decide) ?_
  refine aops_gpure (by simp only [jE, jN, seval, vint, qD, Bool.not_false, Bool.true_and, decide_true] <;> with_reducible rfl) (by simp only [jE, jN, seval, vint, qD, Bool.not_false, Bool.true_and, decide_true] <;> with_reducible rfl) (by simp only [jE, jN, seval, vint, qD, Bool.not_false, Bool.true_and, decide_true]) (by decide) Trygo13 (fun hc => redW _) ?_
  refine g_take 1 (by simp only [jG, jO, jN, seval, y3, y23, vint, qD, Bool.not_false, Bool.true_and, decide_true] <;> with_reducible rfl) (by decide) ?_
  refine aops_gpure (by simp only [jE, jN, seval, vint, qD, Bool.not_false, Bool.true_and, decide_true] <;> with_reducible rfl) (by simp only [jE, jN, seval, vint, qD, Bool.not_false, Bool.true_and, decide_true] <;> with_reducible rfl) (by simp only [jE, jN, seval, vint, qD, Bool.not_false, Bool.true_and, decide_true]) (by decide) Trygo23 (fun hc => eqW _) ?_
  refine g_end (by simp only [jG, jO, jN, seval, vint, qD, Bool.not_false, Bool.true_and, decide_true] <;> with_reducible rfl) (by decide) (by repeat (first | exact Fin.base _ | with_reducible apply Fin.keep | apply Fin.drop)) ?_
  repeat (refine awp_seq ?_)
  refine awp_ret ⟨.inr rfl, _, rfl, ?_⟩
  simp only [jN, seval, vint, qD]

theorem law_matches (us vs : List Ty) (h1 : us.length ≤ maxLen) (h2 : ∀ u ∈ us, u.W) : PC Try.prog 7 [.slice (us.map Ty.enc) .none, .slice (vs.map Ty.enc) .none] (.bool true) := by
  refine pc_of (N := 14) Try.func7 rfl rfl (by simp) (by simp [Ty.bel, bel_slice_ty, bel_ints0, bel_Dv, bel_Dm, Dv.bel, Dm.bel, bel_Row, Bel.int, bel_mE]) (.bool _) ?_
  repeat (refine awp_seq ?_)
  refine e_eval (by simp only [jA, jO, jN, seval, vint, qD] <;> with_reducible rfl) (by decide) ?_
  repeat (refine awp_seq ?_)
  refine awp_region ?_
  refine aops_pure (by simp only [jC, jN, seval, vint, qD] <;> with_reducible rfl) (by simp only [jC, jN, seval, vint, qD]) (by decide) Trygo19 (exWorkL _) ?_
  refine e_end (by simp only [jA, jO, jN, seval, vint, qD] <;> with_reducible rfl) (by decide) ?_
  repeat (refine awp_seq ?_)
  refine awp_cond_false rfl (by simp only [jN, seval, vint, qD] <;> with_reducible rfl) ?_
  repeat (refine awp_seq ?_)
  refine awp_skip ?_
  repeat (refine awp_seq ?_)
  refine awp_region ?_
  refine e_take 2 (by simp only [jA, jO, jN, seval, vint, qD] <;> with_reducible rfl) (by decide) ?_
  refine aops_pure (by simp only [jC, jN, seval, vint, qD] <;> with_reducible rfl) (by simp only [jC, jN, seval, vint, qD]) (by decide) Trygo16 (matL_c us vs h1 h2 _) ?_
  refine e_take 2 (by simp only [jA, jO, jN, seval, vint, qD] <;> with_reducible rfl) (by decide) ?_
  refine aops_pure (by simp only [jC, jN, seval, vint, qD] <;> with_reducible rfl) (by simp only [jC, jN, seval, vint, qD]) (by decide) Trygo20 (rm_k _ us vs (Nat.lt_succ_self _) h1 h2 _) ?_
  refine e_end (by simp only [jA, jO, jN, seval, y4, vint, qD] <;> with_reducible rfl) (by decide) ?_
  repeat (refine awp_seq ?_)
  refine awp_ret ⟨.inr rfl, _, rfl, ?_⟩
  simp only [jN, seval, vint, qD]

end Go.Abs
namespace Go.Abs
/-! Every domain has a value: as the reference computes it. -/
def allF (s : List Bool) (fs : List Int) : Bool := fs.all fun f => s.getD f.toNat false
def varStep (i : Nat) (s : List Bool) (v : Dv) : List Bool := s.set i (s.getD i false || allF s v.fields)
def domStep (ds : List Dm) (s : List Bool) (i : Nat) : List Bool := if (ds.getD i .zero).kind = 1 then (ds.getD i .zero).vs.foldl (varStep i) s else s.set i true
def rndI (ds : List Dm) (s : List Bool) : List Bool := (List.range ds.length).foldl (domStep ds) s
def inhS (ds : List Dm) (n : Nat) : List Bool := (List.range n).foldl (fun s _ => rndI ds s) (List.replicate ds.length false)
def inhM (ds : List Dm) : Bool := (inhS ds ds.length).all id
theorem varFold_len (i : Nat) (s : List Bool) (vs : List Dv) : (vs.foldl (varStep i) s).length = s.length := by
  induction vs generalizing s with
  | nil => rfl
  | cons v vs ih => rw [List.foldl_cons, ih]; simp [varStep]
theorem domStep_len (ds : List Dm) (s : List Bool) (i : Nat) : (domStep ds s i).length = s.length := by
  unfold domStep; split
  · exact varFold_len ..
  · simp
theorem domFold_len (ds : List Dm) (l : List Nat) (s : List Bool) : (l.foldl (domStep ds) s).length = s.length := by
  induction l generalizing s with
  | nil => rfl
  | cons v vs ih => rw [List.foldl_cons, ih, domStep_len]
theorem inhS_len (ds : List Dm) : ∀ n : Nat, (inhS ds n).length = ds.length
  | 0 => by simp [inhS]
  | n + 1 => by
    unfold inhS
    rw [List.range_succ, List.foldl_append]
    show (rndI ds (inhS ds n)).length = _
    unfold rndI
    rw [domFold_len, inhS_len ds n]
theorem inhS_succ (ds : List Dm) (n : Nat) : inhS ds (n + 1) = rndI ds (inhS ds n) := by
  unfold inhS
  rw [List.range_succ, List.foldl_append]; rfl
theorem range_fold {α : Type} (f : α → Nat → α) (s : α) (n : Nat) : (List.range (n + 1)).foldl f s = f ((List.range n).foldl f s) n := by
  rw [List.range_succ, List.foldl_append]; rfl
theorem take_fold {α β : Type} (f : α → β → α) (s : α) {xs : List β} {i : Nat} (hi : i < xs.length) : (xs.take (i + 1)).foldl f s = f ((xs.take i).foldl f s) xs[i] := by
  rw [List.take_succ_eq_append_getElem hi, List.foldl_append]; rfl
theorem allF_take {s : List Bool} {fs : List Int} {i : Nat} (hi : i < fs.length) : allF s (fs.take (i + 1)) = (allF s (fs.take i) && s.getD fs[i].toNat false) := by
  unfold allF
  rw [List.take_succ_eq_append_getElem hi, List.all_append]; simp
/-- What is marked has a value. -/
def SndI (ds : List Dm) (s : List Bool) : Prop := ∀ i : Nat, s.getD i false = true → ∃ v, Val ds v i
theorem set_getD (s : List Bool) (i j : Nat) (b : Bool) : (s.set i b).getD j false = true → (j = i ∧ b = true) ∨ s.getD j false = true := by
  intro h
  rw [List.getD_eq_getElem?_getD, List.getElem?_set] at h
  split at h
  · rename_i e
    split at h
    · exact .inl ⟨e.symm, by simpa using h⟩
    · simp at h
  · right; rw [List.getD_eq_getElem?_getD]; exact h
theorem SndI.set {ds : List Dm} {s : List Bool} (h : SndI ds s) {i : Nat} {b : Bool} (hb : b = true → ∃ v, Val ds v i) : SndI ds (s.set i b) := fun j hj => by
  rcases set_getD s i j b hj with ⟨rfl, h1⟩ | h1
  · exact hb h1
  · exact h j h1
theorem vals_of {ds : List Dm} {s : List Bool} (h : SndI ds s) : ∀ (fs : List Int), (∀ f ∈ fs, okIx ds f = true) → allF s fs = true → ∃ us, ValL ds us fs
  | [], _, _ => ⟨[], .nil⟩
  | f :: fs, h1, h2 => by
    unfold allF at h2
    simp only [List.all_cons, Bool.and_eq_true] at h2
    obtain ⟨us, hu⟩ := vals_of h fs (fun f hf => h1 f (List.mem_cons_of_mem _ hf)) h2.2
    obtain ⟨v, hv⟩ := h f.toNat h2.1
    have hf := h1 f (List.mem_cons_self ..)
    simp only [okIx, Bool.and_eq_true, decide_eq_true_eq] at hf
    rw [Int.toNat_of_nonneg hf.1] at hv
    exact ⟨v :: us, ValL.cons hv hu⟩
theorem domOf_nat (ds : List Dm) (i : Nat) : domOf ds (i : Int) = ds.getD i .zero := rfl
theorem varFold_snd {ds : List Dm} (hd : DOk ds) (hu : UniqV ds) {i : Nat} (hi : i < ds.length) (hk : (ds.getD i .zero).kind = 1) : ∀ (vs : List Dv) (s : List Bool), (∀ v ∈ vs, v ∈ (ds.getD i .zero).vs) → SndI ds s → SndI ds (vs.foldl (varStep i) s)
  | [], s, _, h => h
  | v :: vs, s, hm, h => by
    rw [List.foldl_cons]
    refine varFold_snd hd hu hi hk vs _ (fun w hw => hm w (List.mem_cons_of_mem _ hw)) ?_
    have hmem : ds.getD i .zero ∈ ds := by rw [List.getD_eq_getElem?_getD, List.getElem?_eq_getElem hi]; exact List.getElem_mem hi
    refine h.set fun hb => ?_
    simp only [Bool.or_eq_true] at hb
    rcases hb with hb | hb
    · exact h i hb
    · have hv := hm v (List.mem_cons_self ..)
      obtain ⟨us, hus⟩ := vals_of h v.fields (hd.fld _ hmem v hv) hb
      exact ⟨_, .var v.id us v (by rw [domOf_nat]; exact hk) (by rw [domOf_nat]; exact hu _ hmem v hv) hus.1 hus.2⟩
theorem domStep_snd {ds : List Dm} (hd : DOk ds) (hu : UniqV ds) {i : Nat} (hi : i < ds.length) {s : List Bool} (h : SndI ds s) : SndI ds (domStep ds s i) := by
  unfold domStep
  have hmem : ds.getD i .zero ∈ ds := by rw [List.getD_eq_getElem?_getD, List.getElem?_eq_getElem hi]; exact List.getElem_mem hi
  split
  · rename_i hk; exact varFold_snd hd hu hi hk _ s (fun v h => h) h
  · rename_i hk
    refine h.set fun _ => ?_
    rcases hd.kinds _ hmem with q | q | q | q
    · exact ⟨_, .wild (by rw [domOf_nat]; exact q)⟩
    · exact absurd q hk
    · exact ⟨_, .int 0 (by rw [domOf_nat]; exact q)⟩
    · exact ⟨_, .bool 0 (by rw [domOf_nat]; exact q) (.inl rfl)⟩
theorem domFold_snd {ds : List Dm} (hd : DOk ds) (hu : UniqV ds) : ∀ (l : List Nat) (s : List Bool), (∀ i ∈ l, i < ds.length) → SndI ds s → SndI ds (l.foldl (domStep ds) s)
  | [], s, _, h => h
  | i :: l, s, hl, h => domFold_snd hd hu l _ (fun j hj => hl j (List.mem_cons_of_mem _ hj)) (domStep_snd hd hu (hl i (List.mem_cons_self ..)) h)
theorem inhS_snd {ds : List Dm} (hd : DOk ds) (hu : UniqV ds) : ∀ n : Nat, SndI ds (inhS ds n)
  | 0 => fun i h => by
    unfold inhS at h
    simp only [List.range_zero, List.foldl_nil] at h
    rw [List.getD_eq_getElem?_getD, List.getElem?_replicate] at h
    split at h <;> simp at h
  | n + 1 => by rw [inhS_succ]; exact domFold_snd hd hu _ _ (fun i hi => List.mem_range.1 hi) (inhS_snd hd hu n)
theorem inh_ok {ds : List Dm} (hd : DOk ds) (hu : UniqV ds) (h : inhM ds = true) : Inh ds := fun i hi => by
  refine inhS_snd hd hu ds.length i ?_
  have hl := inhS_len ds ds.length
  have := List.all_eq_true.1 h ((inhS ds ds.length)[i]'(by omega)) (List.getElem_mem _)
  rw [List.getD_eq_getElem?_getD, List.getElem?_eq_getElem (by omega)]
  simpa using this
theorem obel_bools (n : Nat) (s : List Bool) : OBel n (.row (s.map PV.bool)) := fun c hc => by
  obtain ⟨b, _, rfl⟩ := List.mem_map.1 hc
  exact .bool _
/-- Rows of marks. -/
theorem bget {s : List Bool} {k : Nat} (h : k < s.length) : (s.map PV.bool)[k]? = some (.bool (s.getD k false)) := by
  rw [List.getElem?_map, List.getElem?_eq_getElem h, List.getD_eq_getElem?_getD, List.getElem?_eq_getElem h]; rfl
theorem bset (s : List Bool) (k : Nat) (b : Bool) : (s.map PV.bool).set k (.bool b) = (s.set k b).map PV.bool := by rw [List.map_set]
end Go.Abs
set_option maxRecDepth 4000
namespace Go.Abs
open Go.Proofs

theorem allInh (ds : List Dm) (hw : DsW ds) (hf : ∀ d ∈ ds, ∀ v ∈ d.vs, ∀ f ∈ v.fields, okIx ds f = true) : PC Try.prog 11 [.slice (ds.map Dm.enc) .none] (.bool (inhM ds)) := by
  have em : maxLen = 9223372036854775807 := by decide
  have hlen := hw.len
  have hmx := hw.max
  have ma : ((0 : Int) ≤ (ds.length : Int)) = True := by simp
  have mb : ((ds.length : Int) ≤ ds.length) = True := by simp
  have mc : ((ds.length : Int) ≤ 140737488355328) = True := eq_true (by omega)
  have md : ((ds.length : Int) ≤ maxLen) = True := eq_true (by omega)
  refine pc_of (N := 77) Try.func11 rfl rfl (by simp) (by simp [Ty.bel, bel_slice_ty, bel_ints0, bel_Dv, bel_Dm, Dv.bel, Dm.bel, bel_Row, Bel.int, bel_mE]) (.bool _) ?_
  repeat (refine awp_seq ?_)
  refine e_eval (by simp only [jA, jO, jN, seval, vint, qD] <;> with_reducible rfl) (by decide) ?_
  repeat (refine awp_seq ?_)
  refine awp_region ?_
  refine e_take 2 (by simp only [jA, jO, jN, seval, y22, y48, vint, qD] <;> with_reducible rfl) (by decide) ?_
  refine aops_op true (v := .msl 0 0 ds.length ds.length) (e := some (0, .row ((List.replicate ds.length false).map PV.bool))) (H' := [.row ((List.replicate ds.length false).map PV.bool)]) (by simp only [jC, jN, seval, vint, qD] <;> rfl) (by decide) (by simp only [jA, jO, jN, seval, y4, y61, vint, qD, ma, mb, mc, md, false_row, Int.mul_one] <;> with_reducible rfl) (by simp only [jA, jO, jN, seval, vint, qD] <;> rfl) ?_
  refine e_end (by simp only [jA, jO, jN, seval, vint, qD] <;> with_reducible rfl) (by decide) ?_
  repeat (refine awp_seq ?_)
  refine e_eval (by simp only [jA, jO, jN, seval, y22, y48, vint, qD] <;> with_reducible rfl) (by decide) ?_
  repeat (refine awp_seq ?_)
  refine awp_forS (σ := List Bool) (ds.length) (fun (s : List Bool) => [(0, .slice (ds.map Dm.enc) .none), (3, .msl 0 0 ds.length ds.length)]) [0, 3] ([]) (fun (s : List Bool) => [.row (s.map PV.bool)]) (fun (a : Nat) (s : List Bool) => s = inhS ds a) ((inhS ds 0)) ([]) rfl rfl rfl rfl rfl rfl rfl rfl rfl (by decide) (by decide) (by decide) (fun _ => rfl) (hmx) ⟨(by first | rfl | (simp only [jN, seval, vint, qD] <;> first | done | with_reducible rfl)), (by first | rfl | (simp only [jN, seval, vint, qD] <;> first | done | with_reducible rfl)), (by first | rfl | (simp only [jN, seval, vint, qD] <;> first | done | with_reducible rfl)), (by first | rfl | (simp only [jN, seval, vint, qD] <;> first | done | with_reducible rfl)), trivial⟩ (by first | rfl | (simp only [jN, seval, vint, qD] <;> first | done | with_reducible rfl)) (rfl) (fun _ _ _ => by first | exact Nat.zero_le _ | (simp only [List.length_append]; omega)) ?_ ?_ ?_
  · exact fun a s hs => ⟨by simp only [DvS, DmS, List.nil_append]; repeat (first | exact hbel_nil _ | exact obel_bools _ _ | exact trivial | exact obel_row_nil _ | (refine HBel.cons ?_ ?_) | (refine obel_row_cons (by first | exact bel_nilfull _ | exact bel_Ty_tok _ (by simp) | exact bel_Int _ _ | exact bel_ints_c _ _ _ | exact .msl _ _ _ _ (by simp) | exact bel_ints0 _ _ | exact bel_slice_ty _ _ | exact Ty.bel _ _ | exact bel_ty_tok _ (by simp) | exact bel_Dv _ _ | exact Dv.bel _ _ | exact bel_Dm _ _ | exact Dm.bel _ _ | exact bel_Row _ _ | exact bel_mE _ _ | exact bel_iptr _ _ | exact bel_iptr2 _ _ _ | exact bel_Row_tok _ (by simp) | exact Bel.int _ _ | exact Bel.bool _ | exact Bel.str _ | exact Bel.nilp | exact Bel.nilfn | exact Bel.optr _ _ (by simp) | exact bel_nil0 _ | exact bel_nil1 _ | exact bel_fn0 _ _ | assumption) ?_)), by repeat (first | exact BelL.nil | refine BelL.cons (by first | exact bel_nilfull _ | exact bel_Ty_tok _ (by simp) | exact bel_Int _ _ | exact bel_ints_c _ _ _ | exact .msl _ _ _ _ (by simp) | exact bel_ints0 _ _ | exact bel_slice_ty _ _ | exact Ty.bel _ _ | exact bel_ty_tok _ (by simp) | exact bel_Dv _ _ | exact Dv.bel _ _ | exact bel_Dm _ _ | exact Dm.bel _ _ | exact bel_Row _ _ | exact bel_mE _ _ | exact bel_iptr _ _ | exact bel_iptr2 _ _ _ | exact bel_Row_tok _ (by simp) | exact Bel.int _ _ | exact Bel.bool _ | exact Bel.str _ | exact Bel.nilp | exact Bel.nilfn | exact Bel.optr _ _ (by simp) | exact bel_nil0 _ | exact bel_nil1 _ | exact bel_fn0 _ _ | assumption) ?_)⟩
  · intro a s ha hs
    have hsl : s.length = ds.length := by rw [hs, inhS_len]
    repeat (refine awp_seq ?_)
    refine e_eval (by simp only [jA, jO, jN, seval, y22, y48, vint, qD] <;> with_reducible rfl) (by decide) ?_
    repeat (refine awp_seq ?_)
    refine awp_forS (σ := List Bool) (ds.length) (fun (q : List Bool) => [(0, .slice (ds.map Dm.enc) .none), (3, .msl 0 0 ds.length ds.length), (18, vint a), (17, vint ds.length), (20, .slice (ds.map Dm.enc) .none)]) [0, 3, 18, 17, 20] ([]) (fun (q : List Bool) => [.row (q.map PV.bool)]) (fun (i : Nat) (q : List Bool) => q = (List.range i).foldl (domStep ds) s) (s) ([]) rfl rfl rfl rfl rfl rfl rfl rfl rfl (by decide) (by decide) (by decide) (fun _ => rfl) (hmx) ⟨(by first | rfl | (simp only [jN, seval, vint, qD] <;> first | done | with_reducible rfl)), (by first | rfl | (simp only [jN, seval, vint, qD] <;> first | done | with_reducible rfl)), (by first | rfl | (simp only [jN, seval, vint, qD] <;> first | done | with_reducible rfl)), (by first | rfl | (simp only [jN, seval, vint, qD] <;> first | done | with_reducible rfl)), (by first | rfl | (simp only [jN, seval, vint, qD] <;> first | done | with_reducible rfl)), (by first | rfl | (simp only [jN, seval, vint, qD] <;> first | done | with_reducible rfl)), (by first | rfl | (simp only [jN, seval, vint, qD] <;> first | done | with_reducible rfl)), trivial⟩ (by first | rfl | (simp only [jN, seval, vint, qD] <;> first | done | with_reducible rfl)) (rfl) (fun _ _ _ => by first | exact Nat.zero_le _ | (simp only [List.length_append]; omega)) ?_ ?_ ?_
    · exact fun i q hq => ⟨by simp only [DvS, DmS, List.nil_append]; repeat (first | exact hbel_nil _ | exact obel_bools _ _ | exact trivial | exact obel_row_nil _ | (refine HBel.cons ?_ ?_) | (refine obel_row_cons (by first | exact bel_nilfull _ | exact bel_Ty_tok _ (by simp) | exact bel_Int _ _ | exact bel_ints_c _ _ _ | exact .msl _ _ _ _ (by simp) | exact bel_ints0 _ _ | exact bel_slice_ty _ _ | exact Ty.bel _ _ | exact bel_ty_tok _ (by simp) | exact bel_Dv _ _ | exact Dv.bel _ _ | exact bel_Dm _ _ | exact Dm.bel _ _ | exact bel_Row _ _ | exact bel_mE _ _ | exact bel_iptr _ _ | exact bel_iptr2 _ _ _ | exact bel_Row_tok _ (by simp) | exact Bel.int _ _ | exact Bel.bool _ | exact Bel.str _ | exact Bel.nilp | exact Bel.nilfn | exact Bel.optr _ _ (by simp) | exact bel_nil0 _ | exact bel_nil1 _ | exact bel_fn0 _ _ | assumption) ?_)), by repeat (first | exact BelL.nil | refine BelL.cons (by first | exact bel_nilfull _ | exact bel_Ty_tok _ (by simp) | exact bel_Int _ _ | exact bel_ints_c _ _ _ | exact .msl _ _ _ _ (by simp) | exact bel_ints0 _ _ | exact bel_slice_ty _ _ | exact Ty.bel _ _ | exact bel_ty_tok _ (by simp) | exact bel_Dv _ _ | exact Dv.bel _ _ | exact bel_Dm _ _ | exact Dm.bel _ _ | exact bel_Row _ _ | exact bel_mE _ _ | exact bel_iptr _ _ | exact bel_iptr2 _ _ _ | exact bel_Row_tok _ (by simp) | exact Bel.int _ _ | exact Bel.bool _ | exact Bel.str _ | exact Bel.nilp | exact Bel.nilfn | exact Bel.optr _ _ (by simp) | exact bel_nil0 _ | exact bel_nil1 _ | exact bel_fn0 _ _ | assumption) ?_)⟩
    · intro i q hi hq
      have g1 := ix_nat hi
      have g2 := get_enc Dm.enc hi
      have hmem : ds[i] ∈ ds := List.getElem_mem hi
      have hql : q.length = ds.length := by rw [hq, domFold_len, hsl]
      have hst := range_fold (domStep ds) s i
      rw [← hq] at hst
      have hgd : ds.getD i .zero = ds[i] := by rw [List.getD_eq_getElem?_getD, List.getElem?_eq_getElem hi]; rfl
      have hds : domStep ds q i = if ds[i].kind = 1 then ds[i].vs.foldl (varStep i) q else q.set i true := by unfold domStep; rw [hgd]
      obtain ⟨d, hde⟩ : ∃ d, ds[i] = d := ⟨_, rfl⟩
      rw [hde] at g2 hmem hds
      have hdw := hw.el d hmem
      have hfd := hf d hmem
      have g3 : (i + 1 ≤ ds.length) = True := eq_true (by omega)
      repeat (refine awp_seq ?_)
      refine e_eval (by simp only [jA, jO, jN, seval, y22, y48, vint, qD, g1, g2, Int.toNat_natCast] <;> with_reducible rfl) (by decide) ?_
      repeat (refine awp_seq ?_)
      refine e_eval (by simp only [jA, jO, jN, seval, y3, y48, vint, qD, g1, g2, Int.toNat_natCast] <;> with_reducible rfl) (by decide) ?_
      repeat (refine awp_seq ?_)
      refine awp_cond rfl (by simp only [jN, seval, vint, qD, g1, g2, Int.toNat_natCast] <;> with_reducible rfl) (fun bt29 => ?_) (fun bt29 => ?_)
      ·
        have hk : ¬ d.kind = 1 := by simpa using bt29
        rw [if_neg hk] at hds
        repeat (refine awp_seq ?_)
        refine e_eval (by simp only [jA, jO, jN, seval, y4, y61, vint, qD, g1, g2, Int.toNat_natCast, g3, hql, bset, Nat.zero_add, Nat.mul_one] <;> with_reducible rfl) (by decide) ?_
        repeat (refine awp_seq ?_)
        refine awp_exit ?_
        exact ⟨⟨rfl, rfl, trivial⟩, q.set i true, _, ⟨rfl, rfl, rfl, rfl, rfl, trivial⟩, by simp only [jN, seval, vint, qD] <;> rfl, by rw [hst, hds]⟩
      ·
        have hk : d.kind = 1 := by simpa using bt29
        rw [if_pos hk] at hds
        repeat (refine awp_seq ?_)
        refine awp_skip ?_
        repeat (refine awp_seq ?_)
        refine e_eval (by simp only [jA, jO, jN, seval, y46, y48, y51, vint, qD, g1, g2, Int.toNat_natCast] <;> with_reducible rfl) (by decide) ?_
        repeat (refine awp_seq ?_)
        refine awp_forS (σ := List Bool) (d.vs.length) (fun (p : List Bool) => [(0, .slice (ds.map Dm.enc) .none), (3, .msl 0 0 ds.length ds.length), (18, vint a), (17, vint ds.length), (20, .slice (ds.map Dm.enc) .none), (22, vint i), (21, vint ds.length), (4, vint i), (34, .slice (d.vs.map Dv.enc) .none)]) [0, 3, 18, 17, 20, 22, 21, 4, 34] ([]) (fun (p : List Bool) => [.row (p.map PV.bool)]) (fun (j : Nat) (p : List Bool) => p = (d.vs.take j).foldl (varStep i) q) (q) (_) rfl rfl rfl rfl rfl rfl rfl rfl rfl (by decide) (by decide) (by decide) (fun _ => rfl) (hdw.max_vs) ⟨(by first | rfl | (simp only [jN, seval, vint, qD, g1, g2, Int.toNat_natCast] <;> first | done | with_reducible rfl)), (by first | rfl | (simp only [jN, seval, vint, qD, g1, g2, Int.toNat_natCast] <;> first | done | with_reducible rfl)), (by first | rfl | (simp only [jN, seval, vint, qD, g1, g2, Int.toNat_natCast] <;> first | done | with_reducible rfl)), (by first | rfl | (simp only [jN, seval, vint, qD, g1, g2, Int.toNat_natCast] <;> first | done | with_reducible rfl)), (by first | rfl | (simp only [jN, seval, vint, qD, g1, g2, Int.toNat_natCast] <;> first | done | with_reducible rfl)), (by first | rfl | (simp only [jN, seval, vint, qD, g1, g2, Int.toNat_natCast] <;> first | done | with_reducible rfl)), (by first | rfl | (simp only [jN, seval, vint, qD, g1, g2, Int.toNat_natCast] <;> first | done | with_reducible rfl)), (by first | rfl | (simp only [jN, seval, vint, qD, g1, g2, Int.toNat_natCast] <;> first | done | with_reducible rfl)), (by first | rfl | (simp only [jN, seval, vint, qD, g1, g2, Int.toNat_natCast] <;> first | done | with_reducible rfl)), (by first | rfl | (simp only [jN, seval, vint, qD, g1, g2, Int.toNat_natCast] <;> first | done | with_reducible rfl)), (by first | rfl | (simp only [jN, seval, vint, qD, g1, g2, Int.toNat_natCast] <;> first | done | with_reducible rfl)), trivial⟩ (by first | rfl | (simp only [jN, seval, vint, qD, g1, g2, Int.toNat_natCast] <;> first | done | with_reducible rfl)) (rfl) (fun _ _ _ => by first | exact Nat.zero_le _ | (simp only [List.length_append]; omega)) ?_ ?_ ?_
        · exact fun j p hp => ⟨by simp only [DvS, DmS, List.nil_append]; repeat (first | exact hbel_nil _ | exact obel_bools _ _ | exact trivial | exact obel_row_nil _ | (refine HBel.cons ?_ ?_) | (refine obel_row_cons (by first | exact bel_nilfull _ | exact bel_Ty_tok _ (by simp) | exact bel_Int _ _ | exact bel_ints_c _ _ _ | exact .msl _ _ _ _ (by simp) | exact bel_ints0 _ _ | exact bel_slice_ty _ _ | exact Ty.bel _ _ | exact bel_ty_tok _ (by simp) | exact bel_Dv _ _ | exact Dv.bel _ _ | exact bel_Dm _ _ | exact Dm.bel _ _ | exact bel_Row _ _ | exact bel_mE _ _ | exact bel_iptr _ _ | exact bel_iptr2 _ _ _ | exact bel_Row_tok _ (by simp) | exact Bel.int _ _ | exact Bel.bool _ | exact Bel.str _ | exact Bel.nilp | exact Bel.nilfn | exact Bel.optr _ _ (by simp) | exact bel_nil0 _ | exact bel_nil1 _ | exact bel_fn0 _ _ | assumption) ?_)), by repeat (first | exact BelL.nil | refine BelL.cons (by first | exact bel_nilfull _ | exact bel_Ty_tok _ (by simp) | exact bel_Int _ _ | exact bel_ints_c _ _ _ | exact .msl _ _ _ _ (by simp) | exact bel_ints0 _ _ | exact bel_slice_ty _ _ | exact Ty.bel _ _ | exact bel_ty_tok _ (by simp) | exact bel_Dv _ _ | exact Dv.bel _ _ | exact bel_Dm _ _ | exact Dm.bel _ _ | exact bel_Row _ _ | exact bel_mE _ _ | exact bel_iptr _ _ | exact bel_iptr2 _ _ _ | exact bel_Row_tok _ (by simp) | exact Bel.int _ _ | exact Bel.bool _ | exact Bel.str _ | exact Bel.nilp | exact Bel.nilfn | exact Bel.optr _ _ (by simp) | exact bel_nil0 _ | exact bel_nil1 _ | exact bel_fn0 _ _ | assumption) ?_)⟩
        · intro j p hj hp
          have g4 := ix_nat hj
          have g5 := get_enc Dv.enc hj
          have hvm : d.vs[j] ∈ d.vs := List.getElem_mem hj
          have hpl : p.length = ds.length := by rw [hp, varFold_len, hql]
          have hvs := take_fold (varStep i) q hj
          rw [← hp] at hvs
          obtain ⟨v, hve⟩ : ∃ v, d.vs[j] = v := ⟨_, rfl⟩
          rw [hve] at g5 hvm hvs
          have hvw := hdw.el_vs v hvm
          have hfv := hfd v hvm
          have bg := bget (s := p) (k := i) (by omega)
          repeat (refine awp_seq ?_)
          refine e_eval (by simp only [jA, jO, jN, seval, y46, y51, vint, qD, g1, g2, Int.toNat_natCast, g4, g5] <;> with_reducible rfl) (by decide) ?_
          repeat (refine awp_seq ?_)
          refine e_eval (by simp only [jA, jO, jN, seval, vint, qD, g1, g2, Int.toNat_natCast, g4, g5] <;> with_reducible rfl) (by decide) ?_
          repeat (refine awp_seq ?_)
          refine e_eval (by simp only [jA, jO, jN, seval, y3, y23, y51, vint, qD, g1, g2, Int.toNat_natCast, g4, g5] <;> with_reducible rfl) (by decide) ?_
          repeat (refine awp_seq ?_)
          refine awp_forS (σ := Bool) (v.fields.length) (fun (b : Bool) => [(3, .msl 0 0 ds.length ds.length), (4, vint i), (8, .bool b), (0, .slice (ds.map Dm.enc) .none), (18, vint a), (17, vint ds.length), (20, .slice (ds.map Dm.enc) .none), (22, vint i), (21, vint ds.length), (34, .slice (d.vs.map Dv.enc) .none), (36, vint j), (35, vint d.vs.length), (41, .slice (v.fields.map vint) .none)]) [3, 4, 8, 0, 18, 17, 20, 22, 21, 34, 36, 35, 41] ([]) (fun (b : Bool) => [.row (p.map PV.bool)]) (fun (m : Nat) (b : Bool) => b = allF p (v.fields.take m)) (true) (_) rfl rfl rfl rfl rfl rfl rfl rfl rfl (by decide) (by decide) (by decide) (fun _ => rfl) (hvw.max_fields) ⟨(by first | rfl | (simp only [jN, seval, vint, qD, g1, g2, Int.toNat_natCast, g4, g5] <;> first | done | with_reducible rfl)), (by first | rfl | (simp only [jN, seval, vint, qD, g1, g2, Int.toNat_natCast, g4, g5] <;> first | done | with_reducible rfl)), (by first | rfl | (simp only [jN, seval, vint, qD, g1, g2, Int.toNat_natCast, g4, g5] <;> first | done | with_reducible rfl)), (by first | rfl | (simp only [jN, seval, vint, qD, g1, g2, Int.toNat_natCast, g4, g5] <;> first | done | with_reducible rfl)), (by first | rfl | (simp only [jN, seval, vint, qD, g1, g2, Int.toNat_natCast, g4, g5] <;> first | done | with_reducible rfl)), (by first | rfl | (simp only [jN, seval, vint, qD, g1, g2, Int.toNat_natCast, g4, g5] <;> first | done | with_reducible rfl)), (by first | rfl | (simp only [jN, seval, vint, qD, g1, g2, Int.toNat_natCast, g4, g5] <;> first | done | with_reducible rfl)), (by first | rfl | (simp only [jN, seval, vint, qD, g1, g2, Int.toNat_natCast, g4, g5] <;> first | done | with_reducible rfl)), (by first | rfl | (simp only [jN, seval, vint, qD, g1, g2, Int.toNat_natCast, g4, g5] <;> first | done | with_reducible rfl)), (by first | rfl | (simp only [jN, seval, vint, qD, g1, g2, Int.toNat_natCast, g4, g5] <;> first | done | with_reducible rfl)), (by first | rfl | (simp only [jN, seval, vint, qD, g1, g2, Int.toNat_natCast, g4, g5] <;> first | done | with_reducible rfl)), (by first | rfl | (simp only [jN, seval, vint, qD, g1, g2, Int.toNat_natCast, g4, g5] <;> first | done | with_reducible rfl)), (by first | rfl | (simp only [jN, seval, vint, qD, g1, g2, Int.toNat_natCast, g4, g5] <;> first | done | with_reducible rfl)), (by first | rfl | (simp only [jN, seval, vint, qD, g1, g2, Int.toNat_natCast, g4, g5] <;> first | done | with_reducible rfl)), (by first | rfl | (simp only [jN, seval, vint, qD, g1, g2, Int.toNat_natCast, g4, g5] <;> first | done | with_reducible rfl)), trivial⟩ (by first | rfl | (simp only [jN, seval, vint, qD, g1, g2, Int.toNat_natCast, g4, g5] <;> first | done | with_reducible rfl)) (rfl) (fun _ _ _ => by first | exact Nat.zero_le _ | (simp only [List.length_append]; omega)) ?_ ?_ ?_
          · exact fun m b hb => ⟨by simp only [DvS, DmS, List.nil_append]; repeat (first | exact hbel_nil _ | exact obel_bools _ _ | exact trivial | exact obel_row_nil _ | (refine HBel.cons ?_ ?_) | (refine obel_row_cons (by first | exact bel_nilfull _ | exact bel_Ty_tok _ (by simp) | exact bel_Int _ _ | exact bel_ints_c _ _ _ | exact .msl _ _ _ _ (by simp) | exact bel_ints0 _ _ | exact bel_slice_ty _ _ | exact Ty.bel _ _ | exact bel_ty_tok _ (by simp) | exact bel_Dv _ _ | exact Dv.bel _ _ | exact bel_Dm _ _ | exact Dm.bel _ _ | exact bel_Row _ _ | exact bel_mE _ _ | exact bel_iptr _ _ | exact bel_iptr2 _ _ _ | exact bel_Row_tok _ (by simp) | exact Bel.int _ _ | exact Bel.bool _ | exact Bel.str _ | exact Bel.nilp | exact Bel.nilfn | exact Bel.optr _ _ (by simp) | exact bel_nil0 _ | exact bel_nil1 _ | exact bel_fn0 _ _ | assumption) ?_)), by repeat (first | exact BelL.nil | refine BelL.cons (by first | exact bel_nilfull _ | exact bel_Ty_tok _ (by simp) | exact bel_Int _ _ | exact bel_ints_c _ _ _ | exact .msl _ _ _ _ (by simp) | exact bel_ints0 _ _ | exact bel_slice_ty _ _ | exact Ty.bel _ _ | exact bel_ty_tok _ (by simp) | exact bel_Dv _ _ | exact Dv.bel _ _ | exact bel_Dm _ _ | exact Dm.bel _ _ | exact bel_Row _ _ | exact bel_mE _ _ | exact bel_iptr _ _ | exact bel_iptr2 _ _ _ | exact bel_Row_tok _ (by simp) | exact Bel.int _ _ | exact Bel.bool _ | exact Bel.str _ | exact Bel.nilp | exact Bel.nilfn | exact Bel.optr _ _ (by simp) | exact bel_nil0 _ | exact bel_nil1 _ | exact bel_fn0 _ _ | assumption) ?_)⟩
          · intro m b hm hb
            have g6 := ix_nat hm
            have g7 := get_enc vint hm
            have hfo := hfv _ (List.getElem_mem hm)
            have hft := allF_take (s := p) hm
            rw [← hb] at hft
            obtain ⟨f, hfe⟩ : ∃ f, v.fields[m] = f := ⟨_, rfl⟩
            rw [hfe] at g7 hfo hft
            simp only [okIx, Bool.and_eq_true, decide_eq_true_eq] at hfo
            have g8 : ((0 : Int) ≤ f ∧ f < ds.length) = True := by simp; omega
            have bgf := bget (s := p) (k := f.toNat) (by omega)
            repeat (refine awp_seq ?_)
            refine e_eval (by simp only [jA, jO, jN, seval, y3, y23, vint, qD, g1, g2, Int.toNat_natCast, g4, g5, g6, g7] <;> with_reducible rfl) (by decide) ?_
            repeat (refine awp_seq ?_)
            refine g_eval (by simp only [jG, jO, jN, seval, y4, y61, vint, qD, g1, g2, Int.toNat_natCast, g4, g5, g6, g7, g8, bgf, Nat.zero_add, Nat.mul_one] <;> with_reducible rfl) (by decide) (by repeat (first | exact Fin.base _ | with_reducible apply Fin.keep | apply Fin.drop)) ?_
            exact ⟨⟨rfl, rfl, trivial⟩, b && p.getD f.toNat false, _, ⟨rfl, rfl, rfl, rfl, rfl, rfl, rfl, rfl, rfl, rfl, rfl, rfl, rfl, trivial⟩, by simp only [jN, seval, vint, qD] <;> rfl, hft.symm⟩
          · intro b hb
            rw [List.take_length] at hb
            repeat (refine awp_seq ?_)
            refine g_eval (by simp only [jG, jO, jN, seval, y4, y61, vint, qD, g1, g2, Int.toNat_natCast, g4, g5, bg, hpl, g3, bset, Nat.zero_add, Nat.mul_one] <;> with_reducible rfl) (by decide) (by repeat (first | exact Fin.base _ | with_reducible apply Fin.keep | apply Fin.drop)) ?_
            exact ⟨⟨rfl, rfl, trivial⟩, p.set i (p.getD i false || b), _, ⟨rfl, rfl, rfl, rfl, rfl, rfl, rfl, rfl, rfl, trivial⟩, by simp only [jN, seval, vint, qD] <;> rfl, by rw [hvs, hb]; rfl⟩
        · intro p hp
          rw [List.take_length] at hp
          exact ⟨⟨rfl, rfl, trivial⟩, p, _, ⟨rfl, rfl, rfl, rfl, rfl, trivial⟩, by simp only [jN, seval, vint, qD] <;> rfl, by rw [hst, hds]; exact hp⟩
    · intro q hq
      have hq2 : q = inhS ds (a + 1) := by rw [inhS_succ, ← hs]; exact hq
      exact ⟨⟨rfl, rfl, trivial⟩, q, _, ⟨rfl, rfl, trivial⟩, by simp only [jN, seval, vint, qD] <;> rfl, hq2⟩
  · intro s hs
    repeat (refine awp_seq ?_)
    refine e_eval (by simp only [jA, jO, jN, seval, y4, y61, vint, qD] <;> with_reducible rfl) (by decide) ?_
    repeat (refine awp_seq ?_)
    refine awp_forS (σ := Unit) (ds.length) (fun (u_ : Unit) => [(68, .msl 0 0 ds.length ds.length)]) [68] ([]) (fun (u_ : Unit) => [.row (s.map PV.bool)]) (fun (i : Nat) (u_ : Unit) => (s.take i).all id = true) (()) (_) rfl rfl rfl rfl rfl rfl rfl rfl rfl (by decide) (by decide) (by decide) (fun _ => rfl) (hmx) ⟨(by first | rfl | (simp only [jN, seval, vint, qD] <;> first | done | with_reducible rfl)), (by first | rfl | (simp only [jN, seval, vint, qD] <;> first | done | with_reducible rfl)), (by first | rfl | (simp only [jN, seval, vint, qD] <;> first | done | with_reducible rfl)), trivial⟩ (by first | rfl | (simp only [jN, seval, vint, qD] <;> first | done | with_reducible rfl)) (by simp) (fun _ _ _ => by first | exact Nat.zero_le _ | (simp only [List.length_append]; omega)) ?_ ?_ ?_
    · exact fun i u_ hq => ⟨by simp only [DvS, DmS, List.nil_append]; repeat (first | exact hbel_nil _ | exact obel_bools _ _ | exact trivial | exact obel_row_nil _ | (refine HBel.cons ?_ ?_) | (refine obel_row_cons (by first | exact bel_nilfull _ | exact bel_Ty_tok _ (by simp) | exact bel_Int _ _ | exact bel_ints_c _ _ _ | exact .msl _ _ _ _ (by simp) | exact bel_ints0 _ _ | exact bel_slice_ty _ _ | exact Ty.bel _ _ | exact bel_ty_tok _ (by simp) | exact bel_Dv _ _ | exact Dv.bel _ _ | exact bel_Dm _ _ | exact Dm.bel _ _ | exact bel_Row _ _ | exact bel_mE _ _ | exact bel_iptr _ _ | exact bel_iptr2 _ _ _ | exact bel_Row_tok _ (by simp) | exact Bel.int _ _ | exact Bel.bool _ | exact Bel.str _ | exact Bel.nilp | exact Bel.nilfn | exact Bel.optr _ _ (by simp) | exact bel_nil0 _ | exact bel_nil1 _ | exact bel_fn0 _ _ | assumption) ?_)), by repeat (first | exact BelL.nil | refine BelL.cons (by first | exact bel_nilfull _ | exact bel_Ty_tok _ (by simp) | exact bel_Int _ _ | exact bel_ints_c _ _ _ | exact .msl _ _ _ _ (by simp) | exact bel_ints0 _ _ | exact bel_slice_ty _ _ | exact Ty.bel _ _ | exact bel_ty_tok _ (by simp) | exact bel_Dv _ _ | exact Dv.bel _ _ | exact bel_Dm _ _ | exact Dm.bel _ _ | exact bel_Row _ _ | exact bel_mE _ _ | exact bel_iptr _ _ | exact bel_iptr2 _ _ _ | exact bel_Row_tok _ (by simp) | exact Bel.int _ _ | exact Bel.bool _ | exact Bel.str _ | exact Bel.nilp | exact Bel.nilfn | exact Bel.optr _ _ (by simp) | exact bel_nil0 _ | exact bel_nil1 _ | exact bel_fn0 _ _ | assumption) ?_)⟩
    · intro i u_ hi hq
      have g1 := ix_nat hi
      have hsl : s.length = ds.length := by rw [hs, inhS_len]
      have his : i < s.length := by omega
      have bg := bget (s := s) (k := i) his
      have hgi : s.getD i false = s[i] := by rw [List.getD_eq_getElem?_getD, List.getElem?_eq_getElem his]; rfl
      rw [hgi] at bg
      obtain ⟨z, hz⟩ : ∃ z, s[i] = z := ⟨_, rfl⟩
      rw [hz] at bg
      repeat (refine awp_seq ?_)
      refine e_eval (by simp only [jA, jO, jN, seval, y4, y61, vint, qD, g1, bg, Int.toNat_natCast, Nat.zero_add, Nat.mul_one] <;> with_reducible rfl) (by decide) ?_
      repeat (refine awp_seq ?_)
      refine e_eval (by simp only [jA, jO, jN, seval, vint, qD, g1, bg, Int.toNat_natCast, Nat.zero_add, Nat.mul_one] <;> with_reducible rfl) (by decide) ?_
      repeat (refine awp_seq ?_)
      refine awp_cond rfl (by simp only [jN, seval, vint, qD, g1, bg, Int.toNat_natCast, Nat.zero_add, Nat.mul_one] <;> with_reducible rfl) (fun bt75 => ?_) (fun bt75 => ?_)
      ·
        have hz0 : z = false := by simpa using bt75
        have hres : inhM ds = false := by unfold inhM; rw [← hs, List.all_eq_false]; exact ⟨s[i], List.getElem_mem his, by rw [hz, hz0]; simp⟩
        repeat (refine awp_seq ?_)
        refine e_eval (by simp only [jA, jO, jN, seval, vint, qD, g1, bg, Int.toNat_natCast, Nat.zero_add, Nat.mul_one] <;> with_reducible rfl) (by decide) ?_
        repeat (refine awp_seq ?_)
        refine awp_ret ⟨.inr rfl, _, rfl, ?_⟩
        simp only [jN, seval, vint, qD, hres]
      ·
        have hz0 : z = true := by simpa using bt75
        repeat (refine awp_seq ?_)
        refine awp_skip ?_
        exact ⟨⟨rfl, rfl, trivial⟩, (), _, ⟨rfl, trivial⟩, by simp only [jN, seval, vint, qD] <;> rfl, all_take_succ his hq (by rw [hz, hz0]; rfl)⟩
    · intro u_ hq
      have hsl : s.length = ds.length := by rw [hs, inhS_len]
      rw [← hsl, List.take_length] at hq
      have hres : inhM ds = true := by unfold inhM; rw [← hs]; exact hq
      repeat (refine awp_seq ?_)
      refine e_eval (by simp only [jA, jO, jN, seval, vint, qD] <;> with_reducible rfl) (by decide) ?_
      repeat (refine awp_seq ?_)
      refine awp_ret ⟨.inr rfl, _, rfl, ?_⟩
      simp only [jN, seval, vint, qD, hres]

end Go.Abs
namespace Go.Abs
/-! What the laws say, over trees. -/
def Cov (ds : List Dm) (cols : List Int) (rows : List Row) : Prop := ∀ vs, ValL ds vs cols → ∃ r ∈ rows, matL r vs = true
theorem missF_some {ds : List Dm} {cols : List Int} {rows : List Row} {row : Row} (h : missF ds cols rows = some row) : validM ds cols rows = 0 ∧ row.length = cols.length ∧ confL ds row cols = true ∧ ∀ vs, matL row vs = true → ∀ r ∈ rows, matL r vs = false := by
  unfold missF at h
  split at h
  · rename_i hv
    have m := valid_ok hv
    obtain ⟨h1, h2⟩ := miss_some m.d m.u _ cols rows row m.c m.r h
    exact ⟨hv, confL_len h1, h1, h2⟩
  · cases h
theorem missF_cov {ds : List Dm} {cols : List Int} {rows : List Row} (hv : validM ds cols rows = 0) (hi : Inh ds) : missF ds cols rows = none ↔ Cov ds cols rows := by
  have m := valid_ok hv
  constructor
  · intro h
    unfold missF at h
    rw [if_pos hv] at h
    exact miss_none m.d m.f _ cols rows m.c m.r (Nat.lt_succ_self _) h
  · intro h
    cases hm : missF ds cols rows with
    | none => rfl
    | some row =>
      obtain ⟨_, _, h1, h2⟩ := missF_some hm
      obtain ⟨vs, h3, h4⟩ := confL_val m.d hi row cols m.c h1
      obtain ⟨r, hr, h5⟩ := h vs h3
      rw [h2 vs h4 r hr] at h5; cases h5
theorem useF_iff {ds : List Dm} {cols : List Int} {rows : List Row} (hv : validM ds cols rows = 0) (hi : Inh ds) {sub : List Row} (hs : ∀ r ∈ sub, r ∈ rows) {row : Row} (hr : row ∈ rows) :
    useF ds cols sub row = true ↔ ∃ vs, ValL ds vs cols ∧ matL row vs = true ∧ ∀ r ∈ sub, matL r vs = false := by
  have m := valid_ok hv
  exact usef_iff m.d m.u m.f hi _ cols sub row m.c (fun r h => m.r r (hs r h)) (m.r row hr) (Nat.lt_succ_self _)
theorem pcL_rep : ∀ (n : Nat) (m : Int), 0 ≤ m → m + n ≤ 20 → pcL (List.replicate n 1) m = m + n
  | 0, m, _, _ => by simp [pcL]
  | n + 1, m, h0, h => by
    rw [List.replicate_succ, pcL, if_neg (by omega), wrap_id (by omega) (by omega), pcL_rep n _ (by omega) (by omega)]; omega
theorem pcT_wilds (n : Nat) (h : n ≤ 6) : pcT (.mk 0 0 (List.replicate n wildP)) = 1 + n := by
  rw [pcT_mk, List.map_replicate, show pcT wildP = 1 from by unfold wildP; rw [pcT_mk]; rfl, pcL_rep n 1 (by omega) (by omega)]
theorem bigM_sub {ds : List Dm} {cols : List Int} {rows sub : List Row} (hn : sub.length ≤ 12) (h : bigM ds cols rows = false) : bigM ds cols sub = false := by
  unfold bigM big0 at h ⊢
  simp only [Bool.or_eq_false_iff, decide_eq_false_iff_not] at h ⊢
  exact ⟨⟨h.1.1, by omega⟩, h.2⟩
theorem valid_sub {ds : List Dm} {cols : List Int} {rows sub : List Row} (hv : validM ds cols rows = 0) (hn : sub.length ≤ 12) (hs : ∀ r ∈ sub, rowOk ds cols r = true) : validM ds cols sub = 0 := by
  unfold validM at hv ⊢
  split at hv
  · cases hv
  · rename_i h1
    rw [if_neg (by rw [bigM_sub hn (by simpa using h1)]; simp)]
    split at hv
    · cases hv
    · rename_i h2
      rw [if_neg h2, if_pos (List.all_eq_true.2 hs)]
theorem valid_rows {ds : List Dm} {cols : List Int} {rows : List Row} (hv : validM ds cols rows = 0) : ∀ r ∈ rows, rowOk ds cols r = true := by
  unfold validM at hv
  split at hv
  · cases hv
  · split at hv
    · cases hv
    · split at hv
      · rename_i h; exact List.all_eq_true.1 h
      · cases hv
theorem confP_W {ds : List Dm} (D : DIn ds) : ∀ (n : Nat) (p : Ty) (c : Int), p.size ≤ n → okIx ds c = true → confP ds p c = true → p.W
  | 0, p, c, hn, _, _ => by cases p; simp [Ty.size] at hn
  | n + 1, p, c, hn, hc, h => by
    have h4 := conf_args4 D hc h
    have hall : ∀ u ∈ p.args, u.W := by
      by_cases hk : p.kind = 0
      · rw [confP_eq, if_pos hk] at h
        simp only [Bool.and_eq_true] at h
        rw [List.isEmpty_iff.1 h.2]; simp
      · have ha := conf_args D.d hc h hk
        obtain ⟨hl, hg⟩ := (confL_iff ds _ _).1 ha
        intro u hu
        have hsz := Ty.size_arg hu
        obtain ⟨j, hj, rfl⟩ := List.mem_iff_getElem.1 hu
        exact confP_W D n _ _ (by omega) (fieldsOf_len D.d hc _ (List.getElem_mem (by omega))) (hg j hj (by omega))
    cases p with
    | mk k i us => exact .mk (by simp only [Ty.args] at h4; omega) hall
theorem confL_W {ds : List Dm} (D : DIn ds) {cols : List Int} (hc : ColsOk ds cols) {row : Row} (h : confL ds row cols = true) : ∀ u ∈ row, u.W := fun u hu => by
  obtain ⟨hl, hg⟩ := (confL_iff ds _ _).1 h
  obtain ⟨j, hj, rfl⟩ := List.mem_iff_getElem.1 hu
  exact confP_W D _ _ _ (Nat.le_refl _) (hc _ (List.getElem_mem (by omega))) (hg j hj (by omega))
/-! The second law. -/
section
variable {ds : List Dm} {cols : List Int} {rows : List Row} {row : Row}
theorem wild_ok (hc : cols.length ≤ 6) : rowOk ds cols (List.replicate cols.length wildP) = true := by
  unfold rowOk
  rw [confL_wild, pcT_wilds _ hc]
  simp; omega
theorem add_valid (hv : validM ds cols (rows ++ [row]) = 0) (hn : rows.length ≤ 10) : validM ds cols rows = 0 ∧ validM ds cols (List.replicate cols.length wildP :: rows) = 0 := by
  have m := valid_ok hv
  have hr := valid_rows hv
  refine ⟨valid_sub hv (by omega) (fun r h => hr r (List.mem_append_left _ h)), valid_sub hv (by simp; omega) (fun r h => ?_)⟩
  rcases List.mem_cons.1 h with rfl | h
  · exact wild_ok m.nc
  · exact hr r (List.mem_append_left _ h)
theorem add_miss (hv : validM ds cols (rows ++ [row]) = 0) (hn : rows.length ≤ 10) (hi : Inh ds) (h : missF ds cols rows = none) : missF ds cols (rows ++ [row]) = none := by
  have := (missF_cov (add_valid hv hn).1 hi).1 h
  refine (missF_cov hv hi).2 fun vs hvs => ?_
  obtain ⟨r, hr, hm⟩ := this vs hvs
  exact ⟨r, List.mem_append_left _ hr, hm⟩
theorem wild_cov (hv : validM ds cols (rows ++ [row]) = 0) (hn : rows.length ≤ 10) (hi : Inh ds) : missF ds cols (List.replicate cols.length wildP :: rows) = none :=
  (missF_cov (add_valid hv hn).2 hi).2 fun vs hvs => ⟨_, List.mem_cons_self .., by rw [← hvs.1]; exact matL_wild vs⟩
theorem redI_full {p : Nat → Bool} : ∀ (n : Nat), (∀ i, i < n → p (i + 1) = true) → n ≤ ((List.range (n + 1)).filter p).length
  | 0, _ => Nat.zero_le _
  | n + 1, h => by
    have ih := redI_full n (fun i hi => h i (by omega))
    rw [List.range_succ, List.filter_append, List.length_append, List.filter_cons, if_pos (h n (by omega))]
    simp only [List.filter_nil, List.length_singleton]; omega
theorem wild_red (hv : validM ds cols (rows ++ [row]) = 0) (hn : rows.length ≤ 10) (hi : Inh ds) : rows.length ≤ (redF ds cols (List.replicate cols.length wildP :: rows)).length := by
  obtain ⟨hv1, hv2⟩ := add_valid hv hn
  unfold redF redI
  rw [if_pos hv2]
  refine redI_full rows.length fun i hi2 => ?_
  have hg : (List.replicate cols.length wildP :: rows).getD (i + 1) [] = rows[i] := by simp [List.getD_eq_getElem?_getD, hi2]
  rw [hg]
  cases hu : useF ds cols (List.take (i + 1) (List.replicate cols.length wildP :: rows)) rows[i] with
  | false => rfl
  | true =>
    obtain ⟨vs, h1, h2, h3⟩ := (useF_iff hv2 hi (fun r h => List.mem_of_mem_take h) (List.mem_cons_of_mem _ (List.getElem_mem hi2))).1 hu
    have := h3 (List.replicate cols.length wildP) (by simp)
    rw [← h1.1, matL_wild] at this; cases this
end
/-! The third law. -/
section
variable {ds : List Dm} {cols : List Int} {rows : List Row}
/-- The useful rows' places. -/
def usI (ds : List Dm) (cols : List Int) (rows : List Row) (n : Nat) : List Nat := (List.range n).filter fun i => useF ds cols (rows.take i) (rows.getD i [])
def restF (ds : List Dm) (cols : List Int) (rows : List Row) (n : Nat) : List Row := (usI ds cols rows n).map fun i => rows.getD i []
theorem usI_lt {n i : Nat} (h : i ∈ usI ds cols rows n) : i < n ∧ useF ds cols (rows.take i) (rows.getD i []) = true := by
  unfold usI at h
  obtain ⟨h1, h2⟩ := List.mem_filter.1 h
  exact ⟨List.mem_range.1 h1, h2⟩
theorem rest_mem {r : Row} (h : r ∈ restF ds cols rows rows.length) : r ∈ rows := by
  unfold restF at h
  obtain ⟨i, hi, rfl⟩ := List.mem_map.1 h
  have := (usI_lt hi).1
  rw [List.getD_eq_getElem?_getD, List.getElem?_eq_getElem this]
  exact List.getElem_mem this
theorem rest_len (n : Nat) : (restF ds cols rows n).length ≤ n := by
  unfold restF usI
  rw [List.length_map]
  have := List.length_filter_le (fun i => useF ds cols (rows.take i) (rows.getD i [])) (List.range n)
  simpa using this
theorem rest_valid (hv : validM ds cols rows = 0) : validM ds cols (restF ds cols rows rows.length) = 0 := by
  have m := valid_ok hv
  exact valid_sub hv (Nat.le_trans (rest_len _) m.nr) (fun r h => valid_rows hv r (rest_mem h))
/-- The first row that matches is useful. -/
theorem first_use (hv : validM ds cols rows = 0) (hi : Inh ds) {vs : List Ty} (hvs : ValL ds vs cols) : ∀ (n : Nat), n ≤ rows.length → (∃ r ∈ rows.take n, matL r vs = true) → ∃ i, i < n ∧ i ∈ usI ds cols rows rows.length ∧ matL (rows.getD i []) vs = true
  | 0, _, h => by obtain ⟨r, h, _⟩ := h; simp at h
  | n + 1, hn, h => by
    by_cases h0 : ∃ r ∈ rows.take n, matL r vs = true
    · obtain ⟨i, h1, h2⟩ := first_use hv hi hvs n (by omega) h0
      exact ⟨i, by omega, h2⟩
    · obtain ⟨r, hr, hm⟩ := h
      have hn' : n < rows.length := by omega
      rw [List.take_succ_eq_append_getElem hn'] at hr
      rcases List.mem_append.1 hr with hr | hr
      · exact absurd ⟨r, hr, hm⟩ h0
      · rw [List.mem_singleton.1 hr] at hm
        have hg : rows.getD n [] = rows[n] := by rw [List.getD_eq_getElem?_getD, List.getElem?_eq_getElem hn']; rfl
        refine ⟨n, by omega, List.mem_filter.2 ⟨List.mem_range.2 hn', ?_⟩, by rw [hg]; exact hm⟩
        rw [hg]
        refine (useF_iff hv hi (fun r h => List.mem_of_mem_take h) (List.getElem_mem hn')).2 ⟨vs, hvs, hm, fun r hr => ?_⟩
        cases hq : matL r vs with
        | false => rfl
        | true => exact absurd ⟨r, hr, hq⟩ h0
theorem rest_cov (hv : validM ds cols rows = 0) (hi : Inh ds) : Cov ds cols rows ↔ Cov ds cols (restF ds cols rows rows.length) := by
  constructor
  · intro h vs hvs
    obtain ⟨r, hr, hm⟩ := h vs hvs
    obtain ⟨i, _, h2, h3⟩ := first_use hv hi hvs rows.length (Nat.le_refl _) ⟨r, by rw [List.take_length]; exact hr, hm⟩
    exact ⟨_, List.mem_map.2 ⟨i, h2, rfl⟩, h3⟩
  · intro h vs hvs
    obtain ⟨r, hr, hm⟩ := h vs hvs
    exact ⟨r, rest_mem hr, hm⟩
theorem rest_miss (hv : validM ds cols rows = 0) (hi : Inh ds) : (missF ds cols rows).isSome = (missF ds cols (restF ds cols rows rows.length)).isSome := by
  have h := ((missF_cov hv hi).trans (rest_cov hv hi)).trans (missF_cov (rest_valid hv) hi).symm
  cases h1 : missF ds cols rows with
  | none => rw [h.1 h1]
  | some a =>
    cases h2 : missF ds cols (restF ds cols rows rows.length) with
    | none => rw [h.2 h2] at h1; cases h1
    | some b => rfl
theorem rest_red (hv : validM ds cols rows = 0) (hi : Inh ds) : redF ds cols (restF ds cols rows rows.length) = [] := by
  have hv2 := rest_valid hv
  unfold redF redI
  rw [if_pos hv2, List.filter_eq_nil_iff]
  intro k hk
  have hk := List.mem_range.1 hk
  have hk2 : k < (usI ds cols rows rows.length).length := by unfold restF at hk; simpa using hk
  have hg : (restF ds cols rows rows.length).getD k [] = rows.getD ((usI ds cols rows rows.length)[k]) [] := by
    unfold restF
    rw [List.getD_eq_getElem?_getD, List.getElem?_map, List.getElem?_eq_getElem hk2]; rfl
  rw [hg]
  obtain ⟨hlt, hu⟩ := usI_lt (List.getElem_mem hk2)
  have hgr : rows.getD ((usI ds cols rows rows.length)[k]) [] = rows[(usI ds cols rows rows.length)[k]] := by rw [List.getD_eq_getElem?_getD, List.getElem?_eq_getElem hlt]; rfl
  rw [hgr] at hu ⊢
  obtain ⟨vs, h1, h2, h3⟩ := (useF_iff hv hi (fun r h => List.mem_of_mem_take h) (List.getElem_mem hlt)).1 hu
  have : useF ds cols ((restF ds cols rows rows.length).take k) rows[(usI ds cols rows rows.length)[k]] = true := by
    refine (useF_iff hv hi (fun r h => rest_mem (List.mem_of_mem_take h)) (List.getElem_mem hlt)).2 ⟨vs, h1, h2, fun r hr => h3 r ?_⟩
    unfold restF at hr
    rw [← List.map_take] at hr
    obtain ⟨j, hj, rfl⟩ := List.mem_map.1 hr
    rw [List.mem_take_iff_getElem] at hj
    obtain ⟨a, ha, rfl⟩ := hj
    have hpw : List.Pairwise (· < ·) (usI ds cols rows rows.length) := List.Pairwise.filter _ List.pairwise_lt_range
    have hjk := List.pairwise_iff_getElem.1 hpw a k (by omega) hk2 (by omega)
    have hjl : (usI ds cols rows rows.length)[a] < rows.length := by omega
    rw [List.getD_eq_getElem?_getD, List.getElem?_eq_getElem hjl]
    simp only [Option.getD_some]
    rw [List.mem_take_iff_getElem]
    exact ⟨_, by omega, rfl⟩
  simp [this]
theorem restF_succ {n : Nat} : restF ds cols rows (n + 1) = restF ds cols rows n ++ (if useF ds cols (rows.take n) (rows.getD n []) then [rows.getD n []] else []) := by
  unfold restF usI
  rw [List.range_succ, List.filter_append, List.map_append]
  congr 1
  cases h : useF ds cols (rows.take n) (rows.getD n []) <;> simp only [List.filter_cons, h, Bool.false_eq_true, if_true, if_false, List.filter_nil, List.map_cons, List.map_nil]
theorem red_any (hv : validM ds cols rows = 0) {i : Nat} (hi : i < rows.length) : ((redF ds cols rows).any fun x => decide (x = i)) = !useF ds cols (rows.take i) (rows.getD i []) := by
  unfold redF redI
  rw [if_pos hv, Bool.eq_iff_iff, List.any_eq_true]
  constructor
  · rintro ⟨x, hx, he⟩
    obtain rfl : x = i := of_decide_eq_true he
    exact (List.mem_filter.1 hx).2
  · intro h
    exact ⟨i, List.mem_filter.2 ⟨List.mem_range.2 hi, h⟩, by simp⟩
end
/-! The fourth law. -/
theorem rev_cov {ds : List Dm} {cols : List Int} {rows : List Row} : Cov ds cols rows ↔ Cov ds cols rows.reverse := by
  constructor
  · intro h vs hv
    obtain ⟨r, h1, h2⟩ := h vs hv
    exact ⟨r, List.mem_reverse.2 h1, h2⟩
  · intro h vs hv
    obtain ⟨r, h1, h2⟩ := h vs hv
    exact ⟨r, List.mem_reverse.1 h1, h2⟩
theorem rev_valid (ds : List Dm) (cols : List Int) (rows : List Row) : validM ds cols rows.reverse = validM ds cols rows := by
  unfold validM bigM big0
  rw [List.length_reverse, List.all_reverse]
theorem rev_miss {ds : List Dm} {cols : List Int} {rows : List Row} (hv : validM ds cols rows = 0) (hi : Inh ds) : (missF ds cols rows).isSome = (missF ds cols rows.reverse).isSome := by
  have h := ((missF_cov hv hi).trans rev_cov).trans (missF_cov (by rw [rev_valid]; exact hv) hi).symm
  cases h1 : missF ds cols rows with
  | none => rw [h.1 h1]
  | some a =>
    cases h2 : missF ds cols rows.reverse with
    | none => rw [h.2 h2] at h1; cases h1
    | some b => rfl
end Go.Abs
namespace Go.Abs
mutual
theorem nw_size : ∀ t : Ty, nw t ≤ t.size
  | .mk k i us => by have := nws_sizes us; simp only [nw, Ty.size]; split <;> omega
theorem nws_sizes : ∀ us : List Ty, nws us ≤ Ty.sizes us
  | [] => Nat.le_refl _
  | u :: us => by have := nw_size u; have := nws_sizes us; simp only [nws, Ty.sizes]; omega
end
theorem sizes_sum : ∀ us : List Ty, Ty.sizes us = (us.map Ty.size).sum
  | [] => rfl
  | u :: us => by simp only [Ty.sizes, List.map_cons, List.sum_cons, sizes_sum us]
end Go.Abs
namespace Go.Abs
theorem rest_nw {ds : List Dm} {cols : List Int} {rows : List Row} : ∀ n, n ≤ rows.length → nwR (restF ds cols rows n) ≤ nwR (rows.take n)
  | 0, _ => by simp [restF, usI, nwR]
  | n + 1, h => by
    have ih := rest_nw (ds := ds) (cols := cols) (rows := rows) n (by omega)
    have hn : n < rows.length := by omega
    rw [restF_succ, List.take_succ_eq_append_getElem hn]
    have hg : rows.getD n [] = rows[n] := by rw [List.getD_eq_getElem?_getD, List.getElem?_eq_getElem hn]; rfl
    rw [hg]
    unfold nwR at ih ⊢
    rw [List.map_append, List.map_append, List.sum_append, List.sum_append]
    split
    · simp only [List.map_cons, List.map_nil]; omega
    · simp only [List.map_nil, List.sum_nil]; omega
theorem rest_xin {ds : List Dm} {cols : List Int} {rows : List Row} (h : XIn ds cols rows) : XIn ds cols (restF ds cols rows rows.length) :=
  ⟨h.w, h.c, ⟨by have := rest_len (ds := ds) (cols := cols) (rows := rows) rows.length; have := h.r.len; omega, fun r hr => h.r.el r (rest_mem hr)⟩, by
    have := rest_nw (ds := ds) (cols := cols) (rows := rows) rows.length (Nat.le_refl _)
    rw [List.take_length] at this
    have := h.b; omega⟩
theorem red_any2 {ds : List Dm} {cols : List Int} {rows : List Row} (hv : validM ds cols rows = 0) {i : Nat} (hi : i < rows.length) : ((redF ds cols rows).any fun x => decide ((i : Int) = (x : Int))) = !useF ds cols (rows.take i) (rows.getD i []) := by
  rw [← red_any hv hi]
  congr 1
  funext x
  rw [decide_eq_decide]; omega
end Go.Abs
namespace Go.Abs
theorem nwR_app (rows : List Row) (row : Row) : nwR (rows ++ [row]) = nwR rows + nws row := by simp [nwR]
theorem xin_app {ds : List Dm} {cols : List Int} {rows : List Row} {row : Row} (h : XIn ds cols rows) (hl : (rows.length + 1) * 24 ≤ 2 ^ 47) (hw : row.length * 40 ≤ 2 ^ 47 ∧ ∀ u ∈ row, u.W) (hb : nwR rows + nws row ≤ 2 ^ 22) : XIn ds cols (rows ++ [row]) :=
  ⟨h.w, h.c, ⟨by simpa using hl, fun r hr => by
    rcases List.mem_append.1 hr with hr | hr
    · exact h.r.el r hr
    · rw [List.mem_singleton.1 hr]; exact hw⟩, by rw [nwR_app]; exact hb⟩
end Go.Abs
namespace Go.Abs
theorem nwR_rev (rows : List Row) : nwR rows.reverse = nwR rows := by
  unfold nwR
  rw [List.map_reverse]
  exact List.sum_reverse_nat ..
theorem xin_rev {ds : List Dm} {cols : List Int} {rows : List Row} (h : XIn ds cols rows) : XIn ds cols rows.reverse :=
  ⟨h.w, h.c, ⟨by rw [List.length_reverse]; exact h.r.len, fun r hr => h.r.el r (List.mem_reverse.1 hr)⟩, by rw [nwR_rev]; exact h.b⟩
end Go.Abs
namespace Go.Abs
section
variable {P : Program} {N nb : Nat} {ops : Array Oper} {Q : Post}
/-- An append to an empty slice without room: what it makes is taken as a row that may change. -/
theorem aops_appendM {o : Oper} {l : List Oper} {T : Slots} {H : Heap} {x y : Operand} {t u : TypeId} {ei : TypeId × TI} {z : PV} {xs : List PV} {tl : Tail} (id : Nat) (hid : H[id]? = some .unborn) (hw : awanted ops.toList T N o = some true)
    (hop : o.op = .call ⟨.builtin .append, #[x, y], #[t, u]⟩) (okx : okOpnd N x = true) (oky : okOpnd N y = true) (hx : aev T x = .slice [] .full) (hy : aev T y = .slice xs tl) (hne : xs ≠ [])
    (hb : xs.length * ei.2.bytes ≤ 2 ^ 47) (hm : xs.length ≤ maxLen) (hxs : ∀ e ∈ xs, e.cells.length = ei.2.sz) (hsz : 0 < ei.2.sz)
    (hte : telem P t = some ei) (htu : (telem P u).isSome = true) (hz : tzero P ei.1 = some z) (hzf : z.fits ei.2 = true)
    (h : ∀ (c : Nat) (rest : List PV), xs.length ≤ c → c ≤ maxLen → rest = (List.replicate (c - xs.length) z.cells).flatten → AOps P N nb ops Q l (updO T o.dst (.msl id 0 xs.length c)) (H.set id (.row (flatE xs ++ rest)))) : AOps P N nb ops Q (o :: l) T H := by
  intro E a ho hH ht
  subst hH
  obtain ⟨e, i⟩ := ei
  obtain ⟨h1, h2⟩ := telem_some hte
  obtain ⟨dd, f, h3, h4, rfl⟩ := tinfo_some h2
  obtain ⟨f', zv, h5, h6, rfl⟩ := tzero_some hz
  simp only at h5 hzf hb hxs hsz
  rw [h4] at h5; cases h5
  obtain ⟨hzs, hzj⟩ := PV.fits_spec hzf
  simp only at hzs
  obtain ⟨zc1, zc2⟩ := (vrel_ofConst E.view zv).not_junk_cells hzj
  have hzv : zv.cells.size = f.size := zc1.trans hzs
  obtain ⟨eu, hue⟩ := telem_isSome htu
  have hvx := vrel_eval ht x okx
  have hvy := vrel_eval ht y oky
  rw [hx] at hvx; rw [hy] at hvy
  obtain ⟨adx, vx⟩ : ∃ ad, a.eval x = .slice ad 0 0 := by
    generalize a.eval x = w at hvx
    cases hvx with
    | nils _ _ => exact ⟨none, rfl⟩
    | slice ad len cap sz _ _ vs hlen hcap hmax hsz' hc hr ht =>
      have : cap = len := ht
      subst this; simp at hlen; subst hlen; exact ⟨some ad, rfl⟩
  have em : maxLen = 9223372036854775807 := by decide
  have hxl : 0 < xs.length := List.length_pos_iff.2 hne
  obtain ⟨c, hc6, hc7, hc8⟩ := run_choose_cap (P := P) (w := E.w) xs.length 0 e
  have hcm : c ≤ maxLen := by
    have := hc8 (by have e2 : maxLen = 2 ^ 63 - 1 := rfl; omega)
    have e2 : maxLen = 2 ^ 63 - 1 := rfl
    omega
  have hd := ho.drew
  obtain ⟨arrx, r1, r2, ady, capy, vy, hcy1, hcy2, _⟩ := run_first (P := P) (E := E.drew) hvy hxs
  have hxsz : arrx.size = xs.length * f.size := by rw [r2.1, flatE_length xs hxs]
  have hzl := rl_zero (V := E.view) zv hzj (c - xs.length)
  have hzl2 : RL E.view (Builtin.zeroCells zv.cells (c - xs.length)) ((List.replicate (c - xs.length) (ofConst zv).cells).flatten) := by
    have := hzl
    rw [flatE_replicate] at this
    exact this
  let arr : Array Value := #[] ++ arrx ++ Builtin.zeroCells zv.cells (c - xs.length)
  have hrl : RL E.drew.view arr (flatE xs ++ (List.replicate (c - xs.length) (ofConst zv).cells).flatten) := by
    have := rl_append (V := E.drew.view) (a1 := arrx) (c1 := flatE xs) r2 hzl2
    simpa [arr] using this
  have hle' := Env.newRow_le (E := E.drew) hd (id := id) hid arr e (flatE xs ++ (List.replicate (c - xs.length) (ofConst zv).cells).flatten)
  have hok' := Env.Ok.newRow (E := E.drew) hd (id := id) hid arr e (flatE xs ++ (List.replicate (c - xs.length) (ofConst zv).cells).flatten) hrl.1 hrl.2
  have hlen := len_of_get hid
  have run1 : (execOp a.eval o).run P E.w = .ok (.value (.slice (some ⟨E.w.heap.size, 0, none⟩) xs.length c)) (E.drew.newRow id arr e (flatE xs ++ (List.replicate (c - xs.length) (ofConst zv).cells).flatten)).w := by
    unfold execOp
    rw [hop]
    simp only
    refine (run_builtin (c := ⟨.builtin .append, #[x, y], #[t, u]⟩) (a := a) (E := E) (P := P) (xs := [x, y]) (ts := [t, u]) (ty := o.type) rfl rfl rfl (s := Builtin.append_ #[t, u] o.type #[a.eval x, a.eval y]) rfl).trans ?_
    have hc6' : (choose (.appendCap xs.length 0 e)).run P E.w = .ok c E.drew.w := hc6
    have n2 : ¬ xs.length ≤ 0 := by omega
    have n3 : ¬ ((xs.length : Nat) : Int) > IntKind.i64.max := by
      have e1 : IntKind.i64.max = 9223372036854775807 := by decide
      rw [e1]; omega
    have n4 : ¬ Builtin.nextslicecap xs.length 0 * f.bytes > 2 ^ 48 := by
      have := nextslicecap_le xs.length 0 (by omega)
      have := Nat.mul_le_mul_right f.bytes this
      rw [Nat.mul_assoc] at this
      omega
    have hfirst : (Builtin.firstCells f.size 0 (.slice adx 0 0)).run P E.drew.w = .ok #[] E.drew.w := by
      cases adx <;> simp only [Builtin.firstCells, Nat.zero_mul, loadCells, loadCellsFrom, Sem.run_pure]
    have r1' : (Builtin.firstCells f.size xs.length (.slice ady xs.length capy)).run P E.drew.w = .ok arrx E.drew.w := by rw [← vy]; exact r1
    simp only [Builtin.append_, List.getElem?_toArray, List.getElem?_cons_zero, List.getElem?_cons_succ, Sem.run_bind, run_under h1, run_size h4, run_under hue, Result.andThen_ok, Sem.run_pure, vx, vy, Builtin.lenOf, n2, n3, n4, if_true, if_false, run_tinfo h4,
      Nat.zero_add, Bool.not_false, Bool.false_eq_true, run_zero h4 h6, hc6', run_ask, hfirst, r1', Go.newRow, run_newObj, false_and]
    rfl
  have hv : VRel (E.drew.newRow id arr e (flatE xs ++ (List.replicate (c - xs.length) (ofConst zv).cells).flatten)).view (.slice (some ⟨E.w.heap.size, 0, none⟩) xs.length c) (.msl id 0 xs.length c) := by
    have := VRel.msl (V := (E.drew.newRow id arr e (flatE xs ++ (List.replicate (c - xs.length) (ofConst zv).cells).flatten)).view) id 0 xs.length c
      ⟨.row _, by simp only [Env.newRow]; exact List.getElem?_set_self (len_of_get hid), by simp⟩ hcm
    simpa [Env.view, Env.newRow, Env.drew] using this
  refine wpList_cons (awanted_sound ht hw) ?_
  unfold Oper.wp
  rw [run1]
  show wpList P ops _ _ (a.put o.dst _) _
  have hn := h c _ hc7 hcm rfl _ _ hok' rfl ((ht.mono (E.drew_le.trans hle').view).put o.dst hv)
  exact wpList_mono (fun e a w hl => lift_mono ((E.drew_le.trans hle').leN nb) (fun _ _ _ q => q) hl) l _ _ hn
end
end Go.Abs
