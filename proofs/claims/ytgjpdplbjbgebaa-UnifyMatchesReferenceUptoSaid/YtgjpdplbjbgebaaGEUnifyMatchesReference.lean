/- Part 5 of a proof of the law UnifyMatchesReference: Go data as trees, the walks of the functions that the law reaches, the plain laws. -/
import Derived.Test.YtgjpdplbjbgebaaGDUnifyMatchesReference
set_option linter.unusedVariables false
set_option linter.unusedSimpArgs false
set_option maxRecDepth 4000
namespace Go.Abs
open Go.Proofs
def zagg : PV := .agg [.int .i64 0, .int .i64 0, .int .i64 0, .slice [] .full]
theorem rowU_flat (L : List Bd) (z : Nat) : rowU L z = flatE (L.map Bd.enc ++ List.replicate z zagg) := by
  unfold rowU flatE; simp [zagg, PV.cells]
structure UGood (n : Nat) (B : Bs) : Prop where
  nd : (B.map (·.1)).Nodup
  len : B.length ≤ 1073741824
  w : WB B
  wi : ∀ e ∈ B, ∃ b, withinF n B e.2 = some b ∧ (b = true → okR n B e.2)
theorem lk_mem {α : Type} : ∀ {B : List (Int × α)}, (B.map (·.1)).Nodup → ∀ e ∈ B, lk B e.1 = some e.2
  | x :: B, h, e, he => by
    simp only [List.map_cons, List.nodup_cons] at h
    simp only [lk]
    rcases List.mem_cons.1 he with rfl | he
    · rw [if_pos rfl]
    · rw [if_neg (fun q => h.1 (by rw [q]; exact List.mem_map.2 ⟨e, he, rfl⟩))]
      exact lk_mem h.2 e he
theorem bel_cells_Bd (b : Bd) : ∀ x ∈ b.enc.cells, Bel 0 x := fun x hx => by
  have := Bd.bel 0 b
  cases this with | agg _ h => exact h x hx
theorem bel_cells_z : ∀ x ∈ zagg.cells, Bel 0 x := fun x hx => by
  simp only [zagg, PV.cells, List.mem_cons, List.not_mem_nil, or_false] at hx
  rcases hx with rfl | rfl | rfl | rfl <;> first | exact .int _ _ | exact bel_nil0 _

theorem unify_k {n : Nat} {eqs : List Eq2} (HS : SortsX Try.prog 36 37) (HN : SortsNil Try.prog 36 37) (hw : ∀ e ∈ eqs, e.l.W ∧ e.r.W) (hlen : eqs.length ≤ maxLen)
    (hs : (decide (((eqs.length : Nat) : Int) > 100) || eqs.any bad) = false → ∃ c B, solveF n eqs [] = some (c, B) ∧ (c = true → UGood n B)) :
    PC Try.prog 9 [.slice (eqs.map Eq2.enc) .none] (.tup [.slice ((uniR n eqs).1.map Bd.enc) .none, .bool (uniR n eqs).2]) := by
  refine pc_of (N := 57) Try.func9 rfl rfl (by simp) (by simp [bel_Eq2]) (.tup _ (by simp [bel_Bd, Bel.bool])) ?_
  repeat (refine awp_seq ?_)
  refine e_eval (by simp only [jA, jO, jN, seval, vint, TyS, TyF, MapS, EqS, BdS] <;> with_reducible rfl) (by decide) ?_
  repeat (refine awp_seq ?_)
  refine awp_region ?_
  refine aops_gstart ?_
  refine g_take 5 (by simp only [jG, jO, jN, seval, y3, y22, y31, vint, TyS, TyF, MapS, EqS, BdS] <;> with_reducible rfl) (by decide) ?_
  refine aops_gpure (by simp only [jE, jN, seval, vint, TyS, TyF, MapS, EqS, BdS] <;> with_reducible rfl) (by simp only [jE, jN, seval, vint, TyS, TyF, MapS, EqS, BdS] <;> with_reducible rfl) (by simp only [jE, jN, seval, vint, TyS, TyF, MapS, EqS, BdS]) (by decide) Trygo30 (fun hc => containsFuncEq2 (p := bad) ⟨Trygo31, by simp, fun e he => bad_k e (hw e he).1 (hw e he).2 _⟩ hlen) ?_
  refine g_end (by simp only [jG, jO, jN, seval, vint, TyS, TyF, MapS, EqS, BdS] <;> with_reducible rfl) (by decide) (by repeat (first | exact Fin.base _ | with_reducible apply Fin.keep | apply Fin.drop)) ?_
  repeat (refine awp_seq ?_)
  refine awp_cond rfl (by simp only [jN, seval, vint, TyS, TyF, MapS, EqS, BdS] <;> with_reducible rfl) (fun bt16 => ?_) (fun bt16 => ?_)
  ·
    skip
    repeat (refine awp_seq ?_)
    refine e_eval (by simp only [jA, jO, jN, seval, vint, TyS, TyF, MapS, EqS, BdS] <;> with_reducible rfl) (by decide) ?_
    repeat (refine awp_seq ?_)
    refine awp_ret ⟨.inr rfl, _, (ares_two (.tmp 2) (.tmp 3) rfl (ares_tmp1 (by decide)) (ares_tmp1 (by decide))), ?_⟩
    simp only [jN, seval, vint, TyS, TyF, MapS, EqS, BdS]
    unfold uniR
    rw [if_pos bt16]; rfl
  ·
    obtain ⟨c0, B, hsv, hug⟩ := hs bt16
    repeat (refine awp_seq ?_)
    refine awp_skip ?_
    repeat (refine awp_seq ?_)
    refine awp_region ?_
    refine aops_acall (by simp only [jC, jN, seval, vint, TyS, TyF, MapS, EqS, BdS] <;> with_reducible rfl) (by simp only [jC, jN, seval, vint, TyS, TyF, MapS, EqS, BdS]) (by decide) Trygo32 (newSolver) ?_
    rintro _ _ ⟨rfl, rfl⟩
    refine e_end (by simp only [jA, jO, jN, seval, vint, TyS, TyF, MapS, EqS, BdS] <;> with_reducible rfl) (by decide) ?_
    repeat (refine awp_seq ?_)
    refine e_eval (by simp only [jA, jO, jN, seval, y22, y31, vint, TyS, TyF, MapS, EqS, BdS] <;> with_reducible rfl) (by decide) ?_
    repeat (refine awp_seq ?_)
    refine awp_forS (σ := Bs × Int) (eqs.length) (fun (q : Bs × Int) => [(4, .optr 1 0), (18, .slice (eqs.map Eq2.enc) .none)]) [4, 18] ([]) (fun (q : Bs × Int) => [.obj (.mapo (mp Ty.enc q.1)), .row [.mapp 0, .int .i64 q.2]]) (fun (i : Nat) (q : Bs × Int) => solveF n (eqs.drop i) q.1 = some (c0, B) ∧ WB q.1) (([], 0)) ([]) rfl rfl rfl rfl rfl rfl rfl rfl rfl (by decide) (by decide) (by decide) (fun _ => rfl) (hlen) ⟨(by first | rfl | (simp only [jN, seval, vint, TyS, TyF, MapS, EqS, BdS] <;> first | done | with_reducible rfl)), (by first | rfl | (simp only [jN, seval, vint, TyS, TyF, MapS, EqS, BdS] <;> first | done | with_reducible rfl)), (by first | rfl | (simp only [jN, seval, vint, TyS, TyF, MapS, EqS, BdS] <;> first | done | with_reducible rfl)), (by first | rfl | (simp only [jN, seval, vint, TyS, TyF, MapS, EqS, BdS] <;> first | done | with_reducible rfl)), trivial⟩ (by first | rfl | (simp only [jN, seval, vint, TyS, TyF, MapS, EqS, BdS] <;> first | done | with_reducible rfl)) (⟨hsv, fun n t h => by cases h⟩) (fun i q hg => Nat.zero_le _) ?_ ?_ ?_
    · intro i q hg
      refine ⟨HBel.cons (bel_mp _ _ _ fun t => Ty.bel _ t) (HBel.cons (fun c hc => ?_) (hbel_nil _)), .cons (.optr _ _ (by simp)) (.cons (bel_Eq2 _ _) .nil)⟩
      simp at hc
      rcases hc with rfl | rfl
      · exact .mapp _ (by simp)
      · exact .int _ _
    · intro i q hi hg
      obtain ⟨hg, hqB⟩ := hg
      have g1 := ix_nat hi
      have g2 := get_enc Eq2.enc hi
      obtain ⟨w1, w2⟩ := hw _ (List.getElem_mem hi)
      rw [List.drop_eq_getElem_cons hi] at hg
      simp only [solveF] at hg
      obtain ⟨⟨c1, B1, p1⟩, e1, hg⟩ := Option.bind_eq_some_iff.1 hg
      obtain ⟨i1, i2, i3⟩ := uni_inv _ _ _ _ _ e1 w1 w2 hqB (by show (0 : Int) ≤ 20000; omega)
      simp only at i1
      repeat (refine awp_seq ?_)
      refine e_eval (by simp only [jA, jO, jN, seval, y22, y31, vint, TyS, TyF, MapS, EqS, BdS, g1, Int.toNat_natCast, g2] <;> with_reducible rfl) (by decide) ?_
      repeat (refine awp_seq ?_)
      refine awp_region ?_
      refine e_take 5 (by simp only [jA, jO, jN, seval, y29, y31, vint, TyS, TyF, MapS, EqS, BdS, g1, Int.toNat_natCast, g2] <;> with_reducible rfl) (by decide) ?_
      refine aops_acall (by simp only [jC, jN, seval, vint, TyS, TyF, MapS, EqS, BdS, g1, Int.toNat_natCast, g2] <;> with_reducible rfl) (by simp only [jC, jN, seval, vint, TyS, TyF, MapS, EqS, BdS, g1, Int.toNat_natCast, g2]) (by decide) Trygo33 ((by have := solve_k (im := 0) (is := 1) (p := q.2) (H := [.obj (.mapo (mp Ty.enc q.1)), .row [.mapp 0, .int .i64 q.2], .row [.int .i64 eqs[i].l.kind, .int .i64 eqs[i].l.id, .slice (eqs[i].l.args.map Ty.enc) .none, .int .i64 eqs[i].r.kind, .int .i64 eqs[i].r.id, .slice (eqs[i].r.args.map Ty.enc) .none]]) e1 w1 w2 hqB (by simp) (by simp) (by simp); exact this)) ?_
      rintro _ _ ⟨rfl, rfl⟩
      refine e_end (by simp only [jA, jO, jN, seval, vint, TyS, TyF, MapS, EqS, BdS, g1, Int.toNat_natCast, g2] <;> with_reducible rfl) (by decide) ?_
      repeat (refine awp_seq ?_)
      refine awp_cond rfl (by simp only [jN, seval, vint, TyS, TyF, MapS, EqS, BdS, g1, Int.toNat_natCast, g2] <;> with_reducible rfl) (fun bt30 => ?_) (fun bt30 => ?_)
      ·
        have hc1 : c1 = false := by simpa using bt30
        subst hc1
        rw [if_neg (by simp)] at hg
        cases hg
        repeat (refine awp_seq ?_)
        refine e_eval (by simp only [jA, jO, jN, seval, vint, TyS, TyF, MapS, EqS, BdS, g1, Int.toNat_natCast, g2] <;> with_reducible rfl) (by decide) ?_
        repeat (refine awp_seq ?_)
        refine awp_ret ⟨.inr rfl, _, (ares_two (.tmp 2) (.tmp 3) rfl (ares_tmp1 (by decide)) (ares_tmp1 (by decide))), ?_⟩
        simp only [jN, seval, vint, TyS, TyF, MapS, EqS, BdS]
        unfold uniR
        rw [if_neg (by rw [bt16]; simp)]
        rw [hsv]; rfl
      ·
        have hc1 : c1 = true := by simpa using bt30
        subst hc1
        rw [if_pos rfl] at hg
        repeat (refine awp_seq ?_)
        refine awp_skip ?_
        exact ⟨⟨rfl, rfl, trivial⟩, (B1, p1), _, ⟨rfl, rfl, trivial⟩, (by simp only [jN, seval, vint, TyS, TyF, MapS, EqS, BdS] <;> rfl), hg, i1⟩
    · intro q hg
      obtain ⟨hg, hqB⟩ := hg
      rw [List.drop_eq_nil_of_le (Nat.le_refl _)] at hg
      simp only [solveF] at hg
      cases hg
      have ug := hug rfl
      obtain ⟨B, p⟩ := q
      simp only at hsv hqB ug ⊢
      repeat (refine awp_seq ?_)
      refine e_eval (by simp only [jA, jO, jN, seval, vint, TyS, TyF, MapS, EqS, BdS] <;> with_reducible rfl) (by decide) ?_
      repeat (refine awp_seq ?_)
      refine awp_region ?_
      refine e_take 4 (by simp only [jA, jO, jN, seval, y29, y58, y60, vint, TyS, TyF, MapS, EqS, BdS] <;> with_reducible rfl) (by decide) ?_
      refine aops_rangeM (t := 58) (k := 3) (e := 29) (im := 0) (es := mp Ty.enc B) (by rfl) rfl (by simp only [jC, jN, seval, vint, TyS, TyF, MapS, EqS, BdS] <;> first | done | rfl) Try.underlying58 (by decide) (by simp only [jC, jN, seval, vint, TyS, TyF, MapS, EqS, BdS]) ?_
      refine aops_nil ?_
      repeat (refine awp_seq ?_)
      refine awp_block ?_
      refine awp_loopS (σ := UQ) (fun (q : UQ) => [(4, .optr 1 0), (7, slotU q.2.1 q.2.2), (36, .optr 2 0)]) ([]) (fun (q : UQ) => hpU B p q.1 q.2.1 q.2.2) (fun (q : UQ) => unseen B.length q.1) (fun (q : UQ) => UOk n B q) (([], [], none)) ([]) ⟨(by first | rfl | (simp only [jN, seval, vint, TyS, TyF, MapS, EqS, BdS] <;> first | done | with_reducible rfl)), (by first | rfl | (simp only [jN, seval, vint, TyS, TyF, MapS, EqS, BdS] <;> first | done | with_reducible rfl)), (by first | rfl | (simp only [jN, seval, vint, TyS, TyF, MapS, EqS, BdS] <;> first | done | with_reducible rfl)), trivial⟩ (by first | rfl | (simp only [jN, seval, vint, TyS, TyF, MapS, EqS, BdS] <;> first | done | with_reducible rfl)) (UOk.start n B) (fun _ _ => Nat.zero_le _) ?_ ?_
      · intro q hg
        have h3 := lenU_ge q.2.1 q.2.2
        try simp only [List.nil_append]
        exact ⟨hbel_hpU B p q.1 hg.g q.2.2 _ (by rw [hpU_len]; omega), .cons (.optr _ _ (by rw [hpU_len]; omega)) (.cons (bel_slotU _ _ _ (by rw [hpU_len]; exact Nat.le_refl _)) (.cons (.optr _ _ (by rw [hpU_len]; omega)) .nil))⟩
      · intro q hg
        obtain ⟨seen, G, pl⟩ := q
        try simp only at hg
        have X := hpU_rules B p G pl
        have X0 := fun s => hpU_get0 B p s G pl []
        try simp only [List.append_nil] at X0
        have hlB := ug.len
        repeat (refine awp_seq ?_)
        refine awp_region ?_
        refine aops_nextM (im := 0) (it := 2) (es := mp Ty.enc B) (seen := seen) (X0 seen).2.2 (X0 seen).1 rfl (by simp only [jC, jN, seval, vint, TyS, TyF, MapS, EqS, BdS] <;> first | done | rfl) (by decide) (by simp only [jC, jN, seval, vint, TyS, TyF, MapS, EqS, BdS]) ?_
        intro ch hch
        try simp only [List.nil_append]
        rw [hpU_set2]
        refine e_end (by simp only [jA, jO, jN, seval, vint, TyS, TyF, MapS, EqS, BdS] <;> with_reducible rfl) (by decide) ?_
        repeat (refine awp_seq ?_)
        refine awp_cond rfl (by simp only [jN, seval, vint, TyS, TyF, MapS, EqS, BdS] <;> with_reducible rfl) (fun bt38 => ?_) (fun bt38 => ?_)
        ·
          obtain ⟨i, rfl⟩ := Option.isSome_iff_exists.1 bt38
          obtain ⟨hi, hni⟩ : i < B.length ∧ i ∉ seen := by simpa [mchoice, mp] using hch
          rw [show (some i).toList = [i] from rfl]
          have hmem : B[i] ∈ B := List.getElem_mem hi
          obtain ⟨bi, hwi, hok⟩ := ug.wi _ hmem
          have hwW := ug.w _ _ (lk_mem ug.nd _ hmem)
          have hie : i < (mp Ty.enc B).length := by simpa [mp] using hi
          have ee1 : ((mp Ty.enc B)[i]'hie).1 = B[i].1 := by simp [mp]
          have ee2 : ((mp Ty.enc B)[i]'hie).2 = B[i].2.enc := by simp [mp]
          repeat (refine awp_seq ?_)
          refine awp_skip ?_
          repeat (refine awp_seq ?_)
          refine awp_block ?_
          repeat (refine awp_seq ?_)
          refine awp_region ?_
          refine aops_entryM (im := 0) (it := 2) (i := i) (es := mp Ty.enc B) (seen := seen) (X0 _).2.2 (X0 _).1 hie rfl (by simp only [jC, jN, seval, vint, TyS, TyF, MapS, EqS, BdS] <;> first | done | rfl) (by decide) (by simp only [jC, jN, seval, vint, TyS, TyF, MapS, EqS, BdS]) ?_
          rw [ee1, ee2]
          refine e_end (by simp only [jA, jO, jN, seval, y29, vint, TyS, TyF, MapS, EqS, BdS, X, X0] <;> with_reducible rfl) (by decide) ?_
          repeat (refine awp_seq ?_)
          refine awp_region ?_
          refine e_take 2 (by simp only [jA, jO, jN, seval, y29, vint, TyS, TyF, MapS, EqS, BdS, X] <;> with_reducible rfl) (by decide) ?_
          refine aops_acall (by simp only [jC, jN, seval, vint, TyS, TyF, MapS, EqS, BdS, X] <;> with_reducible rfl) (by simp only [jC, jN, seval, vint, TyS, TyF, MapS, EqS, BdS, X]) (by decide) Trygo34 (within_k hwi ug.w hwW (X.2.2.2.2.2.2.1 _ _) (X.2.2.2.2.2.1 _ _)) ?_
          rintro _ _ ⟨rfl, rfl⟩
          refine e_end (by simp only [jA, jO, jN, seval, vint, TyS, TyF, MapS, EqS, BdS, X] <;> with_reducible rfl) (by decide) ?_
          repeat (refine awp_seq ?_)
          refine awp_cond rfl (by simp only [jN, seval, vint, TyS, TyF, MapS, EqS, BdS] <;> with_reducible rfl) (fun bt45 => ?_) (fun bt45 => ?_)
          ·
            have hbi : bi = false := by simpa using bt45
            repeat (refine awp_seq ?_)
            refine e_eval (by simp only [jA, jO, jN, seval, vint, TyS, TyF, MapS, EqS, BdS] <;> with_reducible rfl) (by decide) ?_
            repeat (refine awp_seq ?_)
            refine awp_ret ⟨.inr rfl, _, (ares_two (.tmp 2) (.tmp 3) rfl (ares_tmp1 (by decide)) (ares_tmp1 (by decide))), ?_⟩
            simp only [jN, seval, vint, TyS, TyF, MapS, EqS, BdS]
            unfold uniR
            rw [if_neg (by rw [bt16]; simp)]
            have : B.all (inB n B) = false := by
              rw [List.all_eq_false]
              exact ⟨_, hmem, by unfold inB; rw [hwi, hbi]; simp⟩
            rw [hsv]
            simp only [this, Bool.false_eq_true, if_false]
            rfl
          ·
            have hbi : bi = true := by simpa using bt45
            have hin : inB n B (entB B i) = true := by rw [entB_eq hi]; unfold inB; rw [hwi, hbi]; rfl
            repeat (refine awp_seq ?_)
            refine awp_skip ?_
            rcases pl with _ | ⟨L, _ | z⟩
            ·
              try simp only at hg
              repeat (refine awp_seq ?_)
              refine awp_region ?_
              refine e_take 4 (by simp only [jA, jO, jN, seval, y29, vint, TyS, TyF, MapS, EqS, BdS, slotU, X] <;> with_reducible rfl) (by decide) ?_
              refine aops_acall (by simp only [jC, jN, seval, vint, TyS, TyF, MapS, EqS, BdS, slotU, X] <;> with_reducible rfl) (by simp only [jC, jN, seval, vint, TyS, TyF, MapS, EqS, BdS, slotU, X]) (by decide) Trygo35 (res_k ug.w n B[i].2 _ (hok hbi) hwW (X.2.2.2.2.2.2.1 _ _) (X.2.2.2.2.2.1 _ _)) ?_
              rintro _ _ ⟨rfl, rfl⟩
              refine e_take 2 (by simp only [jA, jO, jN, seval, y24, y42, vint, TyS, TyF, MapS, EqS, BdS, slotU, X] <;> with_reducible rfl) (by decide) ?_
              refine aops_appNew (n := 0) (oc := []) (e1 := (Bd.mk B[i].1 (rsvF n B B[i].2)).enc) (tl := .full) (by simp only [jC, jN, seval, vint, TyS, TyF, MapS, EqS, BdS, X]) rfl (by decide) (by decide) (by simp only [jC, jN, seval, vint, TyS, TyF, MapS, EqS, BdS, X] <;> first | done | rfl) (by show _ * 48 ≤ _; omega) (by simp only [maxLen]; omega) rfl Tryte24 (by rw [Tryte24]; rfl) Trytz42 rfl (fun E v ho hH hv => first_nil (show VRel E.view v (.slice [] .full) from (by simpa only [jN, seval, vint, TyS, TyF, MapS, EqS, BdS, X] using hv))) ?_
              intro c rest hc1 hc2 hrest
              subst hrest
              rw [show (AObj.row ([] ++ (Bd.mk B[i].1 (rsvF n B B[i].2)).enc.cells ++ (List.replicate (c - (0 + 1)) (PV.agg [.int .i64 0, .int .i64 0, .int .i64 0, .slice [] .full]).cells).flatten)) = .row (rowU ([] ++ [(Bd.mk B[i].1 (rsvF n B B[i].2))]) (c - (0 + 1))) from congrArg AObj.row (rowU_new [] _ _), hpU_first]
              refine e_end (by simp only [jA, jO, jN, seval, vint, TyS, TyF, MapS, EqS, BdS, slotU, X] <;> with_reducible rfl) (by decide) ?_
              try simp only [thenQ, blockQ]
              have hse : seen = [] := hg.pl
              subst hse
              exact ⟨([] ++ [i], G ++ [AObj.row [.int .i64 B[i].2.kind, .int .i64 B[i].2.id, .slice (B[i].2.args.map Ty.enc) .none]], some ([] ++ [(Bd.mk B[i].1 (rsvF n B B[i].2))], c - (0 + 1))), [], by show unseen _ _ < unseen _ _; exact unseen_lt hi hni, ⟨rfl, by show PV.msl (lenU G none + 1) 0 (0 + 1) c = PV.msl (3 + (G ++ [AObj.row [.int .i64 B[i].2.kind, .int .i64 B[i].2.id, .slice (B[i].2.args.map Ty.enc) .none]]).length) 0 ([] ++ [(Bd.mk B[i].1 (rsvF n B B[i].2))]).length (([] ++ [(Bd.mk B[i].1 (rsvF n B B[i].2))]).length + (c - (0 + 1))); refine congr (congr (congr (congrArg PV.msl ?_) rfl) ?_) ?_ <;> simp [lenU] <;> omega, rfl, trivial⟩, (List.append_nil _).symm, hg.step hi hni (hbel_app hg.g (Nat.le_refl _) (show HBel 0 [AObj.row [.int .i64 B[i].2.kind, .int .i64 B[i].2.id, .slice (B[i].2.args.map Ty.enc) .none]] from HBel.cons (by rw [← Ty.enc_cells]; exact obel_ty 0 _) (hbel_nil _))) (by simp [resB, entB_eq hi]) hin⟩
            ·
              obtain ⟨hl1, hl2⟩ := hg.lenL
              have hL := hg.pl.1
              repeat (refine awp_seq ?_)
              refine awp_region ?_
              refine e_take 4 (by simp only [jA, jO, jN, seval, y29, vint, TyS, TyF, MapS, EqS, BdS, X] <;> with_reducible rfl) (by decide) ?_
              refine aops_acall (by simp only [jC, jN, seval, vint, TyS, TyF, MapS, EqS, BdS, X] <;> with_reducible rfl) (by simp only [jC, jN, seval, vint, TyS, TyF, MapS, EqS, BdS, X]) (by decide) Trygo35 (res_k ug.w n B[i].2 _ (hok hbi) hwW (X.2.2.2.2.2.2.1 _ _) (X.2.2.2.2.2.1 _ _)) ?_
              rintro _ _ ⟨rfl, rfl⟩
              refine e_take 2 (by simp only [jA, jO, jN, seval, y24, y42, vint, TyS, TyF, MapS, EqS, BdS, X] <;> with_reducible rfl) (by decide) ?_
              refine aops_appNew (n := L.length) (oc := rowU L 0) (e1 := (Bd.mk B[i].1 (rsvF n B B[i].2)).enc) (tl := .full) (by simp only [jC, jN, seval, vint, TyS, TyF, MapS, EqS, BdS, X]) rfl (by decide) (by decide) (by simp only [jC, jN, seval, vint, TyS, TyF, MapS, EqS, BdS, X] <;> first | done | rfl) (by show _ * 48 ≤ _; omega) (by simp only [maxLen]; omega) rfl Tryte24 (by rw [Tryte24]; rfl) Trytz42 rfl (fun E v ho hH hv => first_msl (id := 3 + G.length) ho (by rw [hH]; exact hpU_row _ _ _ _ _ _ _) (by rw [rowU_len]; rfl) (show VRel E.view v (slotU G (some (L, 0))) from (by simpa only [jN, seval, vint, TyS, TyF, MapS, EqS, BdS, X] using hv))) ?_
              intro c rest hc1 hc2 hrest
              subst hrest
              rw [show (AObj.row (rowU L 0 ++ (Bd.mk B[i].1 (rsvF n B B[i].2)).enc.cells ++ (List.replicate (c - (L.length + 1)) (PV.agg [.int .i64 0, .int .i64 0, .int .i64 0, .slice [] .full]).cells).flatten)) = .row (rowU (L ++ [(Bd.mk B[i].1 (rsvF n B B[i].2))]) (c - (L.length + 1))) from congrArg AObj.row (by rw [← rowU_new]; simp [rowU, PV.cells]), hpU_next]
              refine e_end (by simp only [jA, jO, jN, seval, vint, TyS, TyF, MapS, EqS, BdS, X] <;> with_reducible rfl) (by decide) ?_
              try simp only [thenQ, blockQ]
              exact ⟨(seen ++ [i], G ++ (.row (rowU L 0) :: [AObj.row [.int .i64 B[i].2.kind, .int .i64 B[i].2.id, .slice (B[i].2.args.map Ty.enc) .none]]), some (L ++ [(Bd.mk B[i].1 (rsvF n B B[i].2))], c - (L.length + 1))), [], by show unseen _ _ < unseen _ _; exact unseen_lt hi hni, ⟨rfl, by show PV.msl (lenU G (some (L, 0)) + 1) 0 (L.length + 1) c = PV.msl (3 + (G ++ (AObj.row (rowU L 0) :: [AObj.row [.int .i64 B[i].2.kind, .int .i64 B[i].2.id, .slice (B[i].2.args.map Ty.enc) .none]])).length) 0 (L ++ [(Bd.mk B[i].1 (rsvF n B B[i].2))]).length ((L ++ [(Bd.mk B[i].1 (rsvF n B B[i].2))]).length + (c - (L.length + 1))); refine congr (congr (congr (congrArg PV.msl ?_) rfl) ?_) ?_ <;> simp [lenU] <;> omega, rfl, trivial⟩, (List.append_nil _).symm, hg.step hi hni (hbel_app hg.g (Nat.le_refl _) (HBel.cons (obel_rowU 0 L 0) (show HBel 0 [AObj.row [.int .i64 B[i].2.kind, .int .i64 B[i].2.id, .slice (B[i].2.args.map Ty.enc) .none]] from HBel.cons (by rw [← Ty.enc_cells]; exact obel_ty 0 _) (hbel_nil _)))) (by rw [hL, List.map_append]; simp [resB, entB_eq hi]) hin⟩
            ·
              obtain ⟨hl1, hl2⟩ := hg.lenL
              have hL := hg.pl.1
              repeat (refine awp_seq ?_)
              refine awp_region ?_
              refine e_take 4 (by simp only [jA, jO, jN, seval, y29, vint, TyS, TyF, MapS, EqS, BdS, X] <;> with_reducible rfl) (by decide) ?_
              refine aops_acall (by simp only [jC, jN, seval, vint, TyS, TyF, MapS, EqS, BdS, X] <;> with_reducible rfl) (by simp only [jC, jN, seval, vint, TyS, TyF, MapS, EqS, BdS, X]) (by decide) Trygo35 (res_k ug.w n B[i].2 _ (hok hbi) hwW (X.2.2.2.2.2.2.1 _ _) (X.2.2.2.2.2.1 _ _)) ?_
              rintro _ _ ⟨rfl, rfl⟩
              refine e_take 2 (by simp only [jA, jO, jN, seval, y24, y42, vint, TyS, TyF, MapS, EqS, BdS, X] <;> with_reducible rfl) (by decide) ?_
              refine aops_appIn (id := 3 + G.length) (n := L.length) (c := L.length + (z + 1)) (cs := rowU L (z + 1)) (e1 := (Bd.mk B[i].1 (rsvF n B B[i].2)).enc) (tl := .full) (hpU_row _ _ _ _ _ _ _) (by simp only [jC, jN, seval, vint, TyS, TyF, MapS, EqS, BdS, X]) rfl (by decide) (by decide) (by simp only [jC, jN, seval, vint, TyS, TyF, MapS, EqS, BdS, X] <;> first | done | rfl) (by simp only [jC, jN, seval, vint, TyS, TyF, MapS, EqS, BdS, X] <;> first | done | rfl) (by omega) (by rw [rowU_len]) rfl rfl Tryte24 (by rw [Tryte24]; rfl) ?_
              show AOps _ _ _ _ _ _ _ ((hpU B p _ G (some (L, z + 1)) ++ _).set (3 + G.length) (.row (splice (rowU L (z + 1)) (L.length * 4) (Bd.mk B[i].1 (rsvF n B B[i].2)).enc.cells)))
              rw [rowU_in, hpU_setrow]
              refine e_end (by simp only [jA, jO, jN, seval, vint, TyS, TyF, MapS, EqS, BdS, X] <;> with_reducible rfl) (by decide) ?_
              try simp only [thenQ, blockQ]
              exact ⟨(seen ++ [i], G, some (L ++ [(Bd.mk B[i].1 (rsvF n B B[i].2))], z)), [AObj.row [.int .i64 B[i].2.kind, .int .i64 B[i].2.id, .slice (B[i].2.args.map Ty.enc) .none]], by show unseen _ _ < unseen _ _; exact unseen_lt hi hni, ⟨rfl, by show PV.msl (3 + G.length) 0 (L.length + 1) (L.length + (z + 1)) = PV.msl (3 + G.length) 0 (L ++ [(Bd.mk B[i].1 (rsvF n B B[i].2))]).length ((L ++ [(Bd.mk B[i].1 (rsvF n B B[i].2))]).length + z); refine congr (congr (congr (congrArg PV.msl ?_) rfl) ?_) ?_ <;> simp [lenU] <;> omega, rfl, trivial⟩, rfl, hg.step hi hni hg.g (by rw [hL, List.map_append]; simp [resB, entB_eq hi]) hin⟩
        ·
          have hch0 : ch = none := by simpa using bt38
          subst hch0
          rw [show (none : Option Nat).toList = [] from rfl, List.append_nil]
          have hall : ∀ i < B.length, i ∈ seen := by simpa [mchoice, mp] using hch
          have hres : uniR n eqs = (sortB (B.map (resB n B)), true) := by
            unfold uniR
            rw [if_neg (by rw [bt16]; simp), hsv]
            simp only [(hg.all hall).1, if_true]
          rw [hres]
          have hso := hg.sorted hall ug.nd
          repeat (refine awp_seq ?_)
          refine awp_exit ?_
          simp only [thenQ, blockQ, reduceIte, Nat.reduceEqDiff, Nat.succ_ne_self, if_true, if_false]
          rcases pl with _ | ⟨L, z⟩
          ·
            have hse : seen = [] := hg.pl
            subst hse
            have hnil : sortB (B.map (resB n B)) = [] := by rw [← hso.1]; simp [sortB]
            rw [hnil]
            repeat (refine awp_seq ?_)
            refine awp_region ?_
            refine e_take 1 (by simp only [jA, jO, jN, seval, vint, TyS, TyF, MapS, EqS, BdS, slotU] <;> with_reducible rfl) (by decide) ?_
            refine aops_pure (by simp only [jC, jN, seval, vint, TyS, TyF, MapS, EqS, BdS, slotU] <;> with_reducible rfl) (by simp only [jC, jN, seval, vint, TyS, TyF, MapS, EqS, BdS, slotU]) (by decide) Trygo36 (acalls_sortNil HN) ?_
            refine aops_nil ?_
            repeat (refine awp_seq ?_)
            refine e_eval (by simp only [jA, jO, jN, seval, vint, TyS, TyF, MapS, EqS, BdS, slotU] <;> with_reducible rfl) (by decide) ?_
            repeat (refine awp_seq ?_)
            refine awp_ret ⟨.inr rfl, _, (ares_two (.tmp 2) (.tmp 3) rfl (ares_tmp1 (by decide)) (ares_tmp1 (by decide))), ?_⟩
            simp only [jN, seval, vint, TyS, TyF, MapS, EqS, BdS]
          ·
            obtain ⟨hl1, hl2⟩ := hg.lenL
            have hL : L = seen.map (fun i => resB n B (entB B i)) := hg.pl.1
            rw [← hL] at hso
            rw [← hso.1]
            have hlL : (sortB L).length = L.length := (sortB_perm L).length_eq
            repeat (refine awp_seq ?_)
            refine awp_region ?_
            refine e_take 1 (by simp only [jA, jO, jN, seval, vint, TyS, TyF, MapS, EqS, BdS, slotU] <;> with_reducible rfl) (by decide) ?_
            refine aops_acall (by simp only [jC, jN, seval, vint, TyS, TyF, MapS, EqS, BdS, slotU] <;> with_reducible rfl) (by simp only [jC, jN, seval, vint, TyS, TyF, MapS, EqS, BdS, slotU]) (by decide) Trygo36 (acalls_sort HS (id := 3 + G.length) (bs := L) (rest := (List.replicate z [PV.int .i64 0, .int .i64 0, .int .i64 0, .slice [] .full]).flatten) (c := L.length + z) (hpU_row0 B p seen G L z) hso.2 (by omega)) ?_
            rintro _ _ ⟨rfl, rfl⟩
            refine aops_nil ?_
            repeat (refine awp_seq ?_)
            refine awp_freeze (H1 := []) [(7, .slice ((sortB L).map Bd.enc) .none)] ⟨.inr ⟨3 + G.length, L.length, L.length + z, 4, (sortB L).map Bd.enc ++ List.replicate z zagg, rfl, Nat.zero_le _, ?_, by simp [hlL], Nat.le_add_right _ _, ?_, ?_, ?_⟩, trivial⟩ rfl (Nat.le_refl _) (hbel_nil _) ?_
            · rw [List.getElem?_set_self (by rw [hpU_len]; simp [lenU] <;> omega), ← rowU_flat]; rfl
            · intro e he
              rcases List.mem_append.1 he with he | he
              · obtain ⟨b, _, rfl⟩ := List.mem_map.1 he; exact Bd.enc_len b
              · rw [List.eq_of_mem_replicate he]; rfl
            · intro e he
              rcases List.mem_append.1 he with he | he
              · obtain ⟨b, _, rfl⟩ := List.mem_map.1 he; exact bel_cells_Bd b
              · rw [List.eq_of_mem_replicate he]; exact bel_cells_z
            · rw [List.take_append_of_le_length (by simp [hlL]), List.take_of_length_le (by simp [hlL])]
            refine e_eval (by simp only [jA, jO, jN, seval, vint, TyS, TyF, MapS, EqS, BdS, slotU] <;> with_reducible rfl) (by decide) ?_
            repeat (refine awp_seq ?_)
            refine awp_ret ⟨.inr rfl, _, (ares_two (.tmp 2) (.tmp 3) rfl (ares_tmp1 (by decide)) (ares_tmp1 (by decide))), ?_⟩
            simp only [jN, seval, vint, TyS, TyF, MapS, EqS, BdS]

end Go.Abs
