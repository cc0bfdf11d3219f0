/- Part 5 of a proof of the law UnifyOrderIndependent: Go data as trees, the walks of the functions that the law reaches, the plain laws. -/
import Derived.Test.YtgjpdplbjbgebaaGDUnifyOrderIndependent
set_option linter.unusedVariables false
set_option linter.unusedSimpArgs false
set_option maxRecDepth 4000
namespace Go.Abs
open Go.Proofs
theorem bel_mp {α : Type} (f : α → PV) (n : Nat) (B : List (Int × α)) (h : ∀ a, Bel n (f a)) : ∀ e ∈ mp f B, Bel n e.2 := fun e he => by
  obtain ⟨x, _, rfl⟩ := List.mem_map.1 he; exact h _

theorem head_k (B : Bs) {is im : Nat} {p : PV} {n : Nat} {t r : Ty} {H : Heap} (h : headF n B t = some r) (hs : H[is]? = some (.row [.mapp im, p])) (hm : H[im]? = some (.obj (.mapo (mp Ty.enc B)))) :
    ACalls Try.prog 63 [.optr is 0, t.enc] H fun r' H' => r' = r.enc ∧ H' = H := by
  have q1 : ∀ L, (H ++ L)[is]? = some (.row [.mapp im, p]) := fun L => by rw [List.getElem?_append_left (len_of_get hs)]; exact hs
  have q2 : ∀ L, (H ++ L)[im]? = some (.obj (.mapo (mp Ty.enc B))) := fun L => by rw [List.getElem?_append_left (len_of_get hm)]; exact hm
  have ms := len_of_get hs
  have mm := len_of_get hm
  have ffs : ∀ k, (H.length + k == is) = false := fun k => by simp; omega
  have ffm : ∀ k, (H.length + k == im) = false := fun k => by simp; omega
  refine keeps_of (N := 24) Try.func63 rfl rfl (by simp) (Ty.bel _ _) fun hb' => ?_
  repeat (refine awp_seq ?_)
  refine e_eval (by simp only [jA, jO, jN, seval, y29, vint, TyS, TyF, MapS, q1, q2, ffs, ffm, Bool.not_false, Bool.and_self] <;> with_reducible rfl) (by decide) ?_
  repeat (refine awp_seq ?_)
  refine awp_block ?_
  refine awp_loopS (σ := Nat × Ty) (fun (q : Nat × Ty) => [(0, .optr is 0), (3, .optr H.length 0), (4, .optr (H.length + 1) 0)]) (H) (fun (q : Nat × Ty) => [.row q.2.enc.cells, .row [vint 0, vint 0, .slice [] .full]]) (fun (q : Nat × Ty) => q.1) (fun (q : Nat × Ty) => headF q.1 B q.2 = some r) ((n, t)) ([]) ⟨(by first | rfl | (simp only [jN, seval, vint, TyS, TyF, MapS, q1, q2, ffs, ffm, Bool.not_false, Bool.and_self] <;> first | done | with_reducible rfl)), (by first | rfl | (simp only [jN, seval, vint, TyS, TyF, MapS, q1, q2, ffs, ffm, Bool.not_false, Bool.and_self] <;> first | done | with_reducible rfl)), (by first | rfl | (simp only [jN, seval, vint, TyS, TyF, MapS, q1, q2, ffs, ffm, Bool.not_false, Bool.and_self] <;> first | done | with_reducible rfl)), trivial⟩ (by first | rfl | (simp only [jN, seval, vint, TyS, TyF, MapS, q1, q2, ffs, ffm, Bool.not_false, Bool.and_self] <;> first | done | with_reducible rfl)) (h) (fun _ _ => by first | exact Nat.zero_le _ | (simp only [List.length_append]; omega)) ?_ ?_
  · intro q hg
    simp only [TyS]
    exact ⟨by first | exact hbel_nil _ | (simp only [List.append_nil]; assumption) | (refine hbel_app' hb' (by simp) ?_; repeat (first | exact hbel_nil _ | exact trivial | exact obel_row_nil _ | (refine HBel.cons ?_ ?_) | (refine obel_row_cons (by first | exact bel_ints0 _ _ | exact bel_slice_ty _ _ | exact Ty.bel _ _ | exact bel_ty_tok _ (by first | (simp; done) | (simp; omega)) | exact Bel.int _ _ | exact Bel.bool _ | exact Bel.str _ | exact Bel.nilp | exact Bel.nilfn | exact Bel.optr _ _ (by first | (simp; done) | (simp; omega)) | exact bel_nil0 _ | exact bel_nil1 _ | exact bel_fn0 _ _ | assumption) ?_))), by repeat (first | exact BelL.nil | refine BelL.cons (by first | exact bel_ints0 _ _ | exact bel_slice_ty _ _ | exact Ty.bel _ _ | exact bel_ty_tok _ (by first | (simp; done) | (simp; omega)) | exact Bel.int _ _ | exact Bel.bool _ | exact Bel.str _ | exact Bel.nilp | exact Bel.nilfn | exact Bel.optr _ _ (by first | (simp; done) | (simp; omega)) | exact bel_nil0 _ | exact bel_nil1 _ | exact bel_fn0 _ _ | assumption) ?_)⟩
  · intro q hg
    obtain ⟨n, u0⟩ := q
    obtain ⟨n, rfl⟩ : ∃ k, n = k + 1 := by
      cases n with
      | zero => cases hg
      | succ n => exact ⟨n, rfl⟩
    simp only [headF] at hg
    repeat (refine awp_seq ?_)
    refine e_eval (by simp only [jA, jO, jN, seval, y3, y29, vint, TyS, TyF, MapS, q1, q2, ffs, ffm, Bool.not_false, Bool.and_self] <;> with_reducible rfl) (by decide) ?_
    repeat (refine awp_seq ?_)
    refine awp_cond rfl (by simp only [jN, seval, vint, TyS, TyF, MapS, q1, q2, ffs, ffm, Bool.not_false, Bool.and_self] <;> with_reducible rfl) (fun b0 => ?_) (fun b0 => ?_)
    ·
      rw [if_pos (of_decide_eq_true b0)] at hg
      repeat (refine awp_seq ?_)
      refine awp_skip ?_
      repeat (refine awp_seq ?_)
      refine awp_block ?_
      rcases hl : lk B u0.id with _ | u
      ·
        rw [hl] at hg
        cases hg
        repeat (refine awp_seq ?_)
        refine awp_draw 1 (by kernel_rfl) ?_
        refine d_take (bm := [0, 1, 3, 7, 0, 16, 63, 127, 255, 255, 0, 1535, 4095]) 10 (fresh := ((H.length + 2))) (by kernel_rfl) (by simp only [jD, jO, jN, seval, y3, y29, y58, y60, vint, TyS, TyF, MapS, q1, q2, ffs, ffm, Bool.not_false, Bool.and_self, mget_mp, hl, Option.map_none] <;> with_reducible rfl) (by decide) (by decide) ?_
        refine d_end (bm := [0, 1, 3, 7, 0, 16, 63, 127, 255, 255, 0, 1535, 4095]) (fresh := ((H.length + 2))) (by kernel_rfl) (by simp only [jD, jO, jN, seval, y29, vint, TyS, TyF, MapS, q1, q2, ffs, ffm, Bool.not_false, Bool.and_self, mget_mp, hl, Option.map_none] <;> with_reducible rfl) (by decide) ?_
        refine awp_sel [0, 3, 4, 5, 6] (by simp only [jN, seval, vint, TyS, TyF, MapS, q1, q2, ffs, ffm, Bool.not_false, Bool.and_self, mget_mp, hl, Option.map_none] <;> with_reducible rfl) ?_
        repeat (refine awp_seq ?_)
        refine e_eval (by simp only [jA, jO, jN, seval, vint, TyS, TyF, MapS, q1, q2, ffs, ffm, Bool.not_false, Bool.and_self, mget_mp, hl, Option.map_none] <;> with_reducible rfl) (by decide) ?_
        repeat (refine awp_seq ?_)
        refine awp_cond_true rfl (by simp only [jN, seval, vint, TyS, TyF, MapS, q1, q2, ffs, ffm, Bool.not_false, Bool.and_self, mget_mp, hl, Option.map_none] <;> with_reducible rfl) ?_
        repeat (refine awp_seq ?_)
        refine awp_exit ?_
        simp only [thenQ, blockQ, reduceIte, Nat.reduceEqDiff, Nat.succ_ne_self, if_true, if_false]
        repeat (refine awp_seq ?_)
        refine e_eval (by simp only [jA, jO, jN, seval, y29, vint, TyS, TyF, MapS, q1, q2, ffs, ffm, Bool.not_false, Bool.and_self, mget_mp, hl, Option.map_none] <;> with_reducible rfl) (by decide) ?_
        repeat (refine awp_seq ?_)
        refine awp_ret ⟨.inr rfl, _, _, (ares_cell 4 29 rfl Tryti29 (by decide) (by simp only [jL, jN, seval, vint, TyS, TyF, MapS, q1, q2, ffs, ffm, Bool.not_false, Bool.and_self, mget_mp, hl, Option.map_none] <;> with_reducible rfl)), ?_, (by first | exact (List.append_nil _).symm | rfl)⟩
        exact Ty.enc_drop1 _
      ·
        rw [hl] at hg
        repeat (refine awp_seq ?_)
        refine awp_draw 1 (by kernel_rfl) ?_
        refine d_take (bm := [0, 1, 3, 7, 0, 16, 63, 127, 255, 255, 0, 1535, 4095]) 10 (fresh := ((H.length + 2))) (by kernel_rfl) (by simp only [jD, jO, jN, seval, y3, y29, y58, y60, vint, TyS, TyF, MapS, q1, q2, ffs, ffm, Bool.not_false, Bool.and_self, mget_mp, hl, Option.map_some] <;> with_reducible rfl) (by decide) (by decide) ?_
        refine d_end (bm := [0, 1, 3, 7, 0, 16, 63, 127, 255, 255, 0, 1535, 4095]) (fresh := ((H.length + 2))) (by kernel_rfl) (by simp only [jD, jO, jN, seval, y29, vint, TyS, TyF, MapS, q1, q2, ffs, ffm, Bool.not_false, Bool.and_self, mget_mp, hl, Option.map_some] <;> with_reducible rfl) (by decide) ?_
        refine awp_sel [0, 3, 4, 5, 6] (by simp only [jN, seval, vint, TyS, TyF, MapS, q1, q2, ffs, ffm, Bool.not_false, Bool.and_self, mget_mp, hl, Option.map_some] <;> with_reducible rfl) ?_
        repeat (refine awp_seq ?_)
        refine e_eval (by simp only [jA, jO, jN, seval, vint, TyS, TyF, MapS, q1, q2, ffs, ffm, Bool.not_false, Bool.and_self, mget_mp, hl, Option.map_some] <;> with_reducible rfl) (by decide) ?_
        repeat (refine awp_seq ?_)
        refine awp_cond_false rfl (by simp only [jN, seval, vint, TyS, TyF, MapS, q1, q2, ffs, ffm, Bool.not_false, Bool.and_self, mget_mp, hl, Option.map_some] <;> with_reducible rfl) ?_
        repeat (refine awp_seq ?_)
        refine awp_skip ?_
        repeat (refine awp_seq ?_)
        refine e_eval (by simp only [jA, jO, jN, seval, y29, vint, TyS, TyF, MapS, q1, q2, ffs, ffm, Bool.not_false, Bool.and_self, mget_mp, hl, Option.map_some] <;> with_reducible rfl) (by decide) ?_
        try simp only [thenQ, blockQ]
        exact ⟨(n, u), _, Nat.lt_succ_self n, ⟨rfl, rfl, rfl, trivial⟩, (by simp only [jN, seval, vint, TyS, TyF, MapS] <;> rfl), hg⟩
    ·
      rw [if_neg (of_decide_eq_false b0)] at hg
      cases hg
      repeat (refine awp_seq ?_)
      refine awp_exit ?_
      simp only [thenQ, blockQ, reduceIte, Nat.reduceEqDiff, Nat.succ_ne_self, if_true, if_false]
      repeat (refine awp_seq ?_)
      refine e_eval (by simp only [jA, jO, jN, seval, y29, vint, TyS, TyF, MapS, q1, q2, ffs, ffm, Bool.not_false, Bool.and_self] <;> with_reducible rfl) (by decide) ?_
      repeat (refine awp_seq ?_)
      refine awp_ret ⟨.inr rfl, _, _, (ares_cell 4 29 rfl Tryti29 (by decide) (by simp only [jL, jN, seval, vint, TyS, TyF, MapS, q1, q2, ffs, ffm, Bool.not_false, Bool.and_self] <;> with_reducible rfl)), ?_, (by first | exact (List.append_nil _).symm | rfl)⟩
      exact Ty.enc_drop1 _

structure CloS {σ : Type} (P : Program) (f : FuncId) (caps : List PV) (H : Heap) (iv : Nat) (en : σ → List (Int × PV)) (us : List Ty) (g : Ty → σ → Option (Bool × σ)) : Prop where
  go : goFn P f = true
  lt : iv < H.length
  bel : ∀ c ∈ caps, Bel H.length c
  enb : ∀ s m, ∀ e ∈ en s, Bel m e.2
  call : ∀ u ∈ us, ∀ s b s', g u s = some (b, s') → ACalls P f (u.enc :: caps) (uH H iv (en s)) fun r' H' => r' = .bool b ∧ H' = uH H iv (en s')

theorem indexFuncS {σ : Type} {f : FuncId} {caps : List PV} {H : Heap} {iv : Nat} {en : σ → List (Int × PV)} {us : List Ty} {g : Ty → σ → Option (Bool × σ)} {s s2 : σ} {r : Int} (hc : CloS Try.prog f caps H iv en us g) (hl : us.length ≤ maxLen) (h : idxS g us s 0 = some (r, s2)) :
    ACalls Try.prog 84 [.slice (us.map Ty.enc) .none, .fn (.func f) [] caps] (uH H iv (en s)) fun r' H' => r' = vint r ∧ H' = uH H iv (en s2) := by
  have hgo := hc.go
  refine muts_of (N := 19) Try.func84 rfl rfl (by simp) (.int _ _) (by simp only [uH_len]) (fun hb => by rw [uH_len] at hb ⊢; exact uH_bel hb (hc.enb _ _)) fun hb' => ?_
  rw [uH_len]
  rw [uH_len] at hb'
  repeat (refine awp_seq ?_)
  refine e_eval (by simp only [jA, jO, jN, seval, vint, TyS, TyF, MapS] <;> with_reducible rfl) (by decide) ?_
  repeat (refine awp_seq ?_)
  refine e_eval (by simp only [jA, jO, jN, seval, y27, y29, vint, TyS, TyF, MapS] <;> with_reducible rfl) (by decide) ?_
  repeat (refine awp_seq ?_)
  refine awp_forS (σ := σ) (us.length) (fun (q : σ) => [(0, .slice (us.map Ty.enc) .none), (1, .fn (.func f) [] caps)]) [0, 1] ([]) (fun (q : σ) => uH H iv (en q)) (fun (i : Nat) (q : σ) => idxS g (us.drop i) q i = some (r, s2)) (s) ([]) rfl rfl rfl rfl rfl rfl rfl rfl rfl (by decide) (by decide) (by decide) (fun _ => rfl) (hl) ⟨(by first | rfl | (simp only [jN, seval, vint, TyS, TyF, MapS] <;> first | done | with_reducible rfl)), (by first | rfl | (simp only [jN, seval, vint, TyS, TyF, MapS] <;> first | done | with_reducible rfl)), (by first | rfl | (simp only [jN, seval, vint, TyS, TyF, MapS] <;> first | done | with_reducible rfl)), (by first | rfl | (simp only [jN, seval, vint, TyS, TyF, MapS] <;> first | done | with_reducible rfl)), trivial⟩ (by first | rfl | (simp only [jN, seval, vint, TyS, TyF, MapS] <;> first | done | with_reducible rfl)) (h) (fun i q hg => by simp only [List.nil_append, uH_len]; exact Nat.le_refl _) ?_ ?_ ?_
  · exact fun i q hg => ⟨by simp only [List.nil_append, uH_len]; exact uH_bel hb' (hc.enb _ _), .cons (bel_Ty _ _) (.cons (.fn _ _ _ (by simp) (fun c hc' => (hc.bel c hc').mono (by simp [uH_len]))) .nil)⟩
  · intro i q hi hg
    have g1 := ix_nat hi
    have g2 := get_enc Ty.enc hi
    rw [List.drop_eq_getElem_cons hi] at hg
    simp only [idxS] at hg
    obtain ⟨⟨b, q'⟩, e1, hg⟩ := Option.bind_eq_some_iff.1 hg
    repeat (refine awp_seq ?_)
    refine e_eval (by simp only [jA, jO, jN, seval, vint, TyS, TyF, MapS, g1, Int.toNat_natCast, g2] <;> with_reducible rfl) (by decide) ?_
    repeat (refine awp_seq ?_)
    refine awp_region ?_
    refine e_take 5 (by simp only [jA, jO, jN, seval, y27, y29, vint, TyS, TyF, MapS, g1, Int.toNat_natCast, g2] <;> with_reducible rfl) (by decide) ?_
    refine aops_acall (by simp only [jC, jN, seval, vint, TyS, TyF, MapS, g1, Int.toNat_natCast, g2] <;> with_reducible rfl) (by simp only [jC, jN, seval, vint, TyS, TyF, MapS, g1, Int.toNat_natCast, g2]) (by decide) (by assumption) (hc.call _ (List.getElem_mem hi) _ _ _ e1) ?_
    rintro _ _ ⟨rfl, rfl⟩
    refine aops_nil ?_
    repeat (refine awp_seq ?_)
    refine awp_cond rfl (by simp only [jN, seval, vint, TyS, TyF, MapS, g1, Int.toNat_natCast, g2] <;> with_reducible rfl) (fun b0 => ?_) (fun b0 => ?_)
    ·
      rw [if_pos b0] at hg
      cases hg
      repeat (refine awp_seq ?_)
      refine e_eval (by simp only [jA, jO, jN, seval, vint, TyS, TyF, MapS, g1, Int.toNat_natCast, g2] <;> with_reducible rfl) (by decide) ?_
      repeat (refine awp_seq ?_)
      refine awp_ret ⟨.inr rfl, _, _, rfl, ?_, (by first | exact (List.append_nil _).symm | rfl)⟩
      simp only [jN, seval, vint, TyS, TyF, MapS]
    ·
      rw [if_neg (by rw [b0]; simp)] at hg
      repeat (refine awp_seq ?_)
      refine awp_skip ?_
      exact ⟨⟨rfl, rfl, trivial⟩, q', [], ⟨rfl, rfl, trivial⟩, by simp only [List.append_nil, List.nil_append], hg⟩
  · intro q hg
    rw [List.drop_eq_nil_of_le (Nat.le_refl _)] at hg
    cases hg
    repeat (refine awp_seq ?_)
    refine e_eval (by simp only [jA, jO, jN, seval, vint, TyS, TyF, MapS] <;> with_reducible rfl) (by decide) ?_
    repeat (refine awp_seq ?_)
    refine awp_ret ⟨.inr rfl, _, _, rfl, ?_, (by first | exact (List.append_nil _).symm | rfl)⟩
    simp only [jN, seval, vint, TyS, TyF, MapS]

theorem containsFuncS {σ : Type} {f : FuncId} {caps : List PV} {H : Heap} {iv : Nat} {en : σ → List (Int × PV)} {us : List Ty} {g : Ty → σ → Option (Bool × σ)} {s s2 : σ} {b : Bool} (hc : CloS Try.prog f caps H iv en us g) (hl : us.length ≤ maxLen) (h : anyS g us s = some (b, s2)) :
    ACalls Try.prog 68 [.slice (us.map Ty.enc) .none, .fn (.func f) [] caps] (uH H iv (en s)) fun r' H' => r' = .bool b ∧ H' = uH H iv (en s2) := by
  unfold anyS at h
  obtain ⟨⟨r, s3⟩, hi, h⟩ := Option.map_eq_some_iff.1 h
  cases h
  refine muts_of (N := 9) Try.func68 rfl rfl (by simp) (.bool _) (by simp only [uH_len]) (fun hb => by rw [uH_len] at hb ⊢; exact uH_bel hb (hc.enb _ _)) fun hb' => ?_
  rw [uH_len]
  rw [uH_len] at hb'
  repeat (refine awp_seq ?_)
  refine e_eval (by simp only [jA, jO, jN, seval, vint, TyS, TyF, MapS] <;> with_reducible rfl) (by decide) ?_
  repeat (refine awp_seq ?_)
  refine awp_region ?_
  refine e_take 2 (by simp only [jA, jO, jN, seval, vint, TyS, TyF, MapS] <;> with_reducible rfl) (by decide) ?_
  refine aops_acall (by simp only [jC, jN, seval, vint, TyS, TyF, MapS] <;> with_reducible rfl) (by simp only [jC, jN, seval, vint, TyS, TyF, MapS]) (by decide) Trygo84 (indexFuncS hc hl hi) ?_
  rintro _ _ ⟨rfl, rfl⟩
  refine e_end (by simp only [jA, jO, jN, seval, y3, vint, TyS, TyF, MapS] <;> with_reducible rfl) (by decide) ?_
  repeat (refine awp_seq ?_)
  refine awp_ret ⟨.inr rfl, _, _, rfl, ?_, (by first | exact (List.append_nil _).symm | rfl)⟩
  simp only [jN, seval, vint, TyS, TyF, MapS]

theorem occ1 {is iv i4 i5 i7 : Nat} {v : Int} {a : Ty} {H : Heap} {b : Bool} {w w' : Vis} (h4 : H[i4]? = some (.row [.optr is 0])) (h5 : H[i5]? = some (.row [vint v])) (h7 : H[i7]? = some (.row [.mapp iv])) (n4 : i4 ≠ iv) (n5 : i5 ≠ iv) (n7 : i7 ≠ iv) (hv : iv < H.length)
    (hcall : ACalls Try.prog 86 [.optr is 0, vint v, a.enc, .mapp iv] (uH H iv (mp vint w) ++ [.row a.enc.cells]) fun r' H' => r' = .bool b ∧ H' = uH H iv (mp vint w') ++ [.row a.enc.cells]) :
    ACalls Try.prog 92 [a.enc, .optr i4 0, .optr i5 0, .optr i7 0] (uH H iv (mp vint w)) fun r' H' => r' = .bool b ∧ H' = uH H iv (mp vint w') := by
  have U := uH_rules hv
  have q4 := uH_ne n4 h4
  have q5 := uH_ne n5 h5
  have q7 := uH_ne n7 h7
  simp only [TyS] at hcall
  refine muts_of (N := 11) Try.func92 rfl rfl (by simp) (.bool _) (by simp only [uH_len]) (fun hb => by rw [uH_len] at hb ⊢; exact uH_bel hb (bel_mp _ _ _ fun a => .int _ _)) fun hb' => ?_
  repeat (refine awp_seq ?_)
  refine e_eval (by simp only [jA, jO, jN, seval, y29, vint, TyS, TyF, MapS, U, q4, q5, q7] <;> with_reducible rfl) (by decide) ?_
  repeat (refine awp_seq ?_)
  refine awp_region ?_
  refine e_take 4 (by simp only [jA, jO, jN, seval, y3, y29, y56, y107, vint, TyS, TyF, MapS, U, q4, q5, q7] <;> with_reducible rfl) (by decide) ?_
  refine aops_acall (by simp only [jC, jN, seval, vint, TyS, TyF, MapS, U, q4, q5, q7] <;> with_reducible rfl) (by simp only [jC, jN, seval, vint, TyS, TyF, MapS, U, q4, q5, q7]) (by decide) Trygo86 (hcall) ?_
  rintro _ _ ⟨rfl, rfl⟩
  refine e_end (by simp only [jA, jO, jN, seval, vint, TyS, TyF, MapS, U, q4, q5, q7] <;> with_reducible rfl) (by decide) ?_
  repeat (refine awp_seq ?_)
  refine awp_ret ⟨.inr rfl, _, _, rfl, ?_, (by first | exact (List.append_nil _).symm | rfl)⟩
  simp only [jN, seval, vint, TyS, TyF, MapS]

theorem occ_k {B : Bs} {is im : Nat} {p : PV} (hB : WB B) : ∀ (n : Nat) (v : Int) (t : Ty) (w w' : Vis) (b : Bool) (H : Heap) (iv : Nat), occF n B v t w = some (b, w') → t.W → H[is]? = some (.row [.mapp im, p]) → H[im]? = some (.obj (.mapo (mp Ty.enc B))) → iv < H.length → is ≠ iv → im ≠ iv →
    ACalls Try.prog 86 [.optr is 0, vint v, t.enc, .mapp iv] (uH H iv (mp vint w)) fun r' H' => r' = .bool b ∧ H' = uH H iv (mp vint w')
  | 0, v, t, w, w', b, H, iv, h, _, _, _, _, _, _ => by cases h
  | n + 1, v, t, w, w', b, H, iv, h, ht, hs, hm, hv, ns, nm => by
    have ih := fun (u : Ty) (s s' : Vis) (c : Bool) (L : Heap) (h : occF n B v u s = some (c, s')) (hu : u.W) => (uH_app hv (mp vint s) ▸ uH_app hv (mp vint s') ▸ occ_k hB n v u s s' c (H ++ L) iv h hu (by rw [List.getElem?_append_left (len_of_get hs)]; exact hs) (by rw [List.getElem?_append_left (len_of_get hm)]; exact hm) (by rw [List.length_append]; omega) ns nm : ACalls Try.prog 86 [.optr is 0, vint v, u.enc, .mapp iv] (uH H iv (mp vint s) ++ L) fun r' H' => r' = .bool c ∧ H' = uH H iv (mp vint s') ++ L)
    have U := uH_rules hv
    have q1 := uH_ne ns hs
    have q2 := uH_ne nm hm
    have ms := len_of_get hs
    have mm := len_of_get hm
    have ffs : ∀ k, (H.length + k == is) = false := fun k => by simp; omega
    have ffm : ∀ k, (H.length + k == im) = false := fun k => by simp; omega
    have ffv : ∀ k, (iv = H.length + k) = False := fun k => by simp; omega
    simp only [occF] at h
    refine muts_of (N := 49) Try.func86 rfl rfl (by simp) (.bool _) (by simp only [uH_len]) (fun hb => by rw [uH_len] at hb ⊢; exact uH_bel hb (bel_mp _ _ _ fun a => .int _ _)) fun hb' => ?_
    rw [uH_len]
    rw [uH_len] at hb'
    repeat (refine awp_seq ?_)
    refine e_eval (by simp only [jA, jO, jN, seval, y3, y29, y56, y107, vint, TyS, TyF, MapS, U, q1, q2, ffs, ffm, ffv, Bool.not_false, Bool.and_self] <;> with_reducible rfl) (by decide) ?_
    repeat (refine awp_seq ?_)
    refine e_eval (by simp only [jA, jO, jN, seval, y3, y29, vint, TyS, TyF, MapS, U, q1, q2, ffs, ffm, ffv, Bool.not_false, Bool.and_self] <;> with_reducible rfl) (by decide) ?_
    repeat (refine awp_seq ?_)
    refine awp_cond rfl (by simp only [jN, seval, vint, TyS, TyF, MapS, U, q1, q2, ffs, ffm, ffv, Bool.not_false, Bool.and_self] <;> with_reducible rfl) (fun b0 => ?_) (fun b0 => ?_)
    ·
      rw [if_pos (of_decide_eq_true b0)] at h
      repeat (refine awp_seq ?_)
      refine e_eval (by simp only [jA, jO, jN, seval, y3, y29, vint, TyS, TyF, MapS, U, q1, q2, ffs, ffm, ffv, Bool.not_false, Bool.and_self] <;> with_reducible rfl) (by decide) ?_
      repeat (refine awp_seq ?_)
      refine awp_cond rfl (by simp only [jN, seval, vint, TyS, TyF, MapS, U, q1, q2, ffs, ffm, ffv, Bool.not_false, Bool.and_self] <;> with_reducible rfl) (fun b1 => ?_) (fun b1 => ?_)
      ·
        rw [if_pos (of_decide_eq_true b1)] at h
        cases h
        repeat (refine awp_seq ?_)
        refine e_eval (by simp only [jA, jO, jN, seval, vint, TyS, TyF, MapS, U, q1, q2, ffs, ffm, ffv, Bool.not_false, Bool.and_self] <;> with_reducible rfl) (by decide) ?_
        repeat (refine awp_seq ?_)
        refine awp_ret ⟨.inr rfl, _, _, rfl, ?_, (by first | exact (List.append_nil _).symm | rfl)⟩
        simp only [jN, seval, vint, TyS, TyF, MapS]
      ·
        rw [if_neg (of_decide_eq_false b1)] at h
        repeat (refine awp_seq ?_)
        refine awp_skip ?_
        rcases hl : lk B t.id with _ | u
        ·
          rw [hl] at h
          cases h
          repeat (refine awp_seq ?_)
          refine awp_draw 1 (by kernel_rfl) ?_
          refine d_take (bm := [0, 1, 3, 7, 0, 16, 63, 127, 255, 255, 0, 1535, 4095]) 10 (fresh := ((H.length + 4))) (by kernel_rfl) (by simp only [jD, jO, jN, seval, y3, y29, y56, y58, y60, vint, TyS, TyF, MapS, U, q1, q2, ffs, ffm, ffv, Bool.not_false, Bool.and_self, mget_mp, hl, Option.map_none, alook_vint] <;> with_reducible rfl) (by decide) (by decide) ?_
          refine d_end (bm := [0, 1, 3, 7, 0, 16, 63, 127, 255, 255, 0, 1535, 4095]) (fresh := ((H.length + 4))) (by kernel_rfl) (by simp only [jD, jO, jN, seval, y29, vint, TyS, TyF, MapS, U, q1, q2, ffs, ffm, ffv, Bool.not_false, Bool.and_self, mget_mp, hl, Option.map_none, alook_vint] <;> with_reducible rfl) (by decide) ?_
          refine awp_sel [4, 5, 6, 7, 9, 10] (by simp only [jN, seval, vint, TyS, TyF, MapS, U, q1, q2, ffs, ffm, ffv, Bool.not_false, Bool.and_self, mget_mp, hl, Option.map_none, alook_vint] <;> with_reducible rfl) ?_
          repeat (refine awp_seq ?_)
          refine g_eval (by simp only [jG, jO, jN, seval, y3, y29, y107, vint, TyS, TyF, MapS, U, q1, q2, ffs, ffm, ffv, Bool.not_false, Bool.and_self, mget_mp, hl, Option.map_none, alook_vint] <;> with_reducible rfl) (by decide) (by repeat (first | exact Fin.base _ | with_reducible apply Fin.keep | apply Fin.drop)) ?_
          repeat (refine awp_seq ?_)
          refine awp_cond_true rfl (by simp only [jN, seval, vint, TyS, TyF, MapS, U, q1, q2, ffs, ffm, ffv, Bool.not_false, Bool.and_self, mget_mp, hl, Option.map_none, alook_vint] <;> with_reducible rfl) ?_
          repeat (refine awp_seq ?_)
          refine e_eval (by simp only [jA, jO, jN, seval, vint, TyS, TyF, MapS, U, q1, q2, ffs, ffm, ffv, Bool.not_false, Bool.and_self, mget_mp, hl, Option.map_none, alook_vint] <;> with_reducible rfl) (by decide) ?_
          repeat (refine awp_seq ?_)
          refine awp_ret ⟨.inr rfl, _, _, rfl, ?_, (by first | exact (List.append_nil _).symm | rfl)⟩
          simp only [jN, seval, vint, TyS, TyF, MapS]
        ·
          rw [hl] at h
          simp only at h
          have hu := hB _ _ hl
          repeat (refine awp_seq ?_)
          refine awp_draw 1 (by kernel_rfl) ?_
          refine d_take (bm := [0, 1, 3, 7, 0, 16, 63, 127, 255, 255, 0, 1535, 4095]) 10 (fresh := ((H.length + 4))) (by kernel_rfl) (by simp only [jD, jO, jN, seval, y3, y29, y56, y58, y60, vint, TyS, TyF, MapS, U, q1, q2, ffs, ffm, ffv, Bool.not_false, Bool.and_self, mget_mp, hl, Option.map_some, alook_vint] <;> with_reducible rfl) (by decide) (by decide) ?_
          refine d_end (bm := [0, 1, 3, 7, 0, 16, 63, 127, 255, 255, 0, 1535, 4095]) (fresh := ((H.length + 4))) (by kernel_rfl) (by simp only [jD, jO, jN, seval, y29, vint, TyS, TyF, MapS, U, q1, q2, ffs, ffm, ffv, Bool.not_false, Bool.and_self, mget_mp, hl, Option.map_some, alook_vint] <;> with_reducible rfl) (by decide) ?_
          refine awp_sel [4, 5, 6, 7, 9, 10] (by simp only [jN, seval, vint, TyS, TyF, MapS, U, q1, q2, ffs, ffm, ffv, Bool.not_false, Bool.and_self, mget_mp, hl, Option.map_some, alook_vint] <;> with_reducible rfl) ?_
          repeat (refine awp_seq ?_)
          refine g_eval (by simp only [jG, jO, jN, seval, y3, y29, y107, vint, TyS, TyF, MapS, U, q1, q2, ffs, ffm, ffv, Bool.not_false, Bool.and_self, mget_mp, hl, Option.map_some, alook_vint] <;> with_reducible rfl) (by decide) (by repeat (first | exact Fin.base _ | with_reducible apply Fin.keep | apply Fin.drop)) ?_
          repeat (refine awp_seq ?_)
          refine awp_cond rfl (by simp only [jN, seval, vint, TyS, TyF, MapS, U, q1, q2, ffs, ffm, ffv, Bool.not_false, Bool.and_self, mget_mp, hl, Option.map_some, alook_vint] <;> with_reducible rfl) (fun bt36 => ?_) (fun bt36 => ?_)
          ·
            rw [if_pos (of_decide_eq_true bt36)] at h
            cases h
            repeat (refine awp_seq ?_)
            refine e_eval (by simp only [jA, jO, jN, seval, vint, TyS, TyF, MapS, U, q1, q2, ffs, ffm, ffv, Bool.not_false, Bool.and_self, mget_mp, hl, Option.map_some, alook_vint] <;> with_reducible rfl) (by decide) ?_
            repeat (refine awp_seq ?_)
            refine awp_ret ⟨.inr rfl, _, _, rfl, ?_, (by first | exact (List.append_nil _).symm | rfl)⟩
            simp only [jN, seval, vint, TyS, TyF, MapS]
          ·
            rw [if_neg (of_decide_eq_false bt36)] at h
            repeat (refine awp_seq ?_)
            refine awp_skip ?_
            repeat (refine awp_seq ?_)
            refine e_eval (by simp only [jA, jO, jN, seval, y3, y29, y107, vint, TyS, TyF, MapS, U, q1, q2, ffs, ffm, ffv, Bool.not_false, Bool.and_self, mget_mp, hl, Option.map_some, alook_vint, mset_vint] <;> with_reducible rfl) (by decide) ?_
            repeat (refine awp_seq ?_)
            refine awp_region ?_
            refine e_take 4 (by simp only [jA, jO, jN, seval, y3, y29, y56, y107, vint, TyS, TyF, MapS, U, q1, q2, ffs, ffm, ffv, Bool.not_false, Bool.and_self, mget_mp, hl, Option.map_some, alook_vint] <;> with_reducible rfl) (by decide) ?_
            refine aops_acall (by simp only [jC, jN, seval, vint, TyS, TyF, MapS, U, q1, q2, ffs, ffm, ffv, Bool.not_false, Bool.and_self, mget_mp, hl, Option.map_some, alook_vint] <;> with_reducible rfl) (by simp only [jC, jN, seval, vint, TyS, TyF, MapS, U, q1, q2, ffs, ffm, ffv, Bool.not_false, Bool.and_self, mget_mp, hl, Option.map_some, alook_vint]) (by decide) Trygo86 (ih u _ _ _ _ h hu) ?_
            rintro _ _ ⟨rfl, rfl⟩
            refine e_end (by simp only [jA, jO, jN, seval, vint, TyS, TyF, MapS, U, q1, q2, ffs, ffm, ffv, Bool.not_false, Bool.and_self, mget_mp, hl, Option.map_some, alook_vint] <;> with_reducible rfl) (by decide) ?_
            repeat (refine awp_seq ?_)
            refine awp_ret ⟨.inr rfl, _, _, rfl, ?_, (by first | exact (List.append_nil _).symm | rfl)⟩
            simp only [jN, seval, vint, TyS, TyF, MapS]
    ·
      rw [if_neg (of_decide_eq_false b0)] at h
      repeat (refine awp_seq ?_)
      refine awp_skip ?_
      repeat (refine awp_seq ?_)
      refine awp_region ?_
      refine e_take 3 (by simp only [jA, jO, jN, seval, y27, y29, vint, TyS, TyF, MapS, U, q1, q2, ffs, ffm, ffv, Bool.not_false, Bool.and_self] <;> with_reducible rfl) (by decide) ?_
      refine aops_acall (by simp only [jC, jN, seval, vint, TyS, TyF, MapS, U, q1, q2, ffs, ffm, ffv, Bool.not_false, Bool.and_self] <;> with_reducible rfl) (by simp only [jC, jN, seval, vint, TyS, TyF, MapS, U, q1, q2, ffs, ffm, ffv, Bool.not_false, Bool.and_self]) (by decide) Trygo68 (by
  have cs : CloS Try.prog 92 [.optr H.length 0, .optr (H.length + 1) 0, .optr (H.length + 3) 0] (H ++ [.row [.optr is 0], .row [vint v], .row t.enc.cells, .row [.mapp iv]]) iv (mp vint) t.args (occF n B v) :=
    ⟨Trygo92, by simp; omega, by simp; exact ⟨.optr _ _ (by simp), .optr _ _ (by simp), .optr _ _ (by simp)⟩, fun s m => bel_mp _ _ _ fun a => .int _ _, fun u hu s b s' hg =>
      occ1 (is := is) (v := v) (by simp) (by simp) (by simp) (by omega) (by omega) (by omega) (by simp; omega) (by rw [uH_app hv, uH_app hv]; simp only [List.append_assoc]; exact ih u s s' b _ hg (ht.arg hu))⟩
  have := containsFuncS cs ht.lenMax h
  rw [uH_app hv, uH_app hv, Ty.enc_cells] at this
  exact this) ?_
      rintro _ _ ⟨rfl, rfl⟩
      refine e_end (by simp only [jA, jO, jN, seval, vint, TyS, TyF, MapS, U, q1, q2, ffs, ffm, ffv, Bool.not_false, Bool.and_self] <;> with_reducible rfl) (by decide) ?_
      repeat (refine awp_seq ?_)
      refine awp_ret ⟨.inr rfl, _, _, rfl, ?_, (by first | exact (List.append_nil _).symm | rfl)⟩
      simp only [jN, seval, vint, TyS, TyF, MapS]

theorem bind_k {B B' : Bs} {is im : Nat} {p : Int} {n : Nat} {v : Int} {t : Ty} {b : Bool} {H : Heap} (h : bindF n B v t = some (b, B')) (hB : WB B) (ht : t.W) (hm : im < H.length) (hs : is < H.length) (hne : im ≠ is) :
    ACalls Try.prog 73 [.optr is 0, vint v, t.enc] (sH H im is B p) fun r' H' => r' = .bool b ∧ H' = sH H im is B' p := by
  have U := sH_rules hm hs hne
  unfold bindF at h
  obtain ⟨⟨c, w'⟩, hq, h⟩ := Option.map_eq_some_iff.1 h
  have oc := occ_k (is := is) (im := im) hB n v t [] w' c (sH H im is B p ++ [.row t.enc.cells, .obj (.mapo [])]) (H.length + 1) hq ht (p := .int .i64 p) (by simp only [U]) (by simp only [U]) (by simp [sH_len]) (by omega) (by omega)
  rw [uH_self (by simp only [U]; rfl)] at oc
  have ow : uH (sH H im is B p ++ [.row t.enc.cells, .obj (.mapo [])]) (H.length + 1) (mp vint w') = sH H im is B p ++ [.row t.enc.cells, .obj (.mapo (mp vint w'))] := by simp only [uH, U]; rfl
  rw [ow] at oc
  simp only [TyS] at oc
  refine muts_of (N := 18) Try.func73 rfl rfl (by simp) (.bool _) (by simp only [sH_len]) (fun hb => by rw [sH_len] at hb ⊢; exact sH_bel hb hm) fun hb' => ?_
  rw [sH_len]
  rw [sH_len] at hb'
  repeat (refine awp_seq ?_)
  refine e_eval (by simp only [jA, jO, jN, seval, y29, vint, TyS, TyF, MapS, U] <;> with_reducible rfl) (by decide) ?_
  repeat (refine awp_seq ?_)
  refine awp_region ?_
  refine e_take 4 (by simp only [jA, jO, jN, seval, y3, y29, y107, vint, TyS, TyF, MapS, U] <;> with_reducible rfl) (by decide) ?_
  refine aops_acall (by simp only [jC, jN, seval, vint, TyS, TyF, MapS, U] <;> with_reducible rfl) (by simp only [jC, jN, seval, vint, TyS, TyF, MapS, U]) (by decide) Trygo86 (oc) ?_
  rintro _ _ ⟨rfl, rfl⟩
  refine aops_nil ?_
  repeat (refine awp_seq ?_)
  refine awp_cond rfl (by simp only [jN, seval, vint, TyS, TyF, MapS, U] <;> with_reducible rfl) (fun b0 => ?_) (fun b0 => ?_)
  ·
    rw [if_pos b0] at h
    cases h
    repeat (refine awp_seq ?_)
    refine e_eval (by simp only [jA, jO, jN, seval, vint, TyS, TyF, MapS, U] <;> with_reducible rfl) (by decide) ?_
    repeat (refine awp_seq ?_)
    refine awp_ret ⟨.inr rfl, _, _, rfl, ?_, (by first | exact (List.append_nil _).symm | rfl)⟩
    simp only [jN, seval, vint, TyS, TyF, MapS]
  ·
    rw [if_neg (by rw [b0]; simp)] at h
    cases h
    repeat (refine awp_seq ?_)
    refine awp_skip ?_
    repeat (refine awp_seq ?_)
    refine awp_draw 0 (by kernel_rfl) ?_
    refine d_end (bm := [0, 1, 3, 7, 0, 0, 63]) (fresh := ((H.length + 2))) (by kernel_rfl) (by simp only [jD, jO, jN, seval, y29, y58, y60, vint, TyS, TyF, MapS, U, mset_mp] <;> with_reducible rfl) (by decide) ?_
    repeat (refine awp_seq ?_)
    refine e_eval (by simp only [jA, jO, jN, seval, vint, TyS, TyF, MapS, U] <;> with_reducible rfl) (by decide) ?_
    repeat (refine awp_seq ?_)
    refine awp_ret ⟨.inr rfl, _, _, rfl, ?_, (by first | exact (List.append_nil _).symm | rfl)⟩
    simp only [jN, seval, vint, TyS, TyF, MapS]

end Go.Abs
set_option maxRecDepth 4000
namespace Go.Abs
open Go.Proofs

theorem uni_k {is im : Nat} (hne : im ≠ is) : ∀ (n : Nat) (a b : Ty) (B : Bs) (p : Int) (c : Bool) (B' : Bs) (p' : Int) (H : Heap), uniF n a b (B, p) = some (c, (B', p')) → a.W → b.W → WB B → 0 ≤ p → p ≤ 20000 → im < H.length → is < H.length →
    ACalls Try.prog 60 [.optr is 0, a.enc, b.enc] (sH H im is B p) fun r' H' => r' = .bool c ∧ H' = sH H im is B' p'
  | 0, a, b, B, p, c, B', p', H, h, _, _, _, _, _, _, _ => by cases h
  | n + 1, a0, b0, B, p, c, B', p', H, h, ha0, hb0, hB, hp0, hp1, hm, hs => by
    have U := sH_rules hm hs hne
    simp only [uniF] at h
    obtain ⟨a, e1, h⟩ := Option.bind_eq_some_iff.1 h
    obtain ⟨b, e2, h⟩ := Option.bind_eq_some_iff.1 h
    have wa := headF_W hB ha0 e1
    have wb := headF_W hB hb0 e2
    have hw : IntKind.i64.wrap (p - 1) = p - 1 := wrap_id (by omega) (by omega)
    refine muts_of (N := 125) Try.func60 rfl rfl (by simp) (.bool _) (by simp only [sH_len]) (fun hb => by rw [sH_len] at hb ⊢; exact sH_bel hb hm) fun hb' => ?_
    rw [sH_len]
    rw [sH_len] at hb'
    repeat (refine awp_seq ?_)
    refine e_eval (by simp only [jA, jO, jN, seval, y29, vint, TyS, TyF, MapS, U] <;> with_reducible rfl) (by decide) ?_
    repeat (refine awp_seq ?_)
    refine awp_draw 0 (by kernel_rfl) ?_
    refine d_take (bm := [0, 0, 3, 0, 0, 31, 63, 127]) 2 (fresh := ((H.length + 2))) (by kernel_rfl) (by simp only [jD, jO, jN, seval, y29, vint, TyS, TyF, MapS, U] <;> with_reducible rfl) (by decide) (by decide) ?_
    refine dops_keep (bm := [0, 0, 3, 0, 0, 31, 63, 127]) ([is, im]) (by kernel_rfl) (by simp only [jC, jN, seval, vint, TyS, TyF, MapS, U] <;> with_reducible rfl) (by simp only [jC, jN, seval, vint, TyS, TyF, MapS, U]) (by decide) Trygo63 (fun H' hr => head_k B e1 (p := .int .i64 p) (is := is) (im := im) (by rw [hr is (by simp)]; simp only [U]) (by rw [hr im (by simp)]; simp only [U])) (by simp only [jD, jO, jN, seval, vint, TyS, TyF, MapS, U] <;> first | done | rfl) ?_
    refine d_take (bm := [0, 0, 3, 0, 0, 31, 63, 127]) 2 (fresh := ((H.length + 2))) (by kernel_rfl) (by simp only [jD, jO, jN, seval, y29, vint, TyS, TyF, MapS, U] <;> with_reducible rfl) (by decide) (by decide) ?_
    refine dops_keep (bm := [0, 0, 3, 0, 0, 31, 63, 127]) ([is, im]) (by kernel_rfl) (by simp only [jC, jN, seval, vint, TyS, TyF, MapS, U] <;> with_reducible rfl) (by simp only [jC, jN, seval, vint, TyS, TyF, MapS, U]) (by decide) Trygo63 (fun H' hr => head_k B e2 (p := .int .i64 p) (is := is) (im := im) (by rw [hr is (by simp)]; simp only [U]) (by rw [hr im (by simp)]; simp only [U])) (by simp only [jD, jO, jN, seval, vint, TyS, TyF, MapS, U] <;> first | done | rfl) ?_
    refine d_end (bm := [0, 0, 3, 0, 0, 31, 63, 127]) (fresh := ((H.length + 2))) (by kernel_rfl) (by simp only [jD, jO, jN, seval, y29, vint, TyS, TyF, MapS, U] <;> with_reducible rfl) (by decide) ?_
    repeat (refine awp_seq ?_)
    refine e_eval (by simp only [jA, jO, jN, seval, y3, y60, vint, TyS, TyF, MapS, U, hw] <;> with_reducible rfl) (by decide) ?_
    repeat (refine awp_seq ?_)
    refine awp_block ?_
    refine awp_sel [0, 4, 5] (by simp only [jN, seval, vint, TyS, TyF, MapS, U] <;> with_reducible rfl) ?_
    repeat (refine awp_seq ?_)
    refine e_eval (by simp only [jA, jO, jN, seval, y3, y60, vint, TyS, TyF, MapS, U] <;> with_reducible rfl) (by decide) ?_
    repeat (refine awp_seq ?_)
    refine awp_cond rfl (by simp only [jN, seval, vint, TyS, TyF, MapS, U] <;> with_reducible rfl) (fun bt21 => ?_) (fun bt21 => ?_)
    ·
      rw [if_pos (of_decide_eq_true bt21)] at h
      cases h
      repeat (refine awp_seq ?_)
      refine e_eval (by simp only [jA, jO, jN, seval, vint, TyS, TyF, MapS, U] <;> with_reducible rfl) (by decide) ?_
      repeat (refine awp_seq ?_)
      refine awp_ret ⟨.inr rfl, _, _, rfl, ?_, (by first | exact (List.append_nil _).symm | rfl)⟩
      simp only [jN, seval, vint, TyS, TyF, MapS]
    ·
      rw [if_neg (of_decide_eq_false bt21)] at h
      repeat (refine awp_seq ?_)
      refine g_eval (by simp only [jG, jO, jN, seval, y3, y29, vint, TyS, TyF, MapS, U] <;> with_reducible rfl) (by decide) (by repeat (first | exact Fin.base _ | with_reducible apply Fin.keep | apply Fin.drop)) ?_
      repeat (refine awp_seq ?_)
      refine awp_cond rfl (by simp only [jN, seval, vint, TyS, TyF, MapS, U] <;> with_reducible rfl) (fun bt27 => ?_) (fun bt27 => ?_)
      ·
        rw [if_pos (by simpa using bt27)] at h
        cases h
        refine awp_sel [] (by simp only [jN, seval, vint, TyS, TyF, MapS, U] <;> with_reducible rfl) ?_
        repeat (refine awp_seq ?_)
        refine e_eval (by simp only [jA, jO, jN, seval, vint, TyS, TyF, MapS, U] <;> with_reducible rfl) (by decide) ?_
        repeat (refine awp_seq ?_)
        refine awp_ret ⟨.inr rfl, _, _, rfl, ?_, (by first | exact (List.append_nil _).symm | rfl)⟩
        simp only [jN, seval, vint, TyS, TyF, MapS]
      ·
        rw [if_neg (by simpa using bt27)] at h
        refine awp_sel [0, 4, 5] (by simp only [jN, seval, vint, TyS, TyF, MapS, U] <;> with_reducible rfl) ?_
        repeat (refine awp_seq ?_)
        refine g_eval (by simp only [jG, jO, jN, seval, y3, y29, vint, TyS, TyF, MapS, U] <;> with_reducible rfl) (by decide) (by repeat (first | exact Fin.base _ | with_reducible apply Fin.keep | apply Fin.drop)) ?_
        repeat (refine awp_seq ?_)
        refine awp_cond rfl (by simp only [jN, seval, vint, TyS, TyF, MapS, U] <;> with_reducible rfl) (fun bt36 => ?_) (fun bt36 => ?_)
        ·
          rw [if_pos (by simpa using bt36)] at h
          repeat (refine awp_seq ?_)
          refine e_eval (by simp only [jA, jO, jN, seval, y3, y29, vint, TyS, TyF, MapS, U] <;> with_reducible rfl) (by decide) ?_
          repeat (refine awp_seq ?_)
          refine awp_cond rfl (by simp only [jN, seval, vint, TyS, TyF, MapS, U] <;> with_reducible rfl) (fun bt49 => ?_) (fun bt49 => ?_)
          ·
            rw [if_pos (by simpa using bt49)] at h
            cases h
            repeat (refine awp_seq ?_)
            refine awp_draw 0 (by kernel_rfl) ?_
            refine d_take (bm := [0, 1, 3, 7, 0, 16, 0, 64, 240, 0, 512, 0, 2048, 7680, 15872, 32767]) 10 (fresh := ((H.length + 2))) (by kernel_rfl) (by simp only [jD, jO, jN, seval, y3, y29, y58, y60, vint, TyS, TyF, MapS, U, mset_mp] <;> with_reducible rfl) (by decide) (by decide) ?_
            refine d_end (bm := [0, 1, 3, 7, 0, 16, 0, 64, 240, 0, 512, 0, 2048, 7680, 15872, 32767]) (fresh := ((H.length + 2))) (by kernel_rfl) (by simp only [jD, jO, jN, seval, y3, y29, y58, vint, TyS, TyF, MapS, U, mset_mp] <;> with_reducible rfl) (by decide) ?_
            refine awp_sel [] (by simp only [jN, seval, vint, TyS, TyF, MapS, U] <;> with_reducible rfl) ?_
            repeat (refine awp_seq ?_)
            refine e_eval (by simp only [jA, jO, jN, seval, vint, TyS, TyF, MapS, U] <;> with_reducible rfl) (by decide) ?_
            repeat (refine awp_seq ?_)
            refine awp_ret ⟨.inr rfl, _, _, rfl, ?_, (by first | exact (List.append_nil _).symm | rfl)⟩
            simp only [jN, seval, vint, TyS, TyF, MapS]
          ·
            rw [if_neg (by simpa using bt49)] at h
            cases h
            repeat (refine awp_seq ?_)
            refine awp_skip ?_
            repeat (refine awp_seq ?_)
            refine e_eval (by simp only [jA, jO, jN, seval, vint, TyS, TyF, MapS, U] <;> with_reducible rfl) (by decide) ?_
            repeat (refine awp_seq ?_)
            refine awp_ret ⟨.inr rfl, _, _, rfl, ?_, (by first | exact (List.append_nil _).symm | rfl)⟩
            simp only [jN, seval, vint, TyS, TyF, MapS]
        ·
          rw [if_neg (by simpa using bt36)] at h
          repeat (refine awp_seq ?_)
          refine e_eval (by simp only [jA, jO, jN, seval, y3, y29, vint, TyS, TyF, MapS, U] <;> with_reducible rfl) (by decide) ?_
          repeat (refine awp_seq ?_)
          refine awp_cond rfl (by simp only [jN, seval, vint, TyS, TyF, MapS, U] <;> with_reducible rfl) (fun bt65 => ?_) (fun bt65 => ?_)
          ·
            rw [if_pos (of_decide_eq_true bt65)] at h
            obtain ⟨⟨c1, B1⟩, hq, h⟩ := Option.map_eq_some_iff.1 h
            cases h
            repeat (refine awp_seq ?_)
            refine awp_region ?_
            refine e_take 4 (by simp only [jA, jO, jN, seval, y3, y29, vint, TyS, TyF, MapS, U] <;> with_reducible rfl) (by decide) ?_
            refine aops_acall (by simp only [jC, jN, seval, vint, TyS, TyF, MapS, U] <;> with_reducible rfl) (by simp only [jC, jN, seval, vint, TyS, TyF, MapS, U]) (by decide) Trygo73 (by have := bind_k (p := p - 1) (H := H ++ [.row [.int .i64 a.kind, .int .i64 a.id, .slice (a.args.map Ty.enc) .none], .row [.int .i64 b.kind, .int .i64 b.id, .slice (b.args.map Ty.enc) .none]]) hq hB wb (by simp; omega) (by simp; omega) hne; rw [sH_app hm hs, sH_app hm hs] at this; exact this) ?_
            rintro _ _ ⟨rfl, rfl⟩
            refine e_end (by simp only [jA, jO, jN, seval, vint, TyS, TyF, MapS, U] <;> with_reducible rfl) (by decide) ?_
            repeat (refine awp_seq ?_)
            refine awp_ret ⟨.inr rfl, _, _, rfl, ?_, (by first | exact (List.append_nil _).symm | rfl)⟩
            simp only [jN, seval, vint, TyS, TyF, MapS]
          ·
            rw [if_neg (of_decide_eq_false bt65)] at h
            repeat (refine awp_seq ?_)
            refine e_eval (by simp only [jA, jO, jN, seval, y3, y29, vint, TyS, TyF, MapS, U] <;> with_reducible rfl) (by decide) ?_
            repeat (refine awp_seq ?_)
            refine awp_cond rfl (by simp only [jN, seval, vint, TyS, TyF, MapS, U] <;> with_reducible rfl) (fun bt74 => ?_) (fun bt74 => ?_)
            ·
              rw [if_pos (of_decide_eq_true bt74)] at h
              obtain ⟨⟨c1, B1⟩, hq, h⟩ := Option.map_eq_some_iff.1 h
              cases h
              refine awp_sel [0, 4, 5] (by simp only [jN, seval, vint, TyS, TyF, MapS, U] <;> with_reducible rfl) ?_
              repeat (refine awp_seq ?_)
              refine awp_region ?_
              refine e_take 4 (by simp only [jA, jO, jN, seval, y3, y29, vint, TyS, TyF, MapS, U] <;> with_reducible rfl) (by decide) ?_
              refine aops_acall (by simp only [jC, jN, seval, vint, TyS, TyF, MapS, U] <;> with_reducible rfl) (by simp only [jC, jN, seval, vint, TyS, TyF, MapS, U]) (by decide) Trygo73 (by have := bind_k (p := p - 1) (H := H ++ [.row [.int .i64 a.kind, .int .i64 a.id, .slice (a.args.map Ty.enc) .none], .row [.int .i64 b.kind, .int .i64 b.id, .slice (b.args.map Ty.enc) .none]]) hq hB wa (by simp; omega) (by simp; omega) hne; rw [sH_app hm hs, sH_app hm hs] at this; exact this) ?_
              rintro _ _ ⟨rfl, rfl⟩
              refine e_end (by simp only [jA, jO, jN, seval, vint, TyS, TyF, MapS, U] <;> with_reducible rfl) (by decide) ?_
              repeat (refine awp_seq ?_)
              refine awp_ret ⟨.inr rfl, _, _, rfl, ?_, (by first | exact (List.append_nil _).symm | rfl)⟩
              simp only [jN, seval, vint, TyS, TyF, MapS]
            ·
              rw [if_neg (of_decide_eq_false bt74)] at h
              refine awp_sel [0, 4, 5] (by simp only [jN, seval, vint, TyS, TyF, MapS, U] <;> with_reducible rfl) ?_
              repeat (refine awp_seq ?_)
              refine g_eval (by simp only [jG, jO, jN, seval, y3, y27, y29, vint, TyS, TyF, MapS, U] <;> with_reducible rfl) (by decide) (by repeat (first | exact Fin.base _ | with_reducible apply Fin.keep | apply Fin.drop)) ?_
              repeat (refine awp_seq ?_)
              refine awp_cond rfl (by simp only [jN, seval, vint, TyS, TyF, MapS, U] <;> with_reducible rfl) (fun bt83 => ?_) (fun bt83 => ?_)
              ·
                rw [if_pos (by simp at bt83 ⊢; omega)] at h
                cases h
                refine awp_sel [] (by simp only [jN, seval, vint, TyS, TyF, MapS, U] <;> with_reducible rfl) ?_
                repeat (refine awp_seq ?_)
                refine e_eval (by simp only [jA, jO, jN, seval, vint, TyS, TyF, MapS, U] <;> with_reducible rfl) (by decide) ?_
                repeat (refine awp_seq ?_)
                refine awp_ret ⟨.inr rfl, _, _, rfl, ?_, (by first | exact (List.append_nil _).symm | rfl)⟩
                simp only [jN, seval, vint, TyS, TyF, MapS]
              ·
                rw [if_neg (by simp at bt83 ⊢; omega)] at h
                have hlen : a.args.length = b.args.length := by simp at bt83; omega
                repeat (refine awp_seq ?_)
                refine awp_skip ?_
                refine awp_sel [0, 4, 5] (by simp only [jN, seval, vint, TyS, TyF, MapS, U] <;> with_reducible rfl) ?_
                repeat (refine awp_seq ?_)
                refine e_eval (by simp only [jA, jO, jN, seval, y27, y29, vint, TyS, TyF, MapS, U] <;> with_reducible rfl) (by decide) ?_
                repeat (refine awp_seq ?_)
                refine awp_forS (σ := Bs × Int) (a.args.length) (fun (q : Bs × Int) => [(0, .optr is 0), (4, .optr H.length 0), (5, .optr (H.length + 1) 0)]) [0, 4, 5] ([]) (fun (q : Bs × Int) => sH H im is q.1 q.2 ++ [.row a.enc.cells, .row b.enc.cells]) (fun (i : Nat) (q : Bs × Int) => uniL (uniF n) (a.args.drop i) (b.args.drop i) q = some (c, (B', p')) ∧ WB q.1 ∧ 0 ≤ q.2 ∧ q.2 ≤ 20000) ((B, p - 1)) ([]) rfl rfl rfl rfl rfl rfl rfl rfl rfl (by decide) (by decide) (by decide) (fun _ => rfl) (wa.lenMax) ⟨(by first | rfl | (simp only [jN, seval, vint, TyS, TyF, MapS, U] <;> first | done | with_reducible rfl)), (by first | rfl | (simp only [jN, seval, vint, TyS, TyF, MapS, U] <;> first | done | with_reducible rfl)), (by first | rfl | (simp only [jN, seval, vint, TyS, TyF, MapS, U] <;> first | done | with_reducible rfl)), (by first | rfl | (simp only [jN, seval, vint, TyS, TyF, MapS, U] <;> first | done | with_reducible rfl)), (by first | rfl | (simp only [jN, seval, vint, TyS, TyF, MapS, U] <;> first | done | with_reducible rfl)), trivial⟩ (by first | rfl | (simp only [jN, seval, vint, TyS, TyF, MapS, U] <;> first | done | with_reducible rfl)) (⟨h, hB, by have := of_decide_eq_false bt21; omega, by omega⟩) (fun i q hg => by simp only [List.nil_append, List.length_append, sH_len]; omega) ?_ ?_ ?_
                · intro i q hg
                  refine ⟨?_, .cons (.optr _ _ (by simp [sH_len]; omega)) (.cons (.optr _ _ (by simp [sH_len])) (.cons (.optr _ _ (by simp [sH_len])) .nil))⟩
                  simp only [List.nil_append, TyS]
                  refine hbel_app' (sH_bel hb' hm) (by simp [sH_len]) ?_
                  repeat (first | exact hbel_nil _ | exact trivial | exact obel_row_nil _ | (refine HBel.cons ?_ ?_) | (refine obel_row_cons (by first | exact bel_ints0 _ _ | exact bel_slice_ty _ _ | exact Ty.bel _ _ | exact bel_ty_tok _ (by first | (simp; done) | (simp [sH_len]; omega)) | exact Bel.int _ _ | exact Bel.bool _ | exact Bel.str _ | exact Bel.nilp | exact Bel.nilfn | exact Bel.optr _ _ (by first | (simp; done) | (simp [sH_len]; omega)) | exact bel_nil0 _ | exact bel_nil1 _ | exact bel_fn0 _ _ | assumption) ?_))
                · intro i q hi hg
                  obtain ⟨hg, hqB, hq0, hq1⟩ := hg
                  have hi2 : i < b.args.length := by omega
                  have g1 := ix_nat hi
                  have g3 := ix_nat hi2
                  have g2 := get_enc Ty.enc hi
                  have g4 := get_enc Ty.enc hi2
                  have hwt := wa.arg (List.getElem_mem hi)
                  have hwp := wb.arg (List.getElem_mem hi2)
                  rw [List.drop_eq_getElem_cons hi, List.drop_eq_getElem_cons hi2] at hg
                  simp only [uniL] at hg
                  obtain ⟨⟨c1, B1, p1⟩, e3, hg⟩ := Option.bind_eq_some_iff.1 hg
                  obtain ⟨i1, i2, i3⟩ := uni_inv _ _ _ _ _ e3 hwt hwp hqB hq0
                  simp only at i1 i2 i3
                  repeat (refine awp_seq ?_)
                  refine e_eval (by simp only [jA, jO, jN, seval, vint, TyS, TyF, MapS, U, g1, Int.toNat_natCast, g2, g3, g4] <;> with_reducible rfl) (by decide) ?_
                  repeat (refine awp_seq ?_)
                  refine awp_draw 0 (by kernel_rfl) ?_
                  refine d_take (bm := [0, 0, 2, 0, 14, 30, 0, 64, 0, 448, 960, 2047, 4095]) 11 (fresh := 0) (by kernel_rfl) (by simp only [jD, jO, jN, seval, y27, y29, vint, TyS, TyF, MapS, U, g1, Int.toNat_natCast, g2, g3, g4] <;> with_reducible rfl) (by decide) (by decide) ?_
                  refine dops_eff (bm := [0, 0, 2, 0, 14, 30, 0, 64, 0, 448, 960, 2047, 4095]) (r := .bool c1) [im, is] [(im, .obj (.mapo (mp Ty.enc B1))), (is, .row [.mapp im, .int .i64 p1])] (H1 := sH H im is B1 p1 ++ [.row [.int .i64 a.kind, .int .i64 a.id, .slice (a.args.map Ty.enc) .none], .row [.int .i64 b.kind, .int .i64 b.id, .slice (b.args.map Ty.enc) .none]]) (by kernel_rfl) (by simp only [jC, jN, seval, vint, TyS, TyF, MapS, U, g1, Int.toNat_natCast, g2, g3, g4] <;> with_reducible rfl) (by simp only [jC, jN, seval, vint, TyS, TyF, MapS, U]) (by decide) Trygo60 (by simp) ?_ (by simp only [jD, jO, jN, seval, vint, TyS, TyF, MapS, U] <;> first | done | rfl) ?_ ?_
                  · intro H' hr hl
                    have r1 := hr im (by simp)
                    have r2 := hr is (by simp)
                    simp only [U] at r1 r2
                    have hl' : H.length ≤ H'.length := by rw [hl, List.length_append, sH_len]; omega
                    have := uni_k hne n a.args[i] b.args[i] q.1 q.2 c1 B1 p1 H' e3 hwt hwp hqB hq0 hq1 (by omega) (by omega)
                    rw [sH_self r1 r2] at this
                    exact this
                  · simp only [effs, List.foldl_cons, List.foldl_nil, U]
                  refine d_end (bm := [0, 0, 2, 0, 14, 30, 0, 64, 0, 448, 960, 2047, 4095]) (fresh := 0) (by kernel_rfl) (by simp only [jD, jO, jN, seval, vint, TyS, TyF, MapS, U, g1, Int.toNat_natCast, g2, g3, g4] <;> with_reducible rfl) (by decide) ?_
                  repeat (refine awp_seq ?_)
                  refine awp_cond rfl (by simp only [jN, seval, vint, TyS, TyF, MapS, U, g1, Int.toNat_natCast, g2, g3, g4] <;> with_reducible rfl) (fun bt123 => ?_) (fun bt123 => ?_)
                  ·
                    rw [if_neg (by simpa using bt123)] at hg
                    cases hg
                    refine awp_sel [0, 4, 5, 107, 108] (by simp only [jN, seval, vint, TyS, TyF, MapS, U, g1, Int.toNat_natCast, g2, g3, g4] <;> with_reducible rfl) ?_
                    repeat (refine awp_seq ?_)
                    refine e_eval (by simp only [jA, jO, jN, seval, vint, TyS, TyF, MapS, U, g1, Int.toNat_natCast, g2, g3, g4] <;> with_reducible rfl) (by decide) ?_
                    repeat (refine awp_seq ?_)
                    refine awp_ret ⟨.inr rfl, _, _, rfl, ?_, (by first | exact (List.append_nil _).symm | rfl)⟩
                    simp only [jN, seval, vint, TyS, TyF, MapS]
                  ·
                    rw [if_pos (by simpa using bt123)] at hg
                    repeat (refine awp_seq ?_)
                    refine awp_skip ?_
                    exact ⟨⟨rfl, rfl, trivial⟩, (B1, p1), [], ⟨rfl, rfl, rfl, trivial⟩, (by simp only [jN, seval, vint, TyS, TyF, MapS]), hg, i1, i3 (by simpa using bt123), by omega⟩
                · intro q hg
                  obtain ⟨hg, -⟩ := hg
                  rw [List.drop_eq_nil_of_le (Nat.le_refl _)] at hg
                  simp only [uniL] at hg
                  cases hg
                  repeat (refine awp_seq ?_)
                  refine e_eval (by simp only [jA, jO, jN, seval, vint, TyS, TyF, MapS, U] <;> with_reducible rfl) (by decide) ?_
                  repeat (refine awp_seq ?_)
                  refine awp_ret ⟨.inr rfl, _, _, rfl, ?_, (by first | exact (List.append_nil _).symm | rfl)⟩
                  simp only [jN, seval, vint, TyS, TyF, MapS]

end Go.Abs
set_option maxRecDepth 4000
namespace Go.Abs
open Go.Proofs

theorem solve_k {B B' : Bs} {is im : Nat} {p p' : Int} {n : Nat} {a b : Ty} {c : Bool} {H : Heap} (h : uniF n a b (B, 20000) = some (c, (B', p'))) (ha : a.W) (hb : b.W) (hB : WB B) (hm : im < H.length) (hs : is < H.length) (hne : im ≠ is) :
    ACalls Try.prog 33 [.optr is 0, a.enc, b.enc] (sH H im is B p) fun r' H' => r' = .bool c ∧ H' = sH H im is B' p' := by
  have U := sH_rules hm hs hne
  refine muts_of (N := 14) Try.func33 rfl rfl (by simp) (.bool _) (by simp only [sH_len]) (fun hb => by rw [sH_len] at hb ⊢; exact sH_bel hb hm) fun hb' => ?_
  rw [sH_len]
  rw [sH_len] at hb'
  repeat (refine awp_seq ?_)
  refine e_eval (by simp only [jA, jO, jN, seval, y29, vint, TyS, TyF, MapS, U] <;> with_reducible rfl) (by decide) ?_
  repeat (refine awp_seq ?_)
  refine e_eval (by simp only [jA, jO, jN, seval, y3, y60, vint, TyS, TyF, MapS, U] <;> with_reducible rfl) (by decide) ?_
  repeat (refine awp_seq ?_)
  refine awp_region ?_
  refine e_take 3 (by simp only [jA, jO, jN, seval, y29, vint, TyS, TyF, MapS, U] <;> with_reducible rfl) (by decide) ?_
  refine aops_acall (by simp only [jC, jN, seval, vint, TyS, TyF, MapS, U] <;> with_reducible rfl) (by simp only [jC, jN, seval, vint, TyS, TyF, MapS, U]) (by decide) Trygo60 (by have := uni_k hne n a b B 20000 c B' p' (H ++ [.row [.int .i64 a.kind, .int .i64 a.id, .slice (a.args.map Ty.enc) .none], .row [.int .i64 b.kind, .int .i64 b.id, .slice (b.args.map Ty.enc) .none]]) h ha hb hB (by omega) (by omega) (by simp; omega) (by simp; omega); rw [sH_app hm hs, sH_app hm hs] at this; exact this) ?_
  rintro _ _ ⟨rfl, rfl⟩
  refine e_end (by simp only [jA, jO, jN, seval, vint, TyS, TyF, MapS, U] <;> with_reducible rfl) (by decide) ?_
  repeat (refine awp_seq ?_)
  refine awp_ret ⟨.inr rfl, _, _, rfl, ?_, (by first | exact (List.append_nil _).symm | rfl)⟩
  simp only [jN, seval, vint, TyS, TyF, MapS]

theorem ext_k {B : Bs} {is im : Nat} {p : PV} (hB : WB B) : ∀ (n : Nat) (t : Ty) (w w' : Kn) (e : Int × Int) (H : Heap) (iv : Nat), extF n B t w = some (e, w') → t.W → H[is]? = some (.row [.mapp im, p]) → H[im]? = some (.obj (.mapo (mp Ty.enc B))) → iv < H.length → is ≠ iv → im ≠ iv →
    ACalls Try.prog 61 [.optr is 0, t.enc, .mapp iv] (uH H iv (mp enE w)) fun r' H' => r' = enE e ∧ H' = uH H iv (mp enE w')
  | 0, t, w, w', e, H, iv, h, _, _, _, _, _, _ => by cases h
  | n + 1, t, w, w', e, H, iv, h, ht, hs, hm, hv, ns, nm => by
    have ih := fun (u : Ty) (s s' : Kn) (c : Int × Int) (L : Heap) (h : extF n B u s = some (c, s')) (hu : u.W) => (uH_app hv (mp enE s) ▸ uH_app hv (mp enE s') ▸ ext_k hB n u s s' c (H ++ L) iv h hu (by rw [List.getElem?_append_left (len_of_get hs)]; exact hs) (by rw [List.getElem?_append_left (len_of_get hm)]; exact hm) (by rw [List.length_append]; omega) ns nm : ACalls Try.prog 61 [.optr is 0, u.enc, .mapp iv] (uH H iv (mp enE s) ++ L) fun r' H' => r' = enE c ∧ H' = uH H iv (mp enE s') ++ L)
    have U := uH_rules hv
    have q1 := uH_ne ns hs
    have q2 := uH_ne nm hm
    have ms := len_of_get hs
    have mm := len_of_get hm
    have ffs : ∀ k, (H.length + k == is) = false := fun k => by simp; omega
    have ffm : ∀ k, (H.length + k == im) = false := fun k => by simp; omega
    have ffv : ∀ k, (iv = H.length + k) = False := fun k => by simp; omega
    simp only [extF] at h
    refine muts_of (N := 80) Try.func61 rfl rfl (by simp) (.agg _ (by simp; exact ⟨.int _ _, .int _ _⟩)) (by simp only [uH_len]) (fun hb => by rw [uH_len] at hb ⊢; exact uH_bel hb (bel_mp _ _ _ fun a => .agg _ (by simp; exact ⟨.int _ _, .int _ _⟩))) fun hb' => ?_
    rw [uH_len]
    rw [uH_len] at hb'
    repeat (refine awp_seq ?_)
    refine e_eval (by simp only [jA, jO, jN, seval, y29, y80, vint, TyS, TyF, MapS, U, q1, q2, ffs, ffm, ffv, Bool.not_false, Bool.and_self, enE] <;> with_reducible rfl) (by decide) ?_
    repeat (refine awp_seq ?_)
    refine e_eval (by simp only [jA, jO, jN, seval, y3, y29, vint, TyS, TyF, MapS, U, q1, q2, ffs, ffm, ffv, Bool.not_false, Bool.and_self, enE] <;> with_reducible rfl) (by decide) ?_
    repeat (refine awp_seq ?_)
    refine awp_cond rfl (by simp only [jN, seval, vint, TyS, TyF, MapS, U, q1, q2, ffs, ffm, ffv, Bool.not_false, Bool.and_self, enE] <;> with_reducible rfl) (fun bt18 => ?_) (fun bt18 => ?_)
    ·
      rw [if_pos (of_decide_eq_true bt18)] at h
      rcases hk : lk w t.id with _ | e0
      ·
        rw [hk] at h
        simp only at h
        repeat (refine awp_seq ?_)
        refine e_eval (by simp only [jA, jO, jN, seval, y3, y29, y80, y82, vint, TyS, TyF, MapS, U, q1, q2, ffs, ffm, ffv, Bool.not_false, Bool.and_self, enE, mget_mp, hk, Option.map_none] <;> with_reducible rfl) (by decide) ?_
        repeat (refine awp_seq ?_)
        refine e_eval (by simp only [jA, jO, jN, seval, vint, TyS, TyF, MapS, U, q1, q2, ffs, ffm, ffv, Bool.not_false, Bool.and_self, enE, mget_mp, hk, Option.map_none] <;> with_reducible rfl) (by decide) ?_
        repeat (refine awp_seq ?_)
        refine awp_cond_false rfl (by simp only [jN, seval, vint, TyS, TyF, MapS, U, q1, q2, ffs, ffm, ffv, Bool.not_false, Bool.and_self, enE, mget_mp, hk, Option.map_none] <;> with_reducible rfl) ?_
        repeat (refine awp_seq ?_)
        refine awp_skip ?_
        refine awp_sel [0, 2, 4, 6] (by simp only [jN, seval, vint, TyS, TyF, MapS, U, q1, q2, ffs, ffm, ffv, Bool.not_false, Bool.and_self, enE, mget_mp, hk, Option.map_none] <;> with_reducible rfl) ?_
        rcases hl : lk B t.id with _ | u
        ·
          rw [hl] at h
          cases h
          repeat (refine awp_seq ?_)
          refine awp_draw 1 (by kernel_rfl) ?_
          refine d_take (bm := [0, 1, 3, 7, 0, 16, 63, 127, 255, 255, 0, 1535, 4095]) 10 (fresh := ((H.length + 3))) (by kernel_rfl) (by simp only [jD, jO, jN, seval, y3, y29, y58, y60, vint, TyS, TyF, MapS, U, q1, q2, ffs, ffm, ffv, Bool.not_false, Bool.and_self, enE, mget_mp, hk, Option.map_none, hl, Option.map_none] <;> with_reducible rfl) (by decide) (by decide) ?_
          refine d_end (bm := [0, 1, 3, 7, 0, 16, 63, 127, 255, 255, 0, 1535, 4095]) (fresh := ((H.length + 3))) (by kernel_rfl) (by simp only [jD, jO, jN, seval, y29, vint, TyS, TyF, MapS, U, q1, q2, ffs, ffm, ffv, Bool.not_false, Bool.and_self, enE, mget_mp, hk, Option.map_none, hl, Option.map_none] <;> with_reducible rfl) (by decide) ?_
          repeat (refine awp_seq ?_)
          refine e_eval (by simp only [jA, jO, jN, seval, vint, TyS, TyF, MapS, U, q1, q2, ffs, ffm, ffv, Bool.not_false, Bool.and_self, enE, mget_mp, hk, Option.map_none, hl, Option.map_none] <;> with_reducible rfl) (by decide) ?_
          repeat (refine awp_seq ?_)
          refine awp_cond_true rfl (by simp only [jN, seval, vint, TyS, TyF, MapS, U, q1, q2, ffs, ffm, ffv, Bool.not_false, Bool.and_self, enE, mget_mp, hk, Option.map_none, hl, Option.map_none] <;> with_reducible rfl) ?_
          repeat (refine awp_seq ?_)
          refine e_eval (by simp only [jA, jO, jN, seval, y80, vint, TyS, TyF, MapS, U, q1, q2, ffs, ffm, ffv, Bool.not_false, Bool.and_self, enE, mget_mp, hk, Option.map_none, hl, Option.map_none] <;> with_reducible rfl) (by decide) ?_
          repeat (refine awp_seq ?_)
          refine awp_ret ⟨.inr rfl, _, _, (ares_cell 6 80 rfl Tryti80 (by decide) (by simp only [jL, jN, seval, vint, TyS, TyF, MapS, U, q1, q2, ffs, ffm, ffv, Bool.not_false, Bool.and_self, enE, mget_mp, hk, Option.map_none, hl, Option.map_none] <;> with_reducible rfl)), ?_, (by first | exact (List.append_nil _).symm | rfl)⟩
          simp only [jN, seval, vint, enE]
        ·
          rw [hl] at h
          simp only at h
          obtain ⟨⟨e1, w1⟩, hq, h2⟩ := Option.map_eq_some_iff.1 h
          cases h2
          have hu := hB _ _ hl
          repeat (refine awp_seq ?_)
          refine awp_draw 1 (by kernel_rfl) ?_
          refine d_take (bm := [0, 1, 3, 7, 0, 16, 63, 127, 255, 255, 0, 1535, 4095]) 10 (fresh := ((H.length + 3))) (by kernel_rfl) (by simp only [jD, jO, jN, seval, y3, y29, y58, y60, vint, TyS, TyF, MapS, U, q1, q2, ffs, ffm, ffv, Bool.not_false, Bool.and_self, enE, mget_mp, hk, Option.map_none, hl, Option.map_some, enE] <;> with_reducible rfl) (by decide) (by decide) ?_
          refine d_end (bm := [0, 1, 3, 7, 0, 16, 63, 127, 255, 255, 0, 1535, 4095]) (fresh := ((H.length + 3))) (by kernel_rfl) (by simp only [jD, jO, jN, seval, y29, vint, TyS, TyF, MapS, U, q1, q2, ffs, ffm, ffv, Bool.not_false, Bool.and_self, enE, mget_mp, hk, Option.map_none, hl, Option.map_some, enE] <;> with_reducible rfl) (by decide) ?_
          repeat (refine awp_seq ?_)
          refine e_eval (by simp only [jA, jO, jN, seval, vint, TyS, TyF, MapS, U, q1, q2, ffs, ffm, ffv, Bool.not_false, Bool.and_self, enE, mget_mp, hk, Option.map_none, hl, Option.map_some, enE] <;> with_reducible rfl) (by decide) ?_
          repeat (refine awp_seq ?_)
          refine awp_cond_false rfl (by simp only [jN, seval, vint, TyS, TyF, MapS, U, q1, q2, ffs, ffm, ffv, Bool.not_false, Bool.and_self, enE, mget_mp, hk, Option.map_none, hl, Option.map_some, enE] <;> with_reducible rfl) ?_
          repeat (refine awp_seq ?_)
          refine awp_skip ?_
          repeat (refine awp_seq ?_)
          refine awp_region ?_
          refine e_take 3 (by simp only [jA, jO, jN, seval, y29, vint, TyS, TyF, MapS, U, q1, q2, ffs, ffm, ffv, Bool.not_false, Bool.and_self, enE, mget_mp, hk, Option.map_none, hl, Option.map_some, enE] <;> with_reducible rfl) (by decide) ?_
          refine aops_acall (by simp only [jC, jN, seval, vint, TyS, TyF, MapS, U, q1, q2, ffs, ffm, ffv, Bool.not_false, Bool.and_self, enE, mget_mp, hk, Option.map_none, hl, Option.map_some, enE] <;> with_reducible rfl) (by simp only [jC, jN, seval, vint, TyS, TyF, MapS, U, q1, q2, ffs, ffm, ffv, Bool.not_false, Bool.and_self, enE, mget_mp, hk, Option.map_none, hl, Option.map_some, enE]) (by decide) Trygo61 (ih u _ _ _ _ hq hu) ?_
          rintro _ _ ⟨rfl, rfl⟩
          refine e_end (by simp only [jA, jO, jN, seval, y80, vint, TyS, TyF, MapS, U, q1, q2, ffs, ffm, ffv, Bool.not_false, Bool.and_self, enE, mget_mp, hk, Option.map_none, hl, Option.map_some, enE] <;> with_reducible rfl) (by decide) ?_
          refine awp_sel [2, 4, 6, 11] (by simp only [jN, seval, vint, TyS, TyF, MapS, U, q1, q2, ffs, ffm, ffv, Bool.not_false, Bool.and_self, enE, mget_mp, hk, Option.map_none, hl, Option.map_some, enE] <;> with_reducible rfl) ?_
          repeat (refine awp_seq ?_)
          refine e_eval (by simp only [jA, jO, jN, seval, y3, y29, y80, y82, vint, TyS, TyF, MapS, U, q1, q2, ffs, ffm, ffv, Bool.not_false, Bool.and_self, enE, mget_mp, hk, Option.map_none, hl, Option.map_some, enE, mset_enE] <;> with_reducible rfl) (by decide) ?_
          repeat (refine awp_seq ?_)
          refine e_eval (by simp only [jA, jO, jN, seval, y80, vint, TyS, TyF, MapS, U, q1, q2, ffs, ffm, ffv, Bool.not_false, Bool.and_self, enE, mget_mp, hk, Option.map_none, hl, Option.map_some, enE] <;> with_reducible rfl) (by decide) ?_
          repeat (refine awp_seq ?_)
          refine awp_ret ⟨.inr rfl, _, _, (ares_cell 6 80 rfl Tryti80 (by decide) (by simp only [jL, jN, seval, vint, TyS, TyF, MapS, U, q1, q2, ffs, ffm, ffv, Bool.not_false, Bool.and_self, enE, mget_mp, hk, Option.map_none, hl, Option.map_some, enE] <;> with_reducible rfl)), ?_, (by first | exact (List.append_nil _).symm | rfl)⟩
          simp only [jN, seval, vint, enE]
      ·
        rw [hk] at h
        simp only at h
        cases h
        repeat (refine awp_seq ?_)
        refine e_eval (by simp only [jA, jO, jN, seval, y3, y29, y80, y82, vint, TyS, TyF, MapS, U, q1, q2, ffs, ffm, ffv, Bool.not_false, Bool.and_self, enE, mget_mp, hk, Option.map_some, enE] <;> with_reducible rfl) (by decide) ?_
        repeat (refine awp_seq ?_)
        refine e_eval (by simp only [jA, jO, jN, seval, vint, TyS, TyF, MapS, U, q1, q2, ffs, ffm, ffv, Bool.not_false, Bool.and_self, enE, mget_mp, hk, Option.map_some, enE] <;> with_reducible rfl) (by decide) ?_
        repeat (refine awp_seq ?_)
        refine awp_cond_true rfl (by simp only [jN, seval, vint, TyS, TyF, MapS, U, q1, q2, ffs, ffm, ffv, Bool.not_false, Bool.and_self, enE, mget_mp, hk, Option.map_some, enE] <;> with_reducible rfl) ?_
        refine awp_sel [6, 7] (by simp only [jN, seval, vint, TyS, TyF, MapS, U, q1, q2, ffs, ffm, ffv, Bool.not_false, Bool.and_self, enE, mget_mp, hk, Option.map_some, enE] <;> with_reducible rfl) ?_
        repeat (refine awp_seq ?_)
        refine e_eval (by simp only [jA, jO, jN, seval, y80, vint, TyS, TyF, MapS, U, q1, q2, ffs, ffm, ffv, Bool.not_false, Bool.and_self, enE, mget_mp, hk, Option.map_some, enE] <;> with_reducible rfl) (by decide) ?_
        repeat (refine awp_seq ?_)
        refine awp_ret ⟨.inr rfl, _, _, (ares_cell 6 80 rfl Tryti80 (by decide) (by simp only [jL, jN, seval, vint, TyS, TyF, MapS, U, q1, q2, ffs, ffm, ffv, Bool.not_false, Bool.and_self, enE, mget_mp, hk, Option.map_some, enE] <;> with_reducible rfl)), ?_, (by first | exact (List.append_nil _).symm | rfl)⟩
        simp only [jN, seval, vint, enE]
    ·
      rw [if_neg (of_decide_eq_false bt18)] at h
      obtain ⟨⟨e1, w1⟩, hq, h2⟩ := Option.map_eq_some_iff.1 h
      cases h2
      repeat (refine awp_seq ?_)
      refine awp_skip ?_
      repeat (refine awp_seq ?_)
      refine e_eval (by simp only [jA, jO, jN, seval, y80, vint, TyS, TyF, MapS, U, q1, q2, ffs, ffm, ffv, Bool.not_false, Bool.and_self, enE] <;> with_reducible rfl) (by decide) ?_
      repeat (refine awp_seq ?_)
      refine e_eval (by simp only [jA, jO, jN, seval, y27, y29, vint, TyS, TyF, MapS, U, q1, q2, ffs, ffm, ffv, Bool.not_false, Bool.and_self, enE] <;> with_reducible rfl) (by decide) ?_
      repeat (refine awp_seq ?_)
      refine awp_forS (σ := (Int × Int) × Kn) (t.args.length) (fun (q : (Int × Int) × Kn) => [(0, .optr is 0), (2, .mapp iv), (6, .optr (H.length + 1) 0), (12, .optr (H.length + 2) 0), (52, .slice (t.args.map Ty.enc) .none)]) [0, 2, 6, 12, 52] ([]) (fun (q : (Int × Int) × Kn) => uH H iv (mp enE q.2) ++ [.row t.enc.cells, .row [vint 0, vint 0], .row [vint q.1.1, vint q.1.2]]) (fun (i : Nat) (q : (Int × Int) × Kn) => extL (extF n B) (t.args.drop i) q.1 q.2 = some (e1, w1)) (((1, 0), w)) ([]) rfl rfl rfl rfl rfl rfl rfl rfl rfl (by decide) (by decide) (by decide) (fun _ => rfl) (ht.lenMax) ⟨(by first | rfl | (simp only [jN, seval, vint, TyS, TyF, MapS, U, q1, q2, ffs, ffm, ffv, Bool.not_false, Bool.and_self, enE] <;> first | done | with_reducible rfl)), (by first | rfl | (simp only [jN, seval, vint, TyS, TyF, MapS, U, q1, q2, ffs, ffm, ffv, Bool.not_false, Bool.and_self, enE] <;> first | done | with_reducible rfl)), (by first | rfl | (simp only [jN, seval, vint, TyS, TyF, MapS, U, q1, q2, ffs, ffm, ffv, Bool.not_false, Bool.and_self, enE] <;> first | done | with_reducible rfl)), (by first | rfl | (simp only [jN, seval, vint, TyS, TyF, MapS, U, q1, q2, ffs, ffm, ffv, Bool.not_false, Bool.and_self, enE] <;> first | done | with_reducible rfl)), (by first | rfl | (simp only [jN, seval, vint, TyS, TyF, MapS, U, q1, q2, ffs, ffm, ffv, Bool.not_false, Bool.and_self, enE] <;> first | done | with_reducible rfl)), (by first | rfl | (simp only [jN, seval, vint, TyS, TyF, MapS, U, q1, q2, ffs, ffm, ffv, Bool.not_false, Bool.and_self, enE] <;> first | done | with_reducible rfl)), (by first | rfl | (simp only [jN, seval, vint, TyS, TyF, MapS, U, q1, q2, ffs, ffm, ffv, Bool.not_false, Bool.and_self, enE] <;> first | done | with_reducible rfl)), trivial⟩ (by first | rfl | (simp only [jN, seval, vint, TyS, TyF, MapS, U, q1, q2, ffs, ffm, ffv, Bool.not_false, Bool.and_self, enE] <;> first | done | with_reducible rfl)) (hq) (fun i q hg => by simp only [List.nil_append, List.length_append, uH_len]; omega) ?_ ?_ ?_
      · intro i q hg
        refine ⟨?_, .cons (.optr _ _ (by simp [uH_len]; omega)) (.cons (.mapp _ (by simp [uH_len]; omega)) (.cons (.optr _ _ (by simp [uH_len])) (.cons (.optr _ _ (by simp [uH_len])) (.cons (bel_Ty _ _) .nil))))⟩
        simp only [List.nil_append, TyS]
        refine hbel_app' (uH_bel hb' (bel_mp _ _ _ fun a => .agg _ (by simp; exact ⟨.int _ _, .int _ _⟩))) (by simp [uH_len]) ?_
        repeat (first | exact hbel_nil _ | exact trivial | exact obel_row_nil _ | (refine HBel.cons ?_ ?_) | (refine obel_row_cons (by first | exact bel_ints0 _ _ | exact bel_slice_ty _ _ | exact Ty.bel _ _ | exact bel_ty_tok _ (by first | (simp; done) | (simp [sH_len]; omega)) | exact Bel.int _ _ | exact Bel.bool _ | exact Bel.str _ | exact Bel.nilp | exact Bel.nilfn | exact Bel.optr _ _ (by first | (simp; done) | (simp [sH_len]; omega)) | exact bel_nil0 _ | exact bel_nil1 _ | exact bel_fn0 _ _ | assumption) ?_))
      · intro i q hi hg
        have g1 := ix_nat hi
        have g2 := get_enc Ty.enc hi
        have hwt := ht.arg (List.getElem_mem hi)
        rw [List.drop_eq_getElem_cons hi] at hg
        simp only [extL] at hg
        obtain ⟨⟨e2, w2⟩, e3, hg⟩ := Option.bind_eq_some_iff.1 hg
        repeat (refine awp_seq ?_)
        refine e_eval (by simp only [jA, jO, jN, seval, y27, y29, vint, TyS, TyF, MapS, U, q1, q2, ffs, ffm, ffv, Bool.not_false, Bool.and_self, enE, g1, Int.toNat_natCast, g2] <;> with_reducible rfl) (by decide) ?_
        repeat (refine awp_seq ?_)
        refine awp_region ?_
        refine e_take 3 (by simp only [jA, jO, jN, seval, y29, vint, TyS, TyF, MapS, U, q1, q2, ffs, ffm, ffv, Bool.not_false, Bool.and_self, enE, g1, Int.toNat_natCast, g2] <;> with_reducible rfl) (by decide) ?_
        refine aops_acall (by simp only [jC, jN, seval, vint, TyS, TyF, MapS, U, q1, q2, ffs, ffm, ffv, Bool.not_false, Bool.and_self, enE, g1, Int.toNat_natCast, g2] <;> with_reducible rfl) (by simp only [jC, jN, seval, vint, TyS, TyF, MapS, U, q1, q2, ffs, ffm, ffv, Bool.not_false, Bool.and_self, enE, g1, Int.toNat_natCast, g2]) (by decide) Trygo61 (ih _ _ _ _ _ e3 hwt) ?_
        rintro _ _ ⟨rfl, rfl⟩
        refine e_end (by simp only [jA, jO, jN, seval, y80, vint, TyS, TyF, MapS, U, q1, q2, ffs, ffm, ffv, Bool.not_false, Bool.and_self, enE, g1, Int.toNat_natCast, g2] <;> with_reducible rfl) (by decide) ?_
        repeat (refine awp_seq ?_)
        refine e_eval (by simp only [jA, jO, jN, seval, y3, y80, vint, TyS, TyF, MapS, U, q1, q2, ffs, ffm, ffv, Bool.not_false, Bool.and_self, enE, g1, Int.toNat_natCast, g2] <;> with_reducible rfl) (by decide) ?_
        exact ⟨⟨rfl, rfl, trivial⟩, ((min (IntKind.i64.wrap (q.1.1 + e2.1)) 200, max q.1.2 e2.2), w2), _, ⟨rfl, rfl, rfl, rfl, rfl, trivial⟩, (by simp only [jN, seval, vint, TyS, TyF, MapS, U, List.append_assoc] <;> rfl), hg⟩
      · intro q hg
        rw [List.drop_eq_nil_of_le (Nat.le_refl _)] at hg
        simp only [extL] at hg
        cases hg
        repeat (refine awp_seq ?_)
        refine e_eval (by simp only [jA, jO, jN, seval, y3, y80, vint, TyS, TyF, MapS, U, q1, q2, ffs, ffm, ffv, Bool.not_false, Bool.and_self, enE] <;> with_reducible rfl) (by decide) ?_
        repeat (refine awp_seq ?_)
        refine e_eval (by simp only [jA, jO, jN, seval, y80, vint, TyS, TyF, MapS, U, q1, q2, ffs, ffm, ffv, Bool.not_false, Bool.and_self, enE] <;> with_reducible rfl) (by decide) ?_
        repeat (refine awp_seq ?_)
        refine awp_ret ⟨.inr rfl, _, _, (ares_cell 6 80 rfl Tryti80 (by decide) (by simp only [jL, jN, seval, vint, TyS, TyF, MapS, U, q1, q2, ffs, ffm, ffv, Bool.not_false, Bool.and_self, enE] <;> with_reducible rfl)), ?_, (by first | exact (List.append_nil _).symm | rfl)⟩
        simp only [jN, seval, vint, enE]

end Go.Abs
set_option maxRecDepth 4000
namespace Go.Abs
open Go.Proofs
theorem within_k {B : Bs} {is im : Nat} {p : PV} {n : Nat} {t : Ty} {b : Bool} {H : Heap} (h : withinF n B t = some b) (hB : WB B) (ht : t.W) (hs : H[is]? = some (.row [.mapp im, p])) (hm : H[im]? = some (.obj (.mapo (mp Ty.enc B)))) :
    ACalls Try.prog 34 [.optr is 0, t.enc] H fun r' H' => r' = .bool b ∧ H' = H := by
  have ms := len_of_get hs
  have mm := len_of_get hm
  unfold withinF at h
  obtain ⟨⟨e, w'⟩, hq, h⟩ := Option.map_eq_some_iff.1 h
  cases h
  have oc := ext_k (is := is) (im := im) (p := p) hB n t [] w' e (H ++ [.row t.enc.cells, .obj (.mapo [])]) (H.length + 1) hq ht (by rw [List.getElem?_append_left ms]; exact hs) (by rw [List.getElem?_append_left mm]; exact hm) (by simp) (by omega) (by omega)
  rw [uH_self (by simp [mp])] at oc
  have ow : uH (H ++ [.row t.enc.cells, .obj (.mapo [])]) (H.length + 1) (mp enE w') = H ++ [.row t.enc.cells, .obj (.mapo (mp enE w'))] := by simp [uH]
  rw [ow] at oc
  simp only [TyS] at oc
  refine keeps_of (N := 18) Try.func34 rfl rfl (by simp) (.bool _) fun hb' => ?_
  repeat (refine awp_seq ?_)
  refine e_eval (by simp only [jA, jO, jN, seval, y29, vint, TyS, TyF, MapS, enE] <;> with_reducible rfl) (by decide) ?_
  repeat (refine awp_seq ?_)
  refine awp_region ?_
  refine e_take 3 (by simp only [jA, jO, jN, seval, y29, y80, y82, vint, TyS, TyF, MapS, enE] <;> with_reducible rfl) (by decide) ?_
  refine aops_acall (by simp only [jC, jN, seval, vint, TyS, TyF, MapS, enE] <;> with_reducible rfl) (by simp only [jC, jN, seval, vint, TyS, TyF, MapS, enE]) (by decide) Trygo61 (oc) ?_
  rintro _ _ ⟨rfl, rfl⟩
  refine e_end (by simp only [jA, jO, jN, seval, y80, vint, TyS, TyF, MapS, enE] <;> with_reducible rfl) (by decide) ?_
  repeat (refine awp_seq ?_)
  refine g_eval (by simp only [jG, jO, jN, seval, y3, y80, vint, TyS, TyF, MapS, enE] <;> with_reducible rfl) (by decide) (by repeat (first | exact Fin.base _ | with_reducible apply Fin.keep | apply Fin.drop)) ?_
  repeat (refine awp_seq ?_)
  refine awp_ret ⟨.inr rfl, _, _, rfl, ?_, (by first | exact (List.append_nil _).symm | rfl)⟩
  simp only [jN, seval, vint, TyS, TyF, MapS]

theorem res1 {B : Bs} {is im i2 : Nat} {p : PV} {n : Nat} {u : Ty} {H : Heap} (hB : WB B) (hu : u.W) (h2 : H[i2]? = some (.row [.optr is 0])) (hs : H[is]? = some (.row [.mapp im, p])) (hm : H[im]? = some (.obj (.mapo (mp Ty.enc B))))
    (hok : u.kind = 1 → ∃ h, headF n B u = some h ∧ (h.kind ≠ 1 → okR n B h))
    (hc : ∀ (h : Ty) (L : Heap), okR n B h → h.W → ACalls Try.prog 35 [.optr is 0, h.enc] (H ++ L) fun r' H' => r' = (rsvF n B h).enc ∧ H' = H ++ L) :
    ACalls Try.prog 62 [u.enc, .optr i2 0] H fun r' H' => r' = .tup [(resG n B (rsvF n B) u).1.enc, .bool (resG n B (rsvF n B) u).2] ∧ H' = H := by
  have q1 : ∀ L, (H ++ L)[is]? = some (.row [.mapp im, p]) := fun L => by rw [List.getElem?_append_left (len_of_get hs)]; exact hs
  have q2 : ∀ L, (H ++ L)[im]? = some (.obj (.mapo (mp Ty.enc B))) := fun L => by rw [List.getElem?_append_left (len_of_get hm)]; exact hm
  have q3 : ∀ L, (H ++ L)[i2]? = some (.row [.optr is 0]) := fun L => by rw [List.getElem?_append_left (len_of_get h2)]; exact h2
  refine keeps_of (N := 20) Try.func62 rfl rfl (by simp) (.tup _ (by simp [Ty.bel, Bel.bool])) fun hb' => ?_
  repeat (refine awp_seq ?_)
  refine e_eval (by simp only [jA, jO, jN, seval, y29, vint, TyS, TyF, MapS, q1, q2, q3] <;> with_reducible rfl) (by decide) ?_
  repeat (refine awp_seq ?_)
  refine e_eval (by simp only [jA, jO, jN, seval, y3, y29, vint, TyS, TyF, MapS, q1, q2, q3] <;> with_reducible rfl) (by decide) ?_
  repeat (refine awp_seq ?_)
  refine awp_cond rfl (by simp only [jN, seval, vint, TyS, TyF, MapS, q1, q2, q3] <;> with_reducible rfl) (fun bt8 => ?_) (fun bt8 => ?_)
  ·
    skip
    repeat (refine awp_seq ?_)
    refine e_eval (by simp only [jA, jO, jN, seval, y29, vint, TyS, TyF, MapS, q1, q2, q3] <;> with_reducible rfl) (by decide) ?_
    repeat (refine awp_seq ?_)
    refine awp_ret ⟨.inr rfl, _, _, (ares_two (.cell 3 29) (.tmp 4) rfl (ares_cell1 Tryti29 (by decide) (by simp only [jL, jN, seval, vint, TyS, TyF, MapS, q1, q2, q3] <;> with_reducible rfl)) (ares_tmp1 (by decide))), ?_, (by first | exact (List.append_nil _).symm | rfl)⟩
    simp only [jN, seval, vint, TyS, TyF, MapS]
    unfold resG
    rw [if_pos (by simpa using bt8)]
  ·
    have hk : u.kind = 1 := by simpa using bt8
    obtain ⟨h, e1, hr⟩ := hok hk
    have wh := headF_W hB hu e1
    have hg : resG n B (rsvF n B) u = if h.kind = 1 then (h, true) else (rsvF n B h, true) := by simp [resG, hk, e1]
    rw [hg]
    repeat (refine awp_seq ?_)
    refine awp_skip ?_
    repeat (refine awp_seq ?_)
    refine awp_region ?_
    refine e_take 2 (by simp only [jA, jO, jN, seval, y29, y56, vint, TyS, TyF, MapS, q1, q2, q3] <;> with_reducible rfl) (by decide) ?_
    refine aops_pure (by simp only [jC, jN, seval, vint, TyS, TyF, MapS, q1, q2, q3] <;> with_reducible rfl) (by simp only [jC, jN, seval, vint, TyS, TyF, MapS, q1, q2, q3]) (by decide) Trygo63 (head_k B e1 (q1 _) (q2 _)) ?_
    refine e_end (by simp only [jA, jO, jN, seval, y29, vint, TyS, TyF, MapS, q1, q2, q3] <;> with_reducible rfl) (by decide) ?_
    repeat (refine awp_seq ?_)
    refine e_eval (by simp only [jA, jO, jN, seval, y3, y29, vint, TyS, TyF, MapS, q1, q2, q3] <;> with_reducible rfl) (by decide) ?_
    repeat (refine awp_seq ?_)
    refine awp_cond rfl (by simp only [jN, seval, vint, TyS, TyF, MapS, q1, q2, q3] <;> with_reducible rfl) (fun bt15 => ?_) (fun bt15 => ?_)
    ·
      rw [if_pos (of_decide_eq_true bt15)]
      repeat (refine awp_seq ?_)
      refine e_eval (by simp only [jA, jO, jN, seval, y29, vint, TyS, TyF, MapS, q1, q2, q3] <;> with_reducible rfl) (by decide) ?_
      repeat (refine awp_seq ?_)
      refine awp_ret ⟨.inr rfl, _, _, (ares_two (.cell 3 29) (.tmp 4) rfl (ares_cell1 Tryti29 (by decide) (by simp only [jL, jN, seval, vint, TyS, TyF, MapS, q1, q2, q3] <;> with_reducible rfl)) (ares_tmp1 (by decide))), ?_, (by first | exact (List.append_nil _).symm | rfl)⟩
      simp only [jN, seval, vint, TyS, TyF, MapS]
    ·
      rw [if_neg (of_decide_eq_false bt15)]
      repeat (refine awp_seq ?_)
      refine awp_skip ?_
      repeat (refine awp_seq ?_)
      refine awp_region ?_
      refine e_take 2 (by simp only [jA, jO, jN, seval, y29, y56, vint, TyS, TyF, MapS, q1, q2, q3] <;> with_reducible rfl) (by decide) ?_
      refine aops_pure (by simp only [jC, jN, seval, vint, TyS, TyF, MapS, q1, q2, q3] <;> with_reducible rfl) (by simp only [jC, jN, seval, vint, TyS, TyF, MapS, q1, q2, q3]) (by decide) Trygo35 (hc h _ (hr (of_decide_eq_false bt15)) wh) ?_
      refine e_end (by simp only [jA, jO, jN, seval, y29, vint, TyS, TyF, MapS, q1, q2, q3] <;> with_reducible rfl) (by decide) ?_
      repeat (refine awp_seq ?_)
      refine awp_ret ⟨.inr rfl, _, _, (ares_two (.cell 3 29) (.tmp 4) rfl (ares_cell1 Tryti29 (by decide) (by simp only [jL, jN, seval, vint, TyS, TyF, MapS, q1, q2, q3] <;> with_reducible rfl)) (ares_tmp1 (by decide))), ?_, (by first | exact (List.append_nil _).symm | rfl)⟩
      simp only [jN, seval, vint, TyS, TyF, MapS]

theorem res_k {B : Bs} {is im : Nat} {p : PV} (hB : WB B) : ∀ (n : Nat) (t : Ty) (H : Heap), okR n B t → t.W → H[is]? = some (.row [.mapp im, p]) → H[im]? = some (.obj (.mapo (mp Ty.enc B))) →
    ACalls Try.prog 35 [.optr is 0, t.enc] H fun r' H' => r' = (rsvF n B t).enc ∧ H' = H
  | 0, t, H, h, _, _, _ => h.elim
  | n + 1, t, H, h, ht, hs, hm => by
    have q1 : ∀ L, (H ++ L)[is]? = some (.row [.mapp im, p]) := fun L => by rw [List.getElem?_append_left (len_of_get hs)]; exact hs
    have q2 : ∀ L, (H ++ L)[im]? = some (.obj (.mapo (mp Ty.enc B))) := fun L => by rw [List.getElem?_append_left (len_of_get hm)]; exact hm
    have ms := len_of_get hs
    have hc : Clo Try.prog 62 [.optr H.length 0] [(H.length, .row [.optr is 0]), (is, .row [.mapp im, p]), (im, .obj (.mapo (mp Ty.enc B)))] (fun u => u.W ∧ All (fun u => u.kind = 1 → ∃ h, headF n B u = some h ∧ (h.kind ≠ 1 → okR n B h)) u) (resG n B (rsvF n B)) :=
      ⟨Trygo62, fun H' hr => by have := len_of_get (hr _ (.head _)); simp; exact .optr _ _ (by assumption), fun t ht u hu => ⟨ht.1.arg hu, ht.2.arg hu⟩, fun H' u hu hr => by
        have r1 := hr _ (.head _)
        have r2 := hr _ (.tail _ (.head _))
        have r3 := hr _ (.tail _ (.tail _ (.head _)))
        exact res1 (is := is) (im := im) (p := p) hB hu.1 r1 r2 r3 hu.2.at_ fun h L ho hw => res_k hB n h (H' ++ L) ho hw (by rw [List.getElem?_append_left (len_of_get r2)]; exact r2) (by rw [List.getElem?_append_left (len_of_get r3)]; exact r3)⟩
    refine keeps_of (N := 8) Try.func35 rfl rfl (by simp) (Ty.bel _ _) fun hb' => ?_
    repeat (refine awp_seq ?_)
    refine e_eval (by simp only [jA, jO, jN, seval, y29, y56, vint, TyS, TyF, MapS, q1, q2] <;> with_reducible rfl) (by decide) ?_
    repeat (refine awp_seq ?_)
    refine awp_region ?_
    refine e_take 2 (by simp only [jA, jO, jN, seval, y29, vint, TyS, TyF, MapS, q1, q2] <;> with_reducible rfl) (by decide) ?_
    refine aops_pure (by simp only [jC, jN, seval, vint, TyS, TyF, MapS, q1, q2] <;> with_reducible rfl) (by simp only [jC, jN, seval, vint, TyS, TyF, MapS, q1, q2]) (by decide) Trygo51 (map_k hc _ t _ (Nat.le_refl _) ht ⟨ht, h⟩ (by intro x hx; simp only [List.mem_cons, List.not_mem_nil, or_false] at hx; rcases hx with rfl | rfl | rfl <;> first | exact q1 _ | exact q2 _ | simp)) ?_
    refine e_end (by simp only [jA, jO, jN, seval, y29, vint, TyS, TyF, MapS, q1, q2] <;> with_reducible rfl) (by decide) ?_
    repeat (refine awp_seq ?_)
    refine awp_ret ⟨.inr rfl, _, _, (ares_cell 4 29 rfl Tryti29 (by decide) (by simp only [jL, jN, seval, vint, TyS, TyF, MapS, q1, q2] <;> with_reducible rfl)), ?_, (by first | exact (List.append_nil _).symm | rfl)⟩
    exact Ty.enc_drop1 _

end Go.Abs
set_option maxRecDepth 4000
namespace Go.Abs
open Go.Proofs

theorem indexFuncEq2 {f : FuncId} {caps : List PV} {H : Heap} {us : List Eq2} {p : Eq2 → Bool} (hc : CloB Try.prog Eq2.enc f caps H us p) (hl : us.length ≤ maxLen) : ACalls Try.prog 59 [.slice (us.map Eq2.enc) .none, .fn (.func f) [] caps] H fun r' H' => r' = vint (idxI p us) ∧ H' = H := by
  have hgo := hc.go
  refine keeps_of (N := 19) Try.func59 rfl rfl (by simp) (.int _ _) fun hb' => ?_
  repeat (refine awp_seq ?_)
  refine e_eval (by simp only [jA, jO, jN, seval, vint, TyS, TyF, MapS, EqS] <;> with_reducible rfl) (by decide) ?_
  repeat (refine awp_seq ?_)
  refine e_eval (by simp only [jA, jO, jN, seval, y22, y31, vint, TyS, TyF, MapS, EqS] <;> with_reducible rfl) (by decide) ?_
  repeat (refine awp_seq ?_)
  refine awp_forS (σ := Unit) (us.length) (fun (s : Unit) => [(0, .slice (us.map Eq2.enc) .none), (1, .fn (.func f) [] caps)]) [0, 1] (H) (fun (s : Unit) => []) (fun (i : Nat) (s : Unit) => (us.take i).any p = false) (()) ([]) rfl rfl rfl rfl rfl rfl rfl rfl rfl (by decide) (by decide) (by decide) (fun _ => rfl) (hl) ⟨(by first | rfl | (simp only [jN, seval, vint, TyS, TyF, MapS, EqS] <;> first | done | with_reducible rfl)), (by first | rfl | (simp only [jN, seval, vint, TyS, TyF, MapS, EqS] <;> first | done | with_reducible rfl)), (by first | rfl | (simp only [jN, seval, vint, TyS, TyF, MapS, EqS] <;> first | done | with_reducible rfl)), (by first | rfl | (simp only [jN, seval, vint, TyS, TyF, MapS, EqS] <;> first | done | with_reducible rfl)), trivial⟩ (by first | rfl | (simp only [jN, seval, vint, TyS, TyF, MapS, EqS] <;> first | done | with_reducible rfl)) (by simp) (fun _ _ _ => by first | exact Nat.zero_le _ | (simp only [List.length_append]; omega)) ?_ ?_ ?_
  · exact fun i s hg => ⟨by simp only [List.append_nil]; exact hb', .cons (bel_Eq2 _ _) (.cons (.fn _ _ _ (by simp) (fun c hc' => (hc.bel c hc').mono (by simp))) .nil)⟩
  · intro i s hi hg
    have g1 := ix_nat hi
    have g2 := get_enc Eq2.enc hi
    repeat (refine awp_seq ?_)
    refine e_eval (by simp only [jA, jO, jN, seval, vint, TyS, TyF, MapS, EqS, g1, Int.toNat_natCast, g2] <;> with_reducible rfl) (by decide) ?_
    repeat (refine awp_seq ?_)
    refine awp_region ?_
    refine e_take 5 (by simp only [jA, jO, jN, seval, y22, y31, vint, TyS, TyF, MapS, EqS, g1, Int.toNat_natCast, g2] <;> with_reducible rfl) (by decide) ?_
    refine aops_pure (by simp only [jC, jN, seval, vint, TyS, TyF, MapS, EqS, g1, Int.toNat_natCast, g2] <;> with_reducible rfl) (by simp only [jC, jN, seval, vint, TyS, TyF, MapS, EqS, g1, Int.toNat_natCast, g2]) (by decide) (by assumption) (hc.call _ (List.getElem_mem hi)) ?_
    refine aops_nil ?_
    repeat (refine awp_seq ?_)
    refine awp_cond rfl (by simp only [jN, seval, vint, TyS, TyF, MapS, EqS, g1, Int.toNat_natCast, g2] <;> with_reducible rfl) (fun b0 => ?_) (fun b0 => ?_)
    ·
      repeat (refine awp_seq ?_)
      refine e_eval (by simp only [jA, jO, jN, seval, vint, TyS, TyF, MapS, EqS, g1, Int.toNat_natCast, g2] <;> with_reducible rfl) (by decide) ?_
      repeat (refine awp_seq ?_)
      refine awp_ret ⟨.inr rfl, _, _, rfl, ?_, (by first | exact (List.append_nil _).symm | rfl)⟩
      rw [idxI_at hi b0 hg]; rfl
    ·
      repeat (refine awp_seq ?_)
      refine awp_skip ?_
      exact ⟨⟨rfl, rfl, trivial⟩, (), [], ⟨rfl, rfl, trivial⟩, by simp only [List.append_nil], any_take_succ hi hg b0⟩
  · intro s hg
    rw [List.take_length] at hg
    repeat (refine awp_seq ?_)
    refine e_eval (by simp only [jA, jO, jN, seval, vint, TyS, TyF, MapS, EqS] <;> with_reducible rfl) (by decide) ?_
    repeat (refine awp_seq ?_)
    refine awp_ret ⟨.inr rfl, _, _, rfl, ?_, (by first | exact (List.append_nil _).symm | rfl)⟩
    rw [idxI_none hg]; rfl

theorem containsFuncEq2 {f : FuncId} {caps : List PV} {H : Heap} {us : List Eq2} {p : Eq2 → Bool} (hc : CloB Try.prog Eq2.enc f caps H us p) (hl : us.length ≤ maxLen) : ACalls Try.prog 30 [.slice (us.map Eq2.enc) .none, .fn (.func f) [] caps] H fun r' H' => r' = .bool (us.any p) ∧ H' = H := by
  refine keeps_of (N := 9) Try.func30 rfl rfl (by simp) (.bool _) fun hb' => ?_
  repeat (refine awp_seq ?_)
  refine e_eval (by simp only [jA, jO, jN, seval, vint, TyS, TyF, MapS, EqS] <;> with_reducible rfl) (by decide) ?_
  repeat (refine awp_seq ?_)
  refine awp_region ?_
  refine e_take 2 (by simp only [jA, jO, jN, seval, vint, TyS, TyF, MapS, EqS] <;> with_reducible rfl) (by decide) ?_
  refine aops_pure (by simp only [jC, jN, seval, vint, TyS, TyF, MapS, EqS] <;> with_reducible rfl) (by simp only [jC, jN, seval, vint, TyS, TyF, MapS, EqS]) (by decide) Trygo59 (indexFuncEq2 hc hl) ?_
  refine e_end (by simp only [jA, jO, jN, seval, y3, vint, TyS, TyF, MapS, EqS] <;> with_reducible rfl) (by decide) ?_
  repeat (refine awp_seq ?_)
  refine awp_ret ⟨.inr rfl, _, _, rfl, ?_, (by first | exact (List.append_nil _).symm | rfl)⟩
  rw [← idxI_nonneg]; rfl

theorem bad_k (e : Eq2) (hl : e.l.W) (hr : e.r.W) : PC Try.prog 31 [e.enc] (.bool (bad e)) := by
  refine pc_of (N := 13) Try.func31 rfl rfl (by simp) (by simp [Eq2.bel]) (.bool _) ?_
  repeat (refine awp_seq ?_)
  refine e_eval (by simp only [jA, jO, jN, seval, y31, vint, TyS, TyF, MapS, EqS] <;> with_reducible rfl) (by decide) ?_
  repeat (refine awp_seq ?_)
  refine awp_region ?_
  refine aops_gstart ?_
  refine g_take 2 (by simp only [jG, jO, jN, seval, y29, y31, vint, TyS, TyF, MapS, EqS] <;> with_reducible rfl) (by decide) ?_
  refine aops_gpure (by simp only [jE, jN, seval, vint, TyS, TyF, MapS, EqS] <;> with_reducible rfl) (by simp only [jE, jN, seval, vint, TyS, TyF, MapS, EqS] <;> with_reducible rfl) (by simp only [jE, jN, seval, vint, TyS, TyF, MapS, EqS]) (by decide) Trygo21 (fun hc => validate e.l hl _) ?_
  refine g_take 4 (by simp only [jG, jO, jN, seval, y29, y31, y32, vint, TyS, TyF, MapS, EqS] <;> with_reducible rfl) (by decide) ?_
  refine aops_gpure (by simp only [jE, jN, seval, vint, TyS, TyF, MapS, EqS] <;> with_reducible rfl) (by simp only [jE, jN, seval, vint, TyS, TyF, MapS, EqS] <;> with_reducible rfl) (by simp only [jE, jN, seval, vint, TyS, TyF, MapS, EqS]) (by decide) Trygo21 (fun hc => validate e.r hr _) ?_
  refine g_end (by simp only [jG, jO, jN, seval, y32, vint, TyS, TyF, MapS, EqS] <;> with_reducible rfl) (by decide) (by repeat (first | exact Fin.base _ | with_reducible apply Fin.keep | apply Fin.drop)) ?_
  repeat (refine awp_seq ?_)
  refine awp_ret ⟨.inr rfl, _, rfl, ?_⟩
  simp only [jN, seval, vint, TyS, TyF, MapS, EqS]
  simp [bad]

theorem newSolver : ACalls Try.prog 32 [] [] fun r' H' => r' = .optr 1 0 ∧ H' = [.obj (.mapo []), .row [.mapp 0, .int .i64 0]] := by
  refine acalls_of (N := 4) Try.func32 rfl rfl (by simp) fun hb' => ?_
  repeat (refine awp_seq ?_)
  refine e_eval (by simp only [jA, jO, jN, seval, vint, TyS, TyF, MapS, EqS] <;> with_reducible rfl) (by decide) ?_
  repeat (refine awp_seq ?_)
  refine e_eval (by simp only [jA, jO, jN, seval, y29, y58, y60, vint, TyS, TyF, MapS, EqS] <;> with_reducible rfl) (by decide) ?_
  repeat (refine awp_seq ?_)
  refine awp_ret ⟨.inr rfl, _, rfl, ?_⟩
  simp only [jN, seval, vint, TyS, TyF, MapS, EqS]

end Go.Abs
set_option maxRecDepth 4000
namespace Go.Abs
open Go.Proofs
def zagg : PV := .agg [.int .i64 0, .int .i64 0, .int .i64 0, .slice [] .full]
theorem rowU_flat (L : List Bd) (z : Nat) : rowU L z = flatE (L.map Bd.enc ++ List.replicate z zagg) := by
  unfold rowU flatE; simp [zagg, PV.cells]
structure UGood (n : Nat) (B : Bs) : Prop where
  nd : (B.map (·.1)).Nodup
  len : B.length ≤ 1073741824
  w : WB B
  wi : ∀ e ∈ B, ∃ b, withinF n B e.2 = some b ∧ (b = true → okR n B e.2)
theorem lk_mem {α : Type} : ∀ {B : List (Int × α)}, (B.map (·.1)).Nodup → ∀ e ∈ B, lk B e.1 = some e.2
  | x :: B, h, e, he => by
    simp only [List.map_cons, List.nodup_cons] at h
    simp only [lk]
    rcases List.mem_cons.1 he with rfl | he
    · rw [if_pos rfl]
    · rw [if_neg (fun q => h.1 (by rw [q]; exact List.mem_map.2 ⟨e, he, rfl⟩))]
      exact lk_mem h.2 e he
theorem bel_cells_Bd (b : Bd) : ∀ x ∈ b.enc.cells, Bel 0 x := fun x hx => by
  have := Bd.bel 0 b
  cases this with | agg _ h => exact h x hx
theorem bel_cells_z : ∀ x ∈ zagg.cells, Bel 0 x := fun x hx => by
  simp only [zagg, PV.cells, List.mem_cons, List.not_mem_nil, or_false] at hx
  rcases hx with rfl | rfl | rfl | rfl <;> first | exact .int _ _ | exact bel_nil0 _

theorem unify_k {n : Nat} {eqs : List Eq2} (HS : SortsX Try.prog 36 37) (HN : SortsNil Try.prog 36 37) (hw : ∀ e ∈ eqs, e.l.W ∧ e.r.W) (hlen : eqs.length ≤ maxLen)
    (hs : (decide (((eqs.length : Nat) : Int) > 100) || eqs.any bad) = false → ∃ c B, solveF n eqs [] = some (c, B) ∧ (c = true → UGood n B)) :
    PC Try.prog 9 [.slice (eqs.map Eq2.enc) .none] (.tup [.slice ((uniR n eqs).1.map Bd.enc) .none, .bool (uniR n eqs).2]) := by
  refine pc_of (N := 57) Try.func9 rfl rfl (by simp) (by simp [bel_Eq2]) (.tup _ (by simp [bel_Bd, Bel.bool])) ?_
  repeat (refine awp_seq ?_)
  refine e_eval (by simp only [jA, jO, jN, seval, vint, TyS, TyF, MapS, EqS, BdS] <;> with_reducible rfl) (by decide) ?_
  repeat (refine awp_seq ?_)
  refine awp_region ?_
  refine aops_gstart ?_
  refine g_take 5 (by simp only [jG, jO, jN, seval, y3, y22, y31, vint, TyS, TyF, MapS, EqS, BdS] <;> with_reducible rfl) (by decide) ?_
  refine aops_gpure (by simp only [jE, jN, seval, vint, TyS, TyF, MapS, EqS, BdS] <;> with_reducible rfl) (by simp only [jE, jN, seval, vint, TyS, TyF, MapS, EqS, BdS] <;> with_reducible rfl) (by simp only [jE, jN, seval, vint, TyS, TyF, MapS, EqS, BdS]) (by decide) Trygo30 (fun hc => containsFuncEq2 (p := bad) ⟨Trygo31, by simp, fun e he => bad_k e (hw e he).1 (hw e he).2 _⟩ hlen) ?_
  refine g_end (by simp only [jG, jO, jN, seval, vint, TyS, TyF, MapS, EqS, BdS] <;> with_reducible rfl) (by decide) (by repeat (first | exact Fin.base _ | with_reducible apply Fin.keep | apply Fin.drop)) ?_
  repeat (refine awp_seq ?_)
  refine awp_cond rfl (by simp only [jN, seval, vint, TyS, TyF, MapS, EqS, BdS] <;> with_reducible rfl) (fun bt16 => ?_) (fun bt16 => ?_)
  ·
    skip
    repeat (refine awp_seq ?_)
    refine e_eval (by simp only [jA, jO, jN, seval, vint, TyS, TyF, MapS, EqS, BdS] <;> with_reducible rfl) (by decide) ?_
    repeat (refine awp_seq ?_)
    refine awp_ret ⟨.inr rfl, _, (ares_two (.tmp 2) (.tmp 3) rfl (ares_tmp1 (by decide)) (ares_tmp1 (by decide))), ?_⟩
    simp only [jN, seval, vint, TyS, TyF, MapS, EqS, BdS]
    unfold uniR
    rw [if_pos bt16]; rfl
  ·
    obtain ⟨c0, B, hsv, hug⟩ := hs bt16
    repeat (refine awp_seq ?_)
    refine awp_skip ?_
    repeat (refine awp_seq ?_)
    refine awp_region ?_
    refine aops_acall (by simp only [jC, jN, seval, vint, TyS, TyF, MapS, EqS, BdS] <;> with_reducible rfl) (by simp only [jC, jN, seval, vint, TyS, TyF, MapS, EqS, BdS]) (by decide) Trygo32 (newSolver) ?_
    rintro _ _ ⟨rfl, rfl⟩
    refine e_end (by simp only [jA, jO, jN, seval, vint, TyS, TyF, MapS, EqS, BdS] <;> with_reducible rfl) (by decide) ?_
    repeat (refine awp_seq ?_)
    refine e_eval (by simp only [jA, jO, jN, seval, y22, y31, vint, TyS, TyF, MapS, EqS, BdS] <;> with_reducible rfl) (by decide) ?_
    repeat (refine awp_seq ?_)
    refine awp_forS (σ := Bs × Int) (eqs.length) (fun (q : Bs × Int) => [(4, .optr 1 0), (18, .slice (eqs.map Eq2.enc) .none)]) [4, 18] ([]) (fun (q : Bs × Int) => [.obj (.mapo (mp Ty.enc q.1)), .row [.mapp 0, .int .i64 q.2]]) (fun (i : Nat) (q : Bs × Int) => solveF n (eqs.drop i) q.1 = some (c0, B) ∧ WB q.1) (([], 0)) ([]) rfl rfl rfl rfl rfl rfl rfl rfl rfl (by decide) (by decide) (by decide) (fun _ => rfl) (hlen) ⟨(by first | rfl | (simp only [jN, seval, vint, TyS, TyF, MapS, EqS, BdS] <;> first | done | with_reducible rfl)), (by first | rfl | (simp only [jN, seval, vint, TyS, TyF, MapS, EqS, BdS] <;> first | done | with_reducible rfl)), (by first | rfl | (simp only [jN, seval, vint, TyS, TyF, MapS, EqS, BdS] <;> first | done | with_reducible rfl)), (by first | rfl | (simp only [jN, seval, vint, TyS, TyF, MapS, EqS, BdS] <;> first | done | with_reducible rfl)), trivial⟩ (by first | rfl | (simp only [jN, seval, vint, TyS, TyF, MapS, EqS, BdS] <;> first | done | with_reducible rfl)) (⟨hsv, fun n t h => by cases h⟩) (fun i q hg => Nat.zero_le _) ?_ ?_ ?_
    · intro i q hg
      refine ⟨HBel.cons (bel_mp _ _ _ fun t => Ty.bel _ t) (HBel.cons (fun c hc => ?_) (hbel_nil _)), .cons (.optr _ _ (by simp)) (.cons (bel_Eq2 _ _) .nil)⟩
      simp at hc
      rcases hc with rfl | rfl
      · exact .mapp _ (by simp)
      · exact .int _ _
    · intro i q hi hg
      obtain ⟨hg, hqB⟩ := hg
      have g1 := ix_nat hi
      have g2 := get_enc Eq2.enc hi
      obtain ⟨w1, w2⟩ := hw _ (List.getElem_mem hi)
      rw [List.drop_eq_getElem_cons hi] at hg
      simp only [solveF] at hg
      obtain ⟨⟨c1, B1, p1⟩, e1, hg⟩ := Option.bind_eq_some_iff.1 hg
      obtain ⟨i1, i2, i3⟩ := uni_inv _ _ _ _ _ e1 w1 w2 hqB (by show (0 : Int) ≤ 20000; omega)
      simp only at i1
      repeat (refine awp_seq ?_)
      refine e_eval (by simp only [jA, jO, jN, seval, y22, y31, vint, TyS, TyF, MapS, EqS, BdS, g1, Int.toNat_natCast, g2] <;> with_reducible rfl) (by decide) ?_
      repeat (refine awp_seq ?_)
      refine awp_region ?_
      refine e_take 5 (by simp only [jA, jO, jN, seval, y29, y31, vint, TyS, TyF, MapS, EqS, BdS, g1, Int.toNat_natCast, g2] <;> with_reducible rfl) (by decide) ?_
      refine aops_acall (by simp only [jC, jN, seval, vint, TyS, TyF, MapS, EqS, BdS, g1, Int.toNat_natCast, g2] <;> with_reducible rfl) (by simp only [jC, jN, seval, vint, TyS, TyF, MapS, EqS, BdS, g1, Int.toNat_natCast, g2]) (by decide) Trygo33 ((by have := solve_k (im := 0) (is := 1) (p := q.2) (H := [.obj (.mapo (mp Ty.enc q.1)), .row [.mapp 0, .int .i64 q.2], .row [.int .i64 eqs[i].l.kind, .int .i64 eqs[i].l.id, .slice (eqs[i].l.args.map Ty.enc) .none, .int .i64 eqs[i].r.kind, .int .i64 eqs[i].r.id, .slice (eqs[i].r.args.map Ty.enc) .none]]) e1 w1 w2 hqB (by simp) (by simp) (by simp); exact this)) ?_
      rintro _ _ ⟨rfl, rfl⟩
      refine e_end (by simp only [jA, jO, jN, seval, vint, TyS, TyF, MapS, EqS, BdS, g1, Int.toNat_natCast, g2] <;> with_reducible rfl) (by decide) ?_
      repeat (refine awp_seq ?_)
      refine awp_cond rfl (by simp only [jN, seval, vint, TyS, TyF, MapS, EqS, BdS, g1, Int.toNat_natCast, g2] <;> with_reducible rfl) (fun bt30 => ?_) (fun bt30 => ?_)
      ·
        have hc1 : c1 = false := by simpa using bt30
        subst hc1
        rw [if_neg (by simp)] at hg
        cases hg
        repeat (refine awp_seq ?_)
        refine e_eval (by simp only [jA, jO, jN, seval, vint, TyS, TyF, MapS, EqS, BdS, g1, Int.toNat_natCast, g2] <;> with_reducible rfl) (by decide) ?_
        repeat (refine awp_seq ?_)
        refine awp_ret ⟨.inr rfl, _, (ares_two (.tmp 2) (.tmp 3) rfl (ares_tmp1 (by decide)) (ares_tmp1 (by decide))), ?_⟩
        simp only [jN, seval, vint, TyS, TyF, MapS, EqS, BdS]
        unfold uniR
        rw [if_neg (by rw [bt16]; simp)]
        rw [hsv]; rfl
      ·
        have hc1 : c1 = true := by simpa using bt30
        subst hc1
        rw [if_pos rfl] at hg
        repeat (refine awp_seq ?_)
        refine awp_skip ?_
        exact ⟨⟨rfl, rfl, trivial⟩, (B1, p1), _, ⟨rfl, rfl, trivial⟩, (by simp only [jN, seval, vint, TyS, TyF, MapS, EqS, BdS] <;> rfl), hg, i1⟩
    · intro q hg
      obtain ⟨hg, hqB⟩ := hg
      rw [List.drop_eq_nil_of_le (Nat.le_refl _)] at hg
      simp only [solveF] at hg
      cases hg
      have ug := hug rfl
      obtain ⟨B, p⟩ := q
      simp only at hsv hqB ug ⊢
      repeat (refine awp_seq ?_)
      refine e_eval (by simp only [jA, jO, jN, seval, vint, TyS, TyF, MapS, EqS, BdS] <;> with_reducible rfl) (by decide) ?_
      repeat (refine awp_seq ?_)
      refine awp_region ?_
      refine e_take 4 (by simp only [jA, jO, jN, seval, y29, y58, y60, vint, TyS, TyF, MapS, EqS, BdS] <;> with_reducible rfl) (by decide) ?_
      refine aops_rangeM (t := 58) (k := 3) (e := 29) (im := 0) (es := mp Ty.enc B) (by rfl) rfl (by simp only [jC, jN, seval, vint, TyS, TyF, MapS, EqS, BdS] <;> first | done | rfl) Try.underlying58 (by decide) (by simp only [jC, jN, seval, vint, TyS, TyF, MapS, EqS, BdS]) ?_
      refine aops_nil ?_
      repeat (refine awp_seq ?_)
      refine awp_block ?_
      refine awp_loopS (σ := UQ) (fun (q : UQ) => [(4, .optr 1 0), (7, slotU q.2.1 q.2.2), (36, .optr 2 0)]) ([]) (fun (q : UQ) => hpU B p q.1 q.2.1 q.2.2) (fun (q : UQ) => unseen B.length q.1) (fun (q : UQ) => UOk n B q) (([], [], none)) ([]) ⟨(by first | rfl | (simp only [jN, seval, vint, TyS, TyF, MapS, EqS, BdS] <;> first | done | with_reducible rfl)), (by first | rfl | (simp only [jN, seval, vint, TyS, TyF, MapS, EqS, BdS] <;> first | done | with_reducible rfl)), (by first | rfl | (simp only [jN, seval, vint, TyS, TyF, MapS, EqS, BdS] <;> first | done | with_reducible rfl)), trivial⟩ (by first | rfl | (simp only [jN, seval, vint, TyS, TyF, MapS, EqS, BdS] <;> first | done | with_reducible rfl)) (UOk.start n B) (fun _ _ => Nat.zero_le _) ?_ ?_
      · intro q hg
        have h3 := lenU_ge q.2.1 q.2.2
        try simp only [List.nil_append]
        exact ⟨hbel_hpU B p q.1 hg.g q.2.2 _ (by rw [hpU_len]; omega), .cons (.optr _ _ (by rw [hpU_len]; omega)) (.cons (bel_slotU _ _ _ (by rw [hpU_len]; exact Nat.le_refl _)) (.cons (.optr _ _ (by rw [hpU_len]; omega)) .nil))⟩
      · intro q hg
        obtain ⟨seen, G, pl⟩ := q
        try simp only at hg
        have X := hpU_rules B p G pl
        have X0 := fun s => hpU_get0 B p s G pl []
        try simp only [List.append_nil] at X0
        have hlB := ug.len
        repeat (refine awp_seq ?_)
        refine awp_region ?_
        refine aops_nextM (im := 0) (it := 2) (es := mp Ty.enc B) (seen := seen) (X0 seen).2.2 (X0 seen).1 rfl (by simp only [jC, jN, seval, vint, TyS, TyF, MapS, EqS, BdS] <;> first | done | rfl) (by decide) (by simp only [jC, jN, seval, vint, TyS, TyF, MapS, EqS, BdS]) ?_
        intro ch hch
        try simp only [List.nil_append]
        rw [hpU_set2]
        refine e_end (by simp only [jA, jO, jN, seval, vint, TyS, TyF, MapS, EqS, BdS] <;> with_reducible rfl) (by decide) ?_
        repeat (refine awp_seq ?_)
        refine awp_cond rfl (by simp only [jN, seval, vint, TyS, TyF, MapS, EqS, BdS] <;> with_reducible rfl) (fun bt38 => ?_) (fun bt38 => ?_)
        ·
          obtain ⟨i, rfl⟩ := Option.isSome_iff_exists.1 bt38
          obtain ⟨hi, hni⟩ : i < B.length ∧ i ∉ seen := by simpa [mchoice, mp] using hch
          rw [show (some i).toList = [i] from rfl]
          have hmem : B[i] ∈ B := List.getElem_mem hi
          obtain ⟨bi, hwi, hok⟩ := ug.wi _ hmem
          have hwW := ug.w _ _ (lk_mem ug.nd _ hmem)
          have hie : i < (mp Ty.enc B).length := by simpa [mp] using hi
          have ee1 : ((mp Ty.enc B)[i]'hie).1 = B[i].1 := by simp [mp]
          have ee2 : ((mp Ty.enc B)[i]'hie).2 = B[i].2.enc := by simp [mp]
          repeat (refine awp_seq ?_)
          refine awp_skip ?_
          repeat (refine awp_seq ?_)
          refine awp_block ?_
          repeat (refine awp_seq ?_)
          refine awp_region ?_
          refine aops_entryM (im := 0) (it := 2) (i := i) (es := mp Ty.enc B) (seen := seen) (X0 _).2.2 (X0 _).1 hie rfl (by simp only [jC, jN, seval, vint, TyS, TyF, MapS, EqS, BdS] <;> first | done | rfl) (by decide) (by simp only [jC, jN, seval, vint, TyS, TyF, MapS, EqS, BdS]) ?_
          rw [ee1, ee2]
          refine e_end (by simp only [jA, jO, jN, seval, y29, vint, TyS, TyF, MapS, EqS, BdS, X, X0] <;> with_reducible rfl) (by decide) ?_
          repeat (refine awp_seq ?_)
          refine awp_region ?_
          refine e_take 2 (by simp only [jA, jO, jN, seval, y29, vint, TyS, TyF, MapS, EqS, BdS, X] <;> with_reducible rfl) (by decide) ?_
          refine aops_acall (by simp only [jC, jN, seval, vint, TyS, TyF, MapS, EqS, BdS, X] <;> with_reducible rfl) (by simp only [jC, jN, seval, vint, TyS, TyF, MapS, EqS, BdS, X]) (by decide) Trygo34 (within_k hwi ug.w hwW (X.2.2.2.2.2.2.1 _ _) (X.2.2.2.2.2.1 _ _)) ?_
          rintro _ _ ⟨rfl, rfl⟩
          refine e_end (by simp only [jA, jO, jN, seval, vint, TyS, TyF, MapS, EqS, BdS, X] <;> with_reducible rfl) (by decide) ?_
          repeat (refine awp_seq ?_)
          refine awp_cond rfl (by simp only [jN, seval, vint, TyS, TyF, MapS, EqS, BdS] <;> with_reducible rfl) (fun bt45 => ?_) (fun bt45 => ?_)
          ·
            have hbi : bi = false := by simpa using bt45
            repeat (refine awp_seq ?_)
            refine e_eval (by simp only [jA, jO, jN, seval, vint, TyS, TyF, MapS, EqS, BdS] <;> with_reducible rfl) (by decide) ?_
            repeat (refine awp_seq ?_)
            refine awp_ret ⟨.inr rfl, _, (ares_two (.tmp 2) (.tmp 3) rfl (ares_tmp1 (by decide)) (ares_tmp1 (by decide))), ?_⟩
            simp only [jN, seval, vint, TyS, TyF, MapS, EqS, BdS]
            unfold uniR
            rw [if_neg (by rw [bt16]; simp)]
            have : B.all (inB n B) = false := by
              rw [List.all_eq_false]
              exact ⟨_, hmem, by unfold inB; rw [hwi, hbi]; simp⟩
            rw [hsv]
            simp only [this, Bool.false_eq_true, if_false]
            rfl
          ·
            have hbi : bi = true := by simpa using bt45
            have hin : inB n B (entB B i) = true := by rw [entB_eq hi]; unfold inB; rw [hwi, hbi]; rfl
            repeat (refine awp_seq ?_)
            refine awp_skip ?_
            rcases pl with _ | ⟨L, _ | z⟩
            ·
              try simp only at hg
              repeat (refine awp_seq ?_)
              refine awp_region ?_
              refine e_take 4 (by simp only [jA, jO, jN, seval, y29, vint, TyS, TyF, MapS, EqS, BdS, slotU, X] <;> with_reducible rfl) (by decide) ?_
              refine aops_acall (by simp only [jC, jN, seval, vint, TyS, TyF, MapS, EqS, BdS, slotU, X] <;> with_reducible rfl) (by simp only [jC, jN, seval, vint, TyS, TyF, MapS, EqS, BdS, slotU, X]) (by decide) Trygo35 (res_k ug.w n B[i].2 _ (hok hbi) hwW (X.2.2.2.2.2.2.1 _ _) (X.2.2.2.2.2.1 _ _)) ?_
              rintro _ _ ⟨rfl, rfl⟩
              refine e_take 2 (by simp only [jA, jO, jN, seval, y24, y42, vint, TyS, TyF, MapS, EqS, BdS, slotU, X] <;> with_reducible rfl) (by decide) ?_
              refine aops_appNew (n := 0) (oc := []) (e1 := (Bd.mk B[i].1 (rsvF n B B[i].2)).enc) (tl := .full) (by simp only [jC, jN, seval, vint, TyS, TyF, MapS, EqS, BdS, X]) rfl (by decide) (by decide) (by simp only [jC, jN, seval, vint, TyS, TyF, MapS, EqS, BdS, X] <;> first | done | rfl) (by show _ * 48 ≤ _; omega) (by simp only [maxLen]; omega) rfl Tryte24 (by rw [Tryte24]; rfl) Trytz42 rfl (fun E v ho hH hv => first_nil (show VRel E.view v (.slice [] .full) from (by simpa only [jN, seval, vint, TyS, TyF, MapS, EqS, BdS, X] using hv))) ?_
              intro c rest hc1 hc2 hrest
              subst hrest
              rw [show (AObj.row ([] ++ (Bd.mk B[i].1 (rsvF n B B[i].2)).enc.cells ++ (List.replicate (c - (0 + 1)) (PV.agg [.int .i64 0, .int .i64 0, .int .i64 0, .slice [] .full]).cells).flatten)) = .row (rowU ([] ++ [(Bd.mk B[i].1 (rsvF n B B[i].2))]) (c - (0 + 1))) from congrArg AObj.row (rowU_new [] _ _), hpU_first]
              refine e_end (by simp only [jA, jO, jN, seval, vint, TyS, TyF, MapS, EqS, BdS, slotU, X] <;> with_reducible rfl) (by decide) ?_
              try simp only [thenQ, blockQ]
              have hse : seen = [] := hg.pl
              subst hse
              exact ⟨([] ++ [i], G ++ [AObj.row [.int .i64 B[i].2.kind, .int .i64 B[i].2.id, .slice (B[i].2.args.map Ty.enc) .none]], some ([] ++ [(Bd.mk B[i].1 (rsvF n B B[i].2))], c - (0 + 1))), [], by show unseen _ _ < unseen _ _; exact unseen_lt hi hni, ⟨rfl, by show PV.msl (lenU G none + 1) 0 (0 + 1) c = PV.msl (3 + (G ++ [AObj.row [.int .i64 B[i].2.kind, .int .i64 B[i].2.id, .slice (B[i].2.args.map Ty.enc) .none]]).length) 0 ([] ++ [(Bd.mk B[i].1 (rsvF n B B[i].2))]).length (([] ++ [(Bd.mk B[i].1 (rsvF n B B[i].2))]).length + (c - (0 + 1))); refine congr (congr (congr (congrArg PV.msl ?_) rfl) ?_) ?_ <;> simp [lenU] <;> omega, rfl, trivial⟩, (List.append_nil _).symm, hg.step hi hni (hbel_app hg.g (Nat.le_refl _) (show HBel 0 [AObj.row [.int .i64 B[i].2.kind, .int .i64 B[i].2.id, .slice (B[i].2.args.map Ty.enc) .none]] from HBel.cons (by rw [← Ty.enc_cells]; exact obel_ty 0 _) (hbel_nil _))) (by simp [resB, entB_eq hi]) hin⟩
            ·
              obtain ⟨hl1, hl2⟩ := hg.lenL
              have hL := hg.pl.1
              repeat (refine awp_seq ?_)
              refine awp_region ?_
              refine e_take 4 (by simp only [jA, jO, jN, seval, y29, vint, TyS, TyF, MapS, EqS, BdS, X] <;> with_reducible rfl) (by decide) ?_
              refine aops_acall (by simp only [jC, jN, seval, vint, TyS, TyF, MapS, EqS, BdS, X] <;> with_reducible rfl) (by simp only [jC, jN, seval, vint, TyS, TyF, MapS, EqS, BdS, X]) (by decide) Trygo35 (res_k ug.w n B[i].2 _ (hok hbi) hwW (X.2.2.2.2.2.2.1 _ _) (X.2.2.2.2.2.1 _ _)) ?_
              rintro _ _ ⟨rfl, rfl⟩
              refine e_take 2 (by simp only [jA, jO, jN, seval, y24, y42, vint, TyS, TyF, MapS, EqS, BdS, X] <;> with_reducible rfl) (by decide) ?_
              refine aops_appNew (n := L.length) (oc := rowU L 0) (e1 := (Bd.mk B[i].1 (rsvF n B B[i].2)).enc) (tl := .full) (by simp only [jC, jN, seval, vint, TyS, TyF, MapS, EqS, BdS, X]) rfl (by decide) (by decide) (by simp only [jC, jN, seval, vint, TyS, TyF, MapS, EqS, BdS, X] <;> first | done | rfl) (by show _ * 48 ≤ _; omega) (by simp only [maxLen]; omega) rfl Tryte24 (by rw [Tryte24]; rfl) Trytz42 rfl (fun E v ho hH hv => first_msl (id := 3 + G.length) ho (by rw [hH]; exact hpU_row _ _ _ _ _ _ _) (by rw [rowU_len]; rfl) (show VRel E.view v (slotU G (some (L, 0))) from (by simpa only [jN, seval, vint, TyS, TyF, MapS, EqS, BdS, X] using hv))) ?_
              intro c rest hc1 hc2 hrest
              subst hrest
              rw [show (AObj.row (rowU L 0 ++ (Bd.mk B[i].1 (rsvF n B B[i].2)).enc.cells ++ (List.replicate (c - (L.length + 1)) (PV.agg [.int .i64 0, .int .i64 0, .int .i64 0, .slice [] .full]).cells).flatten)) = .row (rowU (L ++ [(Bd.mk B[i].1 (rsvF n B B[i].2))]) (c - (L.length + 1))) from congrArg AObj.row (by rw [← rowU_new]; simp [rowU, PV.cells]), hpU_next]
              refine e_end (by simp only [jA, jO, jN, seval, vint, TyS, TyF, MapS, EqS, BdS, X] <;> with_reducible rfl) (by decide) ?_
              try simp only [thenQ, blockQ]
              exact ⟨(seen ++ [i], G ++ (.row (rowU L 0) :: [AObj.row [.int .i64 B[i].2.kind, .int .i64 B[i].2.id, .slice (B[i].2.args.map Ty.enc) .none]]), some (L ++ [(Bd.mk B[i].1 (rsvF n B B[i].2))], c - (L.length + 1))), [], by show unseen _ _ < unseen _ _; exact unseen_lt hi hni, ⟨rfl, by show PV.msl (lenU G (some (L, 0)) + 1) 0 (L.length + 1) c = PV.msl (3 + (G ++ (AObj.row (rowU L 0) :: [AObj.row [.int .i64 B[i].2.kind, .int .i64 B[i].2.id, .slice (B[i].2.args.map Ty.enc) .none]])).length) 0 (L ++ [(Bd.mk B[i].1 (rsvF n B B[i].2))]).length ((L ++ [(Bd.mk B[i].1 (rsvF n B B[i].2))]).length + (c - (L.length + 1))); refine congr (congr (congr (congrArg PV.msl ?_) rfl) ?_) ?_ <;> simp [lenU] <;> omega, rfl, trivial⟩, (List.append_nil _).symm, hg.step hi hni (hbel_app hg.g (Nat.le_refl _) (HBel.cons (obel_rowU 0 L 0) (show HBel 0 [AObj.row [.int .i64 B[i].2.kind, .int .i64 B[i].2.id, .slice (B[i].2.args.map Ty.enc) .none]] from HBel.cons (by rw [← Ty.enc_cells]; exact obel_ty 0 _) (hbel_nil _)))) (by rw [hL, List.map_append]; simp [resB, entB_eq hi]) hin⟩
            ·
              obtain ⟨hl1, hl2⟩ := hg.lenL
              have hL := hg.pl.1
              repeat (refine awp_seq ?_)
              refine awp_region ?_
              refine e_take 4 (by simp only [jA, jO, jN, seval, y29, vint, TyS, TyF, MapS, EqS, BdS, X] <;> with_reducible rfl) (by decide) ?_
              refine aops_acall (by simp only [jC, jN, seval, vint, TyS, TyF, MapS, EqS, BdS, X] <;> with_reducible rfl) (by simp only [jC, jN, seval, vint, TyS, TyF, MapS, EqS, BdS, X]) (by decide) Trygo35 (res_k ug.w n B[i].2 _ (hok hbi) hwW (X.2.2.2.2.2.2.1 _ _) (X.2.2.2.2.2.1 _ _)) ?_
              rintro _ _ ⟨rfl, rfl⟩
              refine e_take 2 (by simp only [jA, jO, jN, seval, y24, y42, vint, TyS, TyF, MapS, EqS, BdS, X] <;> with_reducible rfl) (by decide) ?_
              refine aops_appIn (id := 3 + G.length) (n := L.length) (c := L.length + (z + 1)) (cs := rowU L (z + 1)) (e1 := (Bd.mk B[i].1 (rsvF n B B[i].2)).enc) (tl := .full) (hpU_row _ _ _ _ _ _ _) (by simp only [jC, jN, seval, vint, TyS, TyF, MapS, EqS, BdS, X]) rfl (by decide) (by decide) (by simp only [jC, jN, seval, vint, TyS, TyF, MapS, EqS, BdS, X] <;> first | done | rfl) (by simp only [jC, jN, seval, vint, TyS, TyF, MapS, EqS, BdS, X] <;> first | done | rfl) (by omega) (by rw [rowU_len]) rfl rfl Tryte24 (by rw [Tryte24]; rfl) ?_
              show AOps _ _ _ _ _ _ _ ((hpU B p _ G (some (L, z + 1)) ++ _).set (3 + G.length) (.row (splice (rowU L (z + 1)) (L.length * 4) (Bd.mk B[i].1 (rsvF n B B[i].2)).enc.cells)))
              rw [rowU_in, hpU_setrow]
              refine e_end (by simp only [jA, jO, jN, seval, vint, TyS, TyF, MapS, EqS, BdS, X] <;> with_reducible rfl) (by decide) ?_
              try simp only [thenQ, blockQ]
              exact ⟨(seen ++ [i], G, some (L ++ [(Bd.mk B[i].1 (rsvF n B B[i].2))], z)), [AObj.row [.int .i64 B[i].2.kind, .int .i64 B[i].2.id, .slice (B[i].2.args.map Ty.enc) .none]], by show unseen _ _ < unseen _ _; exact unseen_lt hi hni, ⟨rfl, by show PV.msl (3 + G.length) 0 (L.length + 1) (L.length + (z + 1)) = PV.msl (3 + G.length) 0 (L ++ [(Bd.mk B[i].1 (rsvF n B B[i].2))]).length ((L ++ [(Bd.mk B[i].1 (rsvF n B B[i].2))]).length + z); refine congr (congr (congr (congrArg PV.msl ?_) rfl) ?_) ?_ <;> simp [lenU] <;> omega, rfl, trivial⟩, rfl, hg.step hi hni hg.g (by rw [hL, List.map_append]; simp [resB, entB_eq hi]) hin⟩
        ·
          have hch0 : ch = none := by simpa using bt38
          subst hch0
          rw [show (none : Option Nat).toList = [] from rfl, List.append_nil]
          have hall : ∀ i < B.length, i ∈ seen := by simpa [mchoice, mp] using hch
          have hres : uniR n eqs = (sortB (B.map (resB n B)), true) := by
            unfold uniR
            rw [if_neg (by rw [bt16]; simp), hsv]
            simp only [(hg.all hall).1, if_true]
          rw [hres]
          have hso := hg.sorted hall ug.nd
          repeat (refine awp_seq ?_)
          refine awp_exit ?_
          simp only [thenQ, blockQ, reduceIte, Nat.reduceEqDiff, Nat.succ_ne_self, if_true, if_false]
          rcases pl with _ | ⟨L, z⟩
          ·
            have hse : seen = [] := hg.pl
            subst hse
            have hnil : sortB (B.map (resB n B)) = [] := by rw [← hso.1]; simp [sortB]
            rw [hnil]
            repeat (refine awp_seq ?_)
            refine awp_region ?_
            refine e_take 1 (by simp only [jA, jO, jN, seval, vint, TyS, TyF, MapS, EqS, BdS, slotU] <;> with_reducible rfl) (by decide) ?_
            refine aops_pure (by simp only [jC, jN, seval, vint, TyS, TyF, MapS, EqS, BdS, slotU] <;> with_reducible rfl) (by simp only [jC, jN, seval, vint, TyS, TyF, MapS, EqS, BdS, slotU]) (by decide) Trygo36 (acalls_sortNil HN) ?_
            refine aops_nil ?_
            repeat (refine awp_seq ?_)
            refine e_eval (by simp only [jA, jO, jN, seval, vint, TyS, TyF, MapS, EqS, BdS, slotU] <;> with_reducible rfl) (by decide) ?_
            repeat (refine awp_seq ?_)
            refine awp_ret ⟨.inr rfl, _, (ares_two (.tmp 2) (.tmp 3) rfl (ares_tmp1 (by decide)) (ares_tmp1 (by decide))), ?_⟩
            simp only [jN, seval, vint, TyS, TyF, MapS, EqS, BdS]
          ·
            obtain ⟨hl1, hl2⟩ := hg.lenL
            have hL : L = seen.map (fun i => resB n B (entB B i)) := hg.pl.1
            rw [← hL] at hso
            rw [← hso.1]
            have hlL : (sortB L).length = L.length := (sortB_perm L).length_eq
            repeat (refine awp_seq ?_)
            refine awp_region ?_
            refine e_take 1 (by simp only [jA, jO, jN, seval, vint, TyS, TyF, MapS, EqS, BdS, slotU] <;> with_reducible rfl) (by decide) ?_
            refine aops_acall (by simp only [jC, jN, seval, vint, TyS, TyF, MapS, EqS, BdS, slotU] <;> with_reducible rfl) (by simp only [jC, jN, seval, vint, TyS, TyF, MapS, EqS, BdS, slotU]) (by decide) Trygo36 (acalls_sort HS (id := 3 + G.length) (bs := L) (rest := (List.replicate z [PV.int .i64 0, .int .i64 0, .int .i64 0, .slice [] .full]).flatten) (c := L.length + z) (hpU_row0 B p seen G L z) hso.2 (by omega)) ?_
            rintro _ _ ⟨rfl, rfl⟩
            refine aops_nil ?_
            repeat (refine awp_seq ?_)
            refine awp_freeze (H1 := []) [(7, .slice ((sortB L).map Bd.enc) .none)] ⟨.inr ⟨3 + G.length, L.length, L.length + z, 4, (sortB L).map Bd.enc ++ List.replicate z zagg, rfl, Nat.zero_le _, ?_, by simp [hlL], Nat.le_add_right _ _, ?_, ?_, ?_⟩, trivial⟩ rfl (Nat.le_refl _) (hbel_nil _) ?_
            · rw [List.getElem?_set_self (by rw [hpU_len]; simp [lenU] <;> omega), ← rowU_flat]; rfl
            · intro e he
              rcases List.mem_append.1 he with he | he
              · obtain ⟨b, _, rfl⟩ := List.mem_map.1 he; exact Bd.enc_len b
              · rw [List.eq_of_mem_replicate he]; rfl
            · intro e he
              rcases List.mem_append.1 he with he | he
              · obtain ⟨b, _, rfl⟩ := List.mem_map.1 he; exact bel_cells_Bd b
              · rw [List.eq_of_mem_replicate he]; exact bel_cells_z
            · rw [List.take_append_of_le_length (by simp [hlL]), List.take_of_length_le (by simp [hlL])]
            refine e_eval (by simp only [jA, jO, jN, seval, vint, TyS, TyF, MapS, EqS, BdS, slotU] <;> with_reducible rfl) (by decide) ?_
            repeat (refine awp_seq ?_)
            refine awp_ret ⟨.inr rfl, _, (ares_two (.tmp 2) (.tmp 3) rfl (ares_tmp1 (by decide)) (ares_tmp1 (by decide))), ?_⟩
            simp only [jN, seval, vint, TyS, TyF, MapS, EqS, BdS]

end Go.Abs
