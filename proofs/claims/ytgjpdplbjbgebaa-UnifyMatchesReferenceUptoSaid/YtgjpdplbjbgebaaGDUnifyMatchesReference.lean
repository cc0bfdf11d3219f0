/- Part 4 of a proof of the law UnifyMatchesReference: Go data as trees, the walks of the functions that the law reaches, the plain laws. -/
import Derived.Test.YtgjpdplbjbgebaaGCUnifyMatchesReference
import Derived.Test.YtgjpdplbjbgebaaProg
import Derived.KernelRfl
set_option linter.unusedVariables false
set_option linter.unusedSimpArgs false
namespace Go.Abs
open Go.Proofs
theorem Tryti2 : tinfo Try.prog 2 = some ⟨false, 1, 8⟩ := by kernel_rfl
theorem Trytz2 : tzero Try.prog 2 = some (.int .i64 0) := by kernel_rfl
theorem Trytp2 : tptr Try.prog 2 = false := by kernel_rfl
theorem Trytk2 : tint Try.prog 2 = some .i64 := by kernel_rfl
theorem Tryti3 : tinfo Try.prog 3 = some ⟨false, 1, 8⟩ := by kernel_rfl
theorem Trytz3 : tzero Try.prog 3 = some (.int .i64 0) := by kernel_rfl
theorem Trytp3 : tptr Try.prog 3 = false := by kernel_rfl
theorem Trytk3 : tint Try.prog 3 = some .i64 := by kernel_rfl
theorem Tryti22 : tinfo Try.prog 22 = some ⟨false, 1, 24⟩ := by kernel_rfl
theorem Tryte22 : telem Try.prog 22 = some (31, ⟨true, 6, 80⟩) := by kernel_rfl
theorem Trytz22 : tzero Try.prog 22 = some (.slice [] .full) := by kernel_rfl
theorem Trytp22 : tptr Try.prog 22 = false := by kernel_rfl
theorem Tryti24 : tinfo Try.prog 24 = some ⟨false, 1, 24⟩ := by kernel_rfl
theorem Tryte24 : telem Try.prog 24 = some (42, ⟨true, 4, 48⟩) := by kernel_rfl
theorem Trytz24 : tzero Try.prog 24 = some (.slice [] .full) := by kernel_rfl
theorem Trytp24 : tptr Try.prog 24 = false := by kernel_rfl
theorem Tryti27 : tinfo Try.prog 27 = some ⟨false, 1, 24⟩ := by kernel_rfl
theorem Tryte27 : telem Try.prog 27 = some (29, ⟨true, 3, 40⟩) := by kernel_rfl
theorem Trytz27 : tzero Try.prog 27 = some (.slice [] .full) := by kernel_rfl
theorem Trytp27 : tptr Try.prog 27 = false := by kernel_rfl
theorem Tryti29 : tinfo Try.prog 29 = some ⟨true, 3, 40⟩ := by kernel_rfl
theorem Trytf29 : tflds Try.prog 29 = some [(0, ⟨false, 1, 8⟩), (1, ⟨false, 1, 8⟩), (2, ⟨false, 1, 24⟩)] := by kernel_rfl
theorem Trytz29 : tzero Try.prog 29 = some (.agg [.int .i64 0, .int .i64 0, .slice [] .full]) := by kernel_rfl
theorem Trytp29 : tptr Try.prog 29 = false := by kernel_rfl
theorem Tryti31 : tinfo Try.prog 31 = some ⟨true, 6, 80⟩ := by kernel_rfl
theorem Trytf31 : tflds Try.prog 31 = some [(0, ⟨true, 3, 40⟩), (3, ⟨true, 3, 40⟩)] := by kernel_rfl
theorem Trytz31 : tzero Try.prog 31 = some (.agg [.int .i64 0, .int .i64 0, .slice [] .full, .int .i64 0, .int .i64 0, .slice [] .full]) := by kernel_rfl
theorem Trytp31 : tptr Try.prog 31 = false := by kernel_rfl
theorem Tryti32 : tinfo Try.prog 32 = some ⟨false, 1, 8⟩ := by kernel_rfl
theorem Trytz32 : tzero Try.prog 32 = some (.int .i64 0) := by kernel_rfl
theorem Trytp32 : tptr Try.prog 32 = false := by kernel_rfl
theorem Trytk32 : tint Try.prog 32 = some .i64 := by kernel_rfl
theorem Tryti42 : tinfo Try.prog 42 = some ⟨true, 4, 48⟩ := by kernel_rfl
theorem Trytf42 : tflds Try.prog 42 = some [(0, ⟨false, 1, 8⟩), (1, ⟨true, 3, 40⟩)] := by kernel_rfl
theorem Trytz42 : tzero Try.prog 42 = some (.agg [.int .i64 0, .int .i64 0, .int .i64 0, .slice [] .full]) := by kernel_rfl
theorem Trytp42 : tptr Try.prog 42 = false := by kernel_rfl
theorem Tryti50 : tinfo Try.prog 50 = some ⟨false, 1, 24⟩ := by kernel_rfl
theorem Tryte50 : telem Try.prog 50 = some (3, ⟨false, 1, 8⟩) := by kernel_rfl
theorem Trytz50 : tzero Try.prog 50 = some (.slice [] .full) := by kernel_rfl
theorem Trytp50 : tptr Try.prog 50 = false := by kernel_rfl
theorem Tryti56 : tinfo Try.prog 56 = some ⟨false, 1, 8⟩ := by kernel_rfl
theorem Trytz56 : tzero Try.prog 56 = some (.nilp) := by kernel_rfl
theorem Trytp56 : tptr Try.prog 56 = true := by kernel_rfl
theorem Tryti58 : tinfo Try.prog 58 = some ⟨false, 1, 8⟩ := by kernel_rfl
theorem Trytz58 : tzero Try.prog 58 = some (.nilmap) := by kernel_rfl
theorem Trytp58 : tptr Try.prog 58 = false := by kernel_rfl
theorem Trytm58 : tmap Try.prog 58 = some 29 := by kernel_rfl
theorem Tryti60 : tinfo Try.prog 60 = some ⟨true, 2, 16⟩ := by kernel_rfl
theorem Trytf60 : tflds Try.prog 60 = some [(0, ⟨false, 1, 8⟩), (1, ⟨false, 1, 8⟩)] := by kernel_rfl
theorem Trytz60 : tzero Try.prog 60 = some (.agg [.nilmap, .int .i64 0]) := by kernel_rfl
theorem Trytp60 : tptr Try.prog 60 = false := by kernel_rfl
theorem Tryti80 : tinfo Try.prog 80 = some ⟨true, 2, 16⟩ := by kernel_rfl
theorem Trytf80 : tflds Try.prog 80 = some [(0, ⟨false, 1, 8⟩), (1, ⟨false, 1, 8⟩)] := by kernel_rfl
theorem Trytz80 : tzero Try.prog 80 = some (.agg [.int .i64 0, .int .i64 0]) := by kernel_rfl
theorem Trytp80 : tptr Try.prog 80 = false := by kernel_rfl
theorem Tryti82 : tinfo Try.prog 82 = some ⟨false, 1, 8⟩ := by kernel_rfl
theorem Trytz82 : tzero Try.prog 82 = some (.nilmap) := by kernel_rfl
theorem Trytp82 : tptr Try.prog 82 = false := by kernel_rfl
theorem Trytm82 : tmap Try.prog 82 = some 80 := by kernel_rfl
theorem Tryti107 : tinfo Try.prog 107 = some ⟨false, 1, 8⟩ := by kernel_rfl
theorem Trytz107 : tzero Try.prog 107 = some (.nilmap) := by kernel_rfl
theorem Trytp107 : tptr Try.prog 107 = false := by kernel_rfl
theorem Trytm107 : tmap Try.prog 107 = some 3 := by kernel_rfl
theorem Trygo8 : goFn Try.prog 8 = true := by kernel_rfl
theorem Trygo9 : goFn Try.prog 9 = true := by kernel_rfl
theorem Trygo10 : goFn Try.prog 10 = true := by kernel_rfl
theorem Trygo11 : goFn Try.prog 11 = true := by kernel_rfl
theorem Trygo12 : goFn Try.prog 12 = true := by kernel_rfl
theorem Trygo21 : goFn Try.prog 21 = true := by kernel_rfl
theorem Trygo27 : goFn Try.prog 27 = true := by kernel_rfl
theorem Trygo28 : goFn Try.prog 28 = true := by kernel_rfl
theorem Trygo29 : goFn Try.prog 29 = true := by kernel_rfl
theorem Trygo30 : goFn Try.prog 30 = true := by kernel_rfl
theorem Trygo31 : goFn Try.prog 31 = true := by kernel_rfl
theorem Trygo32 : goFn Try.prog 32 = true := by kernel_rfl
theorem Trygo33 : goFn Try.prog 33 = true := by kernel_rfl
theorem Trygo34 : goFn Try.prog 34 = true := by kernel_rfl
theorem Trygo35 : goFn Try.prog 35 = true := by kernel_rfl
theorem Trygo36 : goFn Try.prog 36 = true := by kernel_rfl
theorem Trygo39 : goFn Try.prog 39 = true := by kernel_rfl
theorem Trygo40 : goFn Try.prog 40 = true := by kernel_rfl
theorem Trygo41 : goFn Try.prog 41 = true := by kernel_rfl
theorem Trygo42 : goFn Try.prog 42 = true := by kernel_rfl
theorem Trygo43 : goFn Try.prog 43 = true := by kernel_rfl
theorem Trygo44 : goFn Try.prog 44 = true := by kernel_rfl
theorem Trygo45 : goFn Try.prog 45 = true := by kernel_rfl
theorem Trygo51 : goFn Try.prog 51 = true := by kernel_rfl
theorem Trygo56 : goFn Try.prog 56 = true := by kernel_rfl
theorem Trygo57 : goFn Try.prog 57 = true := by kernel_rfl
theorem Trygo59 : goFn Try.prog 59 = true := by kernel_rfl
theorem Trygo60 : goFn Try.prog 60 = true := by kernel_rfl
theorem Trygo61 : goFn Try.prog 61 = true := by kernel_rfl
theorem Trygo62 : goFn Try.prog 62 = true := by kernel_rfl
theorem Trygo63 : goFn Try.prog 63 = true := by kernel_rfl
theorem Trygo67 : goFn Try.prog 67 = true := by kernel_rfl
theorem Trygo68 : goFn Try.prog 68 = true := by kernel_rfl
theorem Trygo70 : goFn Try.prog 70 = true := by kernel_rfl
theorem Trygo71 : goFn Try.prog 71 = true := by kernel_rfl
theorem Trygo73 : goFn Try.prog 73 = true := by kernel_rfl
theorem Trygo84 : goFn Try.prog 84 = true := by kernel_rfl
theorem Trygo86 : goFn Try.prog 86 = true := by kernel_rfl
theorem Trygo92 : goFn Try.prog 92 = true := by kernel_rfl
theorem y2 : type_of% (And.intro @Tryti2 (And.intro @Trytz2 (And.intro @Trytp2 (@Trytk2)))) := And.intro @Tryti2 (And.intro @Trytz2 (And.intro @Trytp2 (@Trytk2)))
theorem y3 : type_of% (And.intro @Tryti3 (And.intro @Trytz3 (And.intro @Trytp3 (@Trytk3)))) := And.intro @Tryti3 (And.intro @Trytz3 (And.intro @Trytp3 (@Trytk3)))
theorem y22 : type_of% (And.intro @Tryti22 (And.intro @Tryte22 (And.intro @Trytz22 (@Trytp22)))) := And.intro @Tryti22 (And.intro @Tryte22 (And.intro @Trytz22 (@Trytp22)))
theorem y24 : type_of% (And.intro @Tryti24 (And.intro @Tryte24 (And.intro @Trytz24 (@Trytp24)))) := And.intro @Tryti24 (And.intro @Tryte24 (And.intro @Trytz24 (@Trytp24)))
theorem y27 : type_of% (And.intro @Tryti27 (And.intro @Tryte27 (And.intro @Trytz27 (@Trytp27)))) := And.intro @Tryti27 (And.intro @Tryte27 (And.intro @Trytz27 (@Trytp27)))
theorem y29 : type_of% (And.intro @Tryti29 (And.intro @Trytf29 (And.intro @Trytz29 (@Trytp29)))) := And.intro @Tryti29 (And.intro @Trytf29 (And.intro @Trytz29 (@Trytp29)))
theorem y31 : type_of% (And.intro @Tryti31 (And.intro @Trytf31 (And.intro @Trytz31 (@Trytp31)))) := And.intro @Tryti31 (And.intro @Trytf31 (And.intro @Trytz31 (@Trytp31)))
theorem y32 : type_of% (And.intro @Tryti32 (And.intro @Trytz32 (And.intro @Trytp32 (@Trytk32)))) := And.intro @Tryti32 (And.intro @Trytz32 (And.intro @Trytp32 (@Trytk32)))
theorem y42 : type_of% (And.intro @Tryti42 (And.intro @Trytf42 (And.intro @Trytz42 (@Trytp42)))) := And.intro @Tryti42 (And.intro @Trytf42 (And.intro @Trytz42 (@Trytp42)))
theorem y50 : type_of% (And.intro @Tryti50 (And.intro @Tryte50 (And.intro @Trytz50 (@Trytp50)))) := And.intro @Tryti50 (And.intro @Tryte50 (And.intro @Trytz50 (@Trytp50)))
theorem y56 : type_of% (And.intro @Tryti56 (And.intro @Trytz56 (@Trytp56))) := And.intro @Tryti56 (And.intro @Trytz56 (@Trytp56))
theorem y58 : type_of% (And.intro @Tryti58 (And.intro @Trytz58 (And.intro @Trytp58 (@Trytm58)))) := And.intro @Tryti58 (And.intro @Trytz58 (And.intro @Trytp58 (@Trytm58)))
theorem y60 : type_of% (And.intro @Tryti60 (And.intro @Trytf60 (And.intro @Trytz60 (@Trytp60)))) := And.intro @Tryti60 (And.intro @Trytf60 (And.intro @Trytz60 (@Trytp60)))
theorem y80 : type_of% (And.intro @Tryti80 (And.intro @Trytf80 (And.intro @Trytz80 (@Trytp80)))) := And.intro @Tryti80 (And.intro @Trytf80 (And.intro @Trytz80 (@Trytp80)))
theorem y82 : type_of% (And.intro @Tryti82 (And.intro @Trytz82 (And.intro @Trytp82 (@Trytm82)))) := And.intro @Tryti82 (And.intro @Trytz82 (And.intro @Trytp82 (@Trytm82)))
theorem y107 : type_of% (And.intro @Tryti107 (And.intro @Trytz107 (And.intro @Trytp107 (@Trytm107)))) := And.intro @Tryti107 (And.intro @Trytz107 (And.intro @Trytp107 (@Trytm107)))
end Go.Abs
set_option maxRecDepth 4000
namespace Go.Abs
open Go.Proofs

theorem bel_Ty (n : Nat) (us : List Ty) : Bel n (.slice (us.map Ty.enc) .none) := bel_slice_ty n us
theorem index (xs : List Int) (n : Int) (hx : xs.length ≤ maxLen) : PC Try.prog 85 [.slice (xs.map vint) .none, vint n] (vint (idxI (fun x => decide (n = x)) xs)) := by
  refine pc_of (N := 19) Try.func85 rfl rfl (by simp) (by simp [bel_ints0, Bel.int]) (.int _ _) ?_
  repeat (refine awp_seq ?_)
  refine e_eval (by simp only [jA, jO, jN, seval, vint, TyS, TyF] <;> with_reducible rfl) (by decide) ?_
  repeat (refine awp_seq ?_)
  refine e_eval (by simp only [jA, jO, jN, seval, y3, y50, vint, TyS, TyF] <;> with_reducible rfl) (by decide) ?_
  repeat (refine awp_seq ?_)
  refine awp_forS (σ := Unit) (xs.length) (fun (s : Unit) => [(0, .slice (xs.map vint) .none), (1, vint n)]) [0, 1] ([]) (fun (s : Unit) => []) (fun (i : Nat) (s : Unit) => (xs.take i).any (fun x => decide (n = x)) = false) (()) ([]) rfl rfl rfl rfl rfl rfl rfl rfl rfl (by decide) (by decide) (by decide) (fun _ => rfl) (hx) ⟨(by first | rfl | (simp only [jN, seval, vint, TyS, TyF] <;> first | done | with_reducible rfl)), (by first | rfl | (simp only [jN, seval, vint, TyS, TyF] <;> first | done | with_reducible rfl)), (by first | rfl | (simp only [jN, seval, vint, TyS, TyF] <;> first | done | with_reducible rfl)), (by first | rfl | (simp only [jN, seval, vint, TyS, TyF] <;> first | done | with_reducible rfl)), trivial⟩ (by first | rfl | (simp only [jN, seval, vint, TyS, TyF] <;> first | done | with_reducible rfl)) (by simp) (fun _ _ _ => by first | exact Nat.zero_le _ | (simp only [List.length_append]; omega)) ?_ ?_ ?_
  · exact fun i s hg => ⟨by first | exact hbel_nil _ | (simp only [List.append_nil]; assumption) | (refine hbel_app' hb' (by simp) ?_; repeat (first | exact hbel_nil _ | exact trivial | exact obel_row_nil _ | (refine HBel.cons ?_ ?_) | (refine obel_row_cons (by first | exact bel_ints0 _ _ | exact bel_slice_ty _ _ | exact Ty.bel _ _ | exact bel_ty_tok _ (by simp) | exact Bel.int _ _ | exact Bel.bool _ | exact Bel.str _ | exact Bel.nilp | exact Bel.nilfn | exact Bel.optr _ _ (by simp) | exact bel_nil0 _ | exact bel_nil1 _ | exact bel_fn0 _ _ | assumption) ?_))), by repeat (first | exact BelL.nil | refine BelL.cons (by first | exact bel_ints0 _ _ | exact bel_slice_ty _ _ | exact Ty.bel _ _ | exact bel_ty_tok _ (by simp) | exact Bel.int _ _ | exact Bel.bool _ | exact Bel.str _ | exact Bel.nilp | exact Bel.nilfn | exact Bel.optr _ _ (by simp) | exact bel_nil0 _ | exact bel_nil1 _ | exact bel_fn0 _ _ | assumption) ?_)⟩
  · intro i s hi hg
    have g1 := ix_nat hi
    have g2 := get_enc vint hi
    repeat (refine awp_seq ?_)
    refine e_eval (by simp only [jA, jO, jN, seval, vint, TyS, TyF, g1, Int.toNat_natCast, g2] <;> with_reducible rfl) (by decide) ?_
    repeat (refine awp_seq ?_)
    refine e_eval (by simp only [jA, jO, jN, seval, y3, y50, vint, TyS, TyF, g1, Int.toNat_natCast, g2] <;> with_reducible rfl) (by decide) ?_
    repeat (refine awp_seq ?_)
    refine awp_cond rfl (by simp only [jN, seval, vint, TyS, TyF, g1, Int.toNat_natCast, g2] <;> with_reducible rfl) (fun b0 => ?_) (fun b0 => ?_)
    ·
      repeat (refine awp_seq ?_)
      refine e_eval (by simp only [jA, jO, jN, seval, vint, TyS, TyF, g1, Int.toNat_natCast, g2] <;> with_reducible rfl) (by decide) ?_
      repeat (refine awp_seq ?_)
      refine awp_ret ⟨.inr rfl, _, rfl, ?_⟩
      rw [idxI_at hi b0 hg]; rfl
    ·
      repeat (refine awp_seq ?_)
      refine awp_skip ?_
      exact ⟨⟨rfl, rfl, trivial⟩, (), [], ⟨rfl, rfl, trivial⟩, rfl, any_take_succ hi hg b0⟩
  · intro s hg
    rw [List.take_length] at hg
    repeat (refine awp_seq ?_)
    refine e_eval (by simp only [jA, jO, jN, seval, vint, TyS, TyF] <;> with_reducible rfl) (by decide) ?_
    repeat (refine awp_seq ?_)
    refine awp_ret ⟨.inr rfl, _, rfl, ?_⟩
    rw [idxI_none hg]; rfl

theorem indexFuncTy {f : FuncId} {caps : List PV} {H : Heap} {us : List Ty} {p : Ty → Bool} (hc : CloB Try.prog Ty.enc f caps H us p) (hl : us.length ≤ maxLen) : ACalls Try.prog 84 [.slice (us.map Ty.enc) .none, .fn (.func f) [] caps] H fun r' H' => r' = vint (idxI p us) ∧ H' = H := by
  have hgo := hc.go
  refine keeps_of (N := 19) Try.func84 rfl rfl (by simp) (.int _ _) fun hb' => ?_
  repeat (refine awp_seq ?_)
  refine e_eval (by simp only [jA, jO, jN, seval, vint, TyS, TyF] <;> with_reducible rfl) (by decide) ?_
  repeat (refine awp_seq ?_)
  refine e_eval (by simp only [jA, jO, jN, seval, y27, y29, vint, TyS, TyF] <;> with_reducible rfl) (by decide) ?_
  repeat (refine awp_seq ?_)
  refine awp_forS (σ := Unit) (us.length) (fun (s : Unit) => [(0, .slice (us.map Ty.enc) .none), (1, .fn (.func f) [] caps)]) [0, 1] (H) (fun (s : Unit) => []) (fun (i : Nat) (s : Unit) => (us.take i).any p = false) (()) ([]) rfl rfl rfl rfl rfl rfl rfl rfl rfl (by decide) (by decide) (by decide) (fun _ => rfl) (hl) ⟨(by first | rfl | (simp only [jN, seval, vint, TyS, TyF] <;> first | done | with_reducible rfl)), (by first | rfl | (simp only [jN, seval, vint, TyS, TyF] <;> first | done | with_reducible rfl)), (by first | rfl | (simp only [jN, seval, vint, TyS, TyF] <;> first | done | with_reducible rfl)), (by first | rfl | (simp only [jN, seval, vint, TyS, TyF] <;> first | done | with_reducible rfl)), trivial⟩ (by first | rfl | (simp only [jN, seval, vint, TyS, TyF] <;> first | done | with_reducible rfl)) (by simp) (fun _ _ _ => by first | exact Nat.zero_le _ | (simp only [List.length_append]; omega)) ?_ ?_ ?_
  · exact fun i s hg => ⟨by simp only [List.append_nil]; exact hb', .cons (bel_Ty _ _) (.cons (.fn _ _ _ (by simp) (fun c hc' => (hc.bel c hc').mono (by simp))) .nil)⟩
  · intro i s hi hg
    have g1 := ix_nat hi
    have g2 := get_enc Ty.enc hi
    repeat (refine awp_seq ?_)
    refine e_eval (by simp only [jA, jO, jN, seval, vint, TyS, TyF, g1, Int.toNat_natCast, g2] <;> with_reducible rfl) (by decide) ?_
    repeat (refine awp_seq ?_)
    refine awp_region ?_
    refine e_take 5 (by simp only [jA, jO, jN, seval, y27, y29, vint, TyS, TyF, g1, Int.toNat_natCast, g2] <;> with_reducible rfl) (by decide) ?_
    refine aops_pure (by simp only [jC, jN, seval, vint, TyS, TyF, g1, Int.toNat_natCast, g2] <;> with_reducible rfl) (by simp only [jC, jN, seval, vint, TyS, TyF, g1, Int.toNat_natCast, g2]) (by decide) (by assumption) (hc.call _ (List.getElem_mem hi)) ?_
    refine aops_nil ?_
    repeat (refine awp_seq ?_)
    refine awp_cond rfl (by simp only [jN, seval, vint, TyS, TyF, g1, Int.toNat_natCast, g2] <;> with_reducible rfl) (fun b0 => ?_) (fun b0 => ?_)
    ·
      repeat (refine awp_seq ?_)
      refine e_eval (by simp only [jA, jO, jN, seval, vint, TyS, TyF, g1, Int.toNat_natCast, g2] <;> with_reducible rfl) (by decide) ?_
      repeat (refine awp_seq ?_)
      refine awp_ret ⟨.inr rfl, _, _, rfl, ?_, (by first | exact (List.append_nil _).symm | rfl)⟩
      rw [idxI_at hi b0 hg]; rfl
    ·
      repeat (refine awp_seq ?_)
      refine awp_skip ?_
      exact ⟨⟨rfl, rfl, trivial⟩, (), [], ⟨rfl, rfl, trivial⟩, by simp only [List.append_nil], any_take_succ hi hg b0⟩
  · intro s hg
    rw [List.take_length] at hg
    repeat (refine awp_seq ?_)
    refine e_eval (by simp only [jA, jO, jN, seval, vint, TyS, TyF] <;> with_reducible rfl) (by decide) ?_
    repeat (refine awp_seq ?_)
    refine awp_ret ⟨.inr rfl, _, _, rfl, ?_, (by first | exact (List.append_nil _).symm | rfl)⟩
    rw [idxI_none hg]; rfl

theorem containsFuncTy {f : FuncId} {caps : List PV} {H : Heap} {us : List Ty} {p : Ty → Bool} (hc : CloB Try.prog Ty.enc f caps H us p) (hl : us.length ≤ maxLen) : ACalls Try.prog 68 [.slice (us.map Ty.enc) .none, .fn (.func f) [] caps] H fun r' H' => r' = .bool (us.any p) ∧ H' = H := by
  refine keeps_of (N := 9) Try.func68 rfl rfl (by simp) (.bool _) fun hb' => ?_
  repeat (refine awp_seq ?_)
  refine e_eval (by simp only [jA, jO, jN, seval, vint, TyS, TyF] <;> with_reducible rfl) (by decide) ?_
  repeat (refine awp_seq ?_)
  refine awp_region ?_
  refine e_take 2 (by simp only [jA, jO, jN, seval, vint, TyS, TyF] <;> with_reducible rfl) (by decide) ?_
  refine aops_pure (by simp only [jC, jN, seval, vint, TyS, TyF] <;> with_reducible rfl) (by simp only [jC, jN, seval, vint, TyS, TyF]) (by decide) Trygo84 (indexFuncTy hc hl) ?_
  refine e_end (by simp only [jA, jO, jN, seval, y3, vint, TyS, TyF] <;> with_reducible rfl) (by decide) ?_
  repeat (refine awp_seq ?_)
  refine awp_ret ⟨.inr rfl, _, _, rfl, ?_, (by first | exact (List.append_nil _).symm | rfl)⟩
  rw [← idxI_nonneg]; rfl

/-- A function value over a heap: what it reads, what it answers. -/
structure Clo (P : Program) (f : FuncId) (caps : List PV) (rd : List (Nat × AObj)) (D : Ty → Prop) (g : Ty → Ty × Bool) : Prop where
  go : goFn P f = true
  bel : ∀ H : Heap, (∀ x ∈ rd, H[x.1]? = some x.2) → ∀ c ∈ caps, Bel H.length c
  sub : ∀ t, D t → ∀ u ∈ t.args, D u
  call : ∀ (H : Heap) (u : Ty), D u → (∀ x ∈ rd, H[x.1]? = some x.2) → ACalls P f (u.enc :: caps) H fun r' H' => r' = .tup [(g u).1.enc, .bool (g u).2] ∧ H' = H

theorem reads_app {rd : List (Nat × AObj)} {H : Heap} (h : ∀ x ∈ rd, H[x.1]? = some x.2) (L : Heap) : ∀ x ∈ rd, (H ++ L)[x.1]? = some x.2 := fun x hx => by
  have := h x hx
  rw [List.getElem?_append_left (len_of_get this)]; exact this

theorem map_k {f : FuncId} {caps : List PV} {rd : List (Nat × AObj)} {D : Ty → Prop} {g : Ty → Ty × Bool} (hc : Clo Try.prog f caps rd D g) :
    ∀ (k : Nat) (t : Ty) (H : Heap), t.size ≤ k → t.W → D t → (∀ x ∈ rd, H[x.1]? = some x.2) → ACalls Try.prog 51 [t.enc, .fn (.func f) [] caps] H fun r' H' => r' = (mapT g t).enc ∧ H' = H
  | 0, t, H, h, _, _, _ => by cases t; simp [Ty.size] at h
  | k + 1, t, H, h, hw, hd, hrd => by
    have hgo := hc.go
    refine keeps_of (N := 40) Try.func51 rfl rfl (by simp) (Ty.bel _ _) fun hb' => ?_
    repeat (refine awp_seq ?_)
    refine e_eval (by simp only [jA, jO, jN, seval, y29, vint, TyS, TyF] <;> with_reducible rfl) (by decide) ?_
    repeat (refine awp_seq ?_)
    refine awp_region ?_
    refine e_take 2 (by simp only [jA, jO, jN, seval, y29, vint, TyS, TyF] <;> with_reducible rfl) (by decide) ?_
    refine aops_pure (by simp only [jC, jN, seval, vint, TyS, TyF] <;> with_reducible rfl) (by simp only [jC, jN, seval, vint, TyS, TyF]) (by decide) (by assumption) (hc.call _ t hd (reads_app hrd _)) ?_
    refine e_end (by simp only [jA, jO, jN, seval, y29, vint, TyS, TyF] <;> with_reducible rfl) (by decide) ?_
    repeat (refine awp_seq ?_)
    refine e_eval (by simp only [jA, jO, jN, seval, vint, TyS, TyF] <;> with_reducible rfl) (by decide) ?_
    repeat (refine awp_seq ?_)
    refine awp_cond rfl (by simp only [jN, seval, vint, TyS, TyF] <;> with_reducible rfl) (fun b0 => ?_) (fun b0 => ?_)
    ·
      repeat (refine awp_seq ?_)
      refine e_eval (by simp only [jA, jO, jN, seval, y29, vint, TyS, TyF] <;> with_reducible rfl) (by decide) ?_
      repeat (refine awp_seq ?_)
      refine awp_ret ⟨.inr rfl, _, _, (ares_cell 4 29 rfl Tryti29 (by decide) (by simp only [jL, jN, seval, vint, TyS, TyF] <;> with_reducible rfl)), ?_, (by first | exact (List.append_nil _).symm | rfl)⟩
      simp only [TyF, mapT_eq g t, b0, if_true, d1_agg, LS]
      exact Ty.enc_drop1 _
    ·
      repeat (refine awp_seq ?_)
      refine awp_skip ?_
      repeat (refine awp_seq ?_)
      refine e_eval (by simp only [jA, jO, jN, seval, y3, y29, vint, TyS, TyF] <;> with_reducible rfl) (by decide) ?_
      refine awp_sel [1, 2, 4, 7] (by simp only [jN, seval, vint, TyS, TyF] <;> with_reducible rfl) ?_
      repeat (refine awp_seq ?_)
      refine e_eval (by simp only [jA, jO, jN, seval, y27, y29, vint, TyS, TyF] <;> with_reducible rfl) (by decide) ?_
      repeat (refine awp_seq ?_)
      refine awp_retok_row (H.length + 3) 2 3 (by simp only [jD, jO, jN, seval, vint, TyS, TyF] <;> with_reducible rfl) rfl ?_
      refine awp_forS (σ := List Ty) (t.args.length) (fun (s : List Ty) => [(1, .fn (.func f) [] caps), (4, .optr (H.length + 1) 0), (7, .optr (H.length + 3) 0), (24, .slice (t.args.map Ty.enc) .none)]) [1, 4, 7, 24] (H) (fun (s : List Ty) => [.row t.enc.cells, .row [.int .i64 0, .int .i64 0, .slice [] .full], .row (g t).1.enc.cells, .row [.int .i64 t.kind, .int .i64 t.id, .slice (s.map Ty.enc) (.tok (H.length + 4))], .buf s.length 3]) (fun (i : Nat) (s : List Ty) => s = (t.args.take i).map (mapT g)) ([]) ([]) rfl rfl rfl rfl rfl rfl rfl rfl rfl (by decide) (by decide) (by decide) (fun _ => rfl) (hw.lenMax) ⟨(by first | rfl | (simp only [jN, seval, vint, TyS, TyF] <;> first | done | with_reducible rfl)), (by first | rfl | (simp only [jN, seval, vint, TyS, TyF] <;> first | done | with_reducible rfl)), (by first | rfl | (simp only [jN, seval, vint, TyS, TyF] <;> first | done | with_reducible rfl)), (by first | rfl | (simp only [jN, seval, vint, TyS, TyF] <;> first | done | with_reducible rfl)), (by first | rfl | (simp only [jN, seval, vint, TyS, TyF] <;> first | done | with_reducible rfl)), (by first | rfl | (simp only [jN, seval, vint, TyS, TyF] <;> first | done | with_reducible rfl)), trivial⟩ (by first | rfl | (simp only [jN, seval, vint, TyS, TyF] <;> first | done | with_reducible rfl)) (by simp) (fun _ _ _ => by first | exact Nat.zero_le _ | (simp only [List.length_append]; omega)) ?_ ?_ ?_
      · intro i s hg
        simp only [TyS]
        refine ⟨by first | exact hbel_nil _ | (simp only [List.append_nil]; assumption) | (refine hbel_app' hb' (by simp) ?_; repeat (first | exact hbel_nil _ | exact trivial | exact obel_row_nil _ | (refine HBel.cons ?_ ?_) | (refine obel_row_cons (by first | exact bel_ints0 _ _ | exact bel_slice_ty _ _ | exact Ty.bel _ _ | exact bel_ty_tok _ (by simp) | exact Bel.int _ _ | exact Bel.bool _ | exact Bel.str _ | exact Bel.nilp | exact Bel.nilfn | exact Bel.optr _ _ (by simp) | exact bel_nil0 _ | exact bel_nil1 _ | exact bel_fn0 _ _ | assumption) ?_))), .cons (.fn _ _ _ (by simp) (fun c hc' => (hc.bel H hrd c hc').mono (by simp))) (by repeat (first | exact BelL.nil | refine BelL.cons (by first | exact bel_ints0 _ _ | exact bel_slice_ty _ _ | exact Ty.bel _ _ | exact bel_ty_tok _ (by simp) | exact Bel.int _ _ | exact Bel.bool _ | exact Bel.str _ | exact Bel.nilp | exact Bel.nilfn | exact Bel.optr _ _ (by simp) | exact bel_nil0 _ | exact bel_nil1 _ | exact bel_fn0 _ _ | assumption) ?_))⟩
      · intro i s hi hg
        have g1 := ix_nat hi
        have g2 := get_enc Ty.enc hi
        have hmem : t.args[i] ∈ t.args := List.getElem_mem hi
        have hlen := hw.len
        have hsl : s.length < t.args.length := by rw [hg, List.length_map, List.length_take]; omega
        have happ := app_ty (us := s) (u := mapT g t.args[i]) (id := H.length + 4) (tl := .full) (by omega)
        repeat (refine awp_seq ?_)
        refine e_eval (by simp only [jA, jO, jN, seval, y27, y29, vint, TyS, TyF, g1, Int.toNat_natCast, g2] <;> with_reducible rfl) (by decide) ?_
        repeat (refine awp_seq ?_)
        refine awp_draw 0 (by kernel_rfl) ?_
        refine d_take (bm := [0, 1, 0, 0, 12, 28, 63, 127, 255]) 4 (fresh := (H.length + 6)) (by kernel_rfl) (by simp only [jD, jO, jN, seval, y27, y29, vint, TyS, TyF, g1, Int.toNat_natCast, g2, happ] <;> with_reducible rfl) (by decide) (by decide) ?_
        refine dops_keep (bm := [0, 1, 0, 0, 12, 28, 63, 127, 255]) (rd.map Prod.fst) (by kernel_rfl) (by simp only [jC, jN, seval, vint, TyS, TyF, g1, Int.toNat_natCast, g2, happ] <;> with_reducible rfl) (by simp only [jC, jN, seval, vint, TyS, TyF, g1, Int.toNat_natCast, g2, happ]) (by decide) Trygo51 (fun H' hH' => map_k hc k t.args[i] H' (by have := Ty.size_arg hmem; omega) (hw.arg hmem) (hc.sub t hd _ hmem) (fun x hx => by rw [hH' x.1 (List.mem_map.2 ⟨x, hx, rfl⟩)]; exact reads_app hrd _ x hx)) (by simp only [jD, jO, jN, seval, vint, TyS, TyF, g1, Int.toNat_natCast, g2, happ] <;> first | done | rfl) ?_
        refine d_end (bm := [0, 1, 0, 0, 12, 28, 63, 127, 255]) (fresh := (H.length + 6)) (by kernel_rfl) (by simp only [jD, jO, jN, seval, y27, y29, vint, TyS, TyF, g1, Int.toNat_natCast, g2, happ] <;> with_reducible rfl) (by decide) ?_
        exact ⟨⟨rfl, rfl, trivial⟩, s ++ [mapT g t.args[i]], _, ⟨rfl, rfl, rfl, rfl, trivial⟩, by simp only [jN, seval, vint, TyS, TyF] <;> rfl, by rw [hg, map_take_succ _ hi]⟩
      · intro s hg
        rw [List.take_length] at hg
        repeat (refine awp_seq ?_)
        refine e_eval (by simp only [jA, jO, jN, seval, y29, vint, TyS, TyF] <;> with_reducible rfl) (by decide) ?_
        repeat (refine awp_seq ?_)
        refine awp_ret ⟨.inr rfl, _, _, (ares_cell 4 29 rfl Tryti29 (by decide) (by simp only [jL, jN, seval, vint, TyS, TyF] <;> with_reducible rfl)), ?_, (by first | exact (List.append_nil _).symm | rfl)⟩
        simp only [TyF, mapT_eq g t, b0, Bool.false_eq_true, if_false, d1_agg, LS, hg]
        exact Ty.enc_drop1 _

end Go.Abs
set_option maxRecDepth 4000
namespace Go.Abs
open Go.Proofs
theorem typL (k i : Int) (us : List Ty) : PC Try.prog 27 [vint k, vint i, .slice (us.map Ty.enc) .none] (Ty.mk k i us).enc := by
  refine pc_of (N := 11) Try.func27 rfl rfl (by simp) (by simp [Bel.int, bel_slice_ty]) (Ty.bel _ _) ?_
  repeat (refine awp_seq ?_)
  refine e_eval (by simp only [jA, jO, jN, seval, y29, vint, TyS, TyF] <;> with_reducible rfl) (by decide) ?_
  repeat (refine awp_seq ?_)
  refine e_eval (by simp only [jA, jO, jN, seval, y29, vint, TyS, TyF] <;> with_reducible rfl) (by decide) ?_
  repeat (refine awp_seq ?_)
  refine awp_ret ⟨.inr rfl, _, (ares_cell 6 29 rfl Tryti29 (by decide) (by simp only [jL, jN, seval, vint, TyS, TyF] <;> with_reducible rfl)), ?_⟩
  simp only [jN, seval, vint, TyS, TyF]

theorem typeVarL (i : Int) : PC Try.prog 28 [vint i] (Ty.mk 1 i []).enc := by
  refine pc_of (N := 5) Try.func28 rfl rfl (by simp) (by simp [Bel.int]) (Ty.bel _ _) ?_
  repeat (refine awp_seq ?_)
  refine e_eval (by simp only [jA, jO, jN, seval, y29, vint, TyS, TyF] <;> with_reducible rfl) (by decide) ?_
  repeat (refine awp_seq ?_)
  refine awp_region ?_
  refine e_take 1 (by simp only [jA, jO, jN, seval, vint, TyS, TyF] <;> with_reducible rfl) (by decide) ?_
  refine aops_pure (by simp only [jC, jN, seval, vint, TyS, TyF] <;> with_reducible rfl) (by simp only [jC, jN, seval, vint, TyS, TyF]) (by decide) Trygo27 (typL 1 _ [] _) ?_
  refine e_end (by simp only [jA, jO, jN, seval, y29, vint, TyS, TyF] <;> with_reducible rfl) (by decide) ?_
  repeat (refine awp_seq ?_)
  refine awp_ret ⟨.inr rfl, _, (ares_cell 2 29 rfl Tryti29 (by decide) (by simp only [jL, jN, seval, vint, TyS, TyF] <;> with_reducible rfl)), ?_⟩
  simp only [jN, seval, vint, TyS, TyF]

theorem intTypeL : PC Try.prog 29 [] (Ty.mk 3 0 []).enc := by
  refine pc_of (N := 2) Try.func29 rfl rfl (by simp) (by simp) (Ty.bel _ _) ?_
  repeat (refine awp_seq ?_)
  refine e_eval (by simp only [jA, jO, jN, seval, y29, vint, TyS, TyF] <;> with_reducible rfl) (by decide) ?_
  repeat (refine awp_seq ?_)
  refine awp_region ?_
  refine aops_pure (by simp only [jC, jN, seval, vint, TyS, TyF] <;> with_reducible rfl) (by simp only [jC, jN, seval, vint, TyS, TyF]) (by decide) Trygo27 (typL 3 0 [] _) ?_
  refine e_end (by simp only [jA, jO, jN, seval, y29, vint, TyS, TyF] <;> with_reducible rfl) (by decide) ?_
  repeat (refine awp_seq ?_)
  refine awp_ret ⟨.inr rfl, _, (ares_cell 0 29 rfl Tryti29 (by decide) (by simp only [jL, jN, seval, vint, TyS, TyF] <;> with_reducible rfl)), ?_⟩
  simp only [jN, seval, vint, TyS, TyF]

end Go.Abs
set_option maxRecDepth 4000
namespace Go.Abs
open Go.Proofs

theorem measure_k : ∀ (k : Nat) (t : Ty) (L : Int), t.size ≤ k → t.W → 0 ≤ L → L ≤ 1048576 → PC Try.prog 56 [t.enc, vint L] (.tup [vint (measT t L).1, vint (measT t L).2])
  | 0, t, L, h, _, _, _ => by cases t; simp [Ty.size] at h
  | k + 1, t, L, h, hw, hL0, hL => by
    have hbd := measT_bd t L hL0
    refine pc_of (N := 38) Try.func56 rfl rfl (by simp) (by simp [Ty.bel, Bel.int]) (.tup _ (by simp [Bel.int])) ?_
    repeat (refine awp_seq ?_)
    refine e_eval (by simp only [jA, jO, jN, seval, y29, vint, TyS, TyF, BdS] <;> with_reducible rfl) (by decide) ?_
    repeat (refine awp_seq ?_)
    refine e_eval (by simp only [jA, jO, jN, seval, vint, TyS, TyF, BdS] <;> with_reducible rfl) (by decide) ?_
    repeat (refine awp_seq ?_)
    refine e_eval (by simp only [jA, jO, jN, seval, y27, y29, vint, TyS, TyF, BdS] <;> with_reducible rfl) (by decide) ?_
    repeat (refine awp_seq ?_)
    refine awp_forS (σ := Int × Int) (t.args.length) (fun (q : Int × Int) => [(1, vint L), (4, vint q.1), (5, vint q.2), (11, .slice (t.args.map Ty.enc) .none)]) [1, 4, 5, 11] ([]) (fun (q : Int × Int) => []) (fun (i : Nat) (q : Int × Int) => (1 ≤ q.1 ∧ q.1 ≤ L + 1 ∧ 0 ≤ q.2 ∧ q.2 ≤ L) ∧ measL ((t.args.map measT).drop i) L q = measL (t.args.map measT) L (1, 0)) ((1, 0)) (_) rfl rfl rfl rfl rfl rfl rfl rfl rfl (by decide) (by decide) (by decide) (fun _ => rfl) (hw.lenMax) ⟨(by first | rfl | (simp only [jN, seval, vint, TyS, TyF, BdS] <;> first | done | with_reducible rfl)), (by first | rfl | (simp only [jN, seval, vint, TyS, TyF, BdS] <;> first | done | with_reducible rfl)), (by first | rfl | (simp only [jN, seval, vint, TyS, TyF, BdS] <;> first | done | with_reducible rfl)), (by first | rfl | (simp only [jN, seval, vint, TyS, TyF, BdS] <;> first | done | with_reducible rfl)), (by first | rfl | (simp only [jN, seval, vint, TyS, TyF, BdS] <;> first | done | with_reducible rfl)), (by first | rfl | (simp only [jN, seval, vint, TyS, TyF, BdS] <;> first | done | with_reducible rfl)), trivial⟩ (by first | rfl | (simp only [jN, seval, vint, TyS, TyF, BdS] <;> first | done | with_reducible rfl)) (⟨by simp; omega, rfl⟩) (fun _ _ _ => by first | exact Nat.zero_le _ | (simp only [List.length_append]; omega)) ?_ ?_ ?_
    · exact fun i s hg => ⟨by first | exact hbel_nil _ | (simp only [List.append_nil]; assumption) | (refine hbel_app' hb' (by simp) ?_; repeat (first | exact hbel_nil _ | exact trivial | exact obel_row_nil _ | (refine HBel.cons ?_ ?_) | (refine obel_row_cons (by first | exact bel_Bd _ _ | exact Bd.bel _ _ | exact bel_ints0 _ _ | exact bel_slice_ty _ _ | exact Ty.bel _ _ | exact bel_ty_tok _ (by simp) | exact Bel.int _ _ | exact Bel.bool _ | exact Bel.str _ | exact Bel.nilp | exact Bel.nilfn | exact Bel.optr _ _ (by simp) | exact bel_nil0 _ | exact bel_nil1 _ | exact bel_fn0 _ _ | assumption) ?_))), by repeat (first | exact BelL.nil | refine BelL.cons (by first | exact bel_Bd _ _ | exact Bd.bel _ _ | exact bel_ints0 _ _ | exact bel_slice_ty _ _ | exact Ty.bel _ _ | exact bel_ty_tok _ (by simp) | exact Bel.int _ _ | exact Bel.bool _ | exact Bel.str _ | exact Bel.nilp | exact Bel.nilfn | exact Bel.optr _ _ (by simp) | exact bel_nil0 _ | exact bel_nil1 _ | exact bel_fn0 _ _ | assumption) ?_)⟩
    · intro i q hi hg
      obtain ⟨⟨q1, q2, q3, q4⟩, hg⟩ := hg
      have g1 := ix_nat hi
      have g2 := get_enc Ty.enc hi
      have hmem : t.args[i] ∈ t.args := List.getElem_mem hi
      rw [List.drop_eq_getElem_cons (by simpa using hi), List.getElem_map, measL_cons] at hg
      repeat (refine awp_seq ?_)
      refine e_eval (by simp only [jA, jO, jN, seval, y27, y29, vint, TyS, TyF, BdS, g1, g2, Int.toNat_natCast] <;> with_reducible rfl) (by decide) ?_
      repeat (refine awp_seq ?_)
      refine e_eval (by simp only [jA, jO, jN, seval, y3, vint, TyS, TyF, BdS, g1, g2, Int.toNat_natCast] <;> with_reducible rfl) (by decide) ?_
      repeat (refine awp_seq ?_)
      refine awp_cond rfl (by simp only [jN, seval, vint, TyS, TyF, BdS, g1, g2, Int.toNat_natCast] <;> with_reducible rfl) (fun b0 => ?_) (fun b0 => ?_)
      ·
        rw [if_pos b0] at hg
        have hwr : IntKind.i64.wrap (q.2 + 1) = q.2 + 1 := wrap_id (by omega) (by omega)
        repeat (refine awp_seq ?_)
        refine awp_exit ?_
        simp only [thenQ, blockQ, reduceIte, Nat.reduceEqDiff, Nat.succ_ne_self, if_true, if_false]
        repeat (refine awp_seq ?_)
        refine e_eval (by simp only [jA, jO, jN, seval, y3, vint, TyS, TyF, BdS, g1, g2, Int.toNat_natCast, hwr] <;> with_reducible rfl) (by decide) ?_
        repeat (refine awp_seq ?_)
        refine awp_ret ⟨.inr rfl, _, (ares_two (.tmp 4) (.tmp 5) rfl (ares_tmp1 (by decide)) (ares_tmp1 (by decide))), ?_⟩
        rw [measT_eq t L, ← hg]; rfl
      ·
        rw [if_neg (by rw [b0]; simp)] at hg
        have hle : q.1 ≤ L := by have : ¬ q.1 > L := of_decide_eq_false b0; omega
        have hwr1 : IntKind.i64.wrap (L - q.1) = L - q.1 := wrap_id (by omega) (by omega)
        have hb2 := measT_bd t.args[i] (L - q.1) (by omega)
        have hwr2 : IntKind.i64.wrap (q.1 + (measT t.args[i] (L - q.1)).1) = q.1 + (measT t.args[i] (L - q.1)).1 := wrap_id (by omega) (by omega)
        repeat (refine awp_seq ?_)
        refine awp_skip ?_
        repeat (refine awp_seq ?_)
        refine awp_region ?_
        refine e_take 4 (by simp only [jA, jO, jN, seval, y3, y29, vint, TyS, TyF, BdS, g1, g2, Int.toNat_natCast, hwr1] <;> with_reducible rfl) (by decide) ?_
        refine aops_pure (by simp only [jC, jN, seval, vint, TyS, TyF, BdS, g1, g2, Int.toNat_natCast, hwr1] <;> with_reducible rfl) (by simp only [jC, jN, seval, vint, TyS, TyF, BdS, g1, g2, Int.toNat_natCast, hwr1]) (by decide) Trygo56 (measure_k k t.args[i] (L - q.1) (by have := Ty.size_arg hmem; omega) (hw.arg hmem) (by omega) (by omega) _) ?_
        refine e_end (by simp only [jA, jO, jN, seval, vint, TyS, TyF, BdS, g1, g2, Int.toNat_natCast, hwr1] <;> with_reducible rfl) (by decide) ?_
        refine awp_sel [1, 4, 5, 8, 9, 11, 12, 13] (by simp only [jN, seval, vint, TyS, TyF, BdS, g1, g2, Int.toNat_natCast] <;> with_reducible rfl) ?_
        repeat (refine awp_seq ?_)
        refine e_eval (by simp only [jA, jO, jN, seval, y3, vint, TyS, TyF, BdS, g1, g2, Int.toNat_natCast, hwr2] <;> with_reducible rfl) (by decide) ?_
        exact ⟨⟨rfl, rfl, trivial⟩, (q.1 + (measT t.args[i] (L - q.1)).1, max q.2 (measT t.args[i] (L - q.1)).2), _, ⟨rfl, rfl, rfl, rfl, trivial⟩, rfl, ⟨by simp only; omega, by simp only; omega, by simp only; omega, by simp only; omega⟩, hg⟩
    · intro q hg
      obtain ⟨⟨q1, q2, q3, q4⟩, hg⟩ := hg
      rw [List.drop_eq_nil_of_le (by simp), measL_nil] at hg
      have hwr : IntKind.i64.wrap (q.2 + 1) = q.2 + 1 := wrap_id (by omega) (by omega)
      repeat (refine awp_seq ?_)
      refine e_eval (by simp only [jA, jO, jN, seval, y3, vint, TyS, TyF, BdS, hwr] <;> with_reducible rfl) (by decide) ?_
      repeat (refine awp_seq ?_)
      refine awp_ret ⟨.inr rfl, _, (ares_two (.tmp 4) (.tmp 5) rfl (ares_tmp1 (by decide)) (ares_tmp1 (by decide))), ?_⟩
      rw [measT_eq t L, ← hg]; rfl

theorem nodeWellFormed (t : Ty) : PC Try.prog 70 [t.enc] (.bool (nwf t)) := by
  refine pc_of (N := 69) Try.func70 rfl rfl (by simp) (by simp [Ty.bel]) (.bool _) ?_
  repeat (refine awp_seq ?_)
  refine e_eval (by simp only [jA, jO, jN, seval, y29, vint, TyS, TyF, BdS, Int.cast_ofNat_Int] <;> with_reducible rfl) (by decide) ?_
  repeat (refine awp_seq ?_)
  refine e_eval (by simp only [jA, jO, jN, seval, y27, y29, vint, TyS, TyF, BdS, Int.cast_ofNat_Int] <;> with_reducible rfl) (by decide) ?_
  repeat (refine awp_seq ?_)
  refine e_eval (by simp only [jA, jO, jN, seval, y3, y29, vint, TyS, TyF, BdS, Int.cast_ofNat_Int] <;> with_reducible rfl) (by decide) ?_
  repeat (refine awp_seq ?_)
  refine awp_block ?_
  repeat (refine awp_seq ?_)
  refine e_eval (by simp only [jA, jO, jN, seval, y3, vint, TyS, TyF, BdS, Int.cast_ofNat_Int] <;> with_reducible rfl) (by decide) ?_
  repeat (refine awp_seq ?_)
  refine awp_cond rfl (by simp only [jN, seval, vint, TyS, TyF, BdS, Int.cast_ofNat_Int] <;> with_reducible rfl) (fun b0 => ?_) (fun b0 => ?_)
  ·
    repeat (refine awp_seq ?_)
    refine awp_skip ?_
    repeat (refine awp_seq ?_)
    refine awp_cond rfl (by simp only [jN, seval, vint, TyS, TyF, BdS, Int.cast_ofNat_Int] <;> with_reducible rfl) (fun b1 => ?_) (fun b1 => ?_)
    ·
      repeat (refine awp_seq ?_)
      refine g_eval (by simp only [jG, jO, jN, seval, y3, y29, vint, TyS, TyF, BdS, Int.cast_ofNat_Int] <;> with_reducible rfl) (by decide) (by repeat (first | exact Fin.base _ | with_reducible apply Fin.keep | apply Fin.drop)) ?_
      repeat (refine awp_seq ?_)
      refine awp_ret ⟨.inr rfl, _, rfl, ?_⟩
      simp only [jN, seval, vint, TyS, TyF, BdS]
      simp_all [nwf]
    ·
      repeat (refine awp_seq ?_)
      refine e_eval (by simp only [jA, jO, jN, seval, y3, vint, TyS, TyF, BdS, Int.cast_ofNat_Int] <;> with_reducible rfl) (by decide) ?_
      repeat (refine awp_seq ?_)
      refine awp_cond rfl (by simp only [jN, seval, vint, TyS, TyF, BdS, Int.cast_ofNat_Int] <;> with_reducible rfl) (fun b2 => ?_) (fun b2 => ?_)
      ·
        repeat (refine awp_seq ?_)
        refine awp_skip ?_
        repeat (refine awp_seq ?_)
        refine awp_cond rfl (by simp only [jN, seval, vint, TyS, TyF, BdS, Int.cast_ofNat_Int] <;> with_reducible rfl) (fun b3 => ?_) (fun b3 => ?_)
        ·
          repeat (refine awp_seq ?_)
          refine g_eval (by simp only [jG, jO, jN, seval, y3, y29, vint, TyS, TyF, BdS, Int.cast_ofNat_Int] <;> with_reducible rfl) (by decide) (by repeat (first | exact Fin.base _ | with_reducible apply Fin.keep | apply Fin.drop)) ?_
          repeat (refine awp_seq ?_)
          refine awp_ret ⟨.inr rfl, _, rfl, ?_⟩
          simp only [jN, seval, vint, TyS, TyF, BdS]
          simp_all [nwf]
        ·
          repeat (refine awp_seq ?_)
          refine e_eval (by simp only [jA, jO, jN, seval, y3, vint, TyS, TyF, BdS, Int.cast_ofNat_Int] <;> with_reducible rfl) (by decide) ?_
          repeat (refine awp_seq ?_)
          refine awp_cond rfl (by simp only [jN, seval, vint, TyS, TyF, BdS, Int.cast_ofNat_Int] <;> with_reducible rfl) (fun b4 => ?_) (fun b4 => ?_)
          ·
            repeat (refine awp_seq ?_)
            refine e_eval (by simp only [jA, jO, jN, seval, y3, y29, vint, TyS, TyF, BdS, Int.cast_ofNat_Int] <;> with_reducible rfl) (by decide) ?_
            repeat (refine awp_seq ?_)
            refine awp_ret ⟨.inr rfl, _, rfl, ?_⟩
            simp only [jN, seval, vint, TyS, TyF, BdS]
            simp_all [nwf]
          ·
            repeat (refine awp_seq ?_)
            refine e_eval (by simp only [jA, jO, jN, seval, y3, vint, TyS, TyF, BdS, Int.cast_ofNat_Int] <;> with_reducible rfl) (by decide) ?_
            repeat (refine awp_seq ?_)
            refine awp_cond rfl (by simp only [jN, seval, vint, TyS, TyF, BdS, Int.cast_ofNat_Int] <;> with_reducible rfl) (fun b5 => ?_) (fun b5 => ?_)
            ·
              refine awp_sel [1, 3] (by simp only [jN, seval, vint, TyS, TyF, BdS, Int.cast_ofNat_Int] <;> with_reducible rfl) ?_
              repeat (refine awp_seq ?_)
              refine g_eval (by simp only [jG, jO, jN, seval, y3, y29, vint, TyS, TyF, BdS, Int.cast_ofNat_Int] <;> with_reducible rfl) (by decide) (by repeat (first | exact Fin.base _ | with_reducible apply Fin.keep | apply Fin.drop)) ?_
              repeat (refine awp_seq ?_)
              refine awp_ret ⟨.inr rfl, _, rfl, ?_⟩
              simp only [jN, seval, vint, TyS, TyF, BdS]
              simp_all [nwf]
            ·
              refine awp_sel [1, 3, 8] (by simp only [jN, seval, vint, TyS, TyF, BdS, Int.cast_ofNat_Int] <;> with_reducible rfl) ?_
              repeat (refine awp_seq ?_)
              refine e_eval (by simp only [jA, jO, jN, seval, y3, vint, TyS, TyF, BdS, Int.cast_ofNat_Int] <;> with_reducible rfl) (by decide) ?_
              repeat (refine awp_seq ?_)
              refine awp_cond rfl (by simp only [jN, seval, vint, TyS, TyF, BdS, Int.cast_ofNat_Int] <;> with_reducible rfl) (fun b6 => ?_) (fun b6 => ?_)
              ·
                repeat (refine awp_seq ?_)
                refine g_eval (by simp only [jG, jO, jN, seval, y3, y29, vint, TyS, TyF, BdS, Int.cast_ofNat_Int] <;> with_reducible rfl) (by decide) (by repeat (first | exact Fin.base _ | with_reducible apply Fin.keep | apply Fin.drop)) ?_
                repeat (refine awp_seq ?_)
                refine awp_ret ⟨.inr rfl, _, rfl, ?_⟩
                simp only [jN, seval, vint, TyS, TyF, BdS]
                simp_all [nwf]
              ·
                repeat (refine awp_seq ?_)
                refine e_eval (by simp only [jA, jO, jN, seval, y3, vint, TyS, TyF, BdS, Int.cast_ofNat_Int] <;> with_reducible rfl) (by decide) ?_
                repeat (refine awp_seq ?_)
                refine awp_cond rfl (by simp only [jN, seval, vint, TyS, TyF, BdS, Int.cast_ofNat_Int] <;> with_reducible rfl) (fun b7 => ?_) (fun b7 => ?_)
                ·
                  repeat (refine awp_seq ?_)
                  refine g_eval (by simp only [jG, jO, jN, seval, y3, y29, vint, TyS, TyF, BdS, Int.cast_ofNat_Int] <;> with_reducible rfl) (by decide) (by repeat (first | exact Fin.base _ | with_reducible apply Fin.keep | apply Fin.drop)) ?_
                  repeat (refine awp_seq ?_)
                  refine awp_ret ⟨.inr rfl, _, rfl, ?_⟩
                  simp only [jN, seval, vint, TyS, TyF, BdS]
                  simp_all [nwf]
                ·
                  repeat (refine awp_seq ?_)
                  refine awp_skip ?_
                  repeat (refine awp_seq ?_)
                  refine e_eval (by simp only [jA, jO, jN, seval, vint, TyS, TyF, BdS, Int.cast_ofNat_Int] <;> with_reducible rfl) (by decide) ?_
                  repeat (refine awp_seq ?_)
                  refine awp_ret ⟨.inr rfl, _, rfl, ?_⟩
                  simp only [jN, seval, vint, TyS, TyF, BdS]
                  simp_all [nwf]
      ·
        repeat (refine awp_seq ?_)
        refine e_eval (by simp only [jA, jO, jN, seval, y3, vint, TyS, TyF, BdS, Int.cast_ofNat_Int] <;> with_reducible rfl) (by decide) ?_
        repeat (refine awp_seq ?_)
        refine awp_cond rfl (by simp only [jN, seval, vint, TyS, TyF, BdS, Int.cast_ofNat_Int] <;> with_reducible rfl) (fun b8 => ?_) (fun b8 => ?_)
        ·
          repeat (refine awp_seq ?_)
          refine g_eval (by simp only [jG, jO, jN, seval, y3, y29, vint, TyS, TyF, BdS, Int.cast_ofNat_Int] <;> with_reducible rfl) (by decide) (by repeat (first | exact Fin.base _ | with_reducible apply Fin.keep | apply Fin.drop)) ?_
          repeat (refine awp_seq ?_)
          refine awp_ret ⟨.inr rfl, _, rfl, ?_⟩
          simp only [jN, seval, vint, TyS, TyF, BdS]
          simp_all [nwf]
        ·
          repeat (refine awp_seq ?_)
          refine e_eval (by simp only [jA, jO, jN, seval, y3, vint, TyS, TyF, BdS, Int.cast_ofNat_Int] <;> with_reducible rfl) (by decide) ?_
          repeat (refine awp_seq ?_)
          refine awp_cond rfl (by simp only [jN, seval, vint, TyS, TyF, BdS, Int.cast_ofNat_Int] <;> with_reducible rfl) (fun b9 => ?_) (fun b9 => ?_)
          ·
            refine awp_sel [1] (by simp only [jN, seval, vint, TyS, TyF, BdS, Int.cast_ofNat_Int] <;> with_reducible rfl) ?_
            repeat (refine awp_seq ?_)
            refine e_eval (by simp only [jA, jO, jN, seval, y3, y29, vint, TyS, TyF, BdS, Int.cast_ofNat_Int] <;> with_reducible rfl) (by decide) ?_
            repeat (refine awp_seq ?_)
            refine awp_ret ⟨.inr rfl, _, rfl, ?_⟩
            simp only [jN, seval, vint, TyS, TyF, BdS]
            simp_all [nwf]
          ·
            refine awp_sel [1, 3, 8] (by simp only [jN, seval, vint, TyS, TyF, BdS, Int.cast_ofNat_Int] <;> with_reducible rfl) ?_
            repeat (refine awp_seq ?_)
            refine e_eval (by simp only [jA, jO, jN, seval, y3, vint, TyS, TyF, BdS, Int.cast_ofNat_Int] <;> with_reducible rfl) (by decide) ?_
            repeat (refine awp_seq ?_)
            refine awp_cond rfl (by simp only [jN, seval, vint, TyS, TyF, BdS, Int.cast_ofNat_Int] <;> with_reducible rfl) (fun b10 => ?_) (fun b10 => ?_)
            ·
              repeat (refine awp_seq ?_)
              refine g_eval (by simp only [jG, jO, jN, seval, y3, y29, vint, TyS, TyF, BdS, Int.cast_ofNat_Int] <;> with_reducible rfl) (by decide) (by repeat (first | exact Fin.base _ | with_reducible apply Fin.keep | apply Fin.drop)) ?_
              repeat (refine awp_seq ?_)
              refine awp_ret ⟨.inr rfl, _, rfl, ?_⟩
              simp only [jN, seval, vint, TyS, TyF, BdS]
              simp_all [nwf]
            ·
              repeat (refine awp_seq ?_)
              refine e_eval (by simp only [jA, jO, jN, seval, y3, vint, TyS, TyF, BdS, Int.cast_ofNat_Int] <;> with_reducible rfl) (by decide) ?_
              repeat (refine awp_seq ?_)
              refine awp_cond rfl (by simp only [jN, seval, vint, TyS, TyF, BdS, Int.cast_ofNat_Int] <;> with_reducible rfl) (fun b11 => ?_) (fun b11 => ?_)
              ·
                repeat (refine awp_seq ?_)
                refine g_eval (by simp only [jG, jO, jN, seval, y3, y29, vint, TyS, TyF, BdS, Int.cast_ofNat_Int] <;> with_reducible rfl) (by decide) (by repeat (first | exact Fin.base _ | with_reducible apply Fin.keep | apply Fin.drop)) ?_
                repeat (refine awp_seq ?_)
                refine awp_ret ⟨.inr rfl, _, rfl, ?_⟩
                simp only [jN, seval, vint, TyS, TyF, BdS]
                simp_all [nwf]
              ·
                repeat (refine awp_seq ?_)
                refine e_eval (by simp only [jA, jO, jN, seval, y3, vint, TyS, TyF, BdS, Int.cast_ofNat_Int] <;> with_reducible rfl) (by decide) ?_
                repeat (refine awp_seq ?_)
                refine awp_cond rfl (by simp only [jN, seval, vint, TyS, TyF, BdS, Int.cast_ofNat_Int] <;> with_reducible rfl) (fun b12 => ?_) (fun b12 => ?_)
                ·
                  repeat (refine awp_seq ?_)
                  refine g_eval (by simp only [jG, jO, jN, seval, y3, y29, vint, TyS, TyF, BdS, Int.cast_ofNat_Int] <;> with_reducible rfl) (by decide) (by repeat (first | exact Fin.base _ | with_reducible apply Fin.keep | apply Fin.drop)) ?_
                  repeat (refine awp_seq ?_)
                  refine awp_ret ⟨.inr rfl, _, rfl, ?_⟩
                  simp only [jN, seval, vint, TyS, TyF, BdS]
                  simp_all [nwf]
                ·
                  repeat (refine awp_seq ?_)
                  refine awp_skip ?_
                  repeat (refine awp_seq ?_)
                  refine e_eval (by simp only [jA, jO, jN, seval, vint, TyS, TyF, BdS, Int.cast_ofNat_Int] <;> with_reducible rfl) (by decide) ?_
                  repeat (refine awp_seq ?_)
                  refine awp_ret ⟨.inr rfl, _, rfl, ?_⟩
                  simp only [jN, seval, vint, TyS, TyF, BdS]
                  simp_all [nwf]
  ·
    repeat (refine awp_seq ?_)
    refine e_eval (by simp only [jA, jO, jN, seval, y3, vint, TyS, TyF, BdS, Int.cast_ofNat_Int] <;> with_reducible rfl) (by decide) ?_
    repeat (refine awp_seq ?_)
    refine awp_cond rfl (by simp only [jN, seval, vint, TyS, TyF, BdS, Int.cast_ofNat_Int] <;> with_reducible rfl) (fun b13 => ?_) (fun b13 => ?_)
    ·
      repeat (refine awp_seq ?_)
      refine awp_skip ?_
      repeat (refine awp_seq ?_)
      refine awp_cond rfl (by simp only [jN, seval, vint, TyS, TyF, BdS, Int.cast_ofNat_Int] <;> with_reducible rfl) (fun b14 => ?_) (fun b14 => ?_)
      ·
        repeat (refine awp_seq ?_)
        refine g_eval (by simp only [jG, jO, jN, seval, y3, y29, vint, TyS, TyF, BdS, Int.cast_ofNat_Int] <;> with_reducible rfl) (by decide) (by repeat (first | exact Fin.base _ | with_reducible apply Fin.keep | apply Fin.drop)) ?_
        repeat (refine awp_seq ?_)
        refine awp_ret ⟨.inr rfl, _, rfl, ?_⟩
        simp only [jN, seval, vint, TyS, TyF, BdS]
        simp_all [nwf]
      ·
        repeat (refine awp_seq ?_)
        refine e_eval (by simp only [jA, jO, jN, seval, y3, vint, TyS, TyF, BdS, Int.cast_ofNat_Int] <;> with_reducible rfl) (by decide) ?_
        repeat (refine awp_seq ?_)
        refine awp_cond rfl (by simp only [jN, seval, vint, TyS, TyF, BdS, Int.cast_ofNat_Int] <;> with_reducible rfl) (fun b15 => ?_) (fun b15 => ?_)
        ·
          repeat (refine awp_seq ?_)
          refine awp_skip ?_
          repeat (refine awp_seq ?_)
          refine awp_cond rfl (by simp only [jN, seval, vint, TyS, TyF, BdS, Int.cast_ofNat_Int] <;> with_reducible rfl) (fun b16 => ?_) (fun b16 => ?_)
          ·
            repeat (refine awp_seq ?_)
            refine g_eval (by simp only [jG, jO, jN, seval, y3, y29, vint, TyS, TyF, BdS, Int.cast_ofNat_Int] <;> with_reducible rfl) (by decide) (by repeat (first | exact Fin.base _ | with_reducible apply Fin.keep | apply Fin.drop)) ?_
            repeat (refine awp_seq ?_)
            refine awp_ret ⟨.inr rfl, _, rfl, ?_⟩
            simp only [jN, seval, vint, TyS, TyF, BdS]
            simp_all [nwf]
          ·
            repeat (refine awp_seq ?_)
            refine e_eval (by simp only [jA, jO, jN, seval, y3, vint, TyS, TyF, BdS, Int.cast_ofNat_Int] <;> with_reducible rfl) (by decide) ?_
            repeat (refine awp_seq ?_)
            refine awp_cond rfl (by simp only [jN, seval, vint, TyS, TyF, BdS, Int.cast_ofNat_Int] <;> with_reducible rfl) (fun b17 => ?_) (fun b17 => ?_)
            ·
              refine awp_sel [1] (by simp only [jN, seval, vint, TyS, TyF, BdS, Int.cast_ofNat_Int] <;> with_reducible rfl) ?_
              repeat (refine awp_seq ?_)
              refine e_eval (by simp only [jA, jO, jN, seval, y3, y29, vint, TyS, TyF, BdS, Int.cast_ofNat_Int] <;> with_reducible rfl) (by decide) ?_
              repeat (refine awp_seq ?_)
              refine awp_ret ⟨.inr rfl, _, rfl, ?_⟩
              simp only [jN, seval, vint, TyS, TyF, BdS]
              simp_all [nwf]
            ·
              refine awp_sel [1, 3, 8] (by simp only [jN, seval, vint, TyS, TyF, BdS, Int.cast_ofNat_Int] <;> with_reducible rfl) ?_
              repeat (refine awp_seq ?_)
              refine e_eval (by simp only [jA, jO, jN, seval, y3, vint, TyS, TyF, BdS, Int.cast_ofNat_Int] <;> with_reducible rfl) (by decide) ?_
              repeat (refine awp_seq ?_)
              refine awp_cond rfl (by simp only [jN, seval, vint, TyS, TyF, BdS, Int.cast_ofNat_Int] <;> with_reducible rfl) (fun b18 => ?_) (fun b18 => ?_)
              ·
                repeat (refine awp_seq ?_)
                refine g_eval (by simp only [jG, jO, jN, seval, y3, y29, vint, TyS, TyF, BdS, Int.cast_ofNat_Int] <;> with_reducible rfl) (by decide) (by repeat (first | exact Fin.base _ | with_reducible apply Fin.keep | apply Fin.drop)) ?_
                repeat (refine awp_seq ?_)
                refine awp_ret ⟨.inr rfl, _, rfl, ?_⟩
                simp only [jN, seval, vint, TyS, TyF, BdS]
                simp_all [nwf]
              ·
                repeat (refine awp_seq ?_)
                refine e_eval (by simp only [jA, jO, jN, seval, y3, vint, TyS, TyF, BdS, Int.cast_ofNat_Int] <;> with_reducible rfl) (by decide) ?_
                repeat (refine awp_seq ?_)
                refine awp_cond rfl (by simp only [jN, seval, vint, TyS, TyF, BdS, Int.cast_ofNat_Int] <;> with_reducible rfl) (fun b19 => ?_) (fun b19 => ?_)
                ·
                  repeat (refine awp_seq ?_)
                  refine g_eval (by simp only [jG, jO, jN, seval, y3, y29, vint, TyS, TyF, BdS, Int.cast_ofNat_Int] <;> with_reducible rfl) (by decide) (by repeat (first | exact Fin.base _ | with_reducible apply Fin.keep | apply Fin.drop)) ?_
                  repeat (refine awp_seq ?_)
                  refine awp_ret ⟨.inr rfl, _, rfl, ?_⟩
                  simp only [jN, seval, vint, TyS, TyF, BdS]
                  simp_all [nwf]
                ·
                  repeat (refine awp_seq ?_)
                  refine e_eval (by simp only [jA, jO, jN, seval, y3, vint, TyS, TyF, BdS, Int.cast_ofNat_Int] <;> with_reducible rfl) (by decide) ?_
                  repeat (refine awp_seq ?_)
                  refine awp_cond rfl (by simp only [jN, seval, vint, TyS, TyF, BdS, Int.cast_ofNat_Int] <;> with_reducible rfl) (fun b20 => ?_) (fun b20 => ?_)
                  ·
                    repeat (refine awp_seq ?_)
                    refine g_eval (by simp only [jG, jO, jN, seval, y3, y29, vint, TyS, TyF, BdS, Int.cast_ofNat_Int] <;> with_reducible rfl) (by decide) (by repeat (first | exact Fin.base _ | with_reducible apply Fin.keep | apply Fin.drop)) ?_
                    repeat (refine awp_seq ?_)
                    refine awp_ret ⟨.inr rfl, _, rfl, ?_⟩
                    simp only [jN, seval, vint, TyS, TyF, BdS]
                    simp_all [nwf]
                  ·
                    repeat (refine awp_seq ?_)
                    refine awp_skip ?_
                    repeat (refine awp_seq ?_)
                    refine e_eval (by simp only [jA, jO, jN, seval, vint, TyS, TyF, BdS, Int.cast_ofNat_Int] <;> with_reducible rfl) (by decide) ?_
                    repeat (refine awp_seq ?_)
                    refine awp_ret ⟨.inr rfl, _, rfl, ?_⟩
                    simp only [jN, seval, vint, TyS, TyF, BdS]
                    simp_all [nwf]
        ·
          repeat (refine awp_seq ?_)
          refine e_eval (by simp only [jA, jO, jN, seval, y3, vint, TyS, TyF, BdS, Int.cast_ofNat_Int] <;> with_reducible rfl) (by decide) ?_
          repeat (refine awp_seq ?_)
          refine awp_cond rfl (by simp only [jN, seval, vint, TyS, TyF, BdS, Int.cast_ofNat_Int] <;> with_reducible rfl) (fun b21 => ?_) (fun b21 => ?_)
          ·
            refine awp_sel [1, 3] (by simp only [jN, seval, vint, TyS, TyF, BdS, Int.cast_ofNat_Int] <;> with_reducible rfl) ?_
            repeat (refine awp_seq ?_)
            refine g_eval (by simp only [jG, jO, jN, seval, y3, y29, vint, TyS, TyF, BdS, Int.cast_ofNat_Int] <;> with_reducible rfl) (by decide) (by repeat (first | exact Fin.base _ | with_reducible apply Fin.keep | apply Fin.drop)) ?_
            repeat (refine awp_seq ?_)
            refine awp_ret ⟨.inr rfl, _, rfl, ?_⟩
            simp only [jN, seval, vint, TyS, TyF, BdS]
            simp_all [nwf]
          ·
            refine awp_sel [1, 3, 8] (by simp only [jN, seval, vint, TyS, TyF, BdS, Int.cast_ofNat_Int] <;> with_reducible rfl) ?_
            repeat (refine awp_seq ?_)
            refine e_eval (by simp only [jA, jO, jN, seval, y3, vint, TyS, TyF, BdS, Int.cast_ofNat_Int] <;> with_reducible rfl) (by decide) ?_
            repeat (refine awp_seq ?_)
            refine awp_cond rfl (by simp only [jN, seval, vint, TyS, TyF, BdS, Int.cast_ofNat_Int] <;> with_reducible rfl) (fun b22 => ?_) (fun b22 => ?_)
            ·
              repeat (refine awp_seq ?_)
              refine e_eval (by simp only [jA, jO, jN, seval, y3, y29, vint, TyS, TyF, BdS, Int.cast_ofNat_Int] <;> with_reducible rfl) (by decide) ?_
              repeat (refine awp_seq ?_)
              refine awp_ret ⟨.inr rfl, _, rfl, ?_⟩
              simp only [jN, seval, vint, TyS, TyF, BdS]
              simp_all [nwf]
            ·
              repeat (refine awp_seq ?_)
              refine e_eval (by simp only [jA, jO, jN, seval, y3, vint, TyS, TyF, BdS, Int.cast_ofNat_Int] <;> with_reducible rfl) (by decide) ?_
              repeat (refine awp_seq ?_)
              refine awp_cond rfl (by simp only [jN, seval, vint, TyS, TyF, BdS, Int.cast_ofNat_Int] <;> with_reducible rfl) (fun b23 => ?_) (fun b23 => ?_)
              ·
                repeat (refine awp_seq ?_)
                refine g_eval (by simp only [jG, jO, jN, seval, y3, y29, vint, TyS, TyF, BdS, Int.cast_ofNat_Int] <;> with_reducible rfl) (by decide) (by repeat (first | exact Fin.base _ | with_reducible apply Fin.keep | apply Fin.drop)) ?_
                repeat (refine awp_seq ?_)
                refine awp_ret ⟨.inr rfl, _, rfl, ?_⟩
                simp only [jN, seval, vint, TyS, TyF, BdS]
                simp_all [nwf]
              ·
                repeat (refine awp_seq ?_)
                refine e_eval (by simp only [jA, jO, jN, seval, y3, vint, TyS, TyF, BdS, Int.cast_ofNat_Int] <;> with_reducible rfl) (by decide) ?_
                repeat (refine awp_seq ?_)
                refine awp_cond rfl (by simp only [jN, seval, vint, TyS, TyF, BdS, Int.cast_ofNat_Int] <;> with_reducible rfl) (fun b24 => ?_) (fun b24 => ?_)
                ·
                  repeat (refine awp_seq ?_)
                  refine g_eval (by simp only [jG, jO, jN, seval, y3, y29, vint, TyS, TyF, BdS, Int.cast_ofNat_Int] <;> with_reducible rfl) (by decide) (by repeat (first | exact Fin.base _ | with_reducible apply Fin.keep | apply Fin.drop)) ?_
                  repeat (refine awp_seq ?_)
                  refine awp_ret ⟨.inr rfl, _, rfl, ?_⟩
                  simp only [jN, seval, vint, TyS, TyF, BdS]
                  simp_all [nwf]
                ·
                  repeat (refine awp_seq ?_)
                  refine e_eval (by simp only [jA, jO, jN, seval, y3, vint, TyS, TyF, BdS, Int.cast_ofNat_Int] <;> with_reducible rfl) (by decide) ?_
                  repeat (refine awp_seq ?_)
                  refine awp_cond rfl (by simp only [jN, seval, vint, TyS, TyF, BdS, Int.cast_ofNat_Int] <;> with_reducible rfl) (fun b25 => ?_) (fun b25 => ?_)
                  ·
                    repeat (refine awp_seq ?_)
                    refine g_eval (by simp only [jG, jO, jN, seval, y3, y29, vint, TyS, TyF, BdS, Int.cast_ofNat_Int] <;> with_reducible rfl) (by decide) (by repeat (first | exact Fin.base _ | with_reducible apply Fin.keep | apply Fin.drop)) ?_
                    repeat (refine awp_seq ?_)
                    refine awp_ret ⟨.inr rfl, _, rfl, ?_⟩
                    simp only [jN, seval, vint, TyS, TyF, BdS]
                    simp_all [nwf]
                  ·
                    repeat (refine awp_seq ?_)
                    refine awp_skip ?_
                    repeat (refine awp_seq ?_)
                    refine e_eval (by simp only [jA, jO, jN, seval, vint, TyS, TyF, BdS, Int.cast_ofNat_Int] <;> with_reducible rfl) (by decide) ?_
                    repeat (refine awp_seq ?_)
                    refine awp_ret ⟨.inr rfl, _, rfl, ?_⟩
                    simp only [jN, seval, vint, TyS, TyF, BdS]
                    simp_all [nwf]
    ·
      repeat (refine awp_seq ?_)
      refine e_eval (by simp only [jA, jO, jN, seval, y3, vint, TyS, TyF, BdS, Int.cast_ofNat_Int] <;> with_reducible rfl) (by decide) ?_
      repeat (refine awp_seq ?_)
      refine awp_cond rfl (by simp only [jN, seval, vint, TyS, TyF, BdS, Int.cast_ofNat_Int] <;> with_reducible rfl) (fun b26 => ?_) (fun b26 => ?_)
      ·
        repeat (refine awp_seq ?_)
        refine awp_skip ?_
        repeat (refine awp_seq ?_)
        refine awp_cond rfl (by simp only [jN, seval, vint, TyS, TyF, BdS, Int.cast_ofNat_Int] <;> with_reducible rfl) (fun b27 => ?_) (fun b27 => ?_)
        ·
          repeat (refine awp_seq ?_)
          refine g_eval (by simp only [jG, jO, jN, seval, y3, y29, vint, TyS, TyF, BdS, Int.cast_ofNat_Int] <;> with_reducible rfl) (by decide) (by repeat (first | exact Fin.base _ | with_reducible apply Fin.keep | apply Fin.drop)) ?_
          repeat (refine awp_seq ?_)
          refine awp_ret ⟨.inr rfl, _, rfl, ?_⟩
          simp only [jN, seval, vint, TyS, TyF, BdS]
          simp_all [nwf]
        ·
          repeat (refine awp_seq ?_)
          refine e_eval (by simp only [jA, jO, jN, seval, y3, vint, TyS, TyF, BdS, Int.cast_ofNat_Int] <;> with_reducible rfl) (by decide) ?_
          repeat (refine awp_seq ?_)
          refine awp_cond rfl (by simp only [jN, seval, vint, TyS, TyF, BdS, Int.cast_ofNat_Int] <;> with_reducible rfl) (fun b28 => ?_) (fun b28 => ?_)
          ·
            repeat (refine awp_seq ?_)
            refine awp_skip ?_
            repeat (refine awp_seq ?_)
            refine awp_cond rfl (by simp only [jN, seval, vint, TyS, TyF, BdS, Int.cast_ofNat_Int] <;> with_reducible rfl) (fun b29 => ?_) (fun b29 => ?_)
            ·
              refine awp_sel [1, 3] (by simp only [jN, seval, vint, TyS, TyF, BdS, Int.cast_ofNat_Int] <;> with_reducible rfl) ?_
              repeat (refine awp_seq ?_)
              refine g_eval (by simp only [jG, jO, jN, seval, y3, y29, vint, TyS, TyF, BdS, Int.cast_ofNat_Int] <;> with_reducible rfl) (by decide) (by repeat (first | exact Fin.base _ | with_reducible apply Fin.keep | apply Fin.drop)) ?_
              repeat (refine awp_seq ?_)
              refine awp_ret ⟨.inr rfl, _, rfl, ?_⟩
              simp only [jN, seval, vint, TyS, TyF, BdS]
              simp_all [nwf]
            ·
              refine awp_sel [1, 3, 8] (by simp only [jN, seval, vint, TyS, TyF, BdS, Int.cast_ofNat_Int] <;> with_reducible rfl) ?_
              repeat (refine awp_seq ?_)
              refine e_eval (by simp only [jA, jO, jN, seval, y3, vint, TyS, TyF, BdS, Int.cast_ofNat_Int] <;> with_reducible rfl) (by decide) ?_
              repeat (refine awp_seq ?_)
              refine awp_cond rfl (by simp only [jN, seval, vint, TyS, TyF, BdS, Int.cast_ofNat_Int] <;> with_reducible rfl) (fun b30 => ?_) (fun b30 => ?_)
              ·
                repeat (refine awp_seq ?_)
                refine e_eval (by simp only [jA, jO, jN, seval, y3, y29, vint, TyS, TyF, BdS, Int.cast_ofNat_Int] <;> with_reducible rfl) (by decide) ?_
                repeat (refine awp_seq ?_)
                refine awp_ret ⟨.inr rfl, _, rfl, ?_⟩
                simp only [jN, seval, vint, TyS, TyF, BdS]
                simp_all [nwf]
              ·
                repeat (refine awp_seq ?_)
                refine e_eval (by simp only [jA, jO, jN, seval, y3, vint, TyS, TyF, BdS, Int.cast_ofNat_Int] <;> with_reducible rfl) (by decide) ?_
                repeat (refine awp_seq ?_)
                refine awp_cond rfl (by simp only [jN, seval, vint, TyS, TyF, BdS, Int.cast_ofNat_Int] <;> with_reducible rfl) (fun b31 => ?_) (fun b31 => ?_)
                ·
                  repeat (refine awp_seq ?_)
                  refine g_eval (by simp only [jG, jO, jN, seval, y3, y29, vint, TyS, TyF, BdS, Int.cast_ofNat_Int] <;> with_reducible rfl) (by decide) (by repeat (first | exact Fin.base _ | with_reducible apply Fin.keep | apply Fin.drop)) ?_
                  repeat (refine awp_seq ?_)
                  refine awp_ret ⟨.inr rfl, _, rfl, ?_⟩
                  simp only [jN, seval, vint, TyS, TyF, BdS]
                  simp_all [nwf]
                ·
                  repeat (refine awp_seq ?_)
                  refine e_eval (by simp only [jA, jO, jN, seval, y3, vint, TyS, TyF, BdS, Int.cast_ofNat_Int] <;> with_reducible rfl) (by decide) ?_
                  repeat (refine awp_seq ?_)
                  refine awp_cond rfl (by simp only [jN, seval, vint, TyS, TyF, BdS, Int.cast_ofNat_Int] <;> with_reducible rfl) (fun b32 => ?_) (fun b32 => ?_)
                  ·
                    repeat (refine awp_seq ?_)
                    refine g_eval (by simp only [jG, jO, jN, seval, y3, y29, vint, TyS, TyF, BdS, Int.cast_ofNat_Int] <;> with_reducible rfl) (by decide) (by repeat (first | exact Fin.base _ | with_reducible apply Fin.keep | apply Fin.drop)) ?_
                    repeat (refine awp_seq ?_)
                    refine awp_ret ⟨.inr rfl, _, rfl, ?_⟩
                    simp only [jN, seval, vint, TyS, TyF, BdS]
                    simp_all [nwf]
                  ·
                    repeat (refine awp_seq ?_)
                    refine e_eval (by simp only [jA, jO, jN, seval, y3, vint, TyS, TyF, BdS, Int.cast_ofNat_Int] <;> with_reducible rfl) (by decide) ?_
                    repeat (refine awp_seq ?_)
                    refine awp_cond rfl (by simp only [jN, seval, vint, TyS, TyF, BdS, Int.cast_ofNat_Int] <;> with_reducible rfl) (fun b33 => ?_) (fun b33 => ?_)
                    ·
                      repeat (refine awp_seq ?_)
                      refine g_eval (by simp only [jG, jO, jN, seval, y3, y29, vint, TyS, TyF, BdS, Int.cast_ofNat_Int] <;> with_reducible rfl) (by decide) (by repeat (first | exact Fin.base _ | with_reducible apply Fin.keep | apply Fin.drop)) ?_
                      repeat (refine awp_seq ?_)
                      refine awp_ret ⟨.inr rfl, _, rfl, ?_⟩
                      simp only [jN, seval, vint, TyS, TyF, BdS]
                      simp_all [nwf]
                    ·
                      repeat (refine awp_seq ?_)
                      refine awp_skip ?_
                      repeat (refine awp_seq ?_)
                      refine e_eval (by simp only [jA, jO, jN, seval, vint, TyS, TyF, BdS, Int.cast_ofNat_Int] <;> with_reducible rfl) (by decide) ?_
                      repeat (refine awp_seq ?_)
                      refine awp_ret ⟨.inr rfl, _, rfl, ?_⟩
                      simp only [jN, seval, vint, TyS, TyF, BdS]
                      simp_all [nwf]
          ·
            refine awp_sel [1, 3, 8] (by simp only [jN, seval, vint, TyS, TyF, BdS, Int.cast_ofNat_Int] <;> with_reducible rfl) ?_
            repeat (refine awp_seq ?_)
            refine e_eval (by simp only [jA, jO, jN, seval, y3, vint, TyS, TyF, BdS, Int.cast_ofNat_Int] <;> with_reducible rfl) (by decide) ?_
            repeat (refine awp_seq ?_)
            refine awp_cond rfl (by simp only [jN, seval, vint, TyS, TyF, BdS, Int.cast_ofNat_Int] <;> with_reducible rfl) (fun b34 => ?_) (fun b34 => ?_)
            ·
              repeat (refine awp_seq ?_)
              refine g_eval (by simp only [jG, jO, jN, seval, y3, y29, vint, TyS, TyF, BdS, Int.cast_ofNat_Int] <;> with_reducible rfl) (by decide) (by repeat (first | exact Fin.base _ | with_reducible apply Fin.keep | apply Fin.drop)) ?_
              repeat (refine awp_seq ?_)
              refine awp_ret ⟨.inr rfl, _, rfl, ?_⟩
              simp only [jN, seval, vint, TyS, TyF, BdS]
              simp_all [nwf]
            ·
              repeat (refine awp_seq ?_)
              refine e_eval (by simp only [jA, jO, jN, seval, y3, vint, TyS, TyF, BdS, Int.cast_ofNat_Int] <;> with_reducible rfl) (by decide) ?_
              repeat (refine awp_seq ?_)
              refine awp_cond rfl (by simp only [jN, seval, vint, TyS, TyF, BdS, Int.cast_ofNat_Int] <;> with_reducible rfl) (fun b35 => ?_) (fun b35 => ?_)
              ·
                repeat (refine awp_seq ?_)
                refine e_eval (by simp only [jA, jO, jN, seval, y3, y29, vint, TyS, TyF, BdS, Int.cast_ofNat_Int] <;> with_reducible rfl) (by decide) ?_
                repeat (refine awp_seq ?_)
                refine awp_ret ⟨.inr rfl, _, rfl, ?_⟩
                simp only [jN, seval, vint, TyS, TyF, BdS]
                simp_all [nwf]
              ·
                repeat (refine awp_seq ?_)
                refine e_eval (by simp only [jA, jO, jN, seval, y3, vint, TyS, TyF, BdS, Int.cast_ofNat_Int] <;> with_reducible rfl) (by decide) ?_
                repeat (refine awp_seq ?_)
                refine awp_cond rfl (by simp only [jN, seval, vint, TyS, TyF, BdS, Int.cast_ofNat_Int] <;> with_reducible rfl) (fun b36 => ?_) (fun b36 => ?_)
                ·
                  repeat (refine awp_seq ?_)
                  refine g_eval (by simp only [jG, jO, jN, seval, y3, y29, vint, TyS, TyF, BdS, Int.cast_ofNat_Int] <;> with_reducible rfl) (by decide) (by repeat (first | exact Fin.base _ | with_reducible apply Fin.keep | apply Fin.drop)) ?_
                  repeat (refine awp_seq ?_)
                  refine awp_ret ⟨.inr rfl, _, rfl, ?_⟩
                  simp only [jN, seval, vint, TyS, TyF, BdS]
                  simp_all [nwf]
                ·
                  repeat (refine awp_seq ?_)
                  refine e_eval (by simp only [jA, jO, jN, seval, y3, vint, TyS, TyF, BdS, Int.cast_ofNat_Int] <;> with_reducible rfl) (by decide) ?_
                  repeat (refine awp_seq ?_)
                  refine awp_cond rfl (by simp only [jN, seval, vint, TyS, TyF, BdS, Int.cast_ofNat_Int] <;> with_reducible rfl) (fun b37 => ?_) (fun b37 => ?_)
                  ·
                    repeat (refine awp_seq ?_)
                    refine g_eval (by simp only [jG, jO, jN, seval, y3, y29, vint, TyS, TyF, BdS, Int.cast_ofNat_Int] <;> with_reducible rfl) (by decide) (by repeat (first | exact Fin.base _ | with_reducible apply Fin.keep | apply Fin.drop)) ?_
                    repeat (refine awp_seq ?_)
                    refine awp_ret ⟨.inr rfl, _, rfl, ?_⟩
                    simp only [jN, seval, vint, TyS, TyF, BdS]
                    simp_all [nwf]
                  ·
                    repeat (refine awp_seq ?_)
                    refine e_eval (by simp only [jA, jO, jN, seval, y3, vint, TyS, TyF, BdS, Int.cast_ofNat_Int] <;> with_reducible rfl) (by decide) ?_
                    repeat (refine awp_seq ?_)
                    refine awp_cond rfl (by simp only [jN, seval, vint, TyS, TyF, BdS, Int.cast_ofNat_Int] <;> with_reducible rfl) (fun b38 => ?_) (fun b38 => ?_)
                    ·
                      repeat (refine awp_seq ?_)
                      refine g_eval (by simp only [jG, jO, jN, seval, y3, y29, vint, TyS, TyF, BdS, Int.cast_ofNat_Int] <;> with_reducible rfl) (by decide) (by repeat (first | exact Fin.base _ | with_reducible apply Fin.keep | apply Fin.drop)) ?_
                      repeat (refine awp_seq ?_)
                      refine awp_ret ⟨.inr rfl, _, rfl, ?_⟩
                      simp only [jN, seval, vint, TyS, TyF, BdS]
                      simp_all [nwf]
                    ·
                      repeat (refine awp_seq ?_)
                      refine awp_skip ?_
                      repeat (refine awp_seq ?_)
                      refine e_eval (by simp only [jA, jO, jN, seval, vint, TyS, TyF, BdS, Int.cast_ofNat_Int] <;> with_reducible rfl) (by decide) ?_
                      repeat (refine awp_seq ?_)
                      refine awp_ret ⟨.inr rfl, _, rfl, ?_⟩
                      simp only [jN, seval, vint, TyS, TyF, BdS]
                      simp_all [nwf]
      ·
        repeat (refine awp_seq ?_)
        refine e_eval (by simp only [jA, jO, jN, seval, y3, vint, TyS, TyF, BdS, Int.cast_ofNat_Int] <;> with_reducible rfl) (by decide) ?_
        repeat (refine awp_seq ?_)
        refine awp_cond rfl (by simp only [jN, seval, vint, TyS, TyF, BdS, Int.cast_ofNat_Int] <;> with_reducible rfl) (fun b39 => ?_) (fun b39 => ?_)
        ·
          repeat (refine awp_seq ?_)
          refine awp_skip ?_
          repeat (refine awp_seq ?_)
          refine awp_cond rfl (by simp only [jN, seval, vint, TyS, TyF, BdS, Int.cast_ofNat_Int] <;> with_reducible rfl) (fun b40 => ?_) (fun b40 => ?_)
          ·
            refine awp_sel [1, 3] (by simp only [jN, seval, vint, TyS, TyF, BdS, Int.cast_ofNat_Int] <;> with_reducible rfl) ?_
            repeat (refine awp_seq ?_)
            refine g_eval (by simp only [jG, jO, jN, seval, y3, y29, vint, TyS, TyF, BdS, Int.cast_ofNat_Int] <;> with_reducible rfl) (by decide) (by repeat (first | exact Fin.base _ | with_reducible apply Fin.keep | apply Fin.drop)) ?_
            repeat (refine awp_seq ?_)
            refine awp_ret ⟨.inr rfl, _, rfl, ?_⟩
            simp only [jN, seval, vint, TyS, TyF, BdS]
            simp_all [nwf]
          ·
            refine awp_sel [1, 3, 8] (by simp only [jN, seval, vint, TyS, TyF, BdS, Int.cast_ofNat_Int] <;> with_reducible rfl) ?_
            repeat (refine awp_seq ?_)
            refine e_eval (by simp only [jA, jO, jN, seval, y3, vint, TyS, TyF, BdS, Int.cast_ofNat_Int] <;> with_reducible rfl) (by decide) ?_
            repeat (refine awp_seq ?_)
            refine awp_cond rfl (by simp only [jN, seval, vint, TyS, TyF, BdS, Int.cast_ofNat_Int] <;> with_reducible rfl) (fun b41 => ?_) (fun b41 => ?_)
            ·
              repeat (refine awp_seq ?_)
              refine awp_skip ?_
              repeat (refine awp_seq ?_)
              refine awp_cond rfl (by simp only [jN, seval, vint, TyS, TyF, BdS, Int.cast_ofNat_Int] <;> with_reducible rfl) (fun b42 => ?_) (fun b42 => ?_)
              ·
                repeat (refine awp_seq ?_)
                refine g_eval (by simp only [jG, jO, jN, seval, y3, y29, vint, TyS, TyF, BdS, Int.cast_ofNat_Int] <;> with_reducible rfl) (by decide) (by repeat (first | exact Fin.base _ | with_reducible apply Fin.keep | apply Fin.drop)) ?_
                repeat (refine awp_seq ?_)
                refine awp_ret ⟨.inr rfl, _, rfl, ?_⟩
                simp only [jN, seval, vint, TyS, TyF, BdS]
                simp_all [nwf]
              ·
                repeat (refine awp_seq ?_)
                refine e_eval (by simp only [jA, jO, jN, seval, y3, vint, TyS, TyF, BdS, Int.cast_ofNat_Int] <;> with_reducible rfl) (by decide) ?_
                repeat (refine awp_seq ?_)
                refine awp_cond rfl (by simp only [jN, seval, vint, TyS, TyF, BdS, Int.cast_ofNat_Int] <;> with_reducible rfl) (fun b43 => ?_) (fun b43 => ?_)
                ·
                  repeat (refine awp_seq ?_)
                  refine e_eval (by simp only [jA, jO, jN, seval, y3, y29, vint, TyS, TyF, BdS, Int.cast_ofNat_Int] <;> with_reducible rfl) (by decide) ?_
                  repeat (refine awp_seq ?_)
                  refine awp_ret ⟨.inr rfl, _, rfl, ?_⟩
                  simp only [jN, seval, vint, TyS, TyF, BdS]
                  simp_all [nwf]
                ·
                  repeat (refine awp_seq ?_)
                  refine e_eval (by simp only [jA, jO, jN, seval, y3, vint, TyS, TyF, BdS, Int.cast_ofNat_Int] <;> with_reducible rfl) (by decide) ?_
                  repeat (refine awp_seq ?_)
                  refine awp_cond rfl (by simp only [jN, seval, vint, TyS, TyF, BdS, Int.cast_ofNat_Int] <;> with_reducible rfl) (fun b44 => ?_) (fun b44 => ?_)
                  ·
                    repeat (refine awp_seq ?_)
                    refine g_eval (by simp only [jG, jO, jN, seval, y3, y29, vint, TyS, TyF, BdS, Int.cast_ofNat_Int] <;> with_reducible rfl) (by decide) (by repeat (first | exact Fin.base _ | with_reducible apply Fin.keep | apply Fin.drop)) ?_
                    repeat (refine awp_seq ?_)
                    refine awp_ret ⟨.inr rfl, _, rfl, ?_⟩
                    simp only [jN, seval, vint, TyS, TyF, BdS]
                    simp_all [nwf]
                  ·
                    repeat (refine awp_seq ?_)
                    refine e_eval (by simp only [jA, jO, jN, seval, y3, vint, TyS, TyF, BdS, Int.cast_ofNat_Int] <;> with_reducible rfl) (by decide) ?_
                    repeat (refine awp_seq ?_)
                    refine awp_cond rfl (by simp only [jN, seval, vint, TyS, TyF, BdS, Int.cast_ofNat_Int] <;> with_reducible rfl) (fun b45 => ?_) (fun b45 => ?_)
                    ·
                      repeat (refine awp_seq ?_)
                      refine g_eval (by simp only [jG, jO, jN, seval, y3, y29, vint, TyS, TyF, BdS, Int.cast_ofNat_Int] <;> with_reducible rfl) (by decide) (by repeat (first | exact Fin.base _ | with_reducible apply Fin.keep | apply Fin.drop)) ?_
                      repeat (refine awp_seq ?_)
                      refine awp_ret ⟨.inr rfl, _, rfl, ?_⟩
                      simp only [jN, seval, vint, TyS, TyF, BdS]
                      simp_all [nwf]
                    ·
                      repeat (refine awp_seq ?_)
                      refine e_eval (by simp only [jA, jO, jN, seval, y3, vint, TyS, TyF, BdS, Int.cast_ofNat_Int] <;> with_reducible rfl) (by decide) ?_
                      repeat (refine awp_seq ?_)
                      refine awp_cond rfl (by simp only [jN, seval, vint, TyS, TyF, BdS, Int.cast_ofNat_Int] <;> with_reducible rfl) (fun b46 => ?_) (fun b46 => ?_)
                      ·
                        repeat (refine awp_seq ?_)
                        refine g_eval (by simp only [jG, jO, jN, seval, y3, y29, vint, TyS, TyF, BdS, Int.cast_ofNat_Int] <;> with_reducible rfl) (by decide) (by repeat (first | exact Fin.base _ | with_reducible apply Fin.keep | apply Fin.drop)) ?_
                        repeat (refine awp_seq ?_)
                        refine awp_ret ⟨.inr rfl, _, rfl, ?_⟩
                        simp only [jN, seval, vint, TyS, TyF, BdS]
                        simp_all [nwf]
                      ·
                        repeat (refine awp_seq ?_)
                        refine awp_skip ?_
                        repeat (refine awp_seq ?_)
                        refine e_eval (by simp only [jA, jO, jN, seval, vint, TyS, TyF, BdS, Int.cast_ofNat_Int] <;> with_reducible rfl) (by decide) ?_
                        repeat (refine awp_seq ?_)
                        refine awp_ret ⟨.inr rfl, _, rfl, ?_⟩
                        simp only [jN, seval, vint, TyS, TyF, BdS]
                        simp_all [nwf]
            ·
              repeat (refine awp_seq ?_)
              refine e_eval (by simp only [jA, jO, jN, seval, y3, vint, TyS, TyF, BdS, Int.cast_ofNat_Int] <;> with_reducible rfl) (by decide) ?_
              repeat (refine awp_seq ?_)
              refine awp_cond rfl (by simp only [jN, seval, vint, TyS, TyF, BdS, Int.cast_ofNat_Int] <;> with_reducible rfl) (fun b47 => ?_) (fun b47 => ?_)
              ·
                repeat (refine awp_seq ?_)
                refine g_eval (by simp only [jG, jO, jN, seval, y3, y29, vint, TyS, TyF, BdS, Int.cast_ofNat_Int] <;> with_reducible rfl) (by decide) (by repeat (first | exact Fin.base _ | with_reducible apply Fin.keep | apply Fin.drop)) ?_
                repeat (refine awp_seq ?_)
                refine awp_ret ⟨.inr rfl, _, rfl, ?_⟩
                simp only [jN, seval, vint, TyS, TyF, BdS]
                simp_all [nwf]
              ·
                repeat (refine awp_seq ?_)
                refine e_eval (by simp only [jA, jO, jN, seval, y3, vint, TyS, TyF, BdS, Int.cast_ofNat_Int] <;> with_reducible rfl) (by decide) ?_
                repeat (refine awp_seq ?_)
                refine awp_cond rfl (by simp only [jN, seval, vint, TyS, TyF, BdS, Int.cast_ofNat_Int] <;> with_reducible rfl) (fun b48 => ?_) (fun b48 => ?_)
                ·
                  repeat (refine awp_seq ?_)
                  refine e_eval (by simp only [jA, jO, jN, seval, y3, y29, vint, TyS, TyF, BdS, Int.cast_ofNat_Int] <;> with_reducible rfl) (by decide) ?_
                  repeat (refine awp_seq ?_)
                  refine awp_ret ⟨.inr rfl, _, rfl, ?_⟩
                  simp only [jN, seval, vint, TyS, TyF, BdS]
                  simp_all [nwf]
                ·
                  repeat (refine awp_seq ?_)
                  refine e_eval (by simp only [jA, jO, jN, seval, y3, vint, TyS, TyF, BdS, Int.cast_ofNat_Int] <;> with_reducible rfl) (by decide) ?_
                  repeat (refine awp_seq ?_)
                  refine awp_cond rfl (by simp only [jN, seval, vint, TyS, TyF, BdS, Int.cast_ofNat_Int] <;> with_reducible rfl) (fun b49 => ?_) (fun b49 => ?_)
                  ·
                    repeat (refine awp_seq ?_)
                    refine g_eval (by simp only [jG, jO, jN, seval, y3, y29, vint, TyS, TyF, BdS, Int.cast_ofNat_Int] <;> with_reducible rfl) (by decide) (by repeat (first | exact Fin.base _ | with_reducible apply Fin.keep | apply Fin.drop)) ?_
                    repeat (refine awp_seq ?_)
                    refine awp_ret ⟨.inr rfl, _, rfl, ?_⟩
                    simp only [jN, seval, vint, TyS, TyF, BdS]
                    simp_all [nwf]
                  ·
                    repeat (refine awp_seq ?_)
                    refine e_eval (by simp only [jA, jO, jN, seval, y3, vint, TyS, TyF, BdS, Int.cast_ofNat_Int] <;> with_reducible rfl) (by decide) ?_
                    repeat (refine awp_seq ?_)
                    refine awp_cond rfl (by simp only [jN, seval, vint, TyS, TyF, BdS, Int.cast_ofNat_Int] <;> with_reducible rfl) (fun b50 => ?_) (fun b50 => ?_)
                    ·
                      repeat (refine awp_seq ?_)
                      refine g_eval (by simp only [jG, jO, jN, seval, y3, y29, vint, TyS, TyF, BdS, Int.cast_ofNat_Int] <;> with_reducible rfl) (by decide) (by repeat (first | exact Fin.base _ | with_reducible apply Fin.keep | apply Fin.drop)) ?_
                      repeat (refine awp_seq ?_)
                      refine awp_ret ⟨.inr rfl, _, rfl, ?_⟩
                      simp only [jN, seval, vint, TyS, TyF, BdS]
                      simp_all [nwf]
                    ·
                      repeat (refine awp_seq ?_)
                      refine e_eval (by simp only [jA, jO, jN, seval, y3, vint, TyS, TyF, BdS, Int.cast_ofNat_Int] <;> with_reducible rfl) (by decide) ?_
                      repeat (refine awp_seq ?_)
                      refine awp_cond rfl (by simp only [jN, seval, vint, TyS, TyF, BdS, Int.cast_ofNat_Int] <;> with_reducible rfl) (fun b51 => ?_) (fun b51 => ?_)
                      ·
                        repeat (refine awp_seq ?_)
                        refine g_eval (by simp only [jG, jO, jN, seval, y3, y29, vint, TyS, TyF, BdS, Int.cast_ofNat_Int] <;> with_reducible rfl) (by decide) (by repeat (first | exact Fin.base _ | with_reducible apply Fin.keep | apply Fin.drop)) ?_
                        repeat (refine awp_seq ?_)
                        refine awp_ret ⟨.inr rfl, _, rfl, ?_⟩
                        simp only [jN, seval, vint, TyS, TyF, BdS]
                        simp_all [nwf]
                      ·
                        repeat (refine awp_seq ?_)
                        refine awp_skip ?_
                        repeat (refine awp_seq ?_)
                        refine e_eval (by simp only [jA, jO, jN, seval, vint, TyS, TyF, BdS, Int.cast_ofNat_Int] <;> with_reducible rfl) (by decide) ?_
                        repeat (refine awp_seq ?_)
                        refine awp_ret ⟨.inr rfl, _, rfl, ?_⟩
                        simp only [jN, seval, vint, TyS, TyF, BdS]
                        simp_all [nwf]
        ·
          refine awp_sel [1, 3, 8] (by simp only [jN, seval, vint, TyS, TyF, BdS, Int.cast_ofNat_Int] <;> with_reducible rfl) ?_
          repeat (refine awp_seq ?_)
          refine e_eval (by simp only [jA, jO, jN, seval, y3, vint, TyS, TyF, BdS, Int.cast_ofNat_Int] <;> with_reducible rfl) (by decide) ?_
          repeat (refine awp_seq ?_)
          refine awp_cond rfl (by simp only [jN, seval, vint, TyS, TyF, BdS, Int.cast_ofNat_Int] <;> with_reducible rfl) (fun b52 => ?_) (fun b52 => ?_)
          ·
            repeat (refine awp_seq ?_)
            refine g_eval (by simp only [jG, jO, jN, seval, y3, y29, vint, TyS, TyF, BdS, Int.cast_ofNat_Int] <;> with_reducible rfl) (by decide) (by repeat (first | exact Fin.base _ | with_reducible apply Fin.keep | apply Fin.drop)) ?_
            repeat (refine awp_seq ?_)
            refine awp_ret ⟨.inr rfl, _, rfl, ?_⟩
            simp only [jN, seval, vint, TyS, TyF, BdS]
            simp_all [nwf]
          ·
            repeat (refine awp_seq ?_)
            refine e_eval (by simp only [jA, jO, jN, seval, y3, vint, TyS, TyF, BdS, Int.cast_ofNat_Int] <;> with_reducible rfl) (by decide) ?_
            repeat (refine awp_seq ?_)
            refine awp_cond rfl (by simp only [jN, seval, vint, TyS, TyF, BdS, Int.cast_ofNat_Int] <;> with_reducible rfl) (fun b53 => ?_) (fun b53 => ?_)
            ·
              repeat (refine awp_seq ?_)
              refine awp_skip ?_
              repeat (refine awp_seq ?_)
              refine awp_cond rfl (by simp only [jN, seval, vint, TyS, TyF, BdS, Int.cast_ofNat_Int] <;> with_reducible rfl) (fun b54 => ?_) (fun b54 => ?_)
              ·
                repeat (refine awp_seq ?_)
                refine g_eval (by simp only [jG, jO, jN, seval, y3, y29, vint, TyS, TyF, BdS, Int.cast_ofNat_Int] <;> with_reducible rfl) (by decide) (by repeat (first | exact Fin.base _ | with_reducible apply Fin.keep | apply Fin.drop)) ?_
                repeat (refine awp_seq ?_)
                refine awp_ret ⟨.inr rfl, _, rfl, ?_⟩
                simp only [jN, seval, vint, TyS, TyF, BdS]
                simp_all [nwf]
              ·
                repeat (refine awp_seq ?_)
                refine e_eval (by simp only [jA, jO, jN, seval, y3, vint, TyS, TyF, BdS, Int.cast_ofNat_Int] <;> with_reducible rfl) (by decide) ?_
                repeat (refine awp_seq ?_)
                refine awp_cond rfl (by simp only [jN, seval, vint, TyS, TyF, BdS, Int.cast_ofNat_Int] <;> with_reducible rfl) (fun b55 => ?_) (fun b55 => ?_)
                ·
                  repeat (refine awp_seq ?_)
                  refine e_eval (by simp only [jA, jO, jN, seval, y3, y29, vint, TyS, TyF, BdS, Int.cast_ofNat_Int] <;> with_reducible rfl) (by decide) ?_
                  repeat (refine awp_seq ?_)
                  refine awp_ret ⟨.inr rfl, _, rfl, ?_⟩
                  simp only [jN, seval, vint, TyS, TyF, BdS]
                  simp_all [nwf]
                ·
                  repeat (refine awp_seq ?_)
                  refine e_eval (by simp only [jA, jO, jN, seval, y3, vint, TyS, TyF, BdS, Int.cast_ofNat_Int] <;> with_reducible rfl) (by decide) ?_
                  repeat (refine awp_seq ?_)
                  refine awp_cond rfl (by simp only [jN, seval, vint, TyS, TyF, BdS, Int.cast_ofNat_Int] <;> with_reducible rfl) (fun b56 => ?_) (fun b56 => ?_)
                  ·
                    repeat (refine awp_seq ?_)
                    refine g_eval (by simp only [jG, jO, jN, seval, y3, y29, vint, TyS, TyF, BdS, Int.cast_ofNat_Int] <;> with_reducible rfl) (by decide) (by repeat (first | exact Fin.base _ | with_reducible apply Fin.keep | apply Fin.drop)) ?_
                    repeat (refine awp_seq ?_)
                    refine awp_ret ⟨.inr rfl, _, rfl, ?_⟩
                    simp only [jN, seval, vint, TyS, TyF, BdS]
                    simp_all [nwf]
                  ·
                    repeat (refine awp_seq ?_)
                    refine e_eval (by simp only [jA, jO, jN, seval, y3, vint, TyS, TyF, BdS, Int.cast_ofNat_Int] <;> with_reducible rfl) (by decide) ?_
                    repeat (refine awp_seq ?_)
                    refine awp_cond rfl (by simp only [jN, seval, vint, TyS, TyF, BdS, Int.cast_ofNat_Int] <;> with_reducible rfl) (fun b57 => ?_) (fun b57 => ?_)
                    ·
                      repeat (refine awp_seq ?_)
                      refine g_eval (by simp only [jG, jO, jN, seval, y3, y29, vint, TyS, TyF, BdS, Int.cast_ofNat_Int] <;> with_reducible rfl) (by decide) (by repeat (first | exact Fin.base _ | with_reducible apply Fin.keep | apply Fin.drop)) ?_
                      repeat (refine awp_seq ?_)
                      refine awp_ret ⟨.inr rfl, _, rfl, ?_⟩
                      simp only [jN, seval, vint, TyS, TyF, BdS]
                      simp_all [nwf]
                    ·
                      repeat (refine awp_seq ?_)
                      refine e_eval (by simp only [jA, jO, jN, seval, y3, vint, TyS, TyF, BdS, Int.cast_ofNat_Int] <;> with_reducible rfl) (by decide) ?_
                      repeat (refine awp_seq ?_)
                      refine awp_cond rfl (by simp only [jN, seval, vint, TyS, TyF, BdS, Int.cast_ofNat_Int] <;> with_reducible rfl) (fun b58 => ?_) (fun b58 => ?_)
                      ·
                        repeat (refine awp_seq ?_)
                        refine g_eval (by simp only [jG, jO, jN, seval, y3, y29, vint, TyS, TyF, BdS, Int.cast_ofNat_Int] <;> with_reducible rfl) (by decide) (by repeat (first | exact Fin.base _ | with_reducible apply Fin.keep | apply Fin.drop)) ?_
                        repeat (refine awp_seq ?_)
                        refine awp_ret ⟨.inr rfl, _, rfl, ?_⟩
                        simp only [jN, seval, vint, TyS, TyF, BdS]
                        simp_all [nwf]
                      ·
                        repeat (refine awp_seq ?_)
                        refine awp_skip ?_
                        repeat (refine awp_seq ?_)
                        refine e_eval (by simp only [jA, jO, jN, seval, vint, TyS, TyF, BdS, Int.cast_ofNat_Int] <;> with_reducible rfl) (by decide) ?_
                        repeat (refine awp_seq ?_)
                        refine awp_ret ⟨.inr rfl, _, rfl, ?_⟩
                        simp only [jN, seval, vint, TyS, TyF, BdS]
                        simp_all [nwf]
            ·
              repeat (refine awp_seq ?_)
              refine e_eval (by simp only [jA, jO, jN, seval, y3, vint, TyS, TyF, BdS, Int.cast_ofNat_Int] <;> with_reducible rfl) (by decide) ?_
              repeat (refine awp_seq ?_)
              refine awp_cond rfl (by simp only [jN, seval, vint, TyS, TyF, BdS, Int.cast_ofNat_Int] <;> with_reducible rfl) (fun b59 => ?_) (fun b59 => ?_)
              ·
                repeat (refine awp_seq ?_)
                refine g_eval (by simp only [jG, jO, jN, seval, y3, y29, vint, TyS, TyF, BdS, Int.cast_ofNat_Int] <;> with_reducible rfl) (by decide) (by repeat (first | exact Fin.base _ | with_reducible apply Fin.keep | apply Fin.drop)) ?_
                repeat (refine awp_seq ?_)
                refine awp_ret ⟨.inr rfl, _, rfl, ?_⟩
                simp only [jN, seval, vint, TyS, TyF, BdS]
                simp_all [nwf]
              ·
                repeat (refine awp_seq ?_)
                refine e_eval (by simp only [jA, jO, jN, seval, y3, vint, TyS, TyF, BdS, Int.cast_ofNat_Int] <;> with_reducible rfl) (by decide) ?_
                repeat (refine awp_seq ?_)
                refine awp_cond rfl (by simp only [jN, seval, vint, TyS, TyF, BdS, Int.cast_ofNat_Int] <;> with_reducible rfl) (fun b60 => ?_) (fun b60 => ?_)
                ·
                  repeat (refine awp_seq ?_)
                  refine e_eval (by simp only [jA, jO, jN, seval, y3, y29, vint, TyS, TyF, BdS, Int.cast_ofNat_Int] <;> with_reducible rfl) (by decide) ?_
                  repeat (refine awp_seq ?_)
                  refine awp_ret ⟨.inr rfl, _, rfl, ?_⟩
                  simp only [jN, seval, vint, TyS, TyF, BdS]
                  simp_all [nwf]
                ·
                  repeat (refine awp_seq ?_)
                  refine e_eval (by simp only [jA, jO, jN, seval, y3, vint, TyS, TyF, BdS, Int.cast_ofNat_Int] <;> with_reducible rfl) (by decide) ?_
                  repeat (refine awp_seq ?_)
                  refine awp_cond rfl (by simp only [jN, seval, vint, TyS, TyF, BdS, Int.cast_ofNat_Int] <;> with_reducible rfl) (fun b61 => ?_) (fun b61 => ?_)
                  ·
                    repeat (refine awp_seq ?_)
                    refine g_eval (by simp only [jG, jO, jN, seval, y3, y29, vint, TyS, TyF, BdS, Int.cast_ofNat_Int] <;> with_reducible rfl) (by decide) (by repeat (first | exact Fin.base _ | with_reducible apply Fin.keep | apply Fin.drop)) ?_
                    repeat (refine awp_seq ?_)
                    refine awp_ret ⟨.inr rfl, _, rfl, ?_⟩
                    simp only [jN, seval, vint, TyS, TyF, BdS]
                    simp_all [nwf]
                  ·
                    repeat (refine awp_seq ?_)
                    refine e_eval (by simp only [jA, jO, jN, seval, y3, vint, TyS, TyF, BdS, Int.cast_ofNat_Int] <;> with_reducible rfl) (by decide) ?_
                    repeat (refine awp_seq ?_)
                    refine awp_cond rfl (by simp only [jN, seval, vint, TyS, TyF, BdS, Int.cast_ofNat_Int] <;> with_reducible rfl) (fun b62 => ?_) (fun b62 => ?_)
                    ·
                      repeat (refine awp_seq ?_)
                      refine g_eval (by simp only [jG, jO, jN, seval, y3, y29, vint, TyS, TyF, BdS, Int.cast_ofNat_Int] <;> with_reducible rfl) (by decide) (by repeat (first | exact Fin.base _ | with_reducible apply Fin.keep | apply Fin.drop)) ?_
                      repeat (refine awp_seq ?_)
                      refine awp_ret ⟨.inr rfl, _, rfl, ?_⟩
                      simp only [jN, seval, vint, TyS, TyF, BdS]
                      simp_all [nwf]
                    ·
                      repeat (refine awp_seq ?_)
                      refine e_eval (by simp only [jA, jO, jN, seval, y3, vint, TyS, TyF, BdS, Int.cast_ofNat_Int] <;> with_reducible rfl) (by decide) ?_
                      repeat (refine awp_seq ?_)
                      refine awp_cond rfl (by simp only [jN, seval, vint, TyS, TyF, BdS, Int.cast_ofNat_Int] <;> with_reducible rfl) (fun b63 => ?_) (fun b63 => ?_)
                      ·
                        repeat (refine awp_seq ?_)
                        refine g_eval (by simp only [jG, jO, jN, seval, y3, y29, vint, TyS, TyF, BdS, Int.cast_ofNat_Int] <;> with_reducible rfl) (by decide) (by repeat (first | exact Fin.base _ | with_reducible apply Fin.keep | apply Fin.drop)) ?_
                        repeat (refine awp_seq ?_)
                        refine awp_ret ⟨.inr rfl, _, rfl, ?_⟩
                        simp only [jN, seval, vint, TyS, TyF, BdS]
                        simp_all [nwf]
                      ·
                        repeat (refine awp_seq ?_)
                        refine awp_skip ?_
                        repeat (refine awp_seq ?_)
                        refine e_eval (by simp only [jA, jO, jN, seval, vint, TyS, TyF, BdS, Int.cast_ofNat_Int] <;> with_reducible rfl) (by decide) ?_
                        repeat (refine awp_seq ?_)
                        refine awp_ret ⟨.inr rfl, _, rfl, ?_⟩
                        simp only [jN, seval, vint, TyS, TyF, BdS]
                        simp_all [nwf]

theorem wellFormed1 (H : Heap) (u : Ty) (b : Bool) (ih : PC Try.prog 57 [u.enc] (.bool b)) : ACalls Try.prog 71 [u.enc] H fun r' H' => r' = .bool (!b) ∧ H' = H := by
  refine keeps_of (N := 6) Try.func71 rfl rfl (by simp) (.bool _) fun hb' => ?_
  repeat (refine awp_seq ?_)
  refine e_eval (by simp only [jA, jO, jN, seval, y29, vint, TyS, TyF, BdS] <;> with_reducible rfl) (by decide) ?_
  repeat (refine awp_seq ?_)
  refine awp_region ?_
  refine e_take 1 (by simp only [jA, jO, jN, seval, y29, vint, TyS, TyF, BdS] <;> with_reducible rfl) (by decide) ?_
  refine aops_pure (by simp only [jC, jN, seval, vint, TyS, TyF, BdS] <;> with_reducible rfl) (by simp only [jC, jN, seval, vint, TyS, TyF, BdS]) (by decide) Trygo57 (ih _) ?_
  refine e_end (by simp only [jA, jO, jN, seval, vint, TyS, TyF, BdS] <;> with_reducible rfl) (by decide) ?_
  repeat (refine awp_seq ?_)
  refine awp_ret ⟨.inr rfl, _, _, rfl, ?_, (by first | exact (List.append_nil _).symm | rfl)⟩
  simp only [jN, seval, vint, TyS, TyF, BdS]

theorem wellFormed_k : ∀ (k : Nat) (t : Ty), t.size ≤ k → t.W → PC Try.prog 57 [t.enc] (.bool (wfT t))
  | 0, t, h, _ => by cases t; simp [Ty.size] at h
  | k + 1, t, h, hw => by
    refine pc_of (N := 11) Try.func57 rfl rfl (by simp) (by simp [Ty.bel]) (.bool _) ?_
    repeat (refine awp_seq ?_)
    refine e_eval (by simp only [jA, jO, jN, seval, y29, vint, TyS, TyF, BdS] <;> with_reducible rfl) (by decide) ?_
    repeat (refine awp_seq ?_)
    refine awp_region ?_
    refine aops_gstart ?_
    refine g_take 1 (by simp only [jG, jO, jN, seval, y29, vint, TyS, TyF, BdS] <;> with_reducible rfl) (by decide) ?_
    refine aops_gpure (by simp only [jE, jN, seval, vint, TyS, TyF, BdS] <;> with_reducible rfl) (by simp only [jE, jN, seval, vint, TyS, TyF, BdS] <;> with_reducible rfl) (by simp only [jE, jN, seval, vint, TyS, TyF, BdS]) (by decide) Trygo70 (fun hc => nodeWellFormed t _) ?_
    refine g_take 3 (by simp only [jG, jO, jN, seval, y27, y29, vint, TyS, TyF, BdS] <;> with_reducible rfl) (by decide) ?_
    refine aops_gpure (by simp only [jE, jN, seval, vint, TyS, TyF, BdS] <;> with_reducible rfl) (by simp only [jE, jN, seval, vint, TyS, TyF, BdS] <;> with_reducible rfl) (by simp only [jE, jN, seval, vint, TyS, TyF, BdS]) (by decide) Trygo68 (fun hc => containsFuncTy (p := fun u => !wfT u) ⟨Trygo71, by simp, fun u hu => wellFormed1 _ u _ (wellFormed_k k u (by have := Ty.size_arg hu; omega) (hw.arg hu))⟩ hw.lenMax) ?_
    refine g_end (by simp only [jG, jO, jN, seval, vint, TyS, TyF, BdS] <;> with_reducible rfl) (by decide) (by repeat (first | exact Fin.base _ | with_reducible apply Fin.keep | apply Fin.drop)) ?_
    repeat (refine awp_seq ?_)
    refine awp_ret ⟨.inr rfl, _, rfl, ?_⟩
    simp only [jN, seval, vint, TyS, TyF, BdS]
    rw [wfT_eq]

theorem wellFormed_c (t : Ty) (hw : t.W) : PC Try.prog 57 [t.enc] (.bool (wfT t)) := wellFormed_k t.size t (Nat.le_refl _) hw

theorem validate (t : Ty) (hw : t.W) : PC Try.prog 21 [t.enc] (vint (valT t)) := by
  refine pc_of (N := 19) Try.func21 rfl rfl (by simp) (by simp [Ty.bel]) (.int _ _) ?_
  repeat (refine awp_seq ?_)
  refine e_eval (by simp only [jA, jO, jN, seval, y29, vint, TyS, TyF, BdS] <;> with_reducible rfl) (by decide) ?_
  repeat (refine awp_seq ?_)
  refine awp_region ?_
  refine e_take 1 (by simp only [jA, jO, jN, seval, y29, vint, TyS, TyF, BdS] <;> with_reducible rfl) (by decide) ?_
  refine aops_pure (by simp only [jC, jN, seval, vint, TyS, TyF, BdS] <;> with_reducible rfl) (by simp only [jC, jN, seval, vint, TyS, TyF, BdS]) (by decide) Trygo56 (measure_k t.size t 100 (Nat.le_refl _) hw (by decide) (by decide) _) ?_
  refine e_end (by simp only [jA, jO, jN, seval, vint, TyS, TyF, BdS] <;> with_reducible rfl) (by decide) ?_
  repeat (refine awp_seq ?_)
  refine g_eval (by simp only [jG, jO, jN, seval, y3, vint, TyS, TyF, BdS] <;> with_reducible rfl) (by decide) (by repeat (first | exact Fin.base _ | with_reducible apply Fin.keep | apply Fin.drop)) ?_
  repeat (refine awp_seq ?_)
  refine awp_cond rfl (by simp only [jN, seval, vint, TyS, TyF, BdS] <;> with_reducible rfl) (fun b0 => ?_) (fun b0 => ?_)
  ·
    refine awp_sel [] (by simp only [jN, seval, vint, TyS, TyF, BdS] <;> with_reducible rfl) ?_
    repeat (refine awp_seq ?_)
    refine e_eval (by simp only [jA, jO, jN, seval, vint, TyS, TyF, BdS] <;> with_reducible rfl) (by decide) ?_
    repeat (refine awp_seq ?_)
    refine awp_ret ⟨.inr rfl, _, rfl, ?_⟩
    simp only [jN, seval, vint, TyS, TyF, BdS]
    simp_all [valT]
  ·
    repeat (refine awp_seq ?_)
    refine awp_skip ?_
    refine awp_sel [1] (by simp only [jN, seval, vint, TyS, TyF, BdS] <;> with_reducible rfl) ?_
    repeat (refine awp_seq ?_)
    refine awp_region ?_
    refine e_take 1 (by simp only [jA, jO, jN, seval, y29, vint, TyS, TyF, BdS] <;> with_reducible rfl) (by decide) ?_
    refine aops_pure (by simp only [jC, jN, seval, vint, TyS, TyF, BdS] <;> with_reducible rfl) (by simp only [jC, jN, seval, vint, TyS, TyF, BdS]) (by decide) Trygo57 (wellFormed_c t hw _) ?_
    refine e_end (by simp only [jA, jO, jN, seval, vint, TyS, TyF, BdS] <;> with_reducible rfl) (by decide) ?_
    repeat (refine awp_seq ?_)
    refine awp_cond rfl (by simp only [jN, seval, vint, TyS, TyF, BdS] <;> with_reducible rfl) (fun b1 => ?_) (fun b1 => ?_)
    ·
      repeat (refine awp_seq ?_)
      refine e_eval (by simp only [jA, jO, jN, seval, vint, TyS, TyF, BdS] <;> with_reducible rfl) (by decide) ?_
      repeat (refine awp_seq ?_)
      refine awp_ret ⟨.inr rfl, _, rfl, ?_⟩
      simp only [jN, seval, vint, TyS, TyF, BdS]
      simp_all [valT]
    ·
      repeat (refine awp_seq ?_)
      refine awp_skip ?_
      repeat (refine awp_seq ?_)
      refine e_eval (by simp only [jA, jO, jN, seval, vint, TyS, TyF, BdS] <;> with_reducible rfl) (by decide) ?_
      repeat (refine awp_seq ?_)
      refine awp_ret ⟨.inr rfl, _, rfl, ?_⟩
      simp only [jN, seval, vint, TyS, TyF, BdS]
      simp_all [valT]

end Go.Abs
set_option maxRecDepth 4000
namespace Go.Abs
open Go.Proofs
theorem bel_mp {α : Type} (f : α → PV) (n : Nat) (B : List (Int × α)) (h : ∀ a, Bel n (f a)) : ∀ e ∈ mp f B, Bel n e.2 := fun e he => by
  obtain ⟨x, _, rfl⟩ := List.mem_map.1 he; exact h _

theorem head_k (B : Bs) {is im : Nat} {p : PV} {n : Nat} {t r : Ty} {H : Heap} (h : headF n B t = some r) (hs : H[is]? = some (.row [.mapp im, p])) (hm : H[im]? = some (.obj (.mapo (mp Ty.enc B)))) :
    ACalls Try.prog 63 [.optr is 0, t.enc] H fun r' H' => r' = r.enc ∧ H' = H := by
  have q1 : ∀ L, (H ++ L)[is]? = some (.row [.mapp im, p]) := fun L => by rw [List.getElem?_append_left (len_of_get hs)]; exact hs
  have q2 : ∀ L, (H ++ L)[im]? = some (.obj (.mapo (mp Ty.enc B))) := fun L => by rw [List.getElem?_append_left (len_of_get hm)]; exact hm
  have ms := len_of_get hs
  have mm := len_of_get hm
  have ffs : ∀ k, (H.length + k == is) = false := fun k => by simp; omega
  have ffm : ∀ k, (H.length + k == im) = false := fun k => by simp; omega
  refine keeps_of (N := 24) Try.func63 rfl rfl (by simp) (Ty.bel _ _) fun hb' => ?_
  repeat (refine awp_seq ?_)
  refine e_eval (by simp only [jA, jO, jN, seval, y29, vint, TyS, TyF, MapS, q1, q2, ffs, ffm, Bool.not_false, Bool.and_self] <;> with_reducible rfl) (by decide) ?_
  repeat (refine awp_seq ?_)
  refine awp_block ?_
  refine awp_loopS (σ := Nat × Ty) (fun (q : Nat × Ty) => [(0, .optr is 0), (3, .optr H.length 0), (4, .optr (H.length + 1) 0)]) (H) (fun (q : Nat × Ty) => [.row q.2.enc.cells, .row [vint 0, vint 0, .slice [] .full]]) (fun (q : Nat × Ty) => q.1) (fun (q : Nat × Ty) => headF q.1 B q.2 = some r) ((n, t)) ([]) ⟨(by first | rfl | (simp only [jN, seval, vint, TyS, TyF, MapS, q1, q2, ffs, ffm, Bool.not_false, Bool.and_self] <;> first | done | with_reducible rfl)), (by first | rfl | (simp only [jN, seval, vint, TyS, TyF, MapS, q1, q2, ffs, ffm, Bool.not_false, Bool.and_self] <;> first | done | with_reducible rfl)), (by first | rfl | (simp only [jN, seval, vint, TyS, TyF, MapS, q1, q2, ffs, ffm, Bool.not_false, Bool.and_self] <;> first | done | with_reducible rfl)), trivial⟩ (by first | rfl | (simp only [jN, seval, vint, TyS, TyF, MapS, q1, q2, ffs, ffm, Bool.not_false, Bool.and_self] <;> first | done | with_reducible rfl)) (h) (fun _ _ => by first | exact Nat.zero_le _ | (simp only [List.length_append]; omega)) ?_ ?_
  · intro q hg
    simp only [TyS]
    exact ⟨by first | exact hbel_nil _ | (simp only [List.append_nil]; assumption) | (refine hbel_app' hb' (by simp) ?_; repeat (first | exact hbel_nil _ | exact trivial | exact obel_row_nil _ | (refine HBel.cons ?_ ?_) | (refine obel_row_cons (by first | exact bel_ints0 _ _ | exact bel_slice_ty _ _ | exact Ty.bel _ _ | exact bel_ty_tok _ (by first | (simp; done) | (simp; omega)) | exact Bel.int _ _ | exact Bel.bool _ | exact Bel.str _ | exact Bel.nilp | exact Bel.nilfn | exact Bel.optr _ _ (by first | (simp; done) | (simp; omega)) | exact bel_nil0 _ | exact bel_nil1 _ | exact bel_fn0 _ _ | assumption) ?_))), by repeat (first | exact BelL.nil | refine BelL.cons (by first | exact bel_ints0 _ _ | exact bel_slice_ty _ _ | exact Ty.bel _ _ | exact bel_ty_tok _ (by first | (simp; done) | (simp; omega)) | exact Bel.int _ _ | exact Bel.bool _ | exact Bel.str _ | exact Bel.nilp | exact Bel.nilfn | exact Bel.optr _ _ (by first | (simp; done) | (simp; omega)) | exact bel_nil0 _ | exact bel_nil1 _ | exact bel_fn0 _ _ | assumption) ?_)⟩
  · intro q hg
    obtain ⟨n, u0⟩ := q
    obtain ⟨n, rfl⟩ : ∃ k, n = k + 1 := by
      cases n with
      | zero => cases hg
      | succ n => exact ⟨n, rfl⟩
    simp only [headF] at hg
    repeat (refine awp_seq ?_)
    refine e_eval (by simp only [jA, jO, jN, seval, y3, y29, vint, TyS, TyF, MapS, q1, q2, ffs, ffm, Bool.not_false, Bool.and_self] <;> with_reducible rfl) (by decide) ?_
    repeat (refine awp_seq ?_)
    refine awp_cond rfl (by simp only [jN, seval, vint, TyS, TyF, MapS, q1, q2, ffs, ffm, Bool.not_false, Bool.and_self] <;> with_reducible rfl) (fun b0 => ?_) (fun b0 => ?_)
    ·
      rw [if_pos (of_decide_eq_true b0)] at hg
      repeat (refine awp_seq ?_)
      refine awp_skip ?_
      repeat (refine awp_seq ?_)
      refine awp_block ?_
      rcases hl : lk B u0.id with _ | u
      ·
        rw [hl] at hg
        cases hg
        repeat (refine awp_seq ?_)
        refine awp_draw 1 (by kernel_rfl) ?_
        refine d_take (bm := [0, 1, 3, 7, 0, 16, 63, 127, 255, 255, 0, 1535, 4095]) 10 (fresh := ((H.length + 2))) (by kernel_rfl) (by simp only [jD, jO, jN, seval, y3, y29, y58, y60, vint, TyS, TyF, MapS, q1, q2, ffs, ffm, Bool.not_false, Bool.and_self, mget_mp, hl, Option.map_none] <;> with_reducible rfl) (by decide) (by decide) ?_
        refine d_end (bm := [0, 1, 3, 7, 0, 16, 63, 127, 255, 255, 0, 1535, 4095]) (fresh := ((H.length + 2))) (by kernel_rfl) (by simp only [jD, jO, jN, seval, y29, vint, TyS, TyF, MapS, q1, q2, ffs, ffm, Bool.not_false, Bool.and_self, mget_mp, hl, Option.map_none] <;> with_reducible rfl) (by decide) ?_
        refine awp_sel [0, 3, 4, 5, 6] (by simp only [jN, seval, vint, TyS, TyF, MapS, q1, q2, ffs, ffm, Bool.not_false, Bool.and_self, mget_mp, hl, Option.map_none] <;> with_reducible rfl) ?_
        repeat (refine awp_seq ?_)
        refine e_eval (by simp only [jA, jO, jN, seval, vint, TyS, TyF, MapS, q1, q2, ffs, ffm, Bool.not_false, Bool.and_self, mget_mp, hl, Option.map_none] <;> with_reducible rfl) (by decide) ?_
        repeat (refine awp_seq ?_)
        refine awp_cond_true rfl (by simp only [jN, seval, vint, TyS, TyF, MapS, q1, q2, ffs, ffm, Bool.not_false, Bool.and_self, mget_mp, hl, Option.map_none] <;> with_reducible rfl) ?_
        repeat (refine awp_seq ?_)
        refine awp_exit ?_
        simp only [thenQ, blockQ, reduceIte, Nat.reduceEqDiff, Nat.succ_ne_self, if_true, if_false]
        repeat (refine awp_seq ?_)
        refine e_eval (by simp only [jA, jO, jN, seval, y29, vint, TyS, TyF, MapS, q1, q2, ffs, ffm, Bool.not_false, Bool.and_self, mget_mp, hl, Option.map_none] <;> with_reducible rfl) (by decide) ?_
        repeat (refine awp_seq ?_)
        refine awp_ret ⟨.inr rfl, _, _, (ares_cell 4 29 rfl Tryti29 (by decide) (by simp only [jL, jN, seval, vint, TyS, TyF, MapS, q1, q2, ffs, ffm, Bool.not_false, Bool.and_self, mget_mp, hl, Option.map_none] <;> with_reducible rfl)), ?_, (by first | exact (List.append_nil _).symm | rfl)⟩
        exact Ty.enc_drop1 _
      ·
        rw [hl] at hg
        repeat (refine awp_seq ?_)
        refine awp_draw 1 (by kernel_rfl) ?_
        refine d_take (bm := [0, 1, 3, 7, 0, 16, 63, 127, 255, 255, 0, 1535, 4095]) 10 (fresh := ((H.length + 2))) (by kernel_rfl) (by simp only [jD, jO, jN, seval, y3, y29, y58, y60, vint, TyS, TyF, MapS, q1, q2, ffs, ffm, Bool.not_false, Bool.and_self, mget_mp, hl, Option.map_some] <;> with_reducible rfl) (by decide) (by decide) ?_
        refine d_end (bm := [0, 1, 3, 7, 0, 16, 63, 127, 255, 255, 0, 1535, 4095]) (fresh := ((H.length + 2))) (by kernel_rfl) (by simp only [jD, jO, jN, seval, y29, vint, TyS, TyF, MapS, q1, q2, ffs, ffm, Bool.not_false, Bool.and_self, mget_mp, hl, Option.map_some] <;> with_reducible rfl) (by decide) ?_
        refine awp_sel [0, 3, 4, 5, 6] (by simp only [jN, seval, vint, TyS, TyF, MapS, q1, q2, ffs, ffm, Bool.not_false, Bool.and_self, mget_mp, hl, Option.map_some] <;> with_reducible rfl) ?_
        repeat (refine awp_seq ?_)
        refine e_eval (by simp only [jA, jO, jN, seval, vint, TyS, TyF, MapS, q1, q2, ffs, ffm, Bool.not_false, Bool.and_self, mget_mp, hl, Option.map_some] <;> with_reducible rfl) (by decide) ?_
        repeat (refine awp_seq ?_)
        refine awp_cond_false rfl (by simp only [jN, seval, vint, TyS, TyF, MapS, q1, q2, ffs, ffm, Bool.not_false, Bool.and_self, mget_mp, hl, Option.map_some] <;> with_reducible rfl) ?_
        repeat (refine awp_seq ?_)
        refine awp_skip ?_
        repeat (refine awp_seq ?_)
        refine e_eval (by simp only [jA, jO, jN, seval, y29, vint, TyS, TyF, MapS, q1, q2, ffs, ffm, Bool.not_false, Bool.and_self, mget_mp, hl, Option.map_some] <;> with_reducible rfl) (by decide) ?_
        try simp only [thenQ, blockQ]
        exact ⟨(n, u), _, Nat.lt_succ_self n, ⟨rfl, rfl, rfl, trivial⟩, (by simp only [jN, seval, vint, TyS, TyF, MapS] <;> rfl), hg⟩
    ·
      rw [if_neg (of_decide_eq_false b0)] at hg
      cases hg
      repeat (refine awp_seq ?_)
      refine awp_exit ?_
      simp only [thenQ, blockQ, reduceIte, Nat.reduceEqDiff, Nat.succ_ne_self, if_true, if_false]
      repeat (refine awp_seq ?_)
      refine e_eval (by simp only [jA, jO, jN, seval, y29, vint, TyS, TyF, MapS, q1, q2, ffs, ffm, Bool.not_false, Bool.and_self] <;> with_reducible rfl) (by decide) ?_
      repeat (refine awp_seq ?_)
      refine awp_ret ⟨.inr rfl, _, _, (ares_cell 4 29 rfl Tryti29 (by decide) (by simp only [jL, jN, seval, vint, TyS, TyF, MapS, q1, q2, ffs, ffm, Bool.not_false, Bool.and_self] <;> with_reducible rfl)), ?_, (by first | exact (List.append_nil _).symm | rfl)⟩
      exact Ty.enc_drop1 _

structure CloS {σ : Type} (P : Program) (f : FuncId) (caps : List PV) (H : Heap) (iv : Nat) (en : σ → List (Int × PV)) (us : List Ty) (g : Ty → σ → Option (Bool × σ)) : Prop where
  go : goFn P f = true
  lt : iv < H.length
  bel : ∀ c ∈ caps, Bel H.length c
  enb : ∀ s m, ∀ e ∈ en s, Bel m e.2
  call : ∀ u ∈ us, ∀ s b s', g u s = some (b, s') → ACalls P f (u.enc :: caps) (uH H iv (en s)) fun r' H' => r' = .bool b ∧ H' = uH H iv (en s')

theorem indexFuncS {σ : Type} {f : FuncId} {caps : List PV} {H : Heap} {iv : Nat} {en : σ → List (Int × PV)} {us : List Ty} {g : Ty → σ → Option (Bool × σ)} {s s2 : σ} {r : Int} (hc : CloS Try.prog f caps H iv en us g) (hl : us.length ≤ maxLen) (h : idxS g us s 0 = some (r, s2)) :
    ACalls Try.prog 84 [.slice (us.map Ty.enc) .none, .fn (.func f) [] caps] (uH H iv (en s)) fun r' H' => r' = vint r ∧ H' = uH H iv (en s2) := by
  have hgo := hc.go
  refine muts_of (N := 19) Try.func84 rfl rfl (by simp) (.int _ _) (by simp only [uH_len]) (fun hb => by rw [uH_len] at hb ⊢; exact uH_bel hb (hc.enb _ _)) fun hb' => ?_
  rw [uH_len]
  rw [uH_len] at hb'
  repeat (refine awp_seq ?_)
  refine e_eval (by simp only [jA, jO, jN, seval, vint, TyS, TyF, MapS] <;> with_reducible rfl) (by decide) ?_
  repeat (refine awp_seq ?_)
  refine e_eval (by simp only [jA, jO, jN, seval, y27, y29, vint, TyS, TyF, MapS] <;> with_reducible rfl) (by decide) ?_
  repeat (refine awp_seq ?_)
  refine awp_forS (σ := σ) (us.length) (fun (q : σ) => [(0, .slice (us.map Ty.enc) .none), (1, .fn (.func f) [] caps)]) [0, 1] ([]) (fun (q : σ) => uH H iv (en q)) (fun (i : Nat) (q : σ) => idxS g (us.drop i) q i = some (r, s2)) (s) ([]) rfl rfl rfl rfl rfl rfl rfl rfl rfl (by decide) (by decide) (by decide) (fun _ => rfl) (hl) ⟨(by first | rfl | (simp only [jN, seval, vint, TyS, TyF, MapS] <;> first | done | with_reducible rfl)), (by first | rfl | (simp only [jN, seval, vint, TyS, TyF, MapS] <;> first | done | with_reducible rfl)), (by first | rfl | (simp only [jN, seval, vint, TyS, TyF, MapS] <;> first | done | with_reducible rfl)), (by first | rfl | (simp only [jN, seval, vint, TyS, TyF, MapS] <;> first | done | with_reducible rfl)), trivial⟩ (by first | rfl | (simp only [jN, seval, vint, TyS, TyF, MapS] <;> first | done | with_reducible rfl)) (h) (fun i q hg => by simp only [List.nil_append, uH_len]; exact Nat.le_refl _) ?_ ?_ ?_
  · exact fun i q hg => ⟨by simp only [List.nil_append, uH_len]; exact uH_bel hb' (hc.enb _ _), .cons (bel_Ty _ _) (.cons (.fn _ _ _ (by simp) (fun c hc' => (hc.bel c hc').mono (by simp [uH_len]))) .nil)⟩
  · intro i q hi hg
    have g1 := ix_nat hi
    have g2 := get_enc Ty.enc hi
    rw [List.drop_eq_getElem_cons hi] at hg
    simp only [idxS] at hg
    obtain ⟨⟨b, q'⟩, e1, hg⟩ := Option.bind_eq_some_iff.1 hg
    repeat (refine awp_seq ?_)
    refine e_eval (by simp only [jA, jO, jN, seval, vint, TyS, TyF, MapS, g1, Int.toNat_natCast, g2] <;> with_reducible rfl) (by decide) ?_
    repeat (refine awp_seq ?_)
    refine awp_region ?_
    refine e_take 5 (by simp only [jA, jO, jN, seval, y27, y29, vint, TyS, TyF, MapS, g1, Int.toNat_natCast, g2] <;> with_reducible rfl) (by decide) ?_
    refine aops_acall (by simp only [jC, jN, seval, vint, TyS, TyF, MapS, g1, Int.toNat_natCast, g2] <;> with_reducible rfl) (by simp only [jC, jN, seval, vint, TyS, TyF, MapS, g1, Int.toNat_natCast, g2]) (by decide) (by assumption) (hc.call _ (List.getElem_mem hi) _ _ _ e1) ?_
    rintro _ _ ⟨rfl, rfl⟩
    refine aops_nil ?_
    repeat (refine awp_seq ?_)
    refine awp_cond rfl (by simp only [jN, seval, vint, TyS, TyF, MapS, g1, Int.toNat_natCast, g2] <;> with_reducible rfl) (fun b0 => ?_) (fun b0 => ?_)
    ·
      rw [if_pos b0] at hg
      cases hg
      repeat (refine awp_seq ?_)
      refine e_eval (by simp only [jA, jO, jN, seval, vint, TyS, TyF, MapS, g1, Int.toNat_natCast, g2] <;> with_reducible rfl) (by decide) ?_
      repeat (refine awp_seq ?_)
      refine awp_ret ⟨.inr rfl, _, _, rfl, ?_, (by first | exact (List.append_nil _).symm | rfl)⟩
      simp only [jN, seval, vint, TyS, TyF, MapS]
    ·
      rw [if_neg (by rw [b0]; simp)] at hg
      repeat (refine awp_seq ?_)
      refine awp_skip ?_
      exact ⟨⟨rfl, rfl, trivial⟩, q', [], ⟨rfl, rfl, trivial⟩, by simp only [List.append_nil, List.nil_append], hg⟩
  · intro q hg
    rw [List.drop_eq_nil_of_le (Nat.le_refl _)] at hg
    cases hg
    repeat (refine awp_seq ?_)
    refine e_eval (by simp only [jA, jO, jN, seval, vint, TyS, TyF, MapS] <;> with_reducible rfl) (by decide) ?_
    repeat (refine awp_seq ?_)
    refine awp_ret ⟨.inr rfl, _, _, rfl, ?_, (by first | exact (List.append_nil _).symm | rfl)⟩
    simp only [jN, seval, vint, TyS, TyF, MapS]

theorem containsFuncS {σ : Type} {f : FuncId} {caps : List PV} {H : Heap} {iv : Nat} {en : σ → List (Int × PV)} {us : List Ty} {g : Ty → σ → Option (Bool × σ)} {s s2 : σ} {b : Bool} (hc : CloS Try.prog f caps H iv en us g) (hl : us.length ≤ maxLen) (h : anyS g us s = some (b, s2)) :
    ACalls Try.prog 68 [.slice (us.map Ty.enc) .none, .fn (.func f) [] caps] (uH H iv (en s)) fun r' H' => r' = .bool b ∧ H' = uH H iv (en s2) := by
  unfold anyS at h
  obtain ⟨⟨r, s3⟩, hi, h⟩ := Option.map_eq_some_iff.1 h
  cases h
  refine muts_of (N := 9) Try.func68 rfl rfl (by simp) (.bool _) (by simp only [uH_len]) (fun hb => by rw [uH_len] at hb ⊢; exact uH_bel hb (hc.enb _ _)) fun hb' => ?_
  rw [uH_len]
  rw [uH_len] at hb'
  repeat (refine awp_seq ?_)
  refine e_eval (by simp only [jA, jO, jN, seval, vint, TyS, TyF, MapS] <;> with_reducible rfl) (by decide) ?_
  repeat (refine awp_seq ?_)
  refine awp_region ?_
  refine e_take 2 (by simp only [jA, jO, jN, seval, vint, TyS, TyF, MapS] <;> with_reducible rfl) (by decide) ?_
  refine aops_acall (by simp only [jC, jN, seval, vint, TyS, TyF, MapS] <;> with_reducible rfl) (by simp only [jC, jN, seval, vint, TyS, TyF, MapS]) (by decide) Trygo84 (indexFuncS hc hl hi) ?_
  rintro _ _ ⟨rfl, rfl⟩
  refine e_end (by simp only [jA, jO, jN, seval, y3, vint, TyS, TyF, MapS] <;> with_reducible rfl) (by decide) ?_
  repeat (refine awp_seq ?_)
  refine awp_ret ⟨.inr rfl, _, _, rfl, ?_, (by first | exact (List.append_nil _).symm | rfl)⟩
  simp only [jN, seval, vint, TyS, TyF, MapS]

theorem occ1 {is iv i4 i5 i7 : Nat} {v : Int} {a : Ty} {H : Heap} {b : Bool} {w w' : Vis} (h4 : H[i4]? = some (.row [.optr is 0])) (h5 : H[i5]? = some (.row [vint v])) (h7 : H[i7]? = some (.row [.mapp iv])) (n4 : i4 ≠ iv) (n5 : i5 ≠ iv) (n7 : i7 ≠ iv) (hv : iv < H.length)
    (hcall : ACalls Try.prog 86 [.optr is 0, vint v, a.enc, .mapp iv] (uH H iv (mp vint w) ++ [.row a.enc.cells]) fun r' H' => r' = .bool b ∧ H' = uH H iv (mp vint w') ++ [.row a.enc.cells]) :
    ACalls Try.prog 92 [a.enc, .optr i4 0, .optr i5 0, .optr i7 0] (uH H iv (mp vint w)) fun r' H' => r' = .bool b ∧ H' = uH H iv (mp vint w') := by
  have U := uH_rules hv
  have q4 := uH_ne n4 h4
  have q5 := uH_ne n5 h5
  have q7 := uH_ne n7 h7
  simp only [TyS] at hcall
  refine muts_of (N := 11) Try.func92 rfl rfl (by simp) (.bool _) (by simp only [uH_len]) (fun hb => by rw [uH_len] at hb ⊢; exact uH_bel hb (bel_mp _ _ _ fun a => .int _ _)) fun hb' => ?_
  repeat (refine awp_seq ?_)
  refine e_eval (by simp only [jA, jO, jN, seval, y29, vint, TyS, TyF, MapS, U, q4, q5, q7] <;> with_reducible rfl) (by decide) ?_
  repeat (refine awp_seq ?_)
  refine awp_region ?_
  refine e_take 4 (by simp only [jA, jO, jN, seval, y3, y29, y56, y107, vint, TyS, TyF, MapS, U, q4, q5, q7] <;> with_reducible rfl) (by decide) ?_
  refine aops_acall (by simp only [jC, jN, seval, vint, TyS, TyF, MapS, U, q4, q5, q7] <;> with_reducible rfl) (by simp only [jC, jN, seval, vint, TyS, TyF, MapS, U, q4, q5, q7]) (by decide) Trygo86 (hcall) ?_
  rintro _ _ ⟨rfl, rfl⟩
  refine e_end (by simp only [jA, jO, jN, seval, vint, TyS, TyF, MapS, U, q4, q5, q7] <;> with_reducible rfl) (by decide) ?_
  repeat (refine awp_seq ?_)
  refine awp_ret ⟨.inr rfl, _, _, rfl, ?_, (by first | exact (List.append_nil _).symm | rfl)⟩
  simp only [jN, seval, vint, TyS, TyF, MapS]

theorem occ_k {B : Bs} {is im : Nat} {p : PV} (hB : WB B) : ∀ (n : Nat) (v : Int) (t : Ty) (w w' : Vis) (b : Bool) (H : Heap) (iv : Nat), occF n B v t w = some (b, w') → t.W → H[is]? = some (.row [.mapp im, p]) → H[im]? = some (.obj (.mapo (mp Ty.enc B))) → iv < H.length → is ≠ iv → im ≠ iv →
    ACalls Try.prog 86 [.optr is 0, vint v, t.enc, .mapp iv] (uH H iv (mp vint w)) fun r' H' => r' = .bool b ∧ H' = uH H iv (mp vint w')
  | 0, v, t, w, w', b, H, iv, h, _, _, _, _, _, _ => by cases h
  | n + 1, v, t, w, w', b, H, iv, h, ht, hs, hm, hv, ns, nm => by
    have ih := fun (u : Ty) (s s' : Vis) (c : Bool) (L : Heap) (h : occF n B v u s = some (c, s')) (hu : u.W) => (uH_app hv (mp vint s) ▸ uH_app hv (mp vint s') ▸ occ_k hB n v u s s' c (H ++ L) iv h hu (by rw [List.getElem?_append_left (len_of_get hs)]; exact hs) (by rw [List.getElem?_append_left (len_of_get hm)]; exact hm) (by rw [List.length_append]; omega) ns nm : ACalls Try.prog 86 [.optr is 0, vint v, u.enc, .mapp iv] (uH H iv (mp vint s) ++ L) fun r' H' => r' = .bool c ∧ H' = uH H iv (mp vint s') ++ L)
    have U := uH_rules hv
    have q1 := uH_ne ns hs
    have q2 := uH_ne nm hm
    have ms := len_of_get hs
    have mm := len_of_get hm
    have ffs : ∀ k, (H.length + k == is) = false := fun k => by simp; omega
    have ffm : ∀ k, (H.length + k == im) = false := fun k => by simp; omega
    have ffv : ∀ k, (iv = H.length + k) = False := fun k => by simp; omega
    simp only [occF] at h
    refine muts_of (N := 49) Try.func86 rfl rfl (by simp) (.bool _) (by simp only [uH_len]) (fun hb => by rw [uH_len] at hb ⊢; exact uH_bel hb (bel_mp _ _ _ fun a => .int _ _)) fun hb' => ?_
    rw [uH_len]
    rw [uH_len] at hb'
    repeat (refine awp_seq ?_)
    refine e_eval (by simp only [jA, jO, jN, seval, y3, y29, y56, y107, vint, TyS, TyF, MapS, U, q1, q2, ffs, ffm, ffv, Bool.not_false, Bool.and_self] <;> with_reducible rfl) (by decide) ?_
    repeat (refine awp_seq ?_)
    refine e_eval (by simp only [jA, jO, jN, seval, y3, y29, vint, TyS, TyF, MapS, U, q1, q2, ffs, ffm, ffv, Bool.not_false, Bool.and_self] <;> with_reducible rfl) (by decide) ?_
    repeat (refine awp_seq ?_)
    refine awp_cond rfl (by simp only [jN, seval, vint, TyS, TyF, MapS, U, q1, q2, ffs, ffm, ffv, Bool.not_false, Bool.and_self] <;> with_reducible rfl) (fun b0 => ?_) (fun b0 => ?_)
    ·
      rw [if_pos (of_decide_eq_true b0)] at h
      repeat (refine awp_seq ?_)
      refine e_eval (by simp only [jA, jO, jN, seval, y3, y29, vint, TyS, TyF, MapS, U, q1, q2, ffs, ffm, ffv, Bool.not_false, Bool.and_self] <;> with_reducible rfl) (by decide) ?_
      repeat (refine awp_seq ?_)
      refine awp_cond rfl (by simp only [jN, seval, vint, TyS, TyF, MapS, U, q1, q2, ffs, ffm, ffv, Bool.not_false, Bool.and_self] <;> with_reducible rfl) (fun b1 => ?_) (fun b1 => ?_)
      ·
        rw [if_pos (of_decide_eq_true b1)] at h
        cases h
        repeat (refine awp_seq ?_)
        refine e_eval (by simp only [jA, jO, jN, seval, vint, TyS, TyF, MapS, U, q1, q2, ffs, ffm, ffv, Bool.not_false, Bool.and_self] <;> with_reducible rfl) (by decide) ?_
        repeat (refine awp_seq ?_)
        refine awp_ret ⟨.inr rfl, _, _, rfl, ?_, (by first | exact (List.append_nil _).symm | rfl)⟩
        simp only [jN, seval, vint, TyS, TyF, MapS]
      ·
        rw [if_neg (of_decide_eq_false b1)] at h
        repeat (refine awp_seq ?_)
        refine awp_skip ?_
        rcases hl : lk B t.id with _ | u
        ·
          rw [hl] at h
          cases h
          repeat (refine awp_seq ?_)
          refine awp_draw 1 (by kernel_rfl) ?_
          refine d_take (bm := [0, 1, 3, 7, 0, 16, 63, 127, 255, 255, 0, 1535, 4095]) 10 (fresh := ((H.length + 4))) (by kernel_rfl) (by simp only [jD, jO, jN, seval, y3, y29, y56, y58, y60, vint, TyS, TyF, MapS, U, q1, q2, ffs, ffm, ffv, Bool.not_false, Bool.and_self, mget_mp, hl, Option.map_none, alook_vint] <;> with_reducible rfl) (by decide) (by decide) ?_
          refine d_end (bm := [0, 1, 3, 7, 0, 16, 63, 127, 255, 255, 0, 1535, 4095]) (fresh := ((H.length + 4))) (by kernel_rfl) (by simp only [jD, jO, jN, seval, y29, vint, TyS, TyF, MapS, U, q1, q2, ffs, ffm, ffv, Bool.not_false, Bool.and_self, mget_mp, hl, Option.map_none, alook_vint] <;> with_reducible rfl) (by decide) ?_
          refine awp_sel [4, 5, 6, 7, 9, 10] (by simp only [jN, seval, vint, TyS, TyF, MapS, U, q1, q2, ffs, ffm, ffv, Bool.not_false, Bool.and_self, mget_mp, hl, Option.map_none, alook_vint] <;> with_reducible rfl) ?_
          repeat (refine awp_seq ?_)
          refine g_eval (by simp only [jG, jO, jN, seval, y3, y29, y107, vint, TyS, TyF, MapS, U, q1, q2, ffs, ffm, ffv, Bool.not_false, Bool.and_self, mget_mp, hl, Option.map_none, alook_vint] <;> with_reducible rfl) (by decide) (by repeat (first | exact Fin.base _ | with_reducible apply Fin.keep | apply Fin.drop)) ?_
          repeat (refine awp_seq ?_)
          refine awp_cond_true rfl (by simp only [jN, seval, vint, TyS, TyF, MapS, U, q1, q2, ffs, ffm, ffv, Bool.not_false, Bool.and_self, mget_mp, hl, Option.map_none, alook_vint] <;> with_reducible rfl) ?_
          repeat (refine awp_seq ?_)
          refine e_eval (by simp only [jA, jO, jN, seval, vint, TyS, TyF, MapS, U, q1, q2, ffs, ffm, ffv, Bool.not_false, Bool.and_self, mget_mp, hl, Option.map_none, alook_vint] <;> with_reducible rfl) (by decide) ?_
          repeat (refine awp_seq ?_)
          refine awp_ret ⟨.inr rfl, _, _, rfl, ?_, (by first | exact (List.append_nil _).symm | rfl)⟩
          simp only [jN, seval, vint, TyS, TyF, MapS]
        ·
          rw [hl] at h
          simp only at h
          have hu := hB _ _ hl
          repeat (refine awp_seq ?_)
          refine awp_draw 1 (by kernel_rfl) ?_
          refine d_take (bm := [0, 1, 3, 7, 0, 16, 63, 127, 255, 255, 0, 1535, 4095]) 10 (fresh := ((H.length + 4))) (by kernel_rfl) (by simp only [jD, jO, jN, seval, y3, y29, y56, y58, y60, vint, TyS, TyF, MapS, U, q1, q2, ffs, ffm, ffv, Bool.not_false, Bool.and_self, mget_mp, hl, Option.map_some, alook_vint] <;> with_reducible rfl) (by decide) (by decide) ?_
          refine d_end (bm := [0, 1, 3, 7, 0, 16, 63, 127, 255, 255, 0, 1535, 4095]) (fresh := ((H.length + 4))) (by kernel_rfl) (by simp only [jD, jO, jN, seval, y29, vint, TyS, TyF, MapS, U, q1, q2, ffs, ffm, ffv, Bool.not_false, Bool.and_self, mget_mp, hl, Option.map_some, alook_vint] <;> with_reducible rfl) (by decide) ?_
          refine awp_sel [4, 5, 6, 7, 9, 10] (by simp only [jN, seval, vint, TyS, TyF, MapS, U, q1, q2, ffs, ffm, ffv, Bool.not_false, Bool.and_self, mget_mp, hl, Option.map_some, alook_vint] <;> with_reducible rfl) ?_
          repeat (refine awp_seq ?_)
          refine g_eval (by simp only [jG, jO, jN, seval, y3, y29, y107, vint, TyS, TyF, MapS, U, q1, q2, ffs, ffm, ffv, Bool.not_false, Bool.and_self, mget_mp, hl, Option.map_some, alook_vint] <;> with_reducible rfl) (by decide) (by repeat (first | exact Fin.base _ | with_reducible apply Fin.keep | apply Fin.drop)) ?_
          repeat (refine awp_seq ?_)
          refine awp_cond rfl (by simp only [jN, seval, vint, TyS, TyF, MapS, U, q1, q2, ffs, ffm, ffv, Bool.not_false, Bool.and_self, mget_mp, hl, Option.map_some, alook_vint] <;> with_reducible rfl) (fun bt36 => ?_) (fun bt36 => ?_)
          ·
            rw [if_pos (of_decide_eq_true bt36)] at h
            cases h
            repeat (refine awp_seq ?_)
            refine e_eval (by simp only [jA, jO, jN, seval, vint, TyS, TyF, MapS, U, q1, q2, ffs, ffm, ffv, Bool.not_false, Bool.and_self, mget_mp, hl, Option.map_some, alook_vint] <;> with_reducible rfl) (by decide) ?_
            repeat (refine awp_seq ?_)
            refine awp_ret ⟨.inr rfl, _, _, rfl, ?_, (by first | exact (List.append_nil _).symm | rfl)⟩
            simp only [jN, seval, vint, TyS, TyF, MapS]
          ·
            rw [if_neg (of_decide_eq_false bt36)] at h
            repeat (refine awp_seq ?_)
            refine awp_skip ?_
            repeat (refine awp_seq ?_)
            refine e_eval (by simp only [jA, jO, jN, seval, y3, y29, y107, vint, TyS, TyF, MapS, U, q1, q2, ffs, ffm, ffv, Bool.not_false, Bool.and_self, mget_mp, hl, Option.map_some, alook_vint, mset_vint] <;> with_reducible rfl) (by decide) ?_
            repeat (refine awp_seq ?_)
            refine awp_region ?_
            refine e_take 4 (by simp only [jA, jO, jN, seval, y3, y29, y56, y107, vint, TyS, TyF, MapS, U, q1, q2, ffs, ffm, ffv, Bool.not_false, Bool.and_self, mget_mp, hl, Option.map_some, alook_vint] <;> with_reducible rfl) (by decide) ?_
            refine aops_acall (by simp only [jC, jN, seval, vint, TyS, TyF, MapS, U, q1, q2, ffs, ffm, ffv, Bool.not_false, Bool.and_self, mget_mp, hl, Option.map_some, alook_vint] <;> with_reducible rfl) (by simp only [jC, jN, seval, vint, TyS, TyF, MapS, U, q1, q2, ffs, ffm, ffv, Bool.not_false, Bool.and_self, mget_mp, hl, Option.map_some, alook_vint]) (by decide) Trygo86 (ih u _ _ _ _ h hu) ?_
            rintro _ _ ⟨rfl, rfl⟩
            refine e_end (by simp only [jA, jO, jN, seval, vint, TyS, TyF, MapS, U, q1, q2, ffs, ffm, ffv, Bool.not_false, Bool.and_self, mget_mp, hl, Option.map_some, alook_vint] <;> with_reducible rfl) (by decide) ?_
            repeat (refine awp_seq ?_)
            refine awp_ret ⟨.inr rfl, _, _, rfl, ?_, (by first | exact (List.append_nil _).symm | rfl)⟩
            simp only [jN, seval, vint, TyS, TyF, MapS]
    ·
      rw [if_neg (of_decide_eq_false b0)] at h
      repeat (refine awp_seq ?_)
      refine awp_skip ?_
      repeat (refine awp_seq ?_)
      refine awp_region ?_
      refine e_take 3 (by simp only [jA, jO, jN, seval, y27, y29, vint, TyS, TyF, MapS, U, q1, q2, ffs, ffm, ffv, Bool.not_false, Bool.and_self] <;> with_reducible rfl) (by decide) ?_
      refine aops_acall (by simp only [jC, jN, seval, vint, TyS, TyF, MapS, U, q1, q2, ffs, ffm, ffv, Bool.not_false, Bool.and_self] <;> with_reducible rfl) (by simp only [jC, jN, seval, vint, TyS, TyF, MapS, U, q1, q2, ffs, ffm, ffv, Bool.not_false, Bool.and_self]) (by decide) Trygo68 (by
  have cs : CloS Try.prog 92 [.optr H.length 0, .optr (H.length + 1) 0, .optr (H.length + 3) 0] (H ++ [.row [.optr is 0], .row [vint v], .row t.enc.cells, .row [.mapp iv]]) iv (mp vint) t.args (occF n B v) :=
    ⟨Trygo92, by simp; omega, by simp; exact ⟨.optr _ _ (by simp), .optr _ _ (by simp), .optr _ _ (by simp)⟩, fun s m => bel_mp _ _ _ fun a => .int _ _, fun u hu s b s' hg =>
      occ1 (is := is) (v := v) (by simp) (by simp) (by simp) (by omega) (by omega) (by omega) (by simp; omega) (by rw [uH_app hv, uH_app hv]; simp only [List.append_assoc]; exact ih u s s' b _ hg (ht.arg hu))⟩
  have := containsFuncS cs ht.lenMax h
  rw [uH_app hv, uH_app hv, Ty.enc_cells] at this
  exact this) ?_
      rintro _ _ ⟨rfl, rfl⟩
      refine e_end (by simp only [jA, jO, jN, seval, vint, TyS, TyF, MapS, U, q1, q2, ffs, ffm, ffv, Bool.not_false, Bool.and_self] <;> with_reducible rfl) (by decide) ?_
      repeat (refine awp_seq ?_)
      refine awp_ret ⟨.inr rfl, _, _, rfl, ?_, (by first | exact (List.append_nil _).symm | rfl)⟩
      simp only [jN, seval, vint, TyS, TyF, MapS]

theorem bind_k {B B' : Bs} {is im : Nat} {p : Int} {n : Nat} {v : Int} {t : Ty} {b : Bool} {H : Heap} (h : bindF n B v t = some (b, B')) (hB : WB B) (ht : t.W) (hm : im < H.length) (hs : is < H.length) (hne : im ≠ is) :
    ACalls Try.prog 73 [.optr is 0, vint v, t.enc] (sH H im is B p) fun r' H' => r' = .bool b ∧ H' = sH H im is B' p := by
  have U := sH_rules hm hs hne
  unfold bindF at h
  obtain ⟨⟨c, w'⟩, hq, h⟩ := Option.map_eq_some_iff.1 h
  have oc := occ_k (is := is) (im := im) hB n v t [] w' c (sH H im is B p ++ [.row t.enc.cells, .obj (.mapo [])]) (H.length + 1) hq ht (p := .int .i64 p) (by simp only [U]) (by simp only [U]) (by simp [sH_len]) (by omega) (by omega)
  rw [uH_self (by simp only [U]; rfl)] at oc
  have ow : uH (sH H im is B p ++ [.row t.enc.cells, .obj (.mapo [])]) (H.length + 1) (mp vint w') = sH H im is B p ++ [.row t.enc.cells, .obj (.mapo (mp vint w'))] := by simp only [uH, U]; rfl
  rw [ow] at oc
  simp only [TyS] at oc
  refine muts_of (N := 18) Try.func73 rfl rfl (by simp) (.bool _) (by simp only [sH_len]) (fun hb => by rw [sH_len] at hb ⊢; exact sH_bel hb hm) fun hb' => ?_
  rw [sH_len]
  rw [sH_len] at hb'
  repeat (refine awp_seq ?_)
  refine e_eval (by simp only [jA, jO, jN, seval, y29, vint, TyS, TyF, MapS, U] <;> with_reducible rfl) (by decide) ?_
  repeat (refine awp_seq ?_)
  refine awp_region ?_
  refine e_take 4 (by simp only [jA, jO, jN, seval, y3, y29, y107, vint, TyS, TyF, MapS, U] <;> with_reducible rfl) (by decide) ?_
  refine aops_acall (by simp only [jC, jN, seval, vint, TyS, TyF, MapS, U] <;> with_reducible rfl) (by simp only [jC, jN, seval, vint, TyS, TyF, MapS, U]) (by decide) Trygo86 (oc) ?_
  rintro _ _ ⟨rfl, rfl⟩
  refine aops_nil ?_
  repeat (refine awp_seq ?_)
  refine awp_cond rfl (by simp only [jN, seval, vint, TyS, TyF, MapS, U] <;> with_reducible rfl) (fun b0 => ?_) (fun b0 => ?_)
  ·
    rw [if_pos b0] at h
    cases h
    repeat (refine awp_seq ?_)
    refine e_eval (by simp only [jA, jO, jN, seval, vint, TyS, TyF, MapS, U] <;> with_reducible rfl) (by decide) ?_
    repeat (refine awp_seq ?_)
    refine awp_ret ⟨.inr rfl, _, _, rfl, ?_, (by first | exact (List.append_nil _).symm | rfl)⟩
    simp only [jN, seval, vint, TyS, TyF, MapS]
  ·
    rw [if_neg (by rw [b0]; simp)] at h
    cases h
    repeat (refine awp_seq ?_)
    refine awp_skip ?_
    repeat (refine awp_seq ?_)
    refine awp_draw 0 (by kernel_rfl) ?_
    refine d_end (bm := [0, 1, 3, 7, 0, 0, 63]) (fresh := ((H.length + 2))) (by kernel_rfl) (by simp only [jD, jO, jN, seval, y29, y58, y60, vint, TyS, TyF, MapS, U, mset_mp] <;> with_reducible rfl) (by decide) ?_
    repeat (refine awp_seq ?_)
    refine e_eval (by simp only [jA, jO, jN, seval, vint, TyS, TyF, MapS, U] <;> with_reducible rfl) (by decide) ?_
    repeat (refine awp_seq ?_)
    refine awp_ret ⟨.inr rfl, _, _, rfl, ?_, (by first | exact (List.append_nil _).symm | rfl)⟩
    simp only [jN, seval, vint, TyS, TyF, MapS]

end Go.Abs
set_option maxRecDepth 4000
namespace Go.Abs
open Go.Proofs

theorem uni_k {is im : Nat} (hne : im ≠ is) : ∀ (n : Nat) (a b : Ty) (B : Bs) (p : Int) (c : Bool) (B' : Bs) (p' : Int) (H : Heap), uniF n a b (B, p) = some (c, (B', p')) → a.W → b.W → WB B → 0 ≤ p → p ≤ 20000 → im < H.length → is < H.length →
    ACalls Try.prog 60 [.optr is 0, a.enc, b.enc] (sH H im is B p) fun r' H' => r' = .bool c ∧ H' = sH H im is B' p'
  | 0, a, b, B, p, c, B', p', H, h, _, _, _, _, _, _, _ => by cases h
  | n + 1, a0, b0, B, p, c, B', p', H, h, ha0, hb0, hB, hp0, hp1, hm, hs => by
    have U := sH_rules hm hs hne
    simp only [uniF] at h
    obtain ⟨a, e1, h⟩ := Option.bind_eq_some_iff.1 h
    obtain ⟨b, e2, h⟩ := Option.bind_eq_some_iff.1 h
    have wa := headF_W hB ha0 e1
    have wb := headF_W hB hb0 e2
    have hw : IntKind.i64.wrap (p - 1) = p - 1 := wrap_id (by omega) (by omega)
    refine muts_of (N := 125) Try.func60 rfl rfl (by simp) (.bool _) (by simp only [sH_len]) (fun hb => by rw [sH_len] at hb ⊢; exact sH_bel hb hm) fun hb' => ?_
    rw [sH_len]
    rw [sH_len] at hb'
    repeat (refine awp_seq ?_)
    refine e_eval (by simp only [jA, jO, jN, seval, y29, vint, TyS, TyF, MapS, U] <;> with_reducible rfl) (by decide) ?_
    repeat (refine awp_seq ?_)
    refine awp_draw 0 (by kernel_rfl) ?_
    refine d_take (bm := [0, 0, 3, 0, 0, 31, 63, 127]) 2 (fresh := ((H.length + 2))) (by kernel_rfl) (by simp only [jD, jO, jN, seval, y29, vint, TyS, TyF, MapS, U] <;> with_reducible rfl) (by decide) (by decide) ?_
    refine dops_keep (bm := [0, 0, 3, 0, 0, 31, 63, 127]) ([is, im]) (by kernel_rfl) (by simp only [jC, jN, seval, vint, TyS, TyF, MapS, U] <;> with_reducible rfl) (by simp only [jC, jN, seval, vint, TyS, TyF, MapS, U]) (by decide) Trygo63 (fun H' hr => head_k B e1 (p := .int .i64 p) (is := is) (im := im) (by rw [hr is (by simp)]; simp only [U]) (by rw [hr im (by simp)]; simp only [U])) (by simp only [jD, jO, jN, seval, vint, TyS, TyF, MapS, U] <;> first | done | rfl) ?_
    refine d_take (bm := [0, 0, 3, 0, 0, 31, 63, 127]) 2 (fresh := ((H.length + 2))) (by kernel_rfl) (by simp only [jD, jO, jN, seval, y29, vint, TyS, TyF, MapS, U] <;> with_reducible rfl) (by decide) (by decide) ?_
    refine dops_keep (bm := [0, 0, 3, 0, 0, 31, 63, 127]) ([is, im]) (by kernel_rfl) (by simp only [jC, jN, seval, vint, TyS, TyF, MapS, U] <;> with_reducible rfl) (by simp only [jC, jN, seval, vint, TyS, TyF, MapS, U]) (by decide) Trygo63 (fun H' hr => head_k B e2 (p := .int .i64 p) (is := is) (im := im) (by rw [hr is (by simp)]; simp only [U]) (by rw [hr im (by simp)]; simp only [U])) (by simp only [jD, jO, jN, seval, vint, TyS, TyF, MapS, U] <;> first | done | rfl) ?_
    refine d_end (bm := [0, 0, 3, 0, 0, 31, 63, 127]) (fresh := ((H.length + 2))) (by kernel_rfl) (by simp only [jD, jO, jN, seval, y29, vint, TyS, TyF, MapS, U] <;> with_reducible rfl) (by decide) ?_
    repeat (refine awp_seq ?_)
    refine e_eval (by simp only [jA, jO, jN, seval, y3, y60, vint, TyS, TyF, MapS, U, hw] <;> with_reducible rfl) (by decide) ?_
    repeat (refine awp_seq ?_)
    refine awp_block ?_
    refine awp_sel [0, 4, 5] (by simp only [jN, seval, vint, TyS, TyF, MapS, U] <;> with_reducible rfl) ?_
    repeat (refine awp_seq ?_)
    refine e_eval (by simp only [jA, jO, jN, seval, y3, y60, vint, TyS, TyF, MapS, U] <;> with_reducible rfl) (by decide) ?_
    repeat (refine awp_seq ?_)
    refine awp_cond rfl (by simp only [jN, seval, vint, TyS, TyF, MapS, U] <;> with_reducible rfl) (fun bt21 => ?_) (fun bt21 => ?_)
    ·
      rw [if_pos (of_decide_eq_true bt21)] at h
      cases h
      repeat (refine awp_seq ?_)
      refine e_eval (by simp only [jA, jO, jN, seval, vint, TyS, TyF, MapS, U] <;> with_reducible rfl) (by decide) ?_
      repeat (refine awp_seq ?_)
      refine awp_ret ⟨.inr rfl, _, _, rfl, ?_, (by first | exact (List.append_nil _).symm | rfl)⟩
      simp only [jN, seval, vint, TyS, TyF, MapS]
    ·
      rw [if_neg (of_decide_eq_false bt21)] at h
      repeat (refine awp_seq ?_)
      refine g_eval (by simp only [jG, jO, jN, seval, y3, y29, vint, TyS, TyF, MapS, U] <;> with_reducible rfl) (by decide) (by repeat (first | exact Fin.base _ | with_reducible apply Fin.keep | apply Fin.drop)) ?_
      repeat (refine awp_seq ?_)
      refine awp_cond rfl (by simp only [jN, seval, vint, TyS, TyF, MapS, U] <;> with_reducible rfl) (fun bt27 => ?_) (fun bt27 => ?_)
      ·
        rw [if_pos (by simpa using bt27)] at h
        cases h
        refine awp_sel [] (by simp only [jN, seval, vint, TyS, TyF, MapS, U] <;> with_reducible rfl) ?_
        repeat (refine awp_seq ?_)
        refine e_eval (by simp only [jA, jO, jN, seval, vint, TyS, TyF, MapS, U] <;> with_reducible rfl) (by decide) ?_
        repeat (refine awp_seq ?_)
        refine awp_ret ⟨.inr rfl, _, _, rfl, ?_, (by first | exact (List.append_nil _).symm | rfl)⟩
        simp only [jN, seval, vint, TyS, TyF, MapS]
      ·
        rw [if_neg (by simpa using bt27)] at h
        refine awp_sel [0, 4, 5] (by simp only [jN, seval, vint, TyS, TyF, MapS, U] <;> with_reducible rfl) ?_
        repeat (refine awp_seq ?_)
        refine g_eval (by simp only [jG, jO, jN, seval, y3, y29, vint, TyS, TyF, MapS, U] <;> with_reducible rfl) (by decide) (by repeat (first | exact Fin.base _ | with_reducible apply Fin.keep | apply Fin.drop)) ?_
        repeat (refine awp_seq ?_)
        refine awp_cond rfl (by simp only [jN, seval, vint, TyS, TyF, MapS, U] <;> with_reducible rfl) (fun bt36 => ?_) (fun bt36 => ?_)
        ·
          rw [if_pos (by simpa using bt36)] at h
          repeat (refine awp_seq ?_)
          refine e_eval (by simp only [jA, jO, jN, seval, y3, y29, vint, TyS, TyF, MapS, U] <;> with_reducible rfl) (by decide) ?_
          repeat (refine awp_seq ?_)
          refine awp_cond rfl (by simp only [jN, seval, vint, TyS, TyF, MapS, U] <;> with_reducible rfl) (fun bt49 => ?_) (fun bt49 => ?_)
          ·
            rw [if_pos (by simpa using bt49)] at h
            cases h
            repeat (refine awp_seq ?_)
            refine awp_draw 0 (by kernel_rfl) ?_
            refine d_take (bm := [0, 1, 3, 7, 0, 16, 0, 64, 240, 0, 512, 0, 2048, 7680, 15872, 32767]) 10 (fresh := ((H.length + 2))) (by kernel_rfl) (by simp only [jD, jO, jN, seval, y3, y29, y58, y60, vint, TyS, TyF, MapS, U, mset_mp] <;> with_reducible rfl) (by decide) (by decide) ?_
            refine d_end (bm := [0, 1, 3, 7, 0, 16, 0, 64, 240, 0, 512, 0, 2048, 7680, 15872, 32767]) (fresh := ((H.length + 2))) (by kernel_rfl) (by simp only [jD, jO, jN, seval, y3, y29, y58, vint, TyS, TyF, MapS, U, mset_mp] <;> with_reducible rfl) (by decide) ?_
            refine awp_sel [] (by simp only [jN, seval, vint, TyS, TyF, MapS, U] <;> with_reducible rfl) ?_
            repeat (refine awp_seq ?_)
            refine e_eval (by simp only [jA, jO, jN, seval, vint, TyS, TyF, MapS, U] <;> with_reducible rfl) (by decide) ?_
            repeat (refine awp_seq ?_)
            refine awp_ret ⟨.inr rfl, _, _, rfl, ?_, (by first | exact (List.append_nil _).symm | rfl)⟩
            simp only [jN, seval, vint, TyS, TyF, MapS]
          ·
            rw [if_neg (by simpa using bt49)] at h
            cases h
            repeat (refine awp_seq ?_)
            refine awp_skip ?_
            repeat (refine awp_seq ?_)
            refine e_eval (by simp only [jA, jO, jN, seval, vint, TyS, TyF, MapS, U] <;> with_reducible rfl) (by decide) ?_
            repeat (refine awp_seq ?_)
            refine awp_ret ⟨.inr rfl, _, _, rfl, ?_, (by first | exact (List.append_nil _).symm | rfl)⟩
            simp only [jN, seval, vint, TyS, TyF, MapS]
        ·
          rw [if_neg (by simpa using bt36)] at h
          repeat (refine awp_seq ?_)
          refine e_eval (by simp only [jA, jO, jN, seval, y3, y29, vint, TyS, TyF, MapS, U] <;> with_reducible rfl) (by decide) ?_
          repeat (refine awp_seq ?_)
          refine awp_cond rfl (by simp only [jN, seval, vint, TyS, TyF, MapS, U] <;> with_reducible rfl) (fun bt65 => ?_) (fun bt65 => ?_)
          ·
            rw [if_pos (of_decide_eq_true bt65)] at h
            obtain ⟨⟨c1, B1⟩, hq, h⟩ := Option.map_eq_some_iff.1 h
            cases h
            repeat (refine awp_seq ?_)
            refine awp_region ?_
            refine e_take 4 (by simp only [jA, jO, jN, seval, y3, y29, vint, TyS, TyF, MapS, U] <;> with_reducible rfl) (by decide) ?_
            refine aops_acall (by simp only [jC, jN, seval, vint, TyS, TyF, MapS, U] <;> with_reducible rfl) (by simp only [jC, jN, seval, vint, TyS, TyF, MapS, U]) (by decide) Trygo73 (by have := bind_k (p := p - 1) (H := H ++ [.row [.int .i64 a.kind, .int .i64 a.id, .slice (a.args.map Ty.enc) .none], .row [.int .i64 b.kind, .int .i64 b.id, .slice (b.args.map Ty.enc) .none]]) hq hB wb (by simp; omega) (by simp; omega) hne; rw [sH_app hm hs, sH_app hm hs] at this; exact this) ?_
            rintro _ _ ⟨rfl, rfl⟩
            refine e_end (by simp only [jA, jO, jN, seval, vint, TyS, TyF, MapS, U] <;> with_reducible rfl) (by decide) ?_
            repeat (refine awp_seq ?_)
            refine awp_ret ⟨.inr rfl, _, _, rfl, ?_, (by first | exact (List.append_nil _).symm | rfl)⟩
            simp only [jN, seval, vint, TyS, TyF, MapS]
          ·
            rw [if_neg (of_decide_eq_false bt65)] at h
            repeat (refine awp_seq ?_)
            refine e_eval (by simp only [jA, jO, jN, seval, y3, y29, vint, TyS, TyF, MapS, U] <;> with_reducible rfl) (by decide) ?_
            repeat (refine awp_seq ?_)
            refine awp_cond rfl (by simp only [jN, seval, vint, TyS, TyF, MapS, U] <;> with_reducible rfl) (fun bt74 => ?_) (fun bt74 => ?_)
            ·
              rw [if_pos (of_decide_eq_true bt74)] at h
              obtain ⟨⟨c1, B1⟩, hq, h⟩ := Option.map_eq_some_iff.1 h
              cases h
              refine awp_sel [0, 4, 5] (by simp only [jN, seval, vint, TyS, TyF, MapS, U] <;> with_reducible rfl) ?_
              repeat (refine awp_seq ?_)
              refine awp_region ?_
              refine e_take 4 (by simp only [jA, jO, jN, seval, y3, y29, vint, TyS, TyF, MapS, U] <;> with_reducible rfl) (by decide) ?_
              refine aops_acall (by simp only [jC, jN, seval, vint, TyS, TyF, MapS, U] <;> with_reducible rfl) (by simp only [jC, jN, seval, vint, TyS, TyF, MapS, U]) (by decide) Trygo73 (by have := bind_k (p := p - 1) (H := H ++ [.row [.int .i64 a.kind, .int .i64 a.id, .slice (a.args.map Ty.enc) .none], .row [.int .i64 b.kind, .int .i64 b.id, .slice (b.args.map Ty.enc) .none]]) hq hB wa (by simp; omega) (by simp; omega) hne; rw [sH_app hm hs, sH_app hm hs] at this; exact this) ?_
              rintro _ _ ⟨rfl, rfl⟩
              refine e_end (by simp only [jA, jO, jN, seval, vint, TyS, TyF, MapS, U] <;> with_reducible rfl) (by decide) ?_
              repeat (refine awp_seq ?_)
              refine awp_ret ⟨.inr rfl, _, _, rfl, ?_, (by first | exact (List.append_nil _).symm | rfl)⟩
              simp only [jN, seval, vint, TyS, TyF, MapS]
            ·
              rw [if_neg (of_decide_eq_false bt74)] at h
              refine awp_sel [0, 4, 5] (by simp only [jN, seval, vint, TyS, TyF, MapS, U] <;> with_reducible rfl) ?_
              repeat (refine awp_seq ?_)
              refine g_eval (by simp only [jG, jO, jN, seval, y3, y27, y29, vint, TyS, TyF, MapS, U] <;> with_reducible rfl) (by decide) (by repeat (first | exact Fin.base _ | with_reducible apply Fin.keep | apply Fin.drop)) ?_
              repeat (refine awp_seq ?_)
              refine awp_cond rfl (by simp only [jN, seval, vint, TyS, TyF, MapS, U] <;> with_reducible rfl) (fun bt83 => ?_) (fun bt83 => ?_)
              ·
                rw [if_pos (by simp at bt83 ⊢; omega)] at h
                cases h
                refine awp_sel [] (by simp only [jN, seval, vint, TyS, TyF, MapS, U] <;> with_reducible rfl) ?_
                repeat (refine awp_seq ?_)
                refine e_eval (by simp only [jA, jO, jN, seval, vint, TyS, TyF, MapS, U] <;> with_reducible rfl) (by decide) ?_
                repeat (refine awp_seq ?_)
                refine awp_ret ⟨.inr rfl, _, _, rfl, ?_, (by first | exact (List.append_nil _).symm | rfl)⟩
                simp only [jN, seval, vint, TyS, TyF, MapS]
              ·
                rw [if_neg (by simp at bt83 ⊢; omega)] at h
                have hlen : a.args.length = b.args.length := by simp at bt83; omega
                repeat (refine awp_seq ?_)
                refine awp_skip ?_
                refine awp_sel [0, 4, 5] (by simp only [jN, seval, vint, TyS, TyF, MapS, U] <;> with_reducible rfl) ?_
                repeat (refine awp_seq ?_)
                refine e_eval (by simp only [jA, jO, jN, seval, y27, y29, vint, TyS, TyF, MapS, U] <;> with_reducible rfl) (by decide) ?_
                repeat (refine awp_seq ?_)
                refine awp_forS (σ := Bs × Int) (a.args.length) (fun (q : Bs × Int) => [(0, .optr is 0), (4, .optr H.length 0), (5, .optr (H.length + 1) 0)]) [0, 4, 5] ([]) (fun (q : Bs × Int) => sH H im is q.1 q.2 ++ [.row a.enc.cells, .row b.enc.cells]) (fun (i : Nat) (q : Bs × Int) => uniL (uniF n) (a.args.drop i) (b.args.drop i) q = some (c, (B', p')) ∧ WB q.1 ∧ 0 ≤ q.2 ∧ q.2 ≤ 20000) ((B, p - 1)) ([]) rfl rfl rfl rfl rfl rfl rfl rfl rfl (by decide) (by decide) (by decide) (fun _ => rfl) (wa.lenMax) ⟨(by first | rfl | (simp only [jN, seval, vint, TyS, TyF, MapS, U] <;> first | done | with_reducible rfl)), (by first | rfl | (simp only [jN, seval, vint, TyS, TyF, MapS, U] <;> first | done | with_reducible rfl)), (by first | rfl | (simp only [jN, seval, vint, TyS, TyF, MapS, U] <;> first | done | with_reducible rfl)), (by first | rfl | (simp only [jN, seval, vint, TyS, TyF, MapS, U] <;> first | done | with_reducible rfl)), (by first | rfl | (simp only [jN, seval, vint, TyS, TyF, MapS, U] <;> first | done | with_reducible rfl)), trivial⟩ (by first | rfl | (simp only [jN, seval, vint, TyS, TyF, MapS, U] <;> first | done | with_reducible rfl)) (⟨h, hB, by have := of_decide_eq_false bt21; omega, by omega⟩) (fun i q hg => by simp only [List.nil_append, List.length_append, sH_len]; omega) ?_ ?_ ?_
                · intro i q hg
                  refine ⟨?_, .cons (.optr _ _ (by simp [sH_len]; omega)) (.cons (.optr _ _ (by simp [sH_len])) (.cons (.optr _ _ (by simp [sH_len])) .nil))⟩
                  simp only [List.nil_append, TyS]
                  refine hbel_app' (sH_bel hb' hm) (by simp [sH_len]) ?_
                  repeat (first | exact hbel_nil _ | exact trivial | exact obel_row_nil _ | (refine HBel.cons ?_ ?_) | (refine obel_row_cons (by first | exact bel_ints0 _ _ | exact bel_slice_ty _ _ | exact Ty.bel _ _ | exact bel_ty_tok _ (by first | (simp; done) | (simp [sH_len]; omega)) | exact Bel.int _ _ | exact Bel.bool _ | exact Bel.str _ | exact Bel.nilp | exact Bel.nilfn | exact Bel.optr _ _ (by first | (simp; done) | (simp [sH_len]; omega)) | exact bel_nil0 _ | exact bel_nil1 _ | exact bel_fn0 _ _ | assumption) ?_))
                · intro i q hi hg
                  obtain ⟨hg, hqB, hq0, hq1⟩ := hg
                  have hi2 : i < b.args.length := by omega
                  have g1 := ix_nat hi
                  have g3 := ix_nat hi2
                  have g2 := get_enc Ty.enc hi
                  have g4 := get_enc Ty.enc hi2
                  have hwt := wa.arg (List.getElem_mem hi)
                  have hwp := wb.arg (List.getElem_mem hi2)
                  rw [List.drop_eq_getElem_cons hi, List.drop_eq_getElem_cons hi2] at hg
                  simp only [uniL] at hg
                  obtain ⟨⟨c1, B1, p1⟩, e3, hg⟩ := Option.bind_eq_some_iff.1 hg
                  obtain ⟨i1, i2, i3⟩ := uni_inv _ _ _ _ _ e3 hwt hwp hqB hq0
                  simp only at i1 i2 i3
                  repeat (refine awp_seq ?_)
                  refine e_eval (by simp only [jA, jO, jN, seval, vint, TyS, TyF, MapS, U, g1, Int.toNat_natCast, g2, g3, g4] <;> with_reducible rfl) (by decide) ?_
                  repeat (refine awp_seq ?_)
                  refine awp_draw 0 (by kernel_rfl) ?_
                  refine d_take (bm := [0, 0, 2, 0, 14, 30, 0, 64, 0, 448, 960, 2047, 4095]) 11 (fresh := 0) (by kernel_rfl) (by simp only [jD, jO, jN, seval, y27, y29, vint, TyS, TyF, MapS, U, g1, Int.toNat_natCast, g2, g3, g4] <;> with_reducible rfl) (by decide) (by decide) ?_
                  refine dops_eff (bm := [0, 0, 2, 0, 14, 30, 0, 64, 0, 448, 960, 2047, 4095]) (r := .bool c1) [im, is] [(im, .obj (.mapo (mp Ty.enc B1))), (is, .row [.mapp im, .int .i64 p1])] (H1 := sH H im is B1 p1 ++ [.row [.int .i64 a.kind, .int .i64 a.id, .slice (a.args.map Ty.enc) .none], .row [.int .i64 b.kind, .int .i64 b.id, .slice (b.args.map Ty.enc) .none]]) (by kernel_rfl) (by simp only [jC, jN, seval, vint, TyS, TyF, MapS, U, g1, Int.toNat_natCast, g2, g3, g4] <;> with_reducible rfl) (by simp only [jC, jN, seval, vint, TyS, TyF, MapS, U]) (by decide) Trygo60 (by simp) ?_ (by simp only [jD, jO, jN, seval, vint, TyS, TyF, MapS, U] <;> first | done | rfl) ?_ ?_
                  · intro H' hr hl
                    have r1 := hr im (by simp)
                    have r2 := hr is (by simp)
                    simp only [U] at r1 r2
                    have hl' : H.length ≤ H'.length := by rw [hl, List.length_append, sH_len]; omega
                    have := uni_k hne n a.args[i] b.args[i] q.1 q.2 c1 B1 p1 H' e3 hwt hwp hqB hq0 hq1 (by omega) (by omega)
                    rw [sH_self r1 r2] at this
                    exact this
                  · simp only [effs, List.foldl_cons, List.foldl_nil, U]
                  refine d_end (bm := [0, 0, 2, 0, 14, 30, 0, 64, 0, 448, 960, 2047, 4095]) (fresh := 0) (by kernel_rfl) (by simp only [jD, jO, jN, seval, vint, TyS, TyF, MapS, U, g1, Int.toNat_natCast, g2, g3, g4] <;> with_reducible rfl) (by decide) ?_
                  repeat (refine awp_seq ?_)
                  refine awp_cond rfl (by simp only [jN, seval, vint, TyS, TyF, MapS, U, g1, Int.toNat_natCast, g2, g3, g4] <;> with_reducible rfl) (fun bt123 => ?_) (fun bt123 => ?_)
                  ·
                    rw [if_neg (by simpa using bt123)] at hg
                    cases hg
                    refine awp_sel [0, 4, 5, 107, 108] (by simp only [jN, seval, vint, TyS, TyF, MapS, U, g1, Int.toNat_natCast, g2, g3, g4] <;> with_reducible rfl) ?_
                    repeat (refine awp_seq ?_)
                    refine e_eval (by simp only [jA, jO, jN, seval, vint, TyS, TyF, MapS, U, g1, Int.toNat_natCast, g2, g3, g4] <;> with_reducible rfl) (by decide) ?_
                    repeat (refine awp_seq ?_)
                    refine awp_ret ⟨.inr rfl, _, _, rfl, ?_, (by first | exact (List.append_nil _).symm | rfl)⟩
                    simp only [jN, seval, vint, TyS, TyF, MapS]
                  ·
                    rw [if_pos (by simpa using bt123)] at hg
                    repeat (refine awp_seq ?_)
                    refine awp_skip ?_
                    exact ⟨⟨rfl, rfl, trivial⟩, (B1, p1), [], ⟨rfl, rfl, rfl, trivial⟩, (by simp only [jN, seval, vint, TyS, TyF, MapS]), hg, i1, i3 (by simpa using bt123), by omega⟩
                · intro q hg
                  obtain ⟨hg, -⟩ := hg
                  rw [List.drop_eq_nil_of_le (Nat.le_refl _)] at hg
                  simp only [uniL] at hg
                  cases hg
                  repeat (refine awp_seq ?_)
                  refine e_eval (by simp only [jA, jO, jN, seval, vint, TyS, TyF, MapS, U] <;> with_reducible rfl) (by decide) ?_
                  repeat (refine awp_seq ?_)
                  refine awp_ret ⟨.inr rfl, _, _, rfl, ?_, (by first | exact (List.append_nil _).symm | rfl)⟩
                  simp only [jN, seval, vint, TyS, TyF, MapS]

end Go.Abs
set_option maxRecDepth 4000
namespace Go.Abs
open Go.Proofs

theorem solve_k {B B' : Bs} {is im : Nat} {p p' : Int} {n : Nat} {a b : Ty} {c : Bool} {H : Heap} (h : uniF n a b (B, 20000) = some (c, (B', p'))) (ha : a.W) (hb : b.W) (hB : WB B) (hm : im < H.length) (hs : is < H.length) (hne : im ≠ is) :
    ACalls Try.prog 33 [.optr is 0, a.enc, b.enc] (sH H im is B p) fun r' H' => r' = .bool c ∧ H' = sH H im is B' p' := by
  have U := sH_rules hm hs hne
  refine muts_of (N := 14) Try.func33 rfl rfl (by simp) (.bool _) (by simp only [sH_len]) (fun hb => by rw [sH_len] at hb ⊢; exact sH_bel hb hm) fun hb' => ?_
  rw [sH_len]
  rw [sH_len] at hb'
  repeat (refine awp_seq ?_)
  refine e_eval (by simp only [jA, jO, jN, seval, y29, vint, TyS, TyF, MapS, U] <;> with_reducible rfl) (by decide) ?_
  repeat (refine awp_seq ?_)
  refine e_eval (by simp only [jA, jO, jN, seval, y3, y60, vint, TyS, TyF, MapS, U] <;> with_reducible rfl) (by decide) ?_
  repeat (refine awp_seq ?_)
  refine awp_region ?_
  refine e_take 3 (by simp only [jA, jO, jN, seval, y29, vint, TyS, TyF, MapS, U] <;> with_reducible rfl) (by decide) ?_
  refine aops_acall (by simp only [jC, jN, seval, vint, TyS, TyF, MapS, U] <;> with_reducible rfl) (by simp only [jC, jN, seval, vint, TyS, TyF, MapS, U]) (by decide) Trygo60 (by have := uni_k hne n a b B 20000 c B' p' (H ++ [.row [.int .i64 a.kind, .int .i64 a.id, .slice (a.args.map Ty.enc) .none], .row [.int .i64 b.kind, .int .i64 b.id, .slice (b.args.map Ty.enc) .none]]) h ha hb hB (by omega) (by omega) (by simp; omega) (by simp; omega); rw [sH_app hm hs, sH_app hm hs] at this; exact this) ?_
  rintro _ _ ⟨rfl, rfl⟩
  refine e_end (by simp only [jA, jO, jN, seval, vint, TyS, TyF, MapS, U] <;> with_reducible rfl) (by decide) ?_
  repeat (refine awp_seq ?_)
  refine awp_ret ⟨.inr rfl, _, _, rfl, ?_, (by first | exact (List.append_nil _).symm | rfl)⟩
  simp only [jN, seval, vint, TyS, TyF, MapS]

theorem ext_k {B : Bs} {is im : Nat} {p : PV} (hB : WB B) : ∀ (n : Nat) (t : Ty) (w w' : Kn) (e : Int × Int) (H : Heap) (iv : Nat), extF n B t w = some (e, w') → t.W → H[is]? = some (.row [.mapp im, p]) → H[im]? = some (.obj (.mapo (mp Ty.enc B))) → iv < H.length → is ≠ iv → im ≠ iv →
    ACalls Try.prog 61 [.optr is 0, t.enc, .mapp iv] (uH H iv (mp enE w)) fun r' H' => r' = enE e ∧ H' = uH H iv (mp enE w')
  | 0, t, w, w', e, H, iv, h, _, _, _, _, _, _ => by cases h
  | n + 1, t, w, w', e, H, iv, h, ht, hs, hm, hv, ns, nm => by
    have ih := fun (u : Ty) (s s' : Kn) (c : Int × Int) (L : Heap) (h : extF n B u s = some (c, s')) (hu : u.W) => (uH_app hv (mp enE s) ▸ uH_app hv (mp enE s') ▸ ext_k hB n u s s' c (H ++ L) iv h hu (by rw [List.getElem?_append_left (len_of_get hs)]; exact hs) (by rw [List.getElem?_append_left (len_of_get hm)]; exact hm) (by rw [List.length_append]; omega) ns nm : ACalls Try.prog 61 [.optr is 0, u.enc, .mapp iv] (uH H iv (mp enE s) ++ L) fun r' H' => r' = enE c ∧ H' = uH H iv (mp enE s') ++ L)
    have U := uH_rules hv
    have q1 := uH_ne ns hs
    have q2 := uH_ne nm hm
    have ms := len_of_get hs
    have mm := len_of_get hm
    have ffs : ∀ k, (H.length + k == is) = false := fun k => by simp; omega
    have ffm : ∀ k, (H.length + k == im) = false := fun k => by simp; omega
    have ffv : ∀ k, (iv = H.length + k) = False := fun k => by simp; omega
    simp only [extF] at h
    refine muts_of (N := 80) Try.func61 rfl rfl (by simp) (.agg _ (by simp; exact ⟨.int _ _, .int _ _⟩)) (by simp only [uH_len]) (fun hb => by rw [uH_len] at hb ⊢; exact uH_bel hb (bel_mp _ _ _ fun a => .agg _ (by simp; exact ⟨.int _ _, .int _ _⟩))) fun hb' => ?_
    rw [uH_len]
    rw [uH_len] at hb'
    repeat (refine awp_seq ?_)
    refine e_eval (by simp only [jA, jO, jN, seval, y29, y80, vint, TyS, TyF, MapS, U, q1, q2, ffs, ffm, ffv, Bool.not_false, Bool.and_self, enE] <;> with_reducible rfl) (by decide) ?_
    repeat (refine awp_seq ?_)
    refine e_eval (by simp only [jA, jO, jN, seval, y3, y29, vint, TyS, TyF, MapS, U, q1, q2, ffs, ffm, ffv, Bool.not_false, Bool.and_self, enE] <;> with_reducible rfl) (by decide) ?_
    repeat (refine awp_seq ?_)
    refine awp_cond rfl (by simp only [jN, seval, vint, TyS, TyF, MapS, U, q1, q2, ffs, ffm, ffv, Bool.not_false, Bool.and_self, enE] <;> with_reducible rfl) (fun bt18 => ?_) (fun bt18 => ?_)
    ·
      rw [if_pos (of_decide_eq_true bt18)] at h
      rcases hk : lk w t.id with _ | e0
      ·
        rw [hk] at h
        simp only at h
        repeat (refine awp_seq ?_)
        refine e_eval (by simp only [jA, jO, jN, seval, y3, y29, y80, y82, vint, TyS, TyF, MapS, U, q1, q2, ffs, ffm, ffv, Bool.not_false, Bool.and_self, enE, mget_mp, hk, Option.map_none] <;> with_reducible rfl) (by decide) ?_
        repeat (refine awp_seq ?_)
        refine e_eval (by simp only [jA, jO, jN, seval, vint, TyS, TyF, MapS, U, q1, q2, ffs, ffm, ffv, Bool.not_false, Bool.and_self, enE, mget_mp, hk, Option.map_none] <;> with_reducible rfl) (by decide) ?_
        repeat (refine awp_seq ?_)
        refine awp_cond_false rfl (by simp only [jN, seval, vint, TyS, TyF, MapS, U, q1, q2, ffs, ffm, ffv, Bool.not_false, Bool.and_self, enE, mget_mp, hk, Option.map_none] <;> with_reducible rfl) ?_
        repeat (refine awp_seq ?_)
        refine awp_skip ?_
        refine awp_sel [0, 2, 4, 6] (by simp only [jN, seval, vint, TyS, TyF, MapS, U, q1, q2, ffs, ffm, ffv, Bool.not_false, Bool.and_self, enE, mget_mp, hk, Option.map_none] <;> with_reducible rfl) ?_
        rcases hl : lk B t.id with _ | u
        ·
          rw [hl] at h
          cases h
          repeat (refine awp_seq ?_)
          refine awp_draw 1 (by kernel_rfl) ?_
          refine d_take (bm := [0, 1, 3, 7, 0, 16, 63, 127, 255, 255, 0, 1535, 4095]) 10 (fresh := ((H.length + 3))) (by kernel_rfl) (by simp only [jD, jO, jN, seval, y3, y29, y58, y60, vint, TyS, TyF, MapS, U, q1, q2, ffs, ffm, ffv, Bool.not_false, Bool.and_self, enE, mget_mp, hk, Option.map_none, hl, Option.map_none] <;> with_reducible rfl) (by decide) (by decide) ?_
          refine d_end (bm := [0, 1, 3, 7, 0, 16, 63, 127, 255, 255, 0, 1535, 4095]) (fresh := ((H.length + 3))) (by kernel_rfl) (by simp only [jD, jO, jN, seval, y29, vint, TyS, TyF, MapS, U, q1, q2, ffs, ffm, ffv, Bool.not_false, Bool.and_self, enE, mget_mp, hk, Option.map_none, hl, Option.map_none] <;> with_reducible rfl) (by decide) ?_
          repeat (refine awp_seq ?_)
          refine e_eval (by simp only [jA, jO, jN, seval, vint, TyS, TyF, MapS, U, q1, q2, ffs, ffm, ffv, Bool.not_false, Bool.and_self, enE, mget_mp, hk, Option.map_none, hl, Option.map_none] <;> with_reducible rfl) (by decide) ?_
          repeat (refine awp_seq ?_)
          refine awp_cond_true rfl (by simp only [jN, seval, vint, TyS, TyF, MapS, U, q1, q2, ffs, ffm, ffv, Bool.not_false, Bool.and_self, enE, mget_mp, hk, Option.map_none, hl, Option.map_none] <;> with_reducible rfl) ?_
          repeat (refine awp_seq ?_)
          refine e_eval (by simp only [jA, jO, jN, seval, y80, vint, TyS, TyF, MapS, U, q1, q2, ffs, ffm, ffv, Bool.not_false, Bool.and_self, enE, mget_mp, hk, Option.map_none, hl, Option.map_none] <;> with_reducible rfl) (by decide) ?_
          repeat (refine awp_seq ?_)
          refine awp_ret ⟨.inr rfl, _, _, (ares_cell 6 80 rfl Tryti80 (by decide) (by simp only [jL, jN, seval, vint, TyS, TyF, MapS, U, q1, q2, ffs, ffm, ffv, Bool.not_false, Bool.and_self, enE, mget_mp, hk, Option.map_none, hl, Option.map_none] <;> with_reducible rfl)), ?_, (by first | exact (List.append_nil _).symm | rfl)⟩
          simp only [jN, seval, vint, enE]
        ·
          rw [hl] at h
          simp only at h
          obtain ⟨⟨e1, w1⟩, hq, h2⟩ := Option.map_eq_some_iff.1 h
          cases h2
          have hu := hB _ _ hl
          repeat (refine awp_seq ?_)
          refine awp_draw 1 (by kernel_rfl) ?_
          refine d_take (bm := [0, 1, 3, 7, 0, 16, 63, 127, 255, 255, 0, 1535, 4095]) 10 (fresh := ((H.length + 3))) (by kernel_rfl) (by simp only [jD, jO, jN, seval, y3, y29, y58, y60, vint, TyS, TyF, MapS, U, q1, q2, ffs, ffm, ffv, Bool.not_false, Bool.and_self, enE, mget_mp, hk, Option.map_none, hl, Option.map_some, enE] <;> with_reducible rfl) (by decide) (by decide) ?_
          refine d_end (bm := [0, 1, 3, 7, 0, 16, 63, 127, 255, 255, 0, 1535, 4095]) (fresh := ((H.length + 3))) (by kernel_rfl) (by simp only [jD, jO, jN, seval, y29, vint, TyS, TyF, MapS, U, q1, q2, ffs, ffm, ffv, Bool.not_false, Bool.and_self, enE, mget_mp, hk, Option.map_none, hl, Option.map_some, enE] <;> with_reducible rfl) (by decide) ?_
          repeat (refine awp_seq ?_)
          refine e_eval (by simp only [jA, jO, jN, seval, vint, TyS, TyF, MapS, U, q1, q2, ffs, ffm, ffv, Bool.not_false, Bool.and_self, enE, mget_mp, hk, Option.map_none, hl, Option.map_some, enE] <;> with_reducible rfl) (by decide) ?_
          repeat (refine awp_seq ?_)
          refine awp_cond_false rfl (by simp only [jN, seval, vint, TyS, TyF, MapS, U, q1, q2, ffs, ffm, ffv, Bool.not_false, Bool.and_self, enE, mget_mp, hk, Option.map_none, hl, Option.map_some, enE] <;> with_reducible rfl) ?_
          repeat (refine awp_seq ?_)
          refine awp_skip ?_
          repeat (refine awp_seq ?_)
          refine awp_region ?_
          refine e_take 3 (by simp only [jA, jO, jN, seval, y29, vint, TyS, TyF, MapS, U, q1, q2, ffs, ffm, ffv, Bool.not_false, Bool.and_self, enE, mget_mp, hk, Option.map_none, hl, Option.map_some, enE] <;> with_reducible rfl) (by decide) ?_
          refine aops_acall (by simp only [jC, jN, seval, vint, TyS, TyF, MapS, U, q1, q2, ffs, ffm, ffv, Bool.not_false, Bool.and_self, enE, mget_mp, hk, Option.map_none, hl, Option.map_some, enE] <;> with_reducible rfl) (by simp only [jC, jN, seval, vint, TyS, TyF, MapS, U, q1, q2, ffs, ffm, ffv, Bool.not_false, Bool.and_self, enE, mget_mp, hk, Option.map_none, hl, Option.map_some, enE]) (by decide) Trygo61 (ih u _ _ _ _ hq hu) ?_
          rintro _ _ ⟨rfl, rfl⟩
          refine e_end (by simp only [jA, jO, jN, seval, y80, vint, TyS, TyF, MapS, U, q1, q2, ffs, ffm, ffv, Bool.not_false, Bool.and_self, enE, mget_mp, hk, Option.map_none, hl, Option.map_some, enE] <;> with_reducible rfl) (by decide) ?_
          refine awp_sel [2, 4, 6, 11] (by simp only [jN, seval, vint, TyS, TyF, MapS, U, q1, q2, ffs, ffm, ffv, Bool.not_false, Bool.and_self, enE, mget_mp, hk, Option.map_none, hl, Option.map_some, enE] <;> with_reducible rfl) ?_
          repeat (refine awp_seq ?_)
          refine e_eval (by simp only [jA, jO, jN, seval, y3, y29, y80, y82, vint, TyS, TyF, MapS, U, q1, q2, ffs, ffm, ffv, Bool.not_false, Bool.and_self, enE, mget_mp, hk, Option.map_none, hl, Option.map_some, enE, mset_enE] <;> with_reducible rfl) (by decide) ?_
          repeat (refine awp_seq ?_)
          refine e_eval (by simp only [jA, jO, jN, seval, y80, vint, TyS, TyF, MapS, U, q1, q2, ffs, ffm, ffv, Bool.not_false, Bool.and_self, enE, mget_mp, hk, Option.map_none, hl, Option.map_some, enE] <;> with_reducible rfl) (by decide) ?_
          repeat (refine awp_seq ?_)
          refine awp_ret ⟨.inr rfl, _, _, (ares_cell 6 80 rfl Tryti80 (by decide) (by simp only [jL, jN, seval, vint, TyS, TyF, MapS, U, q1, q2, ffs, ffm, ffv, Bool.not_false, Bool.and_self, enE, mget_mp, hk, Option.map_none, hl, Option.map_some, enE] <;> with_reducible rfl)), ?_, (by first | exact (List.append_nil _).symm | rfl)⟩
          simp only [jN, seval, vint, enE]
      ·
        rw [hk] at h
        simp only at h
        cases h
        repeat (refine awp_seq ?_)
        refine e_eval (by simp only [jA, jO, jN, seval, y3, y29, y80, y82, vint, TyS, TyF, MapS, U, q1, q2, ffs, ffm, ffv, Bool.not_false, Bool.and_self, enE, mget_mp, hk, Option.map_some, enE] <;> with_reducible rfl) (by decide) ?_
        repeat (refine awp_seq ?_)
        refine e_eval (by simp only [jA, jO, jN, seval, vint, TyS, TyF, MapS, U, q1, q2, ffs, ffm, ffv, Bool.not_false, Bool.and_self, enE, mget_mp, hk, Option.map_some, enE] <;> with_reducible rfl) (by decide) ?_
        repeat (refine awp_seq ?_)
        refine awp_cond_true rfl (by simp only [jN, seval, vint, TyS, TyF, MapS, U, q1, q2, ffs, ffm, ffv, Bool.not_false, Bool.and_self, enE, mget_mp, hk, Option.map_some, enE] <;> with_reducible rfl) ?_
        refine awp_sel [6, 7] (by simp only [jN, seval, vint, TyS, TyF, MapS, U, q1, q2, ffs, ffm, ffv, Bool.not_false, Bool.and_self, enE, mget_mp, hk, Option.map_some, enE] <;> with_reducible rfl) ?_
        repeat (refine awp_seq ?_)
        refine e_eval (by simp only [jA, jO, jN, seval, y80, vint, TyS, TyF, MapS, U, q1, q2, ffs, ffm, ffv, Bool.not_false, Bool.and_self, enE, mget_mp, hk, Option.map_some, enE] <;> with_reducible rfl) (by decide) ?_
        repeat (refine awp_seq ?_)
        refine awp_ret ⟨.inr rfl, _, _, (ares_cell 6 80 rfl Tryti80 (by decide) (by simp only [jL, jN, seval, vint, TyS, TyF, MapS, U, q1, q2, ffs, ffm, ffv, Bool.not_false, Bool.and_self, enE, mget_mp, hk, Option.map_some, enE] <;> with_reducible rfl)), ?_, (by first | exact (List.append_nil _).symm | rfl)⟩
        simp only [jN, seval, vint, enE]
    ·
      rw [if_neg (of_decide_eq_false bt18)] at h
      obtain ⟨⟨e1, w1⟩, hq, h2⟩ := Option.map_eq_some_iff.1 h
      cases h2
      repeat (refine awp_seq ?_)
      refine awp_skip ?_
      repeat (refine awp_seq ?_)
      refine e_eval (by simp only [jA, jO, jN, seval, y80, vint, TyS, TyF, MapS, U, q1, q2, ffs, ffm, ffv, Bool.not_false, Bool.and_self, enE] <;> with_reducible rfl) (by decide) ?_
      repeat (refine awp_seq ?_)
      refine e_eval (by simp only [jA, jO, jN, seval, y27, y29, vint, TyS, TyF, MapS, U, q1, q2, ffs, ffm, ffv, Bool.not_false, Bool.and_self, enE] <;> with_reducible rfl) (by decide) ?_
      repeat (refine awp_seq ?_)
      refine awp_forS (σ := (Int × Int) × Kn) (t.args.length) (fun (q : (Int × Int) × Kn) => [(0, .optr is 0), (2, .mapp iv), (6, .optr (H.length + 1) 0), (12, .optr (H.length + 2) 0), (52, .slice (t.args.map Ty.enc) .none)]) [0, 2, 6, 12, 52] ([]) (fun (q : (Int × Int) × Kn) => uH H iv (mp enE q.2) ++ [.row t.enc.cells, .row [vint 0, vint 0], .row [vint q.1.1, vint q.1.2]]) (fun (i : Nat) (q : (Int × Int) × Kn) => extL (extF n B) (t.args.drop i) q.1 q.2 = some (e1, w1)) (((1, 0), w)) ([]) rfl rfl rfl rfl rfl rfl rfl rfl rfl (by decide) (by decide) (by decide) (fun _ => rfl) (ht.lenMax) ⟨(by first | rfl | (simp only [jN, seval, vint, TyS, TyF, MapS, U, q1, q2, ffs, ffm, ffv, Bool.not_false, Bool.and_self, enE] <;> first | done | with_reducible rfl)), (by first | rfl | (simp only [jN, seval, vint, TyS, TyF, MapS, U, q1, q2, ffs, ffm, ffv, Bool.not_false, Bool.and_self, enE] <;> first | done | with_reducible rfl)), (by first | rfl | (simp only [jN, seval, vint, TyS, TyF, MapS, U, q1, q2, ffs, ffm, ffv, Bool.not_false, Bool.and_self, enE] <;> first | done | with_reducible rfl)), (by first | rfl | (simp only [jN, seval, vint, TyS, TyF, MapS, U, q1, q2, ffs, ffm, ffv, Bool.not_false, Bool.and_self, enE] <;> first | done | with_reducible rfl)), (by first | rfl | (simp only [jN, seval, vint, TyS, TyF, MapS, U, q1, q2, ffs, ffm, ffv, Bool.not_false, Bool.and_self, enE] <;> first | done | with_reducible rfl)), (by first | rfl | (simp only [jN, seval, vint, TyS, TyF, MapS, U, q1, q2, ffs, ffm, ffv, Bool.not_false, Bool.and_self, enE] <;> first | done | with_reducible rfl)), (by first | rfl | (simp only [jN, seval, vint, TyS, TyF, MapS, U, q1, q2, ffs, ffm, ffv, Bool.not_false, Bool.and_self, enE] <;> first | done | with_reducible rfl)), trivial⟩ (by first | rfl | (simp only [jN, seval, vint, TyS, TyF, MapS, U, q1, q2, ffs, ffm, ffv, Bool.not_false, Bool.and_self, enE] <;> first | done | with_reducible rfl)) (hq) (fun i q hg => by simp only [List.nil_append, List.length_append, uH_len]; omega) ?_ ?_ ?_
      · intro i q hg
        refine ⟨?_, .cons (.optr _ _ (by simp [uH_len]; omega)) (.cons (.mapp _ (by simp [uH_len]; omega)) (.cons (.optr _ _ (by simp [uH_len])) (.cons (.optr _ _ (by simp [uH_len])) (.cons (bel_Ty _ _) .nil))))⟩
        simp only [List.nil_append, TyS]
        refine hbel_app' (uH_bel hb' (bel_mp _ _ _ fun a => .agg _ (by simp; exact ⟨.int _ _, .int _ _⟩))) (by simp [uH_len]) ?_
        repeat (first | exact hbel_nil _ | exact trivial | exact obel_row_nil _ | (refine HBel.cons ?_ ?_) | (refine obel_row_cons (by first | exact bel_ints0 _ _ | exact bel_slice_ty _ _ | exact Ty.bel _ _ | exact bel_ty_tok _ (by first | (simp; done) | (simp [sH_len]; omega)) | exact Bel.int _ _ | exact Bel.bool _ | exact Bel.str _ | exact Bel.nilp | exact Bel.nilfn | exact Bel.optr _ _ (by first | (simp; done) | (simp [sH_len]; omega)) | exact bel_nil0 _ | exact bel_nil1 _ | exact bel_fn0 _ _ | assumption) ?_))
      · intro i q hi hg
        have g1 := ix_nat hi
        have g2 := get_enc Ty.enc hi
        have hwt := ht.arg (List.getElem_mem hi)
        rw [List.drop_eq_getElem_cons hi] at hg
        simp only [extL] at hg
        obtain ⟨⟨e2, w2⟩, e3, hg⟩ := Option.bind_eq_some_iff.1 hg
        repeat (refine awp_seq ?_)
        refine e_eval (by simp only [jA, jO, jN, seval, y27, y29, vint, TyS, TyF, MapS, U, q1, q2, ffs, ffm, ffv, Bool.not_false, Bool.and_self, enE, g1, Int.toNat_natCast, g2] <;> with_reducible rfl) (by decide) ?_
        repeat (refine awp_seq ?_)
        refine awp_region ?_
        refine e_take 3 (by simp only [jA, jO, jN, seval, y29, vint, TyS, TyF, MapS, U, q1, q2, ffs, ffm, ffv, Bool.not_false, Bool.and_self, enE, g1, Int.toNat_natCast, g2] <;> with_reducible rfl) (by decide) ?_
        refine aops_acall (by simp only [jC, jN, seval, vint, TyS, TyF, MapS, U, q1, q2, ffs, ffm, ffv, Bool.not_false, Bool.and_self, enE, g1, Int.toNat_natCast, g2] <;> with_reducible rfl) (by simp only [jC, jN, seval, vint, TyS, TyF, MapS, U, q1, q2, ffs, ffm, ffv, Bool.not_false, Bool.and_self, enE, g1, Int.toNat_natCast, g2]) (by decide) Trygo61 (ih _ _ _ _ _ e3 hwt) ?_
        rintro _ _ ⟨rfl, rfl⟩
        refine e_end (by simp only [jA, jO, jN, seval, y80, vint, TyS, TyF, MapS, U, q1, q2, ffs, ffm, ffv, Bool.not_false, Bool.and_self, enE, g1, Int.toNat_natCast, g2] <;> with_reducible rfl) (by decide) ?_
        repeat (refine awp_seq ?_)
        refine e_eval (by simp only [jA, jO, jN, seval, y3, y80, vint, TyS, TyF, MapS, U, q1, q2, ffs, ffm, ffv, Bool.not_false, Bool.and_self, enE, g1, Int.toNat_natCast, g2] <;> with_reducible rfl) (by decide) ?_
        exact ⟨⟨rfl, rfl, trivial⟩, ((min (IntKind.i64.wrap (q.1.1 + e2.1)) 200, max q.1.2 e2.2), w2), _, ⟨rfl, rfl, rfl, rfl, rfl, trivial⟩, (by simp only [jN, seval, vint, TyS, TyF, MapS, U, List.append_assoc] <;> rfl), hg⟩
      · intro q hg
        rw [List.drop_eq_nil_of_le (Nat.le_refl _)] at hg
        simp only [extL] at hg
        cases hg
        repeat (refine awp_seq ?_)
        refine e_eval (by simp only [jA, jO, jN, seval, y3, y80, vint, TyS, TyF, MapS, U, q1, q2, ffs, ffm, ffv, Bool.not_false, Bool.and_self, enE] <;> with_reducible rfl) (by decide) ?_
        repeat (refine awp_seq ?_)
        refine e_eval (by simp only [jA, jO, jN, seval, y80, vint, TyS, TyF, MapS, U, q1, q2, ffs, ffm, ffv, Bool.not_false, Bool.and_self, enE] <;> with_reducible rfl) (by decide) ?_
        repeat (refine awp_seq ?_)
        refine awp_ret ⟨.inr rfl, _, _, (ares_cell 6 80 rfl Tryti80 (by decide) (by simp only [jL, jN, seval, vint, TyS, TyF, MapS, U, q1, q2, ffs, ffm, ffv, Bool.not_false, Bool.and_self, enE] <;> with_reducible rfl)), ?_, (by first | exact (List.append_nil _).symm | rfl)⟩
        simp only [jN, seval, vint, enE]

end Go.Abs
set_option maxRecDepth 4000
namespace Go.Abs
open Go.Proofs
theorem within_k {B : Bs} {is im : Nat} {p : PV} {n : Nat} {t : Ty} {b : Bool} {H : Heap} (h : withinF n B t = some b) (hB : WB B) (ht : t.W) (hs : H[is]? = some (.row [.mapp im, p])) (hm : H[im]? = some (.obj (.mapo (mp Ty.enc B)))) :
    ACalls Try.prog 34 [.optr is 0, t.enc] H fun r' H' => r' = .bool b ∧ H' = H := by
  have ms := len_of_get hs
  have mm := len_of_get hm
  unfold withinF at h
  obtain ⟨⟨e, w'⟩, hq, h⟩ := Option.map_eq_some_iff.1 h
  cases h
  have oc := ext_k (is := is) (im := im) (p := p) hB n t [] w' e (H ++ [.row t.enc.cells, .obj (.mapo [])]) (H.length + 1) hq ht (by rw [List.getElem?_append_left ms]; exact hs) (by rw [List.getElem?_append_left mm]; exact hm) (by simp) (by omega) (by omega)
  rw [uH_self (by simp [mp])] at oc
  have ow : uH (H ++ [.row t.enc.cells, .obj (.mapo [])]) (H.length + 1) (mp enE w') = H ++ [.row t.enc.cells, .obj (.mapo (mp enE w'))] := by simp [uH]
  rw [ow] at oc
  simp only [TyS] at oc
  refine keeps_of (N := 18) Try.func34 rfl rfl (by simp) (.bool _) fun hb' => ?_
  repeat (refine awp_seq ?_)
  refine e_eval (by simp only [jA, jO, jN, seval, y29, vint, TyS, TyF, MapS, enE] <;> with_reducible rfl) (by decide) ?_
  repeat (refine awp_seq ?_)
  refine awp_region ?_
  refine e_take 3 (by simp only [jA, jO, jN, seval, y29, y80, y82, vint, TyS, TyF, MapS, enE] <;> with_reducible rfl) (by decide) ?_
  refine aops_acall (by simp only [jC, jN, seval, vint, TyS, TyF, MapS, enE] <;> with_reducible rfl) (by simp only [jC, jN, seval, vint, TyS, TyF, MapS, enE]) (by decide) Trygo61 (oc) ?_
  rintro _ _ ⟨rfl, rfl⟩
  refine e_end (by simp only [jA, jO, jN, seval, y80, vint, TyS, TyF, MapS, enE] <;> with_reducible rfl) (by decide) ?_
  repeat (refine awp_seq ?_)
  refine g_eval (by simp only [jG, jO, jN, seval, y3, y80, vint, TyS, TyF, MapS, enE] <;> with_reducible rfl) (by decide) (by repeat (first | exact Fin.base _ | with_reducible apply Fin.keep | apply Fin.drop)) ?_
  repeat (refine awp_seq ?_)
  refine awp_ret ⟨.inr rfl, _, _, rfl, ?_, (by first | exact (List.append_nil _).symm | rfl)⟩
  simp only [jN, seval, vint, TyS, TyF, MapS]

theorem res1 {B : Bs} {is im i2 : Nat} {p : PV} {n : Nat} {u : Ty} {H : Heap} (hB : WB B) (hu : u.W) (h2 : H[i2]? = some (.row [.optr is 0])) (hs : H[is]? = some (.row [.mapp im, p])) (hm : H[im]? = some (.obj (.mapo (mp Ty.enc B))))
    (hok : u.kind = 1 → ∃ h, headF n B u = some h ∧ (h.kind ≠ 1 → okR n B h))
    (hc : ∀ (h : Ty) (L : Heap), okR n B h → h.W → ACalls Try.prog 35 [.optr is 0, h.enc] (H ++ L) fun r' H' => r' = (rsvF n B h).enc ∧ H' = H ++ L) :
    ACalls Try.prog 62 [u.enc, .optr i2 0] H fun r' H' => r' = .tup [(resG n B (rsvF n B) u).1.enc, .bool (resG n B (rsvF n B) u).2] ∧ H' = H := by
  have q1 : ∀ L, (H ++ L)[is]? = some (.row [.mapp im, p]) := fun L => by rw [List.getElem?_append_left (len_of_get hs)]; exact hs
  have q2 : ∀ L, (H ++ L)[im]? = some (.obj (.mapo (mp Ty.enc B))) := fun L => by rw [List.getElem?_append_left (len_of_get hm)]; exact hm
  have q3 : ∀ L, (H ++ L)[i2]? = some (.row [.optr is 0]) := fun L => by rw [List.getElem?_append_left (len_of_get h2)]; exact h2
  refine keeps_of (N := 20) Try.func62 rfl rfl (by simp) (.tup _ (by simp [Ty.bel, Bel.bool])) fun hb' => ?_
  repeat (refine awp_seq ?_)
  refine e_eval (by simp only [jA, jO, jN, seval, y29, vint, TyS, TyF, MapS, q1, q2, q3] <;> with_reducible rfl) (by decide) ?_
  repeat (refine awp_seq ?_)
  refine e_eval (by simp only [jA, jO, jN, seval, y3, y29, vint, TyS, TyF, MapS, q1, q2, q3] <;> with_reducible rfl) (by decide) ?_
  repeat (refine awp_seq ?_)
  refine awp_cond rfl (by simp only [jN, seval, vint, TyS, TyF, MapS, q1, q2, q3] <;> with_reducible rfl) (fun bt8 => ?_) (fun bt8 => ?_)
  ·
    skip
    repeat (refine awp_seq ?_)
    refine e_eval (by simp only [jA, jO, jN, seval, y29, vint, TyS, TyF, MapS, q1, q2, q3] <;> with_reducible rfl) (by decide) ?_
    repeat (refine awp_seq ?_)
    refine awp_ret ⟨.inr rfl, _, _, (ares_two (.cell 3 29) (.tmp 4) rfl (ares_cell1 Tryti29 (by decide) (by simp only [jL, jN, seval, vint, TyS, TyF, MapS, q1, q2, q3] <;> with_reducible rfl)) (ares_tmp1 (by decide))), ?_, (by first | exact (List.append_nil _).symm | rfl)⟩
    simp only [jN, seval, vint, TyS, TyF, MapS]
    unfold resG
    rw [if_pos (by simpa using bt8)]
  ·
    have hk : u.kind = 1 := by simpa using bt8
    obtain ⟨h, e1, hr⟩ := hok hk
    have wh := headF_W hB hu e1
    have hg : resG n B (rsvF n B) u = if h.kind = 1 then (h, true) else (rsvF n B h, true) := by simp [resG, hk, e1]
    rw [hg]
    repeat (refine awp_seq ?_)
    refine awp_skip ?_
    repeat (refine awp_seq ?_)
    refine awp_region ?_
    refine e_take 2 (by simp only [jA, jO, jN, seval, y29, y56, vint, TyS, TyF, MapS, q1, q2, q3] <;> with_reducible rfl) (by decide) ?_
    refine aops_pure (by simp only [jC, jN, seval, vint, TyS, TyF, MapS, q1, q2, q3] <;> with_reducible rfl) (by simp only [jC, jN, seval, vint, TyS, TyF, MapS, q1, q2, q3]) (by decide) Trygo63 (head_k B e1 (q1 _) (q2 _)) ?_
    refine e_end (by simp only [jA, jO, jN, seval, y29, vint, TyS, TyF, MapS, q1, q2, q3] <;> with_reducible rfl) (by decide) ?_
    repeat (refine awp_seq ?_)
    refine e_eval (by simp only [jA, jO, jN, seval, y3, y29, vint, TyS, TyF, MapS, q1, q2, q3] <;> with_reducible rfl) (by decide) ?_
    repeat (refine awp_seq ?_)
    refine awp_cond rfl (by simp only [jN, seval, vint, TyS, TyF, MapS, q1, q2, q3] <;> with_reducible rfl) (fun bt15 => ?_) (fun bt15 => ?_)
    ·
      rw [if_pos (of_decide_eq_true bt15)]
      repeat (refine awp_seq ?_)
      refine e_eval (by simp only [jA, jO, jN, seval, y29, vint, TyS, TyF, MapS, q1, q2, q3] <;> with_reducible rfl) (by decide) ?_
      repeat (refine awp_seq ?_)
      refine awp_ret ⟨.inr rfl, _, _, (ares_two (.cell 3 29) (.tmp 4) rfl (ares_cell1 Tryti29 (by decide) (by simp only [jL, jN, seval, vint, TyS, TyF, MapS, q1, q2, q3] <;> with_reducible rfl)) (ares_tmp1 (by decide))), ?_, (by first | exact (List.append_nil _).symm | rfl)⟩
      simp only [jN, seval, vint, TyS, TyF, MapS]
    ·
      rw [if_neg (of_decide_eq_false bt15)]
      repeat (refine awp_seq ?_)
      refine awp_skip ?_
      repeat (refine awp_seq ?_)
      refine awp_region ?_
      refine e_take 2 (by simp only [jA, jO, jN, seval, y29, y56, vint, TyS, TyF, MapS, q1, q2, q3] <;> with_reducible rfl) (by decide) ?_
      refine aops_pure (by simp only [jC, jN, seval, vint, TyS, TyF, MapS, q1, q2, q3] <;> with_reducible rfl) (by simp only [jC, jN, seval, vint, TyS, TyF, MapS, q1, q2, q3]) (by decide) Trygo35 (hc h _ (hr (of_decide_eq_false bt15)) wh) ?_
      refine e_end (by simp only [jA, jO, jN, seval, y29, vint, TyS, TyF, MapS, q1, q2, q3] <;> with_reducible rfl) (by decide) ?_
      repeat (refine awp_seq ?_)
      refine awp_ret ⟨.inr rfl, _, _, (ares_two (.cell 3 29) (.tmp 4) rfl (ares_cell1 Tryti29 (by decide) (by simp only [jL, jN, seval, vint, TyS, TyF, MapS, q1, q2, q3] <;> with_reducible rfl)) (ares_tmp1 (by decide))), ?_, (by first | exact (List.append_nil _).symm | rfl)⟩
      simp only [jN, seval, vint, TyS, TyF, MapS]

theorem res_k {B : Bs} {is im : Nat} {p : PV} (hB : WB B) : ∀ (n : Nat) (t : Ty) (H : Heap), okR n B t → t.W → H[is]? = some (.row [.mapp im, p]) → H[im]? = some (.obj (.mapo (mp Ty.enc B))) →
    ACalls Try.prog 35 [.optr is 0, t.enc] H fun r' H' => r' = (rsvF n B t).enc ∧ H' = H
  | 0, t, H, h, _, _, _ => h.elim
  | n + 1, t, H, h, ht, hs, hm => by
    have q1 : ∀ L, (H ++ L)[is]? = some (.row [.mapp im, p]) := fun L => by rw [List.getElem?_append_left (len_of_get hs)]; exact hs
    have q2 : ∀ L, (H ++ L)[im]? = some (.obj (.mapo (mp Ty.enc B))) := fun L => by rw [List.getElem?_append_left (len_of_get hm)]; exact hm
    have ms := len_of_get hs
    have hc : Clo Try.prog 62 [.optr H.length 0] [(H.length, .row [.optr is 0]), (is, .row [.mapp im, p]), (im, .obj (.mapo (mp Ty.enc B)))] (fun u => u.W ∧ All (fun u => u.kind = 1 → ∃ h, headF n B u = some h ∧ (h.kind ≠ 1 → okR n B h)) u) (resG n B (rsvF n B)) :=
      ⟨Trygo62, fun H' hr => by have := len_of_get (hr _ (.head _)); simp; exact .optr _ _ (by assumption), fun t ht u hu => ⟨ht.1.arg hu, ht.2.arg hu⟩, fun H' u hu hr => by
        have r1 := hr _ (.head _)
        have r2 := hr _ (.tail _ (.head _))
        have r3 := hr _ (.tail _ (.tail _ (.head _)))
        exact res1 (is := is) (im := im) (p := p) hB hu.1 r1 r2 r3 hu.2.at_ fun h L ho hw => res_k hB n h (H' ++ L) ho hw (by rw [List.getElem?_append_left (len_of_get r2)]; exact r2) (by rw [List.getElem?_append_left (len_of_get r3)]; exact r3)⟩
    refine keeps_of (N := 8) Try.func35 rfl rfl (by simp) (Ty.bel _ _) fun hb' => ?_
    repeat (refine awp_seq ?_)
    refine e_eval (by simp only [jA, jO, jN, seval, y29, y56, vint, TyS, TyF, MapS, q1, q2] <;> with_reducible rfl) (by decide) ?_
    repeat (refine awp_seq ?_)
    refine awp_region ?_
    refine e_take 2 (by simp only [jA, jO, jN, seval, y29, vint, TyS, TyF, MapS, q1, q2] <;> with_reducible rfl) (by decide) ?_
    refine aops_pure (by simp only [jC, jN, seval, vint, TyS, TyF, MapS, q1, q2] <;> with_reducible rfl) (by simp only [jC, jN, seval, vint, TyS, TyF, MapS, q1, q2]) (by decide) Trygo51 (map_k hc _ t _ (Nat.le_refl _) ht ⟨ht, h⟩ (by intro x hx; simp only [List.mem_cons, List.not_mem_nil, or_false] at hx; rcases hx with rfl | rfl | rfl <;> first | exact q1 _ | exact q2 _ | simp)) ?_
    refine e_end (by simp only [jA, jO, jN, seval, y29, vint, TyS, TyF, MapS, q1, q2] <;> with_reducible rfl) (by decide) ?_
    repeat (refine awp_seq ?_)
    refine awp_ret ⟨.inr rfl, _, _, (ares_cell 4 29 rfl Tryti29 (by decide) (by simp only [jL, jN, seval, vint, TyS, TyF, MapS, q1, q2] <;> with_reducible rfl)), ?_, (by first | exact (List.append_nil _).symm | rfl)⟩
    exact Ty.enc_drop1 _

end Go.Abs
set_option maxRecDepth 4000
namespace Go.Abs
open Go.Proofs

theorem indexFuncEq2 {f : FuncId} {caps : List PV} {H : Heap} {us : List Eq2} {p : Eq2 → Bool} (hc : CloB Try.prog Eq2.enc f caps H us p) (hl : us.length ≤ maxLen) : ACalls Try.prog 59 [.slice (us.map Eq2.enc) .none, .fn (.func f) [] caps] H fun r' H' => r' = vint (idxI p us) ∧ H' = H := by
  have hgo := hc.go
  refine keeps_of (N := 19) Try.func59 rfl rfl (by simp) (.int _ _) fun hb' => ?_
  repeat (refine awp_seq ?_)
  refine e_eval (by simp only [jA, jO, jN, seval, vint, TyS, TyF, MapS, EqS] <;> with_reducible rfl) (by decide) ?_
  repeat (refine awp_seq ?_)
  refine e_eval (by simp only [jA, jO, jN, seval, y22, y31, vint, TyS, TyF, MapS, EqS] <;> with_reducible rfl) (by decide) ?_
  repeat (refine awp_seq ?_)
  refine awp_forS (σ := Unit) (us.length) (fun (s : Unit) => [(0, .slice (us.map Eq2.enc) .none), (1, .fn (.func f) [] caps)]) [0, 1] (H) (fun (s : Unit) => []) (fun (i : Nat) (s : Unit) => (us.take i).any p = false) (()) ([]) rfl rfl rfl rfl rfl rfl rfl rfl rfl (by decide) (by decide) (by decide) (fun _ => rfl) (hl) ⟨(by first | rfl | (simp only [jN, seval, vint, TyS, TyF, MapS, EqS] <;> first | done | with_reducible rfl)), (by first | rfl | (simp only [jN, seval, vint, TyS, TyF, MapS, EqS] <;> first | done | with_reducible rfl)), (by first | rfl | (simp only [jN, seval, vint, TyS, TyF, MapS, EqS] <;> first | done | with_reducible rfl)), (by first | rfl | (simp only [jN, seval, vint, TyS, TyF, MapS, EqS] <;> first | done | with_reducible rfl)), trivial⟩ (by first | rfl | (simp only [jN, seval, vint, TyS, TyF, MapS, EqS] <;> first | done | with_reducible rfl)) (by simp) (fun _ _ _ => by first | exact Nat.zero_le _ | (simp only [List.length_append]; omega)) ?_ ?_ ?_
  · exact fun i s hg => ⟨by simp only [List.append_nil]; exact hb', .cons (bel_Eq2 _ _) (.cons (.fn _ _ _ (by simp) (fun c hc' => (hc.bel c hc').mono (by simp))) .nil)⟩
  · intro i s hi hg
    have g1 := ix_nat hi
    have g2 := get_enc Eq2.enc hi
    repeat (refine awp_seq ?_)
    refine e_eval (by simp only [jA, jO, jN, seval, vint, TyS, TyF, MapS, EqS, g1, Int.toNat_natCast, g2] <;> with_reducible rfl) (by decide) ?_
    repeat (refine awp_seq ?_)
    refine awp_region ?_
    refine e_take 5 (by simp only [jA, jO, jN, seval, y22, y31, vint, TyS, TyF, MapS, EqS, g1, Int.toNat_natCast, g2] <;> with_reducible rfl) (by decide) ?_
    refine aops_pure (by simp only [jC, jN, seval, vint, TyS, TyF, MapS, EqS, g1, Int.toNat_natCast, g2] <;> with_reducible rfl) (by simp only [jC, jN, seval, vint, TyS, TyF, MapS, EqS, g1, Int.toNat_natCast, g2]) (by decide) (by assumption) (hc.call _ (List.getElem_mem hi)) ?_
    refine aops_nil ?_
    repeat (refine awp_seq ?_)
    refine awp_cond rfl (by simp only [jN, seval, vint, TyS, TyF, MapS, EqS, g1, Int.toNat_natCast, g2] <;> with_reducible rfl) (fun b0 => ?_) (fun b0 => ?_)
    ·
      repeat (refine awp_seq ?_)
      refine e_eval (by simp only [jA, jO, jN, seval, vint, TyS, TyF, MapS, EqS, g1, Int.toNat_natCast, g2] <;> with_reducible rfl) (by decide) ?_
      repeat (refine awp_seq ?_)
      refine awp_ret ⟨.inr rfl, _, _, rfl, ?_, (by first | exact (List.append_nil _).symm | rfl)⟩
      rw [idxI_at hi b0 hg]; rfl
    ·
      repeat (refine awp_seq ?_)
      refine awp_skip ?_
      exact ⟨⟨rfl, rfl, trivial⟩, (), [], ⟨rfl, rfl, trivial⟩, by simp only [List.append_nil], any_take_succ hi hg b0⟩
  · intro s hg
    rw [List.take_length] at hg
    repeat (refine awp_seq ?_)
    refine e_eval (by simp only [jA, jO, jN, seval, vint, TyS, TyF, MapS, EqS] <;> with_reducible rfl) (by decide) ?_
    repeat (refine awp_seq ?_)
    refine awp_ret ⟨.inr rfl, _, _, rfl, ?_, (by first | exact (List.append_nil _).symm | rfl)⟩
    rw [idxI_none hg]; rfl

theorem containsFuncEq2 {f : FuncId} {caps : List PV} {H : Heap} {us : List Eq2} {p : Eq2 → Bool} (hc : CloB Try.prog Eq2.enc f caps H us p) (hl : us.length ≤ maxLen) : ACalls Try.prog 30 [.slice (us.map Eq2.enc) .none, .fn (.func f) [] caps] H fun r' H' => r' = .bool (us.any p) ∧ H' = H := by
  refine keeps_of (N := 9) Try.func30 rfl rfl (by simp) (.bool _) fun hb' => ?_
  repeat (refine awp_seq ?_)
  refine e_eval (by simp only [jA, jO, jN, seval, vint, TyS, TyF, MapS, EqS] <;> with_reducible rfl) (by decide) ?_
  repeat (refine awp_seq ?_)
  refine awp_region ?_
  refine e_take 2 (by simp only [jA, jO, jN, seval, vint, TyS, TyF, MapS, EqS] <;> with_reducible rfl) (by decide) ?_
  refine aops_pure (by simp only [jC, jN, seval, vint, TyS, TyF, MapS, EqS] <;> with_reducible rfl) (by simp only [jC, jN, seval, vint, TyS, TyF, MapS, EqS]) (by decide) Trygo59 (indexFuncEq2 hc hl) ?_
  refine e_end (by simp only [jA, jO, jN, seval, y3, vint, TyS, TyF, MapS, EqS] <;> with_reducible rfl) (by decide) ?_
  repeat (refine awp_seq ?_)
  refine awp_ret ⟨.inr rfl, _, _, rfl, ?_, (by first | exact (List.append_nil _).symm | rfl)⟩
  rw [← idxI_nonneg]; rfl

theorem bad_k (e : Eq2) (hl : e.l.W) (hr : e.r.W) : PC Try.prog 31 [e.enc] (.bool (bad e)) := by
  refine pc_of (N := 13) Try.func31 rfl rfl (by simp) (by simp [Eq2.bel]) (.bool _) ?_
  repeat (refine awp_seq ?_)
  refine e_eval (by simp only [jA, jO, jN, seval, y31, vint, TyS, TyF, MapS, EqS] <;> with_reducible rfl) (by decide) ?_
  repeat (refine awp_seq ?_)
  refine awp_region ?_
  refine aops_gstart ?_
  refine g_take 2 (by simp only [jG, jO, jN, seval, y29, y31, vint, TyS, TyF, MapS, EqS] <;> with_reducible rfl) (by decide) ?_
  refine aops_gpure (by simp only [jE, jN, seval, vint, TyS, TyF, MapS, EqS] <;> with_reducible rfl) (by simp only [jE, jN, seval, vint, TyS, TyF, MapS, EqS] <;> with_reducible rfl) (by simp only [jE, jN, seval, vint, TyS, TyF, MapS, EqS]) (by decide) Trygo21 (fun hc => validate e.l hl _) ?_
  refine g_take 4 (by simp only [jG, jO, jN, seval, y29, y31, y32, vint, TyS, TyF, MapS, EqS] <;> with_reducible rfl) (by decide) ?_
  refine aops_gpure (by simp only [jE, jN, seval, vint, TyS, TyF, MapS, EqS] <;> with_reducible rfl) (by simp only [jE, jN, seval, vint, TyS, TyF, MapS, EqS] <;> with_reducible rfl) (by simp only [jE, jN, seval, vint, TyS, TyF, MapS, EqS]) (by decide) Trygo21 (fun hc => validate e.r hr _) ?_
  refine g_end (by simp only [jG, jO, jN, seval, y32, vint, TyS, TyF, MapS, EqS] <;> with_reducible rfl) (by decide) (by repeat (first | exact Fin.base _ | with_reducible apply Fin.keep | apply Fin.drop)) ?_
  repeat (refine awp_seq ?_)
  refine awp_ret ⟨.inr rfl, _, rfl, ?_⟩
  simp only [jN, seval, vint, TyS, TyF, MapS, EqS]
  simp [bad]

theorem newSolver : ACalls Try.prog 32 [] [] fun r' H' => r' = .optr 1 0 ∧ H' = [.obj (.mapo []), .row [.mapp 0, .int .i64 0]] := by
  refine acalls_of (N := 4) Try.func32 rfl rfl (by simp) fun hb' => ?_
  repeat (refine awp_seq ?_)
  refine e_eval (by simp only [jA, jO, jN, seval, vint, TyS, TyF, MapS, EqS] <;> with_reducible rfl) (by decide) ?_
  repeat (refine awp_seq ?_)
  refine e_eval (by simp only [jA, jO, jN, seval, y29, y58, y60, vint, TyS, TyF, MapS, EqS] <;> with_reducible rfl) (by decide) ?_
  repeat (refine awp_seq ?_)
  refine awp_ret ⟨.inr rfl, _, rfl, ?_⟩
  simp only [jN, seval, vint, TyS, TyF, MapS, EqS]

end Go.Abs
