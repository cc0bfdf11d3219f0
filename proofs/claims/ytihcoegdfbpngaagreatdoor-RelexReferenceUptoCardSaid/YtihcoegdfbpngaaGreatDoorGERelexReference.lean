/- Part 5 of a proof of the law RelexReference: Go data as trees, the walks of the functions that the law reaches, the plain laws. -/
import Derived.Test.YtihcoegdfbpngaaGreatDoorGDRelexReference
set_option linter.unusedVariables false
set_option linter.unusedSimpArgs false
set_option maxRecDepth 4000
namespace Go.Abs
open Go.Proofs
theorem pre0 {H H' : Heap} (hG : Pre G0 H) (h : H'[0]? = (H ++ List.replicate 0 AObj.unborn)[0]?) : Pre G0 H' := fun k o hk => by
 cases k with
 | zero => rw [h]; simpa using hG 0 o hk
 | succ k => simp [G0, GC] at hk
theorem hasPrefix_two (s : List UInt8) (a b : UInt8) : Lib.hasPrefix s [a, b] = decide (s.take 2 = [a, b]) := by
 unfold Lib.hasPrefix
 match s with
 | [] => rfl
 | [x] => simp [List.isPrefixOf]
 | x :: y :: r =>
  rw [Bool.eq_iff_iff]
  simp [List.isPrefixOf]
  constructor <;> rintro ⟨h1, h2⟩ <;> exact ⟨h1.symm, h2.symm⟩
theorem strT_first (c : UInt8) (r : List UInt8) (h : c = 34) : strT (c :: r) = match litG false r with | some k => (k + 1, 106) | none => (runL notNl (c :: r), 108) := by
 subst h
 unfold strT
 simp only [List.drop_succ_cons, List.drop_zero]
 cases q : litG false r with
 | none => simp [runL, notNl, Nat.add_comm]
 | some k => rfl
theorem first_c (c : UInt8) (r : List UInt8) (hs : (c :: r).length ≤ maxLen) : PG G0 Tryz.prog 20 [.str (c :: r)] (.tup [vint ((firstT (c :: r)).1 : Int), vint (firstT (c :: r)).2]) := by
 have em : maxLen = 9223372036854775807 := by decide
 obtain ⟨s, hse⟩ : ∃ s, c :: r = s := ⟨_, rfl⟩
 have g2 : s[0]? = some c := by rw [← hse]; rfl
 have g1 : (0 < (s.length : Int)) = True := by rw [← hse]; simp
 have hst := fun h => strT_first c r h
 have h1 : 1 ≤ s.length := by rw [← hse]; simp
 rw [hse] at hs hst ⊢
 have hb := firstT_bd (s := s) (by rw [← hse]; simp)
 have k1 := scan_c s hs isSpB 43 zgo43 isSpace_c 0 (by omega)
 rw [Nat.zero_add, List.drop_zero] at k1
 have k2 := scan_c s hs notNl 46 zgo46 first1 0 (by omega)
 rw [Nat.zero_add, List.drop_zero] at k2
 have k3 := scan_c s hs wordB 48 zgo48 first2 0 (by omega)
 rw [Nat.zero_add, List.drop_zero] at k3
 have k4 := scan_c s hs isDigB 49 zgo49 isDigit_c 0 (by omega)
 rw [Nat.zero_add, List.drop_zero] at k4
 have hp := hasPrefix_c s [47, 47]
 rw [hasPrefix_two] at hp
 have hss := scanStr_c s hs h1
 have ho : oneL = [40, 41, 123, 125, 91, 93, 60, 62, 44, 59, 58, 46, 61, 43, 45, 42, 47, 33, 38, 124] := by kernel_rfl
 have hib := indexByte_c [40, 41, 123, 125, 91, 93, 60, 62, 44, 59, 58, 46, 61, 43, 45, 42, 47, 33, 38, 124] c
 have hin := indexByte_nonneg [40, 41, 123, 125, 91, 93, 60, 62, 44, 59, 58, 46, 61, 43, 45, 42, 47, 33, 38, 124] c
 have hfd : firstT s = if isSpB c then (runL isSpB s, 101) else if s.take 2 = [47, 47] then (runL notNl s, 102) else if isLetB c then (if kwL.contains (s.take (runL wordB s)) then (runL wordB s, 104) else (runL wordB s, 103)) else if isDigB c then (runL isDigB s, 105) else if c = 34 then strT s else if s.length > 1 ∧ twoL.contains (s.take 2) = true then (2, 107) else if oneL.contains c then (1, 107) else (1, 108) := by
  by_cases h : c = 34
  ·rw [hst h, ← hse]; rfl
  ·rw [← hse]; unfold firstT; simp only [h, if_false]
 rw [ho] at hfd
 refine pg_of (N := 56) Tryz.func20 rfl rfl (by simp) (.tup _ (by simp [Bel.int])) fun H hG hb' => ?_
 refine qE0 ?_
 refine qE (a3 y9 g1 g2) ?_
 refine qB ?_
 refine qT0 1 ?_
 refine qP0 zgo43 (isSpace_c c _) ?_
 refine qX0 ?_
 refine qI0 (fun bt8 => ?_) (fun bt8 => ?_)
 ·-- if t8
  rw [hfd, if_pos bt8]
  refine qT0 1 ?_
  refine qP0 zgo44 (k1 _) ?_
  refine qX0 ?_
  repeat refine wS ?_
  refine wT ⟨.inr rfl, _, _, (ares_two (.tmp 2) (.tmp 3) rfl (ares_tmp1 (by decide)) (ares_tmp1 (by decide))), ?_, (by first | exact (List.append_nil _).symm | rfl)⟩
  simp only [jN, seval, vint, qC]
  try rfl
 ·-- else t8
  rw [if_neg (by rw [bt8]; simp)] at hfd
  refine qT0 1 ?_
  refine qP0 zgo45 (hp _) ?_
  refine qX0 ?_
  refine qI0 (fun bt13 => ?_) (fun bt13 => ?_)
  ·-- if t13
   rw [hfd, if_pos (of_decide_eq_true bt13)]
   refine qT0 1 ?_
   refine qP0 zgo44 (k2 _) ?_
   refine qX0 ?_
   repeat refine wS ?_
   refine wT ⟨.inr rfl, _, _, (ares_two (.tmp 2) (.tmp 3) rfl (ares_tmp1 (by decide)) (ares_tmp1 (by decide))), ?_, (by first | exact (List.append_nil _).symm | rfl)⟩
   simp only [jN, seval, vint, qC]
   try rfl
  ·-- else t13
   rw [if_neg (of_decide_eq_false bt13)] at hfd
   refine qT0 1 ?_
   refine qP0 zgo47 (isLetter_c c _) ?_
   refine qX0 ?_
   refine qI0 (fun bt18 => ?_) (fun bt18 => ?_)
   ·-- if t18
    rw [if_pos bt18] at hfd
    obtain ⟨n, hn⟩ : ∃ n, runL wordB s = n := ⟨_, rfl⟩
    have hnl := runL_le wordB s
    rw [hn] at hnl k3 hfd
    have h3 : ((0 : Int) ≤ n ∧ (n : Int) ≤ s.length) = True := by simp; omega
    have h4 : (n ≤ s.length) = True := by simp; omega
    have h5 : ((n : Int) ≤ (s.length : Int)) = True := by simp; omega
    have h6 : ((0 : Int) ≤ (n : Int)) = True := by simp
    refine qT0 1 ?_
    refine qP0 zgo44 (k3 _) ?_
    refine qX0 ?_
    refine qL0 [0, 5] ?_
    repeat refine wS ?_
    refine awp_draw 0 (by kernel_rfl) ?_
    refine dops_keep (bm := [0, 0, 0, 6, 15]) ([0]) (by kernel_rfl) (by simp only [kC, seval, vint, qC, jS, h3, h4, h5, h6, tN, List.drop_zero] <;> with_reducible rfl) (by simp only [kC, seval, vint, qC, jS, h3, h4, h5, h6, tN, List.drop_zero]) (by decide) zgo51 (fun H' hr => keywords_c H' (pre0 hG (hr 0 (by simp)))) (by simp only [jD, jO, jN, seval, vint, qC, jS, h3, h4, h5, h6, tN, List.drop_zero] <;> first | done | rfl) ?_
    refine d_take (bm := [0, 0, 0, 6, 15]) 3 (fresh := (H.length)) (by kernel_rfl) (by simp only [jD, jO, jN, seval, y9, vint, qC, jS, h3, h4, h5, h6, tN, List.drop_zero] <;> with_reducible rfl) (by decide) (by decide) ?_
    refine dops_keep (bm := [0, 0, 0, 6, 15]) ([]) (by kernel_rfl) (by simp only [kC, seval, vint, qC, jS, h3, h4, h5, h6, tN, List.drop_zero] <;> with_reducible rfl) (by simp only [kC, seval, vint, qC, jS, h3, h4, h5, h6, tN, List.drop_zero]) (by decide) zgo50 (fun H' _ => contStr kwL (s.take n) (by decide) H') (by simp only [jD, jO, jN, seval, vint, qC, jS, h3, h4, h5, h6, tN, List.drop_zero] <;> first | done | rfl) ?_
    refine dops_nil ?_
    refine qI0 (fun bt27 => ?_) (fun bt27 => ?_)
    ·-- if t27
     rw [if_pos bt27] at hfd
     rw [hfd]
     refine qE0 ?_
     repeat refine wS ?_
     refine wT ⟨.inr rfl, _, _, (ares_two (.tmp 2) (.tmp 3) rfl (ares_tmp1 (by decide)) (ares_tmp1 (by decide))), ?_, (by first | exact (List.append_nil _).symm | rfl)⟩
     simp only [jN, seval, vint, qC]
     try rfl
    ·-- else t27
     rw [if_neg (by rw [bt27]; simp)] at hfd
     rw [hfd]
     refine qK ?_
     refine qE0 ?_
     repeat refine wS ?_
     refine wT ⟨.inr rfl, _, _, (ares_two (.tmp 2) (.tmp 3) rfl (ares_tmp1 (by decide)) (ares_tmp1 (by decide))), ?_, (by first | exact (List.append_nil _).symm | rfl)⟩
     simp only [jN, seval, vint, qC]
     try rfl
   ·-- else t18
    rw [if_neg (by rw [bt18]; simp)] at hfd
    refine qT0 1 ?_
    refine qP0 zgo49 (isDigit_c c _) ?_
    refine qX0 ?_
    refine qI0 (fun bt30 => ?_) (fun bt30 => ?_)
    ·-- if t30
     rw [hfd, if_pos bt30]
     refine qL0 [0] ?_
     refine qT0 1 ?_
     refine qP0 zgo44 (k4 _) ?_
     refine qX0 ?_
     repeat refine wS ?_
     refine wT ⟨.inr rfl, _, _, (ares_two (.tmp 2) (.tmp 3) rfl (ares_tmp1 (by decide)) (ares_tmp1 (by decide))), ?_, (by first | exact (List.append_nil _).symm | rfl)⟩
     simp only [jN, seval, vint, qC]
     try rfl
    ·-- else t30
     rw [if_neg (by rw [bt30]; simp)] at hfd
     have e34 : decide ((c.toNat : Int) = 34) = (c == 34) := u8_eq c 34 (by decide)
     refine qL0 [0, 4] ?_
     refine qE (a2 y5 e34) ?_
     refine qI0 (fun bt35 => ?_) (fun bt35 => ?_)
     ·-- if t35
      rw [hfd, if_pos (by simpa using bt35)]
      refine qT0 1 ?_
      refine qP0 zgo52 (hss _) ?_
      refine qX0 ?_
      repeat refine wS ?_
      refine wT ⟨.inr rfl, _, _, (ares_two (.tmp 2) (.tmp 3) rfl (ares_tmp1 (by decide)) (ares_tmp1 (by decide))), ?_, (by first | exact (List.append_nil _).symm | rfl)⟩
      simp only [jN, seval, vint, qC]
      try rfl
     ·-- else t35
      rw [if_neg (by simpa using bt35)] at hfd
      have h2 : s.length > 1 ∨ ¬ s.length > 1 := by omega
      rcases h2 with h2 | h2
      ·-- case
       have l2 : (1 < (s.length : Int)) = True := by simp; omega
       have l3 : (2 ≤ (s.length : Int)) = True := by simp; omega
       repeat refine wS ?_
       refine dp_draw (by kernel_rfl) ?_
       refine dp_take 4 (by simp only [jP, jO, jN, seval, y3, y9, vint, qC, l2, l3, decide_true, List.drop_zero] <;> with_reducible rfl) (by decide) ?_
       refine dp_keep (by simp only [kE, seval, vint, qC, l2, l3, decide_true, List.drop_zero] <;> with_reducible rfl) (by simp only [kE, seval, vint, qC, l2, l3, decide_true, List.drop_zero] <;> with_reducible rfl) (by simp only [kE, seval, vint, qC, l2, l3, decide_true, List.drop_zero]) (by decide) zgo53 (fun hc => two_c _ hG) ?_
       refine dp_take 2 (by simp only [jP, jO, jN, seval, y9, jS, vint, qC, l2, l3, decide_true, List.drop_zero] <;> with_reducible rfl) (by decide) ?_
       refine dp_keep (by simp only [kE, seval, vint, qC, l2, l3, decide_true, List.drop_zero] <;> with_reducible rfl) (by simp only [kE, seval, vint, qC, l2, l3, decide_true, List.drop_zero] <;> with_reducible rfl) (by simp only [kE, seval, vint, qC, l2, l3, decide_true, List.drop_zero]) (by decide) zgo50 (fun hc => contStr twoL (s.take 2) (by decide) _) ?_
       refine dp_end (by simp only [jP, jO, jN, seval, vint, qC, l2, l3, decide_true, List.drop_zero] <;> with_reducible rfl) (by decide) (by repeat (first | exact Fin.base _ | with_reducible apply Fin.keep | apply Fin.drop)) ?_
       repeat refine wS ?_
       refine wC rfl (by simp only [jN, seval, vint, qC, l2, l3, decide_true, List.drop_zero] <;> with_reducible rfl) (fun bt42 => ?_) (fun bt42 => ?_)
       ·-- if t42
        rw [hfd, if_pos ⟨h2, bt42⟩]
        repeat refine wS ?_
        refine eE (by simp only [kA, seval, vint, qC, l2, l3, decide_true, List.drop_zero] <;> with_reducible rfl) (by decide) ?_
        repeat refine wS ?_
        refine wT ⟨.inr rfl, _, _, (ares_two (.tmp 2) (.tmp 3) rfl (ares_tmp1 (by decide)) (ares_tmp1 (by decide))), ?_, (by first | exact (List.append_nil _).symm | rfl)⟩
        simp only [jN, seval, vint, qC]
        try rfl
       ·-- else t42
        rw [if_neg (by rw [bt42]; simp)] at hfd
        repeat refine wS ?_
        refine wR ?_
        refine eT 1 (by simp only [kA, seval, vint, qC, l2, l3, decide_true, List.drop_zero, hin] <;> with_reducible rfl) (by decide) ?_
        refine oP (by simp only [kC, seval, vint, qC, l2, l3, decide_true, List.drop_zero, hin] <;> with_reducible rfl) (by simp only [kC, seval, vint, qC, l2, l3, decide_true, List.drop_zero, hin]) (by decide) zgo54 (hib _) ?_
        refine e_end (by simp only [kA, seval, y3, vint, qC, l2, l3, decide_true, List.drop_zero, hin] <;> with_reducible rfl) (by decide) ?_
        repeat refine wS ?_
        refine wC rfl (by simp only [jN, seval, vint, qC, l2, l3, decide_true, List.drop_zero] <;> with_reducible rfl) (fun bt52 => ?_) (fun bt52 => ?_)
        ·-- if t52
         rw [hfd, if_pos bt52]
         refine wL [] (by simp only [jN, seval, vint, qC, l2, l3, decide_true, List.drop_zero] <;> with_reducible rfl) ?_
         repeat refine wS ?_
         refine eE (by simp only [kA, seval, vint, qC, l2, l3, decide_true, List.drop_zero] <;> with_reducible rfl) (by decide) ?_
         repeat refine wS ?_
         refine wT ⟨.inr rfl, _, _, (ares_two (.tmp 2) (.tmp 3) rfl (ares_tmp1 (by decide)) (ares_tmp1 (by decide))), ?_, (by first | exact (List.append_nil _).symm | rfl)⟩
         simp only [jN, seval, vint, qC]
         try rfl
        ·-- else t52
         rw [hfd, if_neg (by rw [bt52]; simp)]
         refine qK ?_
         refine wL [] (by simp only [jN, seval, vint, qC, l2, l3, decide_true, List.drop_zero] <;> with_reducible rfl) ?_
         repeat refine wS ?_
         refine eE (by simp only [kA, seval, vint, qC, l2, l3, decide_true, List.drop_zero] <;> with_reducible rfl) (by decide) ?_
         repeat refine wS ?_
         refine wT ⟨.inr rfl, _, _, (ares_two (.tmp 2) (.tmp 3) rfl (ares_tmp1 (by decide)) (ares_tmp1 (by decide))), ?_, (by first | exact (List.append_nil _).symm | rfl)⟩
         simp only [jN, seval, vint, qC]
         try rfl
      ·-- case
       have l2 : (1 < (s.length : Int)) = False := by simp; omega
       rw [if_neg (fun q => h2 q.1)] at hfd
       repeat refine wS ?_
       refine dp_draw (by kernel_rfl) ?_
       refine pT 4 (a4 y3 y9 l2 decide_false) ?_
       refine pS (a2 l2 decide_false) ?_
       refine pS (a2 l2 decide_false) ?_
       refine pS (a2 l2 decide_false) ?_
       refine pS (a2 l2 decide_false) ?_
       refine pX (a2 l2 decide_false) ?_
       refine qF (a2 l2 decide_false) ?_
       refine qT 1 (a3 l2 decide_false hin) ?_
       refine qP (a3 l2 decide_false hin) zgo54 (hib _) ?_
       refine qX (a4 y3 l2 decide_false hin) ?_
       refine qI (a2 l2 decide_false) (fun bt52 => ?_) (fun bt52 => ?_)
       ·-- if t52
        rw [hfd, if_pos bt52]
        refine qL [] (a2 l2 decide_false) ?_
        refine qE (a2 l2 decide_false) ?_
        repeat refine wS ?_
        refine wT ⟨.inr rfl, _, _, (ares_two (.tmp 2) (.tmp 3) rfl (ares_tmp1 (by decide)) (ares_tmp1 (by decide))), ?_, (by first | exact (List.append_nil _).symm | rfl)⟩
        simp only [jN, seval, vint, qC]
        try rfl
       ·-- else t52
        rw [hfd, if_neg (by rw [bt52]; simp)]
        refine qK ?_
        refine qL [] (a2 l2 decide_false) ?_
        refine qE (a2 l2 decide_false) ?_
        repeat refine wS ?_
        refine wT ⟨.inr rfl, _, _, (ares_two (.tmp 2) (.tmp 3) rfl (ares_tmp1 (by decide)) (ares_tmp1 (by decide))), ?_, (by first | exact (List.append_nil _).symm | rfl)⟩
        simp only [jN, seval, vint, qC]
        try rfl
end Go.Abs
namespace Go.Abs
open Go.Proofs
theorem first_s {s : List UInt8} (hs : s.length ≤ maxLen) (h : s ≠ []) : PG G0 Tryz.prog 20 [.str s] (.tup [vint ((firstT s).1 : Int), vint (firstT s).2]) := by
 cases s with
 | nil => exact absurd rfl h
 | cons c r => exact first_c c r hs
end Go.Abs
namespace Go.Abs
open Go.Proofs
theorem tokL_fuel : ∀ (n m : Nat) (s : List UInt8), s.length ≤ n → s.length ≤ m → tokL n s = tokL m s
 | 0, 0, s, _, _ => rfl
 | 0, m + 1, s, h, _ => by rw [List.length_eq_zero_iff.1 (by omega : s.length = 0)]; rfl
 | n + 1, 0, s, _, h => by rw [List.length_eq_zero_iff.1 (by omega : s.length = 0)]; rfl
 | n + 1, m + 1, s, h1, h2 => by
  unfold tokL
  by_cases h : s = []
  ·rw [if_pos h, if_pos h]
  ·rw [if_neg h, if_neg h]
   have hb := firstT_bd h
   rw [tokL_fuel n m _ (by rw [List.length_drop]; omega) (by rw [List.length_drop]; omega)]
def toks (s : List UInt8) : List Tk := tokL s.length s
theorem toks_nil : toks [] = [] := rfl
theorem toks_step {s : List UInt8} (h : s ≠ []) : toks s = ⟨(firstT s).2, s.take (firstT s).1⟩ :: toks (s.drop (firstT s).1) := by
 have hb := firstT_bd h
 unfold toks
 obtain ⟨n, hn⟩ : ∃ n, s.length = n + 1 := ⟨s.length - 1, by omega⟩
 conv => lhs; rw [hn]; unfold tokL
 rw [if_neg h, tokL_fuel n (s.drop (firstT s).1).length _ (by rw [List.length_drop]; omega) (Nat.le_refl _)]
theorem tokz_c (s : List UInt8) (hs : s.length ≤ maxLen) : PG G0 Tryz.prog 15 [.str s] (.tup [.slice ((if (s.length : Int) > 2000 then [] else toks s).map Tk.enc) .none, vint (if (s.length : Int) > 2000 then 2 else 0)]) := by
 have em : maxLen = 9223372036854775807 := by decide
 refine pg_of (N := 30) Tryz.func15 rfl rfl (by simp) (.tup _ (by simp [Bel.int, bel_Tk])) fun H hG hb' => ?_
 refine qE0 ?_
 refine qE (a2 y3 y9) ?_
 refine qI0 (fun bt9 => ?_) (fun bt9 => ?_)
 ·-- if t9
  rw [if_pos (of_decide_eq_true bt9), if_pos (of_decide_eq_true bt9)]
  refine qE0 ?_
  repeat refine wS ?_
  refine wT ⟨.inr rfl, _, _, (ares_two (.tmp 2) (.tmp 3) rfl (ares_tmp1 (by decide)) (ares_tmp1 (by decide))), ?_, (by first | exact (List.append_nil _).symm | rfl)⟩
  simp only [jN, seval, vint, qC]
  try rfl
 ·-- else t9
  rw [if_neg (of_decide_eq_false bt9), if_neg (of_decide_eq_false bt9)]
  have hl2 := of_decide_eq_false bt9
  refine qK ?_
  refine qE0 ?_
  repeat refine wS ?_
  refine awp_retok 4 2 (es := []) (by simp only [kC, seval, vint, qC] <;> rfl) ?_
  refine awp_block ?_
  refine awp_loopS (σ := List Tk × List UInt8) (fun (q : List Tk × List UInt8) => [(0, .str q.2), (4, .slice (q.1.map Tk.enc) (.tok H.length))]) (H) (fun (q : List Tk × List UInt8) => [.buf q.1.length 2]) (fun (q : List Tk × List UInt8) => q.2.length) (fun (q : List Tk × List UInt8) => q.1.length + q.2.length ≤ s.length ∧ toks s = q.1 ++ toks q.2) (([], s)) ([]) ⟨(by first | rfl | (simp only [jN, seval, vint, qC] <;> first | done | with_reducible rfl)), (by first | rfl | (simp only [jN, seval, vint, qC] <;> first | done | with_reducible rfl)), trivial⟩ (by first | rfl | (simp only [jN, seval, vint, qC] <;> first | done | with_reducible rfl)) (⟨by simp, by simp⟩) (fun _ _ => by first | exact Nat.zero_le _ | (simp only [List.length_append]; omega)) ?_ ?_
  ·exact fun q hg => ⟨by refine hbel_app' hb' (by simp) ?_; exact HBel.cons trivial (hbel_nil _), by repeat (first | exact BelL.nil | refine BelL.cons (by first | exact bel_Tk_tok _ (by simp only [List.length_append, List.length_cons, List.length_nil]; omega) | exact Tk.bel _ _ | exact bel_nil0 _ | exact bel_nil1 _ | exact Bel.int _ _ | exact Bel.bool _ | exact Bel.str _ | exact Bel.nilp | exact Bel.nilfn | exact Bel.optr _ _ (by simp) | exact bel_nil0 _ | exact bel_nil1 _ | exact bel_fn0 _ _ | assumption) ?_)⟩
  ·intro q hg
   obtain ⟨ts, r⟩ := q
   obtain ⟨hq1, hq2⟩ := hg
   simp only at hq1 hq2
   refine qE (a2 y3 y9) ?_
   refine qI0 (fun bt12 => ?_) (fun bt12 => ?_)
   ·-- if t12
    have hne : r ≠ [] := by rintro rfl; simp at bt12
    have hb := firstT_bd hne
    have hst := toks_step hne
    have hf := first_s (s := r) (by omega) hne
    obtain ⟨n, hn⟩ : ∃ n, (firstT r).1 = n := ⟨_, rfl⟩
    obtain ⟨kd, hkd⟩ : ∃ kd, (firstT r).2 = kd := ⟨_, rfl⟩
    rw [hn] at hb hf hst
    rw [hkd] at hf hst
    have h3 : ((0 : Int) ≤ n ∧ (n : Int) ≤ r.length) = True := by simp; omega
    have h4 : (n ≤ r.length) = True := by simp; omega
    have hap := app_Tk (us := ts) (u := ⟨kd, r.take n⟩) (id := H.length) (tl := .full) (by omega)
    refine qK ?_
    refine qB ?_
    refine qT0 1 ?_
    refine qP0 zgo20 (hf _ (hG.app _)) ?_
    refine qX0 ?_
    repeat refine wS ?_
    refine eE (by simp only [kA, seval, y9, y24, y32, vint, qC, jS, h3, h4, hap, tN, List.drop_zero] <;> with_reducible rfl) (by decide) ?_
    refine qL0 [0, 4, 5] ?_
    repeat refine wS ?_
    refine eE (by simp only [kA, seval, y9, vint, qC, jS, h3, h4, tN, List.take_length] <;> with_reducible rfl) (by decide) ?_
    try simp only [thenQ, blockQ]
    exact ⟨(ts ++ [⟨kd, r.take n⟩], r.drop n), _, by show (r.drop n).length < r.length; rw [List.length_drop]; omega, ⟨rfl, rfl, trivial⟩, by simp only [jN, seval, vint, qC, List.length_append, List.length_singleton] <;> rfl, by simp only [List.length_append, List.length_singleton, List.length_drop]; omega, by rw [hq2, hst]; simp⟩
   ·-- else t12
    have hr : r = [] := by cases r with | nil => rfl | cons a l => simp at bt12 <;> omega
    have hv : toks s = ts := by rw [hq2, hr, toks_nil, List.append_nil]
    rw [hv]
    repeat refine wS ?_
    refine awp_exit ?_
    simp only [thenQ, blockQ, reduceIte, Nat.reduceEqDiff, Nat.succ_ne_self, if_true, if_false]
    refine qE0 ?_
    repeat refine wS ?_
    refine wT ⟨.inr rfl, _, _, (ares_two (.tmp 2) (.tmp 3) rfl (ares_tmp1 (by decide)) (ares_tmp1 (by decide))), ?_, (by first | exact (List.append_nil _).symm | rfl)⟩
    simp only [jN, seval, vint, qC]
    try rfl
end Go.Abs
namespace Go.Abs
theorem runL_loc {p : UInt8 → Bool} {x : UInt8} {v v' : List UInt8} : ∀ u : List UInt8, runL p (u ++ x :: v) = u.length → runL p (u ++ x :: v') = u.length
 | [], h => by
  simp only [List.nil_append, runL, List.length_nil] at h ⊢
  split at h
  ·omega
  ·rw [if_neg ‹_›]
 | c :: u, h => by
  simp only [List.cons_append, runL, List.length_cons] at h ⊢
  split at h
  ·rename_i hc; rw [if_pos hc, runL_loc (x := x) (v := v) u (by omega)]
  ·omega
theorem litG_loc {v v' : List UInt8} : ∀ (u : List UInt8) (e : Bool), litG e (u ++ v) = some u.length → litG e (u ++ v') = some u.length
 | [], e, h => by
  have := litG_le _ _ _ h
  simp at this
 | c :: u, e, h => by
  simp only [List.cons_append, litG, List.length_cons] at h ⊢
  by_cases h1 : c = 10
  ·rw [if_pos h1] at h; cases h
  ·rw [if_neg h1] at h ⊢
   by_cases h2 : c = 34 ∧ e = false
   ·rw [if_pos h2] at h ⊢; exact h
   ·rw [if_neg h2] at h ⊢
    cases hq : litG (decide (c = 92) && !e) (u ++ v) with
    | none => rw [hq] at h; cases h
    | some m =>
     rw [hq] at h
     simp only [Option.map_some, Option.some.injEq] at h
     have hm : m = u.length := by omega
     subst hm
     rw [litG_loc u _ hq]; rfl
theorem litG_none_loc {x : UInt8} {v v' : List UInt8} : ∀ (u : List UInt8) (e : Bool), litG e (u ++ x :: v) = none → runL notNl (u ++ x :: v) = u.length → litG e (u ++ x :: v') = none
 | [], e, h, hr => by
  simp only [List.nil_append, runL, List.length_nil] at hr
  split at hr
  ·omega
  ·rename_i hx
   have hx : x = 10 := by simpa [notNl] using hx
   simp [litG, hx]
 | c :: u, e, h, hr => by
  simp only [List.cons_append, runL, List.length_cons] at hr
  simp only [List.cons_append, litG] at h ⊢
  split at hr
  ·by_cases h1 : c = 10
   ·rw [if_pos h1]
   ·rw [if_neg h1] at h ⊢
    by_cases h2 : c = 34 ∧ e = false
    ·rw [if_pos h2] at h; cases h
    ·rw [if_neg h2] at h ⊢
     cases hq : litG (decide (c = 92) && !e) (u ++ x :: v) with
     | none => rw [litG_none_loc u _ hq (by omega)]; rfl
     | some m => rw [hq] at h; cases h
  ·omega
theorem firstT_loc {x : UInt8} {u v v' : List UInt8} (h : (firstT (u ++ x :: v)).1 = u.length) (hu : u ≠ []) : firstT (u ++ x :: v') = firstT (u ++ x :: v) := by
 cases u with
 | nil => exact absurd rfl hu
 | cons c u =>
 have hr : ∀ p : UInt8 → Bool, runL p ((c :: u) ++ x :: v) = (c :: u).length → runL p ((c :: u) ++ x :: v') = runL p ((c :: u) ++ x :: v) := fun p h => by rw [h]; exact runL_loc _ h
 have ht2 : ((c :: u) ++ x :: v').take 2 = ((c :: u) ++ x :: v).take 2 := by cases u <;> simp
 have hl : ∀ w : List UInt8, ((c :: u) ++ x :: w).length > 1 := fun w => by simp only [List.length_append, List.length_cons]; omega
 have htk : ∀ w : List UInt8, ((c :: u) ++ x :: w).take (c :: u).length = c :: u := fun w => by simp
 simp only [List.cons_append] at h hr ht2 hl htk ⊢
 unfold firstT at h ⊢
 simp only at h ⊢
 rw [ht2]
 by_cases c1 : isSpB c = true
 ·simp only [c1, if_true] at h ⊢; rw [hr _ h]
 ·rw [if_neg c1] at h; rw [if_neg c1, if_neg c1]
  by_cases c2 : (c :: (u ++ x :: v)).take 2 = [47, 47]
  ·rw [if_pos c2] at h; rw [if_pos c2, if_pos c2, hr _ h]
  ·rw [if_neg c2] at h; rw [if_neg c2, if_neg c2]
   by_cases c3 : isLetB c = true
   ·rw [if_pos c3] at h; rw [if_pos c3, if_pos c3]
    have hw : runL wordB (c :: (u ++ x :: v)) = (c :: u).length := by
     split at h <;> exact h
    rw [hr _ hw, hw, htk, htk]
   ·rw [if_neg c3] at h; rw [if_neg c3, if_neg c3]
    by_cases c4 : isDigB c = true
    ·rw [if_pos c4] at h; rw [if_pos c4, if_pos c4, hr _ h]
    ·rw [if_neg c4] at h; rw [if_neg c4, if_neg c4]
     by_cases c5 : c = 34
     ·rw [if_pos c5] at h; rw [if_pos c5, if_pos c5]
      cases hq : litG false (u ++ x :: v) with
      | some k =>
       rw [hq] at h
       simp only [List.length_cons] at h
       have hk : k = u.length := by omega
       subst hk
       rw [litG_loc u _ hq]
      | none =>
       rw [hq] at h
       simp only at h
       have hn : litG false (u ++ x :: v') = none := by
        refine litG_none_loc u _ hq ?_
        simp only [runL, List.length_cons] at h
        split at h <;> omega
       rw [hn]
       simp only
       rw [hr _ h]
     ·rw [if_neg c5, if_neg c5]
      simp only [hl, true_and]
def stL : Nat → List Tk → List Nat
 | _, [] => []
 | o, t :: ts => o :: stL (o + t.text.length) ts
def enL : Nat → List Tk → List Nat
 | _, [] => []
 | o, t :: ts => (o + t.text.length) :: enL (o + t.text.length) ts
def szL : List Tk → Nat
 | [] => 0
 | t :: ts => t.text.length + szL ts
theorem szL_app : ∀ a b, szL (a ++ b) = szL a + szL b
 | [], b => by simp [szL]
 | t :: a, b => by simp only [List.cons_append, szL, szL_app a b]; omega
theorem stL_length : ∀ ts o, (stL o ts).length = ts.length
 | [], o => rfl
 | t :: ts, o => by simp [stL, stL_length ts]
theorem enL_length : ∀ ts o, (enL o ts).length = ts.length
 | [], o => rfl
 | t :: ts, o => by simp [enL, enL_length ts]
theorem stL_get : ∀ (ts : List Tk) (o i : Nat), i < ts.length → (stL o ts)[i]? = some (o + szL (ts.take i))
 | t :: ts, o, 0, h => by simp [stL, szL]
 | t :: ts, o, i + 1, h => by
  simp only [stL, List.getElem?_cons_succ, List.take_succ_cons, szL]
  rw [stL_get ts _ i (by simpa using h)]
  congr 1; omega
theorem enL_get : ∀ (ts : List Tk) (o i : Nat), i < ts.length → (enL o ts)[i]? = some (o + szL (ts.take (i + 1)))
 | t :: ts, o, 0, h => by simp [enL, szL]
 | t :: ts, o, i + 1, h => by
  simp only [enL, List.getElem?_cons_succ]
  rw [enL_get ts _ i (by simpa using h)]
  rw [List.take_succ_cons, szL]
  congr 1; omega
def PosL (ts : List Tk) : Prop := ∀ t ∈ ts, 0 < t.text.length
theorem szL_take_lt {ts : List Tk} (hp : PosL ts) {i j : Nat} (h : i < j) (hj : j ≤ ts.length) : szL (ts.take i) < szL (ts.take j) := by
 have e : ts.take j = ts.take i ++ (ts.take j).drop i := by
  rw [show ts.take i = (ts.take j).take i by rw [List.take_take]; congr 1; omega, List.take_append_drop]
 rw [e, szL_app]
 have : (ts.take j).drop i ≠ [] := by
  intro q
  have := congrArg List.length q
  simp only [List.length_drop, List.length_take, List.length_nil] at this; omega
 obtain ⟨t, r, hq⟩ := List.exists_cons_of_ne_nil this
 rw [hq]
 have hm : t ∈ ts := List.mem_of_mem_take (List.mem_of_mem_drop (hq ▸ List.mem_cons_self))
 have := hp t hm
 simp only [szL]; omega
theorem szL_take_le {ts : List Tk} {i j : Nat} (h : i ≤ j) : szL (ts.take i) ≤ szL (ts.take j) := by
 have e : ts.take j = ts.take i ++ (ts.take j).drop i := by
  rw [show ts.take i = (ts.take j).take i by rw [List.take_take]; congr 1; omega, List.take_append_drop]
 rw [e, szL_app]; omega
theorem toks_pos : ∀ (n : Nat) (s : List UInt8), s.length ≤ n → PosL (toks s)
 | 0, s, h => by
  obtain rfl : s = [] := List.eq_nil_of_length_eq_zero (by omega)
  rw [toks_nil]; intro t ht; cases ht
 | n + 1, s, h => by
  by_cases hs : s = []
  ·subst hs; rw [toks_nil]; intro t ht; cases ht
  ·rw [toks_step hs]
   have hb := firstT_bd hs
   intro t ht
   rcases List.mem_cons.1 ht with rfl | ht
   ·simp only [List.length_take]; omega
   ·exact toks_pos n _ (by rw [List.length_drop]; omega) t ht
theorem toks_sz : ∀ (n : Nat) (s : List UInt8), s.length ≤ n → szL (toks s) = s.length
 | 0, s, h => by
  obtain rfl : s = [] := List.eq_nil_of_length_eq_zero (by omega)
  rw [toks_nil]; rfl
 | n + 1, s, h => by
  by_cases hs : s = []
  ·subst hs; rw [toks_nil]; rfl
  ·rw [toks_step hs]
   have hb := firstT_bd hs
   simp only [szL]
   rw [toks_sz n _ (by rw [List.length_drop]; omega), List.length_take, List.length_drop]; omega
theorem toks_drop : ∀ (i : Nat) (s : List UInt8), i ≤ (toks s).length → (toks s).drop i = toks (s.drop (szL ((toks s).take i)))
 | 0, s, h => by simp [szL]
 | i + 1, s, h => by
  by_cases hs : s = []
  ·subst hs; rw [toks_nil] at h; simp at h
  ·have e := toks_step hs
   have hb := firstT_bd hs
   rw [e] at h ⊢
   simp only [List.length_cons] at h
   rw [List.drop_succ_cons, toks_drop i _ (by omega), List.take_succ_cons, szL, List.drop_drop]
   congr 2
   simp only [List.length_take]; omega
theorem toks_pre : ∀ (i : Nat) (s s' : List UInt8) (P : Nat), s.take P = s'.take P → i ≤ (toks s).length → szL ((toks s).take i) < P ∨ i = 0 → P ≤ s.length → P ≤ s'.length → toks s' = (toks s).take i ++ toks (s'.drop (szL ((toks s).take i)))
 | 0, s, s', P, _, _, _, _, _ => by simp [szL]
 | i + 1, s, s', P, hP, hi, hz, h1, h2 => by
  by_cases hs : s = []
  ·subst hs; rw [toks_nil] at hi; simp at hi
  ·have e := toks_step hs
   have hb := firstT_bd hs
   have hz : szL ((toks s).take (i + 1)) < P := by rcases hz with h | h; exact h; omega
   rw [e] at hi hz ⊢
   simp only [List.length_cons] at hi
   rw [List.take_succ_cons, szL] at hz ⊢
   have hlt : ((s.take (firstT s).1)).length = (firstT s).1 := by rw [List.length_take]; omega
   rw [hlt] at hz ⊢
   generalize hn : (firstT s).1 = n at hb hz hlt ⊢
   have hnP : n + 1 ≤ P := by omega
   have hx : n < s.length := by omega
   have hx' : n < s'.length := by omega
   have et : s.take (n + 1) = s'.take (n + 1) := by
    have := congrArg (List.take (n + 1)) hP
    rwa [List.take_take, List.take_take, Nat.min_eq_left hnP] at this
   have e1 : s.take (n + 1) = s.take n ++ [s[n]] := by rw [List.take_add_one, List.getElem?_eq_getElem hx]; rfl
   have e2 : s'.take (n + 1) = s'.take n ++ [s'[n]] := by rw [List.take_add_one, List.getElem?_eq_getElem hx']; rfl
   have e3 : s = s.take n ++ s[n] :: s.drop (n + 1) := by rw [← List.drop_eq_getElem_cons hx, List.take_append_drop]
   have e4 : s' = s.take n ++ s[n] :: s'.drop (n + 1) := by
    have q : s'.take (n + 1) ++ s'.drop (n + 1) = s' := List.take_append_drop _ _
    rw [← et, e1, List.append_assoc] at q
    exact q.symm
   have hne : s.take n ≠ [] := by
    intro q; have := congrArg List.length q; simp only [List.length_take, List.length_nil] at this; omega
   have hF : firstT s' = firstT s := by
    rw [e4]; conv => rhs; rw [e3]
    exact firstT_loc (by rw [← e3, hn, List.length_take]; omega) hne
   have hs' : s' ≠ [] := by intro q; rw [q] at hx'; simp at hx'
   rw [toks_step hs', hF, hn]
   have etn : s'.take n = s.take n := by
    have := congrArg (List.take n) et
    rw [List.take_take, List.take_take, Nat.min_eq_left (by omega)] at this
    exact this.symm
   rw [etn, List.cons_append]
   congr 1
   have ih := toks_pre i (s.drop n) (s'.drop n) (P - n) (by
    rw [List.take_drop, List.take_drop, Nat.add_sub_cancel' (by omega), hP]) (by rw [hn] at hi; omega) (.inl (by omega)) (by rw [List.length_drop]; omega) (by rw [List.length_drop]; omega)
   rw [ih, List.drop_drop]
def preN (S : Int) : Nat → List Tk → Nat
 | _, [] => 0
 | o, t :: ts => if ((o + t.text.length : Nat) : Int) < S then preN S (o + t.text.length) ts + 1 else 0
theorem preN_le (S : Int) : ∀ (ts : List Tk) (o : Nat), preN S o ts ≤ ts.length
 | [], o => Nat.le_refl _
 | t :: ts, o => by have := preN_le S ts (o + t.text.length); simp only [preN, List.length_cons]; split <;> omega
theorem preN_lt {S : Int} : ∀ {ts : List Tk} {o i : Nat}, i < preN S o ts → ((o + szL (ts.take (i + 1)) : Nat) : Int) < S
 | [], o, i, h => by simp [preN] at h
 | t :: ts, o, 0, h => by
  simp only [preN] at h
  split at h
  ·rename_i hc; simpa [szL] using hc
  ·omega
 | t :: ts, o, i + 1, h => by
  simp only [preN] at h
  split at h
  ·have := preN_lt (S := S) (ts := ts) (o := o + t.text.length) (i := i) (by omega)
   simp only [List.take_succ_cons, szL] at this ⊢
   omega
  ·omega
theorem preN_ge {S : Int} : ∀ {ts : List Tk} {o : Nat}, preN S o ts < ts.length → S ≤ ((o + szL (ts.take (preN S o ts + 1)) : Nat) : Int)
 | [], o, h => by simp at h
 | t :: ts, o, h => by
  simp only [preN] at h ⊢
  split at h
  ·rename_i hc
   rw [if_pos hc]
   have := preN_ge (S := S) (ts := ts) (o := o + t.text.length) (by simpa using h)
   simp only [List.take_succ_cons, szL] at this ⊢
   omega
  ·rename_i hc
   rw [if_neg hc]
   simp only [Nat.zero_add, List.take_succ_cons, List.take_zero, szL] at hc ⊢
   omega
def hitR (old new : List Tk) (E shift : Int) (i : Nat) : Bool := decide (E ≤ (szL (old.take i) : Int)) && (stL 0 new).any (fun (k : Nat) => decide ((k : Int) = (szL (old.take i) : Int) + shift))
def refR (old new : List Tk) (S E shift : Int) : Int :=
 match (List.range old.length).find? (hitR old new E shift) with
 | some i => (preN S 0 old : Int) + old.length - i
 | none => preN S 0 old
theorem find_range {p : Nat → Bool} : ∀ {n i : Nat}, i < n → p i = true → (∀ k, k < i → p k = false) → (List.range n).find? p = some i := by
 intro n i hi hp hn
 rw [List.find?_eq_some_iff_append]
 refine ⟨hp, List.range i, (List.range (n - (i + 1))).map (· + (i + 1)), ?_, fun k hk => by simpa using hn k (List.mem_range.1 hk)⟩
 apply List.ext_getElem
 ·simp; omega
 ·intro k h1 h2
  simp only [List.length_range] at h1
  rw [List.getElem_range]
  rcases Nat.lt_trichotomy k i with h | h | h
  ·rw [List.getElem_append_left (by simpa using h)]; simp
  ·subst h; rw [List.getElem_append_right (by simp)]; simp
  ·rw [List.getElem_append_right (by simp; omega)]
   obtain ⟨m, hm⟩ : ∃ m, k - (List.range i).length = m + 1 := ⟨k - i - 1, by simp; omega⟩
   simp only [hm, List.getElem_cons_succ, List.getElem_map, List.getElem_range]
   simp only [List.length_range] at hm; omega
structure Edit (src next text : List UInt8) (S E : Nat) (shift : Int) : Prop where
 h1 : S ≤ E
 h2 : E ≤ src.length
 h3 : next = src.take S ++ text ++ src.drop E
 h4 : shift = (text.length : Int) - (E - S)
namespace Edit
variable {src next text : List UInt8} {S E : Nat} {shift : Int}
theorem len (h : Edit src next text S E shift) : (next.length : Int) = src.length + shift := by
 have := h.h1; have := h.h2
 rw [h.h3, h.h4]; simp only [List.length_append, List.length_take, List.length_drop]; omega
theorem pre (h : Edit src next text S E shift) : src.take S = next.take S := by
 have := h.h1; have := h.h2
 rw [h.h3, List.append_assoc, List.take_append_of_le_length (by rw [List.length_take]; omega), List.take_take, Nat.min_self]
theorem suf (h : Edit src next text S E shift) {a b : Nat} (ha : E ≤ a) (hb : (b : Int) = a + shift) : next.drop b = src.drop a := by
 have q1 := h.h1; have q2 := h.h2; have q4 := h.h4
 obtain ⟨d, rfl⟩ : ∃ d, a = E + d := ⟨a - E, by omega⟩
 have e : b = (src.take S ++ text).length + d := by simp only [List.length_append, List.length_take]; omega
 rw [h.h3, e, List.drop_append, List.drop_eq_nil_of_le (by omega), List.nil_append, Nat.add_sub_cancel_left, List.drop_drop]
theorem pre_toks (h : Edit src next text S E shift) {r : Nat} (hr : r ≤ preN S 0 (toks src)) : (toks next).take r = (toks src).take r := by
 have hle := preN_le (S : Int) (toks src) 0
 have q1 := h.h1; have q2 := h.h2; have hn := h.len; have q4 := h.h4
 have e := toks_pre r src next S h.pre (by omega) (by
  rcases Nat.eq_zero_or_pos r with q | q
  ·exact .inr q
  ·refine .inl ?_
   have := preN_lt (S := S) (ts := toks src) (o := 0) (i := r - 1) (by omega)
   rw [Nat.sub_add_cancel q] at this; omega) (by omega) (by omega)
 rw [e, List.take_append_of_le_length (by simp; omega), List.take_take, Nat.min_self]
theorem pre_len (h : Edit src next text S E shift) : preN S 0 (toks src) ≤ (toks next).length := by
 have := congrArg List.length (h.pre_toks (Nat.le_refl _))
 have hle := preN_le (S : Int) (toks src) 0
 simp only [List.length_take] at this; omega
theorem st_mem {ts : List Tk} {k : Nat} : k ∈ stL 0 ts ↔ ∃ j, j < ts.length ∧ k = szL (ts.take j) := by
 rw [List.mem_iff_getElem?]
 constructor
 ·rintro ⟨j, hj⟩
  have hl : j < ts.length := by
   rw [← stL_length ts 0]
   exact (List.getElem?_eq_some_iff.1 hj).1
  rw [stL_get _ _ _ hl] at hj
  exact ⟨j, hl, by simpa using hj.symm⟩
 ·rintro ⟨j, hl, rfl⟩
  exact ⟨j, by rw [stL_get _ _ _ hl]; simp⟩
def Hit (old new : List Tk) (E : Nat) (shift : Int) (j : Nat) : Prop := (E : Int) ≤ (szL (new.take j) : Int) - shift ∧ ∃ i, i ≤ old.length ∧ (szL (old.take i) : Int) = (szL (new.take j) : Int) - shift
theorem hit_of {old new : List Tk} {i : Nat} (h : hitR old new E shift i = true) : E ≤ szL (old.take i) ∧ ∃ j, j < new.length ∧ (szL (new.take j) : Int) = szL (old.take i) + shift := by
 simp only [hitR, Bool.and_eq_true, decide_eq_true_eq, List.any_eq_true] at h
 obtain ⟨h1, k, hk, h2⟩ := h
 obtain ⟨j, hj, rfl⟩ := st_mem.1 hk
 exact ⟨by omega, j, hj, h2⟩
theorem resume (h : Edit src next text S E shift) {i j : Nat} (hj : j < (toks next).length) (hi : i ≤ (toks src).length) (hE : (E : Int) ≤ (szL ((toks next).take j) : Int) - shift)
  (hij : (szL ((toks src).take i) : Int) = (szL ((toks next).take j) : Int) - shift) (hgood : ∀ k, preN S 0 (toks src) ≤ k → k < j → ¬ Hit (toks src) (toks next) E shift k) :
  (toks next).take j ++ (toks src).drop i = toks next ∧ (preN S 0 (toks src) : Int) + (toks src).length - i = refR (toks src) (toks next) S E shift := by
 have q1 := h.h1; have q2 := h.h2; have q4 := h.h4; have hlen := h.len
 have pn := toks_pos _ next (Nat.le_refl _)
 have po := toks_pos _ src (Nat.le_refl _)
 have zn := toks_sz _ next (Nat.le_refl _)
 have zo := toks_sz _ src (Nat.le_refl _)
 have hjl := szL_take_lt pn hj (Nat.le_refl _)
 rw [List.take_length, zn] at hjl
 constructor
 ·rw [toks_drop i src hi, ← h.suf (a := szL ((toks src).take i)) (b := szL ((toks next).take j)) (by omega) (by omega), ← toks_drop j next (by omega), List.take_append_drop]
 ·have hil : i < (toks src).length := by
   rcases Nat.lt_or_ge i (toks src).length with q | q
   ·exact q
   ·rw [List.take_of_length_le q, zo] at hij; omega
  unfold refR
  rw [find_range hil]
  ·simp only [hitR, Bool.and_eq_true, decide_eq_true_eq, List.any_eq_true]
   exact ⟨by omega, _, st_mem.2 ⟨j, hj, rfl⟩, by omega⟩
  ·intro k hk
   rw [← Bool.not_eq_true]
   intro hh
   obtain ⟨h1, m, hm, h2⟩ := hit_of hh
   have hlt := szL_take_lt po hk hi
   have hmj : m < j := by
    rcases Nat.lt_or_ge m j with q | q
    ·exact q
    ·have := szL_take_le (ts := toks next) q; omega
   refine hgood m ?_ hmj ⟨by omega, k, by omega, by omega⟩
   rcases Nat.lt_or_ge m (preN S 0 (toks src)) with q | q
   ·have := preN_lt (S := S) (ts := toks src) (o := 0) (i := m) q
    rw [← h.pre_toks (r := m + 1) (by omega)] at this
    have := szL_take_lt pn (i := m) (j := m + 1) (by omega) (by omega)
    omega
   ·exact q
theorem fresh (h : Edit src next text S E shift) (hgood : ∀ k, preN S 0 (toks src) ≤ k → k < (toks next).length → ¬ Hit (toks src) (toks next) E shift k) :
  (preN S 0 (toks src) : Int) = refR (toks src) (toks next) S E shift := by
 have q1 := h.h1; have q2 := h.h2; have q4 := h.h4; have hlen := h.len
 have pn := toks_pos _ next (Nat.le_refl _)
 unfold refR
 rw [List.find?_eq_none.2]
 intro k hk hh
 have hk := List.mem_range.1 hk
 obtain ⟨h1, m, hm, h2⟩ := hit_of hh
 refine hgood m ?_ hm ⟨by omega, k, by omega, by omega⟩
 rcases Nat.lt_or_ge m (preN S 0 (toks src)) with q | q
 ·have := preN_lt (S := S) (ts := toks src) (o := 0) (i := m) q
  rw [← h.pre_toks (r := m + 1) (by omega)] at this
  have := szL_take_lt pn (i := m) (j := m + 1) (by omega) (by omega)
  omega
 ·exact q
end Edit
end Go.Abs
namespace Go.Abs
open Go.Proofs
def EnvL : List (Nat × AObj) → PS → List Nat → Heap → Prop
 | [], _, _, _ => True
 | (b, o) :: l, s, F, H => (H[b]? = some o ∧ b ∉ F) ∧ EnvL l s F H
theorem stbL : ∀ l, Stb (EnvL l)
 | [], _, _, _, _, _, _, _, _, _ => trivial
 | (b, o) :: l, s, s', F, F', H, H', hf, ⟨⟨h1, h2⟩, h3⟩, fr => ⟨fr.get h1 h2, stbL l s s' F F' H H' hf h3 fr⟩
theorem EnvL.app : ∀ {l : List (Nat × AObj)} {s : PS} {F : List Nat} {H : Heap}, EnvL l s F H → ∀ L, EnvL l s F (H ++ L)
 | [], _, _, _, _, _ => trivial
 | (b, o) :: l, s, F, H, ⟨⟨h1, h2⟩, h3⟩, L => ⟨⟨getL h1 L, h2⟩, EnvL.app h3 L⟩
section
variable {P : Program} {toks : List Tk} {ip : Nat} {f : FuncId} {args : List PV} {m : PS → Option PS} {rv : PS → PS → PV} {I : PS → List Nat → Heap → Prop} {s s' : PS} {F : List Nat} {H : Heap}
theorem FC.ap0 (h : FC P toks ip f args m rv I) (hm : m s = some s') (hp : PSt toks ip s F H) (hi : I s F H) : ACalls P f args H fun r H' => r = rv s s' ∧ ∃ F', PSt toks ip s' F' H' ∧ Fr F F' H H' :=
 (h s s' F H hm hp hi).mono fun r H' ⟨h1, F', h2, h3, _⟩ => ⟨h1, F', h2, h3⟩
theorem FC.ap {L : Heap} (h : FC P toks ip f args m rv I) (hm : m s = some s') (hp : PSt toks ip s F H) (hi : I s F (H ++ L)) : ACalls P f args (H ++ L) fun r H' => r = rv s s' ∧ ∃ F', PSt toks ip s' F' H' ∧ Fr F F' (H ++ L) H' :=
 (h s s' F (H ++ L) hm (hp.app L) hi).mono fun r H' ⟨h1, F', h2, h3, _⟩ => ⟨h1, F', h2, h3⟩
theorem FN.fc (h : FN P toks ip f args m rv) : FC P toks ip f args m rv I0 := fun s s' F H hm hp _ => (h s s' F H hm hp).mono fun r H' ⟨h1, F', h2, h3⟩ => ⟨h1, F', h2, h3, trivial⟩
theorem fc_of {env : List (Nat × AObj)} (h : ∀ (s s' : PS) (F : List Nat) (H : Heap), m s = some s' → PSt toks ip s F H → EnvL env s F H → ACalls P f args H fun r H' => r = rv s s' ∧ ∃ F', PSt toks ip s' F' H' ∧ Fr F F' H H') : FC P toks ip f args m rv (EnvL env) := by
 intro s s' F H hm hp hi
 refine (h s s' F H hm hp hi).mono fun r H' ⟨h1, F', h2, h3⟩ => ⟨h1, F', h2, h3, ?_⟩
 exact stbL env { s with flag := s'.flag } s' F F' H H' rfl (by
  have : ∀ env, EnvL env s F H → EnvL env { s with flag := s'.flag } F H := by
   intro env
   induction env with
   | nil => exact fun _ => trivial
   | cons x l ih => exact fun ⟨h1, h2⟩ => ⟨h1, ih h2⟩
  exact this env hi) h3
end
def optionalM (toks : List Tk) (t : List UInt8) (a : PS → Option PS) (s : PS) : Option PS := (acceptM toks [t] s).bind fun s1 => if atM toks s [t] = true then a s1 else missM 0 s1
def unexpectedM (toks : List Tk) : PS → Option PS := nodeM 46 (bumpM toks)
def loopM (c : PS → Bool) (b : PS → Option PS) : Nat → PS → Option PS
 | 0, _ => none
 | n + 1, s => if c s = true then (b s).bind (loopM c b n) else some s
def kwsL : List (List UInt8) := [[117, 115, 101], [112, 117, 98], [102, 110], [115, 116, 114, 117, 99, 116], [101, 110, 117, 109], [116, 114, 97, 105, 116], [105, 109, 112, 108], [99, 111, 110, 115, 116], [109, 97, 99, 114, 111]]
abbrev atItemM (toks : List Tk) (s : PS) : Bool := atM toks s kwsL && !atM toks s [[102, 110]]
def listBody (toks : List Tk) (c : List UInt8) (a : PS → Option PS) (s : PS) : Option PS := (a s).bind fun s1 => if s1.pos = s.pos then unexpectedM toks s1 else if atM toks s1 [c] = true then some s1 else expectM toks [44] s1
def listM (toks : List Tk) (n : Nat) (c : List UInt8) (a : PS → Option PS) (s : PS) : Option PS := (loopM (fun s => (!atM toks s [c] && !eofM toks s) && !atItemM toks s) (listBody toks c a) n s).bind (expectM toks c)
inductive Fnm where
 | block | statement | letS | returnStmt | expr | binary (l : Nat) | unary | arguments | postfx | primary | ifExpr | matchE | structLit | lambda | pattern | path (b : Bool) | typeExpr | typeParams | params (c : List UInt8) | function (b : Bool) | itemBody (k : Int) | item
abbrev Rec := Fnm → PS → Option PS
def fidOf : Fnm → FuncId
 | .block => 106 | .statement => 128 | .letS => 142 | .returnStmt => 144 | .expr => 94 | .binary _ => 120 | .unary => 135 | .arguments => 154 | .postfx => 151 | .primary => 145 | .ifExpr => 156 | .matchE => 157 | .structLit => 158 | .lambda => 159 | .pattern => 152 | .path _ => 118 | .typeExpr => 93 | .typeParams => 103 | .params _ => 95 | .function _ => 87 | .itemBody _ => 64 | .item => 24
def fargs : Fnm → List PV
 | .binary l => [.int .i64 (l : Nat)] | .path b => [.bool b] | .params c => [.str c] | .function b => [.bool b] | .itemBody k => [.int .i64 k] | _ => []
def frv : Fnm → PS → PS → PV
 | .statement => fun _ s' => .bool s'.flag
 | _ => unitR
def FG (toks : List Tk) (ip : Nat) (f : FuncId) (args : List PV) (m : PS → Option PS) (rv : PS → PS → PV) : Prop :=
 ∀ (s s' : PS) (F : List Nat) (H : Heap), m s = some s' → PSt toks ip s F H → EnvL [(0, gO)] s F H → ACalls Tryz.prog f args H fun r H' => r = rv s s' ∧ ∃ F', PSt toks ip s' F' H' ∧ Fr F F' H H'
def IHs (toks : List Tk) (ip : Nat) (R : Rec) : Prop := ∀ fn, FG toks ip (fidOf fn) (.optr ip 0 :: fargs fn) (R fn) (frv fn)
section
variable {toks : List Tk} {ip : Nat} {f : FuncId} {args : List PV} {m : PS → Option PS} {rv : PS → PS → PV} {I : PS → List Nat → Heap → Prop} {s s' : PS} {F : List Nat} {H : Heap}
theorem FG.ap0 (h : FG toks ip f args m rv) (hm : m s = some s') (hp : PSt toks ip s F H) (hg : H[0]? = some gO ∧ 0 ∉ F) : ACalls Tryz.prog f args H fun r H' => r = rv s s' ∧ ∃ F', PSt toks ip s' F' H' ∧ Fr F F' H H' :=
 h s s' F H hm hp ⟨hg, trivial⟩
theorem FG.ap {L : Heap} (h : FG toks ip f args m rv) (hm : m s = some s') (hp : PSt toks ip s F H) (hg : H[0]? = some gO ∧ 0 ∉ F) : ACalls Tryz.prog f args (H ++ L) fun r H' => r = rv s s' ∧ ∃ F', PSt toks ip s' F' H' ∧ Fr F F' (H ++ L) H' :=
 h s s' F (H ++ L) hm (hp.app L) ⟨⟨getL hg.1 L, hg.2⟩, trivial⟩
theorem FG.ap' {L : Heap} (h : FG toks ip f args m rv) (hm : m s = some s') (hp : PSt toks ip s F H) (hg : (H ++ L)[0]? = some gO ∧ 0 ∉ F) : ACalls Tryz.prog f args (H ++ L) fun r H' => r = rv s s' ∧ ∃ F', PSt toks ip s' F' H' ∧ Fr F F' (H ++ L) H' :=
 h s s' F (H ++ L) hm (hp.app L) ⟨hg, trivial⟩
theorem FG.fc (h : FG toks ip f args m rv) : FC Tryz.prog toks ip f args m rv (EnvL [(0, gO)]) := fc_of h
theorem FN.fg (h : FN Tryz.prog toks ip f args m rv) : FG toks ip f args m rv := fun s s' F H hm hp _ => h s s' F H hm hp
theorem FG.none (hm : ∀ s, m s = Option.none) : FG toks ip f args m rv := fun s s' F H h _ _ => by rw [hm] at h; cases h
theorem ifT {α : Type} {c : Bool} {a b : α} (h : c = true) : (if c = true then a else b) = a := if_pos h
theorem ifF {α : Type} {c : Bool} {a b : α} (h : c = false) : (if c = true then a else b) = b := by rw [h]; rfl
end
end Go.Abs
namespace Go.Abs
theorem tokM_flag {toks : List Tk} {s s' : PS} (h : tokM toks s = some s') : s'.flag = s.flag := by
 obtain ⟨_, s1, h1, _, rfl⟩ := tokM_inv h
 have := addM_flag h1; exact this
theorem skipN_flag {toks : List Tk} : ∀ (n : Nat) {s s' : PS}, skipN toks n s = some s' → s'.flag = s.flag
 | 0, s, s', h => by cases h; rfl
 | n + 1, s, s', h => by
  unfold skipN at h
  split at h
  ·cases h; rfl
  ·split at h
   ·obtain ⟨s1, h1, h2⟩ := oB h
    exact (skipN_flag n h2).trans (tokM_flag h1)
   ·cases h; rfl
theorem bumpM_flag {toks : List Tk} {s s' : PS} (h : bumpM toks s = some s') : s'.flag = s.flag := by
 obtain ⟨s1, h1, h2⟩ := bumpM_inv h
 have e1 := skipN_flag _ h1
 split at h2
 ·exact (tokM_flag h2).trans e1
 ·cases h2; exact e1
theorem acceptM_flag {toks : List Tk} {xs : List (List UInt8)} {s s' : PS} (h : acceptM toks xs s = some s') : s'.flag = s.flag := by
 unfold acceptM at h
 split at h
 ·exact bumpM_flag h
 ·cases h; rfl
theorem missM_flag {k : Int} {s s' : PS} (h : missM k s = some s') : s'.flag = s.flag := addM_flag h
theorem expectM_flag {toks : List Tk} {x : List UInt8} {s s' : PS} (h : expectM toks x s = some s') : s'.flag = s.flag := by
 obtain ⟨s1, h1, h2⟩ := oB h
 have e1 := acceptM_flag h1
 split at h2
 ·cases h2; exact e1
 ·exact (missM_flag h2).trans e1
theorem unexpectedM_flag {toks : List Tk} {s s' : PS} (h : unexpectedM toks s = some s') : s'.flag = s.flag := by
 obtain ⟨s2, h1, h2⟩ := oB h
 obtain ⟨s1, h3, h4⟩ := oB h1
 obtain ⟨_, rfl⟩ := openM_inv h3
 have e1 := bumpM_flag h4
 exact (finishM_flag h2).trans e1
theorem FG.apX {toks : List Tk} {ip : Nat} {f : FuncId} {args : List PV} {m : PS → Option PS} {rv : PS → PS → PV} {s s' : PS} {F : List Nat} {H H1 : Heap} (h : FG toks ip f args m rv) (hm : m s = some s') (hp : PSt toks ip s F H1) (hg : H1[0]? = some gO ∧ 0 ∉ F) (hL : ∃ L, H = H1 ++ L := by first | exact ⟨[], (List.append_nil _).symm⟩ | exact ⟨_, rfl⟩) : ACalls Go.Proofs.Tryz.prog f args H fun r H' => r = rv s s' ∧ ∃ F', PSt toks ip s' F' H' ∧ Fr F F' H H' := by
 obtain ⟨L, rfl⟩ := hL; exact FG.ap h hm hp hg
theorem FC.apX {P : Program} {toks : List Tk} {ip : Nat} {f : FuncId} {args : List PV} {m : PS → Option PS} {rv : PS → PS → PV} {l : List (Nat × AObj)} {s s' : PS} {F : List Nat} {H H1 H2 : Heap} (h : FC P toks ip f args m rv (EnvL l)) (hm : m s = some s') (hp : PSt toks ip s F H1) (hi : EnvL l s F H2) (hL : ∃ L, H = H1 ++ L := by first | exact ⟨[], (List.append_nil _).symm⟩ | exact ⟨_, rfl⟩) (hK : ∃ L, H = H2 ++ L := by first | exact ⟨[], (List.append_nil _).symm⟩ | exact ⟨_, rfl⟩) : ACalls P f args H fun r H' => r = rv s s' ∧ ∃ F', PSt toks ip s' F' H' ∧ Fr F F' H H' := by
 obtain ⟨L, e⟩ := hL; obtain ⟨K, e'⟩ := hK; have := EnvL.app hi K; rw [← e', e] at this; subst e; exact FC.ap h hm hp this
end Go.Abs
namespace Go.Abs
open Go.Proofs
theorem kws_f : Lib.fields [117, 115, 101, 32, 112, 117, 98, 32, 102, 110, 32, 115, 116, 114, 117, 99, 116, 32, 101, 110, 117, 109, 32, 116, 114, 97, 105, 116, 32, 105, 109, 112, 108, 32, 99, 111, 110, 115, 116, 32, 109, 97, 99, 114, 111] = kwsL := by kernel_rfl
theorem itemKeywords_c {H : Heap} (hG : H[0]? = some gO) : ACalls Tryz.prog 84 [] H fun r' H' => r' = .slice (kwsL.map PV.str) .none ∧ H' = H := by
 have hk := fields_c [117, 115, 101, 32, 112, 117, 98, 32, 102, 110, 32, 115, 116, 114, 117, 99, 116, 32, 101, 110, 117, 109, 32, 116, 114, 97, 105, 116, 32, 105, 109, 112, 108, 32, 99, 111, 110, 115, 116, 32, 109, 97, 99, 114, 111] (by decide) (by decide) (by rw [kws_f]; decide) hG
 rw [kws_f] at hk
 refine keeps_of (N := 2) Tryz.func84 rfl rfl (by simp) (bel_strs0 _ _) fun hb' => ?_
 refine qE0 ?_
 repeat refine wS ?_
 refine wR ?_
 refine oP (by simp only [kC, seval, vint, qC] <;> rfl) (by simp only [kC, seval, vint, qC]) (by decide) zgo80 hk ?_
 refine qX0 ?_
 repeat refine wS ?_
 refine wT ⟨.inr rfl, _, _, rfl, ?_, (by first | exact (List.append_nil _).symm | rfl)⟩
 simp only [jN, seval, vint, qC]
 try rfl
theorem atItem_c {H : Heap} {ip pos : Nat} {toks : List Tk} {st : PV} (hp : H[ip]? = some (.row [.slice (toks.map Tk.enc) .none, .int .i64 (pos : Nat), st])) (hl : toks.length ≤ 4611686018427387904) (hpos : pos ≤ toks.length) (hG : H[0]? = some gO) : ACalls Tryz.prog 129 [.optr ip 0] H fun r' H' => r' = .bool (atT (peekT toks pos) kwsL && !atT (peekT toks pos) [[102, 110]]) ∧ H' = H := by
 have q : ∀ L, (H ++ L)[ip]? = some (.row [.slice (toks.map Tk.enc) .none, .int .i64 (pos : Nat), st]) := fun L => by rw [List.getElem?_append_left (lG hp)]; exact hp
 have hip := lG hp
 have ff : ∀ k, (ip = H.length + k) = False := fun k => by simp; omega
 have ff0 : (ip = H.length) = False := by simp; omega
 refine keeps_of (N := 12) Tryz.func129 rfl rfl (by simp) ((.bool _)) fun hb' => ?_
 refine qE (a3 q ff ff0) ?_
 repeat refine wS ?_
 refine wR ?_
 refine aops_gstart ?_
 refine gT 1 (a3 q ff ff0) ?_
 refine gP (a3 q ff ff0) zgo84 (fun hc => itemKeywords_c hG) ?_
 refine gP (a3 q ff ff0) zgo56 (fun hc => at_c (by first | exact hp | exact getL hp _) hl hpos kwsL (by decide)) ?_
 refine gT 3 (a5 y9 y72 q ff ff0) ?_
 refine gP (a3 q ff ff0) zgo56 (fun hc => at_c (by first | exact hp | exact getL hp _) hl hpos [[102, 110]] (by decide)) ?_
 refine gX (a3 q ff ff0) ?_
 repeat refine wS ?_
 refine wT ⟨.inr rfl, _, _, rfl, ?_, (by first | exact (List.append_nil _).symm | rfl)⟩
 simp only [jN, seval, vint, qC]
 try rfl
theorem optional_c (toks : List Tk) (ip : Nat) (t : List UInt8) (f : FuncId) (pf pc : List PV) (hgo : goFn Tryz.prog f = true) {a : PS → Option PS} {rv : PS → PS → PV} {I : PS → List Nat → Heap → Prop} (hI : Stb I) (hc : FC Tryz.prog toks ip f (pf ++ pc) a rv I) : FC Tryz.prog toks ip 104 [.optr ip 0, .str t, .fn (.func f) pf pc] (optionalM toks t a) unitR I := by
 intro s s' F0 H0 hm p0 i0
 have f0 := Fr.refl F0 H0
 obtain ⟨st0, r0⟩ := p0.row
 have hl := lim_le p0.len
 obtain ⟨s1, e1, hm⟩ := oB hm
 refine aF (N := 14) Tryz.func104 rfl rfl (by simp) fun hb' => ?_
 refine qT 3 (a2 y9 y72) ?_
 refine qA0 zgo62 (FN.apX (accept_c toks ip [t] (by show 1 ≤ maxLen; decide)) e1 p0) ?_
 rintro _ H1 ⟨rfl, F1, p1, g1⟩
 have f1 := f0.stX g1
 obtain ⟨st1, r1⟩ := p1.row
 refine oN ?_
 refine qI0 (fun bt9 => ?_) (fun bt9 => ?_)
 ·-- if t9
  rw [ifT bt9] at hm
  refine qT0 1 ?_
  refine qA0 hgo (hc s1 s' F1 _ hm p1 (hI s _ _ _ _ _ (acceptM_flag e1) i0 f1)) ?_
  rintro _ H2 ⟨rfl, F2, p2, g2, i2⟩
  have f2 := f1.stX g2
  obtain ⟨st2, r2⟩ := p2.row
  refine oN ?_
  refine enX ?_
  exact ⟨rfl, F2, p2, f2, i2⟩
 ·-- else t9
  rw [ifF bt9] at hm
  refine qT0 1 ?_
  refine qA0 zgo105 (FN.apX (absent_c toks ip) hm p1) ?_
  rintro _ H3 ⟨rfl, F3, p3, g3⟩
  have f3 := f1.stX g3
  obtain ⟨st3, r3⟩ := p3.row
  have i3 := hI s _ _ _ _ _ ((missM_flag hm).trans (acceptM_flag e1)) i0 f3
  refine oN ?_
  refine enX ?_
  exact ⟨rfl, F3, p3, f3, i3⟩
theorem unexpected_c (toks : List Tk) (ip : Nat) : FN Tryz.prog toks ip 130 [.optr ip 0] (unexpectedM toks) unitR := by
 intro s s' F0 H0 hm p0
 have f0 := Fr.refl F0 H0
 obtain ⟨st0, r0⟩ := p0.row
 have hl := lim_le p0.len
 refine aF (N := 6) Tryz.func130 rfl rfl (by simp) fun hb' => ?_
 refine qT0 3 ?_
 refine qA0 zgo60 ((by first | exact FC.ap0 (node_c toks ip 46 63 [.optr ip 0] [] zgo63 stb0 (FN.fc (bump_c toks ip))) hm p0 trivial | exact FC.ap (node_c toks ip 46 63 [.optr ip 0] [] zgo63 stb0 (FN.fc (bump_c toks ip))) hm p0 trivial)) ?_
 rintro _ H1 ⟨rfl, F1, p1, g1⟩
 have f1 := f0.stX g1
 obtain ⟨st1, r1⟩ := p1.row
 refine oN ?_
 refine enX ?_
 exact ⟨rfl, F1, p1, f1⟩
theorem list_c (toks : List Tk) (ip : Nat) (n : Nat) (c : List UInt8) (f : FuncId) (pf pc : List PV) (hgo : goFn Tryz.prog f = true) {a : PS → Option PS} {rv : PS → PS → PV} {I : PS → List Nat → Heap → Prop} (hI : Stb I) (hG : ∀ s F H, I s F H → H[0]? = some gO ∧ 0 ∉ F) (hc : FC Tryz.prog toks ip f (pf ++ pc) a rv I) : FC Tryz.prog toks ip 107 [.optr ip 0, .str c, .fn (.func f) pf pc] (listM toks n c a) unitR I := by
 intro s s' F0 H0 hm p0 i0
 have f0 := Fr.refl F0 H0
 obtain ⟨st0, r0⟩ := p0.row
 have hl := lim_le p0.len
 obtain ⟨sm, e0, hm⟩ := oB hm
 refine aF (N := 48) Tryz.func107 rfl rfl (by simp) fun hb' => ?_
 refine qB ?_
 refine awp_loopX (σ := Nat × PS × List Nat) (fun (z : Nat × PS × List Nat) => [(0, .optr ip 0), (1, .str c), (2, .fn (.func f) pf pc)]) (fun (z : Nat × PS × List Nat) =>  fun H1 => loopM (fun s => (!atM toks s [c] && !eofM toks s) && !atItemM toks s) (listBody toks c a) z.1 z.2.1 = some sm ∧ PSt toks ip z.2.1 z.2.2 H1 ∧ Fr F0 z.2.2 H0 H1 ∧ I z.2.1 z.2.2 H1) (fun (z : Nat × PS × List Nat) => z.1) ((n, s, F0)) ⟨(by first | rfl | (simp only [jN, seval, vint, qC] <;> first | done | with_reducible rfl)), (by first | rfl | (simp only [jN, seval, vint, qC] <;> first | done | with_reducible rfl)), (by first | rfl | (simp only [jN, seval, vint, qC] <;> first | done | with_reducible rfl)), trivial⟩ (⟨e0, p0, f0, i0⟩) ?_
 intro z H1 hg
 obtain ⟨k, s1, F1⟩ := z
 obtain ⟨hk, p1, f1, i1⟩ := hg
 simp only at hk p1 f1 i1
 obtain ⟨st1, r1⟩ := p1.row
 cases k with
 | zero => cases hk
 | succ k => ?_
 unfold loopM at hk
 repeat refine wS ?_
 refine wR ?_
 refine aops_gstart ?_
 refine gT 3 (a3 y9 y72 (w1 r1)) ?_
 refine gP (w1 r1) zgo56 (fun hc => at_c (gtH r1) hl p1.pos [c] (by show 1 ≤ maxLen; decide)) ?_
 refine gT 3 (w1 r1) ?_
 refine gP (w1 r1) zgo23 (fun hc => atEOF_c (gtH r1) hl p1.pos) ?_
 refine gT 4 (w1 r1) ?_
 refine gP (w1 r1) zgo129 (fun hc => atItem_c (gtH r1) hl p1.pos (hG _ _ _ i1).1) ?_
 refine gX (w1 r1) ?_
 refine qI (w1 r1) (fun bt21 => ?_) (fun bt21 => ?_)
 ·-- if t21
  rw [ifT bt21] at hk
  obtain ⟨s9, hb, hk⟩ := oB hk
  obtain ⟨s2, e2, hb⟩ := oB hb
  refine qK ?_
  refine qB ?_
  refine qL [0, 1, 2] (w1 r1) ?_
  refine qE (a3 y3 y59 (w1 r1)) ?_
  refine qT 1 (w1 r1) ?_
  refine qA (w1 r1) hgo (hc s1 s2 F1 _ e2 p1 i1) ?_
  rintro _ H2 ⟨rfl, F2, p2, g2, i2⟩
  have f2 := f1.stX g2
  obtain ⟨st2, r2⟩ := p2.row
  refine oN ?_
  refine qB ?_
  refine qE (a3 y3 y59 (w1 r2)) ?_
  refine qI (w1 r2) (fun bt28 => ?_) (fun bt28 => ?_)
  ·-- if t28
   rw [if_pos (by have := of_decide_eq_true bt28; omega)] at hb
   refine qT 1 (w1 r2) ?_
   refine qA (w1 r2) zgo130 (FN.apX (unexpected_c toks ip) hb p2) ?_
   rintro _ H3 ⟨rfl, F3, p3, g3⟩
   have f3 := f2.stX g3
   obtain ⟨st3, r3⟩ := p3.row
   have i3 := hI s2 _ _ _ _ _ (unexpectedM_flag hb) i2 g3
   refine oN ?_
   try simp only [thenQ, blockQ]
   exact ⟨(k, _, F3), Nat.lt_succ_self _, ⟨rfl, rfl, rfl, trivial⟩, hk, p3, f3, i3⟩
  ·-- else t28
   rw [if_neg (by have := of_decide_eq_false bt28; omega)] at hb
   refine qT 3 (a3 y9 y72 (w1 r2)) ?_
   refine qP (w1 r2) zgo56 (at_c (gtH r2) hl p2.pos [c] (by show 1 ≤ maxLen; decide)) ?_
   refine qX (w1 r2) ?_
   refine qI (w1 r2) (fun bt37 => ?_) (fun bt37 => ?_)
   ·-- if t37
    rw [ifF (by simpa using bt37)] at hb
    refine qL [0, 1, 2] (w1 r2) ?_
    refine qT 1 (w1 r2) ?_
    refine qA (w1 r2) zgo92 (FN.apX (expect_c toks ip [44]) hb p2) ?_
    rintro _ H4 ⟨rfl, F4, p4, g4⟩
    have f4 := f2.stX g4
    obtain ⟨st4, r4⟩ := p4.row
    have i4 := hI s2 _ _ _ _ _ (expectM_flag hb) i2 g4
    refine oN ?_
    try simp only [thenQ, blockQ]
    exact ⟨(k, _, F4), Nat.lt_succ_self _, ⟨rfl, rfl, rfl, trivial⟩, hk, p4, f4, i4⟩
   ·-- else t37
    rw [ifT (by simpa using bt37)] at hb
    injection hb with hb
    subst hb
    refine qK ?_
    try simp only [thenQ, blockQ]
    exact ⟨(k, _, F2), Nat.lt_succ_self _, ⟨rfl, rfl, rfl, trivial⟩, hk, p2, f2, i2⟩
 ·-- else t21
  rw [ifF bt21] at hk
  injection hk with hk
  subst hk
  repeat refine wS ?_
  refine awp_exit ?_
  simp only [thenQ, blockQ, reduceIte, Nat.reduceEqDiff, Nat.succ_ne_self, if_true, if_false]
  refine qL [0, 1, 2] (w1 r1) ?_
  refine qT 2 (w1 r1) ?_
  refine qA (w1 r1) zgo92 (FN.apX (expect_c toks ip c) hm p1) ?_
  rintro _ H5 ⟨rfl, F5, p5, g5⟩
  have f5 := f1.stX g5
  obtain ⟨st5, r5⟩ := p5.row
  have i5 := hI s1 _ _ _ _ _ (expectM_flag hm) i1 g5
  refine oN ?_
  refine enX ?_
  exact ⟨rfl, F5, p5, f5, i5⟩
end Go.Abs
namespace Go.Abs
def abuildSK (i : TI) (T : Nat → PV) : List PV → List (Nat × Operand) → Option (List PV)
 | es, [] => some es
 | es, (k, x) :: rest => if (aev T x).fits i = true ∧ k < es.length then abuildSK i T (es.set k (aev T x)) rest else none
theorem abuildSK_congr {i : TI} {T T' : Slots} : ∀ (ps : List (Nat × Operand)) (cs : List PV), (∀ x ∈ ps, aev T' x.2 = aev T x.2) → abuildSK i T' cs ps = abuildSK i T cs ps
 | [], cs, _ => rfl
 | (f, x) :: ps, cs, h => by
  unfold abuildSK
  rw [h (f, x) (by simp)]
  split
  ·exact abuildSK_congr ps _ (fun y hy => h y (by simp [hy]))
  ·rfl
section
variable {P : Program} {N nb : Nat} {ops : Array Oper} {Q : Post} {E : Env} {a : Act} {T : Slots}
section
variable (ht : TRel E.view N a T)
include ht
theorem sound_fillSK (i : TI) : ∀ (ps : List (Nat × Operand)) (arr : Array Value) (es es' : List PV), RL E.view arr (flatE es) → (∀ e ∈ es, e.cells.length = i.sz) → ps.all (fun x => okOpnd N x.2) = true → abuildSK i T es ps = some es' →
  ∃ arr', Instr.fill (fun k => some (k * i.sz, i.sz)) arr (ps.map fun (i, x) => (i, a.eval x)) = some arr' ∧ RL E.view arr' (flatE es') ∧ (∀ e ∈ es', e.cells.length = i.sz) ∧ es'.length = es.length
 | [], arr, es, es', h, hs, _, hb => by cases hb; exact ⟨arr, rfl, h, hs, rfl⟩
 | (k, x) :: rest, arr, es, es', h, hs, hok, hb => by
  simp only [List.all_cons, Bool.and_eq_true] at hok
  unfold abuildSK at hb
  split at hb
  ·rename_i hc
   obtain ⟨hc1, hk⟩ := hc
   obtain ⟨hc2, hc3⟩ := PV.fits_spec hc1
   have hr := vrel_eval ht x hok.1
   obtain ⟨c1, c2⟩ := hr.not_junk_cells hc3
   have c3 : (a.eval x).cells.size = i.sz := by rw [c1, hc2]
   have hdl : (aev T x).cells.length = i.sz := by rw [hc2]
   have h' := foldl_splice (V := E.view) (a.eval x).cells.toList (aev T x).cells (k * i.sz) 0 arr (flatE es) h (by simp [c1]) (fun j hj => by
    have := c2 j hj
    rw [Array.getD_eq_getD_getElem?] at this
    rw [List.getD_eq_getElem?_getD, Array.getElem?_toList]
    exact this)
   rw [Nat.add_zero, splice_flatE es hs k hk _ hdl] at h'
   have hs' : ∀ e ∈ es.set k (aev T x), e.cells.length = i.sz := by
    intro e he
    rcases List.mem_or_eq_of_mem_set he with he | rfl
    ·exact hs e he
    ·exact hdl
   obtain ⟨arr', e1, e2, e3, e4⟩ := sound_fillSK i rest _ _ es' h' hs' hok.2 hb
   refine ⟨arr', ?_, e2, e3, by rw [e4]; simp⟩
   simp only [List.map_cons, Instr.fill]
   have hfl := flatE_length es hs
   have hks : (k + 1) * i.sz ≤ es.length * i.sz := Nat.mul_le_mul_right _ hk
   rw [Nat.succ_mul] at hks
   rw [if_neg]
   ·rw [← e1]
    congr 1
    rw [← Array.foldl_toList, Array.toList_zipIdx]
   ·rw [c3, h.1, hfl]; simp; omega
  ·cases hb
include ht in
end
end
section
variable {P : Program} {N nb : Nat} {ops : Array Oper} {Q : Post}
theorem sound_buildSMK {E : Env} {a : Act} {T : Slots} (ht : TRel E.view N a T) (ho : E.Ok) {t : TypeId} {n : Nat} {ps : Array (Nat × Operand)} (hok : ps.toList.all (fun x => okOpnd N x.2) = true) {ei : TypeId × TI} (hf : telem P t = some ei) {z : PV} (hz : tzero P ei.1 = some z)
  (hfit : z.fits ei.2 = true) (hs0 : 0 < ei.2.sz) (hn : 0 < n) (hsz : n * ei.2.sz ≤ 2 ^ 24) {es : List PV} (hb : abuildSK ei.2 T (List.replicate n z) ps.toList = some es) {id : Nat} (hid : E.H[id]? = some .unborn) :
  ∃ E' val, (Instr.buildSlice t n (ps.map fun (i, x) => (i, a.eval x))).run P E.w = .ok val E'.w ∧ E.le E' ∧ E'.Ok ∧ E'.H = E.H.set id (.row (flatE es)) ∧ VRel E'.view val (.msl id 0 n n) := by
 obtain ⟨e, i⟩ := ei
 obtain ⟨h1, h2⟩ := telem_some hf
 obtain ⟨d, f, h3, h4, rfl⟩ := tinfo_some h2
 obtain ⟨f', v, h5, h6, rfl⟩ := tzero_some hz
 simp only at hfit hs0 hsz hb h5
 rw [h4] at h5; cases h5
 obtain ⟨hc1, hc2⟩ := PV.fits_spec hfit
 simp only at hc1
 obtain ⟨c1, c2⟩ := (vrel_ofConst E.view v).not_junk_cells hc2
 have hvs : v.cells.size = f.size := c1.trans hc1
 have hrl := rl_zero (V := E.view) v hc2 n
 have hes : ∀ e ∈ List.replicate n (ofConst v), e.cells.length = f.size := by
  intro e he; rw [(List.mem_replicate.1 he).2, hc1]
 obtain ⟨arr', e1, e2, e3, e4⟩ := sound_fillSK ht ⟨isAggD d, f.size, f.bytes⟩ ps.toList _ _ es hrl hes hok hb
 rw [List.length_replicate] at e4
 have hle := Env.newRow_le ho hid arr' e (flatE es)
 have hlen := lG hid
 refine ⟨E.newRow id arr' e (flatE es), .slice (some ⟨E.w.heap.size, 0, none⟩) n n, ?_, hle, Env.Ok.newRow ho hid arr' e (flatE es) e2.1 e2.2, rfl, ?_⟩
 ·simp only [Instr.buildSlice, Sem.run_bind, run_under h1, run_size h4, Result.andThen_ok]
  have hlt : ¬ n * f.size > 2 ^ 24 := by omega
  simp only [hlt, if_false, Sem.run_pure, Result.andThen_ok, Sem.run_ite, Sem.run_bind]
  have hn0 : ¬ n * f.size = 0 := by have := Nat.mul_pos hn hs0; omega
  simp only [if_neg hn0, run_zero h4 h6, Result.andThen_ok, Sem.run_bind, Sem.run_pure]
  rw [Array.toList_map]
  rw [hvs] at e1
  simp only [hvs, e1, newRow, Sem.run_bind, run_newObj, Result.andThen_ok, Sem.run_pure]
  rfl
 ·have hm : n ≤ maxLen := by
   have : n ≤ n * f.size := Nat.le_mul_of_pos_right _ hs0
   unfold maxLen; omega
  have := VRel.msl (V := (E.newRow id arr' e (flatE es)).view) id 0 n n ⟨.row _, by simp only [Env.newRow]; exact List.getElem?_set_self hlen, by simp⟩ hm
  simpa [Env.view, Env.newRow] using this
theorem dops_bsK {bm : List Nat} {k : Nat} {o : Oper} {l : List Oper} {prev : Prev} {T : Slots} {H : Heap} (id : Nat) {t : TypeId} {n : Nat} {ps : Array (Nat × Operand)} {ei : TypeId × TI} {z : PV} {es : List PV} (hbm : bmasks ops.toList = bm) (hid : H[id]? = some .unborn) (hw : awanted ops.toList T N o = some true)
  (hop : o.op = .buildSlice t n ps) (hok : ps.toList.all (fun x => okOpnd N x.2) = true) (hf : telem P t = some ei) (hz : tzero P ei.1 = some z)
  (hfit : z.fits ei.2 = true) (hs0 : 0 < ei.2.sz) (hn : 0 < n) (hsz : n * ei.2.sz ≤ 2 ^ 24) (hb : abuildSK ei.2 T (List.replicate n z) ps.toList = some es) (hap : hapB (bm.getD k 0) prev [id] [id] = true)
  (h : DOps P N ops Q (k + 1) l (prev ++ [(k, [id], [id])]) (updO T o.dst (.msl id 0 n n)) (H.set id (.row (flatE es)))) : DOps P N ops Q k (o :: l) prev T H := by
 refine ⟨_, [(id, .row (flatE es))], [id], ?_, by simp, hapB_spec (eff := [(id, .row (flatE es))]) (by rw [hbm]; exact hap), h⟩
 intro T' H' hT hH hlen E a ho hE ht
 refine .inr ⟨awanted_sound ht (wanted_agree hT hw), fun next Q' hn' => ?_⟩
 have hb' : abuildSK ei.2 T' (List.replicate n z) ps.toList = some es := by
  rw [abuildSK_congr ps.toList _ (fun x hx => aev_agree hT x.2 (by rw [hop]; simp only [Op.operands]; exact List.mem_map.2 ⟨x, hx, rfl⟩))]
  exact hb
 obtain ⟨E', val, e1, e2, e3, e4, e5⟩ := sound_buildSMK ht ho hok hf hz hfit hs0 hn hsz hb' (id := id) (by rw [hE, hH id (by simp)]; exact hid)
 have := hn' E' val e2 e3 (by rw [e4, hE]; rfl) e5
 unfold Oper.wp execOp
 rw [hop]
 simp only [Sem.run_bind, e1, Result.andThen_ok, Sem.run_pure]
 exact this
end
section
variable {P : Program} {N nb : Nat} {ops : Array Oper} {Q : Post}
theorem dops_val {k : Nat} {o : Oper} {l : List Oper} {prev : Prev} {T : Slots} {H : Heap} {v : PV} (hw : awanted ops.toList T N o = some true)
  (hv : ∀ (E : Env) (a : Act), E.Ok → (∀ x ∈ o.op.operands.toList, okOpnd N x = true → VRel E.view (a.eval x) (aev T x)) → ∃ val, (execOp a.eval o).run P E.w = .ok (.value val) E.w ∧ VRel E.view val v)
  (h : DOps P N ops Q (k + 1) l (prev ++ [(k, [], [])]) (updO T o.dst v) H) : DOps P N ops Q k (o :: l) prev T H := by
 refine ⟨v, [], [], ?_, by simp, fun p hp => .inr ⟨by simp, by simp⟩, h⟩
 intro T' H' hT hHd hlen E a ho hE ht
 refine .inr ⟨awanted_sound ht (wanted_agree hT hw), fun next Q hnx => ?_⟩
 obtain ⟨val, h1, h2⟩ := hv E a ho fun x hx hok => by
  have := vrel_eval ht x hok
  rwa [aev_agree hT x hx] at this
 unfold Oper.wp
 rw [h1]
 exact hnx E val (.refl E) ho hE h2
theorem dops_sliceM {kk0 : Nat} {o : Oper} {l : List Oper} {prev : Prev} {T : Slots} {H : Heap} {t : TypeId} {x y : Operand} {ei : TypeId × TI} {id n c : Nat} {kk : IntKind} {k : Nat} (hw : awanted ops.toList T N o = some true)
  (hop : o.op = .slice t x none (some y) none) (okx : okOpnd N x = true) (oky : okOpnd N y = true) (hte : telem P t = some ei) (hx : aev T x = .msl id 0 n c) (hy : aev T y = .int kk k) (hk : k ≤ c)
  (h : DOps P N ops Q (kk0 + 1) l (prev ++ [(kk0, [], [])]) (updO T o.dst (.msl id 0 k c)) H) : DOps P N ops Q kk0 (o :: l) prev T H := by
 refine dops_val hw (fun E a ho hvs => ?_) h
 obtain ⟨e, i⟩ := ei
 obtain ⟨hu, hti⟩ := telem_some hte
 obtain ⟨d, f, h3, h4, rfl⟩ := tinfo_some hti
 have hvx := hvs x (by rw [hop]; simp [Op.operands]) okx
 have hvy := hvs y (by rw [hop]; simp [Op.operands]) oky
 rw [hx] at hvx
 rw [hy] at hvy
 have vy := hvy.int_inv
 obtain ⟨vx, hcm, hbn⟩ : a.eval x = .slice (some ⟨E.ρ id, 0, none⟩) n c ∧ c ≤ maxLen ∧ E.view.born id := by
  generalize a.eval x = w at hvx
  cases hvx with
  | msl _ _ _ _ hbn hm => exact ⟨rfl, hm, hbn⟩
 refine ⟨.slice (some ⟨E.ρ id, 0, none⟩) k c, ?_, .msl id 0 k c hbn hcm⟩
 have hb : (Instr.sliceBound (.int kk (k : Int)) c .sliceAcap).run P E.w = .ok k E.w := by
  have hb0 : (0 : Int) ≤ (k : Int) ∧ (k : Int) ≤ c := ⟨by omega, by omega⟩
  simp only [Instr.sliceBound, asIntOf, Sem.run_bind, Sem.run_pure, Result.andThen_ok, if_pos hb0, Sem.run_ite, tN]
 unfold execOp
 rw [hop]
 have e1 : (if c = 0 then (some (⟨E.ρ id, 0, none⟩ : Addr)) else Option.map (fun z : Addr => z.add (0 * f.size)) (some ⟨E.ρ id, 0, none⟩)) = some ⟨E.ρ id, 0, none⟩ := by
  split
  ·rfl
  ·simp [Nat.zero_mul, add_zero']
 simp only [Sem.run_bind, Instr.sliceAt, run_under hu, Result.andThen_ok, Instr.slice, Instr.sliceBounds, Option.map_none, Option.map_some, Option.isSome_none, Bool.false_eq_true, if_false, vx, vy, if_true, hb, Sem.run_pure, run_size h4, Nat.sub_zero]
 rw [show (if c = 0 then (some (⟨E.ρ id, 0, none⟩ : Addr)) else some ((⟨E.ρ id, 0, none⟩ : Addr).add (0 * f.size))) = some ⟨E.ρ id, 0, none⟩ from e1]
end
def Env.retell (E : Env) (j : Nat) (cs : List PV) : Env := { E with H := E.H.set j (.row cs) }
section
variable {E : Env} (ho : E.Ok) {j : Nat} {cs cs' : List PV} (hj : E.H[j]? = some (.row cs))
include ho hj
theorem Env.retell_get {x : Nat} (hx : x ≠ j) : (E.retell j cs').H[x]? = E.H[x]? := by have _ := ho; have _ := hj; simp only [Env.retell]; rw [List.getElem?_set_ne (Ne.symm hx)]
theorem Env.retell_at : (E.retell j cs').H[j]? = some (.row cs') := by have _ := ho; simp only [Env.retell]; rw [List.getElem?_set_self (lG hj)]
theorem Env.retell_row {x : Nat} {r : List PV} (h : (E.retell j cs').H[x]? = some (.row r)) : ∃ r', E.H[x]? = some (.row r') := by
 by_cases e : x = j
 ·subst e; exact ⟨cs, hj⟩
 ·rw [Env.retell_get ho hj e] at h; exact ⟨r, h⟩
theorem Env.retell_other {x : Nat} {o : AObj} (hn : ∀ r, o ≠ .row r) (h : (E.retell j cs').H[x]? = some o) : x ≠ j ∧ E.H[x]? = some o := by
 by_cases e : x = j
 ·subst e; rw [Env.retell_at ho hj] at h; injection h with h; exact absurd h.symm (hn _)
 ·rw [Env.retell_get ho hj e] at h; exact ⟨e, h⟩
theorem Env.retell_view : E.view.le (E.retell j cs').view := by
 refine ⟨fun a v h => h, fun x ⟨o, h1, h2⟩ => ?_, fun x _ => rfl, fun x t' _ ht => ⟨t', ?_, .inl rfl⟩⟩
 ·by_cases e : x = j
  ·subst e; exact ⟨_, Env.retell_at ho hj, by simp⟩
  ·exact ⟨o, by rw [Env.retell_get ho hj e]; exact h1, h2⟩
 ·simp only [Env.view] at ht ⊢
  by_cases e : x = j
  ·subst e; rw [Env.retell_at ho hj] at ht; simp at ht
  ·rw [Env.retell_get ho hj e] at ht; exact ht
theorem Env.retell_le : E.le (E.retell j cs') := by
 refine ⟨rfl, rfl, rfl, Nat.le_refl _, fun b hb h1 => ⟨rfl, rfl⟩, Env.retell_view ho hj, fun b hb => ?_⟩
 rintro (⟨x, r, h1, h2⟩ | ⟨x, n, sz, h1, h2⟩ | ⟨x, k, h1, h2⟩)
 ·obtain ⟨r', h3⟩ := Env.retell_row ho hj h1; exact .inl ⟨x, r', h3, h2⟩
 ·exact .inr (.inl ⟨x, n, sz, (Env.retell_other ho hj (by simp) h1).2, h2⟩)
 ·exact .inr (.inr ⟨x, k, (Env.retell_other ho hj (by simp) h1).2, h2⟩)
theorem Env.Ok.retell (hl : cs'.length = cs.length) (hr : ∀ i (h1 : i < cs.length) (h2 : i < cs'.length) v, VRel E.view v cs[i] → VRel E.view v cs'[i]) : (E.retell j cs').Ok := by
 have hv := Env.retell_view (cs' := cs') ho hj
 refine ⟨?_, ?_, ?_, ?_, ?_, ⟨?_, ?_⟩⟩
 ·intro x r hx
  by_cases e : x = j
  ·subst e
   rw [Env.retell_at ho hj] at hx
   cases hx
   obtain ⟨arr, el, h1, h2, h3, h4⟩ := ho.rows x cs hj
   exact ⟨arr, el, h1, by rw [h2, hl], fun i hi => (hr i (by omega) hi _ (h3 i (by omega))).mono hv, h4⟩
  ·rw [Env.retell_get ho hj e] at hx
   obtain ⟨arr, el, h1, h2, h3, h4⟩ := ho.rows x r hx
   exact ⟨arr, el, h1, h2, fun i hi => (h3 i hi).mono hv, h4⟩
 ·intro x n sz b hx hb
  exact ho.bufs x n sz b (Env.retell_other ho hj (by simp) hx).2 hb
 ·intro x x' r r' hx hx' e
  obtain ⟨_, h1⟩ := Env.retell_row ho hj hx
  obtain ⟨_, h2⟩ := Env.retell_row ho hj hx'
  exact ho.injr x x' _ _ h1 h2 e
 ·intro x x' n sz n' sz' b hx hx' hb hb'
  exact ho.injb x x' n sz n' sz' b (Env.retell_other ho hj (by simp) hx).2 (Env.retell_other ho hj (by simp) hx').2 hb hb'
 ·intro x b vs hx i hi
  exact hv.cell _ _ (ho.globs x b vs (Env.retell_other ho hj (by simp) hx).2 i hi)
 ·intro x k hx
  obtain ⟨⟨o, h1, h2⟩, h3⟩ := ho.objs.at_ x k (Env.retell_other ho hj (by simp) hx).2
  exact ⟨⟨o, h1, h2.mono hv⟩, h3⟩
 ·intro x x' k k' hx hx' e
  exact ho.objs.inj x x' k k' (Env.retell_other ho hj (by simp) hx).2 (Env.retell_other ho hj (by simp) hx').2 e
end
section
variable {P : Program} {N nb : Nat} {Q : Post}
theorem awp_frz1R {c : Code} {T : Slots} {H : Heap} (id k sz j : Nat) (es : List PV) {cs cs' : List PV} (hrow : H[id]? = some (.row (flatE es))) (hk : k ≤ es.length) (hes : ∀ e ∈ es, e.cells.length = sz) (hj : H[j]? = some (.row cs)) (hji : j ≠ id)
  (hl : cs'.length = cs.length) (hq : ∀ i (h1 : i < cs.length) (h2 : i < cs'.length), Fz id k es cs[i] cs'[i])
  (h : AWP P N nb c Q T ((H.set id dead).set j (.row cs'))) : AWP P N nb c Q T H := by
 intro E a ho hH ht
 subst hH
 have hle := Env.frz1_le ho hrow
 have ho1 := Env.Ok.frz1 ho hrow
 have hj1 : (E.frz1 id).H[j]? = some (.row cs) := by rw [Env.frz1_get ho hrow hji]; exact hj
 obtain ⟨arr, el, a1, a2, a3, a4⟩ := ho.rows j cs hj
 have ho2 : ((E.frz1 id).retell j cs').Ok := by
  have hv := Env.retell_view (cs' := cs') ho1 hj1
  refine ⟨?_, ?_, ?_, ?_, ?_, ⟨?_, ?_⟩⟩
  ·intro x r hx
   by_cases e : x = j
   ·subst e
    rw [Env.retell_at ho1 hj1] at hx
    cases hx
    obtain ⟨arr', el', h1, h2, h3, h4⟩ := ho1.rows x cs hj1
    have ea : arr' = arr := by
     have hh : E.w.heap[E.ρ x]? = some (.cells arr' el' (0, 0)) := h1
     rw [a1] at hh; injection hh with hh; injection hh with hh; exact hh.symm
    subst ea
    exact ⟨arr', el', h1, by rw [h2, hl], fun i hi => ((hq i (by omega) hi).rel ho hrow hk hes (a3 i (by omega))).mono hv, h4⟩
   ·rw [Env.retell_get ho1 hj1 e] at hx
    obtain ⟨arr, el, h1, h2, h3, h4⟩ := ho1.rows x r hx
    exact ⟨arr, el, h1, h2, fun i hi => (h3 i hi).mono hv, h4⟩
  ·intro x n sz b hx hb
   exact ho1.bufs x n sz b (Env.retell_other ho1 hj1 (by simp) hx).2 hb
  ·intro x x' r r' hx hx' e
   obtain ⟨_, h1⟩ := Env.retell_row ho1 hj1 hx
   obtain ⟨_, h2⟩ := Env.retell_row ho1 hj1 hx'
   exact ho1.injr x x' _ _ h1 h2 e
  ·intro x x' n sz n' sz' b hx hx' hb hb'
   exact ho1.injb x x' n sz n' sz' b (Env.retell_other ho1 hj1 (by simp) hx).2 (Env.retell_other ho1 hj1 (by simp) hx').2 hb hb'
  ·intro x b vs hx i hi
   exact hv.cell _ _ (ho1.globs x b vs (Env.retell_other ho1 hj1 (by simp) hx).2 i hi)
  ·intro x k hx
   obtain ⟨⟨o, h1, h2⟩, h3⟩ := ho1.objs.at_ x k (Env.retell_other ho1 hj1 (by simp) hx).2
   exact ⟨⟨o, h1, h2.mono hv⟩, h3⟩
  ·intro x x' k k' hx hx' e
   exact ho1.objs.inj x x' k k' (Env.retell_other ho1 hj1 (by simp) hx).2 (Env.retell_other ho1 hj1 (by simp) hx').2 e
 have hle2 := hle.trans (Env.retell_le (cs' := cs') ho1 hj1)
 exact wp_mono (h ((E.frz1 id).retell j cs') a ho2 rfl (ht.mono hle2.view)) fun e a w hl => lift_mono (hle2.leN nb) (fun _ _ _ q => q) hl
end
section
variable {P : Program} {N nb : Nat} {ops : Array Oper} {Q : Post}
theorem aops_bsK {o : Oper} {l : List Oper} {T : Slots} {H : Heap} {t : TypeId} {n : Nat} {ps : Array (Nat × Operand)} {ei : TypeId × TI} {z : PV} {es : List PV} (hw : awanted ops.toList T N o = some true)
  (hop : o.op = .buildSlice t n ps) (hok : ps.toList.all (fun x => okOpnd N x.2) = true) (hf : telem P t = some ei) (hz : tzero P ei.1 = some z)
  (hfit : z.fits ei.2 = true) (hs0 : 0 < ei.2.sz) (hn : 0 < n) (hsz : n * ei.2.sz ≤ 2 ^ 24) (hb : abuildSK ei.2 T (List.replicate n z) ps.toList = some es)
  (h : AOps P N nb ops Q l (updO T o.dst (.msl H.length 0 n n)) (H ++ [.row (flatE es)])) : AOps P N nb ops Q (o :: l) T H := by
 refine aops_done hw (fun E a ho hH ht => ?_) h
 have hun : E.ext.H[E.H.length]? = some .unborn := by simp [Env.ext]
 obtain ⟨E', val, e1, e2, e3, e4, e5⟩ := sound_buildSMK (ht.mono E.ext_view_le) ho.ext hok hf hz hfit hs0 hn hsz hb hun
 refine ⟨E', val, .inl ?_, E.ext_le.trans e2, e3, ?_, by rw [← hH]; exact e5⟩
 ·have e1' : (Instr.buildSlice t n (ps.map fun (i, x) => (i, a.eval x))).run P E.w = .ok val E'.w := e1
  unfold execOp
  rw [hop]
  simp only [Sem.run_bind, e1', Result.andThen_ok, Sem.run_pure]
 ·rw [e4]; simp only [Env.ext]
  rw [List.set_append_right _ _ (Nat.le_refl _)]; simp [hH]
end
end Go.Abs
namespace Go.Abs
open Go.Proofs
def lookM (toks : List Tk) (s : PS) : Option PS := bumpM toks ⟨s.pos, [⟨0, []⟩], false⟩
section
variable {toks : List Tk} {ip b : Nat} {s : PS} {F F0 : List Nat} {H0 H H' L : Heap} {o : AObj}
theorem look_keep0 (p : PSt toks ip s F H) (f : Fr F0 F H0 H) (g : Fr [] [] H H') : ∃ F', (∀ x, x ∉ F → x ∉ F') ∧ PSt toks ip s F' H' ∧ Fr F0 F' H0 H' :=
 ⟨F, fun _ h => h, p.fr fun i hi => g.same i (p.lt i hi) (by simp), Nat.le_trans f.len g.len, fun i h1 h2 => (g.same i (Nat.lt_of_lt_of_le h1 f.len) (by simp)).trans (f.same i h1 h2), f.ids⟩
theorem look_keep (p : PSt toks ip s F H) (f : Fr F0 F H0 H) (g : Fr [] [] (H ++ L) H') : ∃ F', (∀ x, x ∉ F → x ∉ F') ∧ PSt toks ip s F' H' ∧ Fr F0 F' H0 H' := look_keep0 (p.app L) (f.app L) g
theorem look_keepq0 (p : PSt toks ip s F H) (g : Fr [] [] H H') : PSt toks ip s F H' := p.fr fun i hi => g.same i (p.lt i hi) (by simp)
theorem look_keepq (p : PSt toks ip s F H) (g : Fr [] [] (H ++ L) H') : PSt toks ip s F H' := look_keepq0 (p.app L) g
theorem look_get {F' : List Nat} (g : Fr [] [] H H') (h : H[b]? = some o) (hn : b ∉ F) (nf : ∀ x, x ∉ F → x ∉ F') : H'[b]? = some o ∧ b ∉ F' := ⟨(g.get h (by simp)).1, nf _ hn⟩
theorem envL_hd {l : List (Nat × AObj)} (h : EnvL ((b, o) :: l) s F H) : H[b]? = some o ∧ b ∉ F := h.1
theorem bind_id {α : Type} {m : Option α} {x : α} (h : m = some x) : (m.bind fun s => some s) = some x := by rw [h]; rfl
end
def loopE (c : PS → Bool) (e b : PS → Option PS) : Nat → PS → Option PS
 | 0, _ => none
 | n + 1, s => if c s = true then ((e s).bind b).bind (loopE c e b n) else e s
def atPatT (t : Tk) : Bool := (decide (t.kind = 103) || decide (t.kind = 105)) || atT t [[116, 114, 117, 101], [102, 97, 108, 115, 101], [109, 117, 116]]
def opsL : Nat → List (List UInt8)
 | 0 => [[124, 124]]
 | 1 => [[38, 38]]
 | 2 => [[61, 61], [60]]
 | 3 => [[43], [45]]
 | 4 => [[42], [47]]
 | _ => []
theorem opsL_le (l : Nat) : (opsL l).length ≤ maxLen := by
 have : (opsL l).length ≤ 2 := by unfold opsL; split <;> simp
 exact Nat.le_trans this (by decide)
def itemsL : List (List UInt8) := [[117, 115, 101], [102, 110], [115, 116, 114, 117, 99, 116], [101, 110, 117, 109], [116, 114, 97, 105, 116], [105, 109, 112, 108], [99, 111, 110, 115, 116], [109, 97, 99, 114, 111]]
def itemKindI (t : List UInt8) : Int := if idxI (fun x => decide (t = x)) itemsL < 0 then 0 else 2 + idxI (fun x => decide (t = x)) itemsL
end Go.Abs
namespace Go.Abs
open Go.Proofs
theorem binops_c (l : Nat) (hl : l < 5) {H : Heap} : ACalls Tryz.prog 136 [.int .i64 (l : Nat)] H fun r' H' => r' = .slice ((opsL l).map PV.str) .none ∧ H' = H := by
 refine keeps_of (N := 12) Tryz.func136 rfl rfl (by simp) (bel_strs0 _ _) fun hb' => ?_
 refine qE0 ?_
 obtain rfl | rfl | rfl | rfl | rfl : l = 0 ∨ l = 1 ∨ l = 2 ∨ l = 3 ∨ l = 4 := by omega
 ·-- case
  refine qE (a3 y9 y72 y140) ?_
  repeat refine wS ?_
  refine wT ⟨.inr rfl, _, _, rfl, ?_, (by first | exact (List.append_nil _).symm | rfl)⟩
  simp only [jN, seval, vint, qC]
  try rfl
 ·-- case
  refine qE (a3 y9 y72 y140) ?_
  repeat refine wS ?_
  refine wT ⟨.inr rfl, _, _, rfl, ?_, (by first | exact (List.append_nil _).symm | rfl)⟩
  simp only [jN, seval, vint, qC]
  try rfl
 ·-- case
  refine qE (a3 y9 y72 y140) ?_
  repeat refine wS ?_
  refine wT ⟨.inr rfl, _, _, rfl, ?_, (by first | exact (List.append_nil _).symm | rfl)⟩
  simp only [jN, seval, vint, qC]
  try rfl
 ·-- case
  refine qE (a3 y9 y72 y140) ?_
  repeat refine wS ?_
  refine wT ⟨.inr rfl, _, _, rfl, ?_, (by first | exact (List.append_nil _).symm | rfl)⟩
  simp only [jN, seval, vint, qC]
  try rfl
 ·-- case
  refine qE (a3 y9 y72 y140) ?_
  repeat refine wS ?_
  refine wT ⟨.inr rfl, _, _, rfl, ?_, (by first | exact (List.append_nil _).symm | rfl)⟩
  simp only [jN, seval, vint, qC]
  try rfl
theorem items_f : Lib.fields [117, 115, 101, 32, 102, 110, 32, 115, 116, 114, 117, 99, 116, 32, 101, 110, 117, 109, 32, 116, 114, 97, 105, 116, 32, 105, 109, 112, 108, 32, 99, 111, 110, 115, 116, 32, 109, 97, 99, 114, 111] = itemsL := by kernel_rfl
theorem itemKind_c {H : Heap} (hG : H[0]? = some gO) (t : List UInt8) : ACalls Tryz.prog 58 [.str t] H fun r' H' => r' = .int .i64 (itemKindI t) ∧ H' = H := by
 have hk := fields_c [117, 115, 101, 32, 102, 110, 32, 115, 116, 114, 117, 99, 116, 32, 101, 110, 117, 109, 32, 116, 114, 97, 105, 116, 32, 105, 109, 112, 108, 32, 99, 111, 110, 115, 116, 32, 109, 97, 99, 114, 111] (by decide) (by decide) (by rw [items_f]; decide) hG
 rw [items_f] at hk
 have hi1 := idxI_lt (p := fun x => decide (t = x)) (xs := itemsL)
 have hle : (itemsL.length : Int) = 8 := rfl
 refine keeps_of (N := 11) Tryz.func58 rfl rfl (by simp) ((.int _ _)) fun hb' => ?_
 refine qE0 ?_
 repeat refine wS ?_
 refine wR ?_
 refine oP (by simp only [kC, seval, vint, qC] <;> rfl) (by simp only [kC, seval, vint, qC]) (by decide) zgo80 hk ?_
 refine qU0 1 ?_
 refine qP0 zgo79 (indexStr itemsL t (by decide) _) ?_
 refine qX0 ?_
 refine qE y3 ?_
 refine qI0 (fun bt8 => ?_) (fun bt8 => ?_)
 ·-- if t8
  have hb := of_decide_eq_true bt8
  have hz : itemKindI t = 0 := by unfold itemKindI; rw [if_pos hb]
  refine qE0 ?_
  repeat refine wS ?_
  refine wT ⟨.inr rfl, _, _, rfl, ?_, (by first | exact (List.append_nil _).symm | rfl)⟩
  rw [hz]
  simp only [jN, seval, vint, qC]
  try rfl
 ·-- else t8
  have hb := of_decide_eq_false bt8
  have hz : itemKindI t = 2 + idxI (fun x => decide (t = x)) itemsL := by unfold itemKindI; rw [if_neg hb]
  have gw : IntKind.i64.wrap (2 + idxI (fun x => decide (t = x)) itemsL) = 2 + idxI (fun x => decide (t = x)) itemsL := by rw [wrap_id (by omega) (by omega)]
  refine qK ?_
  refine qE (a2 y3 gw) ?_
  repeat refine wS ?_
  refine wT ⟨.inr rfl, _, _, rfl, ?_, (by first | exact (List.append_nil _).symm | rfl)⟩
  rw [hz]
  simp only [jN, seval, vint, qC]
  try rfl
theorem atPattern_c {H : Heap} {ip pos : Nat} {toks : List Tk} {st : PV} (hp : H[ip]? = some (.row [.slice (toks.map Tk.enc) .none, .int .i64 (pos : Nat), st])) (hl : toks.length ≤ 4611686018427387904) (hpos : pos ≤ toks.length) : ACalls Tryz.prog 168 [.optr ip 0] H fun r' H' => r' = .bool (atPatT (peekT toks pos)) ∧ H' = H := by
 have q : ∀ L, (H ++ L)[ip]? = some (.row [.slice (toks.map Tk.enc) .none, .int .i64 (pos : Nat), st]) := fun L => by rw [List.getElem?_append_left (lG hp)]; exact hp
 have hip := lG hp
 have ff : ∀ k, (ip = H.length + k) = False := fun k => by simp; omega
 have ff0 : (ip = H.length) = False := by simp; omega
 refine keeps_of (N := 16) Tryz.func168 rfl rfl (by simp) ((.bool _)) fun hb' => ?_
 repeat refine wS ?_
 refine eE (by simp only [kA, seval, vint, q, ff, ff0] <;> with_reducible rfl) (by decide) ?_
 repeat refine wS ?_
 refine wR ?_
 refine aops_gstart ?_
 refine g_take 1 (by simp only [jG, jO, jN, seval, vint, q, ff, ff0] <;> with_reducible rfl) (by decide) ?_
 refine aops_gpure (by simp only [kE, seval, vint, q, ff, ff0] <;> with_reducible rfl) (by simp only [kE, seval, vint, q, ff, ff0] <;> with_reducible rfl) (by simp only [kE, seval, vint, q, ff, ff0]) (by decide) zgo109 (fun hc => atIdent_c (by first | exact hp | exact getL hp _) hl hpos) ?_
 refine g_take 2 (by simp only [jG, jO, jN, seval, vint, q, ff, ff0] <;> with_reducible rfl) (by decide) ?_
 refine aops_gpure (by simp only [kE, seval, vint, q, ff, ff0] <;> with_reducible rfl) (by simp only [kE, seval, vint, q, ff, ff0] <;> with_reducible rfl) (by simp only [kE, seval, vint, q, ff, ff0]) (by decide) zgo55 (fun hc => peek_a (by first | exact hp | exact getL hp _) hl hpos) ?_
 refine g_take 6 (by simp only [jG, jO, jN, seval, y3, y9, y72, y32, vint, q, ff, ff0] <;> with_reducible rfl) (by decide) ?_
 refine aops_gpure (by simp only [kE, seval, vint, q, ff, ff0] <;> with_reducible rfl) (by simp only [kE, seval, vint, q, ff, ff0] <;> with_reducible rfl) (by simp only [kE, seval, vint, q, ff, ff0]) (by decide) zgo56 (fun hc => at_c (by first | exact hp | exact getL hp _) hl hpos [[116, 114, 117, 101], [102, 97, 108, 115, 101], [109, 117, 116]] (by decide)) ?_
 refine g_end (by simp only [jG, jO, jN, seval, vint, q, ff, ff0] <;> with_reducible rfl) (by decide) (by repeat (first | exact Fin.base _ | with_reducible apply Fin.keep | apply Fin.drop)) ?_
 repeat refine wS ?_
 refine wT ⟨.inr rfl, _, _, rfl, ?_, (by first | exact (List.append_nil _).symm | rfl)⟩
 simp only [jN, seval, vint]
 try rfl
theorem look_c0 {toks : List Tk} {ip : Nat} {s sq : PS} {F0 : List Nat} {H0 : Heap} (hm : lookM toks s = some sq) (p0 : PSt toks ip s F0 H0) :
  ACalls Tryz.prog 57 [.optr ip 0] H0 fun r H' => ∃ iq Fq, r = .optr iq 0 ∧ PSt toks iq sq Fq H' ∧ Fr [] [] H0 H' := by
 have hl := lim_le p0.len
 have hlim := p0.len
 have hpos := p0.pos
 obtain ⟨st0, h1⟩ := p0.row
 have q1 := getL h1
 have hip := lG h1
 have nip : ∀ k, (ip = H0.length + k) = False := fun k => by simp; omega
 have nip0 : (ip = H0.length) = False := by simp; omega
 have nib : ∀ k, (H0.length + k == ip) = false := fun k => by simp; omega
 have nib2 : (H0.length == ip) = false := by simp; omega
 refine aF (N := 19) Tryz.func57 rfl rfl (by simp) fun hb' => ?_
 repeat refine wS ?_
 refine eE (by simp only [kA, seval, vint, h1, q1, nip, nip0, nib, nib2] <;> with_reducible rfl) (by decide) ?_
 repeat refine wS ?_
 refine awp_draw 2 (by kernel_rfl) ?_
 refine d_take (bm := [0, 1, 3, 7, 0, 16, 48, 112, 0, 256, 1023, 2047, 4095]) 9 (fresh := (H0.length + 1)) (by kernel_rfl) (by simp only [jD, jO, jN, seval, y3, y38, y24, y59, y32, vint, h1, q1, nip, nip0, nib, nib2] <;> with_reducible rfl) (by decide) (by decide) ?_
 refine dops_bsK (bm := [0, 1, 3, 7, 0, 16, 48, 112, 0, 256, 1023, 2047, 4095]) H0.length (t := 36) (n := 1) (es := [.agg [.int .i64 0, .str [], .slice [] .full]]) (by kernel_rfl) (by simp) (by simp only [kC, seval, vint, h1, q1, nip, nip0, nib, nib2]) rfl (by decide) zte36 ztz38 rfl (by decide) (by decide) (by decide) (by simp only [kC, seval, vint, h1, q1, nip, nip0, nib, nib2, abuildSK, y38, zStf, zStd] <;> first | done | rfl) (by simp only [jD, jO, jN, seval, vint, h1, q1, nip, nip0, nib, nib2] <;> first | done | rfl) ?_
 rw [show ∀ o, (H0 ++ [AObj.unborn, AObj.unborn]).set H0.length o = H0 ++ [o, AObj.unborn] from fun o => by simp]
 refine d_end (bm := [0, 1, 3, 7, 0, 16, 48, 112, 0, 256, 1023, 2047, 4095]) (fresh := (H0.length + 1)) (by kernel_rfl) (by simp only [jD, jO, jN, seval, y59, vint, h1, q1, nip, nip0, nib, nib2] <;> with_reducible rfl) (by decide) ?_
 have pn : PSt toks (H0.length + 1) ⟨s.pos, [⟨0, []⟩], false⟩ [H0.length + 1, H0.length] (H0 ++ [.row (flatE [.agg [.int .i64 0, .str [], .slice [] .full]]), .row [.slice (toks.map Tk.enc) .none, .int .i64 (s.pos : Nat), .msl H0.length 0 1 1]]) := ⟨H0.length, 1, [.int .i64 0, .str [], .slice [] .full], [], [], by simp, by simp [flatE, PV.cells], rfl, by decide, StkOk.cons (f := ⟨0, []⟩) .nil .nil (fun i hi => by cases hi), rfl, by omega, by simp, by simp, hpos, hlim⟩
 ·-- case
  repeat refine wS ?_
  refine wR ?_
  refine eT 1 (by simp only [kA, seval, vint, h1, q1, nip, nip0, nib, nib2] <;> with_reducible rfl) (by decide) ?_
  refine oC (by simp only [kC, seval, vint, h1, q1, nip, nip0, nib, nib2] <;> with_reducible rfl) (by simp only [kC, seval, vint, h1, q1, nip, nip0, nib, nib2]) (by decide) zgo63 (FN.ap0 (bump_c toks (H0.length + 1)) hm pn) ?_
  rintro _ H1 ⟨rfl, F1, p1, g1⟩
  refine oN ?_
  refine wL [3] (by simp only [jN, seval, vint, h1, q1, nip, nip0, nib, nib2] <;> with_reducible rfl) ?_
  repeat refine wS ?_
  refine eE (by simp only [kA, seval, vint, h1, q1, nip, nip0, nib, nib2] <;> with_reducible rfl) (by decide) ?_
  repeat refine wS ?_
  refine wT ⟨.inr rfl, _, rfl, ?_⟩
  refine ⟨H0.length + 1, F1, rfl, p1, ⟨by have := g1.len; simp at this; omega, fun i hi _ => ?_, fun i hi _ => by cases hi⟩⟩
  rw [g1.same i (by simp; omega) (by simp; omega), List.getElem?_append_left hi]
theorem look_c {toks : List Tk} {ip : Nat} {s sq : PS} {F0 : List Nat} {H0 : Heap} (hm : lookM toks s = some sq) (p0 : PSt toks ip s F0 H0) (L : Heap) :
  ACalls Tryz.prog 57 [.optr ip 0] (H0 ++ L) fun r H' => ∃ iq Fq, r = .optr iq 0 ∧ PSt toks iq sq Fq H' ∧ Fr [] [] (H0 ++ L) H' := look_c0 hm (p0.app L)
end Go.Abs
namespace Go.Abs
open Go.Proofs
def m107 (toks : List Tk) (n : Nat) (R : Rec) (s0 : PS) : Option PS := ((R (.binary 0)) s0).bind fun s1 => some s1
theorem m107_w {toks : List Tk} {ip n : Nat} {R : Rec} (IH : IHs toks ip R) : FG toks ip 94 [.optr ip 0] (m107 toks n R ) (frv .expr) := by
 intro s0 s' F0 H0 hm p0 i0
 obtain ⟨⟨hg, n0a⟩, _⟩ := i0
 obtain ⟨st0, r0⟩ := p0.row
 have hl := lim_le p0.len
 have f0 := Fr.refl F0 H0
 have k0a := hg
 unfold m107 at hm
 refine aF (N := 4) Tryz.func94 rfl rfl (by simp) fun hb' => ?_
 obtain ⟨s1, e1, hm⟩ := oB hm
 refine qW 1 (w2 r0 k0a) (FG.apX (IH (.binary 0)) e1 p0 ⟨k0a, n0a⟩) ?_
 rintro _ H1 ⟨rfl, F1, p1, g1⟩
 obtain ⟨f1, ⟨st1, r1⟩, ⟨k1a, n1a⟩⟩ := nx1 f0 p1 g1 k0a n0a
 refine enX ?_
 injection hm with hm
 subst hm
 exact finX p1 f1
def m170 (toks : List Tk) (n : Nat) (R : Rec) (s0 : PS) : Option PS := ((bumpM toks) s0).bind fun s1 => if atT (peekT toks s1.pos) [[59]] = true then (((missM 0) s1).bind fun s2 => ((expectM toks [59]) s2).bind fun s3 => some s3) else (((R .expr) s1).bind fun s2 => ((expectM toks [59]) s2).bind fun s3 => some s3)
theorem m170_w {toks : List Tk} {ip n : Nat} {R : Rec} (IH : IHs toks ip R) : FG toks ip 144 [.optr ip 0] (m170 toks n R ) (frv .returnStmt) := by
 intro s0 s' F0 H0 hm p0 i0
 obtain ⟨⟨hg, n0a⟩, _⟩ := i0
 obtain ⟨st0, r0⟩ := p0.row
 have hl := lim_le p0.len
 have f0 := Fr.refl F0 H0
 have k0a := hg
 unfold m170 at hm
 refine aF (N := 13) Tryz.func144 rfl rfl (by simp) fun hb' => ?_
 obtain ⟨s1, e1, hm⟩ := oB hm
 refine qW 1 (w2 r0 k0a) (FN.apX (bump_c toks ip) e1 p0) ?_
 rintro _ H1 ⟨rfl, F1, p1, g1⟩
 obtain ⟨f1, ⟨st1, r1⟩, ⟨k1a, n1a⟩⟩ := nx1 f0 p1 g1 k0a n0a
 refine qT 2 (a3 y9 y72 (w2 r1 k1a)) ?_
 refine qP (w2 r1 k1a) zgo56 (at_c (gtH r1) hl p1.pos [[59]] (by decide)) ?_
 refine oN ?_
 refine qI (w2 r1 k1a) (fun bt6 => ?_) (fun bt6 => ?_)
 ·-- if t6
  rw [ifT bt6] at hm
  obtain ⟨s2, e2, hm⟩ := oB hm
  refine qW 1 (w2 r1 k1a) (FN.apX (absent_c toks ip) e2 p1) ?_
  rintro _ H2 ⟨rfl, F2, p2, g2⟩
  obtain ⟨f2, ⟨st2, r2⟩, ⟨k2a, n2a⟩⟩ := nx1 f1 p2 g2 k1a n1a
  obtain ⟨s3, e3, hm⟩ := oB hm
  refine qW 1 (w2 r2 k2a) (FN.apX (expect_c toks ip [59]) e3 p2) ?_
  rintro _ H3 ⟨rfl, F3, p3, g3⟩
  obtain ⟨f3, ⟨st3, r3⟩, ⟨k3a, n3a⟩⟩ := nx1 f2 p3 g3 k2a n2a
  refine enX ?_
  injection hm with hm
  subst hm
  exact finX p3 f3
 ·-- else t6
  rw [ifF bt6] at hm
  obtain ⟨s2, e2, hm⟩ := oB hm
  refine qW 1 (w2 r1 k1a) (FG.apX (IH .expr) e2 p1 ⟨k1a, n1a⟩) ?_
  rintro _ H2 ⟨rfl, F2, p2, g2⟩
  obtain ⟨f2, ⟨st2, r2⟩, ⟨k2a, n2a⟩⟩ := nx1 f1 p2 g2 k1a n1a
  obtain ⟨s3, e3, hm⟩ := oB hm
  refine qW 1 (w2 r2 k2a) (FN.apX (expect_c toks ip [59]) e3 p2) ?_
  rintro _ H3 ⟨rfl, F3, p3, g3⟩
  obtain ⟨f3, ⟨st3, r3⟩, ⟨k3a, n3a⟩⟩ := nx1 f2 p3 g3 k2a n2a
  refine enX ?_
  injection hm with hm
  subst hm
  exact finX p3 f3
def m168 (toks : List Tk) (n : Nat) (R : Rec) (s0 : PS) : Option PS := ((bumpM toks) s0).bind fun s1 => ((R .pattern) s1).bind fun s2 => ((optionalM toks ([58]) (R .typeExpr)) s2).bind fun s3 => ((expectM toks [61]) s3).bind fun s4 => ((R .expr) s4).bind fun s5 => ((expectM toks [59]) s5).bind fun s6 => some s6
theorem m168_w {toks : List Tk} {ip n : Nat} {R : Rec} (IH : IHs toks ip R) : FG toks ip 142 [.optr ip 0] (m168 toks n R ) (frv .letS) := by
 intro s0 s' F0 H0 hm p0 i0
 obtain ⟨⟨hg, n0a⟩, _⟩ := i0
 obtain ⟨st0, r0⟩ := p0.row
 have hl := lim_le p0.len
 have f0 := Fr.refl F0 H0
 have k0a := hg
 unfold m168 at hm
 refine aF (N := 16) Tryz.func142 rfl rfl (by simp) fun hb' => ?_
 obtain ⟨s1, e1, hm⟩ := oB hm
 refine qW 1 (w2 r0 k0a) (FN.apX (bump_c toks ip) e1 p0) ?_
 rintro _ H1 ⟨rfl, F1, p1, g1⟩
 obtain ⟨f1, ⟨st1, r1⟩, ⟨k1a, n1a⟩⟩ := nx1 f0 p1 g1 k0a n0a
 obtain ⟨s2, e2, hm⟩ := oB hm
 refine qW 1 (w2 r1 k1a) (FG.apX (IH .pattern) e2 p1 ⟨k1a, n1a⟩) ?_
 rintro _ H2 ⟨rfl, F2, p2, g2⟩
 obtain ⟨f2, ⟨st2, r2⟩, ⟨k2a, n2a⟩⟩ := nx1 f1 p2 g2 k1a n1a
 have q2 := getL r2
 have b2a := getL k2a
 obtain ⟨s3, e3, hm⟩ := oB hm
 refine qW 3 (w2 r2 k2a) (FC.apX (optional_c toks ip ([58]) 93 [.optr ip 0] [] zgo93 (stbL [(0, gO)]) (FG.fc (IH .typeExpr))) e3 p2 ⟨⟨k2a, n2a⟩, trivial⟩) ?_
 rintro _ H3 ⟨rfl, F3, p3, g3⟩
 obtain ⟨f3, ⟨st3, r3⟩, ⟨k3a, n3a⟩⟩ := nx1 f2 p3 g3 k2a n2a
 obtain ⟨s4, e4, hm⟩ := oB hm
 refine qW 1 (w2 r3 k3a) (FN.apX (expect_c toks ip [61]) e4 p3) ?_
 rintro _ H4 ⟨rfl, F4, p4, g4⟩
 obtain ⟨f4, ⟨st4, r4⟩, ⟨k4a, n4a⟩⟩ := nx1 f3 p4 g4 k3a n3a
 obtain ⟨s5, e5, hm⟩ := oB hm
 refine qW 1 (w2 r4 k4a) (FG.apX (IH .expr) e5 p4 ⟨k4a, n4a⟩) ?_
 rintro _ H5 ⟨rfl, F5, p5, g5⟩
 obtain ⟨f5, ⟨st5, r5⟩, ⟨k5a, n5a⟩⟩ := nx1 f4 p5 g5 k4a n4a
 obtain ⟨s6, e6, hm⟩ := oB hm
 refine qW 1 (w2 r5 k5a) (FN.apX (expect_c toks ip [59]) e6 p5) ?_
 rintro _ H6 ⟨rfl, F6, p6, g6⟩
 obtain ⟨f6, ⟨st6, r6⟩, ⟨k6a, n6a⟩⟩ := nx1 f5 p6 g6 k5a n5a
 refine enX ?_
 injection hm with hm
 subst hm
 exact finX p6 f6
def m184 (toks : List Tk) (n : Nat) (R : Rec) (s0 : PS) : Option PS := ((bumpM toks) s0).bind fun s1 => ((listM toks n ([41]) (m107 toks n R)) s1).bind fun s2 => some s2
theorem m184_w {toks : List Tk} {ip n : Nat} {R : Rec} (IH : IHs toks ip R) : FG toks ip 154 [.optr ip 0] (m184 toks n R ) (frv .arguments) := by
 intro s0 s' F0 H0 hm p0 i0
 obtain ⟨⟨hg, n0a⟩, _⟩ := i0
 obtain ⟨st0, r0⟩ := p0.row
 have hl := lim_le p0.len
 have f0 := Fr.refl F0 H0
 have k0a := hg
 unfold m184 at hm
 refine aF (N := 8) Tryz.func154 rfl rfl (by simp) fun hb' => ?_
 obtain ⟨s1, e1, hm⟩ := oB hm
 refine qW 1 (w2 r0 k0a) (FN.apX (bump_c toks ip) e1 p0) ?_
 rintro _ H1 ⟨rfl, F1, p1, g1⟩
 obtain ⟨f1, ⟨st1, r1⟩, ⟨k1a, n1a⟩⟩ := nx1 f0 p1 g1 k0a n0a
 have q1 := getL r1
 have b1a := getL k1a
 obtain ⟨s2, e2, hm⟩ := oB hm
 refine qW 3 (w2 r1 k1a) (FC.apX (list_c toks ip n ([41]) 94 [.optr ip 0] [] zgo94 (stbL [(0, gO)]) (fun _ _ _ => envL_hd) (FG.fc (m107_w (n := n) IH))) e2 p1 ⟨⟨k1a, n1a⟩, trivial⟩) ?_
 rintro _ H2 ⟨rfl, F2, p2, g2⟩
 obtain ⟨f2, ⟨st2, r2⟩, ⟨k2a, n2a⟩⟩ := nx1 f1 p2 g2 k1a n1a
 refine enX ?_
 injection hm with hm
 subst hm
 exact finX p2 f2
def m175 (toks : List Tk) (n : Nat) (R : Rec) (s0 : PS) : Option PS := ((bumpM toks) s0).bind fun s1 => ((R .unary) s1).bind fun s2 => some s2
theorem m175_w {toks : List Tk} {ip n : Nat} {R : Rec} (IH : IHs toks ip R) (b0 : Nat) : FC Tryz.prog toks ip 149 [.optr b0 0] (m175 toks n R ) unitR (EnvL [(0, gO), (b0, .row [.optr ip 0])]) := by
 refine fc_of fun s0 s' F0 H0 hm p0 i0 => ?_
 obtain ⟨⟨k0a, n0a⟩, ⟨k0b, n0b⟩, _⟩ := i0
 obtain ⟨st0, r0⟩ := p0.row
 have hl := lim_le p0.len
 have f0 := Fr.refl F0 H0
 unfold m175 at hm
 refine aF (N := 5) Tryz.func149 rfl rfl (by simp) fun hb' => ?_
 refine qT 1 (a2 y57 (w3 r0 k0a k0b)) ?_
 obtain ⟨s1, e1, hm⟩ := oB hm
 refine qN (w3 r0 k0a k0b) (FN.apX (bump_c toks ip) e1 p0) ?_
 rintro _ H1 ⟨rfl, F1, p1, g1⟩
 obtain ⟨f1, ⟨st1, r1⟩, ⟨k1a, n1a⟩, ⟨k1b, n1b⟩⟩ := nx2 f0 p1 g1 k0a n0a k0b n0b
 refine qT 1 (a2 y57 (w3 r1 k1a k1b)) ?_
 obtain ⟨s2, e2, hm⟩ := oB hm
 refine qN (w3 r1 k1a k1b) (FG.apX (IH .unary) e2 p1 ⟨k1a, n1a⟩) ?_
 rintro _ H2 ⟨rfl, F2, p2, g2⟩
 obtain ⟨f2, ⟨st2, r2⟩, ⟨k2a, n2a⟩, ⟨k2b, n2b⟩⟩ := nx2 f1 p2 g2 k1a n1a k1b n1b
 refine enX ?_
 injection hm with hm
 subst hm
 exact finX p2 f2
def m176 (toks : List Tk) (n : Nat) (R : Rec) (s0 : PS) : Option PS := ((bumpM toks) s0).bind fun s1 => ((acceptM toks [[109, 117, 116]]) s1).bind fun s2 => ((R .unary) s2).bind fun s3 => some s3
theorem m176_w {toks : List Tk} {ip n : Nat} {R : Rec} (IH : IHs toks ip R) (b0 : Nat) : FC Tryz.prog toks ip 150 [.optr b0 0] (m176 toks n R ) unitR (EnvL [(0, gO), (b0, .row [.optr ip 0])]) := by
 refine fc_of fun s0 s' F0 H0 hm p0 i0 => ?_
 obtain ⟨⟨k0a, n0a⟩, ⟨k0b, n0b⟩, _⟩ := i0
 obtain ⟨st0, r0⟩ := p0.row
 have hl := lim_le p0.len
 have f0 := Fr.refl F0 H0
 unfold m176 at hm
 refine aF (N := 8) Tryz.func150 rfl rfl (by simp) fun hb' => ?_
 refine qT 1 (a2 y57 (w3 r0 k0a k0b)) ?_
 obtain ⟨s1, e1, hm⟩ := oB hm
 refine qN (w3 r0 k0a k0b) (FN.apX (bump_c toks ip) e1 p0) ?_
 rintro _ H1 ⟨rfl, F1, p1, g1⟩
 obtain ⟨f1, ⟨st1, r1⟩, ⟨k1a, n1a⟩, ⟨k1b, n1b⟩⟩ := nx2 f0 p1 g1 k0a n0a k0b n0b
 refine qT 2 (a4 y9 y57 y72 (w3 r1 k1a k1b)) ?_
 obtain ⟨s2, e2, hm⟩ := oB hm
 refine qN (w3 r1 k1a k1b) (FN.apX (accept_c toks ip [[109, 117, 116]] (by decide)) e2 p1) ?_
 rintro _ H2 ⟨rfl, F2, p2, g2⟩
 obtain ⟨f2, ⟨st2, r2⟩, ⟨k2a, n2a⟩, ⟨k2b, n2b⟩⟩ := nx2 f1 p2 g2 k1a n1a k1b n1b
 refine qT 1 (a2 y57 (w3 r2 k2a k2b)) ?_
 obtain ⟨s3, e3, hm⟩ := oB hm
 refine qN (w3 r2 k2a k2b) (FG.apX (IH .unary) e3 p2 ⟨k2a, n2a⟩) ?_
 rintro _ H3 ⟨rfl, F3, p3, g3⟩
 obtain ⟨f3, ⟨st3, r3⟩, ⟨k3a, n3a⟩, ⟨k3b, n3b⟩⟩ := nx2 f2 p3 g3 k2a n2a k2b n2b
 refine enX ?_
 injection hm with hm
 subst hm
 exact finX p3 f3
def m191 (toks : List Tk) (n : Nat) (R : Rec) (s0 : PS) : Option PS := ((bumpM toks) s0).bind fun s1 => ((bumpM toks) s1).bind fun s2 => ((R .arguments) s2).bind fun s3 => some s3
theorem m191_w {toks : List Tk} {ip n : Nat} {R : Rec} (IH : IHs toks ip R) (b0 : Nat) : FC Tryz.prog toks ip 161 [.optr b0 0] (m191 toks n R ) unitR (EnvL [(0, gO), (b0, .row [.optr ip 0])]) := by
 refine fc_of fun s0 s' F0 H0 hm p0 i0 => ?_
 obtain ⟨⟨k0a, n0a⟩, ⟨k0b, n0b⟩, _⟩ := i0
 obtain ⟨st0, r0⟩ := p0.row
 have hl := lim_le p0.len
 have f0 := Fr.refl F0 H0
 unfold m191 at hm
 refine aF (N := 7) Tryz.func161 rfl rfl (by simp) fun hb' => ?_
 refine qT 1 (a2 y57 (w3 r0 k0a k0b)) ?_
 obtain ⟨s1, e1, hm⟩ := oB hm
 refine qN (w3 r0 k0a k0b) (FN.apX (bump_c toks ip) e1 p0) ?_
 rintro _ H1 ⟨rfl, F1, p1, g1⟩
 obtain ⟨f1, ⟨st1, r1⟩, ⟨k1a, n1a⟩, ⟨k1b, n1b⟩⟩ := nx2 f0 p1 g1 k0a n0a k0b n0b
 refine qT 1 (a2 y57 (w3 r1 k1a k1b)) ?_
 obtain ⟨s2, e2, hm⟩ := oB hm
 refine qN (w3 r1 k1a k1b) (FN.apX (bump_c toks ip) e2 p1) ?_
 rintro _ H2 ⟨rfl, F2, p2, g2⟩
 obtain ⟨f2, ⟨st2, r2⟩, ⟨k2a, n2a⟩, ⟨k2b, n2b⟩⟩ := nx2 f1 p2 g2 k1a n1a k1b n1b
 refine qT 1 (a2 y57 (w3 r2 k2a k2b)) ?_
 obtain ⟨s3, e3, hm⟩ := oB hm
 refine qN (w3 r2 k2a k2b) (FG.apX (IH .arguments) e3 p2 ⟨k2a, n2a⟩) ?_
 rintro _ H3 ⟨rfl, F3, p3, g3⟩
 obtain ⟨f3, ⟨st3, r3⟩, ⟨k3a, n3a⟩, ⟨k3b, n3b⟩⟩ := nx2 f2 p3 g3 k2a n2a k2b n2b
 refine enX ?_
 injection hm with hm
 subst hm
 exact finX p3 f3
def m192 (toks : List Tk) (n : Nat) (R : Rec) (s0 : PS) : Option PS := ((bumpM toks) s0).bind fun s1 => ((expectIdentM toks) s1).bind fun s2 => some s2
theorem m192_w {toks : List Tk} {ip n : Nat} {R : Rec} (IH : IHs toks ip R) (b0 : Nat) : FC Tryz.prog toks ip 162 [.optr b0 0] (m192 toks n R ) unitR (EnvL [(0, gO), (b0, .row [.optr ip 0])]) := by
 refine fc_of fun s0 s' F0 H0 hm p0 i0 => ?_
 obtain ⟨⟨k0a, n0a⟩, ⟨k0b, n0b⟩, _⟩ := i0
 obtain ⟨st0, r0⟩ := p0.row
 have hl := lim_le p0.len
 have f0 := Fr.refl F0 H0
 unfold m192 at hm
 refine aF (N := 5) Tryz.func162 rfl rfl (by simp) fun hb' => ?_
 refine qT 1 (a2 y57 (w3 r0 k0a k0b)) ?_
 obtain ⟨s1, e1, hm⟩ := oB hm
 refine qN (w3 r0 k0a k0b) (FN.apX (bump_c toks ip) e1 p0) ?_
 rintro _ H1 ⟨rfl, F1, p1, g1⟩
 obtain ⟨f1, ⟨st1, r1⟩, ⟨k1a, n1a⟩, ⟨k1b, n1b⟩⟩ := nx2 f0 p1 g1 k0a n0a k0b n0b
 refine qT 1 (a2 y57 (w3 r1 k1a k1b)) ?_
 obtain ⟨s2, e2, hm⟩ := oB hm
 refine qN (w3 r1 k1a k1b) (FN.apX (expectIdent_c toks ip) e2 p1) ?_
 rintro _ H2 ⟨rfl, F2, p2, g2⟩
 obtain ⟨f2, ⟨st2, r2⟩, ⟨k2a, n2a⟩, ⟨k2b, n2b⟩⟩ := nx2 f1 p2 g2 k1a n1a k1b n1b
 refine enX ?_
 injection hm with hm
 subst hm
 exact finX p2 f2
def m183 (toks : List Tk) (n : Nat) (R : Rec) (s0 : PS) : Option PS := ((bumpM toks) s0).bind fun s1 => ((R .arguments) s1).bind fun s2 => some s2
theorem m183_w {toks : List Tk} {ip n : Nat} {R : Rec} (IH : IHs toks ip R) (b0 : Nat) : FC Tryz.prog toks ip 153 [.optr b0 0] (m183 toks n R ) unitR (EnvL [(0, gO), (b0, .row [.optr ip 0])]) := by
 refine fc_of fun s0 s' F0 H0 hm p0 i0 => ?_
 obtain ⟨⟨k0a, n0a⟩, ⟨k0b, n0b⟩, _⟩ := i0
 obtain ⟨st0, r0⟩ := p0.row
 have hl := lim_le p0.len
 have f0 := Fr.refl F0 H0
 unfold m183 at hm
 refine aF (N := 5) Tryz.func153 rfl rfl (by simp) fun hb' => ?_
 refine qT 1 (a2 y57 (w3 r0 k0a k0b)) ?_
 obtain ⟨s1, e1, hm⟩ := oB hm
 refine qN (w3 r0 k0a k0b) (FN.apX (bump_c toks ip) e1 p0) ?_
 rintro _ H1 ⟨rfl, F1, p1, g1⟩
 obtain ⟨f1, ⟨st1, r1⟩, ⟨k1a, n1a⟩, ⟨k1b, n1b⟩⟩ := nx2 f0 p1 g1 k0a n0a k0b n0b
 refine qT 1 (a2 y57 (w3 r1 k1a k1b)) ?_
 obtain ⟨s2, e2, hm⟩ := oB hm
 refine qN (w3 r1 k1a k1b) (FG.apX (IH .arguments) e2 p1 ⟨k1a, n1a⟩) ?_
 rintro _ H2 ⟨rfl, F2, p2, g2⟩
 obtain ⟨f2, ⟨st2, r2⟩, ⟨k2a, n2a⟩, ⟨k2b, n2b⟩⟩ := nx2 f1 p2 g2 k1a n1a k1b n1b
 refine enX ?_
 injection hm with hm
 subst hm
 exact finX p2 f2
def m185 (toks : List Tk) (n : Nat) (R : Rec) (s0 : PS) : Option PS := ((bumpM toks) s0).bind fun s1 => ((R .expr) s1).bind fun s2 => ((expectM toks [41]) s2).bind fun s3 => some s3
theorem m185_w {toks : List Tk} {ip n : Nat} {R : Rec} (IH : IHs toks ip R) (b0 : Nat) : FC Tryz.prog toks ip 155 [.optr b0 0] (m185 toks n R ) unitR (EnvL [(0, gO), (b0, .row [.optr ip 0])]) := by
 refine fc_of fun s0 s' F0 H0 hm p0 i0 => ?_
 obtain ⟨⟨k0a, n0a⟩, ⟨k0b, n0b⟩, _⟩ := i0
 obtain ⟨st0, r0⟩ := p0.row
 have hl := lim_le p0.len
 have f0 := Fr.refl F0 H0
 unfold m185 at hm
 refine aF (N := 7) Tryz.func155 rfl rfl (by simp) fun hb' => ?_
 refine qT 1 (a2 y57 (w3 r0 k0a k0b)) ?_
 obtain ⟨s1, e1, hm⟩ := oB hm
 refine qN (w3 r0 k0a k0b) (FN.apX (bump_c toks ip) e1 p0) ?_
 rintro _ H1 ⟨rfl, F1, p1, g1⟩
 obtain ⟨f1, ⟨st1, r1⟩, ⟨k1a, n1a⟩, ⟨k1b, n1b⟩⟩ := nx2 f0 p1 g1 k0a n0a k0b n0b
 refine qT 1 (a2 y57 (w3 r1 k1a k1b)) ?_
 obtain ⟨s2, e2, hm⟩ := oB hm
 refine qN (w3 r1 k1a k1b) (FG.apX (IH .expr) e2 p1 ⟨k1a, n1a⟩) ?_
 rintro _ H2 ⟨rfl, F2, p2, g2⟩
 obtain ⟨f2, ⟨st2, r2⟩, ⟨k2a, n2a⟩, ⟨k2b, n2b⟩⟩ := nx2 f1 p2 g2 k1a n1a k1b n1b
 refine qT 1 (a2 y57 (w3 r2 k2a k2b)) ?_
 obtain ⟨s3, e3, hm⟩ := oB hm
 refine qN (w3 r2 k2a k2b) (FN.apX (expect_c toks ip [41]) e3 p2) ?_
 rintro _ H3 ⟨rfl, F3, p3, g3⟩
 obtain ⟨f3, ⟨st3, r3⟩, ⟨k3a, n3a⟩, ⟨k3b, n3b⟩⟩ := nx2 f2 p3 g3 k2a n2a k2b n2b
 refine enX ?_
 injection hm with hm
 subst hm
 exact finX p3 f3
def m172 (toks : List Tk) (n : Nat) (R : Rec) (s0 : PS) : Option PS := ((bumpM toks) s0).bind fun s1 => ((R .expr) s1).bind fun s2 => ((expectM toks [59]) s2).bind fun s3 => some s3
theorem m172_w {toks : List Tk} {ip n : Nat} {R : Rec} (IH : IHs toks ip R) (b0 : Nat) : FC Tryz.prog toks ip 146 [.optr b0 0] (m172 toks n R ) unitR (EnvL [(0, gO), (b0, .row [.optr ip 0])]) := by
 refine fc_of fun s0 s' F0 H0 hm p0 i0 => ?_
 obtain ⟨⟨k0a, n0a⟩, ⟨k0b, n0b⟩, _⟩ := i0
 obtain ⟨st0, r0⟩ := p0.row
 have hl := lim_le p0.len
 have f0 := Fr.refl F0 H0
 unfold m172 at hm
 refine aF (N := 7) Tryz.func146 rfl rfl (by simp) fun hb' => ?_
 refine qT 1 (a2 y57 (w3 r0 k0a k0b)) ?_
 obtain ⟨s1, e1, hm⟩ := oB hm
 refine qN (w3 r0 k0a k0b) (FN.apX (bump_c toks ip) e1 p0) ?_
 rintro _ H1 ⟨rfl, F1, p1, g1⟩
 obtain ⟨f1, ⟨st1, r1⟩, ⟨k1a, n1a⟩, ⟨k1b, n1b⟩⟩ := nx2 f0 p1 g1 k0a n0a k0b n0b
 refine qT 1 (a2 y57 (w3 r1 k1a k1b)) ?_
 obtain ⟨s2, e2, hm⟩ := oB hm
 refine qN (w3 r1 k1a k1b) (FG.apX (IH .expr) e2 p1 ⟨k1a, n1a⟩) ?_
 rintro _ H2 ⟨rfl, F2, p2, g2⟩
 obtain ⟨f2, ⟨st2, r2⟩, ⟨k2a, n2a⟩, ⟨k2b, n2b⟩⟩ := nx2 f1 p2 g2 k1a n1a k1b n1b
 refine qT 1 (a2 y57 (w3 r2 k2a k2b)) ?_
 obtain ⟨s3, e3, hm⟩ := oB hm
 refine qN (w3 r2 k2a k2b) (FN.apX (expect_c toks ip [59]) e3 p2) ?_
 rintro _ H3 ⟨rfl, F3, p3, g3⟩
 obtain ⟨f3, ⟨st3, r3⟩, ⟨k3a, n3a⟩, ⟨k3b, n3b⟩⟩ := nx2 f2 p3 g3 k2a n2a k2b n2b
 refine enX ?_
 injection hm with hm
 subst hm
 exact finX p3 f3
def m169 (toks : List Tk) (n : Nat) (R : Rec) (s0 : PS) : Option PS := ((bumpM toks) s0).bind fun s1 => ((R .expr) s1).bind fun s2 => ((R .block) s2).bind fun s3 => some s3
theorem m169_w {toks : List Tk} {ip n : Nat} {R : Rec} (IH : IHs toks ip R) (b0 : Nat) : FC Tryz.prog toks ip 143 [.optr b0 0] (m169 toks n R ) unitR (EnvL [(0, gO), (b0, .row [.optr ip 0])]) := by
 refine fc_of fun s0 s' F0 H0 hm p0 i0 => ?_
 obtain ⟨⟨k0a, n0a⟩, ⟨k0b, n0b⟩, _⟩ := i0
 obtain ⟨st0, r0⟩ := p0.row
 have hl := lim_le p0.len
 have f0 := Fr.refl F0 H0
 unfold m169 at hm
 refine aF (N := 7) Tryz.func143 rfl rfl (by simp) fun hb' => ?_
 refine qT 1 (a2 y57 (w3 r0 k0a k0b)) ?_
 obtain ⟨s1, e1, hm⟩ := oB hm
 refine qN (w3 r0 k0a k0b) (FN.apX (bump_c toks ip) e1 p0) ?_
 rintro _ H1 ⟨rfl, F1, p1, g1⟩
 obtain ⟨f1, ⟨st1, r1⟩, ⟨k1a, n1a⟩, ⟨k1b, n1b⟩⟩ := nx2 f0 p1 g1 k0a n0a k0b n0b
 refine qT 1 (a2 y57 (w3 r1 k1a k1b)) ?_
 obtain ⟨s2, e2, hm⟩ := oB hm
 refine qN (w3 r1 k1a k1b) (FG.apX (IH .expr) e2 p1 ⟨k1a, n1a⟩) ?_
 rintro _ H2 ⟨rfl, F2, p2, g2⟩
 obtain ⟨f2, ⟨st2, r2⟩, ⟨k2a, n2a⟩, ⟨k2b, n2b⟩⟩ := nx2 f1 p2 g2 k1a n1a k1b n1b
 refine qT 1 (a2 y57 (w3 r2 k2a k2b)) ?_
 obtain ⟨s3, e3, hm⟩ := oB hm
 refine qN (w3 r2 k2a k2b) (FG.apX (IH .block) e3 p2 ⟨k2a, n2a⟩) ?_
 rintro _ H3 ⟨rfl, F3, p3, g3⟩
 obtain ⟨f3, ⟨st3, r3⟩, ⟨k3a, n3a⟩, ⟨k3b, n3b⟩⟩ := nx2 f2 p3 g3 k2a n2a k2b n2b
 refine enX ?_
 injection hm with hm
 subst hm
 exact finX p3 f3
def m196 (toks : List Tk) (n : Nat) (R : Rec) (s0 : PS) : Option PS := ((bumpM toks) s0).bind fun s1 => ((expectIdentM toks) s1).bind fun s2 => some s2
theorem m196_w {toks : List Tk} {ip n : Nat} {R : Rec} (IH : IHs toks ip R) (b0 : Nat) : FC Tryz.prog toks ip 163 [.optr b0 0] (m196 toks n R ) unitR (EnvL [(0, gO), (b0, .row [.optr ip 0])]) := by
 refine fc_of fun s0 s' F0 H0 hm p0 i0 => ?_
 obtain ⟨⟨k0a, n0a⟩, ⟨k0b, n0b⟩, _⟩ := i0
 obtain ⟨st0, r0⟩ := p0.row
 have hl := lim_le p0.len
 have f0 := Fr.refl F0 H0
 unfold m196 at hm
 refine aF (N := 5) Tryz.func163 rfl rfl (by simp) fun hb' => ?_
 refine qT 1 (a2 y57 (w3 r0 k0a k0b)) ?_
 obtain ⟨s1, e1, hm⟩ := oB hm
 refine qN (w3 r0 k0a k0b) (FN.apX (bump_c toks ip) e1 p0) ?_
 rintro _ H1 ⟨rfl, F1, p1, g1⟩
 obtain ⟨f1, ⟨st1, r1⟩, ⟨k1a, n1a⟩, ⟨k1b, n1b⟩⟩ := nx2 f0 p1 g1 k0a n0a k0b n0b
 refine qT 1 (a2 y57 (w3 r1 k1a k1b)) ?_
 obtain ⟨s2, e2, hm⟩ := oB hm
 refine qN (w3 r1 k1a k1b) (FN.apX (expectIdent_c toks ip) e2 p1) ?_
 rintro _ H2 ⟨rfl, F2, p2, g2⟩
 obtain ⟨f2, ⟨st2, r2⟩, ⟨k2a, n2a⟩, ⟨k2b, n2b⟩⟩ := nx2 f1 p2 g2 k1a n1a k1b n1b
 refine enX ?_
 injection hm with hm
 subst hm
 exact finX p2 f2
def m202 (toks : List Tk) (n : Nat) (R : Rec) (s0 : PS) : Option PS := ((R .pattern) s0).bind fun s1 => ((expectM toks [61, 62]) s1).bind fun s2 => ((R .expr) s2).bind fun s3 => some s3
theorem m202_w {toks : List Tk} {ip n : Nat} {R : Rec} (IH : IHs toks ip R) (b0 : Nat) : FC Tryz.prog toks ip 169 [.optr b0 0] (m202 toks n R ) unitR (EnvL [(0, gO), (b0, .row [.optr ip 0])]) := by
 refine fc_of fun s0 s' F0 H0 hm p0 i0 => ?_
 obtain ⟨⟨k0a, n0a⟩, ⟨k0b, n0b⟩, _⟩ := i0
 obtain ⟨st0, r0⟩ := p0.row
 have hl := lim_le p0.len
 have f0 := Fr.refl F0 H0
 unfold m202 at hm
 refine aF (N := 7) Tryz.func169 rfl rfl (by simp) fun hb' => ?_
 refine qT 1 (a2 y57 (w3 r0 k0a k0b)) ?_
 obtain ⟨s1, e1, hm⟩ := oB hm
 refine qN (w3 r0 k0a k0b) (FG.apX (IH .pattern) e1 p0 ⟨k0a, n0a⟩) ?_
 rintro _ H1 ⟨rfl, F1, p1, g1⟩
 obtain ⟨f1, ⟨st1, r1⟩, ⟨k1a, n1a⟩, ⟨k1b, n1b⟩⟩ := nx2 f0 p1 g1 k0a n0a k0b n0b
 refine qT 1 (a2 y57 (w3 r1 k1a k1b)) ?_
 obtain ⟨s2, e2, hm⟩ := oB hm
 refine qN (w3 r1 k1a k1b) (FN.apX (expect_c toks ip [61, 62]) e2 p1) ?_
 rintro _ H2 ⟨rfl, F2, p2, g2⟩
 obtain ⟨f2, ⟨st2, r2⟩, ⟨k2a, n2a⟩, ⟨k2b, n2b⟩⟩ := nx2 f1 p2 g2 k1a n1a k1b n1b
 refine qT 1 (a2 y57 (w3 r2 k2a k2b)) ?_
 obtain ⟨s3, e3, hm⟩ := oB hm
 refine qN (w3 r2 k2a k2b) (FG.apX (IH .expr) e3 p2 ⟨k2a, n2a⟩) ?_
 rintro _ H3 ⟨rfl, F3, p3, g3⟩
 obtain ⟨f3, ⟨st3, r3⟩, ⟨k3a, n3a⟩, ⟨k3b, n3b⟩⟩ := nx2 f2 p3 g3 k2a n2a k2b n2b
 refine enX ?_
 injection hm with hm
 subst hm
 exact finX p3 f3
def m204 (toks : List Tk) (n : Nat) (R : Rec) (s0 : PS) : Option PS := ((bumpM toks) s0).bind fun s1 => ((expectM toks [58]) s1).bind fun s2 => ((R .expr) s2).bind fun s3 => some s3
theorem m204_w {toks : List Tk} {ip n : Nat} {R : Rec} (IH : IHs toks ip R) (b0 : Nat) : FC Tryz.prog toks ip 171 [.optr b0 0] (m204 toks n R ) unitR (EnvL [(0, gO), (b0, .row [.optr ip 0])]) := by
 refine fc_of fun s0 s' F0 H0 hm p0 i0 => ?_
 obtain ⟨⟨k0a, n0a⟩, ⟨k0b, n0b⟩, _⟩ := i0
 obtain ⟨st0, r0⟩ := p0.row
 have hl := lim_le p0.len
 have f0 := Fr.refl F0 H0
 unfold m204 at hm
 refine aF (N := 7) Tryz.func171 rfl rfl (by simp) fun hb' => ?_
 refine qT 1 (a2 y57 (w3 r0 k0a k0b)) ?_
 obtain ⟨s1, e1, hm⟩ := oB hm
 refine qN (w3 r0 k0a k0b) (FN.apX (bump_c toks ip) e1 p0) ?_
 rintro _ H1 ⟨rfl, F1, p1, g1⟩
 obtain ⟨f1, ⟨st1, r1⟩, ⟨k1a, n1a⟩, ⟨k1b, n1b⟩⟩ := nx2 f0 p1 g1 k0a n0a k0b n0b
 refine qT 1 (a2 y57 (w3 r1 k1a k1b)) ?_
 obtain ⟨s2, e2, hm⟩ := oB hm
 refine qN (w3 r1 k1a k1b) (FN.apX (expect_c toks ip [58]) e2 p1) ?_
 rintro _ H2 ⟨rfl, F2, p2, g2⟩
 obtain ⟨f2, ⟨st2, r2⟩, ⟨k2a, n2a⟩, ⟨k2b, n2b⟩⟩ := nx2 f1 p2 g2 k1a n1a k1b n1b
 refine qT 1 (a2 y57 (w3 r2 k2a k2b)) ?_
 obtain ⟨s3, e3, hm⟩ := oB hm
 refine qN (w3 r2 k2a k2b) (FG.apX (IH .expr) e3 p2 ⟨k2a, n2a⟩) ?_
 rintro _ H3 ⟨rfl, F3, p3, g3⟩
 obtain ⟨f3, ⟨st3, r3⟩, ⟨k3a, n3a⟩, ⟨k3b, n3b⟩⟩ := nx2 f2 p3 g3 k2a n2a k2b n2b
 refine enX ?_
 injection hm with hm
 subst hm
 exact finX p3 f3
def m125 (toks : List Tk) (n : Nat) (R : Rec) (s0 : PS) : Option PS := ((bumpM toks) s0).bind fun s1 => ((expectM toks [58]) s1).bind fun s2 => ((R .typeExpr) s2).bind fun s3 => some s3
theorem m125_w {toks : List Tk} {ip n : Nat} {R : Rec} (IH : IHs toks ip R) (b0 : Nat) : FC Tryz.prog toks ip 110 [.optr b0 0] (m125 toks n R ) unitR (EnvL [(0, gO), (b0, .row [.optr ip 0])]) := by
 refine fc_of fun s0 s' F0 H0 hm p0 i0 => ?_
 obtain ⟨⟨k0a, n0a⟩, ⟨k0b, n0b⟩, _⟩ := i0
 obtain ⟨st0, r0⟩ := p0.row
 have hl := lim_le p0.len
 have f0 := Fr.refl F0 H0
 unfold m125 at hm
 refine aF (N := 7) Tryz.func110 rfl rfl (by simp) fun hb' => ?_
 refine qT 1 (a2 y57 (w3 r0 k0a k0b)) ?_
 obtain ⟨s1, e1, hm⟩ := oB hm
 refine qN (w3 r0 k0a k0b) (FN.apX (bump_c toks ip) e1 p0) ?_
 rintro _ H1 ⟨rfl, F1, p1, g1⟩
 obtain ⟨f1, ⟨st1, r1⟩, ⟨k1a, n1a⟩, ⟨k1b, n1b⟩⟩ := nx2 f0 p1 g1 k0a n0a k0b n0b
 refine qT 1 (a2 y57 (w3 r1 k1a k1b)) ?_
 obtain ⟨s2, e2, hm⟩ := oB hm
 refine qN (w3 r1 k1a k1b) (FN.apX (expect_c toks ip [58]) e2 p1) ?_
 rintro _ H2 ⟨rfl, F2, p2, g2⟩
 obtain ⟨f2, ⟨st2, r2⟩, ⟨k2a, n2a⟩, ⟨k2b, n2b⟩⟩ := nx2 f1 p2 g2 k1a n1a k1b n1b
 refine qT 1 (a2 y57 (w3 r2 k2a k2b)) ?_
 obtain ⟨s3, e3, hm⟩ := oB hm
 refine qN (w3 r2 k2a k2b) (FG.apX (IH .typeExpr) e3 p2 ⟨k2a, n2a⟩) ?_
 rintro _ H3 ⟨rfl, F3, p3, g3⟩
 obtain ⟨f3, ⟨st3, r3⟩, ⟨k3a, n3a⟩, ⟨k3b, n3b⟩⟩ := nx2 f2 p3 g3 k2a n2a k2b n2b
 refine enX ?_
 injection hm with hm
 subst hm
 exact finX p3 f3
def m138 (toks : List Tk) (n : Nat) (R : Rec) (s0 : PS) : Option PS := ((bumpM toks) s0).bind fun s1 => ((optionalM toks ([58]) (R .typeExpr)) s1).bind fun s2 => some s2
theorem m138_w {toks : List Tk} {ip n : Nat} {R : Rec} (IH : IHs toks ip R) (b0 : Nat) : FC Tryz.prog toks ip 123 [.optr b0 0] (m138 toks n R ) unitR (EnvL [(0, gO), (b0, .row [.optr ip 0])]) := by
 refine fc_of fun s0 s' F0 H0 hm p0 i0 => ?_
 obtain ⟨⟨k0a, n0a⟩, ⟨k0b, n0b⟩, _⟩ := i0
 obtain ⟨st0, r0⟩ := p0.row
 have hl := lim_le p0.len
 have f0 := Fr.refl F0 H0
 unfold m138 at hm
 refine aF (N := 7) Tryz.func123 rfl rfl (by simp) fun hb' => ?_
 refine qT 1 (a2 y57 (w3 r0 k0a k0b)) ?_
 obtain ⟨s1, e1, hm⟩ := oB hm
 refine qN (w3 r0 k0a k0b) (FN.apX (bump_c toks ip) e1 p0) ?_
 rintro _ H1 ⟨rfl, F1, p1, g1⟩
 obtain ⟨f1, ⟨st1, r1⟩, ⟨k1a, n1a⟩, ⟨k1b, n1b⟩⟩ := nx2 f0 p1 g1 k0a n0a k0b n0b
 have q1 := getL r1
 have b1a := getL k1a
 have b1b := getL k1b
 refine qT 3 (a2 y57 (w3 r1 k1a k1b)) ?_
 obtain ⟨s2, e2, hm⟩ := oB hm
 refine qN (w3 r1 k1a k1b) (FC.apX (optional_c toks ip ([58]) 93 [.optr ip 0] [] zgo93 (stbL [(0, gO)]) (FG.fc (IH .typeExpr))) e2 p1 ⟨⟨k1a, n1a⟩, trivial⟩) ?_
 rintro _ H2 ⟨rfl, F2, p2, g2⟩
 obtain ⟨f2, ⟨st2, r2⟩, ⟨k2a, n2a⟩, ⟨k2b, n2b⟩⟩ := nx2 f1 p2 g2 k1a n1a k1b n1b
 refine enX ?_
 injection hm with hm
 subst hm
 exact finX p2 f2
def m131 (toks : List Tk) (n : Nat) (R : Rec) (s0 : PS) : Option PS := ((bumpM toks) s0).bind fun s1 => ((acceptM toks [[109, 117, 116]]) s1).bind fun s2 => ((R .typeExpr) s2).bind fun s3 => some s3
theorem m131_w {toks : List Tk} {ip n : Nat} {R : Rec} (IH : IHs toks ip R) (b0 : Nat) : FC Tryz.prog toks ip 116 [.optr b0 0] (m131 toks n R ) unitR (EnvL [(0, gO), (b0, .row [.optr ip 0])]) := by
 refine fc_of fun s0 s' F0 H0 hm p0 i0 => ?_
 obtain ⟨⟨k0a, n0a⟩, ⟨k0b, n0b⟩, _⟩ := i0
 obtain ⟨st0, r0⟩ := p0.row
 have hl := lim_le p0.len
 have f0 := Fr.refl F0 H0
 unfold m131 at hm
 refine aF (N := 8) Tryz.func116 rfl rfl (by simp) fun hb' => ?_
 refine qT 1 (a2 y57 (w3 r0 k0a k0b)) ?_
 obtain ⟨s1, e1, hm⟩ := oB hm
 refine qN (w3 r0 k0a k0b) (FN.apX (bump_c toks ip) e1 p0) ?_
 rintro _ H1 ⟨rfl, F1, p1, g1⟩
 obtain ⟨f1, ⟨st1, r1⟩, ⟨k1a, n1a⟩, ⟨k1b, n1b⟩⟩ := nx2 f0 p1 g1 k0a n0a k0b n0b
 refine qT 2 (a4 y9 y57 y72 (w3 r1 k1a k1b)) ?_
 obtain ⟨s2, e2, hm⟩ := oB hm
 refine qN (w3 r1 k1a k1b) (FN.apX (accept_c toks ip [[109, 117, 116]] (by decide)) e2 p1) ?_
 rintro _ H2 ⟨rfl, F2, p2, g2⟩
 obtain ⟨f2, ⟨st2, r2⟩, ⟨k2a, n2a⟩, ⟨k2b, n2b⟩⟩ := nx2 f1 p2 g2 k1a n1a k1b n1b
 refine qT 1 (a2 y57 (w3 r2 k2a k2b)) ?_
 obtain ⟨s3, e3, hm⟩ := oB hm
 refine qN (w3 r2 k2a k2b) (FG.apX (IH .typeExpr) e3 p2 ⟨k2a, n2a⟩) ?_
 rintro _ H3 ⟨rfl, F3, p3, g3⟩
 obtain ⟨f3, ⟨st3, r3⟩, ⟨k3a, n3a⟩, ⟨k3b, n3b⟩⟩ := nx2 f2 p3 g3 k2a n2a k2b n2b
 refine enX ?_
 injection hm with hm
 subst hm
 exact finX p3 f3
def m132 (toks : List Tk) (n : Nat) (R : Rec) (s0 : PS) : Option PS := ((bumpM toks) s0).bind fun s1 => ((expectM toks [40]) s1).bind fun s2 => ((listM toks n ([41]) (R .typeExpr)) s2).bind fun s3 => ((optionalM toks ([45, 62]) (R .typeExpr)) s3).bind fun s4 => some s4
theorem m132_w {toks : List Tk} {ip n : Nat} {R : Rec} (IH : IHs toks ip R) (b0 : Nat) : FC Tryz.prog toks ip 117 [.optr b0 0] (m132 toks n R ) unitR (EnvL [(0, gO), (b0, .row [.optr ip 0])]) := by
 refine fc_of fun s0 s' F0 H0 hm p0 i0 => ?_
 obtain ⟨⟨k0a, n0a⟩, ⟨k0b, n0b⟩, _⟩ := i0
 obtain ⟨st0, r0⟩ := p0.row
 have hl := lim_le p0.len
 have f0 := Fr.refl F0 H0
 unfold m132 at hm
 refine aF (N := 13) Tryz.func117 rfl rfl (by simp) fun hb' => ?_
 refine qT 1 (a2 y57 (w3 r0 k0a k0b)) ?_
 obtain ⟨s1, e1, hm⟩ := oB hm
 refine qN (w3 r0 k0a k0b) (FN.apX (bump_c toks ip) e1 p0) ?_
 rintro _ H1 ⟨rfl, F1, p1, g1⟩
 obtain ⟨f1, ⟨st1, r1⟩, ⟨k1a, n1a⟩, ⟨k1b, n1b⟩⟩ := nx2 f0 p1 g1 k0a n0a k0b n0b
 refine qT 1 (a2 y57 (w3 r1 k1a k1b)) ?_
 obtain ⟨s2, e2, hm⟩ := oB hm
 refine qN (w3 r1 k1a k1b) (FN.apX (expect_c toks ip [40]) e2 p1) ?_
 rintro _ H2 ⟨rfl, F2, p2, g2⟩
 obtain ⟨f2, ⟨st2, r2⟩, ⟨k2a, n2a⟩, ⟨k2b, n2b⟩⟩ := nx2 f1 p2 g2 k1a n1a k1b n1b
 have q2 := getL r2
 have b2a := getL k2a
 have b2b := getL k2b
 refine qT 3 (a2 y57 (w3 r2 k2a k2b)) ?_
 obtain ⟨s3, e3, hm⟩ := oB hm
 refine qN (w3 r2 k2a k2b) (FC.apX (list_c toks ip n ([41]) 93 [.optr ip 0] [] zgo93 (stbL [(0, gO)]) (fun _ _ _ => envL_hd) (FG.fc (IH .typeExpr))) e3 p2 ⟨⟨k2a, n2a⟩, trivial⟩) ?_
 rintro _ H3 ⟨rfl, F3, p3, g3⟩
 obtain ⟨f3, ⟨st3, r3⟩, ⟨k3a, n3a⟩, ⟨k3b, n3b⟩⟩ := nx2 f2 p3 g3 k2a n2a k2b n2b
 have q3 := getL r3
 have b3a := getL k3a
 have b3b := getL k3b
 refine qT 3 (a2 y57 (w3 r3 k3a k3b)) ?_
 obtain ⟨s4, e4, hm⟩ := oB hm
 refine qN (w3 r3 k3a k3b) (FC.apX (optional_c toks ip ([45, 62]) 93 [.optr ip 0] [] zgo93 (stbL [(0, gO)]) (FG.fc (IH .typeExpr))) e4 p3 ⟨⟨k3a, n3a⟩, trivial⟩) ?_
 rintro _ H4 ⟨rfl, F4, p4, g4⟩
 obtain ⟨f4, ⟨st4, r4⟩, ⟨k4a, n4a⟩, ⟨k4b, n4b⟩⟩ := nx2 f3 p4 g4 k3a n3a k3b n3b
 refine enX ?_
 injection hm with hm
 subst hm
 exact finX p4 f4
def m154 (toks : List Tk) (n : Nat) (R : Rec) (s0 : PS) : Option PS := if atT (peekT toks s0.pos) [[45], [33], [42]] = true then (((nodeM 40 (m175 toks n R )) s0).bind fun s1 => some s1) else (if atT (peekT toks s0.pos) [[38]] = true then (((nodeM 41 (m176 toks n R )) s0).bind fun s1 => some s1) else (((R .primary) s0).bind fun s1 => ((R .postfx) s1).bind fun s2 => some s2))
theorem m154_w {toks : List Tk} {ip n : Nat} {R : Rec} (IH : IHs toks ip R) : FG toks ip 135 [.optr ip 0] (m154 toks n R ) (frv .unary) := by
 intro s0 s' F0 H0 hm p0 i0
 obtain ⟨⟨hg, n0a⟩, _⟩ := i0
 obtain ⟨st0, r0⟩ := p0.row
 have q0 := getL r0
 have hl := lim_le p0.len
 have f0 := Fr.refl F0 H0
 have k0a := getL hg [.row [.optr ip 0]]
 have b0a := getL k0a
 have k0b : (H0 ++ [.row [.optr ip 0]])[H0.length]? = some (.row [.optr ip 0]) := by simp
 have n0b := p0.new0
 have b0b := getL k0b
 unfold m154 at hm
 refine aF (N := 20) Tryz.func135 rfl rfl (by simp) fun hb' => ?_
 refine qE (a4 y57 r0 q0 hg) ?_
 refine qB ?_
 refine qT 2 (a5 y9 y57 y72 r0 (a2 q0 hg)) ?_
 refine qP (a3 r0 q0 hg) zgo56 (at_c (gtH r0) hl p0.pos [[45], [33], [42]] (by decide)) ?_
 refine qX (a3 r0 q0 hg) ?_
 refine qI (a3 r0 q0 hg) (fun bt6 => ?_) (fun bt6 => ?_)
 ·-- if t6
  rw [ifT bt6] at hm
  refine qT 2 (a4 y57 r0 q0 hg) ?_
  obtain ⟨s1, e1, hm⟩ := oB hm
  refine qN (a2 hg (w1 r0)) (FC.apX (node_c toks ip 40 149 [] [.optr (H0.length) 0] zgo149 (stbL [(0, gO), (H0.length, .row [.optr ip 0])]) (m175_w (n := n) IH (H0.length) )) e1 p0 ⟨⟨k0a, n0a⟩, ⟨k0b, n0b⟩, trivial⟩) ?_
  rintro _ H1 ⟨rfl, F1, p1, g1⟩
  have f1 := f0.stX g1
  obtain ⟨st1, r1⟩ := p1.row
  have q1 := getL r1
  obtain ⟨k1a, n1a⟩ := g1.gtX k0a n0a
  have b1a := getL k1a
  obtain ⟨k1b, n1b⟩ := g1.gtX k0b n0b
  have b1b := getL k1b
  refine enX ?_
  injection hm with hm
  subst hm
  exact finX p1 f1
 ·-- else t6
  rw [ifF bt6] at hm
  refine qT 2 (a5 y9 y57 y72 r0 (a2 q0 hg)) ?_
  refine qP (a3 r0 q0 hg) zgo56 (at_c (gtH r0) hl p0.pos [[38]] (by decide)) ?_
  refine qX (a3 r0 q0 hg) ?_
  refine qI (a3 r0 q0 hg) (fun bt13 => ?_) (fun bt13 => ?_)
  ·-- if t13
   rw [ifT bt13] at hm
   refine qT 2 (a4 y57 r0 q0 hg) ?_
   obtain ⟨s1, e1, hm⟩ := oB hm
   refine qN (a2 hg (w1 r0)) (FC.apX (node_c toks ip 41 150 [] [.optr (H0.length) 0] zgo150 (stbL [(0, gO), (H0.length, .row [.optr ip 0])]) (m176_w (n := n) IH (H0.length) )) e1 p0 ⟨⟨k0a, n0a⟩, ⟨k0b, n0b⟩, trivial⟩) ?_
   rintro _ H1 ⟨rfl, F1, p1, g1⟩
   have f1 := f0.stX g1
   obtain ⟨st1, r1⟩ := p1.row
   have q1 := getL r1
   obtain ⟨k1a, n1a⟩ := g1.gtX k0a n0a
   have b1a := getL k1a
   obtain ⟨k1b, n1b⟩ := g1.gtX k0b n0b
   have b1b := getL k1b
   refine enX ?_
   injection hm with hm
   subst hm
   exact finX p1 f1
  ·-- else t13
   rw [ifF bt13] at hm
   refine qT 1 (a4 y57 r0 q0 hg) ?_
   obtain ⟨s1, e1, hm⟩ := oB hm
   refine oC (by simp only [kC, seval, vint, qC, r0, q0, hg] <;> with_reducible rfl) (by simp only [kC, seval, vint, qC, r0, q0, hg]) (by decide) zgo145 ((by first | exact FG.ap0 (IH .primary) e1 p0 ⟨k0a, n0a⟩ | exact FG.ap' (IH .primary) e1 p0 ⟨k0a, n0a⟩ | exact FG.ap (IH .primary) e1 p0 ⟨k0a, n0a⟩)) ?_
   rintro _ H1 ⟨rfl, F1, p1, g1⟩
   have f1 := f0.stX g1
   obtain ⟨st1, r1⟩ := p1.row
   have q1 := getL r1
   obtain ⟨k1a, n1a⟩ := g1.gtX k0a n0a
   have b1a := getL k1a
   obtain ⟨k1b, n1b⟩ := g1.gtX k0b n0b
   have b1b := getL k1b
   refine oN ?_
   refine qT 1 (a5 y57 hg r1 q1 (a4 k1a b1a k1b b1b)) ?_
   obtain ⟨s2, e2, hm⟩ := oB hm
   refine qN (a5 hg r1 q1 k1a (a3 b1a k1b b1b)) (FG.apX (IH .postfx) e2 p1 ⟨k1a, n1a⟩) ?_
   rintro _ H2 ⟨rfl, F2, p2, g2⟩
   have f2 := f1.stX g2
   obtain ⟨st2, r2⟩ := p2.row
   have q2 := getL r2
   obtain ⟨k2a, n2a⟩ := g2.gtX k1a n1a
   have b2a := getL k2a
   obtain ⟨k2b, n2b⟩ := g2.gtX k1b n1b
   have b2b := getL k2b
   refine enX ?_
   injection hm with hm
   subst hm
   exact finX p2 f2
def m199 (toks : List Tk) (n : Nat) (R : Rec) (s0 : PS) : Option PS := if atT (peekT toks s0.pos) [[105, 102]] = true then (((R .ifExpr) s0).bind fun s1 => some s1) else (((R .block) s0).bind fun s1 => some s1)
theorem m199_w {toks : List Tk} {ip n : Nat} {R : Rec} (IH : IHs toks ip R) (b0 : Nat) : FC Tryz.prog toks ip 166 [.optr b0 0] (m199 toks n R ) unitR (EnvL [(0, gO), (b0, .row [.optr ip 0])]) := by
 refine fc_of fun s0 s' F0 H0 hm p0 i0 => ?_
 obtain ⟨⟨k0a, n0a⟩, ⟨k0b, n0b⟩, _⟩ := i0
 obtain ⟨st0, r0⟩ := p0.row
 have hl := lim_le p0.len
 have f0 := Fr.refl F0 H0
 unfold m199 at hm
 refine aF (N := 8) Tryz.func166 rfl rfl (by simp) fun hb' => ?_
 refine qT 2 (a4 y9 y57 y72 (w3 r0 k0a k0b)) ?_
 refine qP (w3 r0 k0a k0b) zgo56 (at_c (gtH r0) hl p0.pos [[105, 102]] (by decide)) ?_
 refine oN ?_
 refine qI (w3 r0 k0a k0b) (fun bt3 => ?_) (fun bt3 => ?_)
 ·-- if t3
  rw [ifT bt3] at hm
  refine qT 1 (a2 y57 (w3 r0 k0a k0b)) ?_
  obtain ⟨s1, e1, hm⟩ := oB hm
  refine qN (w3 r0 k0a k0b) (FG.apX (IH .ifExpr) e1 p0 ⟨k0a, n0a⟩) ?_
  rintro _ H1 ⟨rfl, F1, p1, g1⟩
  obtain ⟨f1, ⟨st1, r1⟩, ⟨k1a, n1a⟩, ⟨k1b, n1b⟩⟩ := nx2 f0 p1 g1 k0a n0a k0b n0b
  refine enX ?_
  injection hm with hm
  subst hm
  exact finX p1 f1
 ·-- else t3
  rw [ifF bt3] at hm
  refine qT 1 (a2 y57 (w3 r0 k0a k0b)) ?_
  obtain ⟨s1, e1, hm⟩ := oB hm
  refine qN (w3 r0 k0a k0b) (FG.apX (IH .block) e1 p0 ⟨k0a, n0a⟩) ?_
  rintro _ H1 ⟨rfl, F1, p1, g1⟩
  obtain ⟨f1, ⟨st1, r1⟩, ⟨k1a, n1a⟩, ⟨k1b, n1b⟩⟩ := nx2 f0 p1 g1 k0a n0a k0b n0b
  refine enX ?_
  injection hm with hm
  subst hm
  exact finX p1 f1
def m198 (toks : List Tk) (n : Nat) (R : Rec) (s0 : PS) : Option PS := ((bumpM toks) s0).bind fun s1 => ((R .expr) s1).bind fun s2 => ((R .block) s2).bind fun s3 => ((optionalM toks ([101, 108, 115, 101]) (m199 toks n R )) s3).bind fun s4 => some s4
theorem m198_w {toks : List Tk} {ip n : Nat} {R : Rec} (IH : IHs toks ip R) (b0 : Nat) : FC Tryz.prog toks ip 165 [.optr b0 0] (m198 toks n R ) unitR (EnvL [(0, gO), (b0, .row [.optr ip 0])]) := by
 refine fc_of fun s0 s' F0 H0 hm p0 i0 => ?_
 obtain ⟨⟨k0a, n0a⟩, ⟨k0b, n0b⟩, _⟩ := i0
 obtain ⟨st0, r0⟩ := p0.row
 have hl := lim_le p0.len
 have f0 := Fr.refl F0 H0
 unfold m198 at hm
 refine aF (N := 10) Tryz.func165 rfl rfl (by simp) fun hb' => ?_
 refine qT 1 (a2 y57 (w3 r0 k0a k0b)) ?_
 obtain ⟨s1, e1, hm⟩ := oB hm
 refine qN (w3 r0 k0a k0b) (FN.apX (bump_c toks ip) e1 p0) ?_
 rintro _ H1 ⟨rfl, F1, p1, g1⟩
 obtain ⟨f1, ⟨st1, r1⟩, ⟨k1a, n1a⟩, ⟨k1b, n1b⟩⟩ := nx2 f0 p1 g1 k0a n0a k0b n0b
 refine qT 1 (a2 y57 (w3 r1 k1a k1b)) ?_
 obtain ⟨s2, e2, hm⟩ := oB hm
 refine qN (w3 r1 k1a k1b) (FG.apX (IH .expr) e2 p1 ⟨k1a, n1a⟩) ?_
 rintro _ H2 ⟨rfl, F2, p2, g2⟩
 obtain ⟨f2, ⟨st2, r2⟩, ⟨k2a, n2a⟩, ⟨k2b, n2b⟩⟩ := nx2 f1 p2 g2 k1a n1a k1b n1b
 refine qT 1 (a2 y57 (w3 r2 k2a k2b)) ?_
 obtain ⟨s3, e3, hm⟩ := oB hm
 refine qN (w3 r2 k2a k2b) (FG.apX (IH .block) e3 p2 ⟨k2a, n2a⟩) ?_
 rintro _ H3 ⟨rfl, F3, p3, g3⟩
 obtain ⟨f3, ⟨st3, r3⟩, ⟨k3a, n3a⟩, ⟨k3b, n3b⟩⟩ := nx2 f2 p3 g3 k2a n2a k2b n2b
 have q3 := getL r3
 have b3a := getL k3a
 have b3b := getL k3b
 refine qT 2 (a2 y57 (w3 r3 k3a k3b)) ?_
 obtain ⟨s4, e4, hm⟩ := oB hm
 refine qN (w3 r3 k3a k3b) (FC.apX (optional_c toks ip ([101, 108, 115, 101]) 166 [] [.optr (b0) 0] zgo166 (stbL [(0, gO), (b0, .row [.optr ip 0])]) (m199_w (n := n) IH (b0) )) e4 p3 ⟨⟨k3a, n3a⟩, ⟨k3b, n3b⟩, trivial⟩) ?_
 rintro _ H4 ⟨rfl, F4, p4, g4⟩
 obtain ⟨f4, ⟨st4, r4⟩, ⟨k4a, n4a⟩, ⟨k4b, n4b⟩⟩ := nx2 f3 p4 g4 k3a n3a k3b n3b
 refine enX ?_
 injection hm with hm
 subst hm
 exact finX p4 f4
def m186 (toks : List Tk) (n : Nat) (R : Rec) (s0 : PS) : Option PS := ((nodeM 37 (m198 toks n R )) s0).bind fun s1 => some s1
theorem m186_w {toks : List Tk} {ip n : Nat} {R : Rec} (IH : IHs toks ip R) : FG toks ip 156 [.optr ip 0] (m186 toks n R ) (frv .ifExpr) := by
 intro s0 s' F0 H0 hm p0 i0
 obtain ⟨⟨hg, n0a⟩, _⟩ := i0
 obtain ⟨st0, r0⟩ := p0.row
 have q0 := getL r0
 have hl := lim_le p0.len
 have f0 := Fr.refl F0 H0
 have k0a := getL hg [.row [.optr ip 0]]
 have b0a := getL k0a
 have k0b : (H0 ++ [.row [.optr ip 0]])[H0.length]? = some (.row [.optr ip 0]) := by simp
 have n0b := p0.new0
 have b0b := getL k0b
 unfold m186 at hm
 refine aF (N := 5) Tryz.func156 rfl rfl (by simp) fun hb' => ?_
 refine qE (a4 y57 r0 q0 hg) ?_
 refine qT 2 (a4 y57 r0 q0 hg) ?_
 obtain ⟨s1, e1, hm⟩ := oB hm
 refine qN (a2 hg (w1 r0)) (FC.apX (node_c toks ip 37 165 [] [.optr (H0.length) 0] zgo165 (stbL [(0, gO), (H0.length, .row [.optr ip 0])]) (m198_w (n := n) IH (H0.length) )) e1 p0 ⟨⟨k0a, n0a⟩, ⟨k0b, n0b⟩, trivial⟩) ?_
 rintro _ H1 ⟨rfl, F1, p1, g1⟩
 have f1 := f0.stX g1
 obtain ⟨st1, r1⟩ := p1.row
 have q1 := getL r1
 obtain ⟨k1a, n1a⟩ := g1.gtX k0a n0a
 have b1a := getL k1a
 obtain ⟨k1b, n1b⟩ := g1.gtX k0b n0b
 have b1b := getL k1b
 refine enX ?_
 injection hm with hm
 subst hm
 exact finX p1 f1
def m200 (toks : List Tk) (n : Nat) (R : Rec) (s0 : PS) : Option PS := if atPatT (peekT toks s0.pos) = true then (((nodeM 36 (m202 toks n R )) s0).bind fun s1 => some s1) else (some s0)
theorem m200_w {toks : List Tk} {ip n : Nat} {R : Rec} (IH : IHs toks ip R) (b0 : Nat) : FC Tryz.prog toks ip 167 [.optr b0 0] (m200 toks n R ) unitR (EnvL [(0, gO), (b0, .row [.optr ip 0])]) := by
 refine fc_of fun s0 s' F0 H0 hm p0 i0 => ?_
 obtain ⟨⟨k0a, n0a⟩, ⟨k0b, n0b⟩, _⟩ := i0
 have b0a := getL k0a
 have b0b := getL k0b
 obtain ⟨st0, r0⟩ := p0.row
 have q0 := getL r0
 have hl := lim_le p0.len
 have f0 := Fr.refl F0 H0
 unfold m200 at hm
 refine aF (N := 6) Tryz.func167 rfl rfl (by simp) fun hb' => ?_
 refine qT 1 (a2 y57 (w3 r0 k0a k0b)) ?_
 refine qP (w3 r0 k0a k0b) zgo168 (atPattern_c (gtH r0) hl p0.pos) ?_
 refine oN ?_
 refine qI (w3 r0 k0a k0b) (fun bt2 => ?_) (fun bt2 => ?_)
 ·-- if t2
  rw [ifT bt2] at hm
  refine qT 2 (a2 y57 (w3 r0 k0a k0b)) ?_
  obtain ⟨s1, e1, hm⟩ := oB hm
  refine qN (w3 r0 k0a k0b) (FC.apX (node_c toks ip 36 169 [] [.optr (b0) 0] zgo169 (stbL [(0, gO), (b0, .row [.optr ip 0])]) (m202_w (n := n) IH (b0) )) e1 p0 ⟨⟨k0a, n0a⟩, ⟨k0b, n0b⟩, trivial⟩) ?_
  rintro _ H1 ⟨rfl, F1, p1, g1⟩
  obtain ⟨f1, ⟨st1, r1⟩, ⟨k1a, n1a⟩, ⟨k1b, n1b⟩⟩ := nx2 f0 p1 g1 k0a n0a k0b n0b
  refine enX ?_
  injection hm with hm
  subst hm
  exact finX p1 f1
 ·-- else t2
  rw [ifF bt2] at hm
  refine qK ?_
  refine enX ?_
  injection hm with hm
  subst hm
  exact finX p0 f0
def m187 (toks : List Tk) (n : Nat) (R : Rec) (s0 : PS) : Option PS := ((bumpM toks) s0).bind fun s1 => ((R .expr) s1).bind fun s2 => ((expectM toks [123]) s2).bind fun s3 => ((listM toks n ([125]) (m200 toks n R )) s3).bind fun s4 => some s4
theorem m187_w {toks : List Tk} {ip n : Nat} {R : Rec} (IH : IHs toks ip R) : FG toks ip 157 [.optr ip 0] (m187 toks n R ) (frv .matchE) := by
 intro s0 s' F0 H0 hm p0 i0
 obtain ⟨⟨hg, n0a⟩, _⟩ := i0
 obtain ⟨st0, r0⟩ := p0.row
 have q0 := getL r0
 have hl := lim_le p0.len
 have f0 := Fr.refl F0 H0
 have k0a := getL hg [.row [.optr ip 0]]
 have b0a := getL k0a
 have k0b : (H0 ++ [.row [.optr ip 0]])[H0.length]? = some (.row [.optr ip 0]) := by simp
 have n0b := p0.new0
 have b0b := getL k0b
 unfold m187 at hm
 refine aF (N := 11) Tryz.func157 rfl rfl (by simp) fun hb' => ?_
 refine qE (a4 y57 r0 q0 hg) ?_
 refine qT 1 (a4 y57 r0 q0 hg) ?_
 obtain ⟨s1, e1, hm⟩ := oB hm
 refine qN (a3 r0 q0 hg) (FN.apX (bump_c toks ip) e1 p0) ?_
 rintro _ H1 ⟨rfl, F1, p1, g1⟩
 have f1 := f0.stX g1
 obtain ⟨st1, r1⟩ := p1.row
 have q1 := getL r1
 obtain ⟨k1a, n1a⟩ := g1.gtX k0a n0a
 have b1a := getL k1a
 obtain ⟨k1b, n1b⟩ := g1.gtX k0b n0b
 have b1b := getL k1b
 refine qT 1 (a5 y57 hg r1 q1 (a4 k1a b1a k1b b1b)) ?_
 obtain ⟨s2, e2, hm⟩ := oB hm
 refine qN (a5 hg r1 q1 k1a (a3 b1a k1b b1b)) (FG.apX (IH .expr) e2 p1 ⟨k1a, n1a⟩) ?_
 rintro _ H2 ⟨rfl, F2, p2, g2⟩
 have f2 := f1.stX g2
 obtain ⟨st2, r2⟩ := p2.row
 have q2 := getL r2
 obtain ⟨k2a, n2a⟩ := g2.gtX k1a n1a
 have b2a := getL k2a
 obtain ⟨k2b, n2b⟩ := g2.gtX k1b n1b
 have b2b := getL k2b
 refine qT 1 (a5 y57 hg r2 q2 (a4 k2a b2a k2b b2b)) ?_
 obtain ⟨s3, e3, hm⟩ := oB hm
 refine qN (a5 hg r2 q2 k2a (a3 b2a k2b b2b)) (FN.apX (expect_c toks ip [123]) e3 p2) ?_
 rintro _ H3 ⟨rfl, F3, p3, g3⟩
 have f3 := f2.stX g3
 obtain ⟨st3, r3⟩ := p3.row
 have q3 := getL r3
 obtain ⟨k3a, n3a⟩ := g3.gtX k2a n2a
 have b3a := getL k3a
 obtain ⟨k3b, n3b⟩ := g3.gtX k2b n2b
 have b3b := getL k3b
 refine qT 2 (a5 y57 hg r3 q3 (a4 k3a b3a k3b b3b)) ?_
 obtain ⟨s4, e4, hm⟩ := oB hm
 refine qN (a2 hg (w3 r3 k3a k3b)) (FC.apX (list_c toks ip n ([125]) 167 [] [.optr (H0.length) 0] zgo167 (stbL [(0, gO), (H0.length, .row [.optr ip 0])]) (fun _ _ _ => envL_hd) (m200_w (n := n) IH (H0.length) )) e4 p3 ⟨⟨k3a, n3a⟩, ⟨k3b, n3b⟩, trivial⟩) ?_
 rintro _ H4 ⟨rfl, F4, p4, g4⟩
 have f4 := f3.stX g4
 obtain ⟨st4, r4⟩ := p4.row
 have q4 := getL r4
 obtain ⟨k4a, n4a⟩ := g4.gtX k3a n3a
 have b4a := getL k4a
 obtain ⟨k4b, n4b⟩ := g4.gtX k3b n3b
 have b4b := getL k4b
 refine enX ?_
 injection hm with hm
 subst hm
 exact finX p4 f4
def m203 (toks : List Tk) (n : Nat) (R : Rec) (s0 : PS) : Option PS := if decide ((peekT toks s0.pos).kind = 103) = true then (((nodeM 34 (m204 toks n R )) s0).bind fun s1 => some s1) else (some s0)
theorem m203_w {toks : List Tk} {ip n : Nat} {R : Rec} (IH : IHs toks ip R) (b0 : Nat) : FC Tryz.prog toks ip 170 [.optr b0 0] (m203 toks n R ) unitR (EnvL [(0, gO), (b0, .row [.optr ip 0])]) := by
 refine fc_of fun s0 s' F0 H0 hm p0 i0 => ?_
 obtain ⟨⟨k0a, n0a⟩, ⟨k0b, n0b⟩, _⟩ := i0
 have b0a := getL k0a
 have b0b := getL k0b
 obtain ⟨st0, r0⟩ := p0.row
 have q0 := getL r0
 have hl := lim_le p0.len
 have f0 := Fr.refl F0 H0
 unfold m203 at hm
 refine aF (N := 6) Tryz.func170 rfl rfl (by simp) fun hb' => ?_
 refine qT 1 (a2 y57 (w3 r0 k0a k0b)) ?_
 refine qP (w3 r0 k0a k0b) zgo109 (atIdent_c (gtH r0) hl p0.pos) ?_
 refine oN ?_
 refine qI (w3 r0 k0a k0b) (fun bt2 => ?_) (fun bt2 => ?_)
 ·-- if t2
  rw [ifT bt2] at hm
  refine qT 2 (a2 y57 (w3 r0 k0a k0b)) ?_
  obtain ⟨s1, e1, hm⟩ := oB hm
  refine qN (w3 r0 k0a k0b) (FC.apX (node_c toks ip 34 171 [] [.optr (b0) 0] zgo171 (stbL [(0, gO), (b0, .row [.optr ip 0])]) (m204_w (n := n) IH (b0) )) e1 p0 ⟨⟨k0a, n0a⟩, ⟨k0b, n0b⟩, trivial⟩) ?_
  rintro _ H1 ⟨rfl, F1, p1, g1⟩
  obtain ⟨f1, ⟨st1, r1⟩, ⟨k1a, n1a⟩, ⟨k1b, n1b⟩⟩ := nx2 f0 p1 g1 k0a n0a k0b n0b
  refine enX ?_
  injection hm with hm
  subst hm
  exact finX p1 f1
 ·-- else t2
  rw [ifF bt2] at hm
  refine qK ?_
  refine enX ?_
  injection hm with hm
  subst hm
  exact finX p0 f0
def m188 (toks : List Tk) (n : Nat) (R : Rec) (s0 : PS) : Option PS := ((bumpM toks) s0).bind fun s1 => ((R (.path false)) s1).bind fun s2 => ((expectM toks [123]) s2).bind fun s3 => ((listM toks n ([125]) (m203 toks n R )) s3).bind fun s4 => some s4
theorem m188_w {toks : List Tk} {ip n : Nat} {R : Rec} (IH : IHs toks ip R) : FG toks ip 158 [.optr ip 0] (m188 toks n R ) (frv .structLit) := by
 intro s0 s' F0 H0 hm p0 i0
 obtain ⟨⟨hg, n0a⟩, _⟩ := i0
 obtain ⟨st0, r0⟩ := p0.row
 have q0 := getL r0
 have hl := lim_le p0.len
 have f0 := Fr.refl F0 H0
 have k0a := getL hg [.row [.optr ip 0]]
 have b0a := getL k0a
 have k0b : (H0 ++ [.row [.optr ip 0]])[H0.length]? = some (.row [.optr ip 0]) := by simp
 have n0b := p0.new0
 have b0b := getL k0b
 unfold m188 at hm
 refine aF (N := 11) Tryz.func158 rfl rfl (by simp) fun hb' => ?_
 refine qE (a4 y57 r0 q0 hg) ?_
 refine qT 1 (a4 y57 r0 q0 hg) ?_
 obtain ⟨s1, e1, hm⟩ := oB hm
 refine qN (a3 r0 q0 hg) (FN.apX (bump_c toks ip) e1 p0) ?_
 rintro _ H1 ⟨rfl, F1, p1, g1⟩
 have f1 := f0.stX g1
 obtain ⟨st1, r1⟩ := p1.row
 have q1 := getL r1
 obtain ⟨k1a, n1a⟩ := g1.gtX k0a n0a
 have b1a := getL k1a
 obtain ⟨k1b, n1b⟩ := g1.gtX k0b n0b
 have b1b := getL k1b
 refine qT 1 (a5 y57 hg r1 q1 (a4 k1a b1a k1b b1b)) ?_
 obtain ⟨s2, e2, hm⟩ := oB hm
 refine qN (a5 hg r1 q1 k1a (a3 b1a k1b b1b)) (FG.apX (IH (.path false)) e2 p1 ⟨k1a, n1a⟩) ?_
 rintro _ H2 ⟨rfl, F2, p2, g2⟩
 have f2 := f1.stX g2
 obtain ⟨st2, r2⟩ := p2.row
 have q2 := getL r2
 obtain ⟨k2a, n2a⟩ := g2.gtX k1a n1a
 have b2a := getL k2a
 obtain ⟨k2b, n2b⟩ := g2.gtX k1b n1b
 have b2b := getL k2b
 refine qT 1 (a5 y57 hg r2 q2 (a4 k2a b2a k2b b2b)) ?_
 obtain ⟨s3, e3, hm⟩ := oB hm
 refine qN (a5 hg r2 q2 k2a (a3 b2a k2b b2b)) (FN.apX (expect_c toks ip [123]) e3 p2) ?_
 rintro _ H3 ⟨rfl, F3, p3, g3⟩
 have f3 := f2.stX g3
 obtain ⟨st3, r3⟩ := p3.row
 have q3 := getL r3
 obtain ⟨k3a, n3a⟩ := g3.gtX k2a n2a
 have b3a := getL k3a
 obtain ⟨k3b, n3b⟩ := g3.gtX k2b n2b
 have b3b := getL k3b
 refine qT 2 (a5 y57 hg r3 q3 (a4 k3a b3a k3b b3b)) ?_
 obtain ⟨s4, e4, hm⟩ := oB hm
 refine qN (a2 hg (w3 r3 k3a k3b)) (FC.apX (list_c toks ip n ([125]) 170 [] [.optr (H0.length) 0] zgo170 (stbL [(0, gO), (H0.length, .row [.optr ip 0])]) (fun _ _ _ => envL_hd) (m203_w (n := n) IH (H0.length) )) e4 p3 ⟨⟨k3a, n3a⟩, ⟨k3b, n3b⟩, trivial⟩) ?_
 rintro _ H4 ⟨rfl, F4, p4, g4⟩
 have f4 := f3.stX g4
 obtain ⟨st4, r4⟩ := p4.row
 have q4 := getL r4
 obtain ⟨k4a, n4a⟩ := g4.gtX k3a n3a
 have b4a := getL k4a
 obtain ⟨k4b, n4b⟩ := g4.gtX k3b n3b
 have b4b := getL k4b
 refine enX ?_
 injection hm with hm
 subst hm
 exact finX p4 f4
def m205 (toks : List Tk) (n : Nat) (R : Rec) (s0 : PS) : Option PS := some s0
theorem m205_w {toks : List Tk} {ip n : Nat} {R : Rec} (IH : IHs toks ip R) : FC Tryz.prog toks ip 172 [] (m205 toks n R ) unitR (EnvL [(0, gO)]) := by
 refine fc_of fun s0 s' F0 H0 hm p0 i0 => ?_
 obtain ⟨⟨k0a, n0a⟩, _⟩ := i0
 obtain ⟨st0, r0⟩ := p0.row
 have hl := lim_le p0.len
 have f0 := Fr.refl F0 H0
 unfold m205 at hm
 refine aF (N := 0) Tryz.func172 rfl rfl (by simp) fun hb' => ?_
 refine qK ?_
 refine enX ?_
 injection hm with hm
 subst hm
 exact finX p0 f0
def m189 (toks : List Tk) (n : Nat) (R : Rec) (s0 : PS) : Option PS := if atT (peekT toks s0.pos) [[124, 124]] = true then (((bumpM toks) s0).bind fun s1 => ((nodeM 12 (m205 toks n R )) s1).bind fun s2 => ((R .expr) s2).bind fun s3 => some s3) else (((bumpM toks) s0).bind fun s1 => ((R (.params ([124]))) s1).bind fun s2 => ((R .expr) s2).bind fun s3 => some s3)
theorem m189_w {toks : List Tk} {ip n : Nat} {R : Rec} (IH : IHs toks ip R) : FG toks ip 159 [.optr ip 0] (m189 toks n R ) (frv .lambda) := by
 intro s0 s' F0 H0 hm p0 i0
 obtain ⟨⟨hg, n0a⟩, _⟩ := i0
 obtain ⟨st0, r0⟩ := p0.row
 have hl := lim_le p0.len
 have f0 := Fr.refl F0 H0
 have k0a := hg
 unfold m189 at hm
 refine aF (N := 15) Tryz.func159 rfl rfl (by simp) fun hb' => ?_
 refine qT 2 (a3 y9 y72 (w2 r0 k0a)) ?_
 refine qP (w2 r0 k0a) zgo56 (at_c (gtH r0) hl p0.pos [[124, 124]] (by decide)) ?_
 refine oN ?_
 refine qI (w2 r0 k0a) (fun bt4 => ?_) (fun bt4 => ?_)
 ·-- if t4
  rw [ifT bt4] at hm
  obtain ⟨s1, e1, hm⟩ := oB hm
  refine qW 1 (w2 r0 k0a) (FN.apX (bump_c toks ip) e1 p0) ?_
  rintro _ H1 ⟨rfl, F1, p1, g1⟩
  obtain ⟨f1, ⟨st1, r1⟩, ⟨k1a, n1a⟩⟩ := nx1 f0 p1 g1 k0a n0a
  have q1 := getL r1
  have b1a := getL k1a
  obtain ⟨s2, e2, hm⟩ := oB hm
  refine qW 1 (w2 r1 k1a) (FC.apX (node_c toks ip 12 172 [] [] zgo172 (stbL [(0, gO)]) (m205_w (n := n) IH  )) e2 p1 ⟨⟨k1a, n1a⟩, trivial⟩) ?_
  rintro _ H2 ⟨rfl, F2, p2, g2⟩
  obtain ⟨f2, ⟨st2, r2⟩, ⟨k2a, n2a⟩⟩ := nx1 f1 p2 g2 k1a n1a
  obtain ⟨s3, e3, hm⟩ := oB hm
  refine qW 1 (w2 r2 k2a) (FG.apX (IH .expr) e3 p2 ⟨k2a, n2a⟩) ?_
  rintro _ H3 ⟨rfl, F3, p3, g3⟩
  obtain ⟨f3, ⟨st3, r3⟩, ⟨k3a, n3a⟩⟩ := nx1 f2 p3 g3 k2a n2a
  refine enX ?_
  injection hm with hm
  subst hm
  exact finX p3 f3
 ·-- else t4
  rw [ifF bt4] at hm
  obtain ⟨s1, e1, hm⟩ := oB hm
  refine qW 1 (w2 r0 k0a) (FN.apX (bump_c toks ip) e1 p0) ?_
  rintro _ H1 ⟨rfl, F1, p1, g1⟩
  obtain ⟨f1, ⟨st1, r1⟩, ⟨k1a, n1a⟩⟩ := nx1 f0 p1 g1 k0a n0a
  have q1 := getL r1
  have b1a := getL k1a
  obtain ⟨s2, e2, hm⟩ := oB hm
  refine qW 1 (w2 r1 k1a) (FG.apX (IH (.params ([124]))) e2 p1 ⟨k1a, n1a⟩) ?_
  rintro _ H2 ⟨rfl, F2, p2, g2⟩
  obtain ⟨f2, ⟨st2, r2⟩, ⟨k2a, n2a⟩⟩ := nx1 f1 p2 g2 k1a n1a
  obtain ⟨s3, e3, hm⟩ := oB hm
  refine qW 1 (w2 r2 k2a) (FG.apX (IH .expr) e3 p2 ⟨k2a, n2a⟩) ?_
  rintro _ H3 ⟨rfl, F3, p3, g3⟩
  obtain ⟨f3, ⟨st3, r3⟩, ⟨k3a, n3a⟩⟩ := nx1 f2 p3 g3 k2a n2a
  refine enX ?_
  injection hm with hm
  subst hm
  exact finX p3 f3
def m137 (toks : List Tk) (n : Nat) (R : Rec) (s0 : PS) : Option PS := if decide ((peekT toks s0.pos).kind = 103) = true then (((nodeM 13 (m138 toks n R )) s0).bind fun s1 => some s1) else (some s0)
theorem m137_w {toks : List Tk} {ip n : Nat} {R : Rec} (IH : IHs toks ip R) (b0 : Nat) : FC Tryz.prog toks ip 122 [.optr b0 0] (m137 toks n R ) unitR (EnvL [(0, gO), (b0, .row [.optr ip 0])]) := by
 refine fc_of fun s0 s' F0 H0 hm p0 i0 => ?_
 obtain ⟨⟨k0a, n0a⟩, ⟨k0b, n0b⟩, _⟩ := i0
 have b0a := getL k0a
 have b0b := getL k0b
 obtain ⟨st0, r0⟩ := p0.row
 have q0 := getL r0
 have hl := lim_le p0.len
 have f0 := Fr.refl F0 H0
 unfold m137 at hm
 refine aF (N := 6) Tryz.func122 rfl rfl (by simp) fun hb' => ?_
 refine qT 1 (a2 y57 (w3 r0 k0a k0b)) ?_
 refine qP (w3 r0 k0a k0b) zgo109 (atIdent_c (gtH r0) hl p0.pos) ?_
 refine oN ?_
 refine qI (w3 r0 k0a k0b) (fun bt2 => ?_) (fun bt2 => ?_)
 ·-- if t2
  rw [ifT bt2] at hm
  refine qT 2 (a2 y57 (w3 r0 k0a k0b)) ?_
  obtain ⟨s1, e1, hm⟩ := oB hm
  refine qN (w3 r0 k0a k0b) (FC.apX (node_c toks ip 13 123 [] [.optr (b0) 0] zgo123 (stbL [(0, gO), (b0, .row [.optr ip 0])]) (m138_w (n := n) IH (b0) )) e1 p0 ⟨⟨k0a, n0a⟩, ⟨k0b, n0b⟩, trivial⟩) ?_
  rintro _ H1 ⟨rfl, F1, p1, g1⟩
  obtain ⟨f1, ⟨st1, r1⟩, ⟨k1a, n1a⟩, ⟨k1b, n1b⟩⟩ := nx2 f0 p1 g1 k0a n0a k0b n0b
  refine enX ?_
  injection hm with hm
  subst hm
  exact finX p1 f1
 ·-- else t2
  rw [ifF bt2] at hm
  refine qK ?_
  refine enX ?_
  injection hm with hm
  subst hm
  exact finX p0 f0
def m136 (toks : List Tk) (n : Nat) (R : Rec) (c : List UInt8) (s0 : PS) : Option PS := ((listM toks n (c) (m137 toks n R )) s0).bind fun s1 => some s1
theorem m136_w {toks : List Tk} {ip n : Nat} {R : Rec} (IH : IHs toks ip R) (b0 b1 : Nat) (c : List UInt8) : FC Tryz.prog toks ip 121 [.optr b0 0, .optr b1 0] (m136 toks n R c) unitR (EnvL [(0, gO), (b0, .row [.optr ip 0]), (b1, .row [.str c])]) := by
 refine fc_of fun s0 s' F0 H0 hm p0 i0 => ?_
 obtain ⟨⟨k0a, n0a⟩, ⟨k0b, n0b⟩, ⟨k0c, n0c⟩, _⟩ := i0
 have b0a := getL k0a
 have b0b := getL k0b
 have b0c := getL k0c
 obtain ⟨st0, r0⟩ := p0.row
 have q0 := getL r0
 have hl := lim_le p0.len
 have f0 := Fr.refl F0 H0
 unfold m136 at hm
 refine aF (N := 6) Tryz.func121 rfl rfl (by simp) fun hb' => ?_
 refine qT 3 (a3 y9 y57 (w4 r0 k0a k0b k0c)) ?_
 obtain ⟨s1, e1, hm⟩ := oB hm
 refine qN (w4 r0 k0a k0b k0c) (FC.apX (list_c toks ip n (c) 122 [] [.optr (b0) 0] zgo122 (stbL [(0, gO), (b0, .row [.optr ip 0])]) (fun _ _ _ => envL_hd) (m137_w (n := n) IH (b0) )) e1 p0 ⟨⟨k0a, n0a⟩, ⟨k0b, n0b⟩, trivial⟩) ?_
 rintro _ H1 ⟨rfl, F1, p1, g1⟩
 obtain ⟨f1, ⟨st1, r1⟩, ⟨k1a, n1a⟩, ⟨k1b, n1b⟩, ⟨k1c, n1c⟩⟩ := nx3 f0 p1 g1 k0a n0a k0b n0b k0c n0c
 refine enX ?_
 injection hm with hm
 subst hm
 exact finX p1 f1
def m108 (toks : List Tk) (n : Nat) (R : Rec) (c : List UInt8) (s0 : PS) : Option PS := ((nodeM 12 (m136 toks n R (c))) s0).bind fun s1 => some s1
theorem m108_w {toks : List Tk} {ip n : Nat} {R : Rec} (IH : IHs toks ip R) (c : List UInt8) : FG toks ip 95 [.optr ip 0, .str c] (m108 toks n R c) (frv (.params c)) := by
 intro s0 s' F0 H0 hm p0 i0
 obtain ⟨⟨hg, n0a⟩, _⟩ := i0
 obtain ⟨st0, r0⟩ := p0.row
 have q0 := getL r0
 have hl := lim_le p0.len
 have f0 := Fr.refl F0 H0
 have k0a := getL hg [.row [.optr ip 0], .row [.str c]]
 have b0a := getL k0a
 have k0b : (H0 ++ [.row [.optr ip 0], .row [.str c]])[H0.length]? = some (.row [.optr ip 0]) := by simp
 have n0b := p0.new0
 have b0b := getL k0b
 have k0c : (H0 ++ [.row [.optr ip 0], .row [.str c]])[H0.length + 1]? = some (.row [.str c]) := by simp
 have n0c := p0.new 1
 have b0c := getL k0c
 unfold m108 at hm
 refine aF (N := 7) Tryz.func95 rfl rfl (by simp) fun hb' => ?_
 refine qE (a5 y9 y57 r0 q0 hg) ?_
 refine qT 2 (a4 y57 r0 q0 hg) ?_
 obtain ⟨s1, e1, hm⟩ := oB hm
 refine qN (a2 hg (w1 r0)) (FC.apX (node_c toks ip 12 121 [] [.optr (H0.length) 0, .optr (H0.length + 1) 0] zgo121 (stbL [(0, gO), (H0.length, .row [.optr ip 0]), (H0.length + 1, .row [.str c])]) (m136_w (n := n) IH (H0.length) (H0.length + 1) (c))) e1 p0 ⟨⟨k0a, n0a⟩, ⟨k0b, n0b⟩, ⟨k0c, n0c⟩, trivial⟩) ?_
 rintro _ H1 ⟨rfl, F1, p1, g1⟩
 have f1 := f0.stX g1
 obtain ⟨st1, r1⟩ := p1.row
 have q1 := getL r1
 obtain ⟨k1a, n1a⟩ := g1.gtX k0a n0a
 have b1a := getL k1a
 obtain ⟨k1b, n1b⟩ := g1.gtX k0b n0b
 have b1b := getL k1b
 obtain ⟨k1c, n1c⟩ := g1.gtX k0c n0c
 have b1c := getL k1c
 refine enX ?_
 injection hm with hm
 subst hm
 exact finX p1 f1
def m106 (toks : List Tk) (n : Nat) (R : Rec) (s0 : PS) : Option PS := if atT (peekT toks s0.pos) [[38]] = true then (((nodeM 19 (m131 toks n R )) s0).bind fun s1 => some s1) else (if atT (peekT toks s0.pos) [[102, 110]] = true then (((nodeM 20 (m132 toks n R )) s0).bind fun s1 => some s1) else (if decide ((peekT toks s0.pos).kind = 103) = true then (((R (.path true)) s0).bind fun s1 => some s1) else (((missM 46) s0).bind fun s1 => some s1)))
theorem m106_w {toks : List Tk} {ip n : Nat} {R : Rec} (IH : IHs toks ip R) : FG toks ip 93 [.optr ip 0] (m106 toks n R ) (frv .typeExpr) := by
 intro s0 s' F0 H0 hm p0 i0
 obtain ⟨⟨hg, n0a⟩, _⟩ := i0
 obtain ⟨st0, r0⟩ := p0.row
 have q0 := getL r0
 have hl := lim_le p0.len
 have f0 := Fr.refl F0 H0
 have k0a := getL hg [.row [.optr ip 0]]
 have b0a := getL k0a
 have k0b : (H0 ++ [.row [.optr ip 0]])[H0.length]? = some (.row [.optr ip 0]) := by simp
 have n0b := p0.new0
 have b0b := getL k0b
 unfold m106 at hm
 refine aF (N := 23) Tryz.func93 rfl rfl (by simp) fun hb' => ?_
 refine qE (a4 y57 r0 q0 hg) ?_
 refine qB ?_
 refine qT 2 (a5 y9 y57 y72 r0 (a2 q0 hg)) ?_
 refine qP (a3 r0 q0 hg) zgo56 (at_c (gtH r0) hl p0.pos [[38]] (by decide)) ?_
 refine qX (a3 r0 q0 hg) ?_
 refine qI (a3 r0 q0 hg) (fun bt4 => ?_) (fun bt4 => ?_)
 ·-- if t4
  rw [ifT bt4] at hm
  refine qT 2 (a4 y57 r0 q0 hg) ?_
  obtain ⟨s1, e1, hm⟩ := oB hm
  refine qN (a2 hg (w1 r0)) (FC.apX (node_c toks ip 19 116 [] [.optr (H0.length) 0] zgo116 (stbL [(0, gO), (H0.length, .row [.optr ip 0])]) (m131_w (n := n) IH (H0.length) )) e1 p0 ⟨⟨k0a, n0a⟩, ⟨k0b, n0b⟩, trivial⟩) ?_
  rintro _ H1 ⟨rfl, F1, p1, g1⟩
  have f1 := f0.stX g1
  obtain ⟨st1, r1⟩ := p1.row
  have q1 := getL r1
  obtain ⟨k1a, n1a⟩ := g1.gtX k0a n0a
  have b1a := getL k1a
  obtain ⟨k1b, n1b⟩ := g1.gtX k0b n0b
  have b1b := getL k1b
  refine enX ?_
  injection hm with hm
  subst hm
  exact finX p1 f1
 ·-- else t4
  rw [ifF bt4] at hm
  refine qT 2 (a5 y9 y57 y72 r0 (a2 q0 hg)) ?_
  refine qP (a3 r0 q0 hg) zgo56 (at_c (gtH r0) hl p0.pos [[102, 110]] (by decide)) ?_
  refine qX (a3 r0 q0 hg) ?_
  refine qI (a3 r0 q0 hg) (fun bt11 => ?_) (fun bt11 => ?_)
  ·-- if t11
   rw [ifT bt11] at hm
   refine qT 2 (a4 y57 r0 q0 hg) ?_
   obtain ⟨s1, e1, hm⟩ := oB hm
   refine qN (a2 hg (w1 r0)) (FC.apX (node_c toks ip 20 117 [] [.optr (H0.length) 0] zgo117 (stbL [(0, gO), (H0.length, .row [.optr ip 0])]) (m132_w (n := n) IH (H0.length) )) e1 p0 ⟨⟨k0a, n0a⟩, ⟨k0b, n0b⟩, trivial⟩) ?_
   rintro _ H1 ⟨rfl, F1, p1, g1⟩
   have f1 := f0.stX g1
   obtain ⟨st1, r1⟩ := p1.row
   have q1 := getL r1
   obtain ⟨k1a, n1a⟩ := g1.gtX k0a n0a
   have b1a := getL k1a
   obtain ⟨k1b, n1b⟩ := g1.gtX k0b n0b
   have b1b := getL k1b
   refine enX ?_
   injection hm with hm
   subst hm
   exact finX p1 f1
  ·-- else t11
   rw [ifF bt11] at hm
   refine qT 1 (a4 y57 r0 q0 hg) ?_
   refine qP (a3 r0 q0 hg) zgo109 (atIdent_c (gtH r0) hl p0.pos) ?_
   refine qX (a3 r0 q0 hg) ?_
   refine qI (a3 r0 q0 hg) (fun bt18 => ?_) (fun bt18 => ?_)
   ·-- if t18
    rw [ifT bt18] at hm
    refine qT 1 (a4 y57 r0 q0 hg) ?_
    obtain ⟨s1, e1, hm⟩ := oB hm
    refine oC (by simp only [kC, seval, vint, qC, r0, q0, hg] <;> with_reducible rfl) (by simp only [kC, seval, vint, qC, r0, q0, hg]) (by decide) zgo118 ((by first | exact FG.ap0 (IH (.path true)) e1 p0 ⟨k0a, n0a⟩ | exact FG.ap' (IH (.path true)) e1 p0 ⟨k0a, n0a⟩ | exact FG.ap (IH (.path true)) e1 p0 ⟨k0a, n0a⟩)) ?_
    rintro _ H1 ⟨rfl, F1, p1, g1⟩
    have f1 := f0.stX g1
    obtain ⟨st1, r1⟩ := p1.row
    have q1 := getL r1
    obtain ⟨k1a, n1a⟩ := g1.gtX k0a n0a
    have b1a := getL k1a
    obtain ⟨k1b, n1b⟩ := g1.gtX k0b n0b
    have b1b := getL k1b
    refine oN ?_
    refine enX ?_
    injection hm with hm
    subst hm
    exact finX p1 f1
   ·-- else t18
    rw [ifF bt18] at hm
    refine qT 1 (a4 y57 r0 q0 hg) ?_
    obtain ⟨s1, e1, hm⟩ := oB hm
    refine qN (a3 r0 q0 hg) (FN.apX (missingNode_c toks ip) e1 p0) ?_
    rintro _ H1 ⟨rfl, F1, p1, g1⟩
    have f1 := f0.stX g1
    obtain ⟨st1, r1⟩ := p1.row
    have q1 := getL r1
    obtain ⟨k1a, n1a⟩ := g1.gtX k0a n0a
    have b1a := getL k1a
    obtain ⟨k1b, n1b⟩ := g1.gtX k0b n0b
    have b1b := getL k1b
    refine enX ?_
    injection hm with hm
    subst hm
    exact finX p1 f1
def m126 (toks : List Tk) (n : Nat) (R : Rec) (s0 : PS) : Option PS := ((bumpM toks) s0).bind fun s1 => ((acceptM toks [[40]]) s1).bind fun s2 => if atT (peekT toks s1.pos) [[40]] = true then (((listM toks n ([41]) (m106 toks n R)) s2).bind fun s3 => some s3) else (some s2)
theorem m126_w {toks : List Tk} {ip n : Nat} {R : Rec} (IH : IHs toks ip R) (b0 : Nat) : FC Tryz.prog toks ip 111 [.optr b0 0] (m126 toks n R ) unitR (EnvL [(0, gO), (b0, .row [.optr ip 0])]) := by
 refine fc_of fun s0 s' F0 H0 hm p0 i0 => ?_
 obtain ⟨⟨k0a, n0a⟩, ⟨k0b, n0b⟩, _⟩ := i0
 obtain ⟨st0, r0⟩ := p0.row
 have hl := lim_le p0.len
 have f0 := Fr.refl F0 H0
 unfold m126 at hm
 refine aF (N := 10) Tryz.func111 rfl rfl (by simp) fun hb' => ?_
 refine qT 1 (a2 y57 (w3 r0 k0a k0b)) ?_
 obtain ⟨s1, e1, hm⟩ := oB hm
 refine qN (w3 r0 k0a k0b) (FN.apX (bump_c toks ip) e1 p0) ?_
 rintro _ H1 ⟨rfl, F1, p1, g1⟩
 obtain ⟨f1, ⟨st1, r1⟩, ⟨k1a, n1a⟩, ⟨k1b, n1b⟩⟩ := nx2 f0 p1 g1 k0a n0a k0b n0b
 refine qT 2 (a4 y9 y57 y72 (w3 r1 k1a k1b)) ?_
 obtain ⟨s2, e2, hm⟩ := oB hm
 refine qN (w3 r1 k1a k1b) (FN.apX (accept_c toks ip [[40]] (by decide)) e2 p1) ?_
 rintro _ H2 ⟨rfl, F2, p2, g2⟩
 obtain ⟨f2, ⟨st2, r2⟩, ⟨k2a, n2a⟩, ⟨k2b, n2b⟩⟩ := nx2 f1 p2 g2 k1a n1a k1b n1b
 have q2 := getL r2
 have b2a := getL k2a
 have b2b := getL k2b
 refine qI (w3 r2 k2a k2b) (fun bt5 => ?_) (fun bt5 => ?_)
 ·-- if t5
  rw [ifT bt5] at hm
  refine qT 3 (a2 y57 (w3 r2 k2a k2b)) ?_
  obtain ⟨s3, e3, hm⟩ := oB hm
  refine qN (w3 r2 k2a k2b) (FC.apX (list_c toks ip n ([41]) 93 [.optr ip 0] [] zgo93 (stbL [(0, gO)]) (fun _ _ _ => envL_hd) (FG.fc (m106_w (n := n) IH))) e3 p2 ⟨⟨k2a, n2a⟩, trivial⟩) ?_
  rintro _ H3 ⟨rfl, F3, p3, g3⟩
  obtain ⟨f3, ⟨st3, r3⟩, ⟨k3a, n3a⟩, ⟨k3b, n3b⟩⟩ := nx2 f2 p3 g3 k2a n2a k2b n2b
  refine enX ?_
  injection hm with hm
  subst hm
  exact finX p3 f3
 ·-- else t5
  rw [ifF bt5] at hm
  refine qK ?_
  refine enX ?_
  injection hm with hm
  subst hm
  exact finX p2 f2
def m123 (toks : List Tk) (n : Nat) (R : Rec) (k : Int) (s0 : PS) : Option PS := if (!decide ((peekT toks s0.pos).kind = 103)) = true then (some s0) else (if decide (k = 4) = true then (((nodeM 14 (m125 toks n R )) s0).bind fun s1 => some s1) else (((nodeM 15 (m126 toks n R )) s0).bind fun s1 => some s1))
theorem m123_w {toks : List Tk} {ip n : Nat} {R : Rec} (IH : IHs toks ip R) (b0 b1 : Nat) (k : Int) : FC Tryz.prog toks ip 108 [.optr b0 0, .optr b1 0] (m123 toks n R k) unitR (EnvL [(0, gO), (b0, .row [.optr ip 0]), (b1, .row [.int .i64 k])]) := by
 refine fc_of fun s0 s' F0 H0 hm p0 i0 => ?_
 obtain ⟨⟨k0a, n0a⟩, ⟨k0b, n0b⟩, ⟨k0c, n0c⟩, _⟩ := i0
 have b0a := getL k0a
 have b0b := getL k0b
 have b0c := getL k0c
 obtain ⟨st0, r0⟩ := p0.row
 have q0 := getL r0
 have hl := lim_le p0.len
 have f0 := Fr.refl F0 H0
 unfold m123 at hm
 refine aF (N := 15) Tryz.func108 rfl rfl (by simp) fun hb' => ?_
 refine qB ?_
 refine qT 1 (a2 y57 (w4 r0 k0a k0b k0c)) ?_
 refine qP (w4 r0 k0a k0b k0c) zgo109 (atIdent_c (gtH r0) hl p0.pos) ?_
 refine qX (w4 r0 k0a k0b k0c) ?_
 refine qI (w4 r0 k0a k0b k0c) (fun bt5 => ?_) (fun bt5 => ?_)
 ·-- if t5
  rw [ifT bt5] at hm
  refine qK ?_
  refine enX ?_
  injection hm with hm
  subst hm
  exact finX p0 f0
 ·-- else t5
  rw [ifF bt5] at hm
  refine qE (a2 y3 (w4 r0 k0a k0b k0c)) ?_
  refine qI (w4 r0 k0a k0b k0c) (fun bt9 => ?_) (fun bt9 => ?_)
  ·-- if t9
   rw [ifT bt9] at hm
   refine qT 2 (a2 y57 (w4 r0 k0a k0b k0c)) ?_
   obtain ⟨s1, e1, hm⟩ := oB hm
   refine qN (w4 r0 k0a k0b k0c) (FC.apX (node_c toks ip 14 110 [] [.optr (b0) 0] zgo110 (stbL [(0, gO), (b0, .row [.optr ip 0])]) (m125_w (n := n) IH (b0) )) e1 p0 ⟨⟨k0a, n0a⟩, ⟨k0b, n0b⟩, trivial⟩) ?_
   rintro _ H1 ⟨rfl, F1, p1, g1⟩
   obtain ⟨f1, ⟨st1, r1⟩, ⟨k1a, n1a⟩, ⟨k1b, n1b⟩, ⟨k1c, n1c⟩⟩ := nx3 f0 p1 g1 k0a n0a k0b n0b k0c n0c
   refine enX ?_
   injection hm with hm
   subst hm
   exact finX p1 f1
  ·-- else t9
   rw [ifF bt9] at hm
   refine qT 2 (a2 y57 (w4 r0 k0a k0b k0c)) ?_
   obtain ⟨s1, e1, hm⟩ := oB hm
   refine qN (w4 r0 k0a k0b k0c) (FC.apX (node_c toks ip 15 111 [] [.optr (b0) 0] zgo111 (stbL [(0, gO), (b0, .row [.optr ip 0])]) (m126_w (n := n) IH (b0) )) e1 p0 ⟨⟨k0a, n0a⟩, ⟨k0b, n0b⟩, trivial⟩) ?_
   rintro _ H1 ⟨rfl, F1, p1, g1⟩
   obtain ⟨f1, ⟨st1, r1⟩, ⟨k1a, n1a⟩, ⟨k1b, n1b⟩, ⟨k1c, n1c⟩⟩ := nx3 f0 p1 g1 k0a n0a k0b n0b k0c n0c
   refine enX ?_
   injection hm with hm
   subst hm
   exact finX p1 f1
end Go.Abs
namespace Go.Abs
open Go.Proofs
def m167 (toks : List Tk) (n : Nat) (R : Rec) (s0 : PS) : Option PS := ((bumpM toks) s0).bind fun s1 => ((acceptM toks [[58]]) s1).bind fun s2 => if atT (peekT toks s1.pos) [[58]] = true then (((R (.path true)) s2).bind fun s3 => (loopE (fun s4 => atT (peekT toks s4.pos) [[43]]) (acceptM toks [[43]]) (fun s5 => ((R (.path true)) s5).bind fun s6 => some s6) n s3).bind fun s5 => some s5) else (some s2)
theorem m167_w {toks : List Tk} {ip n : Nat} {R : Rec} (IH : IHs toks ip R) (b0 : Nat) : FC Tryz.prog toks ip 141 [.optr b0 0] (m167 toks n R ) unitR (EnvL [(0, gO), (b0, .row [.optr ip 0])]) := by
 refine fc_of fun s0 s' F0 H0 hm p0 i0 => ?_
 obtain ⟨⟨k0a, n0a⟩, ⟨k0b, n0b⟩, _⟩ := i0
 obtain ⟨st0, r0⟩ := p0.row
 have hl := lim_le p0.len
 have f0 := Fr.refl F0 H0
 unfold m167 at hm
 refine aF (N := 13) Tryz.func141 rfl rfl (by simp) fun hb' => ?_
 refine qT 1 (a2 y57 (w3 r0 k0a k0b)) ?_
 obtain ⟨s1, e1, hm⟩ := oB hm
 refine qN (w3 r0 k0a k0b) (FN.apX (bump_c toks ip) e1 p0) ?_
 rintro _ H1 ⟨rfl, F1, p1, g1⟩
 obtain ⟨f1, ⟨st1, r1⟩, ⟨k1a, n1a⟩, ⟨k1b, n1b⟩⟩ := nx2 f0 p1 g1 k0a n0a k0b n0b
 refine qT 2 (a4 y9 y57 y72 (w3 r1 k1a k1b)) ?_
 obtain ⟨s2, e2, hm⟩ := oB hm
 refine qN (w3 r1 k1a k1b) (FN.apX (accept_c toks ip [[58]] (by decide)) e2 p1) ?_
 rintro _ H2 ⟨rfl, F2, p2, g2⟩
 obtain ⟨f2, ⟨st2, r2⟩, ⟨k2a, n2a⟩, ⟨k2b, n2b⟩⟩ := nx2 f1 p2 g2 k1a n1a k1b n1b
 refine qI (w3 r2 k2a k2b) (fun bt5 => ?_) (fun bt5 => ?_)
 ·-- if t5
  rw [ifT bt5] at hm
  refine qT 1 (a2 y57 (w3 r2 k2a k2b)) ?_
  obtain ⟨s3, e3, hm⟩ := oB hm
  refine qN (w3 r2 k2a k2b) (FG.apX (IH (.path true)) e3 p2 ⟨k2a, n2a⟩) ?_
  rintro _ H3 ⟨rfl, F3, p3, g3⟩
  obtain ⟨f3, ⟨st3, r3⟩, ⟨k3a, n3a⟩, ⟨k3b, n3b⟩⟩ := nx2 f2 p3 g3 k2a n2a k2b n2b
  have q3 := getL r3
  have b3a := getL k3a
  have b3b := getL k3b
  repeat refine wS ?_
  obtain ⟨sL4, eL4, hm⟩ := oB hm
  have hmo4 := hm
  clear hm
  refine awp_block ?_
  refine awp_loopX (σ := Nat × PS × List Nat) (fun (z : Nat × PS × List Nat) => [(0, .optr (b0) 0), (1, .optr ip 0), (3, .optr ip 0), (6, .optr ip 0)]) (fun (z : Nat × PS × List Nat) =>  fun H4 => loopE (fun s4 => atT (peekT toks s4.pos) [[43]]) (acceptM toks [[43]]) (fun s5 => ((R (.path true)) s5).bind fun s6 => some s6) z.1 z.2.1 = some sL4 ∧ PSt toks ip z.2.1 z.2.2 H4 ∧ Fr F0 z.2.2 H0 H4 ∧ (H4[0]? = some (gO) ∧ (0) ∉ z.2.2) ∧ (H4[b0]? = some (.row [.optr ip 0]) ∧ (b0) ∉ z.2.2)) (fun (z : Nat × PS × List Nat) => z.1) ((n, s3, F3)) ⟨(by first | rfl | (simp only [jN, seval, vint, qC, r3, q3, k3a, b3a, k3b, b3b] <;> first | done | with_reducible rfl)), (by first | rfl | (simp only [jN, seval, vint, qC, r3, q3, k3a, b3a, k3b, b3b] <;> first | done | with_reducible rfl)), (by first | rfl | (simp only [jN, seval, vint, qC, r3, q3, k3a, b3a, k3b, b3b] <;> first | done | with_reducible rfl)), (by first | rfl | (simp only [jN, seval, vint, qC, r3, q3, k3a, b3a, k3b, b3b] <;> first | done | with_reducible rfl)), trivial⟩ (⟨eL4, (by first | exact p3 | exact p3.app _ | exact p3.flg false), (by first | exact f3 | exact f3.app _), ⟨(by first | exact k3a | exact b3a _), n3a⟩, ⟨(by first | exact k3b | exact b3b _), n3b⟩⟩) ?_
  intro z H4 hg
  obtain ⟨k4, s4, F4⟩ := z
  obtain ⟨hk4, p4, f4, ⟨k4a, n4a⟩, ⟨k4b, n4b⟩⟩ := hg
  simp only at hk4 p4 f4 k4a n4a k4b n4b
  obtain ⟨st4, r4⟩ := p4.row
  cases k4 with
  | zero => cases hk4
  | succ k4 => ?_
  rcases Bool.eq_false_or_eq_true (atT (peekT toks s4.pos) [[43]]) with hd3 | hd3
  ·-- case
   unfold loopE at hk4
   rw [ifT hd3] at hk4
   obtain ⟨sB4, hm, hk4⟩ := oB hk4
   refine qT 2 (a5 y9 y57 y72 hd3 (w3 r4 k4a k4b)) ?_
   obtain ⟨s5, e5, hm⟩ := oB hm
   refine qN (a2 hd3 (w3 r4 k4a k4b)) (FN.apX (accept_c toks ip [[43]] (by decide)) e5 p4) ?_
   rintro _ H5 ⟨rfl, F5, p5, g5⟩
   obtain ⟨f5, ⟨st5, r5⟩, ⟨k5a, n5a⟩, ⟨k5b, n5b⟩⟩ := nx2 f4 p5 g5 k4a n4a k4b n4b
   have q5 := getL r5
   have b5a := getL k5a
   have b5b := getL k5b
   repeat refine wS ?_
   refine awp_cond_true rfl (by simp only [jN, seval, vint, qC, hd3, r5, q5, k5a, b5a, k5b, b5b] <;> with_reducible rfl) ?_
   refine qK ?_
   refine qB ?_
   refine qT 1 (a3 y57 hd3 (w3 r5 k5a k5b)) ?_
   obtain ⟨s6, e6, hm⟩ := oB hm
   refine qN (a2 hd3 (w3 r5 k5a k5b)) (FG.apX (IH (.path true)) e6 p5 ⟨k5a, n5a⟩) ?_
   rintro _ H6 ⟨rfl, F6, p6, g6⟩
   obtain ⟨f6, ⟨st6, r6⟩, ⟨k6a, n6a⟩, ⟨k6b, n6b⟩⟩ := nx2 f5 p6 g6 k5a n5a k5b n5b
   try simp only [thenQ, blockQ]
   injection hm with hm
   subst hm
   exact ⟨(k4, _, F6), Nat.lt_succ_self _, ⟨rfl, rfl, rfl, rfl, trivial⟩, hk4, p6, f6, ⟨k6a, n6a⟩, ⟨k6b, n6b⟩⟩
  ·-- case
   unfold loopE at hk4
   rw [ifF hd3] at hk4
   have hm := bind_id hk4
   refine qT 2 (a5 y9 y57 y72 hd3 (w3 r4 k4a k4b)) ?_
   obtain ⟨s5, e5, hm⟩ := oB hm
   refine qA (a2 hd3 (w3 r4 k4a k4b)) zgo62 (FN.apX (accept_c toks ip [[43]] (by decide)) e5 p4) ?_
   rintro _ H5 ⟨rfl, F5, p5, g5⟩
   obtain ⟨f5, ⟨st5, r5⟩, ⟨k5a, n5a⟩, ⟨k5b, n5b⟩⟩ := nx2 f4 p5 g5 k4a n4a k4b n4b
   have q5 := getL r5
   have b5a := getL k5a
   have b5b := getL k5b
   injection hm with hm
   subst hm
   have hm := hmo4
   refine oN ?_
   refine qF (a2 hd3 (w3 r5 k5a k5b)) ?_
   repeat refine wS ?_
   refine awp_exit ?_
   simp only [thenQ, blockQ, reduceIte, Nat.reduceEqDiff, Nat.succ_ne_self, if_true, if_false]
   refine enX ?_
   injection hm with hm
   subst hm
   exact finX p5 f5
 ·-- else t5
  rw [ifF bt5] at hm
  refine qK ?_
  refine enX ?_
  injection hm with hm
  subst hm
  exact finX p2 f2
def m145 (toks : List Tk) (n : Nat) (R : Rec) (s0 : PS) : Option PS := if (!decide ((peekT toks s0.pos).kind = 103)) = true then (some s0) else (((nodeM 11 (m167 toks n R )) s0).bind fun s1 => some s1)
theorem m145_w {toks : List Tk} {ip n : Nat} {R : Rec} (IH : IHs toks ip R) : FG toks ip 126 [.optr ip 0] (m145 toks n R ) unitR := by
 intro s0 s' F0 H0 hm p0 i0
 obtain ⟨⟨hg, n0a⟩, _⟩ := i0
 obtain ⟨st0, r0⟩ := p0.row
 have q0 := getL r0
 have hl := lim_le p0.len
 have f0 := Fr.refl F0 H0
 have k0a := getL hg [.row [.optr ip 0]]
 have b0a := getL k0a
 have k0b : (H0 ++ [.row [.optr ip 0]])[H0.length]? = some (.row [.optr ip 0]) := by simp
 have n0b := p0.new0
 have b0b := getL k0b
 unfold m145 at hm
 refine aF (N := 8) Tryz.func126 rfl rfl (by simp) fun hb' => ?_
 refine qE (a4 y57 r0 q0 hg) ?_
 refine qT 1 (a4 y57 r0 q0 hg) ?_
 refine qP (a3 r0 q0 hg) zgo109 (atIdent_c (gtH r0) hl p0.pos) ?_
 refine qX (a3 r0 q0 hg) ?_
 refine qI (a3 r0 q0 hg) (fun bt4 => ?_) (fun bt4 => ?_)
 ·-- if t4
  rw [ifT bt4] at hm
  repeat refine wS ?_
  refine wT ⟨.inr rfl, _, rfl, ?_⟩
  injection hm with hm
  subst hm
  exact finX p0 f0
 ·-- else t4
  rw [ifF bt4] at hm
  refine qK ?_
  refine qT 2 (a4 y57 r0 q0 hg) ?_
  obtain ⟨s1, e1, hm⟩ := oB hm
  refine qN (a2 hg (w1 r0)) (FC.apX (node_c toks ip 11 141 [] [.optr (H0.length) 0] zgo141 (stbL [(0, gO), (H0.length, .row [.optr ip 0])]) (m167_w (n := n) IH (H0.length) )) e1 p0 ⟨⟨k0a, n0a⟩, ⟨k0b, n0b⟩, trivial⟩) ?_
  rintro _ H1 ⟨rfl, F1, p1, g1⟩
  have f1 := f0.stX g1
  obtain ⟨st1, r1⟩ := p1.row
  have q1 := getL r1
  obtain ⟨k1a, n1a⟩ := g1.gtX k0a n0a
  have b1a := getL k1a
  obtain ⟨k1b, n1b⟩ := g1.gtX k0b n0b
  have b1b := getL k1b
  refine enX ?_
  injection hm with hm
  subst hm
  exact finX p1 f1
def m144 (toks : List Tk) (n : Nat) (R : Rec) (s0 : PS) : Option PS := ((acceptM toks [[60]]) s0).bind fun s1 => if atT (peekT toks s0.pos) [[60]] = true then (((listM toks n ([62]) (m145 toks n R)) s1).bind fun s2 => some s2) else (some s1)
theorem m144_w {toks : List Tk} {ip n : Nat} {R : Rec} (IH : IHs toks ip R) (b0 : Nat) : FC Tryz.prog toks ip 125 [.optr b0 0] (m144 toks n R ) unitR (EnvL [(0, gO), (b0, .row [.optr ip 0])]) := by
 refine fc_of fun s0 s' F0 H0 hm p0 i0 => ?_
 obtain ⟨⟨k0a, n0a⟩, ⟨k0b, n0b⟩, _⟩ := i0
 obtain ⟨st0, r0⟩ := p0.row
 have hl := lim_le p0.len
 have f0 := Fr.refl F0 H0
 unfold m144 at hm
 refine aF (N := 8) Tryz.func125 rfl rfl (by simp) fun hb' => ?_
 refine qT 2 (a4 y9 y57 y72 (w3 r0 k0a k0b)) ?_
 obtain ⟨s1, e1, hm⟩ := oB hm
 refine qN (w3 r0 k0a k0b) (FN.apX (accept_c toks ip [[60]] (by decide)) e1 p0) ?_
 rintro _ H1 ⟨rfl, F1, p1, g1⟩
 obtain ⟨f1, ⟨st1, r1⟩, ⟨k1a, n1a⟩, ⟨k1b, n1b⟩⟩ := nx2 f0 p1 g1 k0a n0a k0b n0b
 have q1 := getL r1
 have b1a := getL k1a
 have b1b := getL k1b
 refine qI (w3 r1 k1a k1b) (fun bt3 => ?_) (fun bt3 => ?_)
 ·-- if t3
  rw [ifT bt3] at hm
  refine qT 3 (a2 y57 (w3 r1 k1a k1b)) ?_
  obtain ⟨s2, e2, hm⟩ := oB hm
  refine qN (w3 r1 k1a k1b) (FC.apX (list_c toks ip n ([62]) 126 [.optr ip 0] [] zgo126 (stbL [(0, gO)]) (fun _ _ _ => envL_hd) (FG.fc (m145_w (n := n) IH))) e2 p1 ⟨⟨k1a, n1a⟩, trivial⟩) ?_
  rintro _ H2 ⟨rfl, F2, p2, g2⟩
  obtain ⟨f2, ⟨st2, r2⟩, ⟨k2a, n2a⟩, ⟨k2b, n2b⟩⟩ := nx2 f1 p2 g2 k1a n1a k1b n1b
  refine enX ?_
  injection hm with hm
  subst hm
  exact finX p2 f2
 ·-- else t3
  rw [ifF bt3] at hm
  refine qK ?_
  refine enX ?_
  injection hm with hm
  subst hm
  exact finX p1 f1
def m118 (toks : List Tk) (n : Nat) (R : Rec) (s0 : PS) : Option PS := ((nodeM 10 (m144 toks n R )) s0).bind fun s1 => some s1
theorem m118_w {toks : List Tk} {ip n : Nat} {R : Rec} (IH : IHs toks ip R) : FG toks ip 103 [.optr ip 0] (m118 toks n R ) (frv .typeParams) := by
 intro s0 s' F0 H0 hm p0 i0
 obtain ⟨⟨hg, n0a⟩, _⟩ := i0
 obtain ⟨st0, r0⟩ := p0.row
 have q0 := getL r0
 have hl := lim_le p0.len
 have f0 := Fr.refl F0 H0
 have k0a := getL hg [.row [.optr ip 0]]
 have b0a := getL k0a
 have k0b : (H0 ++ [.row [.optr ip 0]])[H0.length]? = some (.row [.optr ip 0]) := by simp
 have n0b := p0.new0
 have b0b := getL k0b
 unfold m118 at hm
 refine aF (N := 5) Tryz.func103 rfl rfl (by simp) fun hb' => ?_
 refine qE (a4 y57 r0 q0 hg) ?_
 refine qT 2 (a4 y57 r0 q0 hg) ?_
 obtain ⟨s1, e1, hm⟩ := oB hm
 refine qN (a2 hg (w1 r0)) (FC.apX (node_c toks ip 10 125 [] [.optr (H0.length) 0] zgo125 (stbL [(0, gO), (H0.length, .row [.optr ip 0])]) (m144_w (n := n) IH (H0.length) )) e1 p0 ⟨⟨k0a, n0a⟩, ⟨k0b, n0b⟩, trivial⟩) ?_
 rintro _ H1 ⟨rfl, F1, p1, g1⟩
 have f1 := f0.stX g1
 obtain ⟨st1, r1⟩ := p1.row
 have q1 := getL r1
 obtain ⟨k1a, n1a⟩ := g1.gtX k0a n0a
 have b1a := getL k1a
 obtain ⟨k1b, n1b⟩ := g1.gtX k0b n0b
 have b1b := getL k1b
 refine enX ?_
 injection hm with hm
 subst hm
 exact finX p1 f1
def m128 (toks : List Tk) (n : Nat) (R : Rec) (s0 : PS) : Option PS := ((bumpM toks) s0).bind fun s1 => ((R (.function false)) s1).bind fun s2 => some s2
theorem m128_w {toks : List Tk} {ip n : Nat} {R : Rec} (IH : IHs toks ip R) (b0 : Nat) : FC Tryz.prog toks ip 113 [.optr b0 0] (m128 toks n R ) unitR (EnvL [(0, gO), (b0, .row [.optr ip 0])]) := by
 refine fc_of fun s0 s' F0 H0 hm p0 i0 => ?_
 obtain ⟨⟨k0a, n0a⟩, ⟨k0b, n0b⟩, _⟩ := i0
 obtain ⟨st0, r0⟩ := p0.row
 have hl := lim_le p0.len
 have f0 := Fr.refl F0 H0
 unfold m128 at hm
 refine aF (N := 5) Tryz.func113 rfl rfl (by simp) fun hb' => ?_
 refine qT 1 (a2 y57 (w3 r0 k0a k0b)) ?_
 obtain ⟨s1, e1, hm⟩ := oB hm
 refine qN (w3 r0 k0a k0b) (FN.apX (bump_c toks ip) e1 p0) ?_
 rintro _ H1 ⟨rfl, F1, p1, g1⟩
 obtain ⟨f1, ⟨st1, r1⟩, ⟨k1a, n1a⟩, ⟨k1b, n1b⟩⟩ := nx2 f0 p1 g1 k0a n0a k0b n0b
 refine qT 1 (a2 y57 (w3 r1 k1a k1b)) ?_
 obtain ⟨s2, e2, hm⟩ := oB hm
 refine qN (w3 r1 k1a k1b) (FG.apX (IH (.function false)) e2 p1 ⟨k1a, n1a⟩) ?_
 rintro _ H2 ⟨rfl, F2, p2, g2⟩
 obtain ⟨f2, ⟨st2, r2⟩, ⟨k2a, n2a⟩, ⟨k2b, n2b⟩⟩ := nx2 f1 p2 g2 k1a n1a k1b n1b
 refine enX ?_
 injection hm with hm
 subst hm
 exact finX p2 f2
def m129 (toks : List Tk) (n : Nat) (R : Rec) (s0 : PS) : Option PS := ((bumpM toks) s0).bind fun s1 => ((expectIdentM toks) s1).bind fun s2 => ((optionalM toks ([61]) (R .typeExpr)) s2).bind fun s3 => ((expectM toks [59]) s3).bind fun s4 => some s4
theorem m129_w {toks : List Tk} {ip n : Nat} {R : Rec} (IH : IHs toks ip R) (b0 : Nat) : FC Tryz.prog toks ip 114 [.optr b0 0] (m129 toks n R ) unitR (EnvL [(0, gO), (b0, .row [.optr ip 0])]) := by
 refine fc_of fun s0 s' F0 H0 hm p0 i0 => ?_
 obtain ⟨⟨k0a, n0a⟩, ⟨k0b, n0b⟩, _⟩ := i0
 obtain ⟨st0, r0⟩ := p0.row
 have hl := lim_le p0.len
 have f0 := Fr.refl F0 H0
 unfold m129 at hm
 refine aF (N := 11) Tryz.func114 rfl rfl (by simp) fun hb' => ?_
 refine qT 1 (a2 y57 (w3 r0 k0a k0b)) ?_
 obtain ⟨s1, e1, hm⟩ := oB hm
 refine qN (w3 r0 k0a k0b) (FN.apX (bump_c toks ip) e1 p0) ?_
 rintro _ H1 ⟨rfl, F1, p1, g1⟩
 obtain ⟨f1, ⟨st1, r1⟩, ⟨k1a, n1a⟩, ⟨k1b, n1b⟩⟩ := nx2 f0 p1 g1 k0a n0a k0b n0b
 refine qT 1 (a2 y57 (w3 r1 k1a k1b)) ?_
 obtain ⟨s2, e2, hm⟩ := oB hm
 refine qN (w3 r1 k1a k1b) (FN.apX (expectIdent_c toks ip) e2 p1) ?_
 rintro _ H2 ⟨rfl, F2, p2, g2⟩
 obtain ⟨f2, ⟨st2, r2⟩, ⟨k2a, n2a⟩, ⟨k2b, n2b⟩⟩ := nx2 f1 p2 g2 k1a n1a k1b n1b
 have q2 := getL r2
 have b2a := getL k2a
 have b2b := getL k2b
 refine qT 3 (a2 y57 (w3 r2 k2a k2b)) ?_
 obtain ⟨s3, e3, hm⟩ := oB hm
 refine qN (w3 r2 k2a k2b) (FC.apX (optional_c toks ip ([61]) 93 [.optr ip 0] [] zgo93 (stbL [(0, gO)]) (FG.fc (IH .typeExpr))) e3 p2 ⟨⟨k2a, n2a⟩, trivial⟩) ?_
 rintro _ H3 ⟨rfl, F3, p3, g3⟩
 obtain ⟨f3, ⟨st3, r3⟩, ⟨k3a, n3a⟩, ⟨k3b, n3b⟩⟩ := nx2 f2 p3 g3 k2a n2a k2b n2b
 refine qT 1 (a2 y57 (w3 r3 k3a k3b)) ?_
 obtain ⟨s4, e4, hm⟩ := oB hm
 refine qN (w3 r3 k3a k3b) (FN.apX (expect_c toks ip [59]) e4 p3) ?_
 rintro _ H4 ⟨rfl, F4, p4, g4⟩
 obtain ⟨f4, ⟨st4, r4⟩, ⟨k4a, n4a⟩, ⟨k4b, n4b⟩⟩ := nx2 f3 p4 g4 k3a n3a k3b n3b
 refine enX ?_
 injection hm with hm
 subst hm
 exact finX p4 f4
def m103 (toks : List Tk) (n : Nat) (R : Rec) (s0 : PS) : Option PS := ((expectM toks [123]) s0).bind fun s1 => (loopM (fun s2 => atT (peekT toks s2.pos) [[116, 121, 112, 101], [102, 110]]) (fun s2 => if atT (peekT toks s2.pos) [[102, 110]] = true then (((nodeM 3 (m128 toks n R )) s2).bind fun s3 => some s3) else (((nodeM 16 (m129 toks n R )) s2).bind fun s3 => some s3)) n s1).bind fun s2 => ((expectM toks [125]) s2).bind fun s3 => some s3
theorem m103_w {toks : List Tk} {ip n : Nat} {R : Rec} (IH : IHs toks ip R) : FG toks ip 90 [.optr ip 0] (m103 toks n R ) unitR := by
 intro s0 s' F0 H0 hm p0 i0
 obtain ⟨⟨hg, n0a⟩, _⟩ := i0
 obtain ⟨st0, r0⟩ := p0.row
 have q0 := getL r0
 have hl := lim_le p0.len
 have f0 := Fr.refl F0 H0
 have k0a := getL hg [.row [.optr ip 0]]
 have b0a := getL k0a
 have k0b : (H0 ++ [.row [.optr ip 0]])[H0.length]? = some (.row [.optr ip 0]) := by simp
 have n0b := p0.new0
 have b0b := getL k0b
 unfold m103 at hm
 refine aF (N := 18) Tryz.func90 rfl rfl (by simp) fun hb' => ?_
 refine qE (a4 y57 r0 q0 hg) ?_
 refine qT 1 (a4 y57 r0 q0 hg) ?_
 obtain ⟨s1, e1, hm⟩ := oB hm
 refine qN (a3 r0 q0 hg) (FN.apX (expect_c toks ip [123]) e1 p0) ?_
 rintro _ H1 ⟨rfl, F1, p1, g1⟩
 have f1 := f0.stX g1
 obtain ⟨st1, r1⟩ := p1.row
 have q1 := getL r1
 obtain ⟨k1a, n1a⟩ := g1.gtX k0a n0a
 have b1a := getL k1a
 obtain ⟨k1b, n1b⟩ := g1.gtX k0b n0b
 have b1b := getL k1b
 repeat refine wS ?_
 obtain ⟨sL2, eL2, hm⟩ := oB hm
 have hmo2 := hm
 clear hm
 refine awp_block ?_
 refine awp_loopX (σ := Nat × PS × List Nat) (fun (z : Nat × PS × List Nat) => [(0, .optr ip 0), (1, .optr (H0.length) 0), (2, .optr ip 0)]) (fun (z : Nat × PS × List Nat) =>  fun H2 => loopM (fun s2 => atT (peekT toks s2.pos) [[116, 121, 112, 101], [102, 110]]) (fun s2 => if atT (peekT toks s2.pos) [[102, 110]] = true then (((nodeM 3 (m128 toks n R )) s2).bind fun s3 => some s3) else (((nodeM 16 (m129 toks n R )) s2).bind fun s3 => some s3)) z.1 z.2.1 = some sL2 ∧ PSt toks ip z.2.1 z.2.2 H2 ∧ Fr F0 z.2.2 H0 H2 ∧ (H2[0]? = some (gO) ∧ (0) ∉ z.2.2) ∧ (H2[H0.length]? = some (.row [.optr ip 0]) ∧ (H0.length) ∉ z.2.2)) (fun (z : Nat × PS × List Nat) => z.1) ((n, s1, F1)) ⟨(by first | rfl | (simp only [jN, seval, vint, qC, hg, r1, q1, k1a, b1a, k1b, b1b] <;> first | done | with_reducible rfl)), (by first | rfl | (simp only [jN, seval, vint, qC, hg, r1, q1, k1a, b1a, k1b, b1b] <;> first | done | with_reducible rfl)), (by first | rfl | (simp only [jN, seval, vint, qC, hg, r1, q1, k1a, b1a, k1b, b1b] <;> first | done | with_reducible rfl)), trivial⟩ (⟨eL2, (by first | exact p1 | exact p1.app _ | exact p1.flg false), (by first | exact f1 | exact f1.app _), ⟨(by first | exact k1a | exact b1a _), n1a⟩, ⟨(by first | exact k1b | exact b1b _), n1b⟩⟩) ?_
 intro z H2 hg
 obtain ⟨k2, s2, F2⟩ := z
 obtain ⟨hk2, p2, f2, ⟨k2a, n2a⟩, ⟨k2b, n2b⟩⟩ := hg
 simp only at hk2 p2 f2 k2a n2a k2b n2b
 obtain ⟨st2, r2⟩ := p2.row
 have q2 := getL r2
 have b2a := getL k2a
 have b2b := getL k2b
 cases k2 with
 | zero => cases hk2
 | succ k2 => ?_
 refine qT 2 (a5 y9 y57 y72 hg (a5 r2 q2 k2a b2a (a2 k2b b2b))) ?_
 refine qP (a5 hg r2 q2 k2a (a3 b2a k2b b2b)) zgo56 (at_c (gtH r2) hl p2.pos [[116, 121, 112, 101], [102, 110]] (by decide)) ?_
 refine oN ?_
 refine qI (a5 hg r2 q2 k2a (a3 b2a k2b b2b)) (fun bt6 => ?_) (fun bt6 => ?_)
 ·-- if t6
  unfold loopM at hk2
  rw [ifT bt6] at hk2
  obtain ⟨sB2, hm, hk2⟩ := oB hk2
  refine qK ?_
  refine qB ?_
  refine qT 2 (a5 y9 y57 y72 hg (a5 r2 q2 k2a b2a (a2 k2b b2b))) ?_
  refine qP (a5 hg r2 q2 k2a (a3 b2a k2b b2b)) zgo56 (at_c (gtH r2) hl p2.pos [[102, 110]] (by decide)) ?_
  refine oN ?_
  refine qI (a5 hg r2 q2 k2a (a3 b2a k2b b2b)) (fun bt9 => ?_) (fun bt9 => ?_)
  ·-- if t9
   rw [ifT bt9] at hm
   refine qT 2 (a5 y57 hg r2 q2 (a4 k2a b2a k2b b2b)) ?_
   obtain ⟨s3, e3, hm⟩ := oB hm
   refine qN (a2 hg (w3 r2 k2a k2b)) (FC.apX (node_c toks ip 3 113 [] [.optr (H0.length) 0] zgo113 (stbL [(0, gO), (H0.length, .row [.optr ip 0])]) (m128_w (n := n) IH (H0.length) )) e3 p2 ⟨⟨k2a, n2a⟩, ⟨k2b, n2b⟩, trivial⟩) ?_
   rintro _ H3 ⟨rfl, F3, p3, g3⟩
   have f3 := f2.stX g3
   obtain ⟨st3, r3⟩ := p3.row
   have q3 := getL r3
   obtain ⟨k3a, n3a⟩ := g3.gtX k2a n2a
   have b3a := getL k3a
   obtain ⟨k3b, n3b⟩ := g3.gtX k2b n2b
   have b3b := getL k3b
   repeat refine wS ?_
   refine awp_exit ?_
   simp only [thenQ, blockQ, reduceIte, Nat.reduceEqDiff, Nat.succ_ne_self, if_true, if_false]
   try simp only [thenQ, blockQ]
   injection hm with hm
   subst hm
   exact ⟨(k2, _, F3), Nat.lt_succ_self _, ⟨rfl, rfl, rfl, trivial⟩, hk2, p3, f3, ⟨k3a, n3a⟩, ⟨k3b, n3b⟩⟩
  ·-- else t9
   rw [ifF bt9] at hm
   refine qK ?_
   refine qT 2 (a5 y57 hg r2 q2 (a4 k2a b2a k2b b2b)) ?_
   obtain ⟨s3, e3, hm⟩ := oB hm
   refine qN (a2 hg (w3 r2 k2a k2b)) (FC.apX (node_c toks ip 16 114 [] [.optr (H0.length) 0] zgo114 (stbL [(0, gO), (H0.length, .row [.optr ip 0])]) (m129_w (n := n) IH (H0.length) )) e3 p2 ⟨⟨k2a, n2a⟩, ⟨k2b, n2b⟩, trivial⟩) ?_
   rintro _ H3 ⟨rfl, F3, p3, g3⟩
   have f3 := f2.stX g3
   obtain ⟨st3, r3⟩ := p3.row
   have q3 := getL r3
   obtain ⟨k3a, n3a⟩ := g3.gtX k2a n2a
   have b3a := getL k3a
   obtain ⟨k3b, n3b⟩ := g3.gtX k2b n2b
   have b3b := getL k3b
   try simp only [thenQ, blockQ]
   injection hm with hm
   subst hm
   exact ⟨(k2, _, F3), Nat.lt_succ_self _, ⟨rfl, rfl, rfl, trivial⟩, hk2, p3, f3, ⟨k3a, n3a⟩, ⟨k3b, n3b⟩⟩
 ·-- else t6
  unfold loopM at hk2
  rw [ifF bt6] at hk2
  injection hk2 with hk2
  subst hk2
  have hm := hmo2
  repeat refine wS ?_
  refine awp_exit ?_
  simp only [thenQ, blockQ, reduceIte, Nat.reduceEqDiff, Nat.succ_ne_self, if_true, if_false]
  refine qT 1 (a5 y57 hg r2 q2 (a4 k2a b2a k2b b2b)) ?_
  obtain ⟨s3, e3, hm⟩ := oB hm
  refine qN (a5 hg r2 q2 k2a (a3 b2a k2b b2b)) (FN.apX (expect_c toks ip [125]) e3 p2) ?_
  rintro _ H3 ⟨rfl, F3, p3, g3⟩
  have f3 := f2.stX g3
  obtain ⟨st3, r3⟩ := p3.row
  have q3 := getL r3
  obtain ⟨k3a, n3a⟩ := g3.gtX k2a n2a
  have b3a := getL k3a
  obtain ⟨k3b, n3b⟩ := g3.gtX k2b n2b
  have b3b := getL k3b
  refine enX ?_
  injection hm with hm
  subst hm
  exact finX p3 f3
end Go.Abs
namespace Go.Abs
open Go.Proofs
def m153 (toks : List Tk) (n : Nat) (R : Rec) (b : Bool) (s0 : PS) : Option PS := ((expectIdentM toks) s0).bind fun s1 => if b = true then (((acceptM toks [[60]]) s1).bind fun s2 => if atT (peekT toks s1.pos) [[60]] = true then (((listM toks n ([62]) (R .typeExpr)) s2).bind fun s3 => some s3) else (some s2)) else (some s1)
theorem m153_w {toks : List Tk} {ip n : Nat} {R : Rec} (IH : IHs toks ip R) (b0 b1 : Nat) (b : Bool) : FC Tryz.prog toks ip 134 [.optr b0 0, .optr b1 0] (m153 toks n R b) unitR (EnvL [(0, gO), (b0, .row [.optr ip 0]), (b1, .row [.bool b])]) := by
 refine fc_of fun s0 s' F0 H0 hm p0 i0 => ?_
 obtain ⟨⟨k0a, n0a⟩, ⟨k0b, n0b⟩, ⟨k0c, n0c⟩, _⟩ := i0
 obtain ⟨st0, r0⟩ := p0.row
 have hl := lim_le p0.len
 have f0 := Fr.refl F0 H0
 unfold m153 at hm
 refine aF (N := 14) Tryz.func134 rfl rfl (by simp) fun hb' => ?_
 refine qT 1 (a2 y57 (w4 r0 k0a k0b k0c)) ?_
 obtain ⟨s1, e1, hm⟩ := oB hm
 refine qN (w4 r0 k0a k0b k0c) (FN.apX (expectIdent_c toks ip) e1 p0) ?_
 rintro _ H1 ⟨rfl, F1, p1, g1⟩
 obtain ⟨f1, ⟨st1, r1⟩, ⟨k1a, n1a⟩, ⟨k1b, n1b⟩, ⟨k1c, n1c⟩⟩ := nx3 f0 p1 g1 k0a n0a k0b n0b k0c n0c
 rcases Bool.eq_false_or_eq_true (b) with hd1 | hd1
 ·-- case
  rw [ifT hd1] at hm
  refine qT 4 (a5 y4 y9 y57 y72 (a2 hd1 (w4 r1 k1a k1b k1c))) ?_
  obtain ⟨s2, e2, hm⟩ := oB hm
  refine qA (a2 hd1 (w4 r1 k1a k1b k1c)) zgo62 (FN.apX (accept_c toks ip [[60]] (by decide)) e2 p1) ?_
  rintro _ H2 ⟨rfl, F2, p2, g2⟩
  obtain ⟨f2, ⟨st2, r2⟩, ⟨k2a, n2a⟩, ⟨k2b, n2b⟩, ⟨k2c, n2c⟩⟩ := nx3 f1 p2 g2 k1a n1a k1b n1b k1c n1c
  have q2 := getL r2
  have b2a := getL k2a
  have b2b := getL k2b
  have b2c := getL k2c
  refine qX (a2 hd1 (w4 r2 k2a k2b k2c)) ?_
  refine qI (a2 hd1 (w4 r2 k2a k2b k2c)) (fun bt9 => ?_) (fun bt9 => ?_)
  ·-- if t9
   rw [ifT bt9] at hm
   refine qT 3 (a3 y57 hd1 (w4 r2 k2a k2b k2c)) ?_
   obtain ⟨s3, e3, hm⟩ := oB hm
   refine qN (a2 hd1 (w4 r2 k2a k2b k2c)) (FC.apX (list_c toks ip n ([62]) 93 [.optr ip 0] [] zgo93 (stbL [(0, gO)]) (fun _ _ _ => envL_hd) (FG.fc (IH .typeExpr))) e3 p2 ⟨⟨k2a, n2a⟩, trivial⟩) ?_
   rintro _ H3 ⟨rfl, F3, p3, g3⟩
   obtain ⟨f3, ⟨st3, r3⟩, ⟨k3a, n3a⟩, ⟨k3b, n3b⟩, ⟨k3c, n3c⟩⟩ := nx3 f2 p3 g3 k2a n2a k2b n2b k2c n2c
   refine enX ?_
   injection hm with hm
   subst hm
   exact finX p3 f3
  ·-- else t9
   rw [ifF bt9] at hm
   refine qK ?_
   refine enX ?_
   injection hm with hm
   subst hm
   exact finX p2 f2
 ·-- case
  rw [ifF hd1] at hm
  refine qE (a5 y4 y9 y57 y72 (a2 hd1 (w4 r1 k1a k1b k1c))) ?_
  refine qF (a2 hd1 (w4 r1 k1a k1b k1c)) ?_
  refine qK ?_
  refine enX ?_
  injection hm with hm
  subst hm
  exact finX p1 f1
def m152 (toks : List Tk) (n : Nat) (R : Rec) (b : Bool) (s0 : PS) : Option PS := ((nodeM 18 (m153 toks n R b)) s0).bind (loopE (fun s => atT (peekT toks s.pos) [[58, 58]]) (acceptM toks [[58, 58]]) (nodeM 18 (m153 toks n R b)) n)
theorem path_cases {c : PS → Bool} {a b : PS → Option PS} {fst : Bool} {k1 : Nat} {s1 s' : PS} (h : (fst = true ∧ ∃ k, k1 = k + 1 ∧ (b s1).bind (loopE c a b k) = some s') ∨ (fst = false ∧ loopE c a b k1 s1 = some s')) :
  (fst = true ∧ ∃ k, k1 = k + 1 ∧ (b s1).bind (loopE c a b k) = some s') ∨ (fst = false ∧ ∃ k, k1 = k + 1 ∧ c s1 = true ∧ ∃ sB, ((a s1).bind fun s => (b s).bind fun s => some s) = some sB ∧ loopE c a b k sB = some s') ∨ (fst = false ∧ c s1 = false ∧ ((a s1).bind fun s => some s) = some s') := by
 rcases h with h | ⟨h1, h2⟩
 ·exact .inl h
 ·cases k1 with
  | zero => cases h2
  | succ k =>
   unfold loopE at h2
   split at h2
   ·rename_i hc
    obtain ⟨sB, h3, h4⟩ := oB h2
    refine .inr (.inl ⟨h1, k, rfl, hc, sB, ?_, h4⟩)
    obtain ⟨s2, h5, h6⟩ := oB h3
    rw [h5]; exact bind_id h6
   ·rename_i hc
    exact .inr (.inr ⟨h1, by simpa using hc, bind_id h2⟩)
theorem m152_w {toks : List Tk} {ip n : Nat} {R : Rec} (IH : IHs toks ip R) (b0 b1 : Nat) (b : Bool) : FC Tryz.prog toks ip 133 [.optr b0 0, .optr b1 0] (m152 toks n R b) unitR (EnvL [(0, gO), (b0, .row [.optr ip 0]), (b1, .row [.bool b])]) := by
 refine fc_of fun s0 s' F0 H0 hm p0 i0 => ?_
 obtain ⟨⟨k0a, n0a⟩, ⟨k0b, n0b⟩, ⟨k0c, n0c⟩, _⟩ := i0
 have b0a := getL k0a
 have b0b := getL k0b
 have b0c := getL k0c
 obtain ⟨st0, r0⟩ := p0.row
 have q0 := getL r0
 have hl := lim_le p0.len
 have f0 := Fr.refl F0 H0
 unfold m152 at hm
 refine aF (N := 12) Tryz.func133 rfl rfl (by simp) fun hb' => ?_
 refine qE (w4 r0 k0a k0b k0c) ?_
 refine qB ?_
 refine awp_loopX (σ := Nat × PS × List Nat × Bool) (fun (z : Nat × PS × List Nat × Bool) => [(0, .optr b0 0), (1, .optr b1 0), (2, .bool z.2.2.2)]) (fun (z : Nat × PS × List Nat × Bool) =>  fun H1 => ((z.2.2.2 = true ∧ ∃ k, z.1 = k + 1 ∧ ((nodeM 18 (m153 toks n R b)) z.2.1).bind (loopE (fun s => atT (peekT toks s.pos) [[58, 58]]) (acceptM toks [[58, 58]]) (nodeM 18 (m153 toks n R b)) k) = some s') ∨ (z.2.2.2 = false ∧ loopE (fun s => atT (peekT toks s.pos) [[58, 58]]) (acceptM toks [[58, 58]]) (nodeM 18 (m153 toks n R b)) z.1 z.2.1 = some s')) ∧ PSt toks ip z.2.1 z.2.2.1 H1 ∧ Fr F0 z.2.2.1 H0 H1 ∧ (H1[0]? = some (gO) ∧ (0) ∉ z.2.2.1) ∧ (H1[b0]? = some (.row [.optr ip 0]) ∧ (b0) ∉ z.2.2.1) ∧ (H1[b1]? = some (.row [.bool b]) ∧ (b1) ∉ z.2.2.1)) (fun (z : Nat × PS × List Nat × Bool) => z.1) ((n + 1, s0, F0, true)) ⟨(by first | rfl | (simp only [jN, seval, vint, qC, r0, q0, k0a, b0a, k0b, b0b, k0c, b0c] <;> first | done | with_reducible rfl)), (by first | rfl | (simp only [jN, seval, vint, qC, r0, q0, k0a, b0a, k0b, b0b, k0c, b0c] <;> first | done | with_reducible rfl)), (by first | rfl | (simp only [jN, seval, vint, qC, r0, q0, k0a, b0a, k0b, b0b, k0c, b0c] <;> first | done | with_reducible rfl)), trivial⟩ (⟨.inl ⟨rfl, n, rfl, hm⟩, (by first | exact p0 | exact p0.app _), (by first | exact f0 | exact f0.app _), ⟨(by first | exact k0a | exact b0a _), n0a⟩, ⟨(by first | exact k0b | exact b0b _), n0b⟩, ⟨(by first | exact k0c | exact b0c _), n0c⟩⟩) ?_
 intro z H1 hg
 obtain ⟨k1, s1, F1, fst⟩ := z
 obtain ⟨hk1, p1, f1, ⟨k1a, n1a⟩, ⟨k1b, n1b⟩, ⟨k1c, n1c⟩⟩ := hg
 simp only at hk1 p1 f1 k1a n1a k1b n1b k1c n1c
 obtain ⟨st1, r1⟩ := p1.row
 have q1 := getL r1
 have b1a := getL k1a
 have b1b := getL k1b
 have b1c := getL k1c
 obtain ⟨rfl, k1, rfl, hm⟩ | ⟨rfl, k1, rfl, hd1, sB, hm, hk⟩ | ⟨rfl, hd1, hm⟩ : (fst = true ∧ ∃ k, k1 = k + 1 ∧ ((nodeM 18 (m153 toks n R b)) s1).bind (loopE (fun s => atT (peekT toks s.pos) [[58, 58]]) (acceptM toks [[58, 58]]) (nodeM 18 (m153 toks n R b)) k) = some s') ∨ (fst = false ∧ ∃ k, k1 = k + 1 ∧ (atT (peekT toks s1.pos) [[58, 58]]) = true ∧ ∃ sB, ((acceptM toks [[58, 58]] s1).bind fun s => ((nodeM 18 (m153 toks n R b)) s).bind fun s => some s) = some sB ∧ loopE (fun s => atT (peekT toks s.pos) [[58, 58]]) (acceptM toks [[58, 58]]) (nodeM 18 (m153 toks n R b)) k sB = some s') ∨ (fst = false ∧ (atT (peekT toks s1.pos) [[58, 58]]) = false ∧ ((acceptM toks [[58, 58]] s1).bind fun s => some s) = some s') := path_cases hk1
 ·-- case
  refine qE (a4 y9 y57 y72 (w4 r1 k1a k1b k1c)) ?_
  repeat refine wS ?_
  refine awp_cond_true rfl (by simp only [jN, seval, vint, qC, r1, q1, k1a, b1a, k1b, b1b, k1c, b1c] <;> with_reducible rfl) ?_
  refine qK ?_
  refine qB ?_
  refine qT 2 (a2 y57 (w4 r1 k1a k1b k1c)) ?_
  obtain ⟨s2, e2, hm⟩ := oB hm
  refine qN (w4 r1 k1a k1b k1c) (FC.apX (node_c toks ip 18 134 [] [.optr (b0) 0, .optr (b1) 0] zgo134 (stbL [(0, gO), (b0, .row [.optr ip 0]), (b1, .row [.bool b])]) (m153_w (n := n) IH (b0) (b1) (b))) e2 p1 ⟨⟨k1a, n1a⟩, ⟨k1b, n1b⟩, ⟨k1c, n1c⟩, trivial⟩) ?_
  rintro _ H2 ⟨rfl, F2, p2, g2⟩
  obtain ⟨f2, ⟨st2, r2⟩, ⟨k2a, n2a⟩, ⟨k2b, n2b⟩, ⟨k2c, n2c⟩⟩ := nx3 f1 p2 g2 k1a n1a k1b n1b k1c n1c
  have q2 := getL r2
  have b2a := getL k2a
  have b2b := getL k2b
  have b2c := getL k2c
  refine qE (w4 r2 k2a k2b k2c) ?_
  try simp only [thenQ, blockQ]
  exact ⟨(k1, s2, F2, false), Nat.lt_succ_self _, ⟨rfl, rfl, rfl, trivial⟩, .inr ⟨rfl, hm⟩, p2, f2, ⟨k2a, n2a⟩, ⟨k2b, n2b⟩, ⟨k2c, n2c⟩⟩
 ·-- case
  refine qT 4 (a5 y9 y57 y72 hd1 (w4 r1 k1a k1b k1c)) ?_
  obtain ⟨s2, e2, hm⟩ := oB hm
  refine qA (a2 hd1 (w4 r1 k1a k1b k1c)) zgo62 (FN.apX (accept_c toks ip [[58, 58]] (by decide)) e2 p1) ?_
  rintro _ H2 ⟨rfl, F2, p2, g2⟩
  obtain ⟨f2, ⟨st2, r2⟩, ⟨k2a, n2a⟩, ⟨k2b, n2b⟩, ⟨k2c, n2c⟩⟩ := nx3 f1 p2 g2 k1a n1a k1b n1b k1c n1c
  have q2 := getL r2
  have b2a := getL k2a
  have b2b := getL k2b
  have b2c := getL k2c
  refine qX (a2 hd1 (w4 r2 k2a k2b k2c)) ?_
  repeat refine wS ?_
  refine awp_cond_true rfl (by simp only [jN, seval, vint, qC, hd1, r2, q2, k2a, b2a, k2b, b2b, k2c, b2c] <;> with_reducible rfl) ?_
  refine qK ?_
  refine qB ?_
  refine qT 2 (a3 y57 hd1 (w4 r2 k2a k2b k2c)) ?_
  obtain ⟨s3, e3, hm⟩ := oB hm
  refine qN (a2 hd1 (w4 r2 k2a k2b k2c)) (FC.apX (node_c toks ip 18 134 [] [.optr (b0) 0, .optr (b1) 0] zgo134 (stbL [(0, gO), (b0, .row [.optr ip 0]), (b1, .row [.bool b])]) (m153_w (n := n) IH (b0) (b1) (b))) e3 p2 ⟨⟨k2a, n2a⟩, ⟨k2b, n2b⟩, ⟨k2c, n2c⟩, trivial⟩) ?_
  rintro _ H3 ⟨rfl, F3, p3, g3⟩
  obtain ⟨f3, ⟨st3, r3⟩, ⟨k3a, n3a⟩, ⟨k3b, n3b⟩, ⟨k3c, n3c⟩⟩ := nx3 f2 p3 g3 k2a n2a k2b n2b k2c n2c
  refine qE (a2 hd1 (w4 r3 k3a k3b k3c)) ?_
  try simp only [thenQ, blockQ]
  injection hm with hm
  subst hm
  exact ⟨(k1, s3, F3, false), Nat.lt_succ_self _, ⟨rfl, rfl, rfl, trivial⟩, .inr ⟨rfl, hk⟩, p3, f3, ⟨k3a, n3a⟩, ⟨k3b, n3b⟩, ⟨k3c, n3c⟩⟩
 ·-- case
  refine qT 4 (a5 y9 y57 y72 hd1 (w4 r1 k1a k1b k1c)) ?_
  obtain ⟨s2, e2, hm⟩ := oB hm
  refine qA (a2 hd1 (w4 r1 k1a k1b k1c)) zgo62 (FN.apX (accept_c toks ip [[58, 58]] (by decide)) e2 p1) ?_
  rintro _ H2 ⟨rfl, F2, p2, g2⟩
  obtain ⟨f2, ⟨st2, r2⟩, ⟨k2a, n2a⟩, ⟨k2b, n2b⟩, ⟨k2c, n2c⟩⟩ := nx3 f1 p2 g2 k1a n1a k1b n1b k1c n1c
  have q2 := getL r2
  have b2a := getL k2a
  have b2b := getL k2b
  have b2c := getL k2c
  refine qX (a2 hd1 (w4 r2 k2a k2b k2c)) ?_
  refine qF (a2 hd1 (w4 r2 k2a k2b k2c)) ?_
  repeat refine wS ?_
  refine awp_exit ?_
  simp only [thenQ, blockQ, reduceIte, Nat.reduceEqDiff, Nat.succ_ne_self, if_true, if_false]
  refine enX ?_
  injection hm with hm
  subst hm
  exact finX p2 f2
def m133 (toks : List Tk) (n : Nat) (R : Rec) (b : Bool) (s0 : PS) : Option PS := ((nodeM 17 (m152 toks n R (b))) s0).bind fun s1 => some s1
theorem m133_w {toks : List Tk} {ip n : Nat} {R : Rec} (IH : IHs toks ip R) (b : Bool) : FG toks ip 118 [.optr ip 0, .bool b] (m133 toks n R b) (frv (.path b)) := by
 intro s0 s' F0 H0 hm p0 i0
 obtain ⟨⟨hg, n0a⟩, _⟩ := i0
 obtain ⟨st0, r0⟩ := p0.row
 have q0 := getL r0
 have hl := lim_le p0.len
 have f0 := Fr.refl F0 H0
 have k0a := getL hg [.row [.optr ip 0], .row [.bool b]]
 have b0a := getL k0a
 have k0b : (H0 ++ [.row [.optr ip 0], .row [.bool b]])[H0.length]? = some (.row [.optr ip 0]) := by simp
 have n0b := p0.new0
 have b0b := getL k0b
 have k0c : (H0 ++ [.row [.optr ip 0], .row [.bool b]])[H0.length + 1]? = some (.row [.bool b]) := by simp
 have n0c := p0.new 1
 have b0c := getL k0c
 unfold m133 at hm
 refine aF (N := 7) Tryz.func118 rfl rfl (by simp) fun hb' => ?_
 refine qE (a5 y4 y57 r0 q0 hg) ?_
 refine qT 2 (a4 y57 r0 q0 hg) ?_
 obtain ⟨s1, e1, hm⟩ := oB hm
 refine qN (a2 hg (w1 r0)) (FC.apX (node_c toks ip 17 133 [] [.optr (H0.length) 0, .optr (H0.length + 1) 0] zgo133 (stbL [(0, gO), (H0.length, .row [.optr ip 0]), (H0.length + 1, .row [.bool b])]) (m152_w (n := n) IH (H0.length) (H0.length + 1) (b))) e1 p0 ⟨⟨k0a, n0a⟩, ⟨k0b, n0b⟩, ⟨k0c, n0c⟩, trivial⟩) ?_
 rintro _ H1 ⟨rfl, F1, p1, g1⟩
 have f1 := f0.stX g1
 obtain ⟨st1, r1⟩ := p1.row
 have q1 := getL r1
 obtain ⟨k1a, n1a⟩ := g1.gtX k0a n0a
 have b1a := getL k1a
 obtain ⟨k1b, n1b⟩ := g1.gtX k0b n0b
 have b1b := getL k1b
 obtain ⟨k1c, n1c⟩ := g1.gtX k0c n0c
 have b1c := getL k1c
 refine enX ?_
 injection hm with hm
 subst hm
 exact finX p1 f1
end Go.Abs
