/- Part 7 of a proof of the law WorkspaceReference: Go data as trees, the walks of the functions that the law reaches, the plain laws. -/
import Derived.Test.YtciigdplioadeaaGreatDoorGFWorkspaceReference
set_option linter.unusedVariables false
set_option linter.unusedSimpArgs false
set_option maxRecDepth 4000
namespace Go.Abs
open Go.Proofs
theorem litO_step {s : List UInt8} {i : Nat} (h : i < s.length) : litO (s.drop i) = if s[i] = 10 then none else if s[i] = 34 then some 1 else
  if s[i] = 92 ∧ (s.drop (i + 1)).head?.getD 10 ≠ 10 then (litO (s.drop (i + 2))).map (· + 2) else (litO (s.drop (i + 1))).map (· + 1) := by
 rw [List.drop_eq_getElem_cons h]
 obtain ⟨c, hc⟩ : ∃ c, s[i] = c := ⟨_, rfl⟩
 rw [hc]
 by_cases h2 : i + 1 < s.length
 ·have e2 : s.drop (i + 1) = s[i + 1] :: s.drop (i + 2) := List.drop_eq_getElem_cons h2
  rw [e2, litO]
  rfl
 ·have e2 : s.drop (i + 1) = [] := List.drop_eq_nil_of_le (by omega)
  have e3 : s.drop (i + 2) = [] := List.drop_eq_nil_of_le (by omega)
  rw [e2, e3, litO]
  by_cases h10 : c = 10
  ·subst h10; simp [litO]
  ·simp [h10, litO]
def strT (s : List UInt8) : Nat × Int := match litG false (s.drop 1) with | some k => (k + 1, 106) | none => (1 + runL notNl (s.drop 1), 108)
theorem scanStr_c (s : List UInt8) (hs : s.length ≤ maxLen) (h1 : 1 ≤ s.length) : PC Tryz.prog 31 [.str s] (.tup [vint ((strT s).1 : Int), vint (strT s).2]) := by
 have em : maxLen = 9223372036854775807 := by decide
 have hsc := scan_c s hs notNl 45 Tryzgo45 scan1 1 h1
 refine pc_of (N := 47) Tryz.func31 rfl rfl (by simp) (by simp [Bel.int, Bel.str]) (.tup _ (by simp [Bel.int])) ?_
 repeat refine wS ?_
 refine eE (by simp only [kA, seval, vint, qC] <;> with_reducible rfl) (by decide) ?_
 repeat refine wS ?_
 refine eE (by simp only [kA, seval, vint, qC] <;> with_reducible rfl) (by decide) ?_
 repeat refine wS ?_
 refine awp_block ?_
 refine awp_loopS (σ := Nat) (fun (i : Nat) => [(0, .str s), (4, vint (i : Int))]) ([]) (fun (i : Nat) => []) (fun (i : Nat) => s.length - i) (fun (i : Nat) => 1 ≤ i ∧ i ≤ s.length ∧ litG false (s.drop 1) = (litO (s.drop i)).map (· + (i - 1))) (1) ([]) ⟨(by first | rfl | (simp only [jN, seval, vint, qC] <;> first | done | with_reducible rfl)), (by first | rfl | (simp only [jN, seval, vint, qC] <;> first | done | with_reducible rfl)), trivial⟩ (by first | rfl | (simp only [jN, seval, vint, qC] <;> first | done | with_reducible rfl)) (⟨by omega, h1, by rw [litO_eq]; simp⟩) (fun _ _ => by first | exact Nat.zero_le _ | (simp only [List.length_append]; omega)) ?_ ?_
 ·exact fun i hg => ⟨by simp only [List.nil_append]; exact hbel_nil _, by repeat (first | exact BelL.nil | refine BelL.cons (by first | exact Tk.bel _ _ | exact bel_nil0 _ | exact bel_nil1 _ | exact Bel.int _ _ | exact Bel.bool _ | exact Bel.str _ | exact Bel.nilp | exact Bel.nilfn | exact Bel.optr _ _ (by simp) | exact bel_nil0 _ | exact bel_nil1 _ | exact bel_fn0 _ _ | assumption) ?_)⟩
 ·intro i hg
  obtain ⟨hq1, hq2, hq3⟩ := hg
  have hcs : i < s.length ∨ i = s.length := by omega
  rcases hcs with hi | hi
  ·-- case
   have g1 := ix_nat hi
   have hd := litO_step hi
   obtain ⟨c, hc⟩ : ∃ c, s[i] = c := ⟨_, rfl⟩
   rw [hc] at hd
   have g2 : s[i]? = some c := by rw [List.getElem?_eq_getElem hi, hc]
   have w1 : IntKind.i64.wrap ((i : Int) + 1) = ((i + 1 : Nat) : Int) := by rw [wrap_id (by omega) (by omega)]; omega
   have f1 : ((i : Int) < s.length) = True := by simp; omega
   have f0 : ((0 : Int) ≤ (i : Int)) = True := by simp
   have e10 : decide ((c.toNat : Int) = 10) = (c == 10) := u8_eq c 10 (by decide)
   have e34 : decide ((c.toNat : Int) = 34) = (c == 34) := u8_eq c 34 (by decide)
   have e92 : decide ((c.toNat : Int) = 92) = (c == 92) := u8_eq c 92 (by decide)
   repeat refine wS ?_
   refine g_eval (by simp only [jG, jO, jN, seval, y3, y5, y9, vint, qC, f1, f0, g1, g2, w1, e10, e34, e92, decide_true, tN] <;> with_reducible rfl) (by decide) (by repeat (first | exact Fin.base _ | with_reducible apply Fin.keep | apply Fin.drop)) ?_
   repeat refine wS ?_
   refine wC rfl (by simp only [jN, seval, vint, qC, f1, f0, g1, g2, w1, e10, e34, e92, decide_true, tN] <;> with_reducible rfl) (fun bt14 => ?_) (fun bt14 => ?_)
   ·-- if t14
    have h10 : ¬ c = 10 := by simpa using bt14
    rw [if_neg h10] at hd
    repeat refine wS ?_
    refine wK ?_
    repeat refine wS ?_
    refine awp_block ?_
    repeat refine wS ?_
    refine awp_block ?_
    repeat refine wS ?_
    refine eE (by simp only [kA, seval, y5, y9, vint, qC, f1, f0, g1, g2, w1, e10, e34, e92, decide_true, tN] <;> with_reducible rfl) (by decide) ?_
    repeat refine wS ?_
    refine wC rfl (by simp only [jN, seval, vint, qC, f1, f0, g1, g2, w1, e10, e34, e92, decide_true, tN] <;> with_reducible rfl) (fun bt17 => ?_) (fun bt17 => ?_)
    ·-- if t17
     have h34 : c = 34 := by simpa using bt17
     have hv : strT s = (i + 1, 106) := by unfold strT; rw [hq3, hd, if_pos h34]; simp; omega
     refine wL [0, 4] (by simp only [jN, seval, vint, qC, f1, f0, g1, g2, w1, e10, e34, e92, decide_true, tN] <;> with_reducible rfl) ?_
     repeat refine wS ?_
     refine eE (by simp only [kA, seval, y3, vint, qC, f1, f0, g1, g2, w1, e10, e34, e92, decide_true, tN] <;> with_reducible rfl) (by decide) ?_
     repeat refine wS ?_
     refine wT ⟨.inr rfl, _, (ares_two (.tmp 2) (.tmp 3) rfl (ares_tmp1 (by decide)) (ares_tmp1 (by decide))), ?_⟩
     simp only [jN, seval, vint, qC, hv]
     try rfl
    ·-- else t17
     have h34 : ¬ c = 34 := by simpa using bt17
     rw [if_neg h34] at hd
     have hcd : c = 92 ∧ i + 1 < s.length ∨ ¬ c = 92 ∨ (c = 92 ∧ ¬ i + 1 < s.length) := by by_cases h : c = 92 <;> simp [h] <;> omega
     refine wL [0, 4] (by simp only [jN, seval, vint, qC, f1, f0, g1, g2, w1, e10, e34, e92, decide_true, tN] <;> with_reducible rfl) ?_
     rcases hcd with hk | hk | hk
     ·-- case
      obtain ⟨hk1, hk2⟩ := hk
      have k92 : (c == 92) = true := by simpa using hk1
      have k1 : (((i + 1 : Nat) : Int) < s.length) = True := by simp; omega
      have k0 : ((0 : Int) ≤ ((i + 1 : Nat) : Int)) = True := by simp; omega
      obtain ⟨d, hdd⟩ : ∃ d, s[i + 1] = d := ⟨_, rfl⟩
      have k2 : s[i + 1]? = some d := by rw [List.getElem?_eq_getElem hk2, hdd]
      have d10 : decide ((d.toNat : Int) = 10) = (d == 10) := u8_eq d 10 (by decide)
      have hh : (s.drop (i + 1)).head?.getD 10 = d := by rw [List.drop_eq_getElem_cons hk2, hdd]; rfl
      have w2 : IntKind.i64.wrap (((i + 1 : Nat) : Int) + 1) = ((i + 2 : Nat) : Int) := by rw [wrap_id (by omega) (by omega)]; omega
      rw [hh] at hd
      repeat refine wS ?_
      refine g_eval (by simp only [jG, jO, jN, seval, y3, y5, y9, vint, qC, f1, f0, g1, g2, w1, e10, e34, e92, decide_true, tN, k92, k1, k0, k2, d10, w2] <;> with_reducible rfl) (by decide) (by repeat (first | exact Fin.base _ | with_reducible apply Fin.keep | apply Fin.drop)) ?_
      repeat refine wS ?_
      refine wC rfl (by simp only [jN, seval, vint, qC, f1, f0, g1, g2, w1, e10, e34, e92, decide_true, tN, k92, k1, k0, k2, d10, w2] <;> with_reducible rfl) (fun bt24 => ?_) (fun bt24 => ?_)
      ·-- if t24
       have hd10 : ¬ d = 10 := by simpa using bt24
       rw [if_pos ⟨hk1, hd10⟩] at hd
       refine wL [0, 4] (by simp only [jN, seval, vint, qC, f1, f0, g1, g2, w1, e10, e34, e92, decide_true, tN, k92, k1, k0, k2, d10, w2] <;> with_reducible rfl) ?_
       repeat refine wS ?_
       refine eE (by simp only [kA, seval, y3, vint, qC, f1, f0, g1, g2, w1, e10, e34, e92, decide_true, tN, k92, k1, k0, k2, d10, w2] <;> with_reducible rfl) (by decide) ?_
       repeat refine wS ?_
       refine eE (by simp only [kA, seval, y3, vint, qC, f1, f0, g1, g2, w1, e10, e34, e92, decide_true, tN, k92, k1, k0, k2, d10, w2] <;> with_reducible rfl) (by decide) ?_
       try simp only [thenQ, blockQ]
       exact ⟨i + 2, _, by show s.length - (i + 2) < s.length - i; omega, ⟨rfl, rfl, trivial⟩, by simp only [jN, seval, vint, qC] <;> rfl, by omega, by omega, by rw [hq3, hd, Option.map_map]; congr 1; funext x; simp; omega⟩
      ·-- else t24
       have hd10 : d = 10 := by simpa using bt24
       rw [if_neg (fun q => q.2 hd10)] at hd
       repeat refine wS ?_
       refine wK ?_
       refine wL [0, 4] (by simp only [jN, seval, vint, qC, f1, f0, g1, g2, w1, e10, e34, e92, decide_true, tN, k92, k1, k0, k2, d10, w2] <;> with_reducible rfl) ?_
       repeat refine wS ?_
       refine eE (by simp only [kA, seval, y3, vint, qC, f1, f0, g1, g2, w1, e10, e34, e92, decide_true, tN, k92, k1, k0, k2, d10, w2] <;> with_reducible rfl) (by decide) ?_
       try simp only [thenQ, blockQ]
       exact ⟨i + 1, _, by show s.length - (i + 1) < s.length - i; omega, ⟨rfl, rfl, trivial⟩, by simp only [jN, seval, vint, qC] <;> rfl, by omega, by omega, by rw [hq3, hd, Option.map_map]; congr 1; funext x; simp; omega⟩
     ·-- case
      have k92 : (c == 92) = false := by simpa using hk
      rw [if_neg (fun q => hk q.1)] at hd
      repeat refine wS ?_
      refine wR ?_
      refine aops_gstart ?_
      refine g_take 15 (by simp only [jG, jO, jN, seval, y3, y5, y9, vint, qC, f1, f0, g1, g2, w1, e10, e34, e92, decide_true, tN, k92] <;> with_reducible rfl) (by decide) ?_
      refine aops_gskip (r := .tup []) (by simp only [kE, seval, vint, qC, f1, f0, g1, g2, w1, e10, e34, e92, decide_true, tN, k92] <;> with_reducible rfl) ?_
      refine aops_gskip (r := .tup []) (by simp only [kE, seval, vint, qC, f1, f0, g1, g2, w1, e10, e34, e92, decide_true, tN, k92] <;> with_reducible rfl) ?_
      refine g_end (by simp only [jG, jO, jN, seval, vint, qC, f1, f0, g1, g2, w1, e10, e34, e92, decide_true, tN, k92] <;> with_reducible rfl) (by decide) (by repeat (first | exact Fin.base _ | with_reducible apply Fin.keep | apply Fin.drop)) ?_
      repeat refine wS ?_
      refine wF rfl (by simp only [jN, seval, vint, qC, f1, f0, g1, g2, w1, e10, e34, e92, decide_true, tN, k92] <;> with_reducible rfl) ?_
      repeat refine wS ?_
      refine wK ?_
      refine wL [0, 4] (by simp only [jN, seval, vint, qC, f1, f0, g1, g2, w1, e10, e34, e92, decide_true, tN, k92] <;> with_reducible rfl) ?_
      repeat refine wS ?_
      refine eE (by simp only [kA, seval, y3, vint, qC, f1, f0, g1, g2, w1, e10, e34, e92, decide_true, tN, k92] <;> with_reducible rfl) (by decide) ?_
      try simp only [thenQ, blockQ]
      exact ⟨i + 1, _, by show s.length - (i + 1) < s.length - i; omega, ⟨rfl, rfl, trivial⟩, by simp only [jN, seval, vint, qC] <;> rfl, by omega, by omega, by rw [hq3, hd, Option.map_map]; congr 1; funext x; simp; omega⟩
     ·-- case
      obtain ⟨hk1, hk2⟩ := hk
      have k92 : (c == 92) = true := by simpa using hk1
      have k1 : (((i + 1 : Nat) : Int) < s.length) = False := by simp; omega
      have hh : s.drop (i + 1) = [] := List.drop_eq_nil_of_le (by omega)
      rw [if_neg (by rw [hh]; simp)] at hd
      repeat refine wS ?_
      refine wR ?_
      refine aops_gstart ?_
      refine g_take 15 (by simp only [jG, jO, jN, seval, y3, y5, y9, vint, qC, f1, f0, g1, g2, w1, e10, e34, e92, decide_true, tN, k92, k1, decide_false] <;> with_reducible rfl) (by decide) ?_
      refine aops_gskip (r := .tup []) (by simp only [kE, seval, vint, qC, f1, f0, g1, g2, w1, e10, e34, e92, decide_true, tN, k92, k1, decide_false] <;> with_reducible rfl) ?_
      refine aops_gskip (r := .tup []) (by simp only [kE, seval, vint, qC, f1, f0, g1, g2, w1, e10, e34, e92, decide_true, tN, k92, k1, decide_false] <;> with_reducible rfl) ?_
      refine g_end (by simp only [jG, jO, jN, seval, vint, qC, f1, f0, g1, g2, w1, e10, e34, e92, decide_true, tN, k92, k1, decide_false] <;> with_reducible rfl) (by decide) (by repeat (first | exact Fin.base _ | with_reducible apply Fin.keep | apply Fin.drop)) ?_
      repeat refine wS ?_
      refine wF rfl (by simp only [jN, seval, vint, qC, f1, f0, g1, g2, w1, e10, e34, e92, decide_true, tN, k92, k1, decide_false] <;> with_reducible rfl) ?_
      repeat refine wS ?_
      refine wK ?_
      refine wL [0, 4] (by simp only [jN, seval, vint, qC, f1, f0, g1, g2, w1, e10, e34, e92, decide_true, tN, k92, k1, decide_false] <;> with_reducible rfl) ?_
      repeat refine wS ?_
      refine eE (by simp only [kA, seval, y3, vint, qC, f1, f0, g1, g2, w1, e10, e34, e92, decide_true, tN, k92, k1, decide_false] <;> with_reducible rfl) (by decide) ?_
      try simp only [thenQ, blockQ]
      exact ⟨i + 1, _, by show s.length - (i + 1) < s.length - i; omega, ⟨rfl, rfl, trivial⟩, by simp only [jN, seval, vint, qC] <;> rfl, by omega, by omega, by rw [hq3, hd, Option.map_map]; congr 1; funext x; simp; omega⟩
   ·-- else t14
    have h10 : c = 10 := by simpa using bt14
    have hv : strT s = (1 + runL notNl (s.drop 1), 108) := by unfold strT; rw [hq3, hd, if_pos h10]; rfl
    repeat refine wS ?_
    refine awp_exit ?_
    simp only [thenQ, blockQ, reduceIte, Nat.reduceEqDiff, Nat.succ_ne_self, if_true, if_false]
    repeat refine wS ?_
    refine wR ?_
    refine eT 1 (by simp only [kA, seval, vint, qC, f1, f0, g1, g2, w1, e10, e34, e92, decide_true, tN] <;> with_reducible rfl) (by decide) ?_
    refine oP (by simp only [kC, seval, vint, qC, f1, f0, g1, g2, w1, e10, e34, e92, decide_true, tN] <;> with_reducible rfl) (by simp only [kC, seval]) (by decide) Tryzgo23 (hsc _) ?_
    refine e_end (by simp only [kA, seval, vint, qC, f1, f0, g1, g2, w1, e10, e34, e92, decide_true, tN] <;> with_reducible rfl) (by decide) ?_
    repeat refine wS ?_
    refine wT ⟨.inr rfl, _, (ares_two (.tmp 2) (.tmp 3) rfl (ares_tmp1 (by decide)) (ares_tmp1 (by decide))), ?_⟩
    simp only [jN, seval, vint, qC, hv]
    try rfl
  ·-- case
   have f1 : ((i : Int) < s.length) = False := by simp; omega
   have hv : strT s = (1 + runL notNl (s.drop 1), 108) := by unfold strT; rw [hq3, hi, List.drop_length]; rfl
   repeat refine wS ?_
   refine wR ?_
   refine aops_gstart ?_
   refine g_take 7 (by simp only [jG, jO, jN, seval, y3, y9, vint, qC, f1, decide_false] <;> with_reducible rfl) (by decide) ?_
   refine aops_gskip (r := .tup []) (by simp only [kE, seval, vint, qC, f1, decide_false] <;> with_reducible rfl) ?_
   refine aops_gskip (r := .tup []) (by simp only [kE, seval, vint, qC, f1, decide_false] <;> with_reducible rfl) ?_
   refine g_end (by simp only [jG, jO, jN, seval, vint, qC, f1, decide_false] <;> with_reducible rfl) (by decide) (by repeat (first | exact Fin.base _ | with_reducible apply Fin.keep | apply Fin.drop)) ?_
   repeat refine wS ?_
   refine wF rfl (by simp only [jN, seval, vint, qC, f1, decide_false] <;> with_reducible rfl) ?_
   repeat refine wS ?_
   refine awp_exit ?_
   simp only [thenQ, blockQ, reduceIte, Nat.reduceEqDiff, Nat.succ_ne_self, if_true, if_false]
   repeat refine wS ?_
   refine wR ?_
   refine eT 1 (by simp only [kA, seval, vint, qC, f1, decide_false] <;> with_reducible rfl) (by decide) ?_
   refine oP (by simp only [kC, seval, vint, qC, f1, decide_false] <;> with_reducible rfl) (by simp only [kC, seval]) (by decide) Tryzgo23 (hsc _) ?_
   refine e_end (by simp only [kA, seval, vint, qC, f1, decide_false] <;> with_reducible rfl) (by decide) ?_
   repeat refine wS ?_
   refine wT ⟨.inr rfl, _, (ares_two (.tmp 2) (.tmp 3) rfl (ares_tmp1 (by decide)) (ares_tmp1 (by decide))), ?_⟩
   simp only [jN, seval, vint, qC, hv]
   try rfl
end Go.Abs
namespace Go.Abs
open Go.Proofs
theorem pre0 {H H' : Heap} (hG : Pre G0 H) (h : H'[0]? = (H ++ List.replicate 0 AObj.unborn)[0]?) : Pre G0 H' := fun k o hk => by
 cases k with
 | zero => rw [h]; simpa using hG 0 o hk
 | succ k => simp [G0, GC] at hk
theorem hasPrefix_two (s : List UInt8) (a b : UInt8) : Lib.hasPrefix s [a, b] = decide (s.take 2 = [a, b]) := by
 unfold Lib.hasPrefix
 match s with
 | [] => rfl
 | [x] => simp [List.isPrefixOf]
 | x :: y :: r =>
  rw [Bool.eq_iff_iff]
  simp [List.isPrefixOf]
  constructor <;> rintro ⟨h1, h2⟩ <;> exact ⟨h1.symm, h2.symm⟩
theorem strT_first (c : UInt8) (r : List UInt8) (h : c = 34) : strT (c :: r) = match litG false r with | some k => (k + 1, 106) | none => (runL notNl (c :: r), 108) := by
 subst h
 unfold strT
 simp only [List.drop_succ_cons, List.drop_zero]
 cases q : litG false r with
 | none => simp [runL, notNl, Nat.add_comm]
 | some k => rfl
theorem first_c (c : UInt8) (r : List UInt8) (hs : (c :: r).length ≤ maxLen) : PG G0 Tryz.prog 19 [.str (c :: r)] (.tup [vint ((firstT (c :: r)).1 : Int), vint (firstT (c :: r)).2]) := by
 have em : maxLen = 9223372036854775807 := by decide
 obtain ⟨s, hse⟩ : ∃ s, c :: r = s := ⟨_, rfl⟩
 have g2 : s[0]? = some c := by rw [← hse]; rfl
 have g1 : (0 < (s.length : Int)) = True := by rw [← hse]; simp
 have hst := fun h => strT_first c r h
 have h1 : 1 ≤ s.length := by rw [← hse]; simp
 rw [hse] at hs hst ⊢
 have hb := firstT_bd (s := s) (by rw [← hse]; simp)
 have k1 := scan_c s hs isSpB 22 Tryzgo22 isSpace_c 0 (by omega)
 rw [Nat.zero_add, List.drop_zero] at k1
 have k2 := scan_c s hs notNl 25 Tryzgo25 first1 0 (by omega)
 rw [Nat.zero_add, List.drop_zero] at k2
 have k3 := scan_c s hs wordB 27 Tryzgo27 first2 0 (by omega)
 rw [Nat.zero_add, List.drop_zero] at k3
 have k4 := scan_c s hs isDigB 28 Tryzgo28 isDigit_c 0 (by omega)
 rw [Nat.zero_add, List.drop_zero] at k4
 have hp := hasPrefix_c s [47, 47]
 rw [hasPrefix_two] at hp
 have hss := scanStr_c s hs h1
 have ho : oneL = [40, 41, 123, 125, 91, 93, 60, 62, 44, 59, 58, 46, 61, 43, 45, 42, 47, 33, 38, 124] := by kernel_rfl
 have hib := indexByte_c [40, 41, 123, 125, 91, 93, 60, 62, 44, 59, 58, 46, 61, 43, 45, 42, 47, 33, 38, 124] c
 have hin := indexByte_nonneg [40, 41, 123, 125, 91, 93, 60, 62, 44, 59, 58, 46, 61, 43, 45, 42, 47, 33, 38, 124] c
 have hfd : firstT s = if isSpB c then (runL isSpB s, 101) else if s.take 2 = [47, 47] then (runL notNl s, 102) else if isLetB c then (if kwL.contains (s.take (runL wordB s)) then (runL wordB s, 104) else (runL wordB s, 103)) else if isDigB c then (runL isDigB s, 105) else if c = 34 then strT s else if s.length > 1 ∧ twoL.contains (s.take 2) = true then (2, 107) else if oneL.contains c then (1, 107) else (1, 108) := by
  by_cases h : c = 34
  ·rw [hst h, ← hse]; rfl
  ·rw [← hse]; unfold firstT; simp only [h, if_false]
 rw [ho] at hfd
 refine pg_of (N := 56) Tryz.func19 rfl rfl (by simp) (.tup _ (by simp [Bel.int])) fun H hG hb' => ?_
 repeat refine wS ?_
 refine eE (by simp only [kA, seval, vint, qC] <;> with_reducible rfl) (by decide) ?_
 repeat refine wS ?_
 refine eE (by simp only [kA, seval, y9, vint, qC, g1, g2] <;> with_reducible rfl) (by decide) ?_
 repeat refine wS ?_
 refine awp_block ?_
 repeat refine wS ?_
 refine wR ?_
 refine eT 1 (by simp only [kA, seval, vint, qC] <;> with_reducible rfl) (by decide) ?_
 refine oP (by simp only [kC, seval, vint, qC] <;> with_reducible rfl) (by simp only [kC, seval]) (by decide) Tryzgo22 (isSpace_c c _) ?_
 refine e_end (by simp only [kA, seval, vint, qC] <;> with_reducible rfl) (by decide) ?_
 repeat refine wS ?_
 refine wC rfl (by simp only [jN, seval, vint, qC] <;> with_reducible rfl) (fun bt8 => ?_) (fun bt8 => ?_)
 ·-- if t8
  rw [hfd, if_pos bt8]
  repeat refine wS ?_
  refine wR ?_
  refine eT 1 (by simp only [kA, seval, vint, qC] <;> with_reducible rfl) (by decide) ?_
  refine oP (by simp only [kC, seval, vint, qC] <;> with_reducible rfl) (by simp only [kC, seval]) (by decide) Tryzgo23 (k1 _) ?_
  refine e_end (by simp only [kA, seval, vint, qC] <;> with_reducible rfl) (by decide) ?_
  repeat refine wS ?_
  refine wT ⟨.inr rfl, _, _, (ares_two (.tmp 2) (.tmp 3) rfl (ares_tmp1 (by decide)) (ares_tmp1 (by decide))), ?_, (by first | exact (List.append_nil _).symm | rfl)⟩
  simp only [jN, seval, vint, qC]
  try rfl
 ·-- else t8
  rw [if_neg (by rw [bt8]; simp)] at hfd
  repeat refine wS ?_
  refine wR ?_
  refine eT 1 (by simp only [kA, seval, vint, qC] <;> with_reducible rfl) (by decide) ?_
  refine oP (by simp only [kC, seval, vint, qC] <;> with_reducible rfl) (by simp only [kC, seval]) (by decide) Tryzgo24 (hp _) ?_
  refine e_end (by simp only [kA, seval, vint, qC] <;> with_reducible rfl) (by decide) ?_
  repeat refine wS ?_
  refine wC rfl (by simp only [jN, seval, vint, qC] <;> with_reducible rfl) (fun bt13 => ?_) (fun bt13 => ?_)
  ·-- if t13
   rw [hfd, if_pos (of_decide_eq_true bt13)]
   repeat refine wS ?_
   refine wR ?_
   refine eT 1 (by simp only [kA, seval, vint, qC] <;> with_reducible rfl) (by decide) ?_
   refine oP (by simp only [kC, seval, vint, qC] <;> with_reducible rfl) (by simp only [kC, seval]) (by decide) Tryzgo23 (k2 _) ?_
   refine e_end (by simp only [kA, seval, vint, qC] <;> with_reducible rfl) (by decide) ?_
   repeat refine wS ?_
   refine wT ⟨.inr rfl, _, _, (ares_two (.tmp 2) (.tmp 3) rfl (ares_tmp1 (by decide)) (ares_tmp1 (by decide))), ?_, (by first | exact (List.append_nil _).symm | rfl)⟩
   simp only [jN, seval, vint, qC]
   try rfl
  ·-- else t13
   rw [if_neg (of_decide_eq_false bt13)] at hfd
   repeat refine wS ?_
   refine wR ?_
   refine eT 1 (by simp only [kA, seval, vint, qC] <;> with_reducible rfl) (by decide) ?_
   refine oP (by simp only [kC, seval, vint, qC] <;> with_reducible rfl) (by simp only [kC, seval]) (by decide) Tryzgo26 (isLetter_c c _) ?_
   refine e_end (by simp only [kA, seval, vint, qC] <;> with_reducible rfl) (by decide) ?_
   repeat refine wS ?_
   refine wC rfl (by simp only [jN, seval, vint, qC] <;> with_reducible rfl) (fun bt18 => ?_) (fun bt18 => ?_)
   ·-- if t18
    rw [if_pos bt18] at hfd
    obtain ⟨n, hn⟩ : ∃ n, runL wordB s = n := ⟨_, rfl⟩
    have hnl := runL_le wordB s
    rw [hn] at hnl k3 hfd
    have h3 : ((0 : Int) ≤ n ∧ (n : Int) ≤ s.length) = True := by simp; omega
    have h4 : (n ≤ s.length) = True := by simp; omega
    have h5 : ((n : Int) ≤ (s.length : Int)) = True := by simp; omega
    have h6 : ((0 : Int) ≤ (n : Int)) = True := by simp
    repeat refine wS ?_
    refine wR ?_
    refine eT 1 (by simp only [kA, seval, vint, qC] <;> with_reducible rfl) (by decide) ?_
    refine oP (by simp only [kC, seval, vint, qC] <;> with_reducible rfl) (by simp only [kC, seval]) (by decide) Tryzgo23 (k3 _) ?_
    refine e_end (by simp only [kA, seval, vint, qC] <;> with_reducible rfl) (by decide) ?_
    refine wL [0, 5] (by simp only [jN, seval, vint, qC] <;> with_reducible rfl) ?_
    repeat refine wS ?_
    refine awp_draw 0 (by kernel_rfl) ?_
    refine dops_keep (bm := [0, 0, 0, 6, 15]) ([0]) (by kernel_rfl) (by simp only [kC, seval, vint, qC, jS, h3, h4, h5, h6, tN, List.drop_zero] <;> with_reducible rfl) (by simp only [kC, seval]) (by decide) Tryzgo30 (fun H' hr => keywords_c H' (pre0 hG (hr 0 (by simp)))) (by simp only [jD, jO, jN, seval, vint, qC, jS, h3, h4, h5, h6, tN, List.drop_zero] <;> first | done | rfl) ?_
    refine d_take (bm := [0, 0, 0, 6, 15]) 3 (fresh := (H.length)) (by kernel_rfl) (by simp only [jD, jO, jN, seval, y9, vint, qC, jS, h3, h4, h5, h6, tN, List.drop_zero] <;> with_reducible rfl) (by decide) (by decide) ?_
    refine dops_keep (bm := [0, 0, 0, 6, 15]) ([]) (by kernel_rfl) (by simp only [kC, seval, vint, qC, jS, h3, h4, h5, h6, tN, List.drop_zero] <;> with_reducible rfl) (by simp only [kC, seval]) (by decide) Tryzgo29 (fun H' _ => contStr kwL (s.take n) (by decide) H') (by simp only [jD, jO, jN, seval, vint, qC, jS, h3, h4, h5, h6, tN, List.drop_zero] <;> first | done | rfl) ?_
    refine dops_nil ?_
    repeat refine wS ?_
    refine wC rfl (by simp only [jN, seval, vint, qC] <;> with_reducible rfl) (fun bt27 => ?_) (fun bt27 => ?_)
    ·-- if t27
     rw [if_pos bt27] at hfd
     rw [hfd]
     repeat refine wS ?_
     refine eE (by simp only [kA, seval, vint, qC] <;> with_reducible rfl) (by decide) ?_
     repeat refine wS ?_
     refine wT ⟨.inr rfl, _, _, (ares_two (.tmp 2) (.tmp 3) rfl (ares_tmp1 (by decide)) (ares_tmp1 (by decide))), ?_, (by first | exact (List.append_nil _).symm | rfl)⟩
     simp only [jN, seval, vint, qC]
     try rfl
    ·-- else t27
     rw [if_neg (by rw [bt27]; simp)] at hfd
     rw [hfd]
     repeat refine wS ?_
     refine wK ?_
     repeat refine wS ?_
     refine eE (by simp only [kA, seval, vint, qC] <;> with_reducible rfl) (by decide) ?_
     repeat refine wS ?_
     refine wT ⟨.inr rfl, _, _, (ares_two (.tmp 2) (.tmp 3) rfl (ares_tmp1 (by decide)) (ares_tmp1 (by decide))), ?_, (by first | exact (List.append_nil _).symm | rfl)⟩
     simp only [jN, seval, vint, qC]
     try rfl
   ·-- else t18
    rw [if_neg (by rw [bt18]; simp)] at hfd
    repeat refine wS ?_
    refine wR ?_
    refine eT 1 (by simp only [kA, seval, vint, qC] <;> with_reducible rfl) (by decide) ?_
    refine oP (by simp only [kC, seval, vint, qC] <;> with_reducible rfl) (by simp only [kC, seval]) (by decide) Tryzgo28 (isDigit_c c _) ?_
    refine e_end (by simp only [kA, seval, vint, qC] <;> with_reducible rfl) (by decide) ?_
    repeat refine wS ?_
    refine wC rfl (by simp only [jN, seval, vint, qC] <;> with_reducible rfl) (fun bt30 => ?_) (fun bt30 => ?_)
    ·-- if t30
     rw [hfd, if_pos bt30]
     refine wL [0] (by simp only [jN, seval, vint, qC] <;> with_reducible rfl) ?_
     repeat refine wS ?_
     refine wR ?_
     refine eT 1 (by simp only [kA, seval, vint, qC] <;> with_reducible rfl) (by decide) ?_
     refine oP (by simp only [kC, seval, vint, qC] <;> with_reducible rfl) (by simp only [kC, seval]) (by decide) Tryzgo23 (k4 _) ?_
     refine e_end (by simp only [kA, seval, vint, qC] <;> with_reducible rfl) (by decide) ?_
     repeat refine wS ?_
     refine wT ⟨.inr rfl, _, _, (ares_two (.tmp 2) (.tmp 3) rfl (ares_tmp1 (by decide)) (ares_tmp1 (by decide))), ?_, (by first | exact (List.append_nil _).symm | rfl)⟩
     simp only [jN, seval, vint, qC]
     try rfl
    ·-- else t30
     rw [if_neg (by rw [bt30]; simp)] at hfd
     have e34 : decide ((c.toNat : Int) = 34) = (c == 34) := u8_eq c 34 (by decide)
     refine wL [0, 4] (by simp only [jN, seval, vint, qC] <;> with_reducible rfl) ?_
     repeat refine wS ?_
     refine eE (by simp only [kA, seval, y5, vint, qC, e34] <;> with_reducible rfl) (by decide) ?_
     repeat refine wS ?_
     refine wC rfl (by simp only [jN, seval, vint, qC] <;> with_reducible rfl) (fun bt35 => ?_) (fun bt35 => ?_)
     ·-- if t35
      rw [hfd, if_pos (by simpa using bt35)]
      repeat refine wS ?_
      refine wR ?_
      refine eT 1 (by simp only [kA, seval, vint, qC] <;> with_reducible rfl) (by decide) ?_
      refine oP (by simp only [kC, seval, vint, qC] <;> with_reducible rfl) (by simp only [kC, seval]) (by decide) Tryzgo31 (hss _) ?_
      refine e_end (by simp only [kA, seval, vint, qC] <;> with_reducible rfl) (by decide) ?_
      repeat refine wS ?_
      refine wT ⟨.inr rfl, _, _, (ares_two (.tmp 2) (.tmp 3) rfl (ares_tmp1 (by decide)) (ares_tmp1 (by decide))), ?_, (by first | exact (List.append_nil _).symm | rfl)⟩
      simp only [jN, seval, vint, qC]
      try rfl
     ·-- else t35
      rw [if_neg (by simpa using bt35)] at hfd
      have h2 : s.length > 1 ∨ ¬ s.length > 1 := by omega
      rcases h2 with h2 | h2
      ·-- case
       have l2 : (1 < (s.length : Int)) = True := by simp; omega
       have l3 : (2 ≤ (s.length : Int)) = True := by simp; omega
       repeat refine wS ?_
       refine dp_draw (by kernel_rfl) ?_
       refine dp_take 4 (by simp only [jP, jO, jN, seval, y3, y9, vint, qC, l2, l3, decide_true, List.drop_zero] <;> with_reducible rfl) (by decide) ?_
       refine dp_keep (by simp only [kE, seval, vint, qC, l2, l3, decide_true, List.drop_zero] <;> with_reducible rfl) (by simp only [kE, seval, vint, qC, l2, l3, decide_true, List.drop_zero] <;> with_reducible rfl) (by simp only [kE, seval, vint, qC, l2, l3, decide_true, List.drop_zero]) (by decide) Tryzgo32 (fun hc => two_c _ hG) ?_
       refine dp_take 2 (by simp only [jP, jO, jN, seval, y9, jS, vint, qC, l2, l3, decide_true, List.drop_zero] <;> with_reducible rfl) (by decide) ?_
       refine dp_keep (by simp only [kE, seval, vint, qC, l2, l3, decide_true, List.drop_zero] <;> with_reducible rfl) (by simp only [kE, seval, vint, qC, l2, l3, decide_true, List.drop_zero] <;> with_reducible rfl) (by simp only [kE, seval, vint, qC, l2, l3, decide_true, List.drop_zero]) (by decide) Tryzgo29 (fun hc => contStr twoL (s.take 2) (by decide) _) ?_
       refine dp_end (by simp only [jP, jO, jN, seval, vint, qC, l2, l3, decide_true, List.drop_zero] <;> with_reducible rfl) (by decide) (by repeat (first | exact Fin.base _ | with_reducible apply Fin.keep | apply Fin.drop)) ?_
       repeat refine wS ?_
       refine wC rfl (by simp only [jN, seval, vint, qC, l2, l3, decide_true, List.drop_zero] <;> with_reducible rfl) (fun bt42 => ?_) (fun bt42 => ?_)
       ·-- if t42
        rw [hfd, if_pos ⟨h2, bt42⟩]
        repeat refine wS ?_
        refine eE (by simp only [kA, seval, vint, qC, l2, l3, decide_true, List.drop_zero] <;> with_reducible rfl) (by decide) ?_
        repeat refine wS ?_
        refine wT ⟨.inr rfl, _, _, (ares_two (.tmp 2) (.tmp 3) rfl (ares_tmp1 (by decide)) (ares_tmp1 (by decide))), ?_, (by first | exact (List.append_nil _).symm | rfl)⟩
        simp only [jN, seval, vint, qC]
        try rfl
       ·-- else t42
        rw [if_neg (by rw [bt42]; simp)] at hfd
        repeat refine wS ?_
        refine wR ?_
        refine eT 1 (by simp only [kA, seval, vint, qC, l2, l3, decide_true, List.drop_zero, hin] <;> with_reducible rfl) (by decide) ?_
        refine oP (by simp only [kC, seval, vint, qC, l2, l3, decide_true, List.drop_zero, hin] <;> with_reducible rfl) (by simp only [kC, seval]) (by decide) Tryzgo33 (hib _) ?_
        refine e_end (by simp only [kA, seval, y3, vint, qC, l2, l3, decide_true, List.drop_zero, hin] <;> with_reducible rfl) (by decide) ?_
        repeat refine wS ?_
        refine wC rfl (by simp only [jN, seval, vint, qC, l2, l3, decide_true, List.drop_zero] <;> with_reducible rfl) (fun bt52 => ?_) (fun bt52 => ?_)
        ·-- if t52
         rw [hfd, if_pos bt52]
         refine wL [] (by simp only [jN, seval, vint, qC, l2, l3, decide_true, List.drop_zero] <;> with_reducible rfl) ?_
         repeat refine wS ?_
         refine eE (by simp only [kA, seval, vint, qC, l2, l3, decide_true, List.drop_zero] <;> with_reducible rfl) (by decide) ?_
         repeat refine wS ?_
         refine wT ⟨.inr rfl, _, _, (ares_two (.tmp 2) (.tmp 3) rfl (ares_tmp1 (by decide)) (ares_tmp1 (by decide))), ?_, (by first | exact (List.append_nil _).symm | rfl)⟩
         simp only [jN, seval, vint, qC]
         try rfl
        ·-- else t52
         rw [hfd, if_neg (by rw [bt52]; simp)]
         repeat refine wS ?_
         refine wK ?_
         refine wL [] (by simp only [jN, seval, vint, qC, l2, l3, decide_true, List.drop_zero] <;> with_reducible rfl) ?_
         repeat refine wS ?_
         refine eE (by simp only [kA, seval, vint, qC, l2, l3, decide_true, List.drop_zero] <;> with_reducible rfl) (by decide) ?_
         repeat refine wS ?_
         refine wT ⟨.inr rfl, _, _, (ares_two (.tmp 2) (.tmp 3) rfl (ares_tmp1 (by decide)) (ares_tmp1 (by decide))), ?_, (by first | exact (List.append_nil _).symm | rfl)⟩
         simp only [jN, seval, vint, qC]
         try rfl
      ·-- case
       have l2 : (1 < (s.length : Int)) = False := by simp; omega
       rw [if_neg (fun q => h2 q.1)] at hfd
       repeat refine wS ?_
       refine dp_draw (by kernel_rfl) ?_
       refine dp_take 4 (by simp only [jP, jO, jN, seval, y3, y9, vint, qC, l2, decide_false] <;> with_reducible rfl) (by decide) ?_
       refine dp_skip (r := .tup []) (by simp only [kE, seval, vint, qC, l2, decide_false] <;> with_reducible rfl) ?_
       refine dp_skip (r := .tup []) (by simp only [kE, seval, vint, qC, l2, decide_false] <;> with_reducible rfl) ?_
       refine dp_skip (r := .tup []) (by simp only [kE, seval, vint, qC, l2, decide_false] <;> with_reducible rfl) ?_
       refine dp_skip (r := .tup []) (by simp only [kE, seval, vint, qC, l2, decide_false] <;> with_reducible rfl) ?_
       refine dp_end (by simp only [jP, jO, jN, seval, vint, qC, l2, decide_false] <;> with_reducible rfl) (by decide) (by repeat (first | exact Fin.base _ | with_reducible apply Fin.keep | apply Fin.drop)) ?_
       repeat refine wS ?_
       refine wF rfl (by simp only [jN, seval, vint, qC, l2, decide_false] <;> with_reducible rfl) ?_
       repeat refine wS ?_
       refine wR ?_
       refine eT 1 (by simp only [kA, seval, vint, qC, l2, decide_false, hin] <;> with_reducible rfl) (by decide) ?_
       refine oP (by simp only [kC, seval, vint, qC, l2, decide_false, hin] <;> with_reducible rfl) (by simp only [kC, seval]) (by decide) Tryzgo33 (hib _) ?_
       refine e_end (by simp only [kA, seval, y3, vint, qC, l2, decide_false, hin] <;> with_reducible rfl) (by decide) ?_
       repeat refine wS ?_
       refine wC rfl (by simp only [jN, seval, vint, qC, l2, decide_false] <;> with_reducible rfl) (fun bt52 => ?_) (fun bt52 => ?_)
       ·-- if t52
        rw [hfd, if_pos bt52]
        refine wL [] (by simp only [jN, seval, vint, qC, l2, decide_false] <;> with_reducible rfl) ?_
        repeat refine wS ?_
        refine eE (by simp only [kA, seval, vint, qC, l2, decide_false] <;> with_reducible rfl) (by decide) ?_
        repeat refine wS ?_
        refine wT ⟨.inr rfl, _, _, (ares_two (.tmp 2) (.tmp 3) rfl (ares_tmp1 (by decide)) (ares_tmp1 (by decide))), ?_, (by first | exact (List.append_nil _).symm | rfl)⟩
        simp only [jN, seval, vint, qC]
        try rfl
       ·-- else t52
        rw [hfd, if_neg (by rw [bt52]; simp)]
        repeat refine wS ?_
        refine wK ?_
        refine wL [] (by simp only [jN, seval, vint, qC, l2, decide_false] <;> with_reducible rfl) ?_
        repeat refine wS ?_
        refine eE (by simp only [kA, seval, vint, qC, l2, decide_false] <;> with_reducible rfl) (by decide) ?_
        repeat refine wS ?_
        refine wT ⟨.inr rfl, _, _, (ares_two (.tmp 2) (.tmp 3) rfl (ares_tmp1 (by decide)) (ares_tmp1 (by decide))), ?_, (by first | exact (List.append_nil _).symm | rfl)⟩
        simp only [jN, seval, vint, qC]
        try rfl
end Go.Abs
namespace Go.Abs
open Go.Proofs
def isIdT (s : List UInt8) : Bool := !(decide ((s.length : Int) = 0) || decide ((s.length : Int) > 30)) && (decide (((firstT s).1 : Int) = s.length) && decide ((firstT s).2 = 103))
theorem first_s {s : List UInt8} (hs : s.length ≤ maxLen) (h : s ≠ []) : PG G0 Tryz.prog 19 [.str s] (.tup [vint ((firstT s).1 : Int), vint (firstT s).2]) := by
 cases s with
 | nil => exact absurd rfl h
 | cons c r => exact first_c c r hs
theorem isId_c (s : List UInt8) (hs : s.length ≤ maxLen) : PG G0 Tryz.prog 14 [.str s] (.bool (isIdT s)) := by
 refine pg_of (N := 26) Tryz.func14 rfl rfl (by simp) (.bool _) fun H hG hb' => ?_
 repeat refine wS ?_
 refine eE (by simp only [kA, seval, vint, qC] <;> with_reducible rfl) (by decide) ?_
 repeat refine wS ?_
 refine g_eval (by simp only [jG, jO, jN, seval, y3, y9, vint, qC] <;> with_reducible rfl) (by decide) (by repeat (first | exact Fin.base _ | with_reducible apply Fin.keep | apply Fin.drop)) ?_
 repeat refine wS ?_
 refine wC rfl (by simp only [jN, seval, vint, qC] <;> with_reducible rfl) (fun bt12 => ?_) (fun bt12 => ?_)
 ·-- if t12
  have hv : isIdT s = false := by unfold isIdT; rw [bt12]; rfl
  repeat refine wS ?_
  refine eE (by simp only [kA, seval, vint, qC] <;> with_reducible rfl) (by decide) ?_
  repeat refine wS ?_
  refine wT ⟨.inr rfl, _, _, rfl, ?_, (by first | exact (List.append_nil _).symm | rfl)⟩
  simp only [jN, seval, vint, qC, hv]
  try rfl
 ·-- else t12
  have hv : isIdT s = (decide (((firstT s).1 : Int) = s.length) && decide ((firstT s).2 = 103)) := by unfold isIdT; rw [bt12]; rfl
  have hne : s ≠ [] := by rintro rfl; simp at bt12
  have hf := first_s hs hne
  repeat refine wS ?_
  refine wK ?_
  repeat refine wS ?_
  refine wR ?_
  refine eT 1 (by simp only [kA, seval, vint, qC] <;> with_reducible rfl) (by decide) ?_
  refine oP (by simp only [kC, seval, vint, qC] <;> with_reducible rfl) (by simp only [kC, seval]) (by decide) Tryzgo19 (hf _ hG) ?_
  refine e_end (by simp only [kA, seval, vint, qC] <;> with_reducible rfl) (by decide) ?_
  refine wL [0, 3, 4] (by simp only [jN, seval, vint, qC] <;> with_reducible rfl) ?_
  repeat refine wS ?_
  refine g_eval (by simp only [jG, jO, jN, seval, y3, y9, vint, qC] <;> with_reducible rfl) (by decide) (by repeat (first | exact Fin.base _ | with_reducible apply Fin.keep | apply Fin.drop)) ?_
  repeat refine wS ?_
  refine wT ⟨.inr rfl, _, _, rfl, ?_, (by first | exact (List.append_nil _).symm | rfl)⟩
  simp only [jN, seval, vint, qC, hv]
  try rfl
end Go.Abs
namespace Go.Abs
open Go.Proofs
theorem tokL_fuel : ∀ (n m : Nat) (s : List UInt8), s.length ≤ n → s.length ≤ m → tokL n s = tokL m s
 | 0, 0, s, _, _ => rfl
 | 0, m + 1, s, h, _ => by rw [List.length_eq_zero_iff.1 (by omega : s.length = 0)]; rfl
 | n + 1, 0, s, _, h => by rw [List.length_eq_zero_iff.1 (by omega : s.length = 0)]; rfl
 | n + 1, m + 1, s, h1, h2 => by
  unfold tokL
  by_cases h : s = []
  ·rw [if_pos h, if_pos h]
  ·rw [if_neg h, if_neg h]
   have hb := firstT_bd h
   rw [tokL_fuel n m _ (by rw [List.length_drop]; omega) (by rw [List.length_drop]; omega)]
def toks (s : List UInt8) : List Tk := tokL s.length s
theorem toks_nil : toks [] = [] := rfl
theorem toks_step {s : List UInt8} (h : s ≠ []) : toks s = ⟨(firstT s).2, s.take (firstT s).1⟩ :: toks (s.drop (firstT s).1) := by
 have hb := firstT_bd h
 unfold toks
 obtain ⟨n, hn⟩ : ∃ n, s.length = n + 1 := ⟨s.length - 1, by omega⟩
 conv => lhs; rw [hn]; unfold tokL
 rw [if_neg h, tokL_fuel n (s.drop (firstT s).1).length _ (by rw [List.length_drop]; omega) (Nat.le_refl _)]
theorem tokz_c (s : List UInt8) (hs : s.length ≤ maxLen) : PG G0 Tryz.prog 47 [.str s] (.tup [.slice ((if (s.length : Int) > 2000 then [] else toks s).map Tk.enc) .none, vint (if (s.length : Int) > 2000 then 2 else 0)]) := by
 have em : maxLen = 9223372036854775807 := by decide
 refine pg_of (N := 30) Tryz.func47 rfl rfl (by simp) (.tup _ (by simp [Bel.int, bel_Tk])) fun H hG hb' => ?_
 repeat refine wS ?_
 refine eE (by simp only [kA, seval, vint, qC] <;> with_reducible rfl) (by decide) ?_
 repeat refine wS ?_
 refine eE (by simp only [kA, seval, y3, y9, vint, qC] <;> with_reducible rfl) (by decide) ?_
 repeat refine wS ?_
 refine wC rfl (by simp only [jN, seval, vint, qC] <;> with_reducible rfl) (fun bt9 => ?_) (fun bt9 => ?_)
 ·-- if t9
  rw [if_pos (of_decide_eq_true bt9), if_pos (of_decide_eq_true bt9)]
  repeat refine wS ?_
  refine eE (by simp only [kA, seval, vint, qC] <;> with_reducible rfl) (by decide) ?_
  repeat refine wS ?_
  refine wT ⟨.inr rfl, _, _, (ares_two (.tmp 2) (.tmp 3) rfl (ares_tmp1 (by decide)) (ares_tmp1 (by decide))), ?_, (by first | exact (List.append_nil _).symm | rfl)⟩
  simp only [jN, seval, vint, qC]
  try rfl
 ·-- else t9
  rw [if_neg (of_decide_eq_false bt9), if_neg (of_decide_eq_false bt9)]
  have hl2 := of_decide_eq_false bt9
  repeat refine wS ?_
  refine wK ?_
  repeat refine wS ?_
  refine eE (by simp only [kA, seval, vint, qC] <;> with_reducible rfl) (by decide) ?_
  repeat refine wS ?_
  refine awp_retok 4 2 (es := []) (by simp only [kC, seval, vint, qC] <;> rfl) ?_
  refine awp_block ?_
  refine awp_loopS (σ := List Tk × List UInt8) (fun (q : List Tk × List UInt8) => [(0, .str q.2), (4, .slice (q.1.map Tk.enc) (.tok H.length))]) (H) (fun (q : List Tk × List UInt8) => [.buf q.1.length 2]) (fun (q : List Tk × List UInt8) => q.2.length) (fun (q : List Tk × List UInt8) => q.1.length + q.2.length ≤ s.length ∧ toks s = q.1 ++ toks q.2) (([], s)) ([]) ⟨(by first | rfl | (simp only [jN, seval, vint, qC] <;> first | done | with_reducible rfl)), (by first | rfl | (simp only [jN, seval, vint, qC] <;> first | done | with_reducible rfl)), trivial⟩ (by first | rfl | (simp only [jN, seval, vint, qC] <;> first | done | with_reducible rfl)) (⟨by simp, by simp⟩) (fun _ _ => by first | exact Nat.zero_le _ | (simp only [List.length_append]; omega)) ?_ ?_
  ·exact fun q hg => ⟨by refine hbel_app' hb' (by simp) ?_; exact HBel.cons trivial (hbel_nil _), by repeat (first | exact BelL.nil | refine BelL.cons (by first | exact bel_Tk_tok _ (by simp only [List.length_append, List.length_cons, List.length_nil]; omega) | exact Tk.bel _ _ | exact bel_nil0 _ | exact bel_nil1 _ | exact Bel.int _ _ | exact Bel.bool _ | exact Bel.str _ | exact Bel.nilp | exact Bel.nilfn | exact Bel.optr _ _ (by simp) | exact bel_nil0 _ | exact bel_nil1 _ | exact bel_fn0 _ _ | assumption) ?_)⟩
  ·intro q hg
   obtain ⟨ts, r⟩ := q
   obtain ⟨hq1, hq2⟩ := hg
   simp only at hq1 hq2
   repeat refine wS ?_
   refine eE (by simp only [kA, seval, y3, y9, vint, qC] <;> with_reducible rfl) (by decide) ?_
   repeat refine wS ?_
   refine wC rfl (by simp only [jN, seval, vint, qC] <;> with_reducible rfl) (fun bt12 => ?_) (fun bt12 => ?_)
   ·-- if t12
    have hne : r ≠ [] := by rintro rfl; simp at bt12
    have hb := firstT_bd hne
    have hst := toks_step hne
    have hf := first_s (s := r) (by omega) hne
    obtain ⟨n, hn⟩ : ∃ n, (firstT r).1 = n := ⟨_, rfl⟩
    obtain ⟨kd, hkd⟩ : ∃ kd, (firstT r).2 = kd := ⟨_, rfl⟩
    rw [hn] at hb hf hst
    rw [hkd] at hf hst
    have h3 : ((0 : Int) ≤ n ∧ (n : Int) ≤ r.length) = True := by simp; omega
    have h4 : (n ≤ r.length) = True := by simp; omega
    have hap := app_Tk (us := ts) (u := ⟨kd, r.take n⟩) (id := H.length) (tl := .full) (by omega)
    repeat refine wS ?_
    refine wK ?_
    repeat refine wS ?_
    refine awp_block ?_
    repeat refine wS ?_
    refine wR ?_
    refine eT 1 (by simp only [kA, seval, vint, qC] <;> with_reducible rfl) (by decide) ?_
    refine oP (by simp only [kC, seval, vint, qC] <;> with_reducible rfl) (by simp only [kC, seval]) (by decide) Tryzgo19 (hf _ (hG.app _)) ?_
    refine e_end (by simp only [kA, seval, vint, qC] <;> with_reducible rfl) (by decide) ?_
    repeat refine wS ?_
    refine eE (by simp only [kA, seval, y9, y81, y103, vint, qC, jS, h3, h4, hap, tN, List.drop_zero] <;> with_reducible rfl) (by decide) ?_
    refine wL [0, 4, 5] (by simp only [jN, seval, vint, qC] <;> with_reducible rfl) ?_
    repeat refine wS ?_
    refine eE (by simp only [kA, seval, y9, vint, qC, jS, h3, h4, tN, List.take_length] <;> with_reducible rfl) (by decide) ?_
    try simp only [thenQ, blockQ]
    exact ⟨(ts ++ [⟨kd, r.take n⟩], r.drop n), _, by show (r.drop n).length < r.length; rw [List.length_drop]; omega, ⟨rfl, rfl, trivial⟩, by simp only [jN, seval, vint, qC, List.length_append, List.length_singleton] <;> rfl, by simp only [List.length_append, List.length_singleton, List.length_drop]; omega, by rw [hq2, hst]; simp⟩
   ·-- else t12
    have hr : r = [] := by cases r with | nil => rfl | cons a l => simp at bt12 <;> omega
    have hv : toks s = ts := by rw [hq2, hr, toks_nil, List.append_nil]
    rw [hv]
    repeat refine wS ?_
    refine awp_exit ?_
    simp only [thenQ, blockQ, reduceIte, Nat.reduceEqDiff, Nat.succ_ne_self, if_true, if_false]
    repeat refine wS ?_
    refine eE (by simp only [kA, seval, vint, qC] <;> with_reducible rfl) (by decide) ?_
    repeat refine wS ?_
    refine wT ⟨.inr rfl, _, _, (ares_two (.tmp 2) (.tmp 3) rfl (ares_tmp1 (by decide)) (ares_tmp1 (by decide))), ?_, (by first | exact (List.append_nil _).symm | rfl)⟩
    simp only [jN, seval, vint, qC]
    try rfl
end Go.Abs
namespace Go.Abs
open Go.Proofs
def topM (s : PS) : Option St := match s.stack with
 | [f] => some ⟨f.kind, [], f.kids⟩
 | _ => none
theorem topM_inv {s : PS} {t : St} (h : topM s = some t) : ∃ f, s.stack = [f] ∧ t = ⟨f.kind, [], f.kids⟩ := by
 unfold topM at h
 split at h
 ·rename_i f hst; injection h with h; exact ⟨f, hst, h.symm⟩
 ·cases h
def parseT (tk : List Tk) (k n : Nat) : Option St := ((loopM (fun s1 => !eofM tk s1) (fun s1 => (recN tk n k .item s1).bind fun s2 => some s2) n ⟨0, [⟨1, []⟩], false⟩).bind fun s1 => (skipM tk s1).bind topM)
theorem parse_c (src : List UInt8) (k n : Nat) {t : St} {H0 : Heap} (hs : src.length ≤ maxLen) (h2000 : (src.length : Int) ≤ 2000) (hlim : (toks src).length ≤ lim) (hG : Pre G0 H0) (hm : parseT (toks src) k n = some t) : ACalls Tryz.prog 34 [.str src] H0 fun r H' => r = .tup [t.enc, vint 0] ∧ Fr [] [] H0 H' := by
 have hk := tokz_c src hs
 rw [if_neg (by omega), if_neg (by omega)] at hk
 generalize toks src = tk at hk hm hlim
 unfold parseT at hm
 refine aF (N := 34) Tryz.func34 rfl rfl (by simp) fun hb' => ?_
 repeat refine wS ?_
 refine eE (by simp only [kA, seval, y66, vint, qC, zStf, zStd] <;> with_reducible rfl) (by decide) ?_
 repeat refine wS ?_
 refine wR ?_
 refine eT 1 (by simp only [kA, seval, vint, qC, zStf, zStd] <;> with_reducible rfl) (by decide) ?_
 refine oP (by simp only [kC, seval, vint, qC, zStf, zStd] <;> with_reducible rfl) (by simp only [kC, seval]) (by decide) Tryzgo47 (hk _ (fun k o h => getL (hG k o h) _)) ?_
 refine e_end (by simp only [kA, seval, vint, qC, zStf, zStd] <;> with_reducible rfl) (by decide) ?_
 repeat refine wS ?_
 refine eE (by simp only [kA, seval, y24, vint, qC, zStf, zStd] <;> with_reducible rfl) (by decide) ?_
 repeat refine wS ?_
 refine wF rfl (by simp only [jN, seval, vint, qC, zStf, zStd] <;> with_reducible rfl) ?_
 repeat refine wS ?_
 refine wK ?_
 repeat refine wS ?_
 refine wR ?_
 refine eT 2 (by simp only [kA, seval, y66, vint, qC, zStf, zStd] <;> with_reducible rfl) (by decide) ?_
 refine aops_bsK (t := 64) (n := 1) (es := [.agg [.int .i64 1, .str [], .slice [] .full]]) (by simp only [kC, seval, vint, qC]) rfl (by decide) Tryzte64 Tryztz66 rfl (by decide) (by decide) (by decide) (by simp only [kC, seval, vint, qC, abuildSK, y66, zStf, zStd] <;> first | done | rfl) ?_
 have ea1 : ∀ (a b : AObj), (H0 ++ [a]) ++ [b] = H0 ++ [a, b] := fun a b => by simp
 have ea2 : ∀ a : AObj, List.length (H0 ++ [a]) = H0.length + 1 := fun a => by simp
 rw [ea1, ea2]
 refine e_end (by simp only [kA, seval, y86, vint, qC, zStf, zStd] <;> with_reducible rfl) (by decide) ?_
 repeat refine wS ?_
 have p0 : PSt tk (H0.length + 2) ⟨0, [⟨1, []⟩], false⟩ [H0.length + 2, H0.length + 1] (H0 ++ [.row [.int .i64 0, .str [], .slice [] .full], .row (flatE [.agg [.int .i64 1, .str [], .slice [] .full]]), .row [.slice (tk.map Tk.enc) .none, .int .i64 ((0 : Nat) : Int), .msl (H0.length + 1) 0 1 1]]) := ⟨H0.length + 1, 1, [.int .i64 1, .str [], .slice [] .full], [], [], by simp, by simp [flatE, PV.cells], rfl, by decide, StkOk.cons (f := ⟨1, []⟩) .nil .nil (fun i hi => by cases hi), rfl, by omega, by simp, by simp, by simp, hlim⟩
 have hG0 := hG 0 _ rfl
 have k0a := getL hG0 [.row [.int .i64 0, .str [], .slice [] .full], .row (flatE [.agg [.int .i64 1, .str [], .slice [] .full]]), .row [.slice (tk.map Tk.enc) .none, .int .i64 ((0 : Nat) : Int), .msl (H0.length + 1) 0 1 1]]
 have hH0 := lG hG0
 have n0a : 0 ∉ [H0.length + 2, H0.length + 1] := by simp
 have k0b : (H0 ++ [.row [.int .i64 0, .str [], .slice [] .full], .row (flatE [.agg [.int .i64 1, .str [], .slice [] .full]]), .row [.slice (tk.map Tk.enc) .none, .int .i64 ((0 : Nat) : Int), .msl (H0.length + 1) 0 1 1]])[H0.length]? = some (.row [.int .i64 0, .str [], .slice [] .full]) := by simp
 have n0b : H0.length ∉ [H0.length + 2, H0.length + 1] := by simp
 have f0 := Fr.refl [H0.length + 2, H0.length + 1] (H0 ++ [.row [.int .i64 0, .str [], .slice [] .full], .row (flatE [.agg [.int .i64 1, .str [], .slice [] .full]]), .row [.slice (tk.map Tk.enc) .none, .int .i64 ((0 : Nat) : Int), .msl (H0.length + 1) 0 1 1]])
 obtain ⟨sL, eL, hmA⟩ := oB hm
 obtain ⟨s9, e9, hmB⟩ := oB hmA
 have hl := lim_le p0.len
 refine awp_block ?_
 refine awp_loopX (σ := Nat × PS × List Nat) (fun (z : Nat × PS × List Nat) => [(2, .optr H0.length 0), (6, .optr (H0.length + 2) 0)]) (fun (z : Nat × PS × List Nat) =>  fun H1 => loopM (fun s1 => !eofM tk s1) (fun s1 => (recN tk n k .item s1).bind fun s2 => some s2) z.1 z.2.1 = some sL ∧ PSt tk (H0.length + 2) z.2.1 z.2.2 H1 ∧ Fr [H0.length + 2, H0.length + 1] z.2.2 (H0 ++ [.row [.int .i64 0, .str [], .slice [] .full], .row (flatE [.agg [.int .i64 1, .str [], .slice [] .full]]), .row [.slice (tk.map Tk.enc) .none, .int .i64 ((0 : Nat) : Int), .msl (H0.length + 1) 0 1 1]]) H1 ∧ (H1[0]? = some gO ∧ 0 ∉ z.2.2) ∧ (H1[H0.length]? = some (.row [.int .i64 0, .str [], .slice [] .full]) ∧ H0.length ∉ z.2.2)) (fun (z : Nat × PS × List Nat) => z.1) ((n, ⟨0, [⟨1, []⟩], false⟩, [H0.length + 2, H0.length + 1])) ⟨(by first | rfl | (simp only [jN, seval, vint, qC, zStf, zStd] <;> first | done | with_reducible rfl)), (by first | rfl | (simp only [jN, seval, vint, qC, zStf, zStd] <;> first | done | with_reducible rfl)), trivial⟩ (⟨eL, p0, f0, ⟨k0a, n0a⟩, ⟨k0b, n0b⟩⟩) ?_
 intro z H1 hg
 obtain ⟨k1, s1, F1⟩ := z
 obtain ⟨hk1, p1, f1, ⟨k1a, n1a⟩, ⟨k1b, n1b⟩⟩ := hg
 simp only at hk1 p1 f1 k1a n1a k1b n1b
 obtain ⟨st1, r1⟩ := p1.row
 have q1 := getL r1
 have b1a := getL k1a
 have b1b := getL k1b
 cases k1 with
 | zero => cases hk1
 | succ k1 => ?_
 unfold loopM at hk1
 repeat refine wS ?_
 refine wR ?_
 refine eT 1 (by simp only [kA, seval, vint, qC, zStf, zStd, r1, q1, k1a, b1a, k1b, b1b] <;> with_reducible rfl) (by decide) ?_
 refine oP (by simp only [kC, seval, vint, qC, zStf, zStd, r1, q1, k1a, b1a, k1b, b1b] <;> with_reducible rfl) (by simp only [kC, seval]) (by decide) Tryzgo48 (atEOF_c (by first | exact r1 | exact q1 _) hl p1.pos) ?_
 refine e_end (by simp only [kA, seval, vint, qC, zStf, zStd, r1, q1, k1a, b1a, k1b, b1b] <;> with_reducible rfl) (by decide) ?_
 repeat refine wS ?_
 refine wC rfl (by simp only [jN, seval, vint, qC, zStf, zStd, r1, q1, k1a, b1a, k1b, b1b] <;> with_reducible rfl) (fun bt23 => ?_) (fun bt23 => ?_)
 ·-- if t23
  rw [ifT bt23] at hk1
  obtain ⟨sB, hm1, hk1⟩ := oB hk1
  obtain ⟨s2, e2, hm1⟩ := oB hm1
  injection hm1 with hm1
  subst hm1
  repeat refine wS ?_
  refine wK ?_
  repeat refine wS ?_
  refine awp_block ?_
  repeat refine wS ?_
  refine wR ?_
  refine eT 1 (by simp only [kA, seval, vint, qC, zStf, zStd, r1, q1, k1a, b1a, k1b, b1b] <;> with_reducible rfl) (by decide) ?_
  refine oC (by simp only [kC, seval, vint, qC, zStf, zStd, r1, q1, k1a, b1a, k1b, b1b] <;> with_reducible rfl) (by simp only [kC, seval]) (by decide) Tryzgo49 ((by exact FG.ap0 (ihs tk (H0.length + 2) n k .item) e2 p1 ⟨k1a, n1a⟩)) ?_
  rintro _ H2 ⟨rfl, F2, p2, g2⟩
  have f2 := f1.trans g2
  obtain ⟨k2a, n2a⟩ := (by first | exact g2.get k1a n1a | exact g2.get (b1a _) n1a)
  have b2a := getL k2a
  obtain ⟨k2b, n2b⟩ := (by first | exact g2.get k1b n1b | exact g2.get (b1b _) n1b)
  have b2b := getL k2b
  refine oN ?_
  try simp only [thenQ, blockQ]
  exact ⟨(k1, _, F2), Nat.lt_succ_self _, ⟨rfl, rfl, trivial⟩, hk1, p2, f2, ⟨k2a, n2a⟩, ⟨k2b, n2b⟩⟩
 ·-- else t23
  rw [ifF bt23] at hk1
  injection hk1 with hk1
  subst hk1
  repeat refine wS ?_
  refine awp_exit ?_
  simp only [thenQ, blockQ, reduceIte, Nat.reduceEqDiff, Nat.succ_ne_self, if_true, if_false]
  repeat refine wS ?_
  refine wR ?_
  refine eT 1 (by simp only [kA, seval, vint, qC, zStf, zStd, r1, q1, k1a, b1a, k1b, b1b] <;> with_reducible rfl) (by decide) ?_
  refine oC (by simp only [kC, seval, vint, qC, zStf, zStd, r1, q1, k1a, b1a, k1b, b1b] <;> with_reducible rfl) (by simp only [kC, seval]) (by decide) Tryzgo50 ((skipTrivia_c tk (H0.length + 2)).ap0 e9 p1) ?_
  rintro _ H2 ⟨rfl, F2, p2, g2⟩
  have f2 := f1.trans g2
  obtain ⟨k2a, n2a⟩ := (by first | exact g2.get k1a n1a | exact g2.get (b1a _) n1a)
  have b2a := getL k2a
  obtain ⟨k2b, n2b⟩ := (by first | exact g2.get k1b n1b | exact g2.get (b1b _) n1b)
  have b2b := getL k2b
  refine oN ?_
  repeat refine wS ?_
  obtain ⟨⟨fk, fks⟩, hst, rfl⟩ := topM_inv hmB
  obtain ⟨is, c, R, ids, cid, cv, cells0, rest, sp⟩ := p2.split hst
  have h1 := sp.h1
  have h2 := sp.h2
  have htop := sp.top
  have hch := sp.ch
  have heF := sp.eF
  simp only at hch
  have h4 := sp.h4
  have h3 := sp.h3
  simp only [List.length_nil, Nat.zero_mul, List.drop_zero, Nat.zero_add] at htop h1 h4
  have gD1 : (R.take 3).map PV.drop1 = [.int .i64 fk, .str [], cv.drop1] := by rw [htop]; rfl
  have gL3 : (R.take 3).length = 3 := by rw [htop]; rfl
  have b3 : (3 ≤ R.length) = True := by simp; omega
  have hcl := hch.cell.1
  have hdd := hch.cell.2.1
  have hd0 := hch.cell.2.2
  have hne1 : (H0.length = H2.length) = False := by have := lG k2b; simp; omega
  refine eE (by simp only [kA, seval, y64, y66, y86, vint, qC, zStf, zStd, r1, q1, k1a, b1a, k1b, b1b, k2a, k2b, h1, h2, gD1, gL3, b3, hcl, hdd, hd0, k2b, hne1] <;> with_reducible rfl) (by decide) ?_
  repeat refine wS ?_
  have hb1 := lG k2b
  have hs1 : ∀ o, (H2.set H0.length o)[H0.length]? = some o := fun o => List.getElem?_set_self hb1
  have hold : ∀ i, i < H0.length → H2[i]? = H0[i]? := fun i hi => by
   rw [f2.same i (by simp; omega) (by simp; omega), List.getElem?_append_left hi]
  cases hch with
  | nil =>
   refine wT ⟨.inr rfl, _, (ares_two (.cell 2 66) (.tmp 3) rfl (ares_cell1 Tryzti66 (by decide) (by simp only [jL, jN, seval, vint, qC, hs1] <;> with_reducible rfl)) (ares_tmp1 (by decide))), ?_⟩
   refine ⟨?_, by have := f2.len; simp at this ⊢; omega, fun i hi _ => ?_, fun i hi => by cases hi⟩
   ·rw [St.enc_eq]; rfl
   ·rw [List.getElem?_set_ne (by omega)]; exact hold i hi
  | @msl ic c' kids rest' hH hcl' hmx =>
   obtain ⟨es, e1, e2, e3⟩ := chunk3 (c' - fks.length) rest' (by omega)
   have hicF : ic ∈ F2 := by rw [heF]; simp
   have hicn : ic ≠ H0.length := fun e => n2b (e ▸ hicF)
   have hic2 : H0.length ≤ ic := by
    rcases Nat.lt_or_ge ic H0.length with h | h
    ·have := f2.ids ic hicF (by simp; omega); simp at this; omega
    ·exact h
   have hrow : ((H2.set H0.length (.row [.int .i64 fk, .str [], .msl ic 0 fks.length c'])))[ic]? = some (.row (flatE (fks.map St.enc ++ es))) := by rw [List.getElem?_set_ne (Ne.symm hicn), hH, flatE_append, e2]
   refine awp_frz1R ic fks.length 3 H0.length (fks.map St.enc ++ es) hrow (by simp) (fun e he => ?_) (List.getElem?_set_self hb1) (Ne.symm hicn) (cs' := [.int .i64 fk, .str [], .slice (fks.map St.enc) .none]) rfl (fun i h1 h2 => ?_) ?_
   ·rcases List.mem_append.1 he with he | he
    ·obtain ⟨v, _, rfl⟩ := List.mem_map.1 he; exact v.enc_len
    ·exact e3 e he
   ·match i, h1, h2 with
    | 0, _, _ => exact .same _
    | 1, _, _ => exact .same _
    | 2, _, _ =>
     have : (fks.map St.enc ++ es).take fks.length = fks.map St.enc := by rw [List.take_append_of_le_length (by simp), List.take_of_length_le (by simp)]
     have h := Fz.msl (id := ic) (k := fks.length) (es := fks.map St.enc ++ es) c' (by omega)
     rw [this] at h
     exact h
   have hbx : (((H2.set H0.length (.row [.int .i64 fk, .str [], .msl ic 0 fks.length c'])).set ic dead).set H0.length (.row [.int .i64 fk, .str [], .slice (fks.map St.enc) .none]))[H0.length]? = some (.row [.int .i64 fk, .str [], .slice (fks.map St.enc) .none]) := List.getElem?_set_self (by simpa using hb1)
   refine wT ⟨.inr rfl, _, (ares_two (.cell 2 66) (.tmp 3) rfl (ares_cell1 Tryzti66 (by decide) (by simp only [jL, jN, seval, vint, qC, hbx] <;> with_reducible rfl)) (ares_tmp1 (by decide))), ?_⟩
   refine ⟨?_, by have := f2.len; simp at this ⊢; omega, fun i hi _ => ?_, fun i hi => by cases hi⟩
   ·rw [St.enc_eq]; rfl
   ·rw [List.getElem?_set_ne (by omega), List.getElem?_set_ne (by omega), List.getElem?_set_ne (by omega)]; exact hold i hi
end Go.Abs
namespace Go.Abs
inductive Nd where
  | mk (kind value : Int) (text : List UInt8) (st en ns : Int) (kids : List Nd)
def Nd.kind : Nd → Int | .mk k _ _ _ _ _ _ => k
def Nd.value : Nd → Int | .mk _ v _ _ _ _ _ => v
def Nd.text : Nd → List UInt8 | .mk _ _ t _ _ _ _ => t
def Nd.st : Nd → Int | .mk _ _ _ s _ _ _ => s
def Nd.en : Nd → Int | .mk _ _ _ _ e _ _ => e
def Nd.ns : Nd → Int | .mk _ _ _ _ _ n _ => n
def Nd.kids : Nd → List Nd | .mk _ _ _ _ _ _ us => us
mutual
def Nd.enc : Nd → PV
  | .mk k v t s e n us => .agg [.int .i64 k, .int .i64 v, .str t, .int .i64 s, .int .i64 e, .int .i64 n, .slice (ndEncs us) .none]
def ndEncs : List Nd → List PV
  | [] => []
  | t :: ts => t.enc :: ndEncs ts
end
theorem ndEncs_eq (ts : List Nd) : ndEncs ts = ts.map Nd.enc := by
  induction ts with
  | nil => rfl
  | cons t ts ih => simp [ndEncs, ih]
theorem Nd.enc_eq (t : Nd) : t.enc = .agg [.int .i64 t.kind, .int .i64 t.value, .str t.text, .int .i64 t.st, .int .i64 t.en, .int .i64 t.ns, .slice (t.kids.map Nd.enc) .none] := by
  cases t; simp [Nd.enc, ndEncs_eq, Nd.kind, Nd.value, Nd.text, Nd.st, Nd.en, Nd.ns, Nd.kids]
theorem Nd.enc_cells (t : Nd) : t.enc.cells = [.int .i64 t.kind, .int .i64 t.value, .str t.text, .int .i64 t.st, .int .i64 t.en, .int .i64 t.ns, .slice (t.kids.map Nd.enc) .none] := by
  rw [Nd.enc_eq]; rfl
theorem Nd.enc_drop1 (t : Nd) : t.enc.drop1 = t.enc := by rw [Nd.enc_eq]; rfl
theorem Nd.enc_len (t : Nd) : t.enc.cells.length = 7 := by rw [Nd.enc_cells]; rfl
theorem Nd.enc_junk (t : Nd) : t.enc.isJunk = false := by rw [Nd.enc_eq]; rfl
mutual
theorem Nd.bel (n : Nat) : ∀ t : Nd, Bel n t.enc
  | .mk k v t s e m us => .agg _ (by
      intro c hc
      simp only [List.mem_cons, List.not_mem_nil, or_false] at hc
      rcases hc with rfl | rfl | rfl | rfl | rfl | rfl | rfl
      · exact .int _ _
      · exact .int _ _
      · exact .str _
      · exact .int _ _
      · exact .int _ _
      · exact .int _ _
      · exact .slice _ _ (ndBelCs n us) (fun id h => by cases h))
theorem ndBelCs (n : Nat) : ∀ ts : List Nd, ∀ e ∈ ndEncs ts, ∀ c ∈ e.cells, Bel n c
  | [] => fun e he => by simp [ndEncs] at he
  | t :: ts => fun e he c hc => by
    simp only [ndEncs, List.mem_cons] at he
    rcases he with rfl | he
    · have h := Nd.bel n t
      rw [Nd.enc_eq] at h hc
      cases h with
      | agg _ q => exact q c hc
    · exact ndBelCs n ts e he c hc
end
theorem bel_Nd (n : Nat) (ts : List Nd) : Bel n (.slice (ts.map Nd.enc) .none) := by
  rw [← ndEncs_eq]; exact .slice _ _ (ndBelCs n ts) (fun id h => by cases h)
mutual
def Nd.size : Nd → Nat
  | .mk _ _ _ _ _ _ us => 1 + ndSizes us
def ndSizes : List Nd → Nat
  | [] => 0
  | t :: ts => t.size + ndSizes ts
end
theorem nd_size_mem {u : Nd} : ∀ {us : List Nd}, u ∈ us → u.size ≤ ndSizes us
  | [], h => by cases h
  | v :: us, h => by
    simp only [ndSizes]
    rcases List.mem_cons.1 h with rfl | h
    · omega
    · have := nd_size_mem h; omega
theorem Nd.size_kid {t u : Nd} (h : u ∈ t.kids) : u.size < t.size := by
  cases t with
  | mk k v tx s e n us => have := nd_size_mem (us := us) h; simp only [Nd.size]; omega
inductive Nd.W : Nd → Prop
  | mk {k v t s e n us} (hl : us.length * 80 ≤ 2 ^ 47) (h : ∀ u ∈ us, Nd.W u) : Nd.W (.mk k v t s e n us)
theorem Nd.W.len {t : Nd} (h : t.W) : t.kids.length * 80 ≤ 2 ^ 47 := by cases h with | mk h _ => exact h
mutual
def Nd.eqb : Nd → Nd → Bool
  | .mk k v t s e n us, .mk k' v' t' s' e' n' vs => decide (k = k') && decide (v = v') && decide (t = t') && decide (s = s') && decide (e = e') && decide (n = n') && ndEqbs us vs
def ndEqbs : List Nd → List Nd → Bool
  | [], [] => true
  | u :: us, v :: vs => u.eqb v && ndEqbs us vs
  | _, _ => false
end
mutual
theorem Nd.eqb_iff : ∀ a b : Nd, a.eqb b = true ↔ a = b
  | .mk k v t s e n us, .mk k' v' t' s' e' n' vs => by
    simp only [Nd.eqb, Bool.and_eq_true, decide_eq_true_eq, Nd.mk.injEq, ndEqbs_iff us vs, and_assoc]
theorem ndEqbs_iff : ∀ us vs : List Nd, ndEqbs us vs = true ↔ us = vs
  | [], [] => by simp [ndEqbs]
  | [], v :: vs => by simp [ndEqbs]
  | u :: us, [] => by simp [ndEqbs]
  | u :: us, v :: vs => by simp [ndEqbs, Nd.eqb_iff u v, ndEqbs_iff us vs]
end
theorem Nd.eta (t : Nd) : Nd.mk t.kind t.value t.text t.st t.en t.ns t.kids = t := by cases t; rfl
theorem NdS : (∀ t : Nd, t.enc.cells = [.int .i64 t.kind, .int .i64 t.value, .str t.text, .int .i64 t.st, .int .i64 t.en, .int .i64 t.ns, .slice (t.kids.map Nd.enc) .none]) ∧ (∀ t : Nd, t.enc.isJunk = false) ∧ (∀ t : Nd, t.enc.drop1 = t.enc) ∧ (∀ t : Nd, t.enc.drop0 = t.enc) ∧
    (∀ (t : Nd) (b : Nat), t.enc.fits ⟨true, 7, b⟩ = true) :=
  ⟨Nd.enc_cells, Nd.enc_junk, Nd.enc_drop1, fun t => by cases t; rfl, fun t b => by rw [Nd.enc_eq]; rfl⟩
theorem Nd.fold (k v : Int) (t : List UInt8) (s e n : Int) (us : List Nd) : PV.agg [.int .i64 k, .int .i64 v, .str t, .int .i64 s, .int .i64 e, .int .i64 n, .slice (us.map Nd.enc) .none] = (Nd.mk k v t s e n us).enc := (Nd.enc_eq (Nd.mk k v t s e n us)).symm
theorem NdF : (∀ (k v : Int) (t : List UInt8) (s e n : Int) (us : List Nd), PV.agg [.int .i64 k, .int .i64 v, .str t, .int .i64 s, .int .i64 e, .int .i64 n, .slice (us.map Nd.enc) .none] = (Nd.mk k v t s e n us).enc) ∧
    (∀ (k v : Int) (t : List UInt8) (s e n : Int), PV.agg [.int .i64 k, .int .i64 v, .str t, .int .i64 s, .int .i64 e, .int .i64 n, .slice [] .none] = (Nd.mk k v t s e n []).enc) ∧
    (∀ (k v : Int) (t : List UInt8) (s e n : Int) (a : Nd), PV.agg [.int .i64 k, .int .i64 v, .str t, .int .i64 s, .int .i64 e, .int .i64 n, .slice [a.enc] .none] = (Nd.mk k v t s e n [a]).enc) ∧
    (∀ (k v : Int) (t : List UInt8) (s e n : Int) (a b : Nd), PV.agg [.int .i64 k, .int .i64 v, .str t, .int .i64 s, .int .i64 e, .int .i64 n, .slice [a.enc, b.enc] .none] = (Nd.mk k v t s e n [a, b]).enc) ∧
    (∀ t : Nd, Nd.mk t.kind t.value t.text t.st t.en t.ns t.kids = t) ∧ (∀ (k v : Int) (t : List UInt8) (s e n : Int) (us : List Nd), (Nd.mk k v t s e n us).kind = k) ∧ (∀ (k v : Int) (t : List UInt8) (s e n : Int) (us : List Nd), (Nd.mk k v t s e n us).value = v) ∧
    (∀ (k v : Int) (t : List UInt8) (s e n : Int) (us : List Nd), (Nd.mk k v t s e n us).text = t) ∧ (∀ (k v : Int) (t : List UInt8) (s e n : Int) (us : List Nd), (Nd.mk k v t s e n us).st = s) ∧ (∀ (k v : Int) (t : List UInt8) (s e n : Int) (us : List Nd), (Nd.mk k v t s e n us).en = e) ∧
    (∀ (k v : Int) (t : List UInt8) (s e n : Int) (us : List Nd), (Nd.mk k v t s e n us).ns = n) ∧ (∀ (k v : Int) (t : List UInt8) (s e n : Int) (us : List Nd), (Nd.mk k v t s e n us).kids = us) :=
  ⟨Nd.fold, fun k v t s e n => Nd.fold k v t s e n [], fun k v t s e n a => Nd.fold k v t s e n [a], fun k v t s e n a b => Nd.fold k v t s e n [a, b], Nd.eta, fun _ _ _ _ _ _ _ => rfl, fun _ _ _ _ _ _ _ => rfl, fun _ _ _ _ _ _ _ => rfl, fun _ _ _ _ _ _ _ => rfl, fun _ _ _ _ _ _ _ => rfl, fun _ _ _ _ _ _ _ => rfl, fun _ _ _ _ _ _ _ => rfl⟩
end Go.Abs
