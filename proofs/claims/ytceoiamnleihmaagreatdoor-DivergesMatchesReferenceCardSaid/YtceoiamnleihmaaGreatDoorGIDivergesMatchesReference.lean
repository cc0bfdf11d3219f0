/- Part 9 of a proof of the law DivergesMatchesReference: Go data as trees, the walks of the functions that the law reaches, the plain laws. -/
import Derived.Test.YtceoiamnleihmaaGreatDoorGHDivergesMatchesReference
import Derived.KernelRfl
import GoSem.ClaimJoined
import Derived.ChangeArms
import Derived.Carry
import Derived.SizedLaws
import Derived.JoinedCond
import Derived.Deep.CondSized
import Derived.OpenShut
import Derived.JoinedOf
set_option linter.unusedVariables false
set_option linter.unusedSimpArgs false
set_option maxRecDepth 4000
namespace Go.Abs
open Go.Proofs

/-- The reference answers the same. -/
def Nv (k : Nat) : Prop := ∀ n : Nd, n.size ≤ k → n.W → PC Tryz.prog 8 [n.enc] (.bool (divK k n))
theorem Nv.kid {k : Nat} (h : Nv k) {n : Nd} (hn : n.size ≤ k + 1) (hw : n.W) {i : Nat} (hi : i < n.kids.length) : PC Tryz.prog 8 [(kidD n i).enc] (.bool (divK k (kidD n i))) :=
 h _ (by have := Nd.size_kid (kidD_mem hi); omega) (hw.kid (kidD_mem hi))

theorem nch_c {k : Nat} (hk : Nv k) {n : Nd} (hn : n.size ≤ k + 1) (hw : n.W) (i : Nat) (hib : i ≤ 4611686018427387904) {H : Heap} {a : Nat} (ha : H[a]? = some (.row [.int .i64 n.kind, .int .i64 n.value, .str n.text, .int .i64 n.st, .int .i64 n.en, .int .i64 n.ns, .slice (n.kids.map Nd.enc) .none])) : ACalls Tryz.prog 12 [vint (i : Int), .optr a 0] H fun r H' => r = .bool (decide (i < n.kids.length) && divK k (kidD n i)) ∧ H' = H := by
 have hW := hw.len
 have hlm : n.kids.length ≤ 4611686018427387904 := by omega
 have qa := getL ha
 have g0 : decide ((i : Int) ≥ 0) = true := decide_eq_true (by omega)
 refine keeps_of (N := 21) Tryz.func12 rfl rfl (by simp) (.bool _) fun hb' => ?_
 repeat refine wS ?_
 refine eE (by simp only [kA, seval, vint, NdS, NdF, ha, qa, g0] <;> with_reducible rfl) (by decide) ?_
 rcases Nat.lt_or_ge i n.kids.length with h | h
 ·-- case
  have g1 : decide ((i : Int) < (n.kids.length : Int)) = true := decide_eq_true (by omega)
  have g2 : decide (i < n.kids.length) = true := decide_eq_true h
  have gi : ((0 : Int) ≤ ((i : Nat) : Int) ∧ ((i : Nat) : Int) < (n.kids.length : Int)) = True := by simp; omega
  have ge := kid_at (n := n) (i := i) h
  repeat refine wS ?_
  refine wR ?_
  refine eT 15 (by simp only [kA, seval, y3, y22, y24, vint, NdS, NdF, ha, qa, g0, g1, gi, ge, tN, Nd.enc_len] <;> with_reducible rfl) (by decide) ?_
  refine oP (by simp only [kC, seval, vint, NdS, NdF, ha, qa, g0, g1, gi, ge, tN, Nd.enc_len] <;> with_reducible rfl) (by simp only [kC, seval]) (by decide) Tryzgo8 (hk.kid hn hw h _) ?_
  refine e_end (by simp only [kA, seval, vint, NdS, NdF, ha, qa, g0, g1, gi, ge, tN, Nd.enc_len] <;> with_reducible rfl) (by decide) ?_
  repeat refine wS ?_
  refine wT ⟨.inr rfl, _, _, rfl, ?_, (by first | exact (List.append_nil _).symm | rfl)⟩
  rw [g2]; rfl
 ·-- case
  have g1 : decide ((i : Int) < (n.kids.length : Int)) = false := decide_eq_false (by omega)
  have g2 : decide (i < n.kids.length) = false := decide_eq_false (by omega)
  repeat refine wS ?_
  refine eE (by simp only [kA, seval, y3, y22, y24, vint, NdS, NdF, ha, qa, g0, g1] <;> with_reducible rfl) (by decide) ?_
  repeat refine wS ?_
  refine wT ⟨.inr rfl, _, _, rfl, ?_, (by first | exact (List.append_nil _).symm | rfl)⟩
  rw [g2]; rfl

theorem nev_k {k : Nat} (hk : Nv k) : Nv (k + 1) := by
 intro n hn hw H
 have hW := hw.len
 have hlm : n.kids.length ≤ 4611686018427387904 := by omega
 have gw1 : IntKind.i64.wrap ((n.kids.length : Int) - 1) = (n.kids.length : Int) - 1 := wrap_id (by omega) (by omega)
 refine keeps_of (N := 81) Tryz.func8 rfl rfl (by simp) (.bool _) fun hb' => ?_
 repeat refine wS ?_
 refine eE (by simp only [kA, seval, y24, vint, NdS, NdF, gw1] <;> with_reducible rfl) (by decide) ?_
 repeat refine wS ?_
 refine eE (by simp only [kA, seval, vint, NdS, NdF, gw1] <;> with_reducible rfl) (by decide) ?_
 repeat refine wS ?_
 refine eE (by simp only [kA, seval, y3, y22, y24, vint, NdS, NdF, gw1] <;> with_reducible rfl) (by decide) ?_
 repeat refine wS ?_
 refine eE (by simp only [kA, seval, y3, y24, vint, NdS, NdF, gw1] <;> with_reducible rfl) (by decide) ?_
 repeat refine wS ?_
 refine awp_block ?_
 repeat refine wS ?_
 refine eE (by simp only [kA, seval, y3, vint, NdS, NdF, gw1] <;> with_reducible rfl) (by decide) ?_
 repeat refine wS ?_
 refine wC rfl (by simp only [jN, seval, vint, NdS, NdF, gw1] <;> with_reducible rfl) (fun bt14 => ?_) (fun bt14 => ?_)
 ·-- if t14
  have hx : divK (k + 1) n = true := by rw [divK]; rw [if_pos bt14]
  repeat refine wS ?_
  refine eE (by simp only [kA, seval, vint, NdS, NdF, gw1] <;> with_reducible rfl) (by decide) ?_
  repeat refine wS ?_
  refine wT ⟨.inr rfl, _, _, rfl, ?_, (by first | exact (List.append_nil _).symm | rfl)⟩
  rw [hx]; rfl
 ·-- else t14
  repeat refine wS ?_
  refine eE (by simp only [kA, seval, y3, vint, NdS, NdF, gw1] <;> with_reducible rfl) (by decide) ?_
  repeat refine wS ?_
  refine wC rfl (by simp only [jN, seval, vint, NdS, NdF, gw1] <;> with_reducible rfl) (fun bt16 => ?_) (fun bt16 => ?_)
  ·-- if t16
   have hx : divK (k + 1) n = (decide (0 < n.kids.length) && divK k (kidD n 0)) := by rw [divK]; rw [if_neg (by rw [bt14]; simp)]; rw [if_pos bt16]
   refine wL [3] (by simp only [jN, seval, vint, NdS, NdF, gw1] <;> with_reducible rfl) ?_
   repeat refine wS ?_
   refine wR ?_
   refine eT 1 (by simp only [kA, seval, vint, NdS, NdF, gw1] <;> with_reducible rfl) (by decide) ?_
   refine oP (by simp only [kC, seval, vint, NdS, NdF, gw1] <;> with_reducible rfl) (by simp only [kC, seval]) (by decide) Tryzgo12 (nch_c hk hn hw (0) (by omega) (a := H.length) (by simp)) ?_
   refine e_end (by simp only [kA, seval, vint, NdS, NdF, gw1] <;> with_reducible rfl) (by decide) ?_
   repeat refine wS ?_
   refine wT ⟨.inr rfl, _, _, rfl, ?_, (by first | exact (List.append_nil _).symm | rfl)⟩
   rw [hx]; rfl
  ·-- else t16
   refine wL [1, 3, 4, 13] (by simp only [jN, seval, vint, NdS, NdF, gw1] <;> with_reducible rfl) ?_
   repeat refine wS ?_
   refine eE (by simp only [kA, seval, y3, vint, NdS, NdF, gw1] <;> with_reducible rfl) (by decide) ?_
   repeat refine wS ?_
   refine wC rfl (by simp only [jN, seval, vint, NdS, NdF, gw1] <;> with_reducible rfl) (fun bt20 => ?_) (fun bt20 => ?_)
   ·-- if t20
    have hx : divK (k + 1) n = ((decide (1 < n.kids.length) && decide ((kidD n (n.kids.length - 1)).kind = 0)) && divK k (kidD n (n.kids.length - 2))) := by rw [divK]; rw [if_neg (by rw [bt14]; simp)]; rw [if_neg (by rw [bt16]; simp)]; rw [if_pos bt20]
    rcases (show n.kids.length ≤ 1 ∨ (1 < n.kids.length ∧ (kidD n (n.kids.length - 1)).kind = 0) ∨ (1 < n.kids.length ∧ (kidD n (n.kids.length - 1)).kind ≠ 0) by omega) with h | ⟨h, h2⟩ | ⟨h, h2⟩
    ·-- case
     have gl : decide (1 < n.kids.length) = false := decide_eq_false (by omega)
     have gm : decide ((n.kids.length : Int) - 1 ≥ 1) = false := decide_eq_false (by omega)
     repeat refine wS ?_
     refine eE (by simp only [kA, seval, y3, y22, y24, vint, NdS, NdF, gw1, gm] <;> with_reducible rfl) (by decide) ?_
     repeat refine wS ?_
     refine wT ⟨.inr rfl, _, _, rfl, ?_, (by first | exact (List.append_nil _).symm | rfl)⟩
     rw [hx, gl]; rfl
    ·-- case
     have w1 : (n.kids.length : Int) - 1 = ((n.kids.length - 1 : Nat) : Int) := by omega
     have w2 : IntKind.i64.wrap (((n.kids.length - 1 : Nat) : Int) - 1) = ((n.kids.length - 2 : Nat) : Int) := by rw [wrap_id (by omega) (by omega)]; omega
     have gi : ((0 : Int) ≤ ((n.kids.length - 1 : Nat) : Int) ∧ ((n.kids.length - 1 : Nat) : Int) < (n.kids.length : Int)) = True := by simp; omega
     have ge := kid_at (n := n) (i := n.kids.length - 1) (by omega)
     have gm : decide (((n.kids.length - 1 : Nat) : Int) ≥ 1) = true := decide_eq_true (by omega)
     have gl : decide (1 < n.kids.length) = true := decide_eq_true (by omega)
     have gq : decide (n.kids.length - 2 < n.kids.length) = true := decide_eq_true (by omega)
     have gz : decide ((kidD n (n.kids.length - 1)).kind = 0) = true := decide_eq_true h2
     repeat refine wS ?_
     refine wR ?_
     refine eT 15 (by simp only [kA, seval, y3, y22, y24, vint, NdS, NdF, gw1, gm, w1, w2, gi, ge, tN, Nd.enc_len, gz] <;> with_reducible rfl) (by decide) ?_
     refine oP (by simp only [kC, seval, vint, NdS, NdF, gw1, gm, w1, w2, gi, ge, tN, Nd.enc_len, gz] <;> with_reducible rfl) (by simp only [kC, seval]) (by decide) Tryzgo12 (nch_c hk hn hw (n.kids.length - 2) (by omega) (a := H.length) (by simp)) ?_
     refine e_end (by simp only [kA, seval, vint, NdS, NdF, gw1, gm, w1, w2, gi, ge, tN, Nd.enc_len, gz] <;> with_reducible rfl) (by decide) ?_
     repeat refine wS ?_
     refine wT ⟨.inr rfl, _, _, rfl, ?_, (by first | exact (List.append_nil _).symm | rfl)⟩
     rw [hx, gl, gz]; show PV.bool (decide (n.kids.length - 2 < n.kids.length) && _) = _; rw [gq]; rfl
    ·-- case
     have w1 : (n.kids.length : Int) - 1 = ((n.kids.length - 1 : Nat) : Int) := by omega
     have w2 : IntKind.i64.wrap (((n.kids.length - 1 : Nat) : Int) - 1) = ((n.kids.length - 2 : Nat) : Int) := by rw [wrap_id (by omega) (by omega)]; omega
     have gi : ((0 : Int) ≤ ((n.kids.length - 1 : Nat) : Int) ∧ ((n.kids.length - 1 : Nat) : Int) < (n.kids.length : Int)) = True := by simp; omega
     have ge := kid_at (n := n) (i := n.kids.length - 1) (by omega)
     have gm : decide (((n.kids.length - 1 : Nat) : Int) ≥ 1) = true := decide_eq_true (by omega)
     have gl : decide (1 < n.kids.length) = true := decide_eq_true (by omega)
     have gq : decide (n.kids.length - 2 < n.kids.length) = true := decide_eq_true (by omega)
     have gz : decide ((kidD n (n.kids.length - 1)).kind = 0) = false := decide_eq_false h2
     repeat refine wS ?_
     refine eE (by simp only [kA, seval, y3, y22, y24, vint, NdS, NdF, gw1, gm, w1, w2, gi, ge, tN, Nd.enc_len, gz] <;> with_reducible rfl) (by decide) ?_
     repeat refine wS ?_
     refine wT ⟨.inr rfl, _, _, rfl, ?_, (by first | exact (List.append_nil _).symm | rfl)⟩
     rw [hx, gl, gz]; rfl
   ·-- else t20
    repeat refine wS ?_
    refine eE (by simp only [kA, seval, y3, vint, NdS, NdF, gw1] <;> with_reducible rfl) (by decide) ?_
    repeat refine wS ?_
    refine wC rfl (by simp only [jN, seval, vint, NdS, NdF, gw1] <;> with_reducible rfl) (fun bt39 => ?_) (fun bt39 => ?_)
    ·-- if t39
     have hx : divK (k + 1) n = ((decide (2 < n.kids.length) && divK k (kidD n 1)) && divK k (kidD n 2)) := by rw [divK]; rw [if_neg (by rw [bt14]; simp)]; rw [if_neg (by rw [bt16]; simp)]; rw [if_neg (by rw [bt20]; simp)]; rw [if_pos bt39]
     rcases (show (1 < n.kids.length ∧ divK k (kidD n 1) = true) ∨ n.kids.length ≤ 1 ∨ divK k (kidD n 1) = false by cases divK k (kidD n 1) <;> simp <;> omega) with ⟨h, h2⟩ | h | h
     ·-- case
      have g1 : decide (1 < n.kids.length) = true := decide_eq_true h
      repeat refine wS ?_
      refine wR ?_
      refine eT 1 (by simp only [kA, seval, vint, NdS, NdF, gw1, g1, h2, Bool.and_self] <;> with_reducible rfl) (by decide) ?_
      refine oP (by simp only [kC, seval, vint, NdS, NdF, gw1, g1, h2, Bool.and_self] <;> with_reducible rfl) (by simp only [kC, seval]) (by decide) Tryzgo12 (nch_c hk hn hw (1) (by omega) (a := H.length) (by simp)) ?_
      refine eT 2 (by simp only [kA, seval, vint, NdS, NdF, gw1, g1, h2, Bool.and_self] <;> with_reducible rfl) (by decide) ?_
      refine oP (by simp only [kC, seval, vint, NdS, NdF, gw1, g1, h2, Bool.and_self] <;> with_reducible rfl) (by simp only [kC, seval]) (by decide) Tryzgo12 (nch_c hk hn hw (2) (by omega) (a := H.length) (by simp)) ?_
      refine e_end (by simp only [kA, seval, vint, NdS, NdF, gw1, g1, h2, Bool.and_self] <;> with_reducible rfl) (by decide) ?_
      repeat refine wS ?_
      refine wT ⟨.inr rfl, _, _, rfl, ?_, (by first | exact (List.append_nil _).symm | rfl)⟩
      rw [hx, h2, Bool.and_true]; rfl
     ·-- case
      have g1 : decide (1 < n.kids.length) = false := decide_eq_false (by omega)
      have g2 : decide (2 < n.kids.length) = false := decide_eq_false (by omega)
      repeat refine wS ?_
      refine wR ?_
      refine eT 1 (by simp only [kA, seval, vint, NdS, NdF, gw1, g1, Bool.false_and] <;> with_reducible rfl) (by decide) ?_
      refine oP (by simp only [kC, seval, vint, NdS, NdF, gw1, g1, Bool.false_and] <;> with_reducible rfl) (by simp only [kC, seval]) (by decide) Tryzgo12 (nch_c hk hn hw (1) (by omega) (a := H.length) (by simp)) ?_
      refine e_end (by simp only [kA, seval, vint, NdS, NdF, gw1, g1, Bool.false_and] <;> with_reducible rfl) (by decide) ?_
      repeat refine wS ?_
      refine wT ⟨.inr rfl, _, _, rfl, ?_, (by first | exact (List.append_nil _).symm | rfl)⟩
      rw [hx, g2]; rfl
     ·-- case
      repeat refine wS ?_
      refine wR ?_
      refine eT 1 (by simp only [kA, seval, vint, NdS, NdF, gw1, h, Bool.and_false] <;> with_reducible rfl) (by decide) ?_
      refine oP (by simp only [kC, seval, vint, NdS, NdF, gw1, h, Bool.and_false] <;> with_reducible rfl) (by simp only [kC, seval]) (by decide) Tryzgo12 (nch_c hk hn hw (1) (by omega) (a := H.length) (by simp)) ?_
      refine e_end (by simp only [kA, seval, vint, NdS, NdF, gw1, h, Bool.and_false] <;> with_reducible rfl) (by decide) ?_
      repeat refine wS ?_
      refine wT ⟨.inr rfl, _, _, rfl, ?_, (by first | exact (List.append_nil _).symm | rfl)⟩
      rw [hx, h, Bool.and_false]; rfl
    ·-- else t39
     repeat refine wS ?_
     refine eE (by simp only [kA, seval, y3, vint, NdS, NdF, gw1] <;> with_reducible rfl) (by decide) ?_
     repeat refine wS ?_
     refine wC rfl (by simp only [jN, seval, vint, NdS, NdF, gw1] <;> with_reducible rfl) (fun bt47 => ?_) (fun bt47 => ?_)
     ·-- if t47
      have hx : divK (k + 1) n = (decide (1 < n.kids.length) && !(n.kids.drop 1).any (armK (divK k))) := by rw [divK]; rw [if_neg (by rw [bt14]; simp)]; rw [if_neg (by rw [bt16]; simp)]; rw [if_neg (by rw [bt20]; simp)]; rw [if_neg (by rw [bt39]; simp)]; rw [if_pos bt47]
      have hla : (n.kids.drop 1).length ≤ maxLen := by have := hw.lenMax; simp; omega
      rcases Nat.lt_or_ge 0 n.kids.length with h | h
      ·-- case
       have gmn : min (1 : Int) (n.kids.length : Int) = 1 := by omega
       have gd : ((n.kids.map Nd.enc).take n.kids.length).drop 1 = (n.kids.drop 1).map Nd.enc := by rw [List.take_of_length_le (by simp)]; exact List.map_drop.symm
       have ga : (∀ (e : PV), e ∈ List.map Nd.enc n.kids → e.cells.length = 7) = True := eq_true fun e he => by obtain ⟨v, _, rfl⟩ := List.mem_map.1 he; exact v.enc_len
       have gs : ((0 : Int) ≤ 1 ∧ (1 : Int) ≤ (n.kids.length : Int)) = True := eq_true (by omega)
       have gs2 : ((1 : Int) ≤ (n.kids.length : Int)) = True := eq_true (by omega)
       repeat refine wS ?_
       refine eE (by simp only [kA, seval, y3, y22, y24, vint, NdS, NdF, gw1, gmn, gd, ga, gs, gs2, Int.toNat_one] <;> with_reducible rfl) (by decide) ?_
       repeat refine wS ?_
       refine awp_forS (σ := Unit) ((n.kids.drop 1).length) (fun (s : Unit) => [(4, vint ((n.kids.length : Int) - 1)), (55, .slice ((n.kids.drop 1).map Nd.enc) .none)]) [4, 55] (H) (fun (s : Unit) => [.row [.int .i64 n.kind, .int .i64 n.value, .str n.text, .int .i64 n.st, .int .i64 n.en, .int .i64 n.ns, .slice (n.kids.map Nd.enc) .none]]) (fun (i : Nat) (s : Unit) => ((n.kids.drop 1).take i).any (armK (divK k)) = false) (()) ([]) rfl rfl rfl rfl rfl rfl rfl rfl rfl (by decide) (by decide) (by decide) (fun _ => rfl) (hla) ⟨(by first | rfl | (simp only [jN, seval, vint, NdS, NdF, gw1, gmn, gd, ga, gs, gs2, Int.toNat_one] <;> first | done | with_reducible rfl)), (by first | rfl | (simp only [jN, seval, vint, NdS, NdF, gw1, gmn, gd, ga, gs, gs2, Int.toNat_one] <;> first | done | with_reducible rfl)), (by first | rfl | (simp only [jN, seval, vint, NdS, NdF, gw1, gmn, gd, ga, gs, gs2, Int.toNat_one] <;> first | done | with_reducible rfl)), (by first | rfl | (simp only [jN, seval, vint, NdS, NdF, gw1, gmn, gd, ga, gs, gs2, Int.toNat_one] <;> first | done | with_reducible rfl)), trivial⟩ (by first | rfl | (simp only [jN, seval, vint, NdS, NdF, gw1, gmn, gd, ga, gs, gs2, Int.toNat_one] <;> first | done | with_reducible rfl)) (by simp) (fun _ _ _ => by first | exact Nat.zero_le _ | (simp only [List.length_append]; omega)) ?_ ?_ ?_
       ·exact fun i s hg => ⟨by first | exact hbel_nil _ | (simp only [List.append_nil]; assumption) | (refine hbel_app' hb' (by simp) ?_; repeat (first | exact hbel_nil _ | exact trivial | exact obel_row_nil _ | (refine HBel.cons ?_ ?_) | (refine obel_row_cons (by first | exact Md.bel _ _ | exact Dg.bel _ _ | exact bel_Md _ _ | exact bel_Dg _ _ | exact Tk.bel _ _ | exact St.bel _ _ | exact Nd.bel _ _ | exact bel_strs0 _ _ | exact bel_St _ _ | exact bel_ints0 _ _ | exact bel_Nd _ _ | exact bel_nil0 _ | exact bel_nil1 _ | exact Bel.optr _ _ (by first | (simp; done) | (simp; omega)) | exact Bel.int _ _ | exact Bel.bool _ | exact Bel.str _ | exact Bel.nilp | exact Bel.nilfn | exact Bel.optr _ _ (by simp) | exact bel_nil0 _ | exact bel_nil1 _ | exact bel_fn0 _ _ | assumption) ?_))), by repeat (first | exact BelL.nil | refine BelL.cons (by first | exact Md.bel _ _ | exact Dg.bel _ _ | exact bel_Md _ _ | exact bel_Dg _ _ | exact Tk.bel _ _ | exact St.bel _ _ | exact Nd.bel _ _ | exact bel_strs0 _ _ | exact bel_St _ _ | exact bel_ints0 _ _ | exact bel_Nd _ _ | exact bel_nil0 _ | exact bel_nil1 _ | exact Bel.optr _ _ (by first | (simp; done) | (simp; omega)) | exact Bel.int _ _ | exact Bel.bool _ | exact Bel.str _ | exact Bel.nilp | exact Bel.nilfn | exact Bel.optr _ _ (by simp) | exact bel_nil0 _ | exact bel_nil1 _ | exact bel_fn0 _ _ | assumption) ?_)⟩
       ·intro i s hi hg
        have gi := ix_nat hi
        have ge := get_enc Nd.enc hi
        obtain ⟨a, hae⟩ : ∃ a, (n.kids.drop 1)[i] = a := ⟨_, rfl⟩
        rw [hae] at ge
        repeat refine wS ?_
        refine eE (by simp only [kA, seval, y22, y24, vint, NdS, NdF, gw1, gmn, gd, ga, gs, gs2, Int.toNat_one, gi, ge, tN] <;> with_reducible rfl) (by decide) ?_
        rcases (show a.kind ≠ 36 ∨ (a.kind = 36 ∧ a.kids.length < 2) ∨ (a.kind = 36 ∧ 2 ≤ a.kids.length ∧ divK k (kidD a 1) = true) ∨ (a.kind = 36 ∧ 2 ≤ a.kids.length ∧ divK k (kidD a 1) = false) by cases divK k (kidD a 1) <;> simp <;> omega) with h1 | ⟨h1, h2⟩ | ⟨h1, h2, h3⟩ | ⟨h1, h2, h3⟩
        ·-- case
         have hsz : a.size < n.size := by rw [← hae]; exact Nd.size_kid (List.mem_of_mem_drop (List.getElem_mem hi))
         have haw : a.W := by rw [← hae]; exact hw.kid (List.mem_of_mem_drop (List.getElem_mem hi))
         have hal := haw.len
         have g1 : decide (a.kind = 36) = false := decide_eq_false h1
         repeat refine wS ?_
         refine eE (by simp only [kA, seval, y3, y22, y24, vint, NdS, NdF, gw1, gmn, gd, ga, gs, gs2, Int.toNat_one, gi, ge, tN, g1, Bool.not_false] <;> with_reducible rfl) (by decide) ?_
         repeat refine wS ?_
         refine awp_cond_true rfl (by simp only [jN, seval, vint, NdS, NdF, gw1, gmn, gd, ga, gs, gs2, Int.toNat_one, gi, ge, tN, g1, Bool.not_false] <;> with_reducible rfl) ?_
         refine wL [4, 55, 56, 57] (by simp only [jN, seval, vint, NdS, NdF, gw1, gmn, gd, ga, gs, gs2, Int.toNat_one, gi, ge, tN, g1, Bool.not_false] <;> with_reducible rfl) ?_
         repeat refine wS ?_
         refine eE (by simp only [kA, seval, vint, NdS, NdF, gw1, gmn, gd, ga, gs, gs2, Int.toNat_one, gi, ge, tN, g1, Bool.not_false] <;> with_reducible rfl) (by decide) ?_
         repeat refine wS ?_
         refine wT ⟨.inr rfl, _, _, rfl, ?_, (by first | exact (List.append_nil _).symm | rfl)⟩
         have hbad : (n.kids.drop 1).any (armK (divK k)) = true := List.any_eq_true.2 ⟨_, List.getElem_mem hi, by rw [hae]; unfold armK; rw [g1]; rfl⟩
         rw [hx, hbad, Bool.not_true, Bool.and_false]; rfl
        ·-- case
         have hsz : a.size < n.size := by rw [← hae]; exact Nd.size_kid (List.mem_of_mem_drop (List.getElem_mem hi))
         have haw : a.W := by rw [← hae]; exact hw.kid (List.mem_of_mem_drop (List.getElem_mem hi))
         have hal := haw.len
         have g1 : decide (a.kind = 36) = true := decide_eq_true h1
         have g2 : decide ((a.kids.length : Int) < 2) = true := decide_eq_true (by omega)
         have g3 : decide (a.kids.length < 2) = true := decide_eq_true h2
         repeat refine wS ?_
         refine eE (by simp only [kA, seval, y3, y22, y24, vint, NdS, NdF, gw1, gmn, gd, ga, gs, gs2, Int.toNat_one, gi, ge, tN, g1, g2, Bool.not_true] <;> with_reducible rfl) (by decide) ?_
         repeat refine wS ?_
         refine awp_cond_true rfl (by simp only [jN, seval, vint, NdS, NdF, gw1, gmn, gd, ga, gs, gs2, Int.toNat_one, gi, ge, tN, g1, g2, Bool.not_true] <;> with_reducible rfl) ?_
         refine wL [4, 55, 56, 57] (by simp only [jN, seval, vint, NdS, NdF, gw1, gmn, gd, ga, gs, gs2, Int.toNat_one, gi, ge, tN, g1, g2, Bool.not_true] <;> with_reducible rfl) ?_
         repeat refine wS ?_
         refine eE (by simp only [kA, seval, vint, NdS, NdF, gw1, gmn, gd, ga, gs, gs2, Int.toNat_one, gi, ge, tN, g1, g2, Bool.not_true] <;> with_reducible rfl) (by decide) ?_
         repeat refine wS ?_
         refine wT ⟨.inr rfl, _, _, rfl, ?_, (by first | exact (List.append_nil _).symm | rfl)⟩
         have hbad : (n.kids.drop 1).any (armK (divK k)) = true := List.any_eq_true.2 ⟨_, List.getElem_mem hi, by rw [hae]; unfold armK; rw [g1, g3]; rfl⟩
         rw [hx, hbad, Bool.not_true, Bool.and_false]; rfl
        ·-- case
         have hsz : a.size < n.size := by rw [← hae]; exact Nd.size_kid (List.mem_of_mem_drop (List.getElem_mem hi))
         have haw : a.W := by rw [← hae]; exact hw.kid (List.mem_of_mem_drop (List.getElem_mem hi))
         have hal := haw.len
         have g1 : decide (a.kind = 36) = true := decide_eq_true h1
         have g2 : decide ((a.kids.length : Int) < 2) = false := decide_eq_false (by omega)
         have g3 : decide (a.kids.length < 2) = false := decide_eq_false (by omega)
         have gia : ((0 : Int) ≤ (1 : Int) ∧ (1 : Int) < (a.kids.length : Int)) = True := by simp; omega
         have gja : ((1 : Int) < (a.kids.length : Int)) = True := by simp; omega
         have gea := kid_at (n := a) (i := 1) (by omega)
         repeat refine wS ?_
         refine wR ?_
         refine eT 14 (by simp only [kA, seval, y3, y22, y24, vint, NdS, NdF, gw1, gmn, gd, ga, gs, gs2, Int.toNat_one, gi, ge, tN, g1, g2, gia, gja, gea, h3, Bool.not_true, Nd.enc_len] <;> with_reducible rfl) (by decide) ?_
         refine oP (by simp only [kC, seval, vint, NdS, NdF, gw1, gmn, gd, ga, gs, gs2, Int.toNat_one, gi, ge, tN, g1, g2, gia, gja, gea, h3, Bool.not_true, Nd.enc_len] <;> with_reducible rfl) (by simp only [kC, seval]) (by decide) Tryzgo8 (hk.kid (n := a) (by omega) haw (i := 1) (by omega) _) ?_
         refine e_end (by simp only [kA, seval, vint, NdS, NdF, gw1, gmn, gd, ga, gs, gs2, Int.toNat_one, gi, ge, tN, g1, g2, gia, gja, gea, h3, Bool.not_true, Nd.enc_len] <;> with_reducible rfl) (by decide) ?_
         repeat refine wS ?_
         refine wF rfl (by simp only [jN, seval, vint, NdS, NdF, gw1, gmn, gd, ga, gs, gs2, Int.toNat_one, gi, ge, tN, g1, g2, gia, gja, gea, h3, Bool.not_true, Nd.enc_len] <;> with_reducible rfl) ?_
         repeat refine wS ?_
         refine wK ?_
         exact ⟨⟨rfl, rfl, trivial⟩, (), _, ⟨rfl, rfl, trivial⟩, by simp only [jN, seval, vint, NdS, NdF] <;> rfl, any_take_succ hi hg (by rw [hae]; unfold armK; rw [g1, g3, h3]; rfl)⟩
        ·-- case
         have hsz : a.size < n.size := by rw [← hae]; exact Nd.size_kid (List.mem_of_mem_drop (List.getElem_mem hi))
         have haw : a.W := by rw [← hae]; exact hw.kid (List.mem_of_mem_drop (List.getElem_mem hi))
         have hal := haw.len
         have g1 : decide (a.kind = 36) = true := decide_eq_true h1
         have g2 : decide ((a.kids.length : Int) < 2) = false := decide_eq_false (by omega)
         have g3 : decide (a.kids.length < 2) = false := decide_eq_false (by omega)
         have gia : ((0 : Int) ≤ (1 : Int) ∧ (1 : Int) < (a.kids.length : Int)) = True := by simp; omega
         have gja : ((1 : Int) < (a.kids.length : Int)) = True := by simp; omega
         have gea := kid_at (n := a) (i := 1) (by omega)
         repeat refine wS ?_
         refine wR ?_
         refine eT 14 (by simp only [kA, seval, y3, y22, y24, vint, NdS, NdF, gw1, gmn, gd, ga, gs, gs2, Int.toNat_one, gi, ge, tN, g1, g2, gia, gja, gea, h3, Bool.not_true, Bool.not_false, Nd.enc_len] <;> with_reducible rfl) (by decide) ?_
         refine oP (by simp only [kC, seval, vint, NdS, NdF, gw1, gmn, gd, ga, gs, gs2, Int.toNat_one, gi, ge, tN, g1, g2, gia, gja, gea, h3, Bool.not_true, Bool.not_false, Nd.enc_len] <;> with_reducible rfl) (by simp only [kC, seval]) (by decide) Tryzgo8 (hk.kid (n := a) (by omega) haw (i := 1) (by omega) _) ?_
         refine e_end (by simp only [kA, seval, vint, NdS, NdF, gw1, gmn, gd, ga, gs, gs2, Int.toNat_one, gi, ge, tN, g1, g2, gia, gja, gea, h3, Bool.not_true, Bool.not_false, Nd.enc_len] <;> with_reducible rfl) (by decide) ?_
         repeat refine wS ?_
         refine awp_cond_true rfl (by simp only [jN, seval, vint, NdS, NdF, gw1, gmn, gd, ga, gs, gs2, Int.toNat_one, gi, ge, tN, g1, g2, gia, gja, gea, h3, Bool.not_true, Bool.not_false, Nd.enc_len] <;> with_reducible rfl) ?_
         refine wL [4, 55, 56, 57] (by simp only [jN, seval, vint, NdS, NdF, gw1, gmn, gd, ga, gs, gs2, Int.toNat_one, gi, ge, tN, g1, g2, gia, gja, gea, h3, Bool.not_true, Bool.not_false, Nd.enc_len] <;> with_reducible rfl) ?_
         repeat refine wS ?_
         refine eE (by simp only [kA, seval, vint, NdS, NdF, gw1, gmn, gd, ga, gs, gs2, Int.toNat_one, gi, ge, tN, g1, g2, gia, gja, gea, h3, Bool.not_true, Bool.not_false, Nd.enc_len] <;> with_reducible rfl) (by decide) ?_
         repeat refine wS ?_
         refine wT ⟨.inr rfl, _, _, rfl, ?_, (by first | exact (List.append_nil _).symm | rfl)⟩
         have hbad : (n.kids.drop 1).any (armK (divK k)) = true := List.any_eq_true.2 ⟨_, List.getElem_mem hi, by rw [hae]; unfold armK; rw [h3]; simp⟩
         rw [hx, hbad, Bool.not_true, Bool.and_false]; rfl
       ·intro s hg
        rw [List.take_length] at hg
        rcases Nat.lt_or_ge 1 n.kids.length with h9 | h9
        ·-- case
         have gl : decide (1 < n.kids.length) = true := decide_eq_true h9
         have gm : decide ((n.kids.length : Int) - 1 ≥ 1) = true := decide_eq_true (by omega)
         repeat refine wS ?_
         refine eE (by simp only [kA, seval, y3, vint, NdS, NdF, gw1, gmn, gd, ga, gs, gs2, Int.toNat_one, gm] <;> with_reducible rfl) (by decide) ?_
         repeat refine wS ?_
         refine wT ⟨.inr rfl, _, _, rfl, ?_, (by first | exact (List.append_nil _).symm | rfl)⟩
         rw [hx, hg, gl]; rfl
        ·-- case
         have gl : decide (1 < n.kids.length) = false := decide_eq_false (by omega)
         have gm : decide ((n.kids.length : Int) - 1 ≥ 1) = false := decide_eq_false (by omega)
         repeat refine wS ?_
         refine eE (by simp only [kA, seval, y3, vint, NdS, NdF, gw1, gmn, gd, ga, gs, gs2, Int.toNat_one, gm] <;> with_reducible rfl) (by decide) ?_
         repeat refine wS ?_
         refine wT ⟨.inr rfl, _, _, rfl, ?_, (by first | exact (List.append_nil _).symm | rfl)⟩
         rw [hx, gl]; rfl
      ·-- case
       have gmn : min (1 : Int) (n.kids.length : Int) = 0 := by omega
       have gd : ((n.kids.map Nd.enc).take n.kids.length).drop 0 = (n.kids.drop 1).map Nd.enc := by rw [List.take_of_length_le (by simp)]; rw [List.length_eq_zero_iff.1 (show n.kids.length = 0 by omega)]; rfl
       have ga : (∀ (e : PV), e ∈ List.map Nd.enc n.kids → e.cells.length = 7) = True := eq_true fun e he => by obtain ⟨v, _, rfl⟩ := List.mem_map.1 he; exact v.enc_len
       have gs : ((0 : Int) ≤ 0 ∧ (0 : Int) ≤ (n.kids.length : Int)) = True := eq_true (by omega)
       have gs2 : ((0 : Int) ≤ (n.kids.length : Int)) = True := eq_true (by omega)
       repeat refine wS ?_
       refine eE (by simp only [kA, seval, y3, y22, y24, vint, NdS, NdF, gw1, gmn, gd, ga, gs, gs2, Int.toNat_zero] <;> with_reducible rfl) (by decide) ?_
       repeat refine wS ?_
       refine awp_forS (σ := Unit) ((n.kids.drop 1).length) (fun (s : Unit) => [(4, vint ((n.kids.length : Int) - 1)), (55, .slice ((n.kids.drop 1).map Nd.enc) .none)]) [4, 55] (H) (fun (s : Unit) => [.row [.int .i64 n.kind, .int .i64 n.value, .str n.text, .int .i64 n.st, .int .i64 n.en, .int .i64 n.ns, .slice (n.kids.map Nd.enc) .none]]) (fun (i : Nat) (s : Unit) => ((n.kids.drop 1).take i).any (armK (divK k)) = false) (()) ([]) rfl rfl rfl rfl rfl rfl rfl rfl rfl (by decide) (by decide) (by decide) (fun _ => rfl) (hla) ⟨(by first | rfl | (simp only [jN, seval, vint, NdS, NdF, gw1, gmn, gd, ga, gs, gs2, Int.toNat_zero] <;> first | done | with_reducible rfl)), (by first | rfl | (simp only [jN, seval, vint, NdS, NdF, gw1, gmn, gd, ga, gs, gs2, Int.toNat_zero] <;> first | done | with_reducible rfl)), (by first | rfl | (simp only [jN, seval, vint, NdS, NdF, gw1, gmn, gd, ga, gs, gs2, Int.toNat_zero] <;> first | done | with_reducible rfl)), (by first | rfl | (simp only [jN, seval, vint, NdS, NdF, gw1, gmn, gd, ga, gs, gs2, Int.toNat_zero] <;> first | done | with_reducible rfl)), trivial⟩ (by first | rfl | (simp only [jN, seval, vint, NdS, NdF, gw1, gmn, gd, ga, gs, gs2, Int.toNat_zero] <;> first | done | with_reducible rfl)) (by simp) (fun _ _ _ => by first | exact Nat.zero_le _ | (simp only [List.length_append]; omega)) ?_ ?_ ?_
       ·exact fun i s hg => ⟨by first | exact hbel_nil _ | (simp only [List.append_nil]; assumption) | (refine hbel_app' hb' (by simp) ?_; repeat (first | exact hbel_nil _ | exact trivial | exact obel_row_nil _ | (refine HBel.cons ?_ ?_) | (refine obel_row_cons (by first | exact Md.bel _ _ | exact Dg.bel _ _ | exact bel_Md _ _ | exact bel_Dg _ _ | exact Tk.bel _ _ | exact St.bel _ _ | exact Nd.bel _ _ | exact bel_strs0 _ _ | exact bel_St _ _ | exact bel_ints0 _ _ | exact bel_Nd _ _ | exact bel_nil0 _ | exact bel_nil1 _ | exact Bel.optr _ _ (by first | (simp; done) | (simp; omega)) | exact Bel.int _ _ | exact Bel.bool _ | exact Bel.str _ | exact Bel.nilp | exact Bel.nilfn | exact Bel.optr _ _ (by simp) | exact bel_nil0 _ | exact bel_nil1 _ | exact bel_fn0 _ _ | assumption) ?_))), by repeat (first | exact BelL.nil | refine BelL.cons (by first | exact Md.bel _ _ | exact Dg.bel _ _ | exact bel_Md _ _ | exact bel_Dg _ _ | exact Tk.bel _ _ | exact St.bel _ _ | exact Nd.bel _ _ | exact bel_strs0 _ _ | exact bel_St _ _ | exact bel_ints0 _ _ | exact bel_Nd _ _ | exact bel_nil0 _ | exact bel_nil1 _ | exact Bel.optr _ _ (by first | (simp; done) | (simp; omega)) | exact Bel.int _ _ | exact Bel.bool _ | exact Bel.str _ | exact Bel.nilp | exact Bel.nilfn | exact Bel.optr _ _ (by simp) | exact bel_nil0 _ | exact bel_nil1 _ | exact bel_fn0 _ _ | assumption) ?_)⟩
       ·intro i s hi hg
        have gi := ix_nat hi
        have ge := get_enc Nd.enc hi
        obtain ⟨a, hae⟩ : ∃ a, (n.kids.drop 1)[i] = a := ⟨_, rfl⟩
        rw [hae] at ge
        repeat refine wS ?_
        refine eE (by simp only [kA, seval, y22, y24, vint, NdS, NdF, gw1, gmn, gd, ga, gs, gs2, Int.toNat_zero, gi, ge, tN] <;> with_reducible rfl) (by decide) ?_
        rcases (show a.kind ≠ 36 ∨ (a.kind = 36 ∧ a.kids.length < 2) ∨ (a.kind = 36 ∧ 2 ≤ a.kids.length ∧ divK k (kidD a 1) = true) ∨ (a.kind = 36 ∧ 2 ≤ a.kids.length ∧ divK k (kidD a 1) = false) by cases divK k (kidD a 1) <;> simp <;> omega) with h1 | ⟨h1, h2⟩ | ⟨h1, h2, h3⟩ | ⟨h1, h2, h3⟩
        ·-- case
         have hsz : a.size < n.size := by rw [← hae]; exact Nd.size_kid (List.mem_of_mem_drop (List.getElem_mem hi))
         have haw : a.W := by rw [← hae]; exact hw.kid (List.mem_of_mem_drop (List.getElem_mem hi))
         have hal := haw.len
         have g1 : decide (a.kind = 36) = false := decide_eq_false h1
         repeat refine wS ?_
         refine eE (by simp only [kA, seval, y3, y22, y24, vint, NdS, NdF, gw1, gmn, gd, ga, gs, gs2, Int.toNat_zero, gi, ge, tN, g1, Bool.not_false] <;> with_reducible rfl) (by decide) ?_
         repeat refine wS ?_
         refine awp_cond_true rfl (by simp only [jN, seval, vint, NdS, NdF, gw1, gmn, gd, ga, gs, gs2, Int.toNat_zero, gi, ge, tN, g1, Bool.not_false] <;> with_reducible rfl) ?_
         refine wL [4, 55, 56, 57] (by simp only [jN, seval, vint, NdS, NdF, gw1, gmn, gd, ga, gs, gs2, Int.toNat_zero, gi, ge, tN, g1, Bool.not_false] <;> with_reducible rfl) ?_
         repeat refine wS ?_
         refine eE (by simp only [kA, seval, vint, NdS, NdF, gw1, gmn, gd, ga, gs, gs2, Int.toNat_zero, gi, ge, tN, g1, Bool.not_false] <;> with_reducible rfl) (by decide) ?_
         repeat refine wS ?_
         refine wT ⟨.inr rfl, _, _, rfl, ?_, (by first | exact (List.append_nil _).symm | rfl)⟩
         have hbad : (n.kids.drop 1).any (armK (divK k)) = true := List.any_eq_true.2 ⟨_, List.getElem_mem hi, by rw [hae]; unfold armK; rw [g1]; rfl⟩
         rw [hx, hbad, Bool.not_true, Bool.and_false]; rfl
        ·-- case
         have hsz : a.size < n.size := by rw [← hae]; exact Nd.size_kid (List.mem_of_mem_drop (List.getElem_mem hi))
         have haw : a.W := by rw [← hae]; exact hw.kid (List.mem_of_mem_drop (List.getElem_mem hi))
         have hal := haw.len
         have g1 : decide (a.kind = 36) = true := decide_eq_true h1
         have g2 : decide ((a.kids.length : Int) < 2) = true := decide_eq_true (by omega)
         have g3 : decide (a.kids.length < 2) = true := decide_eq_true h2
         repeat refine wS ?_
         refine eE (by simp only [kA, seval, y3, y22, y24, vint, NdS, NdF, gw1, gmn, gd, ga, gs, gs2, Int.toNat_zero, gi, ge, tN, g1, g2, Bool.not_true] <;> with_reducible rfl) (by decide) ?_
         repeat refine wS ?_
         refine awp_cond_true rfl (by simp only [jN, seval, vint, NdS, NdF, gw1, gmn, gd, ga, gs, gs2, Int.toNat_zero, gi, ge, tN, g1, g2, Bool.not_true] <;> with_reducible rfl) ?_
         refine wL [4, 55, 56, 57] (by simp only [jN, seval, vint, NdS, NdF, gw1, gmn, gd, ga, gs, gs2, Int.toNat_zero, gi, ge, tN, g1, g2, Bool.not_true] <;> with_reducible rfl) ?_
         repeat refine wS ?_
         refine eE (by simp only [kA, seval, vint, NdS, NdF, gw1, gmn, gd, ga, gs, gs2, Int.toNat_zero, gi, ge, tN, g1, g2, Bool.not_true] <;> with_reducible rfl) (by decide) ?_
         repeat refine wS ?_
         refine wT ⟨.inr rfl, _, _, rfl, ?_, (by first | exact (List.append_nil _).symm | rfl)⟩
         have hbad : (n.kids.drop 1).any (armK (divK k)) = true := List.any_eq_true.2 ⟨_, List.getElem_mem hi, by rw [hae]; unfold armK; rw [g1, g3]; rfl⟩
         rw [hx, hbad, Bool.not_true, Bool.and_false]; rfl
        ·-- case
         have hsz : a.size < n.size := by rw [← hae]; exact Nd.size_kid (List.mem_of_mem_drop (List.getElem_mem hi))
         have haw : a.W := by rw [← hae]; exact hw.kid (List.mem_of_mem_drop (List.getElem_mem hi))
         have hal := haw.len
         have g1 : decide (a.kind = 36) = true := decide_eq_true h1
         have g2 : decide ((a.kids.length : Int) < 2) = false := decide_eq_false (by omega)
         have g3 : decide (a.kids.length < 2) = false := decide_eq_false (by omega)
         have gia : ((0 : Int) ≤ (1 : Int) ∧ (1 : Int) < (a.kids.length : Int)) = True := by simp; omega
         have gja : ((1 : Int) < (a.kids.length : Int)) = True := by simp; omega
         have gea := kid_at (n := a) (i := 1) (by omega)
         repeat refine wS ?_
         refine wR ?_
         refine eT 14 (by simp only [kA, seval, y3, y22, y24, vint, NdS, NdF, gw1, gmn, gd, ga, gs, gs2, Int.toNat_zero, gi, ge, tN, g1, g2, gia, gja, gea, h3, Bool.not_true, Nd.enc_len] <;> with_reducible rfl) (by decide) ?_
         refine oP (by simp only [kC, seval, vint, NdS, NdF, gw1, gmn, gd, ga, gs, gs2, Int.toNat_zero, gi, ge, tN, g1, g2, gia, gja, gea, h3, Bool.not_true, Nd.enc_len] <;> with_reducible rfl) (by simp only [kC, seval]) (by decide) Tryzgo8 (hk.kid (n := a) (by omega) haw (i := 1) (by omega) _) ?_
         refine e_end (by simp only [kA, seval, vint, NdS, NdF, gw1, gmn, gd, ga, gs, gs2, Int.toNat_zero, gi, ge, tN, g1, g2, gia, gja, gea, h3, Bool.not_true, Nd.enc_len] <;> with_reducible rfl) (by decide) ?_
         repeat refine wS ?_
         refine wF rfl (by simp only [jN, seval, vint, NdS, NdF, gw1, gmn, gd, ga, gs, gs2, Int.toNat_zero, gi, ge, tN, g1, g2, gia, gja, gea, h3, Bool.not_true, Nd.enc_len] <;> with_reducible rfl) ?_
         repeat refine wS ?_
         refine wK ?_
         exact ⟨⟨rfl, rfl, trivial⟩, (), _, ⟨rfl, rfl, trivial⟩, by simp only [jN, seval, vint, NdS, NdF] <;> rfl, any_take_succ hi hg (by rw [hae]; unfold armK; rw [g1, g3, h3]; rfl)⟩
        ·-- case
         have hsz : a.size < n.size := by rw [← hae]; exact Nd.size_kid (List.mem_of_mem_drop (List.getElem_mem hi))
         have haw : a.W := by rw [← hae]; exact hw.kid (List.mem_of_mem_drop (List.getElem_mem hi))
         have hal := haw.len
         have g1 : decide (a.kind = 36) = true := decide_eq_true h1
         have g2 : decide ((a.kids.length : Int) < 2) = false := decide_eq_false (by omega)
         have g3 : decide (a.kids.length < 2) = false := decide_eq_false (by omega)
         have gia : ((0 : Int) ≤ (1 : Int) ∧ (1 : Int) < (a.kids.length : Int)) = True := by simp; omega
         have gja : ((1 : Int) < (a.kids.length : Int)) = True := by simp; omega
         have gea := kid_at (n := a) (i := 1) (by omega)
         repeat refine wS ?_
         refine wR ?_
         refine eT 14 (by simp only [kA, seval, y3, y22, y24, vint, NdS, NdF, gw1, gmn, gd, ga, gs, gs2, Int.toNat_zero, gi, ge, tN, g1, g2, gia, gja, gea, h3, Bool.not_true, Bool.not_false, Nd.enc_len] <;> with_reducible rfl) (by decide) ?_
         refine oP (by simp only [kC, seval, vint, NdS, NdF, gw1, gmn, gd, ga, gs, gs2, Int.toNat_zero, gi, ge, tN, g1, g2, gia, gja, gea, h3, Bool.not_true, Bool.not_false, Nd.enc_len] <;> with_reducible rfl) (by simp only [kC, seval]) (by decide) Tryzgo8 (hk.kid (n := a) (by omega) haw (i := 1) (by omega) _) ?_
         refine e_end (by simp only [kA, seval, vint, NdS, NdF, gw1, gmn, gd, ga, gs, gs2, Int.toNat_zero, gi, ge, tN, g1, g2, gia, gja, gea, h3, Bool.not_true, Bool.not_false, Nd.enc_len] <;> with_reducible rfl) (by decide) ?_
         repeat refine wS ?_
         refine awp_cond_true rfl (by simp only [jN, seval, vint, NdS, NdF, gw1, gmn, gd, ga, gs, gs2, Int.toNat_zero, gi, ge, tN, g1, g2, gia, gja, gea, h3, Bool.not_true, Bool.not_false, Nd.enc_len] <;> with_reducible rfl) ?_
         refine wL [4, 55, 56, 57] (by simp only [jN, seval, vint, NdS, NdF, gw1, gmn, gd, ga, gs, gs2, Int.toNat_zero, gi, ge, tN, g1, g2, gia, gja, gea, h3, Bool.not_true, Bool.not_false, Nd.enc_len] <;> with_reducible rfl) ?_
         repeat refine wS ?_
         refine eE (by simp only [kA, seval, vint, NdS, NdF, gw1, gmn, gd, ga, gs, gs2, Int.toNat_zero, gi, ge, tN, g1, g2, gia, gja, gea, h3, Bool.not_true, Bool.not_false, Nd.enc_len] <;> with_reducible rfl) (by decide) ?_
         repeat refine wS ?_
         refine wT ⟨.inr rfl, _, _, rfl, ?_, (by first | exact (List.append_nil _).symm | rfl)⟩
         have hbad : (n.kids.drop 1).any (armK (divK k)) = true := List.any_eq_true.2 ⟨_, List.getElem_mem hi, by rw [hae]; unfold armK; rw [h3]; simp⟩
         rw [hx, hbad, Bool.not_true, Bool.and_false]; rfl
       ·intro s hg
        rw [List.take_length] at hg
        rcases Nat.lt_or_ge 1 n.kids.length with h9 | h9
        ·-- case
         have gl : decide (1 < n.kids.length) = true := decide_eq_true h9
         have gm : decide ((n.kids.length : Int) - 1 ≥ 1) = true := decide_eq_true (by omega)
         repeat refine wS ?_
         refine eE (by simp only [kA, seval, y3, vint, NdS, NdF, gw1, gmn, gd, ga, gs, gs2, Int.toNat_zero, gm] <;> with_reducible rfl) (by decide) ?_
         repeat refine wS ?_
         refine wT ⟨.inr rfl, _, _, rfl, ?_, (by first | exact (List.append_nil _).symm | rfl)⟩
         rw [hx, hg, gl]; rfl
        ·-- case
         have gl : decide (1 < n.kids.length) = false := decide_eq_false (by omega)
         have gm : decide ((n.kids.length : Int) - 1 ≥ 1) = false := decide_eq_false (by omega)
         repeat refine wS ?_
         refine eE (by simp only [kA, seval, y3, vint, NdS, NdF, gw1, gmn, gd, ga, gs, gs2, Int.toNat_zero, gm] <;> with_reducible rfl) (by decide) ?_
         repeat refine wS ?_
         refine wT ⟨.inr rfl, _, _, rfl, ?_, (by first | exact (List.append_nil _).symm | rfl)⟩
         rw [hx, gl]; rfl
     ·-- else t47
      have hx : divK (k + 1) n = false := by rw [divK]; rw [if_neg (by rw [bt14]; simp)]; rw [if_neg (by rw [bt16]; simp)]; rw [if_neg (by rw [bt20]; simp)]; rw [if_neg (by rw [bt39]; simp)]; rw [if_neg (by rw [bt47]; simp)]
      repeat refine wS ?_
      refine wK ?_
      repeat refine wS ?_
      refine eE (by simp only [kA, seval, vint, NdS, NdF, gw1] <;> with_reducible rfl) (by decide) ?_
      repeat refine wS ?_
      refine wT ⟨.inr rfl, _, _, rfl, ?_, (by first | exact (List.append_nil _).symm | rfl)⟩
      rw [hx]; rfl

theorem nv_all : ∀ k, Nv k
 | 0 => fun n h _ => by cases n; simp [Nd.size] at h
 | k + 1 => nev_k (nv_all k)

end Go.Abs
set_option maxRecDepth 4000
namespace Go.Abs
open Go.Proofs

/-- The first unreachable child of a block. -/
def unrM (K : Nat) (n : Nd) : Nd × Bool :=
 let i := idxI (divK K) n.kids
 if ((decide (i < 0) || decide (i + 1 ≥ (n.kids.length : Int))) || decide ((kidD n (i + 1).toNat).kind = 0)) = true then (nd0, false) else (kidD n (i + 1).toNat, true)
def dgU (m : Int) (x : Nd) : Dg := ⟨113, m, x.st, x.en, []⟩
def headM (K : Nat) (m : Int) (n : Nd) (ds : List Dg) : Option (List Dg) :=
 if decide (n.kind = 21) = true then (if (unrM K n).2 = true then (if ds.length < lim then some (ds ++ [dgU m (unrM K n).1]) else none) else some ds) else some ds
mutual
def visitM (K : Nat) (m : Int) : Nd → List Dg → Option (List Dg)
 | .mk k v t s e ns us, ds => (headM K m (.mk k v t s e ns us) ds).bind (visitsM K m us)
def visitsM (K : Nat) (m : Int) : List Nd → List Dg → Option (List Dg)
 | [], ds => some ds
 | u :: us, ds => (visitM K m u ds).bind (visitsM K m us)
end
theorem visitM_eq (K : Nat) (m : Int) (n : Nd) (ds : List Dg) : visitM K m n ds = (headM K m n ds).bind (visitsM K m n.kids) := by cases n; rw [visitM]; rfl
theorem idxI_range {α : Type} (p : α → Bool) (xs : List α) : -1 ≤ idxI p xs ∧ idxI p xs < (xs.length : Int) := by
 by_cases h : idxI p xs ≥ 0
 ·exact ⟨by omega, idxI_lt h⟩
 ·have : idxI p xs = -1 := by
   unfold idxI at h ⊢
   split
   ·rename_i i hi; rw [hi] at h; simp at h
   ·rfl
  omega
theorem cellDg (t : Dg) : t.enc.cells.all PV.isCell = true := by rw [Dg.enc_cells]; rfl

theorem unr_c {K : Nat} (n : Nd) (hn : n.size ≤ K) (hw : n.W) {H : Heap} : ACalls Tryz.prog 20 [n.enc] H fun r H' => r = .tup [(unrM K n).1.enc, .bool (unrM K n).2] ∧ H' = H := by
 have hW := hw.len
 have hlm : n.kids.length ≤ 4611686018427387904 := by omega
 have hir := idxI_range (divK K) n.kids
 refine keeps_of (N := 35) Tryz.func20 rfl rfl (by simp) (.tup _ (fun c hc => by simp only [List.mem_cons, List.not_mem_nil, or_false] at hc; rcases hc with rfl | rfl; exact Nd.bel _ _; exact .bool _)) fun hb' => ?_
 repeat refine wS ?_
 refine eE (by simp only [kA, seval, y24, vint, NdS, NdF, qG] <;> with_reducible rfl) (by decide) ?_
 repeat refine wS ?_
 refine wR ?_
 refine eT 2 (by simp only [kA, seval, y22, y24, vint, NdS, NdF, qG] <;> with_reducible rfl) (by decide) ?_
 refine oP (by simp only [kC, seval, vint, NdS, NdF, qG] <;> with_reducible rfl) (by simp only [kC, seval]) (by decide) Tryzgo17 (indexFuncNd (us := n.kids) (p := divK K) ⟨Tryzgo6, by simp, fun u hu => dv_all K u (by have := Nd.size_kid hu; omega) (hw.kid hu) _⟩ hw.lenMax) ?_
 refine e_end (by simp only [kA, seval, vint, NdS, NdF, qG] <;> with_reducible rfl) (by decide) ?_
 rcases (show idxI (divK K) n.kids < 0 ∨ (0 ≤ idxI (divK K) n.kids ∧ idxI (divK K) n.kids + 1 ≥ (n.kids.length : Int)) ∨ (0 ≤ idxI (divK K) n.kids ∧ idxI (divK K) n.kids + 1 < (n.kids.length : Int)) by omega) with h | ⟨h, h2⟩ | ⟨h, h2⟩
 ·-- case
  have g1 : decide (idxI (divK K) n.kids < 0) = true := decide_eq_true h
  have hu : unrM K n = (nd0, false) := by unfold unrM; simp only [g1]; rfl
  repeat refine wS ?_
  refine eE (by simp only [kA, seval, y3, y22, y24, vint, NdS, NdF, qG, g1] <;> with_reducible rfl) (by decide) ?_
  repeat refine wS ?_
  refine awp_cond_true rfl (by simp only [jN, seval, vint, NdS, NdF, qG, g1] <;> with_reducible rfl) ?_
  refine wL [2] (by simp only [jN, seval, vint, NdS, NdF, qG, g1] <;> with_reducible rfl) ?_
  repeat refine wS ?_
  refine eE (by simp only [kA, seval, y24, vint, NdS, NdF, qG, g1] <;> with_reducible rfl) (by decide) ?_
  repeat refine wS ?_
  refine wT ⟨.inr rfl, _, _, (ares_two (.cell 2 24) (.tmp 3) rfl (ares_cell1 Tryzti24 (by decide) (by simp only [jL, jN, seval, vint, NdS, NdF, qG, g1] <;> with_reducible rfl)) (ares_tmp1 (by decide))), ?_, (by first | exact (List.append_nil _).symm | rfl)⟩
  rw [hu]; rfl
 ·-- case
  have g1 : decide (idxI (divK K) n.kids < 0) = false := decide_eq_false (by omega)
  have gw : IntKind.i64.wrap (idxI (divK K) n.kids + 1) = idxI (divK K) n.kids + 1 := wrap_id (by omega) (by omega)
  have g2 : decide (idxI (divK K) n.kids + 1 ≥ (n.kids.length : Int)) = true := decide_eq_true h2
  have hu : unrM K n = (nd0, false) := by unfold unrM; simp only [g1, g2]; rfl
  repeat refine wS ?_
  refine eE (by simp only [kA, seval, y3, y22, y24, vint, NdS, NdF, qG, g1, gw, g2] <;> with_reducible rfl) (by decide) ?_
  repeat refine wS ?_
  refine awp_cond_true rfl (by simp only [jN, seval, vint, NdS, NdF, qG, g1, gw, g2] <;> with_reducible rfl) ?_
  refine wL [2] (by simp only [jN, seval, vint, NdS, NdF, qG, g1, gw, g2] <;> with_reducible rfl) ?_
  repeat refine wS ?_
  refine eE (by simp only [kA, seval, y24, vint, NdS, NdF, qG, g1, gw, g2] <;> with_reducible rfl) (by decide) ?_
  repeat refine wS ?_
  refine wT ⟨.inr rfl, _, _, (ares_two (.cell 2 24) (.tmp 3) rfl (ares_cell1 Tryzti24 (by decide) (by simp only [jL, jN, seval, vint, NdS, NdF, qG, g1, gw, g2] <;> with_reducible rfl)) (ares_tmp1 (by decide))), ?_, (by first | exact (List.append_nil _).symm | rfl)⟩
  rw [hu]; rfl
 ·-- case
  have g1 : decide (idxI (divK K) n.kids < 0) = false := decide_eq_false (by omega)
  have g2 : decide (idxI (divK K) n.kids + 1 ≥ (n.kids.length : Int)) = false := decide_eq_false (by omega)
  have hne : (idxI (divK K) n.kids + 1).toNat < n.kids.length := by omega
  have gi : ((0 : Int) ≤ idxI (divK K) n.kids + 1 ∧ idxI (divK K) n.kids + 1 < (n.kids.length : Int)) = True := eq_true (by omega)
  have ge := kid_at (n := n) (i := (idxI (divK K) n.kids + 1).toNat) (by omega)
  have gw : IntKind.i64.wrap (idxI (divK K) n.kids + 1) = idxI (divK K) n.kids + 1 := wrap_id (by omega) (by omega)
  have hu : unrM K n = if decide ((kidD n (idxI (divK K) n.kids + 1).toNat).kind = 0) = true then (nd0, false) else (kidD n (idxI (divK K) n.kids + 1).toNat, true) := by unfold unrM; simp only [g1, g2]; rfl
  repeat refine wS ?_
  refine eE (by simp only [kA, seval, y3, y22, y24, vint, NdS, NdF, qG, g1, gw, g2, gi, ge, Nd.enc_len] <;> with_reducible rfl) (by decide) ?_
  repeat refine wS ?_
  refine wC rfl (by simp only [jN, seval, vint, NdS, NdF, qG, g1, gw, g2, gi, ge, Nd.enc_len] <;> with_reducible rfl) (fun bt27 => ?_) (fun bt27 => ?_)
  ·-- if t27
   rw [if_pos bt27] at hu
   refine wL [2] (by simp only [jN, seval, vint, NdS, NdF, qG, g1, gw, g2, gi, ge, Nd.enc_len] <;> with_reducible rfl) ?_
   repeat refine wS ?_
   refine eE (by simp only [kA, seval, y24, vint, NdS, NdF, qG, g1, gw, g2, gi, ge, Nd.enc_len] <;> with_reducible rfl) (by decide) ?_
   repeat refine wS ?_
   refine wT ⟨.inr rfl, _, _, (ares_two (.cell 2 24) (.tmp 3) rfl (ares_cell1 Tryzti24 (by decide) (by simp only [jL, jN, seval, vint, NdS, NdF, qG, g1, gw, g2, gi, ge, Nd.enc_len] <;> with_reducible rfl)) (ares_tmp1 (by decide))), ?_, (by first | exact (List.append_nil _).symm | rfl)⟩
   rw [hu]
   simp only [jN, seval, vint, NdS, NdF, qG]
   try rfl
  ·-- else t27
   rw [if_neg (by rw [bt27]; simp)] at hu
   repeat refine wS ?_
   refine wK ?_
   refine wL [1, 2, 4] (by simp only [jN, seval, vint, NdS, NdF, qG, g1, gw, g2, gi, ge, Nd.enc_len] <;> with_reducible rfl) ?_
   repeat refine wS ?_
   refine eE (by simp only [kA, seval, y3, y22, y24, vint, NdS, NdF, qG, g1, gw, g2, gi, ge, Nd.enc_len] <;> with_reducible rfl) (by decide) ?_
   repeat refine wS ?_
   refine wT ⟨.inr rfl, _, _, (ares_two (.cell 2 24) (.tmp 3) rfl (ares_cell1 Tryzti24 (by decide) (by simp only [jL, jN, seval, vint, NdS, NdF, qG, g1, gw, g2, gi, ge, Nd.enc_len] <;> with_reducible rfl)) (ares_tmp1 (by decide))), ?_, (by first | exact (List.append_nil _).symm | rfl)⟩
   rw [hu]
   simp only [jN, seval, vint, NdS, NdF, qG]
   try rfl

end Go.Abs
set_option maxRecDepth 4000
namespace Go.Abs
open Go.Proofs

/-- What visit does. -/
def Vc (K : Nat) (m : Int) (n : Nd) : Prop := ∀ (ds ds' : List Dg) (lv : PV) (cid : List Nat) (H : Heap), visitM K m n ds = some ds' → RwOk Dg.enc 5 H lv ds cid →
 ACalls Tryz.prog 14 [vint m, n.enc, lv] H fun r H' => ∃ cid', RwOk Dg.enc 5 H' r ds' cid' ∧ Fr cid cid' H H'
theorem visits_cons (K : Nat) (m : Int) (u : Nd) (us : List Nd) (ds : List Dg) : visitsM K m (u :: us) ds = (visitM K m u ds).bind (visitsM K m us) := by rw [visitsM]
theorem Fr.nx {cid : List Nat} {H H1 : Heap} {cid1 cid2 : List Nat} {H2 L : Heap} (a : Fr cid cid1 H H1) (b : Fr cid1 cid2 (H1 ++ L) H2) : Fr cid cid2 H H2 := a.step b

theorem visit_k {K : Nat} {m : Int} {n : Nd} (hn : n.size ≤ K) (hw : n.W) (ih : ∀ u ∈ n.kids, Vc K m u) : Vc K m n := by
 intro ds ds' lv cid H0 hm hk
 rw [visitM_eq] at hm
 obtain ⟨ds1, hh, hm⟩ := oB hm
 unfold headM at hh
 have hW := hw.len
 have hlm : n.kids.length ≤ 4611686018427387904 := by omega
 have hmx : maxLen = 9223372036854775807 := by decide
 refine aF (N := 42) Tryz.func14 rfl rfl (by simp) fun hb' => ?_
 repeat refine wS ?_
 refine eE (by simp only [kA, seval, y24, vint, NdS, NdF, qG] <;> with_reducible rfl) (by decide) ?_
 repeat refine wS ?_
 refine eE (by simp only [kA, seval, y3, y24, vint, NdS, NdF, qG] <;> with_reducible rfl) (by decide) ?_
 repeat refine wS ?_
 refine wC rfl (by simp only [jN, seval, vint, NdS, NdF, qG] <;> with_reducible rfl) (fun bt13 => ?_) (fun bt13 => ?_)
 ·-- if t13
  rw [if_pos bt13] at hh
  repeat refine wS ?_
  refine wR ?_
  refine eT 1 (by simp only [kA, seval, y24, vint, NdS, NdF, qG] <;> with_reducible rfl) (by decide) ?_
  refine oP (by simp only [kC, seval, vint, NdS, NdF, qG] <;> with_reducible rfl) (by simp only [kC, seval]) (by decide) Tryzgo20 (unr_c n (by omega) hw) ?_
  refine e_end (by simp only [kA, seval, y24, vint, NdS, NdF, qG] <;> with_reducible rfl) (by decide) ?_
  repeat refine wS ?_
  refine eE (by simp only [kA, seval, vint, NdS, NdF, qG] <;> with_reducible rfl) (by decide) ?_
  repeat refine wS ?_
  refine wC rfl (by simp only [jN, seval, vint, NdS, NdF, qG] <;> with_reducible rfl) (fun bt19 => ?_) (fun bt19 => ?_)
  ·-- if t19
   rw [if_pos bt19] at hh
   split at hh
   case isFalse => cases hh
   rename_i hlk
   injection hh with hh
   subst hh
   repeat refine wS ?_
   refine wR ?_
   refine eT 8 (by simp only [kA, seval, y3, y24, y27, y35, vint, NdS, NdF, qG] <;> with_reducible rfl) (by decide) ?_
   refine aops_appRw (enc := Dg.enc) (sz := 5) Dg.enc_len cellDg (by decide) (cv := lv) (xs := ds) (a := dgU m (unrM K n).1) (by simp only [kC, seval, vint, NdS, NdF, qG]) rfl (by decide) (by decide) (by simp only [kC, seval, vint, NdS, NdF, qG] <;> first | done | rfl) (by simp only [kC, seval, vint, NdS, NdF, qG] <;> first | done | rfl) (hk.app _) Tryzte27 rfl (by show (_ + 1) * 48 ≤ _; simp only [lim] at hlk; omega) (by simp only [lim] at hlk; omega) (by rw [Tryzte27]; rfl) Tryztz35 rfl ?_
   intro cv3 cid3 HA hk3 hc3 hl3 hs3
   simp only [List.length_append, List.length_cons, List.length_nil] at hl3
   have hnode : HA[H0.length]? = some (.row [.int .i64 n.kind, .int .i64 n.value, .str n.text, .int .i64 n.st, .int .i64 n.en, .int .i64 n.ns, .slice (n.kids.map Nd.enc) .none]) := by
    rw [hs3 H0.length (by simp) (fun h => by have := hk.lt _ h; omega)]; simp
   have f3 : Fr cid cid3 H0 HA := ⟨by omega, fun id h1 h2 => by rw [hs3 id (by simp; omega) h2, List.getElem?_append_left h1], fun id h1 h2 => by
    rcases hc3 id h1 with h | h
    ·exact h
    ·simp at h; omega⟩
   refine e_end (by simp only [kA, seval, vint, NdS, NdF, qG] <;> with_reducible rfl) (by decide) ?_
   refine wL [0, 2, 4] (by simp only [jN, seval, vint, NdS, NdF, qG] <;> with_reducible rfl) ?_
   repeat refine wS ?_
   refine eE (by simp only [kA, seval, y22, y24, vint, NdS, NdF, qG, hnode] <;> with_reducible rfl) (by decide) ?_
   repeat refine wS ?_
   refine awp_block ?_
   refine awp_loopX (σ := Nat × List Dg × PV × List Nat) (fun (z : Nat × List Dg × PV × List Nat) => [(0, vint m), (30, .slice (n.kids.map Nd.enc) .none), (31, vint (n.kids.length : Int)), (32, vint (z.1 : Int)), (2, z.2.2.1)]) (fun (z : Nat × List Dg × PV × List Nat) =>  fun H1 => z.1 ≤ n.kids.length ∧ visitsM K m (n.kids.drop z.1) z.2.1 = some ds' ∧ RwOk Dg.enc 5 H1 z.2.2.1 z.2.1 z.2.2.2 ∧ Fr cid z.2.2.2 H0 H1) (fun (z : Nat × List Dg × PV × List Nat) => n.kids.length - z.1) ((0, (ds ++ [dgU m (unrM K n).1]), cv3, cid3)) ⟨(by first | rfl | (simp only [jN, seval, vint, NdS, NdF, qG] <;> first | done | with_reducible rfl)), (by first | rfl | (simp only [jN, seval, vint, NdS, NdF, qG] <;> first | done | with_reducible rfl)), (by first | rfl | (simp only [jN, seval, vint, NdS, NdF, qG] <;> first | done | with_reducible rfl)), (by first | rfl | (simp only [jN, seval, vint, NdS, NdF, qG] <;> first | done | with_reducible rfl)), (by first | rfl | (simp only [jN, seval, vint, NdS, NdF, qG] <;> first | done | with_reducible rfl)), trivial⟩ (⟨Nat.zero_le _, hm, hk3, f3⟩) ?_
   intro z H1 hg
   obtain ⟨j, dsj, lvj, cidj⟩ := z
   obtain ⟨hj, hmj, hkj, fj⟩ := hg
   simp only at hj hmj hkj fj
   rcases Nat.lt_or_ge j n.kids.length with hi | hi
   ·-- case
    have gi := ix_nat hi
    have ge := get_enc Nd.enc hi
    have gl : decide ((j : Int) < (n.kids.length : Int)) = true := decide_eq_true (by omega)
    have gwj : IntKind.i64.wrap ((j : Int) + 1) = ((j + 1 : Nat) : Int) := by rw [wrap_id (by omega) (by omega)]; omega
    rw [List.drop_eq_getElem_cons hi, visits_cons] at hmj
    obtain ⟨ds2, hv1, hmj⟩ := oB hmj
    repeat refine wS ?_
    refine eE (by simp only [kA, seval, y3, vint, NdS, NdF, qG, gi, ge, gl, gwj, tN, Nd.enc_len] <;> with_reducible rfl) (by decide) ?_
    repeat refine wS ?_
    refine awp_cond_true rfl (by simp only [jN, seval, vint, NdS, NdF, qG, gi, ge, gl, gwj, tN, Nd.enc_len] <;> with_reducible rfl) ?_
    repeat refine wS ?_
    refine wK ?_
    repeat refine wS ?_
    refine awp_block ?_
    repeat refine wS ?_
    refine eE (by simp only [kA, seval, y22, y24, vint, NdS, NdF, qG, gi, ge, gl, gwj, tN, Nd.enc_len] <;> with_reducible rfl) (by decide) ?_
    repeat refine wS ?_
    refine wR ?_
    refine eT 3 (by simp only [kA, seval, y24, vint, NdS, NdF, qG, gi, ge, gl, gwj, tN, Nd.enc_len] <;> with_reducible rfl) (by decide) ?_
    refine aops_callR (by simp only [acallR, jN, seval, vint, NdS, NdF, qG, gi, ge, gl, gwj, tN, Nd.enc_len] <;> with_reducible rfl) (by simp only [kC, seval, vint, NdS, NdF, qG, gi, ge, gl, gwj, tN, Nd.enc_len]) (by decide) Tryzgo14 (ih n.kids[j] (List.getElem_mem hi) dsj ds2 lvj cidj _ hv1 (hkj.app _)) ?_
    rintro rv H9 ⟨cid2, hk2, g2⟩
    refine e_end (by simp only [kA, seval, vint, NdS, NdF, qG, gi, ge, gl, gwj, tN, Nd.enc_len] <;> with_reducible rfl) (by decide) ?_
    repeat refine wS ?_
    refine eE (by simp only [kA, seval, y3, vint, NdS, NdF, qG, gi, ge, gl, gwj, tN, Nd.enc_len] <;> with_reducible rfl) (by decide) ?_
    try simp only [thenQ, blockQ]
    exact ⟨(j + 1, ds2, rv, cid2), by show n.kids.length - (j + 1) < n.kids.length - j; omega, ⟨rfl, rfl, rfl, rfl, rfl, trivial⟩, hi, hmj, hk2, fj.nx g2⟩
   ·-- case
    have gl : decide ((j : Int) < (n.kids.length : Int)) = false := decide_eq_false (by omega)
    rw [List.drop_eq_nil_of_le hi, visitsM] at hmj
    injection hmj with hmj
    subst hmj
    repeat refine wS ?_
    refine eE (by simp only [kA, seval, y3, vint, NdS, NdF, qG, gl] <;> with_reducible rfl) (by decide) ?_
    repeat refine wS ?_
    refine wF rfl (by simp only [jN, seval, vint, NdS, NdF, qG, gl] <;> with_reducible rfl) ?_
    repeat refine wS ?_
    refine awp_exit ?_
    simp only [thenQ, blockQ, reduceIte, Nat.reduceEqDiff, Nat.succ_ne_self, if_true, if_false]
    repeat refine wS ?_
    refine eE (by simp only [kA, seval, vint, NdS, NdF, qG, gl] <;> with_reducible rfl) (by decide) ?_
    repeat refine wS ?_
    refine wT ⟨.inr rfl, _, rfl, ?_⟩
    exact ⟨cidj, hkj, fj⟩
  ·-- else t19
   rw [if_neg (by rw [bt19]; simp)] at hh
   injection hh with hh
   subst hh
   repeat refine wS ?_
   refine wK ?_
   repeat refine wS ?_
   refine eE (by simp only [kA, seval, y22, y24, vint, NdS, NdF, qG] <;> with_reducible rfl) (by decide) ?_
   repeat refine wS ?_
   refine awp_block ?_
   refine awp_loopX (σ := Nat × List Dg × PV × List Nat) (fun (z : Nat × List Dg × PV × List Nat) => [(0, vint m), (30, .slice (n.kids.map Nd.enc) .none), (31, vint (n.kids.length : Int)), (32, vint (z.1 : Int)), (2, z.2.2.1)]) (fun (z : Nat × List Dg × PV × List Nat) =>  fun H1 => z.1 ≤ n.kids.length ∧ visitsM K m (n.kids.drop z.1) z.2.1 = some ds' ∧ RwOk Dg.enc 5 H1 z.2.2.1 z.2.1 z.2.2.2 ∧ Fr cid z.2.2.2 H0 H1) (fun (z : Nat × List Dg × PV × List Nat) => n.kids.length - z.1) ((0, ds, lv, cid)) ⟨(by first | rfl | (simp only [jN, seval, vint, NdS, NdF, qG] <;> first | done | with_reducible rfl)), (by first | rfl | (simp only [jN, seval, vint, NdS, NdF, qG] <;> first | done | with_reducible rfl)), (by first | rfl | (simp only [jN, seval, vint, NdS, NdF, qG] <;> first | done | with_reducible rfl)), (by first | rfl | (simp only [jN, seval, vint, NdS, NdF, qG] <;> first | done | with_reducible rfl)), (by first | rfl | (simp only [jN, seval, vint, NdS, NdF, qG] <;> first | done | with_reducible rfl)), trivial⟩ (⟨Nat.zero_le _, hm, hk.app _, ((Fr.refl cid H0).app _)⟩) ?_
   intro z H1 hg
   obtain ⟨j, dsj, lvj, cidj⟩ := z
   obtain ⟨hj, hmj, hkj, fj⟩ := hg
   simp only at hj hmj hkj fj
   rcases Nat.lt_or_ge j n.kids.length with hi | hi
   ·-- case
    have gi := ix_nat hi
    have ge := get_enc Nd.enc hi
    have gl : decide ((j : Int) < (n.kids.length : Int)) = true := decide_eq_true (by omega)
    have gwj : IntKind.i64.wrap ((j : Int) + 1) = ((j + 1 : Nat) : Int) := by rw [wrap_id (by omega) (by omega)]; omega
    rw [List.drop_eq_getElem_cons hi, visits_cons] at hmj
    obtain ⟨ds2, hv1, hmj⟩ := oB hmj
    repeat refine wS ?_
    refine eE (by simp only [kA, seval, y3, vint, NdS, NdF, qG, gi, ge, gl, gwj, tN, Nd.enc_len] <;> with_reducible rfl) (by decide) ?_
    repeat refine wS ?_
    refine awp_cond_true rfl (by simp only [jN, seval, vint, NdS, NdF, qG, gi, ge, gl, gwj, tN, Nd.enc_len] <;> with_reducible rfl) ?_
    repeat refine wS ?_
    refine wK ?_
    repeat refine wS ?_
    refine awp_block ?_
    repeat refine wS ?_
    refine eE (by simp only [kA, seval, y22, y24, vint, NdS, NdF, qG, gi, ge, gl, gwj, tN, Nd.enc_len] <;> with_reducible rfl) (by decide) ?_
    repeat refine wS ?_
    refine wR ?_
    refine eT 3 (by simp only [kA, seval, y24, vint, NdS, NdF, qG, gi, ge, gl, gwj, tN, Nd.enc_len] <;> with_reducible rfl) (by decide) ?_
    refine aops_callR (by simp only [acallR, jN, seval, vint, NdS, NdF, qG, gi, ge, gl, gwj, tN, Nd.enc_len] <;> with_reducible rfl) (by simp only [kC, seval, vint, NdS, NdF, qG, gi, ge, gl, gwj, tN, Nd.enc_len]) (by decide) Tryzgo14 (ih n.kids[j] (List.getElem_mem hi) dsj ds2 lvj cidj _ hv1 (hkj.app _)) ?_
    rintro rv H9 ⟨cid2, hk2, g2⟩
    refine e_end (by simp only [kA, seval, vint, NdS, NdF, qG, gi, ge, gl, gwj, tN, Nd.enc_len] <;> with_reducible rfl) (by decide) ?_
    repeat refine wS ?_
    refine eE (by simp only [kA, seval, y3, vint, NdS, NdF, qG, gi, ge, gl, gwj, tN, Nd.enc_len] <;> with_reducible rfl) (by decide) ?_
    try simp only [thenQ, blockQ]
    exact ⟨(j + 1, ds2, rv, cid2), by show n.kids.length - (j + 1) < n.kids.length - j; omega, ⟨rfl, rfl, rfl, rfl, rfl, trivial⟩, hi, hmj, hk2, fj.nx g2⟩
   ·-- case
    have gl : decide ((j : Int) < (n.kids.length : Int)) = false := decide_eq_false (by omega)
    rw [List.drop_eq_nil_of_le hi, visitsM] at hmj
    injection hmj with hmj
    subst hmj
    repeat refine wS ?_
    refine eE (by simp only [kA, seval, y3, vint, NdS, NdF, qG, gl] <;> with_reducible rfl) (by decide) ?_
    repeat refine wS ?_
    refine wF rfl (by simp only [jN, seval, vint, NdS, NdF, qG, gl] <;> with_reducible rfl) ?_
    repeat refine wS ?_
    refine awp_exit ?_
    simp only [thenQ, blockQ, reduceIte, Nat.reduceEqDiff, Nat.succ_ne_self, if_true, if_false]
    repeat refine wS ?_
    refine eE (by simp only [kA, seval, vint, NdS, NdF, qG, gl] <;> with_reducible rfl) (by decide) ?_
    repeat refine wS ?_
    refine wT ⟨.inr rfl, _, rfl, ?_⟩
    exact ⟨cidj, hkj, fj⟩
 ·-- else t13
  rw [if_neg (by rw [bt13]; simp)] at hh
  injection hh with hh
  subst hh
  repeat refine wS ?_
  refine wK ?_
  repeat refine wS ?_
  refine eE (by simp only [kA, seval, y22, y24, vint, NdS, NdF, qG] <;> with_reducible rfl) (by decide) ?_
  repeat refine wS ?_
  refine awp_block ?_
  refine awp_loopX (σ := Nat × List Dg × PV × List Nat) (fun (z : Nat × List Dg × PV × List Nat) => [(0, vint m), (30, .slice (n.kids.map Nd.enc) .none), (31, vint (n.kids.length : Int)), (32, vint (z.1 : Int)), (2, z.2.2.1)]) (fun (z : Nat × List Dg × PV × List Nat) =>  fun H1 => z.1 ≤ n.kids.length ∧ visitsM K m (n.kids.drop z.1) z.2.1 = some ds' ∧ RwOk Dg.enc 5 H1 z.2.2.1 z.2.1 z.2.2.2 ∧ Fr cid z.2.2.2 H0 H1) (fun (z : Nat × List Dg × PV × List Nat) => n.kids.length - z.1) ((0, ds, lv, cid)) ⟨(by first | rfl | (simp only [jN, seval, vint, NdS, NdF, qG] <;> first | done | with_reducible rfl)), (by first | rfl | (simp only [jN, seval, vint, NdS, NdF, qG] <;> first | done | with_reducible rfl)), (by first | rfl | (simp only [jN, seval, vint, NdS, NdF, qG] <;> first | done | with_reducible rfl)), (by first | rfl | (simp only [jN, seval, vint, NdS, NdF, qG] <;> first | done | with_reducible rfl)), (by first | rfl | (simp only [jN, seval, vint, NdS, NdF, qG] <;> first | done | with_reducible rfl)), trivial⟩ (⟨Nat.zero_le _, hm, hk.app _, ((Fr.refl cid H0).app _)⟩) ?_
  intro z H1 hg
  obtain ⟨j, dsj, lvj, cidj⟩ := z
  obtain ⟨hj, hmj, hkj, fj⟩ := hg
  simp only at hj hmj hkj fj
  rcases Nat.lt_or_ge j n.kids.length with hi | hi
  ·-- case
   have gi := ix_nat hi
   have ge := get_enc Nd.enc hi
   have gl : decide ((j : Int) < (n.kids.length : Int)) = true := decide_eq_true (by omega)
   have gwj : IntKind.i64.wrap ((j : Int) + 1) = ((j + 1 : Nat) : Int) := by rw [wrap_id (by omega) (by omega)]; omega
   rw [List.drop_eq_getElem_cons hi, visits_cons] at hmj
   obtain ⟨ds2, hv1, hmj⟩ := oB hmj
   repeat refine wS ?_
   refine eE (by simp only [kA, seval, y3, vint, NdS, NdF, qG, gi, ge, gl, gwj, tN, Nd.enc_len] <;> with_reducible rfl) (by decide) ?_
   repeat refine wS ?_
   refine awp_cond_true rfl (by simp only [jN, seval, vint, NdS, NdF, qG, gi, ge, gl, gwj, tN, Nd.enc_len] <;> with_reducible rfl) ?_
   repeat refine wS ?_
   refine wK ?_
   repeat refine wS ?_
   refine awp_block ?_
   repeat refine wS ?_
   refine eE (by simp only [kA, seval, y22, y24, vint, NdS, NdF, qG, gi, ge, gl, gwj, tN, Nd.enc_len] <;> with_reducible rfl) (by decide) ?_
   repeat refine wS ?_
   refine wR ?_
   refine eT 3 (by simp only [kA, seval, y24, vint, NdS, NdF, qG, gi, ge, gl, gwj, tN, Nd.enc_len] <;> with_reducible rfl) (by decide) ?_
   refine aops_callR (by simp only [acallR, jN, seval, vint, NdS, NdF, qG, gi, ge, gl, gwj, tN, Nd.enc_len] <;> with_reducible rfl) (by simp only [kC, seval, vint, NdS, NdF, qG, gi, ge, gl, gwj, tN, Nd.enc_len]) (by decide) Tryzgo14 (ih n.kids[j] (List.getElem_mem hi) dsj ds2 lvj cidj _ hv1 (hkj.app _)) ?_
   rintro rv H9 ⟨cid2, hk2, g2⟩
   refine e_end (by simp only [kA, seval, vint, NdS, NdF, qG, gi, ge, gl, gwj, tN, Nd.enc_len] <;> with_reducible rfl) (by decide) ?_
   repeat refine wS ?_
   refine eE (by simp only [kA, seval, y3, vint, NdS, NdF, qG, gi, ge, gl, gwj, tN, Nd.enc_len] <;> with_reducible rfl) (by decide) ?_
   try simp only [thenQ, blockQ]
   exact ⟨(j + 1, ds2, rv, cid2), by show n.kids.length - (j + 1) < n.kids.length - j; omega, ⟨rfl, rfl, rfl, rfl, rfl, trivial⟩, hi, hmj, hk2, fj.nx g2⟩
  ·-- case
   have gl : decide ((j : Int) < (n.kids.length : Int)) = false := decide_eq_false (by omega)
   rw [List.drop_eq_nil_of_le hi, visitsM] at hmj
   injection hmj with hmj
   subst hmj
   repeat refine wS ?_
   refine eE (by simp only [kA, seval, y3, vint, NdS, NdF, qG, gl] <;> with_reducible rfl) (by decide) ?_
   repeat refine wS ?_
   refine wF rfl (by simp only [jN, seval, vint, NdS, NdF, qG, gl] <;> with_reducible rfl) ?_
   repeat refine wS ?_
   refine awp_exit ?_
   simp only [thenQ, blockQ, reduceIte, Nat.reduceEqDiff, Nat.succ_ne_self, if_true, if_false]
   repeat refine wS ?_
   refine eE (by simp only [kA, seval, vint, NdS, NdF, qG, gl] <;> with_reducible rfl) (by decide) ?_
   repeat refine wS ?_
   refine wT ⟨.inr rfl, _, rfl, ?_⟩
   exact ⟨cidj, hkj, fj⟩

theorem visit_all (K : Nat) (m : Int) : ∀ (k : Nat) (n : Nd), n.size ≤ k → n.size ≤ K → n.W → Vc K m n
 | 0, n, h, _, _ => by cases n; simp [Nd.size] at h
 | k + 1, n, h, hK, hw => visit_k hK hw fun u hu => visit_all K m k u (by have := Nd.size_kid hu; omega) (by have := Nd.size_kid hu; omega) (hw.kid hu)

end Go.Abs
set_option maxRecDepth 4000
namespace Go.Abs
open Go.Proofs

def visTM (K : Nat) : Nat → List Nd → List Dg → Option (List Dg)
 | _, [], ds => some ds
 | j, t :: ts, ds => (visitM K (j : Int) t ds).bind (visTM K (j + 1) ts)
theorem parseAllM_len {k n : Nat} : ∀ {ms : List Md} {ts : List Nd}, parseAllM k n ms = some ts → ts.length = ms.length
 | [], ts, h => by rw [parseAllM] at h; injection h with h; subst h; rfl
 | m :: r, ts, h => by
  rw [parseAllM] at h
  obtain ⟨t, _, h⟩ := oB h
  obtain ⟨ts2, h2, h⟩ := oB h
  injection h with h
  subst h
  simp [parseAllM_len h2]

theorem check_c {H0 : Heap} (hG : Pre G0 H0) (k n K : Nat) (ms : List Md) {ts : List Nd} {ds : List Dg} (h8 : ms.length ≤ 8) (hnm : ∀ m ∈ ms, m.name.length ≤ maxLen) (h2k : ∀ m ∈ ms, m.src.length ≤ 2000) (hv : validM ms = 0) (hm : parseAllM k n ms = some ts) (hsz : ∀ t ∈ ts, t.size ≤ K ∧ t.W) (hvis : visTM K 0 ts [] = some ds) (hds : ds.length ≤ 1) : ACalls Tryz.prog 9 [.slice (ms.map Md.enc) .none] H0 fun r H' => r = .tup [.slice (ds.map Dg.enc) .none, vint 0] ∧ Fr [] [] H0 H' := by
 have htl := parseAllM_len hm
 have hmx : maxLen = 9223372036854775807 := by decide
 refine aF (N := 34) Tryz.func9 rfl rfl (by simp) fun hb' => ?_
 repeat refine wS ?_
 refine eE (by simp only [kA, seval, vint, NdS, NdF, qG] <;> with_reducible rfl) (by decide) ?_
 repeat refine wS ?_
 refine wR ?_
 refine eT 1 (by simp only [kA, seval, vint, NdS, NdF, qG] <;> with_reducible rfl) (by decide) ?_
 refine oC (by simp only [kC, seval, vint, NdS, NdF, qG] <;> with_reducible rfl) (by simp only [kC, seval]) (by decide) Tryzgo13 (parseAll_c hG k n ms h8 hnm h2k hv hm) ?_
 rintro _ H1 ⟨rfl, f1⟩
 refine e_end (by simp only [kA, seval, vint, NdS, NdF, qG] <;> with_reducible rfl) (by decide) ?_
 repeat refine wS ?_
 refine eE (by simp only [kA, seval, y28, vint, NdS, NdF, qG] <;> with_reducible rfl) (by decide) ?_
 repeat refine wS ?_
 refine wF rfl (by simp only [jN, seval, vint, NdS, NdF, qG] <;> with_reducible rfl) ?_
 repeat refine wS ?_
 refine wK ?_
 repeat refine wS ?_
 refine eE (by simp only [kA, seval, vint, NdS, NdF, qG] <;> with_reducible rfl) (by decide) ?_
 repeat refine wS ?_
 refine eE (by simp only [kA, seval, y22, y24, vint, NdS, NdF, qG] <;> with_reducible rfl) (by decide) ?_
 repeat refine wS ?_
 refine awp_block ?_
 refine awp_loopX (σ := Nat × List Dg × PV × List Nat) (fun (z : Nat × List Dg × PV × List Nat) => [(19, .slice (ts.map Nd.enc) .none), (20, vint (ts.length : Int)), (21, vint (z.1 : Int)), (7, z.2.2.1)]) (fun (z : Nat × List Dg × PV × List Nat) =>  fun H2 => z.1 ≤ ts.length ∧ visTM K z.1 (ts.drop z.1) z.2.1 = some ds ∧ RwOk Dg.enc 5 H2 z.2.2.1 z.2.1 z.2.2.2 ∧ Fr [] z.2.2.2 H0 H2) (fun (z : Nat × List Dg × PV × List Nat) => ts.length - z.1) ((0, [], .slice [] .full, [])) ⟨(by first | rfl | (simp only [jN, seval, vint, NdS, NdF, qG] <;> first | done | with_reducible rfl)), (by first | rfl | (simp only [jN, seval, vint, NdS, NdF, qG] <;> first | done | with_reducible rfl)), (by first | rfl | (simp only [jN, seval, vint, NdS, NdF, qG] <;> first | done | with_reducible rfl)), (by first | rfl | (simp only [jN, seval, vint, NdS, NdF, qG] <;> first | done | with_reducible rfl)), trivial⟩ (⟨Nat.zero_le _, hvis, .nil, f1⟩) ?_
 intro z H2 hg
 obtain ⟨j, dsj, lvj, cidj⟩ := z
 obtain ⟨hj, hmj, hkj, fj⟩ := hg
 simp only at hj hmj hkj fj
 rcases Nat.lt_or_ge j ts.length with hi | hi
 ·-- case
  have gi := ix_nat hi
  have ge := get_enc Nd.enc hi
  have gl : decide ((j : Int) < (ts.length : Int)) = true := decide_eq_true (by omega)
  have gwj : IntKind.i64.wrap ((j : Int) + 1) = ((j + 1 : Nat) : Int) := by rw [wrap_id (by omega) (by omega)]; omega
  rw [List.drop_eq_getElem_cons hi, visTM] at hmj
  obtain ⟨ds2, hv1, hmj⟩ := oB hmj
  repeat refine wS ?_
  refine eE (by simp only [kA, seval, y3, vint, NdS, NdF, qG, gi, ge, gl, gwj, tN, Nd.enc_len] <;> with_reducible rfl) (by decide) ?_
  repeat refine wS ?_
  refine awp_cond_true rfl (by simp only [jN, seval, vint, NdS, NdF, qG, gi, ge, gl, gwj, tN, Nd.enc_len] <;> with_reducible rfl) ?_
  repeat refine wS ?_
  refine wK ?_
  repeat refine wS ?_
  refine awp_block ?_
  repeat refine wS ?_
  refine eE (by simp only [kA, seval, y22, y24, vint, NdS, NdF, qG, gi, ge, gl, gwj, tN, Nd.enc_len] <;> with_reducible rfl) (by decide) ?_
  repeat refine wS ?_
  refine wR ?_
  refine eT 3 (by simp only [kA, seval, y24, vint, NdS, NdF, qG, gi, ge, gl, gwj, tN, Nd.enc_len] <;> with_reducible rfl) (by decide) ?_
  refine aops_callR (by simp only [acallR, jN, seval, vint, NdS, NdF, qG, gi, ge, gl, gwj, tN, Nd.enc_len] <;> with_reducible rfl) (by simp only [kC, seval, vint, NdS, NdF, qG, gi, ge, gl, gwj, tN, Nd.enc_len]) (by decide) Tryzgo14 (visit_all K (j : Int) K ts[j] (hsz _ (List.getElem_mem hi)).1 (hsz _ (List.getElem_mem hi)).1 (hsz _ (List.getElem_mem hi)).2 dsj ds2 lvj cidj _ hv1 (hkj.app _)) ?_
  rintro rv H9 ⟨cid2, hk2, g2⟩
  refine e_end (by simp only [kA, seval, vint, NdS, NdF, qG, gi, ge, gl, gwj, tN, Nd.enc_len] <;> with_reducible rfl) (by decide) ?_
  repeat refine wS ?_
  refine eE (by simp only [kA, seval, y3, vint, NdS, NdF, qG, gi, ge, gl, gwj, tN, Nd.enc_len] <;> with_reducible rfl) (by decide) ?_
  try simp only [thenQ, blockQ]
  exact ⟨(j + 1, ds2, rv, cid2), by show ts.length - (j + 1) < ts.length - j; omega, ⟨rfl, rfl, rfl, rfl, trivial⟩, hi, hmj, hk2, fj.nx g2⟩
 ·-- case
  have gl : decide ((j : Int) < (ts.length : Int)) = false := decide_eq_false (by omega)
  rw [List.drop_eq_nil_of_le hi, visTM] at hmj
  injection hmj with hmj
  subst hmj
  repeat refine wS ?_
  refine eE (by simp only [kA, seval, y3, vint, NdS, NdF, qG, gl] <;> with_reducible rfl) (by decide) ?_
  repeat refine wS ?_
  refine wF rfl (by simp only [jN, seval, vint, NdS, NdF, qG, gl] <;> with_reducible rfl) ?_
  repeat refine wS ?_
  refine awp_exit ?_
  simp only [thenQ, blockQ, reduceIte, Nat.reduceEqDiff, Nat.succ_ne_self, if_true, if_false]
  repeat refine wS ?_
  refine awp_frzRw Dg.enc_len (by decide) 7 hkj rfl fun H4 hl4 hs4 => ?_
  refine wR ?_
  refine eT 1 (by simp only [kA, seval, vint, NdS, NdF, qG, gl] <;> with_reducible rfl) (by decide) ?_
  refine oC (by simp only [kC, seval, vint, NdS, NdF, qG, gl] <;> with_reducible rfl) (by simp only [kC, seval]) (by decide) Tryzgo15 (sortShort dsj hds _) ?_
  rintro _ _ ⟨rfl, rfl⟩
  refine oN ?_
  repeat refine wS ?_
  refine eE (by simp only [kA, seval, vint, NdS, NdF, qG, gl] <;> with_reducible rfl) (by decide) ?_
  repeat refine wS ?_
  refine wT ⟨.inr rfl, _, (ares_two (.tmp 2) (.tmp 3) rfl (ares_tmp1 (by decide)) (ares_tmp1 (by decide))), ?_⟩
  refine ⟨?_, ⟨by rw [hl4]; exact fj.len, fun id h1 h2 => (hs4 id (fun h => by cases fj.ids id h h1)).trans (fj.same id h1 h2), fun id h => by cases h⟩⟩
  simp only [jN, seval, vint, NdS, NdF, qG]
  try rfl

end Go.Abs
set_option maxRecDepth 4000
namespace Go.Abs
open Go.Proofs

def srcF : List UInt8 := [102, 110, 32, 102, 40, 41, 32, 45, 62, 32, 105, 110, 116, 32, 123, 32, 114, 101, 116, 117, 114, 110, 32, 49, 59, 32, 50, 32, 125]
def mdF : Md := ⟨[109], srcF⟩
def ndF : Nd := .mk 1 0 [] 0 29 (-1) [(.mk 3 0 [102] 0 29 3 [(.mk 10 0 [] 4 4 (-1) []), (.mk 12 0 [] 5 6 (-1) []), (.mk 17 0 [] 10 13 (-1) [(.mk 18 0 [105, 110, 116] 10 13 10 [])]), (.mk 21 0 [] 14 29 (-1) [(.mk 25 0 [] 16 25 (-1) [(.mk 27 1 [] 23 24 (-1) [])]), (.mk 27 2 [] 26 27 (-1) [])])])]
mutual
def allW : Nd → Bool
 | .mk _ _ _ _ _ _ us => decide (us.length * 80 ≤ 2 ^ 47) && allWs us
def allWs : List Nd → Bool
 | [] => true
 | u :: us => allW u && allWs us
end
mutual
theorem allW_W : ∀ n : Nd, allW n = true → n.W
 | .mk _ _ _ _ _ _ us, h => by
  rw [allW, Bool.and_eq_true] at h
  exact .mk (of_decide_eq_true h.1) (allWs_W us h.2)
theorem allWs_W : ∀ us : List Nd, allWs us = true → ∀ u ∈ us, u.W
 | [], _ => fun u hu => by cases hu
 | v :: us, h => fun u hu => by
  rw [allWs, Bool.and_eq_true] at h
  rcases List.mem_cons.1 hu with h1 | hu
  ·rw [h1]; exact allW_W v h.1
  ·exact allWs_W us h.2 u hu
end
theorem par_F : parseAllM 40 40 [mdF] = some [ndF] := by kernel_rfl
theorem size_F : ndF.size ≤ 40 := of_decide_eq_true (by kernel_rfl)
theorem W_F : ndF.W := allW_W _ (by kernel_rfl)
theorem vis_F : visTM 40 0 [ndF] [] = some [⟨113, 0, 26, 27, []⟩] := by kernel_rfl
theorem val_F : validM [mdF] = 0 := by kernel_rfl
theorem checkF_c {H0 : Heap} (hG : Pre G0 H0) : ACalls Tryz.prog 9 [.slice ([mdF].map Md.enc) .none] H0 fun r H' => r = .tup [.slice ([(⟨113, 0, 26, 27, []⟩ : Dg)].map Dg.enc) .none, vint 0] ∧ Fr [] [] H0 H' :=
 check_c hG 40 40 40 [mdF] (by decide) (by decide) (by decide) val_F par_F (fun t ht => by rw [List.mem_singleton] at ht; subst ht; exact ⟨size_F, W_F⟩) vis_F (by decide)

theorem works7_c {H0 : Heap} (hG : Pre G0 H0) : ACalls Tryz.prog 7 [] H0 fun r H' => r = .bool true ∧ Fr [] [] H0 H' := by
 refine aF (N := 31) Tryz.func7 rfl rfl (by simp) fun hb' => ?_
 repeat refine wS ?_
 refine eE (by simp only [kA, seval, vint, NdS, NdF, qG, qM] <;> with_reducible rfl) (by decide) ?_
 repeat refine wS ?_
 refine eE (by simp only [kA, seval, vint, NdS, NdF, qG, qM] <;> with_reducible rfl) (by decide) ?_
 repeat refine wS ?_
 refine wR ?_
 refine eT 3 (by simp only [kA, seval, y32, y33, vint, NdS, NdF, qG, qM] <;> with_reducible rfl) (by decide) ?_
 refine oC (by simp only [kC, seval, vint, NdS, NdF, qG, qM, mdF, srcF] <;> with_reducible rfl) (by simp only [kC, seval]) (by decide) Tryzgo9 (checkF_c hG) ?_
 rintro _ H1 ⟨rfl, f1⟩
 refine e_end (by simp only [kA, seval, vint, NdS, NdF, qG, qM] <;> with_reducible rfl) (by decide) ?_
 repeat refine wS ?_
 refine dp_draw (by kernel_rfl) ?_
 refine dp_end (by simp only [jP, jO, jN, seval, y3, y9, y27, y28, y35, jS, vint, NdS, NdF, qG, qM] <;> with_reducible rfl) (by decide) (by repeat (first | exact Fin.base _ | with_reducible apply Fin.keep | apply Fin.drop)) ?_
 repeat refine wS ?_
 refine wT ⟨.inr rfl, _, rfl, ?_⟩
 exact ⟨rfl, f1⟩

end Go.Abs
set_option maxRecDepth 4000
namespace Go.Abs
open Go.Proofs

theorem NdF3 : ∀ (k v : Int) (t : List UInt8) (s e n : Int) (a b c : Nd), PV.agg [.int .i64 k, .int .i64 v, .str t, .int .i64 s, .int .i64 e, .int .i64 n, .slice [a.enc, b.enc, c.enc] .none] = (Nd.mk k v t s e n [a, b, c]).enc :=
 fun k v t s e n a b c => Nd.fold k v t s e n [a, b, c]

theorem law_ref {H0 : Heap} (hG : Pre G0 H0) (n : Nd) (hw : n.W) : ACalls Tryz.prog 4 [n.enc] H0 fun r H' => r = .bool true ∧ Fr [] [] H0 H' := by
 refine aF (N := 10) Tryz.func4 rfl rfl (by simp) fun hb' => ?_
 repeat refine wS ?_
 refine eE (by simp only [kA, seval, y24, vint, NdS, NdF, NdF3, qG] <;> with_reducible rfl) (by decide) ?_
 repeat refine wS ?_
 refine wR ?_
 refine oC (by simp only [kC, seval, vint, NdS, NdF, NdF3, qG] <;> with_reducible rfl) (by simp only [kC, seval]) (by decide) Tryzgo7 (works7_c (hG.app _)) ?_
 rintro _ H1 ⟨rfl, f1⟩
 have hl1 := f1.len
 simp only [List.length_append, List.length_cons, List.length_nil] at hl1
 have hz1 : H1[H0.length]? = some (.row [.int .i64 n.kind, .int .i64 n.value, .str n.text, .int .i64 n.st, .int .i64 n.en, .int .i64 n.ns, .slice (n.kids.map Nd.enc) .none]) := (f1.get (show (H0 ++ [.row [.int .i64 n.kind, .int .i64 n.value, .str n.text, .int .i64 n.st, .int .i64 n.en, .int .i64 n.ns, .slice (n.kids.map Nd.enc) .none]])[H0.length]? = some (.row [.int .i64 n.kind, .int .i64 n.value, .str n.text, .int .i64 n.st, .int .i64 n.en, .int .i64 n.ns, .slice (n.kids.map Nd.enc) .none]) by simp) (by simp)).1
 have qz1 := getL hz1
 have hG1 : Pre G0 H1 := fun q o hq => (f1.get ((hG.app _) q o hq) (by simp)).1
 have g1 : Fr [] [] H0 H1 := f1.of_app
 refine e_end (by simp only [kA, seval, vint, NdS, NdF, NdF3, qG, hz1, qz1] <;> with_reducible rfl) (by decide) ?_
 repeat refine wS ?_
 refine wF rfl (by simp only [jN, seval, vint, NdS, NdF, NdF3, qG, hz1, qz1] <;> with_reducible rfl) ?_
 repeat refine wS ?_
 refine wK ?_
 repeat refine wS ?_
 refine dp_draw (by kernel_rfl) ?_
 refine dp_take 1 (by simp only [jP, jO, jN, seval, y24, vint, NdS, NdF, NdF3, qG, hz1, qz1] <;> with_reducible rfl) (by decide) ?_
 refine dp_keep (by simp only [kE, seval, vint, NdS, NdF, NdF3, qG, hz1, qz1] <;> with_reducible rfl) (by simp only [kE, seval, vint, NdS, NdF, NdF3, qG, hz1, qz1] <;> with_reducible rfl) (by simp only [kE, seval, vint, NdS, NdF, NdF3, qG, hz1, qz1]) (by decide) Tryzgo6 (fun hc => dv_all n.size n (Nat.le_refl _) hw _) ?_
 refine dp_take 1 (by simp only [jP, jO, jN, seval, y24, vint, NdS, NdF, NdF3, qG, hz1, qz1] <;> with_reducible rfl) (by decide) ?_
 refine dp_keep (by simp only [kE, seval, vint, NdS, NdF, NdF3, qG, hz1, qz1] <;> with_reducible rfl) (by simp only [kE, seval, vint, NdS, NdF, NdF3, qG, hz1, qz1] <;> with_reducible rfl) (by simp only [kE, seval, vint, NdS, NdF, NdF3, qG, hz1, qz1]) (by decide) Tryzgo8 (fun hc => nv_all n.size n (Nat.le_refl _) hw _) ?_
 refine dp_end (by simp only [jP, jO, jN, seval, y4, vint, NdS, NdF, NdF3, qG, hz1, qz1] <;> with_reducible rfl) (by decide) (by repeat (first | exact Fin.base _ | with_reducible apply Fin.keep | apply Fin.drop)) ?_
 repeat refine wS ?_
 refine wT ⟨.inr rfl, _, rfl, ?_⟩
 refine ⟨by first | rfl | simp, ?_⟩
 exact g1

end Go.Abs
namespace Go.Abs

/-! From a reading of the arguments to the trees, and back. -/

/-- A world as it is handed to a call: all that lies in it stays. -/
def env0 (W : World) : Env := { w := W, κ := fun _ => .fixed, ρ := fun _ => 0, tb := fun _ => none, H := [] }
theorem env0_cell (W : World) (a : Addr) : (env0 W).view.cell a = W.cell? a := rfl

def RLl (V : View) (cs : List Value) (ps : List PV) : Prop := cs.length = ps.length ∧ ∀ i (h : i < ps.length), VRel V (cs.getD i undef) ps[i]

theorem RLl.nil {V : View} : RLl V [] [] := ⟨rfl, fun i h => by cases h⟩
theorem RLl.cons {V : View} {c : Value} {cs : List Value} {p : PV} {ps : List PV} (h : VRel V c p) (hs : RLl V cs ps) : RLl V (c :: cs) (p :: ps) := by
 refine ⟨by simp [hs.1], fun i hi => ?_⟩
 cases i with
 | zero => exact h
 | succ i => exact hs.2 i (by simpa using hi)
theorem RLl.app {V : View} {c1 c2 : List Value} {p1 p2 : List PV} (h1 : RLl V c1 p1) (h2 : RLl V c2 p2) : RLl V (c1 ++ c2) (p1 ++ p2) := by
 refine ⟨by simp [h1.1, h2.1], fun i hi => ?_⟩
 by_cases h : i < p1.length
 ·have := h1.2 i h
  simp only [List.getD_eq_getElem?_getD] at this ⊢
  rw [List.getElem?_append_left (by rw [h1.1]; exact h), List.getElem_append_left h]; exact this
 ·have := h2.2 (i - p1.length) (by simp at hi; omega)
  simp only [List.getD_eq_getElem?_getD] at this ⊢
  rw [List.getElem?_append_right (by rw [h1.1]; omega), List.getElem_append_right (by omega), h1.1]; exact this
theorem RLl.agg {V : View} {arr : Array Value} {ps : List PV} (h : RLl V arr.toList ps) : VRel V (.agg arr) (.agg ps) := by
 refine .agg _ _ (by have := h.1; simpa using this) fun i hi => ?_
 have := h.2 i hi
 rw [List.getD_eq_getElem?_getD, Array.getElem?_toList] at this
 rw [Array.getD_eq_getD_getElem?]; exact this
theorem RLl.one {V : View} {v : Value} {p : PV} (h : RLl V [v] [p]) : VRel V v p := h.2 0 (by simp)

theorem exists_list {α : Type} {n : Nat} {p : Nat → α → Prop} (h : ∀ i, i < n → ∃ a, p i a) : ∃ xs : List α, xs.length = n ∧ ∀ i (hi : i < xs.length), p i xs[i] := by
 induction n with
 | zero => exact ⟨[], rfl, fun i hi => by cases hi⟩
 | succ n ih =>
  obtain ⟨xs, h1, h2⟩ := ih fun i hi => h i (by omega)
  obtain ⟨a, ha⟩ := h n (by omega)
  refine ⟨xs ++ [a], by simp [h1], fun i hi => ?_⟩
  by_cases hlt : i < xs.length
  ·rw [List.getElem_append_left hlt]; exact h2 i hlt
  ·rw [List.getElem_append_right (by omega)]
   simp at hi
   obtain rfl : i = n := by omega
   simpa using ha

/-- A list and the data of a slice. -/
def SlD {α : Type} {H : Type} (D : α → DataW H → Prop) (xs : List α) (d : DataW H) : Prop :=
 (xs = [] ∧ d = .nil) ∨ ∃ els sp, d = .slice els sp ∧ xs.length = els.length ∧ ∀ i (h1 : i < xs.length) (h2 : i < els.length), D xs[i] els[i]

section
variable {H : Type} {enc : TypeId × Value → H} {P : Program} {W : World} {spare : Nat → Bool} {held : Bool}

theorem rd_slice {α : Type} (en : α → PV) (D : α → DataW H → Prop) {t e : TypeId} {fuel : Nat} {cs : List Value} {x : DataW H × List MemPlace} (ht : P.underlying t = some (.slice e)) (hsz : ∀ a, (en a).cells.length = P.cellsOf e)
  (h : DataW.trod enc P W 0 spare held fuel t cs = some x) (ih : ∀ n cs' x', n < fuel → DataW.trod enc P W 0 spare held n e cs' = some x' → ∃ a, RLl (env0 W).view cs' (en a).cells ∧ D a x'.1) :
  ∃ (xs : List α) (v : Value), cs = [v] ∧ VRel (env0 W).view v (.slice (xs.map en) .none) ∧ SlD D xs x.1 := by
 rcases DataW.trod_slice ht h with ⟨rfl, rfl⟩ | ⟨a, len, cap, elems, rest, n, rfl, rfl, rfl, hb, hl, hm, hlen, hel, _, _⟩
 ·exact ⟨[], _, rfl, .nils .none trivial, .inl ⟨rfl, rfl⟩⟩
 ·obtain ⟨ys, hys, hp⟩ := exists_list (α := α × List Value) (n := len) (p := fun i y => W.cells? 0 (a.add (i * P.cellsOf e)) (P.cellsOf e) = some y.2 ∧ RLl (env0 W).view y.2 (en y.1).cells ∧ ∀ h : i < elems.length, D y.1 elems[i].1) (fun i hi => by
   have := hel i hi
   rw [List.getElem?_eq_getElem (by omega)] at this
   obtain ⟨cs', h1, h2⟩ := oB this
   obtain ⟨y, h3, h4⟩ := ih n cs' _ (by omega) h2
   exact ⟨(y, cs'), h1, h3, fun _ => h4⟩)
  refine ⟨ys.map (·.1), _, rfl, ?_, .inr ⟨_, _, rfl, by simp [hys, hlen], fun i h1 h2 => ?_⟩⟩
  ·have hget : ∀ i (hi : i < ys.length), ys[i]? = some ys[i] := fun i hi => List.getElem?_eq_getElem hi
   refine .slice a len cap (P.cellsOf e) _ .none (fun i j => match ys[i]? with | some y => y.2.getD j undef | none => undef) (by simp [hys]) hl hm ?_ ?_ ?_ trivial
   ·intro i hi; simp only [List.getElem_map]; exact hsz _
   ·intro i j hi hj
    have hi' : i < ys.length := by omega
    obtain ⟨h1, h2, _⟩ := hp i hi'
    obtain ⟨_, h4, h5⟩ := World.cells?_some h1
    have := h5 j hj
    rw [hget i hi']
    simp only
    rw [env0_cell, ← add_add, this, List.getD_eq_getElem?_getD, List.getElem?_eq_getElem (by omega)]; rfl
   ·intro i j hi hj
    have hi' : i < ys.length := by simpa using hi
    simp only [List.getElem_map] at hj ⊢
    rw [hget i hi']
    exact (hp i hi').2.1.2 j hj
  ·simp only [List.getElem_map]
   exact (hp i (by simpa using h1)).2.2 _

/-- The field of a structure. -/
theorem rd_fields {t : TypeId} {fs : Array Field} {fuel : Nat} {cs : List Value} {x : DataW H × List MemPlace} (ht : P.underlying t = some (.struct fs)) (h : DataW.trod enc P W 0 spare held fuel t cs = some x) :
  ∃ (ds : List (DataW H)) (n : Nat), fuel = n + 1 ∧ x.1 = .agg ds ∧ cs.length = P.cellsOf t ∧ ds.length = fs.size ∧ ∀ (i : Nat) (f : Field), fs[i]? = some f → ∃ d ps, ds[i]? = some d ∧ DataW.trod enc P W 0 spare held n f.type ((cs.drop f.offset).take (P.cellsOf f.type)) = some (d, ps) := by
 obtain ⟨xs, n, h1, rfl, h3, h4, h5⟩ := DataW.trod_struct ht h
 refine ⟨xs.map (·.1), n, h1, rfl, h3, by simpa using h4, fun i f hf => ?_⟩
 have hi : i < xs.length := by
  rw [h4]
  rcases Nat.lt_or_ge i fs.size with hl | hl
  ·exact hl
  ·rw [Array.getElem?_eq_none hl] at hf; cases hf
 have := h5 i f hf
 rw [List.getElem?_eq_getElem hi] at this
 exact ⟨xs[i].1, xs[i].2, by simp [hi], this⟩

theorem rd_int {t : TypeId} {k : IntKind} {fuel : Nat} {cs : List Value} {x : DataW H × List MemPlace} (ht : P.underlying t = some (.int k)) (h : DataW.trod enc P W 0 spare held fuel t cs = some x) : ∃ n, RLl (env0 W).view cs [.int k n] ∧ x.1 = .lit (.int k n) ∧ (Lit.int k n).wf = true ∧ cs = [.int k n] := by
 obtain ⟨n, rfl, rfl, h3⟩ := DataW.trod_int ht h
 exact ⟨n, .cons (.int _ _) .nil, rfl, h3, rfl⟩
theorem rd_string {t : TypeId} {fuel : Nat} {cs : List Value} {x : DataW H × List MemPlace} (ht : P.underlying t = some .string) (h : DataW.trod enc P W 0 spare held fuel t cs = some x) : ∃ s : List UInt8, RLl (env0 W).view cs [.str s] ∧ x.1 = .lit (.string s) ∧ s.length ≤ maxLen := by
 obtain ⟨s, rfl, rfl, h3⟩ := DataW.trod_string ht h
 exact ⟨s.data.toList, .cons (.str _) .nil, rfl, by simpa using h3⟩
end

/-- The data of a type. -/
inductive TyD {H : Type} : Ty → DataW H → Prop
 | nil (k i : Int) : TyD (.mk k i []) (.agg [.lit (.int .i64 k), .lit (.int .i64 i), .nil])
 | slice (k i : Int) (xs : List Ty) (es sp : List (DataW H)) (hl : xs.length = es.length) (h : ∀ j (h1 : j < xs.length) (h2 : j < es.length), TyD xs[j] es[j]) : TyD (.mk k i xs) (.agg [.lit (.int .i64 k), .lit (.int .i64 i), .slice es sp])
theorem TyD.of {H : Type} {k i : Int} {xs : List Ty} {d : DataW H} (h : SlD TyD xs d) : TyD (.mk k i xs) (.agg [.lit (.int .i64 k), .lit (.int .i64 i), d]) := by
 rcases h with ⟨rfl, rfl⟩ | ⟨es, sp, rfl, h1, h2⟩
 ·exact .nil k i
 ·exact .slice k i xs es sp h1 h2

/-- The facts on a program's type 'api.Type' that a reading looks at. -/
structure TyAt (P : Program) (T S : TypeId) : Prop where
 st : ∃ f0 f1 f2 : Field, P.underlying T = some (.struct #[f0, f1, f2]) ∧ P.underlying f0.type = some (.int .i64) ∧ P.underlying f1.type = some (.int .i64) ∧ f2.type = S ∧ f0.offset = 0 ∧ f1.offset = 1 ∧ f2.offset = 2 ∧ P.cellsOf f0.type = 1 ∧ P.cellsOf f1.type = 1
 sl : P.underlying S = some (.slice T)
 c : P.cellsOf T = 3
 cs : P.cellsOf S = 1
 by40 : P.bytesOf T = 40

section
variable {H : Type} {enc : TypeId × Value → H} {P : Program} {W : World} {spare : Nat → Bool} {held : Bool} {T S : TypeId}

theorem rd_ty (F : TyAt P T S) : ∀ (fuel : Nat) (cs : List Value) (x : DataW H × List MemPlace), DataW.trod enc P W 0 spare held fuel T cs = some x → ∃ t : Ty, RLl (env0 W).view cs t.enc.cells ∧ TyD t x.1 := by
 intro fuel
 induction fuel using Nat.strongRecOn with
 | _ fuel ih =>
 intro cs x h
 obtain ⟨f0, f1, f2, hst, u0, u1, e2, o0, o1, o2, c0, c1⟩ := F.st
 obtain ⟨ds, n, rfl, hx, hlen, hdl, hf⟩ := rd_fields hst h
 rw [F.c] at hlen
 match cs, hlen with
 | [v0, v1, v2], _ =>
 obtain ⟨d0, p0, g0, r0⟩ := hf 0 f0 rfl
 obtain ⟨d1, p1, g1, r1⟩ := hf 1 f1 rfl
 obtain ⟨d2, p2, g2, r2⟩ := hf 2 f2 rfl
 rw [o0, c0] at r0
 rw [o1, c1] at r1
 rw [o2, e2, F.cs] at r2
 obtain ⟨k, q0, rfl, w0, _⟩ := rd_int u0 r0
 obtain ⟨i, q1, rfl, w1, _⟩ := rd_int u1 r1
 obtain ⟨xs, v, hv, hr, hd⟩ := rd_slice Ty.enc TyD F.sl (fun a => by rw [F.c, Ty.enc_len]) r2 (fun m cs' x' hm h' => ih m (by omega) cs' x' h')
 simp only [List.drop_succ_cons, List.drop_zero, List.take_succ_cons, List.take_zero, List.cons.injEq, and_true] at hv
 subst hv
 refine ⟨.mk k i xs, ?_, ?_⟩
 ·rw [Ty.enc_cells]
  exact .cons q0.one (.cons q1.one (.cons hr .nil))
 ·rw [hx]
  have : ds = [.lit (.int .i64 k), .lit (.int .i64 i), d2] := by
   match ds, hdl with
   | [a, b, c], _ =>
    simp at g0 g1 g2
    rw [g0, g1, g2]
  rw [this]
  exact .of hd

end
end Go.Abs
namespace Go.Abs
theorem RLl.rl {V : View} {arr : Array Value} {ps : List PV} (h : RLl V arr.toList ps) : RL V arr ps := by
 refine ⟨by have := h.1; simpa using this, fun i hi => ?_⟩
 have := h.2 i hi
 rw [List.getD_eq_getElem?_getD, Array.getElem?_toList] at this
 rw [Array.getD_eq_getD_getElem?]; exact this
theorem Ty.enc_agg (t : Ty) : PV.agg t.enc.cells = t.enc := by rw [Ty.enc_cells, Ty.enc_eq]
end Go.Abs
namespace Go.Abs
/-- A world with constants that a call may look at. -/
def envG (W : World) (G : Heap) : Env := { w := W, κ := fun _ => .fixed, ρ := fun _ => 0, tb := fun _ => none, H := G }
theorem envG_ok {W : World} {G : Heap} (hG : ∀ o ∈ G, ∃ b vs, o = AObj.glob b vs) (hW : ∀ b vs, AObj.glob b vs ∈ G → ∀ i (h : i < vs.length), W.cell? ⟨b, i, none⟩ = some vs[i]) : (envG W G).Ok := by
 have hk : ∀ id o, (envG W G).H[id]? = some o → ∃ b vs, o = AObj.glob b vs := fun id o h => hG o (List.mem_of_getElem? h)
 constructor
 ·intro id cs h; obtain ⟨b, vs, e⟩ := hk _ _ h; cases e
 ·intro id n sz b h; obtain ⟨b, vs, e⟩ := hk _ _ h; cases e
 ·intro id id' cs cs' h; obtain ⟨b, vs, e⟩ := hk _ _ h; cases e
 ·intro id id' n sz n' sz' b h; obtain ⟨b, vs, e⟩ := hk _ _ h; cases e
 ·intro id b vs h i hi; exact hW b vs (List.mem_of_getElem? h) i hi
 ·exact ⟨fun id k h => (by obtain ⟨b, vs, e⟩ := hk _ _ h; cases e), fun id id' k k' h => (by obtain ⟨b, vs, e⟩ := hk _ _ h; cases e)⟩
theorem env0_envG (W : World) (G : Heap) : (env0 W).view.le (envG W G).view := by
 have hb : ∀ id, ¬ (env0 W).view.born id := by
  rintro id ⟨o, h, _⟩
  simp [env0] at h
 exact ⟨fun a v h => h, fun id h => absurd h (hb id), fun id h => absurd h (hb id), fun id t h => absurd h (hb id)⟩
/-- The same of a call that may leave new objects behind. -/
theorem calls_of_ga {P : Program} {f : FuncId} {args : List PV} {b : Bool} {G : Heap} (h : ACalls P f args G fun r _ => r = .bool b) (W : World) (hG : ∀ o ∈ G, ∃ b vs, o = AObj.glob b vs) (hW : ∀ b vs, AObj.glob b vs ∈ G → ∀ i (h : i < vs.length), W.cell? ⟨b, i, none⟩ = some vs[i])
  (vargs : Array Value) (hr : RL (env0 W).view vargs args) : Calls P f vargs W fun e w' => e = .returned (.bool b) ∧ Go.RowKit.Below W.heap.size W w' := by
 refine (h (envG W G) vargs (envG_ok hG hW) rfl (hr.mono (env0_envG W G))).mono ?_
 rintro e w' ⟨E', v, r, rfl, rfl, hle, hok, hv, rfl⟩
 refine ⟨by rw [hv.bool_inv], hle.os, hle.tape, hle.output, hle.size, fun k hk => (hle.other k hk ?_).2⟩
 rintro (⟨id, cs, h, _⟩ | ⟨id, n, sz, h, _⟩ | ⟨id, k, h, _⟩) <;> (obtain ⟨b, vs, e⟩ := hG _ (List.mem_of_getElem? h); cases e)
/-- The cells of a table of numbers, as it is read. -/
theorem laid_ints {H : Type} {enc : TypeId × Value → H} {P : Program} {w : World} {sp : Nat → Bool} {held : Bool} {t e : TypeId} {n f : Nat} {k : IntKind} {cs : List Value} {ds : List (DataW H)} {q : List MemPlace}
  (ht : P.underlying t = some (.array n e)) (he : P.underlying e = some (.int k)) (hc : P.cellsOf e = 1) (h : DataW.trod enc P w 0 sp held f t cs = some (.agg ds, q)) :
  ∀ i, i < n → ∃ v, ds[i]? = some (.lit (.int k v)) ∧ cs[i]? = some (.int k v) := by
 intro i hi
 obtain ⟨xs, m, rfl, hx, hlen, hn, hel⟩ := DataW.trod_array ht h
 have h1 := hel i hi
 rw [hc, Nat.mul_one] at h1
 rw [List.getElem?_eq_getElem (by omega)] at h1
 obtain ⟨v, e1, e2, _⟩ := DataW.trod_int he h1
 simp only [Prod.mk.injEq, DataW.agg.injEq] at hx
 refine ⟨v, ?_, ?_⟩
 ·rw [hx.1, List.getElem?_map, List.getElem?_eq_getElem (by omega)]
  simp [e2]
 ·have : (cs.drop i).head? = some (.int k v) := by
   cases hd : cs.drop i with
   | nil => rw [hd] at e1; cases e1
   | cons a l => rw [hd] at e1; simp at e1; rw [e1]; rfl
  rw [List.head?_drop] at this
  exact this
end Go.Abs
namespace Go.Abs
/-! Reading nodes. -/
inductive NdD {H : Type} : Nd → DataW H → Prop
 | nil (k v : Int) (t : List UInt8) (s e n : Int) : NdD (.mk k v t s e n []) (.agg [.lit (.int .i64 k), .lit (.int .i64 v), .lit (.string t), .lit (.int .i64 s), .lit (.int .i64 e), .lit (.int .i64 n), .nil])
 | slice (k v : Int) (t : List UInt8) (s e n : Int) (xs : List Nd) (es sp : List (DataW H)) (hl : xs.length = es.length) (h : ∀ j (h1 : j < xs.length) (h2 : j < es.length), NdD xs[j] es[j]) :
   NdD (.mk k v t s e n xs) (.agg [.lit (.int .i64 k), .lit (.int .i64 v), .lit (.string t), .lit (.int .i64 s), .lit (.int .i64 e), .lit (.int .i64 n), .slice es sp])
theorem NdD.of {H : Type} {k v : Int} {t : List UInt8} {s e n : Int} {xs : List Nd} {d : DataW H} (h : SlD NdD xs d) : NdD (.mk k v t s e n xs) (.agg [.lit (.int .i64 k), .lit (.int .i64 v), .lit (.string t), .lit (.int .i64 s), .lit (.int .i64 e), .lit (.int .i64 n), d]) := by
 rcases h with ⟨rfl, rfl⟩ | ⟨es, sp, rfl, h1, h2⟩
 ·exact .nil k v t s e n
 ·exact .slice k v t s e n xs es sp h1 h2
structure NdAt (P : Program) (T S : TypeId) : Prop where
 st : ∃ f0 f1 f2 f3 f4 f5 f6 : Field, P.underlying T = some (.struct #[f0, f1, f2, f3, f4, f5, f6]) ∧
  (P.underlying f0.type = some (.int .i64) ∧ P.underlying f1.type = some (.int .i64) ∧ P.underlying f2.type = some .string ∧ P.underlying f3.type = some (.int .i64) ∧ P.underlying f4.type = some (.int .i64) ∧ P.underlying f5.type = some (.int .i64)) ∧ f6.type = S ∧
  (f0.offset = 0 ∧ f1.offset = 1 ∧ f2.offset = 2 ∧ f3.offset = 3 ∧ f4.offset = 4 ∧ f5.offset = 5 ∧ f6.offset = 6) ∧ (P.cellsOf f0.type = 1 ∧ P.cellsOf f1.type = 1 ∧ P.cellsOf f2.type = 1 ∧ P.cellsOf f3.type = 1 ∧ P.cellsOf f4.type = 1 ∧ P.cellsOf f5.type = 1)
 sl : P.underlying S = some (.slice T)
 c : P.cellsOf T = 7
 cs : P.cellsOf S = 1
 by80 : P.bytesOf T = 80
section
variable {H : Type} {enc : TypeId × Value → H} {P : Program} {W : World} {spare : Nat → Bool} {held : Bool} {T S : TypeId}
theorem rd_nd (F : NdAt P T S) : ∀ (fuel : Nat) (cs : List Value) (x : DataW H × List MemPlace), DataW.trod enc P W 0 spare held fuel T cs = some x → ∃ t : Nd, RLl (env0 W).view cs t.enc.cells ∧ NdD t x.1 := by
 intro fuel
 induction fuel using Nat.strongRecOn with
 | _ fuel ih =>
 intro cs x h
 obtain ⟨f0, f1, f2, f3, f4, f5, f6, hst, ⟨u0, u1, u2, u3, u4, u5⟩, e6, ⟨o0, o1, o2, o3, o4, o5, o6⟩, ⟨c0, c1, c2, c3, c4, c5⟩⟩ := F.st
 obtain ⟨ds, n, rfl, hx, hlen, hdl, hf⟩ := rd_fields hst h
 rw [F.c] at hlen
 match cs, hlen with
 | [v0, v1, v2, v3, v4, v5, v6], _ =>
 obtain ⟨d0, p0, g0, r0⟩ := hf 0 f0 rfl
 obtain ⟨d1, p1, g1, r1⟩ := hf 1 f1 rfl
 obtain ⟨d2, p2, g2, r2⟩ := hf 2 f2 rfl
 obtain ⟨d3, p3, g3, r3⟩ := hf 3 f3 rfl
 obtain ⟨d4, p4, g4, r4⟩ := hf 4 f4 rfl
 obtain ⟨d5, p5, g5, r5⟩ := hf 5 f5 rfl
 obtain ⟨d6, p6, g6, r6⟩ := hf 6 f6 rfl
 rw [o0, c0] at r0
 rw [o1, c1] at r1
 rw [o2, c2] at r2
 rw [o3, c3] at r3
 rw [o4, c4] at r4
 rw [o5, c5] at r5
 rw [o6, e6, F.cs] at r6
 obtain ⟨k, q0, rfl, _, _⟩ := rd_int u0 r0
 obtain ⟨v, q1, rfl, _, _⟩ := rd_int u1 r1
 obtain ⟨tx, q2, rfl, _⟩ := rd_string u2 r2
 obtain ⟨s, q3, rfl, _, _⟩ := rd_int u3 r3
 obtain ⟨e, q4, rfl, _, _⟩ := rd_int u4 r4
 obtain ⟨m, q5, rfl, _, _⟩ := rd_int u5 r5
 obtain ⟨xs, w, hv, hr, hd⟩ := rd_slice Nd.enc NdD F.sl (fun a => by rw [F.c, Nd.enc_len]) r6 (fun m cs' x' hm h' => ih m (by omega) cs' x' h')
 simp only [List.drop_succ_cons, List.drop_zero, List.take_succ_cons, List.take_zero, List.cons.injEq, and_true] at hv
 subst hv
 refine ⟨.mk k v tx s e m xs, ?_, ?_⟩
 ·rw [Nd.enc_cells]
  exact .cons q0.one (.cons q1.one (.cons q2.one (.cons q3.one (.cons q4.one (.cons q5.one (.cons hr .nil))))))
 ·rw [hx]
  have : ds = [.lit (.int .i64 k), .lit (.int .i64 v), .lit (.string tx), .lit (.int .i64 s), .lit (.int .i64 e), .lit (.int .i64 m), d6] := by
   match ds, hdl with
   | [a, b, c, d, e', f, g], _ =>
    simp at g0 g1 g2 g3 g4 g5 g6
    rw [g0, g1, g2, g3, g4, g5, g6]
  rw [this]
  exact .of hd
theorem nd_weights (F : NdAt P T S) {t : Nd} {d : DataW H} (h : NdD t d) (hw : (d.weights P T).all (· ≤ reachBytes) = true) : t.W := by
 obtain ⟨f0, f1, f2, f3, f4, f5, f6, hst, _, e6, _⟩ := F.st
 induction h with
 | nil k v t s e n => exact .mk (by simp) (by simp)
 | slice k v t s e n xs es sp hl h ih =>
  simp only [DataW.weights, hst, DataW.weightsEach, List.map_cons, List.map_nil, e6, F.sl, F.by80, List.nil_append, List.append_nil, List.all_cons, List.all_append, Bool.and_eq_true, decide_eq_true_eq] at hw
  have hb : reachBytes = 140737488351232 := rfl
  refine .mk (by rw [hl]; have := hw.2.1; omega) fun u hu => ?_
  obtain ⟨j, hj, rfl⟩ := List.mem_iff_getElem.1 hu
  refine ih j hj (by omega) ?_
  have h2 := hw.2.2.1
  rw [List.all_eq_true] at h2 ⊢
  intro x hx
  refine h2 x ?_
  have hmem : ∀ (l : List (DataW H)) (e : DataW H), e ∈ l → x ∈ e.weights P T → x ∈ DataW.weightsAll P T l := by
   intro l
   induction l with
   | nil => intro e he; cases he
   | cons a l ihl =>
    intro e he hx
    simp only [DataW.weightsAll, List.mem_append]
    rcases List.mem_cons.1 he with rfl | he
    ·exact .inl hx
    ·exact .inr (ihl e he hx)
  exact hmem es es[j] (List.getElem_mem (by omega)) hx
end
end Go.Abs
namespace Go.Abs
theorem strip (r : List (List Char)) : stripLifts liftWords ("cut".toList :: r) = ([], "cut".toList :: r) := by
 simp only [liftWords]
 repeat (rw [stripLifts, if_neg (by decide)])
 rfl
theorem mayEnter_of {P : Program} {r : List (List Char)} (h : behindMainWord (wordsSigns P.initOrder.toList) = "cut".toList :: r) (h1 : P.laysLater = false) (h2 : P.bearsReflect = false) (h3 : P.doorFits [] = true) : P.mayEnter = true := by
 unfold Program.mayEnter
 rw [h]
 simp only [strip, h1, h2, h3]
 rfl
theorem headLifts_of {P : Program} {r : List (List Char)} (h : behindMainWord (wordsSigns P.initOrder.toList) = "cut".toList :: r) : P.headLifts = [] := by
 unfold Program.headLifts
 rw [h, strip]
 rfl
theorem liftsFinal_of {P : Program} {r : List (List Char)} (h : behindMainWord (wordsSigns P.initOrder.toList) = "cut".toList :: r) : P.liftsFinal = false := by
 unfold Program.liftsFinal
 rw [headLifts_of h, h]
 rfl
theorem make_of {P : Program} {r : List (List Char)} (h : behindMainWord (wordsSigns P.initOrder.toList) = "cut".toList :: r) : P.make = some .cut := by
 unfold Program.make
 rw [h]
 rfl
def sg (l : List Nat) : List Char := l.map Char.ofNat
theorem words_cons (c : Char) (r : List Char) (h : (c == Char.ofNat 32) = false) : wordsSigns (c :: r) = match wordsSigns r with | w :: ws => (c :: w) :: ws | [] => [[c]] := by
 rw [wordsSigns]
 ·rfl
 ·intro e
  subst e
  simp at h
theorem words_word : ∀ (w r : List Char), w.all (fun c => !(c == Char.ofNat 32)) = true → wordsSigns (w ++ Char.ofNat 32 :: r) = w :: wordsSigns r
 | [], r, _ => by rfl
 | c :: w, r, h => by
  simp only [List.all_cons, Bool.and_eq_true, Bool.not_eq_true'] at h
  rw [List.cons_append, words_cons c _ h.1, words_word w r h.2]
/-- The head of a cut: 'harness', a sum, 'cut'. -/
theorem behind_of {P : Program} {a b c r : List Char} (hio : P.initOrder = String.ofList (a ++ Char.ofNat 32 :: (b ++ Char.ofNat 32 :: (c ++ Char.ofNat 32 :: r)))) (ha : a.all (fun c => !(c == Char.ofNat 32)) = true) (hb : b.all (fun c => !(c == Char.ofNat 32)) = true) (hc : c.all (fun c => !(c == Char.ofNat 32)) = true)
  (h : ((a == "harness".toList || a == "ownmain".toList) && isSumSigns b) = true) (hc2 : c = "cut".toList) : behindMainWord (wordsSigns P.initOrder.toList) = "cut".toList :: wordsSigns r := by
 rw [hio, String.toList_ofList, words_word _ _ ha, words_word _ _ hb, words_word _ _ hc]
 simp only [behindMainWord]
 rw [if_pos h, hc2]
end Go.Abs
