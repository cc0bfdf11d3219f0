/- Part 9 of a proof of the law DivergingBlockStaysDiverging: Go data as trees, the walks of the functions that the law reaches, the plain laws. -/
import Derived.Test.YtceoiamnleihmaaGreatDoorGHDivergingBlockStaysDiverging
import Derived.KernelRfl
import GoSem.ClaimJoined
import Derived.ChangeArms
import Derived.Carry
import Derived.SizedLaws
import Derived.JoinedCond
import Derived.Deep.CondSized
import Derived.OpenShut
import Derived.JoinedOf
set_option linter.unusedVariables false
set_option linter.unusedSimpArgs false
set_option maxRecDepth 4000
namespace Go.Abs
open Go.Proofs

def srcF : List UInt8 := [102, 110, 32, 102, 40, 41, 32, 45, 62, 32, 105, 110, 116, 32, 123, 32, 114, 101, 116, 117, 114, 110, 32, 49, 59, 32, 50, 32, 125]
def mdF : Md := ⟨[109], srcF⟩
def ndF : Nd := .mk 1 0 [] 0 29 (-1) [(.mk 3 0 [102] 0 29 3 [(.mk 10 0 [] 4 4 (-1) []), (.mk 12 0 [] 5 6 (-1) []), (.mk 17 0 [] 10 13 (-1) [(.mk 18 0 [105, 110, 116] 10 13 10 [])]), (.mk 21 0 [] 14 29 (-1) [(.mk 25 0 [] 16 25 (-1) [(.mk 27 1 [] 23 24 (-1) [])]), (.mk 27 2 [] 26 27 (-1) [])])])]
mutual
def allW : Nd → Bool
 | .mk _ _ _ _ _ _ us => decide (us.length * 80 ≤ 2 ^ 47) && allWs us
def allWs : List Nd → Bool
 | [] => true
 | u :: us => allW u && allWs us
end
mutual
theorem allW_W : ∀ n : Nd, allW n = true → n.W
 | .mk _ _ _ _ _ _ us, h => by
  rw [allW, Bool.and_eq_true] at h
  exact .mk (of_decide_eq_true h.1) (allWs_W us h.2)
theorem allWs_W : ∀ us : List Nd, allWs us = true → ∀ u ∈ us, u.W
 | [], _ => fun u hu => by cases hu
 | v :: us, h => fun u hu => by
  rw [allWs, Bool.and_eq_true] at h
  rcases List.mem_cons.1 hu with h1 | hu
  ·rw [h1]; exact allW_W v h.1
  ·exact allWs_W us h.2 u hu
end
theorem par_F : parseAllM 40 40 [mdF] = some [ndF] := by kernel_rfl
theorem size_F : ndF.size ≤ 40 := of_decide_eq_true (by kernel_rfl)
theorem W_F : ndF.W := allW_W _ (by kernel_rfl)
theorem vis_F : visTM 40 0 [ndF] [] = some [⟨113, 0, 26, 27, []⟩] := by kernel_rfl
theorem val_F : validM [mdF] = 0 := by kernel_rfl
theorem checkF_c {H0 : Heap} (hG : Pre G0 H0) : ACalls Tryz.prog 9 [.slice ([mdF].map Md.enc) .none] H0 fun r H' => r = .tup [.slice ([(⟨113, 0, 26, 27, []⟩ : Dg)].map Dg.enc) .none, vint 0] ∧ Fr [] [] H0 H' :=
 check_c hG 40 40 40 [mdF] (by decide) (by decide) (by decide) val_F par_F (fun t ht => by rw [List.mem_singleton] at ht; subst ht; exact ⟨size_F, W_F⟩) vis_F (by decide)

theorem works5_c {H0 : Heap} (hG : Pre G0 H0) : ACalls Tryz.prog 5 [] H0 fun r H' => r = .bool true ∧ Fr [] [] H0 H' := by
 refine aF (N := 31) Tryz.func5 rfl rfl (by simp) fun hb' => ?_
 repeat refine wS ?_
 refine eE (by simp only [kA, seval, vint, NdS, NdF, qG, qM] <;> with_reducible rfl) (by decide) ?_
 repeat refine wS ?_
 refine eE (by simp only [kA, seval, vint, NdS, NdF, qG, qM] <;> with_reducible rfl) (by decide) ?_
 repeat refine wS ?_
 refine wR ?_
 refine eT 3 (by simp only [kA, seval, y32, y33, vint, NdS, NdF, qG, qM] <;> with_reducible rfl) (by decide) ?_
 refine oC (by simp only [kC, seval, vint, NdS, NdF, qG, qM, mdF, srcF] <;> with_reducible rfl) (by simp only [kC, seval]) (by decide) Tryzgo9 (checkF_c hG) ?_
 rintro _ H1 ⟨rfl, f1⟩
 refine e_end (by simp only [kA, seval, vint, NdS, NdF, qG, qM] <;> with_reducible rfl) (by decide) ?_
 repeat refine wS ?_
 refine dp_draw (by kernel_rfl) ?_
 refine dp_end (by simp only [jP, jO, jN, seval, y3, y9, y27, y28, y35, jS, vint, NdS, NdF, qG, qM] <;> with_reducible rfl) (by decide) (by repeat (first | exact Fin.base _ | with_reducible apply Fin.keep | apply Fin.drop)) ?_
 repeat refine wS ?_
 refine wT ⟨.inr rfl, _, rfl, ?_⟩
 exact ⟨rfl, f1⟩

end Go.Abs
set_option maxRecDepth 4000
namespace Go.Abs
open Go.Proofs

theorem divK_fuel : ∀ (k m : Nat) (n : Nd), n.size ≤ k → n.size ≤ m → divK k n = divK m n
 | 0, _, n, h, _ => by cases n; simp [Nd.size] at h
 | _, 0, n, _, h => by cases n; simp [Nd.size] at h
 | k + 1, m + 1, n, hk, hm => by
  have hc : ∀ i, i < n.kids.length → divK k (kidD n i) = divK m (kidD n i) := fun i hi => by
   have := Nd.size_kid (kidD_mem hi)
   exact divK_fuel k m _ (by omega) (by omega)
  have ha : ∀ a ∈ n.kids, armK (divK k) a = armK (divK m) a := fun a h => by
   unfold armK
   by_cases h2 : a.kids.length < 2
   ·simp [h2]
   ·have h3 := Nd.size_kid (kidD_mem (n := a) (i := 1) (by omega))
    have h4 := Nd.size_kid h
    rw [divK_fuel k m (kidD a 1) (by omega) (by omega)]
  unfold divK
  have e1 : (decide (0 < n.kids.length) && divK k (kidD n 0)) = (decide (0 < n.kids.length) && divK m (kidD n 0)) := by
   by_cases h : 0 < n.kids.length
   ·rw [hc 0 h]
   ·simp [h]
  have e2 : ((decide (1 < n.kids.length) && decide ((kidD n (n.kids.length - 1)).kind = 0)) && divK k (kidD n (n.kids.length - 2))) = ((decide (1 < n.kids.length) && decide ((kidD n (n.kids.length - 1)).kind = 0)) && divK m (kidD n (n.kids.length - 2))) := by
   by_cases h : 1 < n.kids.length
   ·rw [hc (n.kids.length - 2) (by omega)]
   ·simp [h]
  have e3 : ((decide (2 < n.kids.length) && divK k (kidD n 1)) && divK k (kidD n 2)) = ((decide (2 < n.kids.length) && divK m (kidD n 1)) && divK m (kidD n 2)) := by
   by_cases h : 2 < n.kids.length
   ·rw [hc 1 (by omega), hc 2 h]
   ·simp [h]
  have e4 : (n.kids.drop 1).any (armK (divK k)) = (n.kids.drop 1).any (armK (divK m)) := by
   rw [Bool.eq_iff_iff, List.any_eq_true, List.any_eq_true]
   constructor
   ·rintro ⟨a, h1, h2⟩; exact ⟨a, h1, by rw [← ha a (List.mem_of_mem_drop h1)]; exact h2⟩
   ·rintro ⟨a, h1, h2⟩; exact ⟨a, h1, by rw [ha a (List.mem_of_mem_drop h1)]; exact h2⟩
  rw [e1, e2, e3, e4]
/-- The law's nodes. -/
def stB (n : Nd) : Nd := ⟨26, 0, [], 0, 0, 0, [n]⟩
def blB (n : Nd) : Nd := ⟨21, 0, [], 0, 0, 0, [stB n, nd0]⟩
def onB (n : Nd) : Nd := ⟨37, 0, [], 0, 0, 0, [⟨28, 0, [], 0, 0, 0, []⟩, blB n, nd0]⟩
def twB (n : Nd) : Nd := ⟨37, 0, [], 0, 0, 0, [⟨28, 0, [], 0, 0, 0, []⟩, blB n, blB n]⟩
theorem stB_size (n : Nd) : (stB n).size = n.size + 1 := by simp [stB, Nd.size, ndSizes]; omega
theorem blB_size (n : Nd) : (blB n).size = n.size + 3 := by simp [blB, nd0, Nd.size, ndSizes, stB_size]; omega
theorem onB_size (n : Nd) : (onB n).size = n.size + 6 := by simp [onB, nd0, Nd.size, ndSizes, blB_size]; omega
theorem twB_size (n : Nd) : (twB n).size = 2 * n.size + 8 := by simp [twB, Nd.size, ndSizes, blB_size]; omega
theorem nd_W0 (k v : Int) (t : List UInt8) (s e m : Int) : (Nd.mk k v t s e m []).W := .mk (by simp) (fun u hu => by cases hu)
theorem stB_W {n : Nd} (h : n.W) : (stB n).W := .mk (by simp) (fun u hu => by simp at hu; subst hu; exact h)
theorem blB_W {n : Nd} (h : n.W) : (blB n).W := .mk (by simp) (fun u hu => by
 simp only [List.mem_cons, List.not_mem_nil, or_false] at hu
 rcases hu with rfl | rfl
 ·exact stB_W h
 ·exact nd_W0 _ _ _ _ _ _)
theorem onB_W {n : Nd} (h : n.W) : (onB n).W := .mk (by simp) (fun u hu => by
 simp only [List.mem_cons, List.not_mem_nil, or_false] at hu
 rcases hu with rfl | rfl | rfl
 ·exact nd_W0 _ _ _ _ _ _
 ·exact blB_W h
 ·exact nd_W0 _ _ _ _ _ _)
theorem twB_W {n : Nd} (h : n.W) : (twB n).W := .mk (by simp) (fun u hu => by
 simp only [List.mem_cons, List.not_mem_nil, or_false] at hu
 rcases hu with rfl | rfl | rfl
 ·exact nd_W0 _ _ _ _ _ _
 ·exact blB_W h
 ·exact blB_W h)
theorem div_nd0 (k : Nat) : divK (k + 1) nd0 = false := rfl
theorem div_blB (k : Nat) (n : Nd) : divK (k + 2) (blB n) = divK k n := by
 have h1 : divK (k + 2) (blB n) = ((true && true) && divK (k + 1) (stB n)) := rfl
 have h2 : divK (k + 1) (stB n) = (true && divK k n) := rfl
 rw [h1, h2]; simp
theorem div_onB (k : Nat) (n : Nd) : divK (k + 2) (onB n) = false := by
 have h1 : divK (k + 2) (onB n) = ((true && divK (k + 1) (blB n)) && divK (k + 1) nd0) := rfl
 rw [h1, div_nd0]; simp
theorem div_twB (k : Nat) (n : Nd) : divK (k + 3) (twB n) = divK k n := by
 have h1 : divK (k + 3) (twB n) = ((true && divK (k + 2) (blB n)) && divK (k + 2) (blB n)) := rfl
 rw [h1, div_blB]; simp
theorem NdF3 : ∀ (k v : Int) (t : List UInt8) (s e n : Int) (a b c : Nd), PV.agg [.int .i64 k, .int .i64 v, .str t, .int .i64 s, .int .i64 e, .int .i64 n, .slice [a.enc, b.enc, c.enc] .none] = (Nd.mk k v t s e n [a, b, c]).enc :=
 fun k v t s e n a b c => Nd.fold k v t s e n [a, b, c]

theorem law_keep {H0 : Heap} (hG : Pre G0 H0) (n : Nd) (hw : n.W) : ACalls Tryz.prog 3 [n.enc] H0 fun r H' => r = .bool true ∧ Fr [] [] H0 H' := by
 have hs1 := blB_size n
 have hs2 := onB_size n
 have hs3 := twB_size n
 have db : divK (2 * n.size + 8) (blB n) = divK (2 * n.size + 8) n := by rw [show 2 * n.size + 8 = (2 * n.size + 6) + 2 by omega, div_blB]; exact divK_fuel _ _ n (by omega) (by omega)
 have d1 : divK (2 * n.size + 8) (onB n) = false := by rw [show 2 * n.size + 8 = (2 * n.size + 6) + 2 by omega, div_onB]
 have d2 : divK (2 * n.size + 8) (twB n) = divK (2 * n.size + 8) n := by rw [show 2 * n.size + 8 = (2 * n.size + 5) + 3 by omega, div_twB]; exact divK_fuel _ _ n (by omega) (by omega)
 refine aF (N := 49) Tryz.func3 rfl rfl (by simp) fun hb' => ?_
 repeat refine wS ?_
 refine eE (by simp only [kA, seval, y24, vint, NdS, NdF, NdF3, qG] <;> with_reducible rfl) (by decide) ?_
 repeat refine wS ?_
 refine wR ?_
 refine oC (by simp only [kC, seval, vint, NdS, NdF, NdF3, qG] <;> with_reducible rfl) (by simp only [kC, seval]) (by decide) Tryzgo5 (works5_c (hG.app _)) ?_
 rintro _ H1 ⟨rfl, f1⟩
 have hl1 := f1.len
 simp only [List.length_append, List.length_cons, List.length_nil] at hl1
 have hz1 : H1[H0.length]? = some (.row [.int .i64 n.kind, .int .i64 n.value, .str n.text, .int .i64 n.st, .int .i64 n.en, .int .i64 n.ns, .slice (n.kids.map Nd.enc) .none]) := (f1.get (show (H0 ++ [.row [.int .i64 n.kind, .int .i64 n.value, .str n.text, .int .i64 n.st, .int .i64 n.en, .int .i64 n.ns, .slice (n.kids.map Nd.enc) .none]])[H0.length]? = some (.row [.int .i64 n.kind, .int .i64 n.value, .str n.text, .int .i64 n.st, .int .i64 n.en, .int .i64 n.ns, .slice (n.kids.map Nd.enc) .none]) by simp) (by simp)).1
 have qz1 := getL hz1
 have hG1 : Pre G0 H1 := fun q o hq => (f1.get ((hG.app _) q o hq) (by simp)).1
 have g1 : Fr [] [] H0 H1 := f1.of_app
 refine e_end (by simp only [kA, seval, vint, NdS, NdF, NdF3, qG, hz1, qz1] <;> with_reducible rfl) (by decide) ?_
 repeat refine wS ?_
 refine wF rfl (by simp only [jN, seval, vint, NdS, NdF, NdF3, qG, hz1, qz1] <;> with_reducible rfl) ?_
 repeat refine wS ?_
 refine wK ?_
 repeat refine wS ?_
 refine eE (by simp only [kA, seval, y24, vint, NdS, NdF, NdF3, qG, hz1, qz1] <;> with_reducible rfl) (by decide) ?_
 repeat refine wS ?_
 refine eE (by simp only [kA, seval, y22, y24, vint, NdS, NdF, NdF3, qG, hz1, qz1] <;> with_reducible rfl) (by decide) ?_
 repeat refine wS ?_
 refine eE (by simp only [kA, seval, y22, y24, vint, NdS, NdF, NdF3, qG, hz1, qz1] <;> with_reducible rfl) (by decide) ?_
 refine wL [1, 3, 5] (by simp only [jN, seval, vint, NdS, NdF, NdF3, qG, hz1, qz1] <;> with_reducible rfl) ?_
 repeat refine wS ?_
 refine eE (by simp only [kA, seval, y22, y24, vint, NdS, NdF, NdF3, qG, hz1, qz1] <;> with_reducible rfl) (by decide) ?_
 repeat refine wS ?_
 refine eE (by simp only [kA, seval, y22, y24, vint, NdS, NdF, NdF3, qG, hz1, qz1] <;> with_reducible rfl) (by decide) ?_
 repeat refine wS ?_
 refine wR ?_
 refine eT 1 (by simp only [kA, seval, y24, vint, NdS, NdF, NdF3, qG, hz1, qz1] <;> with_reducible rfl) (by decide) ?_
 refine oP (by simp only [kC, seval, vint, NdS, NdF, NdF3, qG, hz1, qz1] <;> with_reducible rfl) (by simp only [kC, seval]) (by decide) Tryzgo6 (dv_all (2 * n.size + 8) n (by omega) hw _) ?_
 refine e_end (by simp only [kA, seval, vint, NdS, NdF, NdF3, qG, hz1, qz1] <;> with_reducible rfl) (by decide) ?_
 refine wL [5, 6, 7, 8] (by simp only [jN, seval, vint, NdS, NdF, NdF3, qG, hz1, qz1] <;> with_reducible rfl) ?_
 repeat refine wS ?_
 refine wR ?_
 refine oC (by simp only [kC, seval, vint, NdS, NdF, NdF3, qG, hz1, qz1, db, d1, d2] <;> with_reducible rfl) (by simp only [kC, seval]) (by decide) Tryzgo5 (works5_c (hG1.app _)) ?_
 rintro _ H2 ⟨rfl, f2⟩
 have hr2 : H2[H1.length + 2]? = some (.row [.int .i64 21, .int .i64 0, .str [], .int .i64 0, .int .i64 0, .int .i64 0, .slice [(stB n).enc, nd0.enc] .none]) := by
  rw [f2.same (H1.length + 2) (by simp) (by simp), List.getElem?_append_right (by omega), Nat.add_sub_cancel_left]; rfl
 have hr3 : H2[H1.length + 3]? = some (.row [.int .i64 37, .int .i64 0, .str [], .int .i64 0, .int .i64 0, .int .i64 0, .slice [(Nd.mk 28 0 [] 0 0 0 []).enc, (blB n).enc, nd0.enc] .none]) := by
  rw [f2.same (H1.length + 3) (by simp) (by simp), List.getElem?_append_right (by omega), Nat.add_sub_cancel_left]; rfl
 have hr4 : H2[H1.length + 4]? = some (.row [.int .i64 37, .int .i64 0, .str [], .int .i64 0, .int .i64 0, .int .i64 0, .slice [(Nd.mk 28 0 [] 0 0 0 []).enc, (blB n).enc, (blB n).enc] .none]) := by
  rw [f2.same (H1.length + 4) (by simp) (by simp), List.getElem?_append_right (by omega), Nat.add_sub_cancel_left]; rfl
 simp only [blB, stB, nd0] at hr2 hr3 hr4
 refine eT 2 (by simp only [kA, seval, y24, vint, NdS, NdF, NdF3, qG, hz1, qz1, hr2, hr3, hr4, db, d1, d2] <;> with_reducible rfl) (by decide) ?_
 refine oP (by simp only [kC, seval, vint, NdS, NdF, NdF3, qG, hz1, qz1, hr2, hr3, hr4, db, d1, d2, blB, stB, nd0, onB, twB] <;> with_reducible rfl) (by simp only [kC, seval]) (by decide) Tryzgo6 (dv_all (2 * n.size + 8) (blB n) (by omega) (blB_W hw) _) ?_
 refine eT 5 (by simp only [kA, seval, y4, y24, vint, NdS, NdF, NdF3, qG, hz1, qz1, hr2, hr3, hr4, db, d1, d2] <;> with_reducible rfl) (by decide) ?_
 refine oP (by simp only [kC, seval, vint, NdS, NdF, NdF3, qG, hz1, qz1, hr2, hr3, hr4, db, d1, d2, blB, stB, nd0, onB, twB] <;> with_reducible rfl) (by simp only [kC, seval]) (by decide) Tryzgo6 (dv_all (2 * n.size + 8) (onB n) (by omega) (onB_W hw) _) ?_
 refine eT 4 (by simp only [kA, seval, y24, vint, NdS, NdF, NdF3, qG, hz1, qz1, hr2, hr3, hr4, db, d1, d2] <;> with_reducible rfl) (by decide) ?_
 refine oP (by simp only [kC, seval, vint, NdS, NdF, NdF3, qG, hz1, qz1, hr2, hr3, hr4, db, d1, d2, blB, stB, nd0, onB, twB] <;> with_reducible rfl) (by simp only [kC, seval]) (by decide) Tryzgo6 (dv_all (2 * n.size + 8) (twB n) (by omega) (twB_W hw) _) ?_
 refine e_end (by simp only [kA, seval, y4, vint, NdS, NdF, NdF3, qG, hz1, qz1, hr2, hr3, hr4, db, d1, d2] <;> with_reducible rfl) (by decide) ?_
 repeat refine wS ?_
 refine wT ⟨.inr rfl, _, rfl, ?_⟩
 exact ⟨rfl, g1.step f2⟩

end Go.Abs
namespace Go.Abs

/-! From a reading of the arguments to the trees, and back. -/

/-- A world as it is handed to a call: all that lies in it stays. -/
def env0 (W : World) : Env := { w := W, κ := fun _ => .fixed, ρ := fun _ => 0, tb := fun _ => none, H := [] }
theorem env0_cell (W : World) (a : Addr) : (env0 W).view.cell a = W.cell? a := rfl

def RLl (V : View) (cs : List Value) (ps : List PV) : Prop := cs.length = ps.length ∧ ∀ i (h : i < ps.length), VRel V (cs.getD i undef) ps[i]

theorem RLl.nil {V : View} : RLl V [] [] := ⟨rfl, fun i h => by cases h⟩
theorem RLl.cons {V : View} {c : Value} {cs : List Value} {p : PV} {ps : List PV} (h : VRel V c p) (hs : RLl V cs ps) : RLl V (c :: cs) (p :: ps) := by
 refine ⟨by simp [hs.1], fun i hi => ?_⟩
 cases i with
 | zero => exact h
 | succ i => exact hs.2 i (by simpa using hi)
theorem RLl.app {V : View} {c1 c2 : List Value} {p1 p2 : List PV} (h1 : RLl V c1 p1) (h2 : RLl V c2 p2) : RLl V (c1 ++ c2) (p1 ++ p2) := by
 refine ⟨by simp [h1.1, h2.1], fun i hi => ?_⟩
 by_cases h : i < p1.length
 ·have := h1.2 i h
  simp only [List.getD_eq_getElem?_getD] at this ⊢
  rw [List.getElem?_append_left (by rw [h1.1]; exact h), List.getElem_append_left h]; exact this
 ·have := h2.2 (i - p1.length) (by simp at hi; omega)
  simp only [List.getD_eq_getElem?_getD] at this ⊢
  rw [List.getElem?_append_right (by rw [h1.1]; omega), List.getElem_append_right (by omega), h1.1]; exact this
theorem RLl.agg {V : View} {arr : Array Value} {ps : List PV} (h : RLl V arr.toList ps) : VRel V (.agg arr) (.agg ps) := by
 refine .agg _ _ (by have := h.1; simpa using this) fun i hi => ?_
 have := h.2 i hi
 rw [List.getD_eq_getElem?_getD, Array.getElem?_toList] at this
 rw [Array.getD_eq_getD_getElem?]; exact this
theorem RLl.one {V : View} {v : Value} {p : PV} (h : RLl V [v] [p]) : VRel V v p := h.2 0 (by simp)

theorem exists_list {α : Type} {n : Nat} {p : Nat → α → Prop} (h : ∀ i, i < n → ∃ a, p i a) : ∃ xs : List α, xs.length = n ∧ ∀ i (hi : i < xs.length), p i xs[i] := by
 induction n with
 | zero => exact ⟨[], rfl, fun i hi => by cases hi⟩
 | succ n ih =>
  obtain ⟨xs, h1, h2⟩ := ih fun i hi => h i (by omega)
  obtain ⟨a, ha⟩ := h n (by omega)
  refine ⟨xs ++ [a], by simp [h1], fun i hi => ?_⟩
  by_cases hlt : i < xs.length
  ·rw [List.getElem_append_left hlt]; exact h2 i hlt
  ·rw [List.getElem_append_right (by omega)]
   simp at hi
   obtain rfl : i = n := by omega
   simpa using ha

/-- A list and the data of a slice. -/
def SlD {α : Type} {H : Type} (D : α → DataW H → Prop) (xs : List α) (d : DataW H) : Prop :=
 (xs = [] ∧ d = .nil) ∨ ∃ els sp, d = .slice els sp ∧ xs.length = els.length ∧ ∀ i (h1 : i < xs.length) (h2 : i < els.length), D xs[i] els[i]

section
variable {H : Type} {enc : TypeId × Value → H} {P : Program} {W : World} {spare : Nat → Bool} {held : Bool}

theorem rd_slice {α : Type} (en : α → PV) (D : α → DataW H → Prop) {t e : TypeId} {fuel : Nat} {cs : List Value} {x : DataW H × List MemPlace} (ht : P.underlying t = some (.slice e)) (hsz : ∀ a, (en a).cells.length = P.cellsOf e)
  (h : DataW.trod enc P W 0 spare held fuel t cs = some x) (ih : ∀ n cs' x', n < fuel → DataW.trod enc P W 0 spare held n e cs' = some x' → ∃ a, RLl (env0 W).view cs' (en a).cells ∧ D a x'.1) :
  ∃ (xs : List α) (v : Value), cs = [v] ∧ VRel (env0 W).view v (.slice (xs.map en) .none) ∧ SlD D xs x.1 := by
 rcases DataW.trod_slice ht h with ⟨rfl, rfl⟩ | ⟨a, len, cap, elems, rest, n, rfl, rfl, rfl, hb, hl, hm, hlen, hel, _, _⟩
 ·exact ⟨[], _, rfl, .nils .none trivial, .inl ⟨rfl, rfl⟩⟩
 ·obtain ⟨ys, hys, hp⟩ := exists_list (α := α × List Value) (n := len) (p := fun i y => W.cells? 0 (a.add (i * P.cellsOf e)) (P.cellsOf e) = some y.2 ∧ RLl (env0 W).view y.2 (en y.1).cells ∧ ∀ h : i < elems.length, D y.1 elems[i].1) (fun i hi => by
   have := hel i hi
   rw [List.getElem?_eq_getElem (by omega)] at this
   obtain ⟨cs', h1, h2⟩ := oB this
   obtain ⟨y, h3, h4⟩ := ih n cs' _ (by omega) h2
   exact ⟨(y, cs'), h1, h3, fun _ => h4⟩)
  refine ⟨ys.map (·.1), _, rfl, ?_, .inr ⟨_, _, rfl, by simp [hys, hlen], fun i h1 h2 => ?_⟩⟩
  ·have hget : ∀ i (hi : i < ys.length), ys[i]? = some ys[i] := fun i hi => List.getElem?_eq_getElem hi
   refine .slice a len cap (P.cellsOf e) _ .none (fun i j => match ys[i]? with | some y => y.2.getD j undef | none => undef) (by simp [hys]) hl hm ?_ ?_ ?_ trivial
   ·intro i hi; simp only [List.getElem_map]; exact hsz _
   ·intro i j hi hj
    have hi' : i < ys.length := by omega
    obtain ⟨h1, h2, _⟩ := hp i hi'
    obtain ⟨_, h4, h5⟩ := World.cells?_some h1
    have := h5 j hj
    rw [hget i hi']
    simp only
    rw [env0_cell, ← add_add, this, List.getD_eq_getElem?_getD, List.getElem?_eq_getElem (by omega)]; rfl
   ·intro i j hi hj
    have hi' : i < ys.length := by simpa using hi
    simp only [List.getElem_map] at hj ⊢
    rw [hget i hi']
    exact (hp i hi').2.1.2 j hj
  ·simp only [List.getElem_map]
   exact (hp i (by simpa using h1)).2.2 _

/-- The field of a structure. -/
theorem rd_fields {t : TypeId} {fs : Array Field} {fuel : Nat} {cs : List Value} {x : DataW H × List MemPlace} (ht : P.underlying t = some (.struct fs)) (h : DataW.trod enc P W 0 spare held fuel t cs = some x) :
  ∃ (ds : List (DataW H)) (n : Nat), fuel = n + 1 ∧ x.1 = .agg ds ∧ cs.length = P.cellsOf t ∧ ds.length = fs.size ∧ ∀ (i : Nat) (f : Field), fs[i]? = some f → ∃ d ps, ds[i]? = some d ∧ DataW.trod enc P W 0 spare held n f.type ((cs.drop f.offset).take (P.cellsOf f.type)) = some (d, ps) := by
 obtain ⟨xs, n, h1, rfl, h3, h4, h5⟩ := DataW.trod_struct ht h
 refine ⟨xs.map (·.1), n, h1, rfl, h3, by simpa using h4, fun i f hf => ?_⟩
 have hi : i < xs.length := by
  rw [h4]
  rcases Nat.lt_or_ge i fs.size with hl | hl
  ·exact hl
  ·rw [Array.getElem?_eq_none hl] at hf; cases hf
 have := h5 i f hf
 rw [List.getElem?_eq_getElem hi] at this
 exact ⟨xs[i].1, xs[i].2, by simp [hi], this⟩

theorem rd_int {t : TypeId} {k : IntKind} {fuel : Nat} {cs : List Value} {x : DataW H × List MemPlace} (ht : P.underlying t = some (.int k)) (h : DataW.trod enc P W 0 spare held fuel t cs = some x) : ∃ n, RLl (env0 W).view cs [.int k n] ∧ x.1 = .lit (.int k n) ∧ (Lit.int k n).wf = true ∧ cs = [.int k n] := by
 obtain ⟨n, rfl, rfl, h3⟩ := DataW.trod_int ht h
 exact ⟨n, .cons (.int _ _) .nil, rfl, h3, rfl⟩
theorem rd_string {t : TypeId} {fuel : Nat} {cs : List Value} {x : DataW H × List MemPlace} (ht : P.underlying t = some .string) (h : DataW.trod enc P W 0 spare held fuel t cs = some x) : ∃ s : List UInt8, RLl (env0 W).view cs [.str s] ∧ x.1 = .lit (.string s) ∧ s.length ≤ maxLen := by
 obtain ⟨s, rfl, rfl, h3⟩ := DataW.trod_string ht h
 exact ⟨s.data.toList, .cons (.str _) .nil, rfl, by simpa using h3⟩
end

/-- The data of a type. -/
inductive TyD {H : Type} : Ty → DataW H → Prop
 | nil (k i : Int) : TyD (.mk k i []) (.agg [.lit (.int .i64 k), .lit (.int .i64 i), .nil])
 | slice (k i : Int) (xs : List Ty) (es sp : List (DataW H)) (hl : xs.length = es.length) (h : ∀ j (h1 : j < xs.length) (h2 : j < es.length), TyD xs[j] es[j]) : TyD (.mk k i xs) (.agg [.lit (.int .i64 k), .lit (.int .i64 i), .slice es sp])
theorem TyD.of {H : Type} {k i : Int} {xs : List Ty} {d : DataW H} (h : SlD TyD xs d) : TyD (.mk k i xs) (.agg [.lit (.int .i64 k), .lit (.int .i64 i), d]) := by
 rcases h with ⟨rfl, rfl⟩ | ⟨es, sp, rfl, h1, h2⟩
 ·exact .nil k i
 ·exact .slice k i xs es sp h1 h2

/-- The facts on a program's type 'api.Type' that a reading looks at. -/
structure TyAt (P : Program) (T S : TypeId) : Prop where
 st : ∃ f0 f1 f2 : Field, P.underlying T = some (.struct #[f0, f1, f2]) ∧ P.underlying f0.type = some (.int .i64) ∧ P.underlying f1.type = some (.int .i64) ∧ f2.type = S ∧ f0.offset = 0 ∧ f1.offset = 1 ∧ f2.offset = 2 ∧ P.cellsOf f0.type = 1 ∧ P.cellsOf f1.type = 1
 sl : P.underlying S = some (.slice T)
 c : P.cellsOf T = 3
 cs : P.cellsOf S = 1
 by40 : P.bytesOf T = 40

section
variable {H : Type} {enc : TypeId × Value → H} {P : Program} {W : World} {spare : Nat → Bool} {held : Bool} {T S : TypeId}

theorem rd_ty (F : TyAt P T S) : ∀ (fuel : Nat) (cs : List Value) (x : DataW H × List MemPlace), DataW.trod enc P W 0 spare held fuel T cs = some x → ∃ t : Ty, RLl (env0 W).view cs t.enc.cells ∧ TyD t x.1 := by
 intro fuel
 induction fuel using Nat.strongRecOn with
 | _ fuel ih =>
 intro cs x h
 obtain ⟨f0, f1, f2, hst, u0, u1, e2, o0, o1, o2, c0, c1⟩ := F.st
 obtain ⟨ds, n, rfl, hx, hlen, hdl, hf⟩ := rd_fields hst h
 rw [F.c] at hlen
 match cs, hlen with
 | [v0, v1, v2], _ =>
 obtain ⟨d0, p0, g0, r0⟩ := hf 0 f0 rfl
 obtain ⟨d1, p1, g1, r1⟩ := hf 1 f1 rfl
 obtain ⟨d2, p2, g2, r2⟩ := hf 2 f2 rfl
 rw [o0, c0] at r0
 rw [o1, c1] at r1
 rw [o2, e2, F.cs] at r2
 obtain ⟨k, q0, rfl, w0, _⟩ := rd_int u0 r0
 obtain ⟨i, q1, rfl, w1, _⟩ := rd_int u1 r1
 obtain ⟨xs, v, hv, hr, hd⟩ := rd_slice Ty.enc TyD F.sl (fun a => by rw [F.c, Ty.enc_len]) r2 (fun m cs' x' hm h' => ih m (by omega) cs' x' h')
 simp only [List.drop_succ_cons, List.drop_zero, List.take_succ_cons, List.take_zero, List.cons.injEq, and_true] at hv
 subst hv
 refine ⟨.mk k i xs, ?_, ?_⟩
 ·rw [Ty.enc_cells]
  exact .cons q0.one (.cons q1.one (.cons hr .nil))
 ·rw [hx]
  have : ds = [.lit (.int .i64 k), .lit (.int .i64 i), d2] := by
   match ds, hdl with
   | [a, b, c], _ =>
    simp at g0 g1 g2
    rw [g0, g1, g2]
  rw [this]
  exact .of hd

end
end Go.Abs
namespace Go.Abs
theorem RLl.rl {V : View} {arr : Array Value} {ps : List PV} (h : RLl V arr.toList ps) : RL V arr ps := by
 refine ⟨by have := h.1; simpa using this, fun i hi => ?_⟩
 have := h.2 i hi
 rw [List.getD_eq_getElem?_getD, Array.getElem?_toList] at this
 rw [Array.getD_eq_getD_getElem?]; exact this
theorem Ty.enc_agg (t : Ty) : PV.agg t.enc.cells = t.enc := by rw [Ty.enc_cells, Ty.enc_eq]
end Go.Abs
namespace Go.Abs
/-- A world with constants that a call may look at. -/
def envG (W : World) (G : Heap) : Env := { w := W, κ := fun _ => .fixed, ρ := fun _ => 0, tb := fun _ => none, H := G }
theorem envG_ok {W : World} {G : Heap} (hG : ∀ o ∈ G, ∃ b vs, o = AObj.glob b vs) (hW : ∀ b vs, AObj.glob b vs ∈ G → ∀ i (h : i < vs.length), W.cell? ⟨b, i, none⟩ = some vs[i]) : (envG W G).Ok := by
 have hk : ∀ id o, (envG W G).H[id]? = some o → ∃ b vs, o = AObj.glob b vs := fun id o h => hG o (List.mem_of_getElem? h)
 constructor
 ·intro id cs h; obtain ⟨b, vs, e⟩ := hk _ _ h; cases e
 ·intro id n sz b h; obtain ⟨b, vs, e⟩ := hk _ _ h; cases e
 ·intro id id' cs cs' h; obtain ⟨b, vs, e⟩ := hk _ _ h; cases e
 ·intro id id' n sz n' sz' b h; obtain ⟨b, vs, e⟩ := hk _ _ h; cases e
 ·intro id b vs h i hi; exact hW b vs (List.mem_of_getElem? h) i hi
 ·exact ⟨fun id k h => (by obtain ⟨b, vs, e⟩ := hk _ _ h; cases e), fun id id' k k' h => (by obtain ⟨b, vs, e⟩ := hk _ _ h; cases e)⟩
theorem env0_envG (W : World) (G : Heap) : (env0 W).view.le (envG W G).view := by
 have hb : ∀ id, ¬ (env0 W).view.born id := by
  rintro id ⟨o, h, _⟩
  simp [env0] at h
 exact ⟨fun a v h => h, fun id h => absurd h (hb id), fun id h => absurd h (hb id), fun id t h => absurd h (hb id)⟩
/-- The same of a call that may leave new objects behind. -/
theorem calls_of_ga {P : Program} {f : FuncId} {args : List PV} {b : Bool} {G : Heap} (h : ACalls P f args G fun r _ => r = .bool b) (W : World) (hG : ∀ o ∈ G, ∃ b vs, o = AObj.glob b vs) (hW : ∀ b vs, AObj.glob b vs ∈ G → ∀ i (h : i < vs.length), W.cell? ⟨b, i, none⟩ = some vs[i])
  (vargs : Array Value) (hr : RL (env0 W).view vargs args) : Calls P f vargs W fun e w' => e = .returned (.bool b) ∧ Go.RowKit.Below W.heap.size W w' := by
 refine (h (envG W G) vargs (envG_ok hG hW) rfl (hr.mono (env0_envG W G))).mono ?_
 rintro e w' ⟨E', v, r, rfl, rfl, hle, hok, hv, rfl⟩
 refine ⟨by rw [hv.bool_inv], hle.os, hle.tape, hle.output, hle.size, fun k hk => (hle.other k hk ?_).2⟩
 rintro (⟨id, cs, h, _⟩ | ⟨id, n, sz, h, _⟩ | ⟨id, k, h, _⟩) <;> (obtain ⟨b, vs, e⟩ := hG _ (List.mem_of_getElem? h); cases e)
/-- The cells of a table of numbers, as it is read. -/
theorem laid_ints {H : Type} {enc : TypeId × Value → H} {P : Program} {w : World} {sp : Nat → Bool} {held : Bool} {t e : TypeId} {n f : Nat} {k : IntKind} {cs : List Value} {ds : List (DataW H)} {q : List MemPlace}
  (ht : P.underlying t = some (.array n e)) (he : P.underlying e = some (.int k)) (hc : P.cellsOf e = 1) (h : DataW.trod enc P w 0 sp held f t cs = some (.agg ds, q)) :
  ∀ i, i < n → ∃ v, ds[i]? = some (.lit (.int k v)) ∧ cs[i]? = some (.int k v) := by
 intro i hi
 obtain ⟨xs, m, rfl, hx, hlen, hn, hel⟩ := DataW.trod_array ht h
 have h1 := hel i hi
 rw [hc, Nat.mul_one] at h1
 rw [List.getElem?_eq_getElem (by omega)] at h1
 obtain ⟨v, e1, e2, _⟩ := DataW.trod_int he h1
 simp only [Prod.mk.injEq, DataW.agg.injEq] at hx
 refine ⟨v, ?_, ?_⟩
 ·rw [hx.1, List.getElem?_map, List.getElem?_eq_getElem (by omega)]
  simp [e2]
 ·have : (cs.drop i).head? = some (.int k v) := by
   cases hd : cs.drop i with
   | nil => rw [hd] at e1; cases e1
   | cons a l => rw [hd] at e1; simp at e1; rw [e1]; rfl
  rw [List.head?_drop] at this
  exact this
end Go.Abs
namespace Go.Abs
/-! Reading nodes. -/
inductive NdD {H : Type} : Nd → DataW H → Prop
 | nil (k v : Int) (t : List UInt8) (s e n : Int) : NdD (.mk k v t s e n []) (.agg [.lit (.int .i64 k), .lit (.int .i64 v), .lit (.string t), .lit (.int .i64 s), .lit (.int .i64 e), .lit (.int .i64 n), .nil])
 | slice (k v : Int) (t : List UInt8) (s e n : Int) (xs : List Nd) (es sp : List (DataW H)) (hl : xs.length = es.length) (h : ∀ j (h1 : j < xs.length) (h2 : j < es.length), NdD xs[j] es[j]) :
   NdD (.mk k v t s e n xs) (.agg [.lit (.int .i64 k), .lit (.int .i64 v), .lit (.string t), .lit (.int .i64 s), .lit (.int .i64 e), .lit (.int .i64 n), .slice es sp])
theorem NdD.of {H : Type} {k v : Int} {t : List UInt8} {s e n : Int} {xs : List Nd} {d : DataW H} (h : SlD NdD xs d) : NdD (.mk k v t s e n xs) (.agg [.lit (.int .i64 k), .lit (.int .i64 v), .lit (.string t), .lit (.int .i64 s), .lit (.int .i64 e), .lit (.int .i64 n), d]) := by
 rcases h with ⟨rfl, rfl⟩ | ⟨es, sp, rfl, h1, h2⟩
 ·exact .nil k v t s e n
 ·exact .slice k v t s e n xs es sp h1 h2
structure NdAt (P : Program) (T S : TypeId) : Prop where
 st : ∃ f0 f1 f2 f3 f4 f5 f6 : Field, P.underlying T = some (.struct #[f0, f1, f2, f3, f4, f5, f6]) ∧
  (P.underlying f0.type = some (.int .i64) ∧ P.underlying f1.type = some (.int .i64) ∧ P.underlying f2.type = some .string ∧ P.underlying f3.type = some (.int .i64) ∧ P.underlying f4.type = some (.int .i64) ∧ P.underlying f5.type = some (.int .i64)) ∧ f6.type = S ∧
  (f0.offset = 0 ∧ f1.offset = 1 ∧ f2.offset = 2 ∧ f3.offset = 3 ∧ f4.offset = 4 ∧ f5.offset = 5 ∧ f6.offset = 6) ∧ (P.cellsOf f0.type = 1 ∧ P.cellsOf f1.type = 1 ∧ P.cellsOf f2.type = 1 ∧ P.cellsOf f3.type = 1 ∧ P.cellsOf f4.type = 1 ∧ P.cellsOf f5.type = 1)
 sl : P.underlying S = some (.slice T)
 c : P.cellsOf T = 7
 cs : P.cellsOf S = 1
 by80 : P.bytesOf T = 80
section
variable {H : Type} {enc : TypeId × Value → H} {P : Program} {W : World} {spare : Nat → Bool} {held : Bool} {T S : TypeId}
theorem rd_nd (F : NdAt P T S) : ∀ (fuel : Nat) (cs : List Value) (x : DataW H × List MemPlace), DataW.trod enc P W 0 spare held fuel T cs = some x → ∃ t : Nd, RLl (env0 W).view cs t.enc.cells ∧ NdD t x.1 := by
 intro fuel
 induction fuel using Nat.strongRecOn with
 | _ fuel ih =>
 intro cs x h
 obtain ⟨f0, f1, f2, f3, f4, f5, f6, hst, ⟨u0, u1, u2, u3, u4, u5⟩, e6, ⟨o0, o1, o2, o3, o4, o5, o6⟩, ⟨c0, c1, c2, c3, c4, c5⟩⟩ := F.st
 obtain ⟨ds, n, rfl, hx, hlen, hdl, hf⟩ := rd_fields hst h
 rw [F.c] at hlen
 match cs, hlen with
 | [v0, v1, v2, v3, v4, v5, v6], _ =>
 obtain ⟨d0, p0, g0, r0⟩ := hf 0 f0 rfl
 obtain ⟨d1, p1, g1, r1⟩ := hf 1 f1 rfl
 obtain ⟨d2, p2, g2, r2⟩ := hf 2 f2 rfl
 obtain ⟨d3, p3, g3, r3⟩ := hf 3 f3 rfl
 obtain ⟨d4, p4, g4, r4⟩ := hf 4 f4 rfl
 obtain ⟨d5, p5, g5, r5⟩ := hf 5 f5 rfl
 obtain ⟨d6, p6, g6, r6⟩ := hf 6 f6 rfl
 rw [o0, c0] at r0
 rw [o1, c1] at r1
 rw [o2, c2] at r2
 rw [o3, c3] at r3
 rw [o4, c4] at r4
 rw [o5, c5] at r5
 rw [o6, e6, F.cs] at r6
 obtain ⟨k, q0, rfl, _, _⟩ := rd_int u0 r0
 obtain ⟨v, q1, rfl, _, _⟩ := rd_int u1 r1
 obtain ⟨tx, q2, rfl, _⟩ := rd_string u2 r2
 obtain ⟨s, q3, rfl, _, _⟩ := rd_int u3 r3
 obtain ⟨e, q4, rfl, _, _⟩ := rd_int u4 r4
 obtain ⟨m, q5, rfl, _, _⟩ := rd_int u5 r5
 obtain ⟨xs, w, hv, hr, hd⟩ := rd_slice Nd.enc NdD F.sl (fun a => by rw [F.c, Nd.enc_len]) r6 (fun m cs' x' hm h' => ih m (by omega) cs' x' h')
 simp only [List.drop_succ_cons, List.drop_zero, List.take_succ_cons, List.take_zero, List.cons.injEq, and_true] at hv
 subst hv
 refine ⟨.mk k v tx s e m xs, ?_, ?_⟩
 ·rw [Nd.enc_cells]
  exact .cons q0.one (.cons q1.one (.cons q2.one (.cons q3.one (.cons q4.one (.cons q5.one (.cons hr .nil))))))
 ·rw [hx]
  have : ds = [.lit (.int .i64 k), .lit (.int .i64 v), .lit (.string tx), .lit (.int .i64 s), .lit (.int .i64 e), .lit (.int .i64 m), d6] := by
   match ds, hdl with
   | [a, b, c, d, e', f, g], _ =>
    simp at g0 g1 g2 g3 g4 g5 g6
    rw [g0, g1, g2, g3, g4, g5, g6]
  rw [this]
  exact .of hd
theorem nd_weights (F : NdAt P T S) {t : Nd} {d : DataW H} (h : NdD t d) (hw : (d.weights P T).all (· ≤ reachBytes) = true) : t.W := by
 obtain ⟨f0, f1, f2, f3, f4, f5, f6, hst, _, e6, _⟩ := F.st
 induction h with
 | nil k v t s e n => exact .mk (by simp) (by simp)
 | slice k v t s e n xs es sp hl h ih =>
  simp only [DataW.weights, hst, DataW.weightsEach, List.map_cons, List.map_nil, e6, F.sl, F.by80, List.nil_append, List.append_nil, List.all_cons, List.all_append, Bool.and_eq_true, decide_eq_true_eq] at hw
  have hb : reachBytes = 140737488351232 := rfl
  refine .mk (by rw [hl]; have := hw.2.1; omega) fun u hu => ?_
  obtain ⟨j, hj, rfl⟩ := List.mem_iff_getElem.1 hu
  refine ih j hj (by omega) ?_
  have h2 := hw.2.2.1
  rw [List.all_eq_true] at h2 ⊢
  intro x hx
  refine h2 x ?_
  have hmem : ∀ (l : List (DataW H)) (e : DataW H), e ∈ l → x ∈ e.weights P T → x ∈ DataW.weightsAll P T l := by
   intro l
   induction l with
   | nil => intro e he; cases he
   | cons a l ihl =>
    intro e he hx
    simp only [DataW.weightsAll, List.mem_append]
    rcases List.mem_cons.1 he with rfl | he
    ·exact .inl hx
    ·exact .inr (ihl e he hx)
  exact hmem es es[j] (List.getElem_mem (by omega)) hx
end
end Go.Abs
namespace Go.Abs
theorem strip (r : List (List Char)) : stripLifts liftWords ("cut".toList :: r) = ([], "cut".toList :: r) := by
 simp only [liftWords]
 repeat (rw [stripLifts, if_neg (by decide)])
 rfl
theorem mayEnter_of {P : Program} {r : List (List Char)} (h : behindMainWord (wordsSigns P.initOrder.toList) = "cut".toList :: r) (h1 : P.laysLater = false) (h2 : P.bearsReflect = false) (h3 : P.doorFits [] = true) : P.mayEnter = true := by
 unfold Program.mayEnter
 rw [h]
 simp only [strip, h1, h2, h3]
 rfl
theorem headLifts_of {P : Program} {r : List (List Char)} (h : behindMainWord (wordsSigns P.initOrder.toList) = "cut".toList :: r) : P.headLifts = [] := by
 unfold Program.headLifts
 rw [h, strip]
 rfl
theorem liftsFinal_of {P : Program} {r : List (List Char)} (h : behindMainWord (wordsSigns P.initOrder.toList) = "cut".toList :: r) : P.liftsFinal = false := by
 unfold Program.liftsFinal
 rw [headLifts_of h, h]
 rfl
theorem make_of {P : Program} {r : List (List Char)} (h : behindMainWord (wordsSigns P.initOrder.toList) = "cut".toList :: r) : P.make = some .cut := by
 unfold Program.make
 rw [h]
 rfl
def sg (l : List Nat) : List Char := l.map Char.ofNat
theorem words_cons (c : Char) (r : List Char) (h : (c == Char.ofNat 32) = false) : wordsSigns (c :: r) = match wordsSigns r with | w :: ws => (c :: w) :: ws | [] => [[c]] := by
 rw [wordsSigns]
 ·rfl
 ·intro e
  subst e
  simp at h
theorem words_word : ∀ (w r : List Char), w.all (fun c => !(c == Char.ofNat 32)) = true → wordsSigns (w ++ Char.ofNat 32 :: r) = w :: wordsSigns r
 | [], r, _ => by rfl
 | c :: w, r, h => by
  simp only [List.all_cons, Bool.and_eq_true, Bool.not_eq_true'] at h
  rw [List.cons_append, words_cons c _ h.1, words_word w r h.2]
/-- The head of a cut: 'harness', a sum, 'cut'. -/
theorem behind_of {P : Program} {a b c r : List Char} (hio : P.initOrder = String.ofList (a ++ Char.ofNat 32 :: (b ++ Char.ofNat 32 :: (c ++ Char.ofNat 32 :: r)))) (ha : a.all (fun c => !(c == Char.ofNat 32)) = true) (hb : b.all (fun c => !(c == Char.ofNat 32)) = true) (hc : c.all (fun c => !(c == Char.ofNat 32)) = true)
  (h : ((a == "harness".toList || a == "ownmain".toList) && isSumSigns b) = true) (hc2 : c = "cut".toList) : behindMainWord (wordsSigns P.initOrder.toList) = "cut".toList :: wordsSigns r := by
 rw [hio, String.toList_ofList, words_word _ _ ha, words_word _ _ hb, words_word _ _ hc]
 simp only [behindMainWord]
 rw [if_pos h, hc2]
end Go.Abs
