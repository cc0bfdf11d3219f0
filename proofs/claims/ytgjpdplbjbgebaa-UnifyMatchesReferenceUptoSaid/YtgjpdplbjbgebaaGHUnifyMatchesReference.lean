/- Part 8 of a proof of the law UnifyMatchesReference: Go data as trees, the walks of the functions that the law reaches, the plain laws. -/
import Derived.Test.YtgjpdplbjbgebaaGGUnifyMatchesReference
import GoSem.ClaimJoined
import Derived.ChangeArms
import Derived.Carry
import Derived.SizedLaws
import Derived.JoinedCond
import Derived.Deep.CondSized
import Derived.JoinedOf
import Derived.KernelRfl
set_option linter.unusedVariables false
set_option linter.unusedSimpArgs false
set_option maxRecDepth 4000
namespace Go.Abs
open Go.Proofs
theorem bel_Bd_tl {n : Nat} {tl : Tail} (us : List Bd) (h : ∀ id, tl = .tok id → id < n) : Bel n (.slice (us.map Bd.enc) tl) := by
  have := bel_Bd n us
  cases this with
  | slice _ _ h1 h2 => exact .slice _ _ h1 h
theorem bel_Bd_one {n : Nat} (u : Bd) : Bel n (.slice [u.enc] .full) := bel_Bd_tl [u] (by simp)
theorem bel_Eq2_tl {n : Nat} {tl : Tail} (us : List Eq2) (h : ∀ id, tl = .tok id → id < n) : Bel n (.slice (us.map Eq2.enc) tl) := by
  have := bel_Eq2 n us
  cases this with
  | slice _ _ h1 h2 => exact .slice _ _ h1 h
theorem app_Bd {us : List Bd} {u : Bd} {id n : Nat} {tl : Tail} (hn : n = us.length) (hb : (us.length + 1) * 48 ≤ 2 ^ 47) (fresh : Nat) (H : Heap) (hH : H[id]? = some (.buf n 4)) :
    aappend ⟨true, 4, 48⟩ fresh H (.slice (us.map Bd.enc) (.tok id)) (.slice [u.enc] tl) = some (.slice ((us ++ [u]).map Bd.enc) (.tok id), some (id, .buf (us.length + 1) 4)) := by
  have hmx : maxLen = 9223372036854775807 := by decide
  rw [aappend_tok1 (n := n) hH (by simpa using hn) (by simpa using hb) (by simp; omega) (fun e he => by obtain ⟨v, _, rfl⟩ := List.mem_map.1 he; exact v.enc_len) u.enc_len rfl (by decide)]
  simp
def stB (v : Int) (t : Ty) (q : List Bd × Bool) (b : Bd) : List Bd × Bool :=
  if (!q.2 && decide (b.v > v)) = true then (q.1 ++ [⟨v, t⟩, sb1 v t b], true) else (q.1 ++ [sb1 v t b], q.2)
theorem fold_stB_true (v : Int) (t : Ty) : ∀ (S R : List Bd), S.foldl (stB v t) (R, true) = (R ++ S.map (sb1 v t), true)
  | [], R => by simp
  | b :: S, R => by
    rw [List.foldl_cons, show stB v t (R, true) b = (R ++ [sb1 v t b], true) from rfl, fold_stB_true v t S]
    simp
def finB (v : Int) (t : Ty) (q : List Bd × Bool) : List Bd := if q.2 = true then q.1 else q.1 ++ [⟨v, t⟩]
theorem fold_addB (v : Int) (t : Ty) : ∀ (S R : List Bd), finB v t (S.foldl (stB v t) (R, false)) = R ++ addB v t S
  | [], R => rfl
  | b :: S, R => by
    rw [List.foldl_cons]
    unfold addB
    by_cases h : b.v > v
    · rw [if_pos h, show stB v t (R, false) b = (R ++ [⟨v, t⟩, sb1 v t b], true) from by unfold stB; simp [h], fold_stB_true]
      simp [finB]
    · rw [if_neg h, show stB v t (R, false) b = (R ++ [sb1 v t b], false) from by unfold stB; simp [h], fold_addB v t S]
      simp

theorem addB_k (S : List Bd) (v : Int) (t : Ty) (hS : S.length ≤ 1000000) (hw : ∀ b ∈ S, b.t.W) (ht : t.W) : PC Try.prog 42 [.slice (S.map Bd.enc) .none, vint v, t.enc] (.slice ((addB v t S).map Bd.enc) .none) := by
  have em : maxLen = 9223372036854775807 := by decide
  have hfin := fold_addB v t S []
  rw [List.nil_append] at hfin
  refine pc_of (N := 56) Try.func42 rfl rfl (by simp) (by simp [bel_Bd, Ty.bel, Bel.int]) (bel_Bd _ _) ?_
  repeat (refine awp_seq ?_)
  refine e_eval (by simp only [jA, jO, jN, seval, y29, vint, TyS, TyF, MapS, EqS, BdS] <;> with_reducible rfl) (by decide) ?_
  repeat (refine awp_seq ?_)
  refine e_eval (by simp only [jA, jO, jN, seval, y24, y29, y42, vint, TyS, TyF, MapS, EqS, BdS] <;> with_reducible rfl) (by decide) ?_
  repeat (refine awp_seq ?_)
  refine e_eval (by simp only [jA, jO, jN, seval, vint, TyS, TyF, MapS, EqS, BdS] <;> with_reducible rfl) (by decide) ?_
  repeat (refine awp_seq ?_)
  refine e_eval (by simp only [jA, jO, jN, seval, vint, TyS, TyF, MapS, EqS, BdS] <;> with_reducible rfl) (by decide) ?_
  repeat (refine awp_seq ?_)
  refine e_eval (by simp only [jA, jO, jN, seval, y24, y42, vint, TyS, TyF, MapS, EqS, BdS] <;> with_reducible rfl) (by decide) ?_
  repeat (refine awp_seq ?_)
  refine awp_retok 8 4 (es := []) (by simp only [jN, seval, vint, TyS, TyF, MapS, EqS, BdS] <;> with_reducible rfl) ?_
  refine awp_forS (σ := List Bd × Bool) (S.length) (fun (q : List Bd × Bool) => [(1, vint v), (7, .slice [(Bd.mk v t).enc] .full), (8, .slice (q.1.map Bd.enc) (.tok 1)), (9, .bool q.2), (16, .slice (S.map Bd.enc) .none)]) [1, 7, 8, 9, 16] ([]) (fun (q : List Bd × Bool) => [.row t.enc.cells, .buf q.1.length 4]) (fun (i : Nat) (q : List Bd × Bool) => q = (S.take i).foldl (stB v t) ([], false) ∧ q.1.length ≤ i + 1 ∧ (q.2 = false → q.1.length ≤ i)) (([], false)) ([]) rfl rfl rfl rfl rfl rfl rfl rfl rfl (by decide) (by decide) (by decide) (fun _ => rfl) ((by rw [em]; omega)) ⟨(by first | rfl | (simp only [jN, seval, vint, TyS, TyF, MapS, EqS, BdS] <;> first | done | with_reducible rfl)), (by first | rfl | (simp only [jN, seval, vint, TyS, TyF, MapS, EqS, BdS] <;> first | done | with_reducible rfl)), (by first | rfl | (simp only [jN, seval, vint, TyS, TyF, MapS, EqS, BdS] <;> first | done | with_reducible rfl)), (by first | rfl | (simp only [jN, seval, vint, TyS, TyF, MapS, EqS, BdS] <;> first | done | with_reducible rfl)), (by first | rfl | (simp only [jN, seval, vint, TyS, TyF, MapS, EqS, BdS] <;> first | done | with_reducible rfl)), (by first | rfl | (simp only [jN, seval, vint, TyS, TyF, MapS, EqS, BdS] <;> first | done | with_reducible rfl)), (by first | rfl | (simp only [jN, seval, vint, TyS, TyF, MapS, EqS, BdS] <;> first | done | with_reducible rfl)), trivial⟩ (by first | rfl | (simp only [jN, seval, vint, TyS, TyF, MapS, EqS, BdS] <;> first | done | with_reducible rfl)) (⟨rfl, by simp, by simp⟩) (fun _ _ _ => by first | exact Nat.zero_le _ | (simp only [List.length_append]; omega)) ?_ ?_ ?_
  · intro i q hg
    exact ⟨by repeat (first | exact hbel_nil _ | exact trivial | exact obel_ty _ _ | (refine HBel.cons ?_ ?_)), .cons (.int _ _) (.cons (bel_Bd_one _) (.cons (bel_Bd_tl _ (by simp)) (.cons (.bool _) (.cons (bel_Bd _ _) .nil))))⟩
  · intro i q hi hg
    obtain ⟨hg, hl1, hl2⟩ := hg
    have g1 := ix_nat hi
    have g2 := get_enc Bd.enc hi
    have hmem := List.getElem_mem hi
    have hWe := hw _ hmem
    have htk := List.take_succ_eq_append_getElem hi
    have happ0 := app_Bd (us := q.1) (u := ⟨v, t⟩) (id := 1) (n := q.1.length) (tl := .full) rfl (by omega)
    have happ1 := app_Bd (us := q.1) (u := ⟨S[i].v, mapT (subG [⟨v, t⟩]) S[i].t⟩) (id := 1) (n := q.1.length) (tl := .full) rfl (by omega)
    have happ2 := app_Bd (us := q.1 ++ [⟨v, t⟩]) (u := ⟨S[i].v, mapT (subG [⟨v, t⟩]) S[i].t⟩) (id := 1) (n := q.1.length + 1) (tl := .full) (by simp) (by simp; omega)
    simp only [List.append_assoc, List.cons_append, List.nil_append, List.length_append, List.length_cons, List.length_nil, Nat.zero_add] at happ2
    repeat (refine awp_seq ?_)
    refine e_eval (by simp only [jA, jO, jN, seval, y24, y42, vint, TyS, TyF, MapS, EqS, BdS, g1, g2, Int.toNat_natCast] <;> with_reducible rfl) (by decide) ?_
    repeat (refine awp_seq ?_)
    refine g_eval (by simp only [jG, jO, jN, seval, y3, y42, vint, TyS, TyF, MapS, EqS, BdS, g1, g2, Int.toNat_natCast] <;> with_reducible rfl) (by decide) (by repeat (first | exact Fin.base _ | with_reducible apply Fin.keep | apply Fin.drop)) ?_
    repeat (refine awp_seq ?_)
    refine awp_cond rfl (by simp only [jN, seval, vint, TyS, TyF, MapS, EqS, BdS, g1, g2, Int.toNat_natCast] <;> with_reducible rfl) (fun bt29 => ?_) (fun bt29 => ?_)
    ·
      have hst : (!q.2 && decide (S[i].v > v)) = true := bt29
      repeat (refine awp_seq ?_)
      refine e_eval (by simp only [jA, jO, jN, seval, y24, y42, vint, TyS, TyF, MapS, EqS, BdS, g1, g2, Int.toNat_natCast, happ0] <;> with_reducible rfl) (by decide) ?_
      refine awp_sel [1, 7, 8, 9, 11, 16, 17, 18] (by simp only [jN, seval, vint, TyS, TyF, MapS, EqS, BdS, g1, g2, Int.toNat_natCast] <;> with_reducible rfl) ?_
      repeat (refine awp_seq ?_)
      refine x_draw 0 rfl (by kernel_rfl) ?_
      refine x1_take 6 rfl (by simp only [jP, jO, jN, seval, y3, y29, y42, vint, TyS, TyF, MapS, EqS, BdS, g1, g2, Int.toNat_natCast, happ1, happ2] <;> with_reducible rfl) (by decide) (by decide) (by decide) ?_
      refine x1_keep rfl (by simp only [jE, jN, seval, vint, TyS, TyF, MapS, EqS, BdS, g1, g2, Int.toNat_natCast, happ1, happ2] <;> with_reducible rfl) (by simp only [jE, jN, seval, vint, TyS, TyF, MapS, EqS, BdS, g1, g2, Int.toNat_natCast, happ1, happ2] <;> with_reducible rfl) (by simp only [jE, jN, seval, vint, TyS, TyF, MapS, EqS, BdS, g1, g2, Int.toNat_natCast, happ1, happ2]) (by decide) Trygo41 (fun hc L => substV_k [⟨v, t⟩] (by simp; decide) (by simpa using ht) S[i].t.size S[i].t (Nat.le_refl _) hWe _) ?_
      refine x1_take 2 rfl (by simp only [jP, jO, jN, seval, y24, y42, vint, TyS, TyF, MapS, EqS, BdS, g1, g2, Int.toNat_natCast, happ1, happ2] <;> with_reducible rfl) (by decide) (by decide) (by decide) ?_
      refine x_mid (by first | (simp only [LS, HS, List.append_assoc, List.cons_append, List.nil_append, g1, g2, Int.toNat_natCast, happ1, happ2] <;> with_reducible rfl) | rfl) ?_
      refine x2_end (bm := [0, 0, 2, 0, 8, 0, 56, 126, 254, 511, 1023]) (fresh := 0) (by kernel_rfl) (by simp only [jX, jO, jN, seval, y24, y42, vint, TyS, TyF, MapS, EqS, BdS, g1, g2, Int.toNat_natCast, happ1, happ2] <;> with_reducible rfl) (by decide) (by repeat (first | exact Fin.base _ | with_reducible apply Fin.keep | apply Fin.drop)) ?_
      have hq0 := hl2 (by revert hst; cases q.2 <;> simp)
      exact ⟨⟨rfl, rfl, trivial⟩, (q.1 ++ [⟨v, t⟩, ⟨S[i].v, mapT (subG [⟨v, t⟩]) S[i].t⟩], true), _, ⟨rfl, rfl, rfl, rfl, rfl, trivial⟩, by simp only [jN, seval, vint, TyS, TyF, MapS, EqS, BdS, List.length_append, List.length_singleton] <;> rfl, by rw [htk, List.foldl_append, ← hg]; show _ = stB v t q S[i]; unfold stB; rw [hst]; rfl, by simp; omega, by simp⟩
    ·
      have hst : (!q.2 && decide (S[i].v > v)) = false := bt29
      repeat (refine awp_seq ?_)
      refine awp_skip ?_
      repeat (refine awp_seq ?_)
      refine x_draw 0 rfl (by kernel_rfl) ?_
      refine x1_take 6 rfl (by simp only [jP, jO, jN, seval, y3, y29, y42, vint, TyS, TyF, MapS, EqS, BdS, g1, g2, Int.toNat_natCast, happ1, happ2] <;> with_reducible rfl) (by decide) (by decide) (by decide) ?_
      refine x1_keep rfl (by simp only [jE, jN, seval, vint, TyS, TyF, MapS, EqS, BdS, g1, g2, Int.toNat_natCast, happ1, happ2] <;> with_reducible rfl) (by simp only [jE, jN, seval, vint, TyS, TyF, MapS, EqS, BdS, g1, g2, Int.toNat_natCast, happ1, happ2] <;> with_reducible rfl) (by simp only [jE, jN, seval, vint, TyS, TyF, MapS, EqS, BdS, g1, g2, Int.toNat_natCast, happ1, happ2]) (by decide) Trygo41 (fun hc L => substV_k [⟨v, t⟩] (by simp; decide) (by simpa using ht) S[i].t.size S[i].t (Nat.le_refl _) hWe _) ?_
      refine x1_take 2 rfl (by simp only [jP, jO, jN, seval, y24, y42, vint, TyS, TyF, MapS, EqS, BdS, g1, g2, Int.toNat_natCast, happ1, happ2] <;> with_reducible rfl) (by decide) (by decide) (by decide) ?_
      refine x_mid (by first | (simp only [LS, HS, List.append_assoc, List.cons_append, List.nil_append, g1, g2, Int.toNat_natCast, happ1, happ2] <;> with_reducible rfl) | rfl) ?_
      refine x2_end (bm := [0, 0, 2, 0, 8, 0, 56, 126, 254, 511, 1023]) (fresh := 0) (by kernel_rfl) (by simp only [jX, jO, jN, seval, y24, y42, vint, TyS, TyF, MapS, EqS, BdS, g1, g2, Int.toNat_natCast, happ1, happ2] <;> with_reducible rfl) (by decide) (by repeat (first | exact Fin.base _ | with_reducible apply Fin.keep | apply Fin.drop)) ?_
      exact ⟨⟨rfl, rfl, trivial⟩, (q.1 ++ [⟨S[i].v, mapT (subG [⟨v, t⟩]) S[i].t⟩], q.2), _, ⟨rfl, rfl, rfl, rfl, rfl, trivial⟩, by simp only [jN, seval, vint, TyS, TyF, MapS, EqS, BdS, List.length_append, List.length_singleton] <;> rfl, by rw [htk, List.foldl_append, ← hg]; show _ = stB v t q S[i]; unfold stB; rw [hst]; rfl, by simp; omega, by intro h; have := hl2 h; simp; omega⟩
  · intro q hg
    obtain ⟨hg, hl1, hl2⟩ := hg
    rw [List.take_length] at hg
    rw [← hg] at hfin
    repeat (refine awp_seq ?_)
    refine e_eval (by simp only [jA, jO, jN, seval, vint, TyS, TyF, MapS, EqS, BdS] <;> with_reducible rfl) (by decide) ?_
    repeat (refine awp_seq ?_)
    refine awp_cond rfl (by simp only [jN, seval, vint, TyS, TyF, MapS, EqS, BdS] <;> with_reducible rfl) (fun bt48 => ?_) (fun bt48 => ?_)
    ·
      have hq : q.2 = false := by simpa using bt48
      have happ3 := app_Bd (us := q.1) (u := ⟨v, t⟩) (id := 1) (n := q.1.length) (tl := .full) rfl (by omega)
      repeat (refine awp_seq ?_)
      refine e_eval (by simp only [jA, jO, jN, seval, y24, y42, vint, TyS, TyF, MapS, EqS, BdS, happ3] <;> with_reducible rfl) (by decide) ?_
      repeat (refine awp_seq ?_)
      refine e_eval (by simp only [jA, jO, jN, seval, vint, TyS, TyF, MapS, EqS, BdS] <;> with_reducible rfl) (by decide) ?_
      repeat (refine awp_seq ?_)
      refine awp_ret ⟨.inr rfl, _, rfl, ?_⟩
      simp only [jN, seval, vint, TyS, TyF, MapS, EqS, BdS]
      rw [← hfin]
      unfold finB
      rw [hq]
      first | rfl | simp
    ·
      have hq : q.2 = true := by simpa using bt48
      repeat (refine awp_seq ?_)
      refine awp_skip ?_
      repeat (refine awp_seq ?_)
      refine e_eval (by simp only [jA, jO, jN, seval, vint, TyS, TyF, MapS, EqS, BdS] <;> with_reducible rfl) (by decide) ?_
      repeat (refine awp_seq ?_)
      refine awp_ret ⟨.inr rfl, _, rfl, ?_⟩
      simp only [jN, seval, vint, TyS, TyF, MapS, EqS, BdS]
      rw [← hfin]
      unfold finB
      rw [hq]
      first | rfl | simp

end Go.Abs
namespace Go.Abs

/-! From a reading of the arguments to the trees, and back. -/

/-- A world as it is handed to a call: all that lies in it stays. -/
def env0 (W : World) : Env := { w := W, κ := fun _ => .fixed, ρ := fun _ => 0, tb := fun _ => none, H := [] }
theorem env0_ok (W : World) : (env0 W).Ok := by
  constructor
  · intro id cs h; simp [env0] at h
  · intro id n sz b h; simp [env0] at h
  · intro id id' cs cs' h; simp [env0] at h
  · intro id id' n sz n' sz' b h; simp [env0] at h
  · intro id b vs h; simp [env0] at h
  · exact ⟨fun id k h => by simp [env0] at h, fun id id' k k' h => by simp [env0] at h⟩
theorem env0_cell (W : World) (a : Addr) : (env0 W).view.cell a = W.cell? a := rfl

theorem calls_of_pc {P : Program} {f : FuncId} {args : List PV} {b : Bool} (h : PC P f args (.bool b)) (W : World) (vargs : Array Value) (hr : RL (env0 W).view vargs args) :
    Calls P f vargs W fun e w' => e = .returned (.bool b) ∧ Go.RowKit.Below W.heap.size W w' := by
  refine (h [] (env0 W) vargs (env0_ok W) rfl hr).mono ?_
  rintro e w' ⟨E', v, r, rfl, rfl, hle, hok, hv, rfl, _⟩
  refine ⟨by rw [hv.bool_inv], hle.os, hle.tape, hle.output, hle.size, fun k hk => (hle.other k hk ?_).2⟩
  rintro (⟨id, cs, h, _⟩ | ⟨id, n, sz, h, _⟩ | ⟨id, k, h, _⟩) <;> simp [env0] at h

def RLl (V : View) (cs : List Value) (ps : List PV) : Prop := cs.length = ps.length ∧ ∀ i (h : i < ps.length), VRel V (cs.getD i undef) ps[i]

theorem RLl.nil {V : View} : RLl V [] [] := ⟨rfl, fun i h => by cases h⟩
theorem RLl.cons {V : View} {c : Value} {cs : List Value} {p : PV} {ps : List PV} (h : VRel V c p) (hs : RLl V cs ps) : RLl V (c :: cs) (p :: ps) := by
  refine ⟨by simp [hs.1], fun i hi => ?_⟩
  cases i with
  | zero => exact h
  | succ i => exact hs.2 i (by simpa using hi)
theorem RLl.app {V : View} {c1 c2 : List Value} {p1 p2 : List PV} (h1 : RLl V c1 p1) (h2 : RLl V c2 p2) : RLl V (c1 ++ c2) (p1 ++ p2) := by
  refine ⟨by simp [h1.1, h2.1], fun i hi => ?_⟩
  by_cases h : i < p1.length
  · have := h1.2 i h
    simp only [List.getD_eq_getElem?_getD] at this ⊢
    rw [List.getElem?_append_left (by rw [h1.1]; exact h), List.getElem_append_left h]; exact this
  · have := h2.2 (i - p1.length) (by simp at hi; omega)
    simp only [List.getD_eq_getElem?_getD] at this ⊢
    rw [List.getElem?_append_right (by rw [h1.1]; omega), List.getElem_append_right (by omega), h1.1]; exact this
theorem RLl.agg {V : View} {arr : Array Value} {ps : List PV} (h : RLl V arr.toList ps) : VRel V (.agg arr) (.agg ps) := by
  refine .agg _ _ (by have := h.1; simpa using this) fun i hi => ?_
  have := h.2 i hi
  rw [List.getD_eq_getElem?_getD, Array.getElem?_toList] at this
  rw [Array.getD_eq_getD_getElem?]; exact this
theorem RLl.one {V : View} {v : Value} {p : PV} (h : RLl V [v] [p]) : VRel V v p := h.2 0 (by simp)

theorem exists_list {α : Type} {n : Nat} {p : Nat → α → Prop} (h : ∀ i, i < n → ∃ a, p i a) : ∃ xs : List α, xs.length = n ∧ ∀ i (hi : i < xs.length), p i xs[i] := by
  induction n with
  | zero => exact ⟨[], rfl, fun i hi => by cases hi⟩
  | succ n ih =>
    obtain ⟨xs, h1, h2⟩ := ih fun i hi => h i (by omega)
    obtain ⟨a, ha⟩ := h n (by omega)
    refine ⟨xs ++ [a], by simp [h1], fun i hi => ?_⟩
    by_cases hlt : i < xs.length
    · rw [List.getElem_append_left hlt]; exact h2 i hlt
    · rw [List.getElem_append_right (by omega)]
      simp at hi
      obtain rfl : i = n := by omega
      simpa using ha

/-- A list and the data of a slice. -/
def SlD {α : Type} {H : Type} (D : α → DataW H → Prop) (xs : List α) (d : DataW H) : Prop :=
  (xs = [] ∧ d = .nil) ∨ ∃ els sp, d = .slice els sp ∧ xs.length = els.length ∧ ∀ i (h1 : i < xs.length) (h2 : i < els.length), D xs[i] els[i]

section
variable {H : Type} {enc : TypeId × Value → H} {P : Program} {W : World} {spare : Nat → Bool} {held : Bool}

theorem rd_slice {α : Type} (en : α → PV) (D : α → DataW H → Prop) {t e : TypeId} {fuel : Nat} {cs : List Value} {x : DataW H × List MemPlace} (ht : P.underlying t = some (.slice e)) (hsz : ∀ a, (en a).cells.length = P.cellsOf e)
    (h : DataW.trod enc P W 0 spare held fuel t cs = some x) (ih : ∀ n cs' x', n < fuel → DataW.trod enc P W 0 spare held n e cs' = some x' → ∃ a, RLl (env0 W).view cs' (en a).cells ∧ D a x'.1) :
    ∃ (xs : List α) (v : Value), cs = [v] ∧ VRel (env0 W).view v (.slice (xs.map en) .none) ∧ SlD D xs x.1 := by
  rcases DataW.trod_slice ht h with ⟨rfl, rfl⟩ | ⟨a, len, cap, elems, rest, n, rfl, rfl, rfl, hb, hl, hm, hlen, hel, _, _⟩
  · exact ⟨[], _, rfl, .nils .none trivial, .inl ⟨rfl, rfl⟩⟩
  · obtain ⟨ys, hys, hp⟩ := exists_list (α := α × List Value) (n := len) (p := fun i y => W.cells? 0 (a.add (i * P.cellsOf e)) (P.cellsOf e) = some y.2 ∧ RLl (env0 W).view y.2 (en y.1).cells ∧ ∀ h : i < elems.length, D y.1 elems[i].1) (fun i hi => by
      have := hel i hi
      rw [List.getElem?_eq_getElem (by omega)] at this
      obtain ⟨cs', h1, h2⟩ := Option.bind_eq_some_iff.1 this
      obtain ⟨y, h3, h4⟩ := ih n cs' _ (by omega) h2
      exact ⟨(y, cs'), h1, h3, fun _ => h4⟩)
    refine ⟨ys.map (·.1), _, rfl, ?_, .inr ⟨_, _, rfl, by simp [hys, hlen], fun i h1 h2 => ?_⟩⟩
    · have hget : ∀ i (hi : i < ys.length), ys[i]? = some ys[i] := fun i hi => List.getElem?_eq_getElem hi
      refine .slice a len cap (P.cellsOf e) _ .none (fun i j => match ys[i]? with | some y => y.2.getD j undef | none => undef) (by simp [hys]) hl hm ?_ ?_ ?_ trivial
      · intro i hi; simp only [List.getElem_map]; exact hsz _
      · intro i j hi hj
        have hi' : i < ys.length := by omega
        obtain ⟨h1, h2, _⟩ := hp i hi'
        obtain ⟨_, h4, h5⟩ := World.cells?_some h1
        have := h5 j hj
        rw [hget i hi']
        simp only
        rw [env0_cell, ← add_add, this, List.getD_eq_getElem?_getD, List.getElem?_eq_getElem (by omega)]; rfl
      · intro i j hi hj
        have hi' : i < ys.length := by simpa using hi
        simp only [List.getElem_map] at hj ⊢
        rw [hget i hi']
        exact (hp i hi').2.1.2 j hj
    · simp only [List.getElem_map]
      exact (hp i (by simpa using h1)).2.2 _

/-- The field of a structure. -/
theorem rd_fields {t : TypeId} {fs : Array Field} {fuel : Nat} {cs : List Value} {x : DataW H × List MemPlace} (ht : P.underlying t = some (.struct fs)) (h : DataW.trod enc P W 0 spare held fuel t cs = some x) :
    ∃ (ds : List (DataW H)) (n : Nat), fuel = n + 1 ∧ x.1 = .agg ds ∧ cs.length = P.cellsOf t ∧ ds.length = fs.size ∧ ∀ (i : Nat) (f : Field), fs[i]? = some f → ∃ d ps, ds[i]? = some d ∧ DataW.trod enc P W 0 spare held n f.type ((cs.drop f.offset).take (P.cellsOf f.type)) = some (d, ps) := by
  obtain ⟨xs, n, h1, rfl, h3, h4, h5⟩ := DataW.trod_struct ht h
  refine ⟨xs.map (·.1), n, h1, rfl, h3, by simpa using h4, fun i f hf => ?_⟩
  have hi : i < xs.length := by
    rw [h4]
    rcases Nat.lt_or_ge i fs.size with hl | hl
    · exact hl
    · rw [Array.getElem?_eq_none hl] at hf; cases hf
  have := h5 i f hf
  rw [List.getElem?_eq_getElem hi] at this
  exact ⟨xs[i].1, xs[i].2, by simp [hi], this⟩

theorem rd_int {t : TypeId} {k : IntKind} {fuel : Nat} {cs : List Value} {x : DataW H × List MemPlace} (ht : P.underlying t = some (.int k)) (h : DataW.trod enc P W 0 spare held fuel t cs = some x) : ∃ n, RLl (env0 W).view cs [.int k n] ∧ x.1 = .lit (.int k n) ∧ (Lit.int k n).wf = true ∧ cs = [.int k n] := by
  obtain ⟨n, rfl, rfl, h3⟩ := DataW.trod_int ht h
  exact ⟨n, .cons (.int _ _) .nil, rfl, h3, rfl⟩
end

/-- The data of a type. -/
inductive TyD {H : Type} : Ty → DataW H → Prop
  | nil (k i : Int) : TyD (.mk k i []) (.agg [.lit (.int .i64 k), .lit (.int .i64 i), .nil])
  | slice (k i : Int) (xs : List Ty) (es sp : List (DataW H)) (hl : xs.length = es.length) (h : ∀ j (h1 : j < xs.length) (h2 : j < es.length), TyD xs[j] es[j]) : TyD (.mk k i xs) (.agg [.lit (.int .i64 k), .lit (.int .i64 i), .slice es sp])
theorem TyD.of {H : Type} {k i : Int} {xs : List Ty} {d : DataW H} (h : SlD TyD xs d) : TyD (.mk k i xs) (.agg [.lit (.int .i64 k), .lit (.int .i64 i), d]) := by
  rcases h with ⟨rfl, rfl⟩ | ⟨es, sp, rfl, h1, h2⟩
  · exact .nil k i
  · exact .slice k i xs es sp h1 h2

/-- The facts on a program's type 'api.Type' that a reading looks at. -/
structure TyAt (P : Program) (T S : TypeId) : Prop where
  st : ∃ f0 f1 f2 : Field, P.underlying T = some (.struct #[f0, f1, f2]) ∧ P.underlying f0.type = some (.int .i64) ∧ P.underlying f1.type = some (.int .i64) ∧ f2.type = S ∧ f0.offset = 0 ∧ f1.offset = 1 ∧ f2.offset = 2 ∧ P.cellsOf f0.type = 1 ∧ P.cellsOf f1.type = 1
  sl : P.underlying S = some (.slice T)
  c : P.cellsOf T = 3
  cs : P.cellsOf S = 1
  by40 : P.bytesOf T = 40

section
variable {H : Type} {enc : TypeId × Value → H} {P : Program} {W : World} {spare : Nat → Bool} {held : Bool} {T S : TypeId}

theorem rd_ty (F : TyAt P T S) : ∀ (fuel : Nat) (cs : List Value) (x : DataW H × List MemPlace), DataW.trod enc P W 0 spare held fuel T cs = some x → ∃ t : Ty, RLl (env0 W).view cs t.enc.cells ∧ TyD t x.1 := by
  intro fuel
  induction fuel using Nat.strongRecOn with
  | _ fuel ih =>
  intro cs x h
  obtain ⟨f0, f1, f2, hst, u0, u1, e2, o0, o1, o2, c0, c1⟩ := F.st
  obtain ⟨ds, n, rfl, hx, hlen, hdl, hf⟩ := rd_fields hst h
  rw [F.c] at hlen
  match cs, hlen with
  | [v0, v1, v2], _ =>
  obtain ⟨d0, p0, g0, r0⟩ := hf 0 f0 rfl
  obtain ⟨d1, p1, g1, r1⟩ := hf 1 f1 rfl
  obtain ⟨d2, p2, g2, r2⟩ := hf 2 f2 rfl
  rw [o0, c0] at r0
  rw [o1, c1] at r1
  rw [o2, e2, F.cs] at r2
  obtain ⟨k, q0, rfl, w0, _⟩ := rd_int u0 r0
  obtain ⟨i, q1, rfl, w1, _⟩ := rd_int u1 r1
  obtain ⟨xs, v, hv, hr, hd⟩ := rd_slice Ty.enc TyD F.sl (fun a => by rw [F.c, Ty.enc_len]) r2 (fun m cs' x' hm h' => ih m (by omega) cs' x' h')
  simp only [List.drop_succ_cons, List.drop_zero, List.take_succ_cons, List.take_zero, List.cons.injEq, and_true] at hv
  subst hv
  refine ⟨.mk k i xs, ?_, ?_⟩
  · rw [Ty.enc_cells]
    exact .cons q0.one (.cons q1.one (.cons hr .nil))
  · rw [hx]
    have : ds = [.lit (.int .i64 k), .lit (.int .i64 i), d2] := by
      match ds, hdl with
      | [a, b, c], _ =>
        simp at g0 g1 g2
        rw [g0, g1, g2]
    rw [this]
    exact .of hd

/-- No list of arguments is longer than the row's own bound bears. -/
theorem ty_weights (F : TyAt P T S) {t : Ty} {d : DataW H} (h : TyD t d) (hw : (d.weights P T).all (· ≤ reachBytes) = true) : t.W := by
  obtain ⟨f0, f1, f2, hst, u0, u1, e2, _⟩ := F.st
  induction h with
  | nil k i => exact .mk (by simp) (by simp)
  | slice k i xs es sp hl h ih =>
    simp only [DataW.weights, hst, DataW.weightsEach, List.map_cons, List.map_nil, e2, F.sl, F.by40, List.nil_append, List.append_nil, List.all_cons, List.all_append, Bool.and_eq_true, decide_eq_true_eq] at hw
    have hb : reachBytes = 140737488351232 := rfl
    refine .mk (by rw [hl]; have := hw.1; omega) fun u hu => ?_
    obtain ⟨j, hj, rfl⟩ := List.mem_iff_getElem.1 hu
    refine ih j hj (by omega) ?_
    have h2 := hw.2.1
    rw [List.all_eq_true] at h2 ⊢
    intro x hx
    refine h2 x ?_
    have hmem : ∀ (l : List (DataW H)) (e : DataW H), e ∈ l → x ∈ e.weights P T → x ∈ DataW.weightsAll P T l := by
      intro l
      induction l with
      | nil => intro e he; cases he
      | cons a l ihl =>
        intro e he hx
        simp only [DataW.weightsAll, List.mem_append]
        rcases List.mem_cons.1 he with rfl | he
        · exact .inl hx
        · exact .inr (ihl e he hx)
    exact hmem es _ (List.getElem_mem _) hx

theorem weights_mem {l : List (DataW H)} {e : TypeId} {d : DataW H} (hd : d ∈ l) (h : (DataW.weightsAll P e l).all (· ≤ reachBytes) = true) : (d.weights P e).all (· ≤ reachBytes) = true := by
  rw [List.all_eq_true] at h ⊢
  intro x hx
  refine h x ?_
  clear h
  induction l with
  | nil => cases hd
  | cons a l ih =>
    simp only [DataW.weightsAll, List.mem_append]
    rcases List.mem_cons.1 hd with rfl | hd
    · exact .inl hx
    · exact .inr (ih hd)

/-- A slice's elements and its length. -/
theorem sl_weights {α : Type} {D : α → DataW H → Prop} {Sl E : TypeId} (hs : P.underlying Sl = some (.slice E)) {xs : List α} {d : DataW H} (h : SlD D xs d) (hw : (d.weights P Sl).all (· ≤ reachBytes) = true) :
    xs.length * P.bytesOf E ≤ reachBytes ∧ ∀ a ∈ xs, ∃ d', D a d' ∧ (d'.weights P E).all (· ≤ reachBytes) = true := by
  rcases h with ⟨rfl, rfl⟩ | ⟨els, sp, rfl, h1, h2⟩
  · simp
  · simp only [DataW.weights, hs, List.all_cons, List.all_append, Bool.and_eq_true, decide_eq_true_eq] at hw
    refine ⟨?_, fun a ha => ?_⟩
    · rw [h1]
      refine Nat.le_trans (Nat.mul_le_mul_right _ (Nat.le_add_right _ _)) hw.1
    · obtain ⟨j, hj, rfl⟩ := List.mem_iff_getElem.1 ha
      exact ⟨_, h2 j hj (by omega), weights_mem (List.getElem_mem _) hw.2.1⟩
end
end Go.Abs
namespace Go.Abs
theorem RLl.rl {V : View} {arr : Array Value} {ps : List PV} (h : RLl V arr.toList ps) : RL V arr ps := by
  refine ⟨by have := h.1; simpa using this, fun i hi => ?_⟩
  have := h.2 i hi
  rw [List.getD_eq_getElem?_getD, Array.getElem?_toList] at this
  rw [Array.getD_eq_getD_getElem?]; exact this
theorem Ty.enc_agg (t : Ty) : PV.agg t.enc.cells = t.enc := by rw [Ty.enc_cells, Ty.enc_eq]
end Go.Abs
namespace Go.Abs
/-! Reading bindings. -/
def BdD {H : Type} (b : Bd) (d : DataW H) : Prop := ∃ d1, d = .agg [.lit (.int .i64 b.v), d1] ∧ TyD b.t d1
structure BdAt (P : Program) (B T : TypeId) : Prop where
  st : ∃ f0 f1 : Field, P.underlying B = some (.struct #[f0, f1]) ∧ P.underlying f0.type = some (.int .i64) ∧ f1.type = T ∧ f0.offset = 0 ∧ f1.offset = 1 ∧ P.cellsOf f0.type = 1
  c : P.cellsOf B = 4
section
variable {H : Type} {enc : TypeId × Value → H} {P : Program} {W : World} {spare : Nat → Bool} {held : Bool} {B T S : TypeId}
end
end Go.Abs
set_option maxRecDepth 4000
namespace Go.Abs
open Go.Proofs
theorem tyAt : TyAt Try.prog 29 27 := ⟨⟨_, _, _, Try.underlying29, Try.underlying3, Try.underlying3, rfl, rfl, rfl, rfl, by kernel_rfl, by kernel_rfl⟩, Try.underlying27, by kernel_rfl, by kernel_rfl, by kernel_rfl⟩
theorem rd_Ty {H : Type} {enc : TypeId × Value → H} {W : World} {spare : Nat → Bool} {held : Bool} (fuel : Nat) (cs : List Value) (x : DataW H × List MemPlace) (h : DataW.trod enc Try.prog W 0 spare held fuel 29 cs = some x) : ∃ t : Ty, RLl (env0 W).view cs t.enc.cells ∧ TyD t x.1 := rd_ty tyAt fuel cs x h
theorem Eq2.enc_cells (t : Eq2) : t.enc.cells = [.int .i64 t.l.kind, .int .i64 t.l.id, .slice (t.l.args.map Ty.enc) .none, .int .i64 t.r.kind, .int .i64 t.r.id, .slice (t.r.args.map Ty.enc) .none] := rfl
theorem Eq2.enc_len (t : Eq2) : t.enc.cells.length = 6 := rfl
theorem Eq2.enc_agg (t : Eq2) : PV.agg t.enc.cells = t.enc := rfl
def Eq2.W (t : Eq2) : Prop := t.l.W ∧ t.r.W
def Eq2D {H : Type} (t : Eq2) (d : DataW H) : Prop := ∃ d0 d1, d = .agg [d0, d1] ∧ TyD t.l d0 ∧ TyD t.r d1
section
variable {H : Type} {enc : TypeId × Value → H} {W : World} {spare : Nat → Bool} {held : Bool}
theorem rd_Eq2 (fuel : Nat) (cs : List Value) (x : DataW H × List MemPlace) (h : DataW.trod enc Try.prog W 0 spare held fuel 31 cs = some x) : ∃ t : Eq2, RLl (env0 W).view cs t.enc.cells ∧ Eq2D t x.1 := by
  obtain ⟨ds, n, rfl, hx, hlen, hdl, hf⟩ := rd_fields Try.underlying31 h
  rw [show Try.prog.cellsOf 31 = 6 from by kernel_rfl] at hlen
  match cs, hlen with
  | [v0, v1, v2, v3, v4, v5], _ =>
  obtain ⟨d0, p0, g0, r0⟩ := hf 0 _ rfl
  have r0 : DataW.trod enc Try.prog W 0 spare held n 29 [v0, v1, v2] = some (d0, p0) := by
    have e : Try.prog.cellsOf 29 = 3 := by kernel_rfl
    have r0 : DataW.trod enc Try.prog W 0 spare held n 29 (List.take (Try.prog.cellsOf 29) (List.drop 0 [v0, v1, v2, v3, v4, v5])) = some (d0, p0) := r0
    rw [e] at r0
    exact r0
  obtain ⟨a0, q0, hd0⟩ := rd_Ty _ _ _ r0
  rw [Ty.enc_cells] at q0
  obtain ⟨d1, p1, g1, r1⟩ := hf 1 _ rfl
  have r1 : DataW.trod enc Try.prog W 0 spare held n 29 [v3, v4, v5] = some (d1, p1) := by
    have e : Try.prog.cellsOf 29 = 3 := by kernel_rfl
    have r1 : DataW.trod enc Try.prog W 0 spare held n 29 (List.take (Try.prog.cellsOf 29) (List.drop 3 [v0, v1, v2, v3, v4, v5])) = some (d1, p1) := r1
    rw [e] at r1
    exact r1
  obtain ⟨a1, q1, hd1⟩ := rd_Ty _ _ _ r1
  rw [Ty.enc_cells] at q1
  refine ⟨Eq2.mk a0 a1, ?_, ?_⟩
  · rw [Eq2.enc_cells]
    exact (RLl.app q0 q1)
  · rw [hx]
    have e : ds = [d0, d1] := by
      match ds, hdl with
      | [e0, e1], _ =>
        simp at g0 g1
        rw [g0, g1]
    rw [e]
    exact ⟨_, _, rfl, hd0, hd1⟩
theorem Eq2_weights {t : Eq2} {d : DataW H} (h : Eq2D t d) (hw : (d.weights Try.prog 31).all (· ≤ reachBytes) = true) : t.W := by
  have hb : reachBytes = 140737488351232 := rfl
  have hfl : ∀ (c : DataW H), True := fun _ => trivial
  obtain ⟨d0, d1, rfl, k0, k1⟩ := h
  simp only [DataW.weights, Try.underlying31, DataW.weightsEach, List.map_cons, List.map_nil, List.nil_append, List.append_nil, List.all_append, List.all_cons, List.all_nil, Bool.and_eq_true, Bool.and_true, decide_eq_true_eq] at hw
  obtain ⟨z0, z1⟩ := hw
  exact ⟨(ty_weights tyAt k0 z0), (ty_weights tyAt k1 z1)⟩
end
end Go.Abs
set_option maxRecDepth 4000
namespace Go.Abs
open Go.Proofs
theorem app_Eq2 {us : List Eq2} {u : Eq2} {id : Nat} {tl : Tail} (hb : (us.length + 1) * 80 ≤ 2 ^ 47) (fresh : Nat) (H : Heap) (hH : H[id]? = some (.buf us.length 6)) :
    aappend ⟨true, 6, 80⟩ fresh H (.slice (us.map Eq2.enc) (.tok id)) (.slice [u.enc] tl) = some (.slice ((us ++ [u]).map Eq2.enc) (.tok id), some (id, .buf (us.length + 1) 6)) := by
  have hmx : maxLen = 9223372036854775807 := by decide
  rw [aappend_tok1 (n := us.length) hH (by simp) (by simpa using hb) (by simp; omega) (fun e he => by obtain ⟨v, _, rfl⟩ := List.mem_map.1 he; exact v.enc_len) u.enc_len rfl (by decide)]
  simp
def tlA (fresh : Nat) (xs : List Eq2) : Tail := if xs = [] then .full else .tok fresh
def efA (fresh : Nat) (xs : List Eq2) : Eff := if xs = [] then none else some (fresh, .buf xs.length 6)
def efB (id n : Nat) (xs : List Eq2) : Eff := if xs = [] then none else some (id, .buf (n + xs.length) 6)
theorem app_all0 {xs : List Eq2} (hb : xs.length * 80 ≤ 2 ^ 47) (fresh : Nat) (H : Heap) :
    aappend ⟨true, 6, 80⟩ fresh H (.slice [] .full) (.slice (xs.map Eq2.enc) .none) = some (.slice (xs.map Eq2.enc) (tlA fresh xs), efA fresh xs) := by
  have em : maxLen = 9223372036854775807 := by decide
  by_cases h : xs = []
  · subst h; simp [aappend, tlA, efA]
  · have hne : xs.map Eq2.enc ≠ [] := by simpa using h
    rw [aappend_all (i := ⟨true, 6, 80⟩) (fresh := fresh) (H := H) (tl := .none) hne (by simpa using hb) (by simp; omega) (fun e he => by obtain ⟨v, _, rfl⟩ := List.mem_map.1 he; exact ⟨v.enc_len, rfl⟩) (by decide)]
    simp [tlA, efA, h]
theorem app_Eqs {us vs : List Eq2} {id n : Nat} (hn : n = us.length) (hb : (us.length + vs.length) * 80 ≤ 2 ^ 47) (fresh : Nat) (H : Heap) (hH : H[id]? = some (.buf n 6)) :
    aappend ⟨true, 6, 80⟩ fresh H (.slice (us.map Eq2.enc) (.tok id)) (.slice (vs.map Eq2.enc) .none) = some (.slice (us.map Eq2.enc ++ vs.map Eq2.enc) (.tok id), efB id n vs) := by
  have em : maxLen = 9223372036854775807 := by decide
  by_cases h : vs = []
  · subst h; simp [aappend, efB]
  · have hne : vs.map Eq2.enc ≠ [] := by simpa using h
    unfold aappend
    simp only [if_neg hne, List.length_map]
    rw [if_pos ⟨hb, by omega, fun e he => by obtain ⟨v, _, rfl⟩ := List.mem_map.1 he; exact v.enc_len, fun e he => by obtain ⟨v, _, rfl⟩ := List.mem_map.1 he; exact ⟨v.enc_len, rfl⟩, by decide⟩]
    simp only [hH]
    rw [if_pos (by simpa using hn)]
    simp [efB, h, hn]
def ansF : Option (List Bd) → PV
  | none => .tup [.slice [] .none, .bool false]
  | some W => .tup [.slice (W.map Bd.enc) .none, .bool true]
theorem ansF_bel (r : Option (List Bd)) : Bel 0 (ansF r) := by
  cases r with
  | none => exact .tup _ (by simp [Bel.bool]; exact bel_Bd 0 [])
  | some W => exact .tup _ (by simp [bel_Bd, Bel.bool])
theorem sizes_len2 : ∀ us : List Ty, us.length ≤ Ty.sizes us
  | [] => Nat.zero_le _
  | u :: us => by have := size_ge u; have := sizes_len2 us; simp only [Ty.sizes, List.length_cons]; omega
theorem obel_eq2 (n : Nat) (e : Eq2) : OBel n (.row e.enc.cells) :=
  obel_row_cons (.int _ _) (obel_row_cons (.int _ _) (obel_row_cons (bel_Ty _ _) (obel_row_cons (.int _ _) (obel_row_cons (.int _ _) (obel_row_cons (bel_Ty _ _) (obel_row_nil _))))))
theorem zipE_take {xs ys : List Ty} {i : Nat} (h1 : i < xs.length) (h2 : i < ys.length) : zipE (xs.take (i + 1)) (ys.take (i + 1)) = zipE (xs.take i) (ys.take i) ++ [⟨xs[i], ys[i]⟩] := by
  unfold zipE
  rw [List.take_succ_eq_append_getElem h1, List.take_succ_eq_append_getElem h2, List.zip_append (by simp; omega), List.map_append]
  rfl
theorem any_vars {t : Ty} (h : wfT t = true) (x : Int) : ((varsT t).any fun y => decide (y = x)) = occ x t := by
  rw [vars_eq h, ← any_occ]
  congr 1
  funext y
  exact decide_eq_decide.2 ⟨Eq.symm, Eq.symm⟩

theorem mgu_k {eqs : List Eq2} {N : Nat} {r : Option (List Bd)} (heg : EGood eqs) (hlen : eqs.length ≤ 10) (hrun : refF N [] eqs = some r) : PC Try.prog 11 [.slice (eqs.map Eq2.enc) .none] (ansF r) := by
  have em : maxLen = 9223372036854775807 := by decide
  have happ0 := app_all0 (xs := eqs) (by omega)
  refine pc_of (N := 178) Try.func11 rfl rfl (by simp) (by simp [bel_Eq2]) (ansF_bel _) ?_
  repeat (refine awp_seq ?_)
  refine e_eval (by simp only [jA, jO, jN, seval, vint, TyS, TyF, MapS, EqS, BdS] <;> with_reducible rfl) (by decide) ?_
  repeat (refine awp_seq ?_)
  refine e_eval (by simp only [jA, jO, jN, seval, vint, TyS, TyF, MapS, EqS, BdS] <;> with_reducible rfl) (by decide) ?_
  repeat (refine awp_seq ?_)
  refine e_eval (by simp only [jA, jO, jN, seval, y22, y31, vint, TyS, TyF, MapS, EqS, BdS, happ0] <;> with_reducible rfl) (by decide) ?_
  repeat (refine awp_seq ?_)
  refine awp_block ?_
  refine awp_loopW (σ := Nat × List Bd × List Eq2) (fun (q : Nat × List Bd × List Eq2) => [(4, .slice (q.2.1.map Bd.enc) .none), (5, .slice (q.2.2.map Eq2.enc) .none)]) ([]) (fun (q : Nat × List Bd × List Eq2) => []) (fun (q : Nat × List Bd × List Eq2) => q.1) (fun (q : Nat × List Bd × List Eq2) => refF q.1 q.2.1 q.2.2 = some r ∧ WI eqs (vars0 eqs) q.2.1 q.2.2) ((N, [], eqs)) (_) ⟨rfl, rfl, trivial⟩ (by first | rfl | (simp only [jN, seval, vint, TyS, TyF, MapS, EqS, BdS] <;> first | done | with_reducible rfl)) (⟨hrun, wi_nil heg⟩) (fun _ _ => by first | exact Nat.zero_le _ | (simp only [List.length_append]; omega)) ?_ ?_
  · exact fun q hg => ⟨hbel_nil _, .cons (bel_Bd _ _) (.cons (bel_Eq2 _ _) .nil)⟩
  · intro q hg
    obtain ⟨n, S, w⟩ := q
    obtain ⟨hrn, hwi⟩ := hg
    simp only at hrn hwi
    have hB := hwi.bounds heg hlen
    have hSl : S.length ≤ maxLen := by have := hB.sl; omega
    have hSl2 : S.length ≤ 1000000 := by have := hB.sl; omega
    have hSW : ∀ b ∈ S, b.t.W := fun b hb => W_of_size _ (by have := hwi.sm b hb; omega)
    rcases w with _ | ⟨e, es⟩
    ·
      obtain ⟨m, rfl⟩ : ∃ m, n = m + 1 := by cases n with | zero => cases hrn | succ m => exact ⟨m, rfl⟩
      rw [refF_nil] at hrn
      simp only [Option.some.injEq] at hrn
      have gz : decide ((0 : Int) > 0) = false := by decide
      have gz2 : ((0 : Nat) : Int) = 0 := rfl
      repeat (refine awp_seq ?_)
      refine e_eval (by simp only [jA, jO, jN, seval, y3, y22, y31, vint, TyS, TyF, MapS, EqS, BdS, List.map_nil, List.length_nil, gz, gz2] <;> with_reducible rfl) (by decide) ?_
      repeat (refine awp_seq ?_)
      refine awp_cond_false rfl (by simp only [jN, seval, vint, TyS, TyF, MapS, EqS, BdS, List.map_nil, List.length_nil, gz, gz2] <;> with_reducible rfl) ?_
      repeat (refine awp_seq ?_)
      refine awp_exit ?_
      simp only [thenQ, blockQ, reduceIte, Nat.reduceEqDiff, Nat.succ_ne_self, if_true, if_false]
      repeat (refine awp_seq ?_)
      refine e_eval (by simp only [jA, jO, jN, seval, y24, y42, vint, TyS, TyF, MapS, EqS, BdS, List.map_nil, List.length_nil, gz, gz2] <;> with_reducible rfl) (by decide) ?_
      repeat (refine awp_seq ?_)
      refine awp_forS (σ := Unit) (S.length) (fun (s : Unit) => [(4, .slice (S.map Bd.enc) .none), (158, .slice (S.map Bd.enc) .none)]) [4, 158] ([]) (fun (s : Unit) => []) (fun (i : Nat) (s : Unit) => (S.take i).any unfit = false) (()) (_) rfl rfl rfl rfl rfl rfl rfl rfl rfl (by decide) (by decide) (by decide) (fun _ => rfl) (hSl) ⟨(by first | rfl | (simp only [jN, seval, vint, TyS, TyF, MapS, EqS, BdS, List.map_nil, List.length_nil, gz, gz2] <;> first | done | with_reducible rfl)), (by first | rfl | (simp only [jN, seval, vint, TyS, TyF, MapS, EqS, BdS, List.map_nil, List.length_nil, gz, gz2] <;> first | done | with_reducible rfl)), (by first | rfl | (simp only [jN, seval, vint, TyS, TyF, MapS, EqS, BdS, List.map_nil, List.length_nil, gz, gz2] <;> first | done | with_reducible rfl)), (by first | rfl | (simp only [jN, seval, vint, TyS, TyF, MapS, EqS, BdS, List.map_nil, List.length_nil, gz, gz2] <;> first | done | with_reducible rfl)), trivial⟩ (by first | rfl | (simp only [jN, seval, vint, TyS, TyF, MapS, EqS, BdS, List.map_nil, List.length_nil, gz, gz2] <;> first | done | with_reducible rfl)) (by simp) (fun _ _ _ => by first | exact Nat.zero_le _ | (simp only [List.length_append]; omega)) ?_ ?_ ?_
      · exact fun i s hg => ⟨by first | exact hbel_nil _ | (simp only [List.append_nil]; assumption) | (refine hbel_app' hb' (by simp) ?_; repeat (first | exact hbel_nil _ | exact trivial | exact obel_row_nil _ | (refine HBel.cons ?_ ?_) | (refine obel_row_cons (by first | exact bel_Bd _ _ | exact bel_Eq2 _ _ | exact Eq2.bel _ _ | exact Bd.bel _ _ | exact bel_Bd_tl _ (by simp) | exact bel_Eq2_tl _ (by simp) | exact bel_ints0 _ _ | exact bel_slice_ty _ _ | exact Ty.bel _ _ | exact bel_ty_tok _ (by simp) | exact Bel.int _ _ | exact Bel.bool _ | exact Bel.str _ | exact Bel.nilp | exact Bel.nilfn | exact Bel.optr _ _ (by simp) | exact bel_nil0 _ | exact bel_nil1 _ | exact bel_fn0 _ _ | assumption) ?_))), by repeat (first | exact BelL.nil | refine BelL.cons (by first | exact bel_Bd _ _ | exact bel_Eq2 _ _ | exact Eq2.bel _ _ | exact Bd.bel _ _ | exact bel_Bd_tl _ (by simp) | exact bel_Eq2_tl _ (by simp) | exact bel_ints0 _ _ | exact bel_slice_ty _ _ | exact Ty.bel _ _ | exact bel_ty_tok _ (by simp) | exact Bel.int _ _ | exact Bel.bool _ | exact Bel.str _ | exact Bel.nilp | exact Bel.nilfn | exact Bel.optr _ _ (by simp) | exact bel_nil0 _ | exact bel_nil1 _ | exact bel_fn0 _ _ | assumption) ?_)⟩
      · intro i s hi hg
        have g1 := ix_nat hi
        have g2 := get_enc Bd.enc hi
        have hmem := List.getElem_mem hi
        have hsz := hwi.sm _ hmem
        have hWe := hSW _ hmem
        repeat (refine awp_seq ?_)
        refine e_eval (by simp only [jA, jO, jN, seval, y24, y42, vint, TyS, TyF, MapS, EqS, BdS, List.map_nil, List.length_nil, gz, gz2, g1, g2, Int.toNat_natCast] <;> with_reducible rfl) (by decide) ?_
        repeat (refine awp_seq ?_)
        refine awp_region ?_
        refine e_take 2 (by simp only [jA, jO, jN, seval, y29, y42, vint, TyS, TyF, MapS, EqS, BdS, List.map_nil, List.length_nil, gz, gz2, g1, g2, Int.toNat_natCast] <;> with_reducible rfl) (by decide) ?_
        refine aops_pure (by simp only [jC, jN, seval, vint, TyS, TyF, MapS, EqS, BdS, List.map_nil, List.length_nil, gz, gz2, g1, g2, Int.toNat_natCast] <;> with_reducible rfl) (by simp only [jC, jN, seval, vint, TyS, TyF, MapS, EqS, BdS, List.map_nil, List.length_nil, gz, gz2, g1, g2, Int.toNat_natCast]) (by decide) Trygo39 (typeSize_k S[i].t.size S[i].t (Nat.le_refl _) hWe (by omega) _) ?_
        refine e_end (by simp only [jA, jO, jN, seval, vint, TyS, TyF, MapS, EqS, BdS, List.map_nil, List.length_nil, gz, gz2, g1, g2, Int.toNat_natCast] <;> with_reducible rfl) (by decide) ?_
        repeat (refine awp_seq ?_)
        refine g_eval (by simp only [jG, jO, jN, seval, y3, vint, TyS, TyF, MapS, EqS, BdS, List.map_nil, List.length_nil, gz, gz2, g1, g2, Int.toNat_natCast] <;> with_reducible rfl) (by decide) (by repeat (first | exact Fin.base _ | with_reducible apply Fin.keep | apply Fin.drop)) ?_
        repeat (refine awp_seq ?_)
        refine awp_cond rfl (by simp only [jN, seval, vint, TyS, TyF, MapS, EqS, BdS, List.map_nil, List.length_nil, gz, gz2, g1, g2, Int.toNat_natCast] <;> with_reducible rfl) (fun bt175 => ?_) (fun bt175 => ?_)
        ·
          have hany : S.any unfit = true := List.any_eq_true.2 ⟨_, hmem, bt175⟩
          rw [if_pos hany] at hrn
          subst hrn
          refine awp_sel [4, 5, 158, 159, 160] (by simp only [jN, seval, vint, TyS, TyF, MapS, EqS, BdS, List.map_nil, List.length_nil, gz, gz2, g1, g2, Int.toNat_natCast] <;> with_reducible rfl) ?_
          repeat (refine awp_seq ?_)
          refine e_eval (by simp only [jA, jO, jN, seval, vint, TyS, TyF, MapS, EqS, BdS, List.map_nil, List.length_nil, gz, gz2, g1, g2, Int.toNat_natCast] <;> with_reducible rfl) (by decide) ?_
          repeat (refine awp_seq ?_)
          refine awp_ret ⟨.inr rfl, _, (ares_two (.tmp 2) (.tmp 3) rfl (ares_tmp1 (by decide)) (ares_tmp1 (by decide))), ?_⟩
          first
            | (rw [refF_none hst] at hrn; cases hrn; rfl)
            | rfl
        ·
          repeat (refine awp_seq ?_)
          refine awp_skip ?_
          exact ⟨⟨rfl, rfl, trivial⟩, (), _, ⟨rfl, rfl, trivial⟩, rfl, any_take_succ hi hg bt175⟩
      · intro s hg
        rw [List.take_length] at hg
        rw [if_neg (by rw [hg]; simp)] at hrn
        subst hrn
        repeat (refine awp_seq ?_)
        refine e_eval (by simp only [jA, jO, jN, seval, vint, TyS, TyF, MapS, EqS, BdS, List.map_nil, List.length_nil, gz, gz2] <;> with_reducible rfl) (by decide) ?_
        repeat (refine awp_seq ?_)
        refine awp_ret ⟨.inr rfl, _, (ares_two (.tmp 2) (.tmp 3) rfl (ares_tmp1 (by decide)) (ares_tmp1 (by decide))), ?_⟩
        first
          | (rw [refF_none hst] at hrn; cases hrn; rfl)
          | rfl
    ·
      obtain ⟨m, rfl⟩ : ∃ m, n = m + 1 := by cases n with | zero => cases hrn | succ m => exact ⟨m, rfl⟩
      have gz : decide (((es.length + 1 : Nat) : Int) > 0) = true := decide_eq_true (by omega)
      have gz0 : (0 < ((es.length + 1 : Nat) : Int)) = True := eq_true (by omega)
      have gz1 : (1 ≤ ((es.length + 1 : Nat) : Int)) = True := eq_true (by omega)
      have gz3 : (e.enc :: es.map Eq2.enc).take (es.length + 1) = e.enc :: es.map Eq2.enc := by rw [List.take_of_length_le]; simp
      have gz4 : (∀ x, x ∈ e.enc :: es.map Eq2.enc → x.cells.length = 6) = True := eq_true fun x hx => by
        rcases List.mem_cons.1 hx with rfl | hx
        · exact e.enc_len
        · obtain ⟨v, _, rfl⟩ := List.mem_map.1 hx; exact v.enc_len
      obtain ⟨sa, sb, sl, sr, wa, wb⟩ := hB.it e (.head _)
      have hWl : e.l.W := W_of_size _ (by omega)
      have hWr : e.r.W := W_of_size _ (by omega)
      have hew : es.length ≤ 20000000 := by have := hB.wl; simp at this; omega
      have nx : ∀ {S' : List Bd} {w' : List Eq2}, rstep S e es = some (S', w') → refF m S' w' = some r ∧ WI eqs (vars0 eqs) S' w' := fun h => ⟨by rw [refF_some h] at hrn; exact hrn, hwi.step h⟩
      have hsub := substV_k S hSl hSW e.l.size e.l (Nat.le_refl _) hWl
      have hsub' := substV_k S hSl hSW e.r.size e.r (Nat.le_refl _) hWr
      obtain ⟨a, ha⟩ : ∃ a, a = mapT (subG S) e.l := ⟨_, rfl⟩
      obtain ⟨b, hb⟩ : ∃ b, b = mapT (subG S) e.r := ⟨_, rfl⟩
      rw [← ha] at sa wa hsub
      rw [← hb] at sb wb hsub'
      have hrs : rstep S e es = rstepA S a b es := by rw [ha, hb]; rfl
      unfold rstepA at hrs
      have hWa : a.W := W_of_size _ (by omega)
      have hWb : b.W := W_of_size _ (by omega)
      clear ha hb
      repeat (refine awp_seq ?_)
      refine e_eval (by simp only [jA, jO, jN, seval, y3, y22, y31, vint, TyS, TyF, MapS, EqS, BdS, List.map_cons, List.length_cons, gz, gz0, gz1, gz3, gz4, ite_self, List.getElem?_cons_zero, List.drop_succ_cons, List.drop_zero] <;> with_reducible rfl) (by decide) ?_
      repeat (refine awp_seq ?_)
      refine awp_cond_true rfl (by simp only [jN, seval, vint, TyS, TyF, MapS, EqS, BdS, List.map_cons, List.length_cons, gz, gz0, gz1, gz3, gz4, ite_self, List.getElem?_cons_zero, List.drop_succ_cons, List.drop_zero] <;> with_reducible rfl) ?_
      repeat (refine awp_seq ?_)
      refine awp_skip ?_
      repeat (refine awp_seq ?_)
      refine awp_block ?_
      repeat (refine awp_seq ?_)
      refine e_eval (by simp only [jA, jO, jN, seval, y22, y31, vint, TyS, TyF, MapS, EqS, BdS, List.map_cons, List.length_cons, gz, gz0, gz1, gz3, gz4, ite_self, List.getElem?_cons_zero, List.drop_succ_cons, List.drop_zero] <;> with_reducible rfl) (by decide) ?_
      repeat (refine awp_seq ?_)
      refine e_eval (by simp only [jA, jO, jN, seval, y22, y31, vint, TyS, TyF, MapS, EqS, BdS, List.map_cons, List.length_cons, gz, gz0, gz1, gz3, gz4, ite_self, List.getElem?_cons_zero, List.drop_succ_cons, List.drop_zero] <;> with_reducible rfl) (by decide) ?_
      repeat (refine awp_seq ?_)
      refine x_draw 2 (n0 := 1) (by first | rfl | (simp only [List.length_append, List.length_cons, List.length_nil, Nat.reduceAdd, Nat.zero_add, List.map_cons, List.length_cons, gz, gz0, gz1, gz3, gz4, ite_self, List.getElem?_cons_zero, List.drop_succ_cons, List.drop_zero]; done)) (by kernel_rfl) ?_
      refine x1_take 3 (by first | rfl | (simp only [List.length_append, List.length_cons, List.length_nil, Nat.reduceAdd, Nat.zero_add, List.map_cons, List.length_cons, gz, gz0, gz1, gz3, gz4, ite_self, List.getElem?_cons_zero, List.drop_succ_cons, List.drop_zero]; done)) (by simp only [jP, jO, jN, seval, y29, y31, vint, TyS, TyF, MapS, EqS, BdS, List.map_cons, List.length_cons, gz, gz0, gz1, gz3, gz4, ite_self, List.getElem?_cons_zero, List.drop_succ_cons, List.drop_zero] <;> with_reducible rfl) (by decide) (by decide) (by decide) ?_
      refine x1_keep (by first | rfl | (simp only [List.length_append, List.length_cons, List.length_nil, Nat.reduceAdd, Nat.zero_add, List.map_cons, List.length_cons, gz, gz0, gz1, gz3, gz4, ite_self, List.getElem?_cons_zero, List.drop_succ_cons, List.drop_zero]; done)) (by simp only [jE, jN, seval, vint, TyS, TyF, MapS, EqS, BdS, List.map_cons, List.length_cons, gz, gz0, gz1, gz3, gz4, ite_self, List.getElem?_cons_zero, List.drop_succ_cons, List.drop_zero] <;> with_reducible rfl) (by simp only [jE, jN, seval, vint, TyS, TyF, MapS, EqS, BdS, List.map_cons, List.length_cons, gz, gz0, gz1, gz3, gz4, ite_self, List.getElem?_cons_zero, List.drop_succ_cons, List.drop_zero] <;> with_reducible rfl) (by simp only [jE, jN, seval, vint, TyS, TyF, MapS, EqS, BdS, List.map_cons, List.length_cons, gz, gz0, gz1, gz3, gz4, ite_self, List.getElem?_cons_zero, List.drop_succ_cons, List.drop_zero]) (by decide) Trygo41 (fun hc L => hsub _) ?_
      refine x1_take 3 (by first | rfl | (simp only [List.length_append, List.length_cons, List.length_nil, Nat.reduceAdd, Nat.zero_add, List.map_cons, List.length_cons, gz, gz0, gz1, gz3, gz4, ite_self, List.getElem?_cons_zero, List.drop_succ_cons, List.drop_zero]; done)) (by simp only [jP, jO, jN, seval, y29, y31, vint, TyS, TyF, MapS, EqS, BdS, List.map_cons, List.length_cons, gz, gz0, gz1, gz3, gz4, ite_self, List.getElem?_cons_zero, List.drop_succ_cons, List.drop_zero] <;> with_reducible rfl) (by decide) (by decide) (by decide) ?_
      refine x1_keep (by first | rfl | (simp only [List.length_append, List.length_cons, List.length_nil, Nat.reduceAdd, Nat.zero_add, List.map_cons, List.length_cons, gz, gz0, gz1, gz3, gz4, ite_self, List.getElem?_cons_zero, List.drop_succ_cons, List.drop_zero]; done)) (by simp only [jE, jN, seval, vint, TyS, TyF, MapS, EqS, BdS, List.map_cons, List.length_cons, gz, gz0, gz1, gz3, gz4, ite_self, List.getElem?_cons_zero, List.drop_succ_cons, List.drop_zero] <;> with_reducible rfl) (by simp only [jE, jN, seval, vint, TyS, TyF, MapS, EqS, BdS, List.map_cons, List.length_cons, gz, gz0, gz1, gz3, gz4, ite_self, List.getElem?_cons_zero, List.drop_succ_cons, List.drop_zero] <;> with_reducible rfl) (by simp only [jE, jN, seval, vint, TyS, TyF, MapS, EqS, BdS, List.map_cons, List.length_cons, gz, gz0, gz1, gz3, gz4, ite_self, List.getElem?_cons_zero, List.drop_succ_cons, List.drop_zero]) (by decide) Trygo41 (fun hc L => hsub' _) ?_
      refine x_mid (by first | (simp only [LS, HS, List.append_assoc, List.cons_append, List.nil_append, List.map_cons, List.length_cons, gz, gz0, gz1, gz3, gz4, ite_self, List.getElem?_cons_zero, List.drop_succ_cons, List.drop_zero] <;> with_reducible rfl) | rfl) ?_
      refine x2_end (bm := [0, 1, 0, 7, 0, 16, 0, 127, 0, 0, 1023, 2047]) (fresh := (1)) (by kernel_rfl) (by simp only [jX, jO, jN, seval, y29, vint, TyS, TyF, MapS, EqS, BdS, List.map_cons, List.length_cons, gz, gz0, gz1, gz3, gz4, ite_self, List.getElem?_cons_zero, List.drop_succ_cons, List.drop_zero] <;> with_reducible rfl) (by decide) (by repeat (first | exact Fin.base _ | with_reducible apply Fin.keep | apply Fin.drop)) ?_
      repeat (refine awp_seq ?_)
      refine awp_block ?_
      refine awp_sel [4, 5, 7, 8] (by simp only [jN, seval, vint, TyS, TyF, MapS, EqS, BdS, List.map_cons, List.length_cons, gz, gz0, gz1, gz3, gz4, ite_self, List.getElem?_cons_zero, List.drop_succ_cons, List.drop_zero] <;> with_reducible rfl) ?_
      repeat (refine awp_seq ?_)
      refine g_eval (by simp only [jG, jO, jN, seval, y3, y29, vint, TyS, TyF, MapS, EqS, BdS, List.map_cons, List.length_cons, gz, gz0, gz1, gz3, gz4, ite_self, List.getElem?_cons_zero, List.drop_succ_cons, List.drop_zero] <;> with_reducible rfl) (by decide) (by repeat (first | exact Fin.base _ | with_reducible apply Fin.keep | apply Fin.drop)) ?_
      repeat (refine awp_seq ?_)
      refine awp_cond rfl (by simp only [jN, seval, vint, TyS, TyF, MapS, EqS, BdS, List.map_cons, List.length_cons, gz, gz0, gz1, gz3, gz4, ite_self, List.getElem?_cons_zero, List.drop_succ_cons, List.drop_zero] <;> with_reducible rfl) (fun bt62 => ?_) (fun bt62 => ?_)
      ·
        have hz : a.kind = 0 ∨ b.kind = 0 := by simpa using bt62
        rw [if_pos hz] at hrs
        repeat (refine awp_seq ?_)
        refine awp_skip ?_
        try simp only [thenQ, blockQ]
        first
          | exact ⟨(m, _, _), _, Nat.lt_succ_self m, ⟨rfl, rfl, trivial⟩, rfl, nx hrs⟩
          | exact ⟨(m, S, q ++ es), _, Nat.lt_succ_self m, ⟨rfl, rfl, trivial⟩, rfl, nx (by rw [hrs, hg])⟩
      ·
        have hz : ¬ (a.kind = 0 ∨ b.kind = 0) := by simpa using bt62
        rw [if_neg hz] at hrs
        repeat (refine awp_seq ?_)
        refine g_eval (by simp only [jG, jO, jN, seval, y3, y29, vint, TyS, TyF, MapS, EqS, BdS, List.map_cons, List.length_cons, gz, gz0, gz1, gz3, gz4, ite_self, List.getElem?_cons_zero, List.drop_succ_cons, List.drop_zero] <;> with_reducible rfl) (by decide) (by repeat (first | exact Fin.base _ | with_reducible apply Fin.keep | apply Fin.drop)) ?_
        repeat (refine awp_seq ?_)
        refine awp_cond rfl (by simp only [jN, seval, vint, TyS, TyF, MapS, EqS, BdS, List.map_cons, List.length_cons, gz, gz0, gz1, gz3, gz4, ite_self, List.getElem?_cons_zero, List.drop_succ_cons, List.drop_zero] <;> with_reducible rfl) (fun bt71 => ?_) (fun bt71 => ?_)
        ·
          have hz1 : a.kind = 1 ∧ b.kind = 1 := by simpa using bt71
          rw [if_pos hz1] at hrs
          refine awp_sel [4, 5, 7, 8] (by simp only [jN, seval, vint, TyS, TyF, MapS, EqS, BdS, List.map_cons, List.length_cons, gz, gz0, gz1, gz3, gz4, ite_self, List.getElem?_cons_zero, List.drop_succ_cons, List.drop_zero] <;> with_reducible rfl) ?_
          repeat (refine awp_seq ?_)
          refine e_eval (by simp only [jA, jO, jN, seval, y3, y29, vint, TyS, TyF, MapS, EqS, BdS, List.map_cons, List.length_cons, gz, gz0, gz1, gz3, gz4, ite_self, List.getElem?_cons_zero, List.drop_succ_cons, List.drop_zero] <;> with_reducible rfl) (by decide) ?_
          repeat (refine awp_seq ?_)
          refine awp_cond rfl (by simp only [jN, seval, vint, TyS, TyF, MapS, EqS, BdS, List.map_cons, List.length_cons, gz, gz0, gz1, gz3, gz4, ite_self, List.getElem?_cons_zero, List.drop_succ_cons, List.drop_zero] <;> with_reducible rfl) (fun bt84 => ?_) (fun bt84 => ?_)
          ·
            rw [if_pos (of_decide_eq_true bt84)] at hrs
            repeat (refine awp_seq ?_)
            refine awp_exit ?_
            simp only [thenQ, blockQ, reduceIte, Nat.reduceEqDiff, Nat.succ_ne_self, if_true, if_false]
            try simp only [thenQ, blockQ]
            first
              | exact ⟨(m, _, _), _, Nat.lt_succ_self m, ⟨rfl, rfl, trivial⟩, rfl, nx hrs⟩
              | exact ⟨(m, S, q ++ es), _, Nat.lt_succ_self m, ⟨rfl, rfl, trivial⟩, rfl, nx (by rw [hrs, hg])⟩
          ·
            rw [if_neg (of_decide_eq_false bt84)] at hrs
            repeat (refine awp_seq ?_)
            refine awp_skip ?_
            repeat (refine awp_seq ?_)
            refine e_eval (by simp only [jA, jO, jN, seval, y3, y29, vint, TyS, TyF, MapS, EqS, BdS, List.map_cons, List.length_cons, gz, gz0, gz1, gz3, gz4, ite_self, List.getElem?_cons_zero, List.drop_succ_cons, List.drop_zero] <;> with_reducible rfl) (by decide) ?_
            repeat (refine awp_seq ?_)
            refine awp_cond rfl (by simp only [jN, seval, vint, TyS, TyF, MapS, EqS, BdS, List.map_cons, List.length_cons, gz, gz0, gz1, gz3, gz4, ite_self, List.getElem?_cons_zero, List.drop_succ_cons, List.drop_zero] <;> with_reducible rfl) (fun bt89 => ?_) (fun bt89 => ?_)
            ·
              rw [if_pos (of_decide_eq_true bt89)] at hrs
              have hadd := addB_k S b.id a hSl2 hSW hWa
              repeat (refine awp_seq ?_)
              refine e_eval (by simp only [jA, jO, jN, seval, y29, vint, TyS, TyF, MapS, EqS, BdS, List.map_cons, List.length_cons, gz, gz0, gz1, gz3, gz4, ite_self, List.getElem?_cons_zero, List.drop_succ_cons, List.drop_zero] <;> with_reducible rfl) (by decide) ?_
              repeat (refine awp_seq ?_)
              refine awp_region ?_
              refine e_take 4 (by simp only [jA, jO, jN, seval, y3, y29, vint, TyS, TyF, MapS, EqS, BdS, List.map_cons, List.length_cons, gz, gz0, gz1, gz3, gz4, ite_self, List.getElem?_cons_zero, List.drop_succ_cons, List.drop_zero] <;> with_reducible rfl) (by decide) ?_
              refine aops_pure (by simp only [jC, jN, seval, vint, TyS, TyF, MapS, EqS, BdS, List.map_cons, List.length_cons, gz, gz0, gz1, gz3, gz4, ite_self, List.getElem?_cons_zero, List.drop_succ_cons, List.drop_zero] <;> with_reducible rfl) (by simp only [jC, jN, seval, vint, TyS, TyF, MapS, EqS, BdS, List.map_cons, List.length_cons, gz, gz0, gz1, gz3, gz4, ite_self, List.getElem?_cons_zero, List.drop_succ_cons, List.drop_zero]) (by decide) Trygo42 (hadd _) ?_
              refine e_end (by simp only [jA, jO, jN, seval, vint, TyS, TyF, MapS, EqS, BdS, List.map_cons, List.length_cons, gz, gz0, gz1, gz3, gz4, ite_self, List.getElem?_cons_zero, List.drop_succ_cons, List.drop_zero] <;> with_reducible rfl) (by decide) ?_
              try simp only [thenQ, blockQ]
              first
                | exact ⟨(m, _, _), _, Nat.lt_succ_self m, ⟨rfl, rfl, trivial⟩, rfl, nx hrs⟩
                | exact ⟨(m, S, q ++ es), _, Nat.lt_succ_self m, ⟨rfl, rfl, trivial⟩, rfl, nx (by rw [hrs, hg])⟩
            ·
              rw [if_neg (of_decide_eq_false bt89)] at hrs
              have hadd := addB_k S a.id b hSl2 hSW hWb
              repeat (refine awp_seq ?_)
              refine awp_skip ?_
              repeat (refine awp_seq ?_)
              refine awp_region ?_
              refine e_take 4 (by simp only [jA, jO, jN, seval, y3, y29, vint, TyS, TyF, MapS, EqS, BdS, List.map_cons, List.length_cons, gz, gz0, gz1, gz3, gz4, ite_self, List.getElem?_cons_zero, List.drop_succ_cons, List.drop_zero] <;> with_reducible rfl) (by decide) ?_
              refine aops_pure (by simp only [jC, jN, seval, vint, TyS, TyF, MapS, EqS, BdS, List.map_cons, List.length_cons, gz, gz0, gz1, gz3, gz4, ite_self, List.getElem?_cons_zero, List.drop_succ_cons, List.drop_zero] <;> with_reducible rfl) (by simp only [jC, jN, seval, vint, TyS, TyF, MapS, EqS, BdS, List.map_cons, List.length_cons, gz, gz0, gz1, gz3, gz4, ite_self, List.getElem?_cons_zero, List.drop_succ_cons, List.drop_zero]) (by decide) Trygo42 (hadd _) ?_
              refine e_end (by simp only [jA, jO, jN, seval, vint, TyS, TyF, MapS, EqS, BdS, List.map_cons, List.length_cons, gz, gz0, gz1, gz3, gz4, ite_self, List.getElem?_cons_zero, List.drop_succ_cons, List.drop_zero] <;> with_reducible rfl) (by decide) ?_
              try simp only [thenQ, blockQ]
              first
                | exact ⟨(m, _, _), _, Nat.lt_succ_self m, ⟨rfl, rfl, trivial⟩, rfl, nx hrs⟩
                | exact ⟨(m, S, q ++ es), _, Nat.lt_succ_self m, ⟨rfl, rfl, trivial⟩, rfl, nx (by rw [hrs, hg])⟩
        ·
          have hz1 : ¬ (a.kind = 1 ∧ b.kind = 1) := by simpa using bt71
          rw [if_neg hz1] at hrs
          refine awp_sel [4, 5, 7, 8] (by simp only [jN, seval, vint, TyS, TyF, MapS, EqS, BdS, List.map_cons, List.length_cons, gz, gz0, gz1, gz3, gz4, ite_self, List.getElem?_cons_zero, List.drop_succ_cons, List.drop_zero] <;> with_reducible rfl) ?_
          repeat (refine awp_seq ?_)
          refine g_eval (by simp only [jG, jO, jN, seval, y3, y29, vint, TyS, TyF, MapS, EqS, BdS, List.map_cons, List.length_cons, gz, gz0, gz1, gz3, gz4, ite_self, List.getElem?_cons_zero, List.drop_succ_cons, List.drop_zero] <;> with_reducible rfl) (by decide) (by repeat (first | exact Fin.base _ | with_reducible apply Fin.keep | apply Fin.drop)) ?_
          repeat (refine awp_seq ?_)
          refine awp_cond rfl (by simp only [jN, seval, vint, TyS, TyF, MapS, EqS, BdS, List.map_cons, List.length_cons, gz, gz0, gz1, gz3, gz4, ite_self, List.getElem?_cons_zero, List.drop_succ_cons, List.drop_zero] <;> with_reducible rfl) (fun bt97 => ?_) (fun bt97 => ?_)
          ·
            skip
            repeat (refine awp_seq ?_)
            refine e_eval (by simp only [jA, jO, jN, seval, y3, y29, vint, TyS, TyF, MapS, EqS, BdS, List.map_cons, List.length_cons, gz, gz0, gz1, gz3, gz4, ite_self, List.getElem?_cons_zero, List.drop_succ_cons, List.drop_zero] <;> with_reducible rfl) (by decide) ?_
            repeat (refine awp_seq ?_)
            refine awp_cond rfl (by simp only [jN, seval, vint, TyS, TyF, MapS, EqS, BdS, List.map_cons, List.length_cons, gz, gz0, gz1, gz3, gz4, ite_self, List.getElem?_cons_zero, List.drop_succ_cons, List.drop_zero] <;> with_reducible rfl) (fun bt108 => ?_) (fun bt108 => ?_)
            ·
              rw [if_pos (of_decide_eq_true bt108)] at hrs
              obtain ⟨x, T, hx, hT⟩ : ∃ x T, x = b ∧ T = a := ⟨_, _, rfl, rfl⟩
              subst hx hT
              repeat (refine awp_seq ?_)
              refine e_eval (by simp only [jA, jO, jN, seval, y29, vint, TyS, TyF, MapS, EqS, BdS, List.map_cons, List.length_cons, gz, gz0, gz1, gz3, gz4, ite_self, List.getElem?_cons_zero, List.drop_succ_cons, List.drop_zero] <;> with_reducible rfl) (by decide) ?_
              skip
              ·
                have hav := any_vars (t := T) (by assumption) x.id
                have hvl := varsT_len T
                have hsT : T.size ≤ 20000000 := by assumption
                have hWT : T.W := by assumption
                have hvar := varsOf_k T.size T (Nat.le_refl _) hWT (by omega)
                have hcon := containsIntR (varsT T) x.id (by omega)
                rw [hav] at hcon
                have hadd := addB_k S x.id T hSl2 hSW hWT
                have hal := addB_len x.id T S
                have has := addB_size (v := x.id) hwi.ri hwi.sm hsT
                have haW : ∀ b ∈ addB x.id T S, b.t.W := fun b hb => W_of_size _ (by have := has b hb; omega)
                obtain ⟨A, hA⟩ : ∃ A, A = addB x.id T S := ⟨_, rfl⟩
                rw [← hA] at hadd hal has haW hrs
                repeat (refine awp_seq ?_)
                refine dp_draw (by kernel_rfl) ?_
                refine dp_take 1 (by simp only [jP, jO, jN, seval, y29, vint, TyS, TyF, MapS, EqS, BdS, List.map_cons, List.length_cons, gz, gz0, gz1, gz3, gz4, ite_self, List.getElem?_cons_zero, List.drop_succ_cons, List.drop_zero] <;> with_reducible rfl) (by decide) ?_
                refine dp_keep (by simp only [jE, jN, seval, vint, TyS, TyF, MapS, EqS, BdS, List.map_cons, List.length_cons, gz, gz0, gz1, gz3, gz4, ite_self, List.getElem?_cons_zero, List.drop_succ_cons, List.drop_zero] <;> with_reducible rfl) (by simp only [jE, jN, seval, vint, TyS, TyF, MapS, EqS, BdS, List.map_cons, List.length_cons, gz, gz0, gz1, gz3, gz4, ite_self, List.getElem?_cons_zero, List.drop_succ_cons, List.drop_zero] <;> with_reducible rfl) (by simp only [jE, jN, seval, vint, TyS, TyF, MapS, EqS, BdS, List.map_cons, List.length_cons, gz, gz0, gz1, gz3, gz4, ite_self, List.getElem?_cons_zero, List.drop_succ_cons, List.drop_zero]) (by decide) Trygo44 (fun hc => hvar _) ?_
                refine dp_take 2 (by simp only [jP, jO, jN, seval, y3, y29, vint, TyS, TyF, MapS, EqS, BdS, List.map_cons, List.length_cons, gz, gz0, gz1, gz3, gz4, ite_self, List.getElem?_cons_zero, List.drop_succ_cons, List.drop_zero] <;> with_reducible rfl) (by decide) ?_
                refine dp_keep (by simp only [jE, jN, seval, vint, TyS, TyF, MapS, EqS, BdS, List.map_cons, List.length_cons, gz, gz0, gz1, gz3, gz4, ite_self, List.getElem?_cons_zero, List.drop_succ_cons, List.drop_zero] <;> with_reducible rfl) (by simp only [jE, jN, seval, vint, TyS, TyF, MapS, EqS, BdS, List.map_cons, List.length_cons, gz, gz0, gz1, gz3, gz4, ite_self, List.getElem?_cons_zero, List.drop_succ_cons, List.drop_zero] <;> with_reducible rfl) (by simp only [jE, jN, seval, vint, TyS, TyF, MapS, EqS, BdS, List.map_cons, List.length_cons, gz, gz0, gz1, gz3, gz4, ite_self, List.getElem?_cons_zero, List.drop_succ_cons, List.drop_zero]) (by decide) Trygo43 (fun hc => hcon _) ?_
                refine dp_end (by simp only [jP, jO, jN, seval, vint, TyS, TyF, MapS, EqS, BdS, List.map_cons, List.length_cons, gz, gz0, gz1, gz3, gz4, ite_self, List.getElem?_cons_zero, List.drop_succ_cons, List.drop_zero] <;> with_reducible rfl) (by decide) (by repeat (first | exact Fin.base _ | with_reducible apply Fin.keep | apply Fin.drop)) ?_
                repeat (refine awp_seq ?_)
                refine awp_cond rfl (by simp only [jN, seval, vint, TyS, TyF, MapS, EqS, BdS, List.map_cons, List.length_cons, gz, gz0, gz1, gz3, gz4, ite_self, List.getElem?_cons_zero, List.drop_succ_cons, List.drop_zero] <;> with_reducible rfl) (fun bt115 => ?_) (fun bt115 => ?_)
                ·
                  rw [if_pos bt115] at hrs
                  have hst := hrs
                  refine awp_sel [4, 5] (by simp only [jN, seval, vint, TyS, TyF, MapS, EqS, BdS, List.map_cons, List.length_cons, gz, gz0, gz1, gz3, gz4, ite_self, List.getElem?_cons_zero, List.drop_succ_cons, List.drop_zero] <;> with_reducible rfl) ?_
                  repeat (refine awp_seq ?_)
                  refine e_eval (by simp only [jA, jO, jN, seval, vint, TyS, TyF, MapS, EqS, BdS, List.map_cons, List.length_cons, gz, gz0, gz1, gz3, gz4, ite_self, List.getElem?_cons_zero, List.drop_succ_cons, List.drop_zero] <;> with_reducible rfl) (by decide) ?_
                  repeat (refine awp_seq ?_)
                  refine awp_ret ⟨.inr rfl, _, (ares_two (.tmp 2) (.tmp 3) rfl (ares_tmp1 (by decide)) (ares_tmp1 (by decide))), ?_⟩
                  first
                    | (rw [refF_none hst] at hrn; cases hrn; rfl)
                    | rfl
                ·
                  rw [if_neg (by rw [bt115]; simp)] at hrs
                  repeat (refine awp_seq ?_)
                  refine awp_skip ?_
                  refine awp_sel [4, 5, 7, 8] (by simp only [jN, seval, vint, TyS, TyF, MapS, EqS, BdS, List.map_cons, List.length_cons, gz, gz0, gz1, gz3, gz4, ite_self, List.getElem?_cons_zero, List.drop_succ_cons, List.drop_zero] <;> with_reducible rfl) ?_
                  repeat (refine awp_seq ?_)
                  refine awp_region ?_
                  refine e_take 4 (by simp only [jA, jO, jN, seval, y3, y29, vint, TyS, TyF, MapS, EqS, BdS, List.map_cons, List.length_cons, gz, gz0, gz1, gz3, gz4, ite_self, List.getElem?_cons_zero, List.drop_succ_cons, List.drop_zero] <;> with_reducible rfl) (by decide) ?_
                  refine aops_pure (by simp only [jC, jN, seval, vint, TyS, TyF, MapS, EqS, BdS, List.map_cons, List.length_cons, gz, gz0, gz1, gz3, gz4, ite_self, List.getElem?_cons_zero, List.drop_succ_cons, List.drop_zero] <;> with_reducible rfl) (by simp only [jC, jN, seval, vint, TyS, TyF, MapS, EqS, BdS, List.map_cons, List.length_cons, gz, gz0, gz1, gz3, gz4, ite_self, List.getElem?_cons_zero, List.drop_succ_cons, List.drop_zero]) (by decide) Trygo42 (hadd _) ?_
                  refine e_end (by simp only [jA, jO, jN, seval, vint, TyS, TyF, MapS, EqS, BdS, List.map_cons, List.length_cons, gz, gz0, gz1, gz3, gz4, ite_self, List.getElem?_cons_zero, List.drop_succ_cons, List.drop_zero] <;> with_reducible rfl) (by decide) ?_
                  repeat (refine awp_seq ?_)
                  refine e_eval (by simp only [jA, jO, jN, seval, y24, y42, vint, TyS, TyF, MapS, EqS, BdS, List.map_cons, List.length_cons, gz, gz0, gz1, gz3, gz4, ite_self, List.getElem?_cons_zero, List.drop_succ_cons, List.drop_zero] <;> with_reducible rfl) (by decide) ?_
                  repeat (refine awp_seq ?_)
                  refine awp_forS (σ := Unit) (A.length) (fun (s : Unit) => [(4, .slice (A.map Bd.enc) .none), (5, .slice (es.map Eq2.enc) .none), (121, .slice (A.map Bd.enc) .none)]) [4, 5, 121] ([]) (fun (s : Unit) => []) (fun (i : Nat) (s : Unit) => (A.take i).any over = false) (()) (_) rfl rfl rfl rfl rfl rfl rfl rfl rfl (by decide) (by decide) (by decide) (fun _ => rfl) ((by rw [em, hal]; omega)) ⟨(by first | rfl | (simp only [jN, seval, vint, TyS, TyF, MapS, EqS, BdS, List.map_cons, List.length_cons, gz, gz0, gz1, gz3, gz4, ite_self, List.getElem?_cons_zero, List.drop_succ_cons, List.drop_zero] <;> first | done | with_reducible rfl)), (by first | rfl | (simp only [jN, seval, vint, TyS, TyF, MapS, EqS, BdS, List.map_cons, List.length_cons, gz, gz0, gz1, gz3, gz4, ite_self, List.getElem?_cons_zero, List.drop_succ_cons, List.drop_zero] <;> first | done | with_reducible rfl)), (by first | rfl | (simp only [jN, seval, vint, TyS, TyF, MapS, EqS, BdS, List.map_cons, List.length_cons, gz, gz0, gz1, gz3, gz4, ite_self, List.getElem?_cons_zero, List.drop_succ_cons, List.drop_zero] <;> first | done | with_reducible rfl)), (by first | rfl | (simp only [jN, seval, vint, TyS, TyF, MapS, EqS, BdS, List.map_cons, List.length_cons, gz, gz0, gz1, gz3, gz4, ite_self, List.getElem?_cons_zero, List.drop_succ_cons, List.drop_zero] <;> first | done | with_reducible rfl)), (by first | rfl | (simp only [jN, seval, vint, TyS, TyF, MapS, EqS, BdS, List.map_cons, List.length_cons, gz, gz0, gz1, gz3, gz4, ite_self, List.getElem?_cons_zero, List.drop_succ_cons, List.drop_zero] <;> first | done | with_reducible rfl)), trivial⟩ (by first | rfl | (simp only [jN, seval, vint, TyS, TyF, MapS, EqS, BdS, List.map_cons, List.length_cons, gz, gz0, gz1, gz3, gz4, ite_self, List.getElem?_cons_zero, List.drop_succ_cons, List.drop_zero] <;> first | done | with_reducible rfl)) (by simp) (fun _ _ _ => by first | exact Nat.zero_le _ | (simp only [List.length_append]; omega)) ?_ ?_ ?_
                  · exact fun i s hg => ⟨by first | exact hbel_nil _ | (simp only [List.append_nil]; assumption) | (refine hbel_app' hb' (by simp) ?_; repeat (first | exact hbel_nil _ | exact trivial | exact obel_row_nil _ | (refine HBel.cons ?_ ?_) | (refine obel_row_cons (by first | exact bel_Bd _ _ | exact bel_Eq2 _ _ | exact Eq2.bel _ _ | exact Bd.bel _ _ | exact bel_Bd_tl _ (by simp) | exact bel_Eq2_tl _ (by simp) | exact bel_ints0 _ _ | exact bel_slice_ty _ _ | exact Ty.bel _ _ | exact bel_ty_tok _ (by simp) | exact Bel.int _ _ | exact Bel.bool _ | exact Bel.str _ | exact Bel.nilp | exact Bel.nilfn | exact Bel.optr _ _ (by simp) | exact bel_nil0 _ | exact bel_nil1 _ | exact bel_fn0 _ _ | assumption) ?_))), by repeat (first | exact BelL.nil | refine BelL.cons (by first | exact bel_Bd _ _ | exact bel_Eq2 _ _ | exact Eq2.bel _ _ | exact Bd.bel _ _ | exact bel_Bd_tl _ (by simp) | exact bel_Eq2_tl _ (by simp) | exact bel_ints0 _ _ | exact bel_slice_ty _ _ | exact Ty.bel _ _ | exact bel_ty_tok _ (by simp) | exact Bel.int _ _ | exact Bel.bool _ | exact Bel.str _ | exact Bel.nilp | exact Bel.nilfn | exact Bel.optr _ _ (by simp) | exact bel_nil0 _ | exact bel_nil1 _ | exact bel_fn0 _ _ | assumption) ?_)⟩
                  · intro i s hi hg
                    have g1 := ix_nat hi
                    have g2 := get_enc Bd.enc hi
                    have hmem := List.getElem_mem hi
                    have hsz := has _ hmem
                    have hWe := haW _ hmem
                    repeat (refine awp_seq ?_)
                    refine e_eval (by simp only [jA, jO, jN, seval, y24, y42, vint, TyS, TyF, MapS, EqS, BdS, List.map_cons, List.length_cons, gz, gz0, gz1, gz3, gz4, ite_self, List.getElem?_cons_zero, List.drop_succ_cons, List.drop_zero, g1, g2, Int.toNat_natCast] <;> with_reducible rfl) (by decide) ?_
                    repeat (refine awp_seq ?_)
                    refine awp_region ?_
                    refine e_take 2 (by simp only [jA, jO, jN, seval, y29, y42, vint, TyS, TyF, MapS, EqS, BdS, List.map_cons, List.length_cons, gz, gz0, gz1, gz3, gz4, ite_self, List.getElem?_cons_zero, List.drop_succ_cons, List.drop_zero, g1, g2, Int.toNat_natCast] <;> with_reducible rfl) (by decide) ?_
                    refine aops_pure (by simp only [jC, jN, seval, vint, TyS, TyF, MapS, EqS, BdS, List.map_cons, List.length_cons, gz, gz0, gz1, gz3, gz4, ite_self, List.getElem?_cons_zero, List.drop_succ_cons, List.drop_zero, g1, g2, Int.toNat_natCast] <;> with_reducible rfl) (by simp only [jC, jN, seval, vint, TyS, TyF, MapS, EqS, BdS, List.map_cons, List.length_cons, gz, gz0, gz1, gz3, gz4, ite_self, List.getElem?_cons_zero, List.drop_succ_cons, List.drop_zero, g1, g2, Int.toNat_natCast]) (by decide) Trygo39 (typeSize_k A[i].t.size A[i].t (Nat.le_refl _) hWe (by omega) _) ?_
                    refine e_end (by simp only [jA, jO, jN, seval, vint, TyS, TyF, MapS, EqS, BdS, List.map_cons, List.length_cons, gz, gz0, gz1, gz3, gz4, ite_self, List.getElem?_cons_zero, List.drop_succ_cons, List.drop_zero, g1, g2, Int.toNat_natCast] <;> with_reducible rfl) (by decide) ?_
                    repeat (refine awp_seq ?_)
                    refine e_eval (by simp only [jA, jO, jN, seval, y3, vint, TyS, TyF, MapS, EqS, BdS, List.map_cons, List.length_cons, gz, gz0, gz1, gz3, gz4, ite_self, List.getElem?_cons_zero, List.drop_succ_cons, List.drop_zero, g1, g2, Int.toNat_natCast] <;> with_reducible rfl) (by decide) ?_
                    repeat (refine awp_seq ?_)
                    refine awp_cond rfl (by simp only [jN, seval, vint, TyS, TyF, MapS, EqS, BdS, List.map_cons, List.length_cons, gz, gz0, gz1, gz3, gz4, ite_self, List.getElem?_cons_zero, List.drop_succ_cons, List.drop_zero, g1, g2, Int.toNat_natCast] <;> with_reducible rfl) (fun bt134 => ?_) (fun bt134 => ?_)
                    ·
                      have hany : A.any over = true := List.any_eq_true.2 ⟨_, hmem, bt134⟩
                      rw [if_pos hany] at hrs
                      have hst := hrs
                      repeat (refine awp_seq ?_)
                      refine e_eval (by simp only [jA, jO, jN, seval, vint, TyS, TyF, MapS, EqS, BdS, List.map_cons, List.length_cons, gz, gz0, gz1, gz3, gz4, ite_self, List.getElem?_cons_zero, List.drop_succ_cons, List.drop_zero, g1, g2, Int.toNat_natCast] <;> with_reducible rfl) (by decide) ?_
                      repeat (refine awp_seq ?_)
                      refine awp_ret ⟨.inr rfl, _, (ares_two (.tmp 2) (.tmp 3) rfl (ares_tmp1 (by decide)) (ares_tmp1 (by decide))), ?_⟩
                      first
                        | (rw [refF_none hst] at hrn; cases hrn; rfl)
                        | rfl
                    ·
                      skip
                      repeat (refine awp_seq ?_)
                      refine awp_skip ?_
                      exact ⟨⟨rfl, rfl, trivial⟩, (), _, ⟨rfl, rfl, rfl, trivial⟩, rfl, any_take_succ hi hg bt134⟩
                  · intro s hg
                    rw [List.take_length] at hg
                    rw [if_neg (by rw [hg]; simp)] at hrs
                    try simp only [thenQ, blockQ]
                    first
                      | exact ⟨(m, _, _), _, Nat.lt_succ_self m, ⟨rfl, rfl, trivial⟩, rfl, nx hrs⟩
                      | exact ⟨(m, S, q ++ es), _, Nat.lt_succ_self m, ⟨rfl, rfl, trivial⟩, rfl, nx (by rw [hrs, hg])⟩
            ·
              rw [if_neg (of_decide_eq_false bt108), if_pos (by simp only [of_decide_eq_false bt108, decide_false, Bool.or_false, decide_eq_true_eq] at bt97; exact bt97)] at hrs
              obtain ⟨x, T, hx, hT⟩ : ∃ x T, x = a ∧ T = b := ⟨_, _, rfl, rfl⟩
              subst hx hT
              repeat (refine awp_seq ?_)
              refine awp_skip ?_
              skip
              ·
                have hav := any_vars (t := T) (by assumption) x.id
                have hvl := varsT_len T
                have hsT : T.size ≤ 20000000 := by assumption
                have hWT : T.W := by assumption
                have hvar := varsOf_k T.size T (Nat.le_refl _) hWT (by omega)
                have hcon := containsIntR (varsT T) x.id (by omega)
                rw [hav] at hcon
                have hadd := addB_k S x.id T hSl2 hSW hWT
                have hal := addB_len x.id T S
                have has := addB_size (v := x.id) hwi.ri hwi.sm hsT
                have haW : ∀ b ∈ addB x.id T S, b.t.W := fun b hb => W_of_size _ (by have := has b hb; omega)
                obtain ⟨A, hA⟩ : ∃ A, A = addB x.id T S := ⟨_, rfl⟩
                rw [← hA] at hadd hal has haW hrs
                repeat (refine awp_seq ?_)
                refine dp_draw (by kernel_rfl) ?_
                refine dp_take 1 (by simp only [jP, jO, jN, seval, y29, vint, TyS, TyF, MapS, EqS, BdS, List.map_cons, List.length_cons, gz, gz0, gz1, gz3, gz4, ite_self, List.getElem?_cons_zero, List.drop_succ_cons, List.drop_zero] <;> with_reducible rfl) (by decide) ?_
                refine dp_keep (by simp only [jE, jN, seval, vint, TyS, TyF, MapS, EqS, BdS, List.map_cons, List.length_cons, gz, gz0, gz1, gz3, gz4, ite_self, List.getElem?_cons_zero, List.drop_succ_cons, List.drop_zero] <;> with_reducible rfl) (by simp only [jE, jN, seval, vint, TyS, TyF, MapS, EqS, BdS, List.map_cons, List.length_cons, gz, gz0, gz1, gz3, gz4, ite_self, List.getElem?_cons_zero, List.drop_succ_cons, List.drop_zero] <;> with_reducible rfl) (by simp only [jE, jN, seval, vint, TyS, TyF, MapS, EqS, BdS, List.map_cons, List.length_cons, gz, gz0, gz1, gz3, gz4, ite_self, List.getElem?_cons_zero, List.drop_succ_cons, List.drop_zero]) (by decide) Trygo44 (fun hc => hvar _) ?_
                refine dp_take 2 (by simp only [jP, jO, jN, seval, y3, y29, vint, TyS, TyF, MapS, EqS, BdS, List.map_cons, List.length_cons, gz, gz0, gz1, gz3, gz4, ite_self, List.getElem?_cons_zero, List.drop_succ_cons, List.drop_zero] <;> with_reducible rfl) (by decide) ?_
                refine dp_keep (by simp only [jE, jN, seval, vint, TyS, TyF, MapS, EqS, BdS, List.map_cons, List.length_cons, gz, gz0, gz1, gz3, gz4, ite_self, List.getElem?_cons_zero, List.drop_succ_cons, List.drop_zero] <;> with_reducible rfl) (by simp only [jE, jN, seval, vint, TyS, TyF, MapS, EqS, BdS, List.map_cons, List.length_cons, gz, gz0, gz1, gz3, gz4, ite_self, List.getElem?_cons_zero, List.drop_succ_cons, List.drop_zero] <;> with_reducible rfl) (by simp only [jE, jN, seval, vint, TyS, TyF, MapS, EqS, BdS, List.map_cons, List.length_cons, gz, gz0, gz1, gz3, gz4, ite_self, List.getElem?_cons_zero, List.drop_succ_cons, List.drop_zero]) (by decide) Trygo43 (fun hc => hcon _) ?_
                refine dp_end (by simp only [jP, jO, jN, seval, vint, TyS, TyF, MapS, EqS, BdS, List.map_cons, List.length_cons, gz, gz0, gz1, gz3, gz4, ite_self, List.getElem?_cons_zero, List.drop_succ_cons, List.drop_zero] <;> with_reducible rfl) (by decide) (by repeat (first | exact Fin.base _ | with_reducible apply Fin.keep | apply Fin.drop)) ?_
                repeat (refine awp_seq ?_)
                refine awp_cond rfl (by simp only [jN, seval, vint, TyS, TyF, MapS, EqS, BdS, List.map_cons, List.length_cons, gz, gz0, gz1, gz3, gz4, ite_self, List.getElem?_cons_zero, List.drop_succ_cons, List.drop_zero] <;> with_reducible rfl) (fun bt115 => ?_) (fun bt115 => ?_)
                ·
                  rw [if_pos bt115] at hrs
                  have hst := hrs
                  refine awp_sel [4, 5] (by simp only [jN, seval, vint, TyS, TyF, MapS, EqS, BdS, List.map_cons, List.length_cons, gz, gz0, gz1, gz3, gz4, ite_self, List.getElem?_cons_zero, List.drop_succ_cons, List.drop_zero] <;> with_reducible rfl) ?_
                  repeat (refine awp_seq ?_)
                  refine e_eval (by simp only [jA, jO, jN, seval, vint, TyS, TyF, MapS, EqS, BdS, List.map_cons, List.length_cons, gz, gz0, gz1, gz3, gz4, ite_self, List.getElem?_cons_zero, List.drop_succ_cons, List.drop_zero] <;> with_reducible rfl) (by decide) ?_
                  repeat (refine awp_seq ?_)
                  refine awp_ret ⟨.inr rfl, _, (ares_two (.tmp 2) (.tmp 3) rfl (ares_tmp1 (by decide)) (ares_tmp1 (by decide))), ?_⟩
                  first
                    | (rw [refF_none hst] at hrn; cases hrn; rfl)
                    | rfl
                ·
                  rw [if_neg (by rw [bt115]; simp)] at hrs
                  repeat (refine awp_seq ?_)
                  refine awp_skip ?_
                  refine awp_sel [4, 5, 7, 8] (by simp only [jN, seval, vint, TyS, TyF, MapS, EqS, BdS, List.map_cons, List.length_cons, gz, gz0, gz1, gz3, gz4, ite_self, List.getElem?_cons_zero, List.drop_succ_cons, List.drop_zero] <;> with_reducible rfl) ?_
                  repeat (refine awp_seq ?_)
                  refine awp_region ?_
                  refine e_take 4 (by simp only [jA, jO, jN, seval, y3, y29, vint, TyS, TyF, MapS, EqS, BdS, List.map_cons, List.length_cons, gz, gz0, gz1, gz3, gz4, ite_self, List.getElem?_cons_zero, List.drop_succ_cons, List.drop_zero] <;> with_reducible rfl) (by decide) ?_
                  refine aops_pure (by simp only [jC, jN, seval, vint, TyS, TyF, MapS, EqS, BdS, List.map_cons, List.length_cons, gz, gz0, gz1, gz3, gz4, ite_self, List.getElem?_cons_zero, List.drop_succ_cons, List.drop_zero] <;> with_reducible rfl) (by simp only [jC, jN, seval, vint, TyS, TyF, MapS, EqS, BdS, List.map_cons, List.length_cons, gz, gz0, gz1, gz3, gz4, ite_self, List.getElem?_cons_zero, List.drop_succ_cons, List.drop_zero]) (by decide) Trygo42 (hadd _) ?_
                  refine e_end (by simp only [jA, jO, jN, seval, vint, TyS, TyF, MapS, EqS, BdS, List.map_cons, List.length_cons, gz, gz0, gz1, gz3, gz4, ite_self, List.getElem?_cons_zero, List.drop_succ_cons, List.drop_zero] <;> with_reducible rfl) (by decide) ?_
                  repeat (refine awp_seq ?_)
                  refine e_eval (by simp only [jA, jO, jN, seval, y24, y42, vint, TyS, TyF, MapS, EqS, BdS, List.map_cons, List.length_cons, gz, gz0, gz1, gz3, gz4, ite_self, List.getElem?_cons_zero, List.drop_succ_cons, List.drop_zero] <;> with_reducible rfl) (by decide) ?_
                  repeat (refine awp_seq ?_)
                  refine awp_forS (σ := Unit) (A.length) (fun (s : Unit) => [(4, .slice (A.map Bd.enc) .none), (5, .slice (es.map Eq2.enc) .none), (121, .slice (A.map Bd.enc) .none)]) [4, 5, 121] ([]) (fun (s : Unit) => []) (fun (i : Nat) (s : Unit) => (A.take i).any over = false) (()) (_) rfl rfl rfl rfl rfl rfl rfl rfl rfl (by decide) (by decide) (by decide) (fun _ => rfl) ((by rw [em, hal]; omega)) ⟨(by first | rfl | (simp only [jN, seval, vint, TyS, TyF, MapS, EqS, BdS, List.map_cons, List.length_cons, gz, gz0, gz1, gz3, gz4, ite_self, List.getElem?_cons_zero, List.drop_succ_cons, List.drop_zero] <;> first | done | with_reducible rfl)), (by first | rfl | (simp only [jN, seval, vint, TyS, TyF, MapS, EqS, BdS, List.map_cons, List.length_cons, gz, gz0, gz1, gz3, gz4, ite_self, List.getElem?_cons_zero, List.drop_succ_cons, List.drop_zero] <;> first | done | with_reducible rfl)), (by first | rfl | (simp only [jN, seval, vint, TyS, TyF, MapS, EqS, BdS, List.map_cons, List.length_cons, gz, gz0, gz1, gz3, gz4, ite_self, List.getElem?_cons_zero, List.drop_succ_cons, List.drop_zero] <;> first | done | with_reducible rfl)), (by first | rfl | (simp only [jN, seval, vint, TyS, TyF, MapS, EqS, BdS, List.map_cons, List.length_cons, gz, gz0, gz1, gz3, gz4, ite_self, List.getElem?_cons_zero, List.drop_succ_cons, List.drop_zero] <;> first | done | with_reducible rfl)), (by first | rfl | (simp only [jN, seval, vint, TyS, TyF, MapS, EqS, BdS, List.map_cons, List.length_cons, gz, gz0, gz1, gz3, gz4, ite_self, List.getElem?_cons_zero, List.drop_succ_cons, List.drop_zero] <;> first | done | with_reducible rfl)), trivial⟩ (by first | rfl | (simp only [jN, seval, vint, TyS, TyF, MapS, EqS, BdS, List.map_cons, List.length_cons, gz, gz0, gz1, gz3, gz4, ite_self, List.getElem?_cons_zero, List.drop_succ_cons, List.drop_zero] <;> first | done | with_reducible rfl)) (by simp) (fun _ _ _ => by first | exact Nat.zero_le _ | (simp only [List.length_append]; omega)) ?_ ?_ ?_
                  · exact fun i s hg => ⟨by first | exact hbel_nil _ | (simp only [List.append_nil]; assumption) | (refine hbel_app' hb' (by simp) ?_; repeat (first | exact hbel_nil _ | exact trivial | exact obel_row_nil _ | (refine HBel.cons ?_ ?_) | (refine obel_row_cons (by first | exact bel_Bd _ _ | exact bel_Eq2 _ _ | exact Eq2.bel _ _ | exact Bd.bel _ _ | exact bel_Bd_tl _ (by simp) | exact bel_Eq2_tl _ (by simp) | exact bel_ints0 _ _ | exact bel_slice_ty _ _ | exact Ty.bel _ _ | exact bel_ty_tok _ (by simp) | exact Bel.int _ _ | exact Bel.bool _ | exact Bel.str _ | exact Bel.nilp | exact Bel.nilfn | exact Bel.optr _ _ (by simp) | exact bel_nil0 _ | exact bel_nil1 _ | exact bel_fn0 _ _ | assumption) ?_))), by repeat (first | exact BelL.nil | refine BelL.cons (by first | exact bel_Bd _ _ | exact bel_Eq2 _ _ | exact Eq2.bel _ _ | exact Bd.bel _ _ | exact bel_Bd_tl _ (by simp) | exact bel_Eq2_tl _ (by simp) | exact bel_ints0 _ _ | exact bel_slice_ty _ _ | exact Ty.bel _ _ | exact bel_ty_tok _ (by simp) | exact Bel.int _ _ | exact Bel.bool _ | exact Bel.str _ | exact Bel.nilp | exact Bel.nilfn | exact Bel.optr _ _ (by simp) | exact bel_nil0 _ | exact bel_nil1 _ | exact bel_fn0 _ _ | assumption) ?_)⟩
                  · intro i s hi hg
                    have g1 := ix_nat hi
                    have g2 := get_enc Bd.enc hi
                    have hmem := List.getElem_mem hi
                    have hsz := has _ hmem
                    have hWe := haW _ hmem
                    repeat (refine awp_seq ?_)
                    refine e_eval (by simp only [jA, jO, jN, seval, y24, y42, vint, TyS, TyF, MapS, EqS, BdS, List.map_cons, List.length_cons, gz, gz0, gz1, gz3, gz4, ite_self, List.getElem?_cons_zero, List.drop_succ_cons, List.drop_zero, g1, g2, Int.toNat_natCast] <;> with_reducible rfl) (by decide) ?_
                    repeat (refine awp_seq ?_)
                    refine awp_region ?_
                    refine e_take 2 (by simp only [jA, jO, jN, seval, y29, y42, vint, TyS, TyF, MapS, EqS, BdS, List.map_cons, List.length_cons, gz, gz0, gz1, gz3, gz4, ite_self, List.getElem?_cons_zero, List.drop_succ_cons, List.drop_zero, g1, g2, Int.toNat_natCast] <;> with_reducible rfl) (by decide) ?_
                    refine aops_pure (by simp only [jC, jN, seval, vint, TyS, TyF, MapS, EqS, BdS, List.map_cons, List.length_cons, gz, gz0, gz1, gz3, gz4, ite_self, List.getElem?_cons_zero, List.drop_succ_cons, List.drop_zero, g1, g2, Int.toNat_natCast] <;> with_reducible rfl) (by simp only [jC, jN, seval, vint, TyS, TyF, MapS, EqS, BdS, List.map_cons, List.length_cons, gz, gz0, gz1, gz3, gz4, ite_self, List.getElem?_cons_zero, List.drop_succ_cons, List.drop_zero, g1, g2, Int.toNat_natCast]) (by decide) Trygo39 (typeSize_k A[i].t.size A[i].t (Nat.le_refl _) hWe (by omega) _) ?_
                    refine e_end (by simp only [jA, jO, jN, seval, vint, TyS, TyF, MapS, EqS, BdS, List.map_cons, List.length_cons, gz, gz0, gz1, gz3, gz4, ite_self, List.getElem?_cons_zero, List.drop_succ_cons, List.drop_zero, g1, g2, Int.toNat_natCast] <;> with_reducible rfl) (by decide) ?_
                    repeat (refine awp_seq ?_)
                    refine e_eval (by simp only [jA, jO, jN, seval, y3, vint, TyS, TyF, MapS, EqS, BdS, List.map_cons, List.length_cons, gz, gz0, gz1, gz3, gz4, ite_self, List.getElem?_cons_zero, List.drop_succ_cons, List.drop_zero, g1, g2, Int.toNat_natCast] <;> with_reducible rfl) (by decide) ?_
                    repeat (refine awp_seq ?_)
                    refine awp_cond rfl (by simp only [jN, seval, vint, TyS, TyF, MapS, EqS, BdS, List.map_cons, List.length_cons, gz, gz0, gz1, gz3, gz4, ite_self, List.getElem?_cons_zero, List.drop_succ_cons, List.drop_zero, g1, g2, Int.toNat_natCast] <;> with_reducible rfl) (fun bt134 => ?_) (fun bt134 => ?_)
                    ·
                      have hany : A.any over = true := List.any_eq_true.2 ⟨_, hmem, bt134⟩
                      rw [if_pos hany] at hrs
                      have hst := hrs
                      repeat (refine awp_seq ?_)
                      refine e_eval (by simp only [jA, jO, jN, seval, vint, TyS, TyF, MapS, EqS, BdS, List.map_cons, List.length_cons, gz, gz0, gz1, gz3, gz4, ite_self, List.getElem?_cons_zero, List.drop_succ_cons, List.drop_zero, g1, g2, Int.toNat_natCast] <;> with_reducible rfl) (by decide) ?_
                      repeat (refine awp_seq ?_)
                      refine awp_ret ⟨.inr rfl, _, (ares_two (.tmp 2) (.tmp 3) rfl (ares_tmp1 (by decide)) (ares_tmp1 (by decide))), ?_⟩
                      first
                        | (rw [refF_none hst] at hrn; cases hrn; rfl)
                        | rfl
                    ·
                      skip
                      repeat (refine awp_seq ?_)
                      refine awp_skip ?_
                      exact ⟨⟨rfl, rfl, trivial⟩, (), _, ⟨rfl, rfl, rfl, trivial⟩, rfl, any_take_succ hi hg bt134⟩
                  · intro s hg
                    rw [List.take_length] at hg
                    rw [if_neg (by rw [hg]; simp)] at hrs
                    try simp only [thenQ, blockQ]
                    first
                      | exact ⟨(m, _, _), _, Nat.lt_succ_self m, ⟨rfl, rfl, trivial⟩, rfl, nx hrs⟩
                      | exact ⟨(m, S, q ++ es), _, Nat.lt_succ_self m, ⟨rfl, rfl, trivial⟩, rfl, nx (by rw [hrs, hg])⟩
          ·
            have hz2 : ¬ b.kind = 1 ∧ ¬ a.kind = 1 := by simp at bt97; exact ⟨bt97.2, bt97.1⟩
            rw [if_neg hz2.1, if_neg hz2.2] at hrs
            repeat (refine awp_seq ?_)
            refine g_eval (by simp only [jG, jO, jN, seval, y3, y27, y29, vint, TyS, TyF, MapS, EqS, BdS, List.map_cons, List.length_cons, gz, gz0, gz1, gz3, gz4, ite_self, List.getElem?_cons_zero, List.drop_succ_cons, List.drop_zero] <;> with_reducible rfl) (by decide) (by repeat (first | exact Fin.base _ | with_reducible apply Fin.keep | apply Fin.drop)) ?_
            repeat (refine awp_seq ?_)
            refine awp_cond rfl (by simp only [jN, seval, vint, TyS, TyF, MapS, EqS, BdS, List.map_cons, List.length_cons, gz, gz0, gz1, gz3, gz4, ite_self, List.getElem?_cons_zero, List.drop_succ_cons, List.drop_zero] <;> with_reducible rfl) (fun bt136 => ?_) (fun bt136 => ?_)
            ·
              have hst : rstep S e es = none := by rw [hrs, if_pos (by simp at bt136; omega)]
              refine awp_sel [4, 5] (by simp only [jN, seval, vint, TyS, TyF, MapS, EqS, BdS, List.map_cons, List.length_cons, gz, gz0, gz1, gz3, gz4, ite_self, List.getElem?_cons_zero, List.drop_succ_cons, List.drop_zero] <;> with_reducible rfl) ?_
              repeat (refine awp_seq ?_)
              refine e_eval (by simp only [jA, jO, jN, seval, vint, TyS, TyF, MapS, EqS, BdS, List.map_cons, List.length_cons, gz, gz0, gz1, gz3, gz4, ite_self, List.getElem?_cons_zero, List.drop_succ_cons, List.drop_zero] <;> with_reducible rfl) (by decide) ?_
              repeat (refine awp_seq ?_)
              refine awp_ret ⟨.inr rfl, _, (ares_two (.tmp 2) (.tmp 3) rfl (ares_tmp1 (by decide)) (ares_tmp1 (by decide))), ?_⟩
              first
                | (rw [refF_none hst] at hrn; cases hrn; rfl)
                | rfl
            ·
              have hq : ¬ ((a.kind ≠ b.kind ∨ a.id ≠ b.id) ∨ a.args.length ≠ b.args.length) := by
                simp at bt136
                have := bt136.1.1
                have := bt136.1.2
                have := bt136.2
                simp only [ne_eq, not_or, Classical.not_not]
                exact ⟨⟨by assumption, by assumption⟩, by omega⟩
              rw [if_neg hq] at hrs
              have hll : a.args.length = b.args.length := by
                simp only [ne_eq, not_or, Classical.not_not] at hq
                exact hq.2
              have has : a.args.length ≤ 20000000 := by have h1 := sizes_len2 a.args; have h2 : a.size = 1 + Ty.sizes a.args := by cases a; simp [Ty.size, Ty.args]
                                                        omega
              refine awp_sel [4, 5, 7, 8] (by simp only [jN, seval, vint, TyS, TyF, MapS, EqS, BdS, List.map_cons, List.length_cons, gz, gz0, gz1, gz3, gz4, ite_self, List.getElem?_cons_zero, List.drop_succ_cons, List.drop_zero] <;> with_reducible rfl) ?_
              repeat (refine awp_seq ?_)
              refine e_eval (by simp only [jA, jO, jN, seval, vint, TyS, TyF, MapS, EqS, BdS, List.map_cons, List.length_cons, gz, gz0, gz1, gz3, gz4, ite_self, List.getElem?_cons_zero, List.drop_succ_cons, List.drop_zero] <;> with_reducible rfl) (by decide) ?_
              repeat (refine awp_seq ?_)
              refine e_eval (by simp only [jA, jO, jN, seval, y27, y29, vint, TyS, TyF, MapS, EqS, BdS, List.map_cons, List.length_cons, gz, gz0, gz1, gz3, gz4, ite_self, List.getElem?_cons_zero, List.drop_succ_cons, List.drop_zero] <;> with_reducible rfl) (by decide) ?_
              repeat (refine awp_seq ?_)
              refine awp_retok 13 6 (es := []) (by simp only [jN, seval, vint, TyS, TyF, MapS, EqS, BdS] <;> with_reducible rfl) ?_
              refine awp_forS (σ := List Eq2) (a.args.length) (fun (q : List Eq2) => [(4, .slice (S.map Bd.enc) .none), (5, .slice (es.map Eq2.enc) .none), (7, .optr 1 0), (8, .optr 2 0), (13, .slice (q.map Eq2.enc) (.tok 3))]) [4, 5, 7, 8, 13] ([]) (fun (q : List Eq2) => [.row e.enc.cells, .row a.enc.cells, .row b.enc.cells, .buf q.length 6]) (fun (i : Nat) (q : List Eq2) => q = zipE (a.args.take i) (b.args.take i) ∧ q.length = i) ([]) ([]) rfl rfl rfl rfl rfl rfl rfl rfl rfl (by decide) (by decide) (by decide) (fun _ => rfl) ((by rw [em]; omega)) ⟨(by first | rfl | (simp only [jN, seval, vint, TyS, TyF, MapS, EqS, BdS, List.map_cons, List.length_cons, gz, gz0, gz1, gz3, gz4, ite_self, List.getElem?_cons_zero, List.drop_succ_cons, List.drop_zero] <;> first | done | with_reducible rfl)), (by first | rfl | (simp only [jN, seval, vint, TyS, TyF, MapS, EqS, BdS, List.map_cons, List.length_cons, gz, gz0, gz1, gz3, gz4, ite_self, List.getElem?_cons_zero, List.drop_succ_cons, List.drop_zero] <;> first | done | with_reducible rfl)), (by first | rfl | (simp only [jN, seval, vint, TyS, TyF, MapS, EqS, BdS, List.map_cons, List.length_cons, gz, gz0, gz1, gz3, gz4, ite_self, List.getElem?_cons_zero, List.drop_succ_cons, List.drop_zero] <;> first | done | with_reducible rfl)), (by first | rfl | (simp only [jN, seval, vint, TyS, TyF, MapS, EqS, BdS, List.map_cons, List.length_cons, gz, gz0, gz1, gz3, gz4, ite_self, List.getElem?_cons_zero, List.drop_succ_cons, List.drop_zero] <;> first | done | with_reducible rfl)), (by first | rfl | (simp only [jN, seval, vint, TyS, TyF, MapS, EqS, BdS, List.map_cons, List.length_cons, gz, gz0, gz1, gz3, gz4, ite_self, List.getElem?_cons_zero, List.drop_succ_cons, List.drop_zero] <;> first | done | with_reducible rfl)), (by first | rfl | (simp only [jN, seval, vint, TyS, TyF, MapS, EqS, BdS, List.map_cons, List.length_cons, gz, gz0, gz1, gz3, gz4, ite_self, List.getElem?_cons_zero, List.drop_succ_cons, List.drop_zero] <;> first | done | with_reducible rfl)), (by first | rfl | (simp only [jN, seval, vint, TyS, TyF, MapS, EqS, BdS, List.map_cons, List.length_cons, gz, gz0, gz1, gz3, gz4, ite_self, List.getElem?_cons_zero, List.drop_succ_cons, List.drop_zero] <;> first | done | with_reducible rfl)), trivial⟩ (by first | rfl | (simp only [jN, seval, vint, TyS, TyF, MapS, EqS, BdS, List.map_cons, List.length_cons, gz, gz0, gz1, gz3, gz4, ite_self, List.getElem?_cons_zero, List.drop_succ_cons, List.drop_zero] <;> first | done | with_reducible rfl)) (⟨rfl, rfl⟩) (fun _ _ _ => by first | exact Nat.zero_le _ | (simp only [List.length_append]; omega)) ?_ ?_ ?_
              · intro i q hg
                exact ⟨by repeat (first | exact hbel_nil _ | exact trivial | exact obel_ty _ _ | exact obel_eq2 _ _ | (refine HBel.cons ?_ ?_)), .cons (bel_Bd _ _) (.cons (bel_Eq2 _ _) (.cons (.optr _ _ (by simp)) (.cons (.optr _ _ (by simp)) (.cons (bel_Eq2_tl _ (by simp)) .nil))))⟩
              · intro i q hi hg
                obtain ⟨hg, hgl⟩ := hg
                have hi2 : i < b.args.length := by omega
                have g1 := ix_nat hi
                have g2 := get_enc Ty.enc hi
                have g3 := ix_nat hi2
                have g4 := get_enc Ty.enc hi2
                have happ1 := app_Eq2 (us := q) (u := ⟨a.args[i], b.args[i]⟩) (id := 3) (tl := .full) (by omega)
                repeat (refine awp_seq ?_)
                refine e_eval (by simp only [jA, jO, jN, seval, vint, TyS, TyF, MapS, EqS, BdS, List.map_cons, List.length_cons, gz, gz0, gz1, gz3, gz4, ite_self, List.getElem?_cons_zero, List.drop_succ_cons, List.drop_zero, g1, g2, g3, g4, Int.toNat_natCast] <;> with_reducible rfl) (by decide) ?_
                repeat (refine awp_seq ?_)
                refine x_draw 0 rfl (by kernel_rfl) ?_
                refine x1_take 13 rfl (by simp only [jP, jO, jN, seval, y22, y27, y29, y31, vint, TyS, TyF, MapS, EqS, BdS, List.map_cons, List.length_cons, gz, gz0, gz1, gz3, gz4, ite_self, List.getElem?_cons_zero, List.drop_succ_cons, List.drop_zero, g1, g2, g3, g4, Int.toNat_natCast, happ1] <;> with_reducible rfl) (by decide) (by decide) (by decide) ?_
                refine x_mid (by first | (simp only [LS, HS, List.append_assoc, List.cons_append, List.nil_append, List.map_cons, List.length_cons, gz, gz0, gz1, gz3, gz4, ite_self, List.getElem?_cons_zero, List.drop_succ_cons, List.drop_zero, g1, g2, g3, g4, Int.toNat_natCast, happ1] <;> with_reducible rfl) | rfl) ?_
                refine x2_end (bm := [0, 0, 2, 0, 14, 30, 0, 64, 0, 448, 960, 2046, 4094, 8191, 16383]) (fresh := 0) (by kernel_rfl) (by simp only [jX, jO, jN, seval, y22, y31, vint, TyS, TyF, MapS, EqS, BdS, List.map_cons, List.length_cons, gz, gz0, gz1, gz3, gz4, ite_self, List.getElem?_cons_zero, List.drop_succ_cons, List.drop_zero, g1, g2, g3, g4, Int.toNat_natCast, happ1] <;> with_reducible rfl) (by decide) (by repeat (first | exact Fin.base _ | with_reducible apply Fin.keep | apply Fin.drop)) ?_
                exact ⟨⟨rfl, rfl, trivial⟩, q ++ [⟨a.args[i], b.args[i]⟩], _, ⟨rfl, rfl, rfl, rfl, rfl, trivial⟩, by simp only [jN, seval, vint, TyS, TyF, MapS, EqS, BdS, List.length_append, List.length_singleton] <;> rfl, by rw [hg, zipE_take hi hi2], by simp; omega⟩
              · intro q hg
                obtain ⟨hg, hgl⟩ := hg
                rw [List.take_length, hll, List.take_length] at hg
                have happ2 := app_Eqs (us := q) (vs := es) (id := 3) (n := q.length) rfl (by omega)
                repeat (refine awp_seq ?_)
                refine e_eval (by simp only [jA, jO, jN, seval, y22, y31, vint, TyS, TyF, MapS, EqS, BdS, List.map_cons, List.length_cons, gz, gz0, gz1, gz3, gz4, ite_self, List.getElem?_cons_zero, List.drop_succ_cons, List.drop_zero, happ2, ← List.map_append] <;> with_reducible rfl) (by decide) ?_
                try simp only [thenQ, blockQ]
                first
                  | exact ⟨(m, _, _), _, Nat.lt_succ_self m, ⟨rfl, rfl, trivial⟩, rfl, nx hrs⟩
                  | exact ⟨(m, S, q ++ es), _, Nat.lt_succ_self m, ⟨rfl, rfl, trivial⟩, rfl, nx (by rw [hrs, hg])⟩

end Go.Abs
set_option maxRecDepth 4000
namespace Go.Abs
open Go.Proofs

theorem law_ref (eqs0 : List Eq2) (hw0 : ∀ e ∈ eqs0, e.l.W ∧ e.r.W) (hs0 : ∀ e ∈ eqs0, (e.l.size : Int) ≤ 1152921504606846976 ∧ (e.r.size : Int) ≤ 1152921504606846976) (hlen0 : eqs0.length ≤ maxLen) : PC Try.prog 3 [.slice (eqs0.map Eq2.enc) .none] (.bool true) := by
  have em : maxLen = 9223372036854775807 := by decide
  have htk : (eqs0.map Eq2.enc).take (min (eqs0.length : Int) 10).toNat = (eqs0.take 10).map Eq2.enc := by
    rw [← List.map_take]
    by_cases h : eqs0.length ≤ 10
    · rw [List.take_of_length_le (by omega), List.take_of_length_le h]
    · rw [show (min (eqs0.length : Int) 10).toNat = 10 from by omega]
  have hmn : (0 ≤ min (eqs0.length : Int) 10 ∧ min (eqs0.length : Int) 10 ≤ (eqs0.length : Int)) = True := eq_true (by omega)
  have hmc : (∀ x, x ∈ eqs0.map Eq2.enc → x.cells.length = 6) = True := eq_true fun x hx => by obtain ⟨v, _, rfl⟩ := List.mem_map.1 hx; exact v.enc_len
  obtain ⟨eqs, he⟩ : ∃ eqs, eqs = eqs0.take 10 := ⟨_, rfl⟩
  rw [← he] at htk
  have hsub : ∀ e ∈ eqs, e ∈ eqs0 := fun e h => by rw [he] at h; exact List.mem_of_mem_take h
  have hw : ∀ e ∈ eqs, e.l.W ∧ e.r.W := fun e h => hw0 e (hsub e h)
  have hs : ∀ e ∈ eqs, (e.l.size : Int) ≤ 1152921504606846976 ∧ (e.r.size : Int) ≤ 1152921504606846976 := fun e h => hs0 e (hsub e h)
  have hl10 : eqs.length ≤ 10 := by rw [he, List.length_take]; omega
  have hlen : eqs.length ≤ maxLen := by omega
  obtain ⟨R, ok, hu, hU⟩ := uni_c hw hlen
  have hRl : R.length ≤ maxLen := by have := hU.len; omega
  have hRW := hU.w
  have hno := hU.no
  refine pc_of (N := 65) Try.func3 rfl rfl (by simp) (by simp [bel_Eq2]) (.bool _) ?_
  repeat (refine awp_seq ?_)
  refine e_eval (by simp only [jA, jO, jN, seval, vint, TyS, TyF, MapS, EqS, BdS] <;> with_reducible rfl) (by decide) ?_
  repeat (refine awp_seq ?_)
  refine awp_region ?_
  refine aops_pure (by simp only [jC, jN, seval, vint, TyS, TyF, MapS, EqS, BdS] <;> with_reducible rfl) (by simp only [jC, jN, seval, vint, TyS, TyF, MapS, EqS, BdS]) (by decide) Trygo8 (worksL _) ?_
  refine e_end (by simp only [jA, jO, jN, seval, vint, TyS, TyF, MapS, EqS, BdS] <;> with_reducible rfl) (by decide) ?_
  repeat (refine awp_seq ?_)
  refine awp_cond_false rfl (by simp only [jN, seval, vint, TyS, TyF, MapS, EqS, BdS] <;> with_reducible rfl) ?_
  repeat (refine awp_seq ?_)
  refine awp_skip ?_
  repeat (refine awp_seq ?_)
  refine e_eval (by simp only [jA, jO, jN, seval, y3, y22, y31, vint, TyS, TyF, MapS, EqS, BdS, htk, hmn, hmc, and_false, ite_self, if_false] <;> with_reducible rfl) (by decide) ?_
  repeat (refine awp_seq ?_)
  refine awp_region ?_
  refine e_take 1 (by simp only [jA, jO, jN, seval, vint, TyS, TyF, MapS, EqS, BdS] <;> with_reducible rfl) (by decide) ?_
  refine aops_pure (by simp only [jC, jN, seval, vint, TyS, TyF, MapS, EqS, BdS] <;> with_reducible rfl) (by simp only [jC, jN, seval, vint, TyS, TyF, MapS, EqS, BdS]) (by decide) Trygo9 (hu _) ?_
  refine e_end (by simp only [jA, jO, jN, seval, vint, TyS, TyF, MapS, EqS, BdS] <;> with_reducible rfl) (by decide) ?_
  refine awp_sel [0, 3, 4] (by simp only [jN, seval, vint, TyS, TyF, MapS, EqS, BdS] <;> with_reducible rfl) ?_
  repeat (refine awp_seq ?_)
  refine e_eval (by simp only [jA, jO, jN, seval, y22, y31, vint, TyS, TyF, MapS, EqS, BdS] <;> with_reducible rfl) (by decide) ?_
  repeat (refine awp_seq ?_)
  refine awp_forS (σ := Unit) (eqs.length) (fun (s : Unit) => [(0, .slice (eqs.map Eq2.enc) .none), (3, .slice (R.map Bd.enc) .none), (4, .bool ok), (21, .slice (eqs.map Eq2.enc) .none)]) [0, 3, 4, 21] ([]) (fun (s : Unit) => []) (fun (i : Nat) (s : Unit) => (eqs.take i).any bad = false) (()) (_) rfl rfl rfl rfl rfl rfl rfl rfl rfl (by decide) (by decide) (by decide) (fun _ => rfl) (hlen) ⟨(by first | rfl | (simp only [jN, seval, vint, TyS, TyF, MapS, EqS, BdS] <;> first | done | with_reducible rfl)), (by first | rfl | (simp only [jN, seval, vint, TyS, TyF, MapS, EqS, BdS] <;> first | done | with_reducible rfl)), (by first | rfl | (simp only [jN, seval, vint, TyS, TyF, MapS, EqS, BdS] <;> first | done | with_reducible rfl)), (by first | rfl | (simp only [jN, seval, vint, TyS, TyF, MapS, EqS, BdS] <;> first | done | with_reducible rfl)), (by first | rfl | (simp only [jN, seval, vint, TyS, TyF, MapS, EqS, BdS] <;> first | done | with_reducible rfl)), (by first | rfl | (simp only [jN, seval, vint, TyS, TyF, MapS, EqS, BdS] <;> first | done | with_reducible rfl)), trivial⟩ (by first | rfl | (simp only [jN, seval, vint, TyS, TyF, MapS, EqS, BdS] <;> first | done | with_reducible rfl)) (by simp) (fun _ _ _ => by first | exact Nat.zero_le _ | (simp only [List.length_append]; omega)) ?_ ?_ ?_
  · exact fun i s hg => ⟨by first | exact hbel_nil _ | (simp only [List.append_nil]; assumption) | (refine hbel_app' hb' (by simp) ?_; repeat (first | exact hbel_nil _ | exact trivial | exact obel_row_nil _ | (refine HBel.cons ?_ ?_) | (refine obel_row_cons (by first | exact bel_Bd _ _ | exact bel_Eq2 _ _ | exact Eq2.bel _ _ | exact Bd.bel _ _ | exact bel_Bd_tl _ (by simp) | exact bel_Eq2_tl _ (by simp) | exact bel_ints0 _ _ | exact bel_slice_ty _ _ | exact Ty.bel _ _ | exact bel_ty_tok _ (by simp) | exact Bel.int _ _ | exact Bel.bool _ | exact Bel.str _ | exact Bel.nilp | exact Bel.nilfn | exact Bel.optr _ _ (by simp) | exact bel_nil0 _ | exact bel_nil1 _ | exact bel_fn0 _ _ | assumption) ?_))), by repeat (first | exact BelL.nil | refine BelL.cons (by first | exact bel_Bd _ _ | exact bel_Eq2 _ _ | exact Eq2.bel _ _ | exact Bd.bel _ _ | exact bel_Bd_tl _ (by simp) | exact bel_Eq2_tl _ (by simp) | exact bel_ints0 _ _ | exact bel_slice_ty _ _ | exact Ty.bel _ _ | exact bel_ty_tok _ (by simp) | exact Bel.int _ _ | exact Bel.bool _ | exact Bel.str _ | exact Bel.nilp | exact Bel.nilfn | exact Bel.optr _ _ (by simp) | exact bel_nil0 _ | exact bel_nil1 _ | exact bel_fn0 _ _ | assumption) ?_)⟩
  · intro i s hi hg
    have g1 := ix_nat hi
    have g2 := get_enc Eq2.enc hi
    have hmem := List.getElem_mem hi
    obtain ⟨wl, wr⟩ := hw _ hmem
    obtain ⟨sl, sr⟩ := hs _ hmem
    repeat (refine awp_seq ?_)
    refine e_eval (by simp only [jA, jO, jN, seval, y22, y31, vint, TyS, TyF, MapS, EqS, BdS, g1, g2, Int.toNat_natCast] <;> with_reducible rfl) (by decide) ?_
    repeat (refine awp_seq ?_)
    refine awp_region ?_
    refine aops_gstart ?_
    refine g_take 2 (by simp only [jG, jO, jN, seval, y29, y31, vint, TyS, TyF, MapS, EqS, BdS, g1, g2, Int.toNat_natCast] <;> with_reducible rfl) (by decide) ?_
    refine aops_gpure (by simp only [jE, jN, seval, vint, TyS, TyF, MapS, EqS, BdS, g1, g2, Int.toNat_natCast] <;> with_reducible rfl) (by simp only [jE, jN, seval, vint, TyS, TyF, MapS, EqS, BdS, g1, g2, Int.toNat_natCast] <;> with_reducible rfl) (by simp only [jE, jN, seval, vint, TyS, TyF, MapS, EqS, BdS, g1, g2, Int.toNat_natCast]) (by decide) Trygo10 (fun hc => typeError eqs[i].l wl sl _) ?_
    refine g_take 4 (by simp only [jG, jO, jN, seval, y29, y31, y32, vint, TyS, TyF, MapS, EqS, BdS, g1, g2, Int.toNat_natCast] <;> with_reducible rfl) (by decide) ?_
    refine aops_gpure (by simp only [jE, jN, seval, vint, TyS, TyF, MapS, EqS, BdS, g1, g2, Int.toNat_natCast] <;> with_reducible rfl) (by simp only [jE, jN, seval, vint, TyS, TyF, MapS, EqS, BdS, g1, g2, Int.toNat_natCast] <;> with_reducible rfl) (by simp only [jE, jN, seval, vint, TyS, TyF, MapS, EqS, BdS, g1, g2, Int.toNat_natCast]) (by decide) Trygo10 (fun hc => typeError eqs[i].r wr sr _) ?_
    refine g_end (by simp only [jG, jO, jN, seval, y32, vint, TyS, TyF, MapS, EqS, BdS, g1, g2, Int.toNat_natCast] <;> with_reducible rfl) (by decide) (by repeat (first | exact Fin.base _ | with_reducible apply Fin.keep | apply Fin.drop)) ?_
    repeat (refine awp_seq ?_)
    refine awp_cond rfl (by simp only [jN, seval, vint, TyS, TyF, MapS, EqS, BdS, g1, g2, Int.toNat_natCast] <;> with_reducible rfl) (fun bt36 => ?_) (fun bt36 => ?_)
    ·
      have hbd : bad eqs[i] = true := by unfold bad; simpa using bt36
      have hk : ok = false := hU.badly (by rw [List.any_eq_true.2 ⟨_, hmem, hbd⟩, Bool.or_true])
      have hR := hno hk
      subst hk hR
      repeat (refine awp_seq ?_)
      refine g_eval (by simp only [jG, jO, jN, seval, y3, y24, y42, vint, TyS, TyF, MapS, EqS, BdS, g1, g2, Int.toNat_natCast] <;> with_reducible rfl) (by decide) (by repeat (first | exact Fin.base _ | with_reducible apply Fin.keep | apply Fin.drop)) ?_
      repeat (refine awp_seq ?_)
      refine awp_ret ⟨.inr rfl, _, rfl, ?_⟩
      first | rfl | (simp only [jN, seval, vint, TyS, TyF, MapS, EqS, BdS])
    ·
      have hbd : bad eqs[i] = false := by unfold bad; simpa using bt36
      repeat (refine awp_seq ?_)
      refine awp_skip ?_
      exact ⟨⟨rfl, rfl, trivial⟩, (), _, ⟨rfl, rfl, rfl, rfl, trivial⟩, rfl, any_take_succ hi hg hbd⟩
  · intro s hg
    rw [List.take_length] at hg
    have hbd : (decide (((eqs.length : Nat) : Int) > 100) || eqs.any bad) = false := by rw [hg, Bool.or_false]; exact decide_eq_false (by omega)
    obtain ⟨heg, _⟩ := hU.good hbd
    obtain ⟨N, r, hrun, hr1, hr2⟩ := ref_plain hU hbd
    have hmg := mgu_k heg hl10 hrun
    rcases r with _ | W
    ·
      have hk := hr1 rfl
      have hR := hno hk
      subst hk hR
      simp only [ansF] at hmg
      repeat (refine awp_seq ?_)
      refine awp_region ?_
      refine e_take 1 (by simp only [jA, jO, jN, seval, vint, TyS, TyF, MapS, EqS, BdS] <;> with_reducible rfl) (by decide) ?_
      refine aops_pure (by simp only [jC, jN, seval, vint, TyS, TyF, MapS, EqS, BdS] <;> with_reducible rfl) (by simp only [jC, jN, seval, vint, TyS, TyF, MapS, EqS, BdS]) (by decide) Trygo11 (hmg _) ?_
      refine e_end (by simp only [jA, jO, jN, seval, vint, TyS, TyF, MapS, EqS, BdS] <;> with_reducible rfl) (by decide) ?_
      repeat (refine awp_seq ?_)
      refine e_eval (by simp only [jA, jO, jN, seval, vint, TyS, TyF, MapS, EqS, BdS] <;> with_reducible rfl) (by decide) ?_
      repeat (refine awp_seq ?_)
      refine awp_cond_true rfl (by simp only [jN, seval, vint, TyS, TyF, MapS, EqS, BdS] <;> with_reducible rfl) ?_
      repeat (refine awp_seq ?_)
      refine g_eval (by simp only [jG, jO, jN, seval, y3, y24, y42, vint, TyS, TyF, MapS, EqS, BdS] <;> with_reducible rfl) (by decide) (by repeat (first | exact Fin.base _ | with_reducible apply Fin.keep | apply Fin.drop)) ?_
      repeat (refine awp_seq ?_)
      refine awp_ret ⟨.inr rfl, _, rfl, ?_⟩
      first | rfl | (simp only [jN, seval, vint, TyS, TyF, MapS, EqS, BdS])
    ·
      obtain ⟨hk, hR⟩ := hr2 W rfl
      subst hk hR
      simp only [ansF] at hmg
      have heb : eqBs R R = true := (eqBs_iff R R).2 rfl
      have hbe := bindingsEqual R R hRl hRW
      rw [heb] at hbe
      repeat (refine awp_seq ?_)
      refine awp_region ?_
      refine e_take 1 (by simp only [jA, jO, jN, seval, vint, TyS, TyF, MapS, EqS, BdS] <;> with_reducible rfl) (by decide) ?_
      refine aops_pure (by simp only [jC, jN, seval, vint, TyS, TyF, MapS, EqS, BdS] <;> with_reducible rfl) (by simp only [jC, jN, seval, vint, TyS, TyF, MapS, EqS, BdS]) (by decide) Trygo11 (hmg _) ?_
      refine e_end (by simp only [jA, jO, jN, seval, vint, TyS, TyF, MapS, EqS, BdS] <;> with_reducible rfl) (by decide) ?_
      repeat (refine awp_seq ?_)
      refine e_eval (by simp only [jA, jO, jN, seval, vint, TyS, TyF, MapS, EqS, BdS] <;> with_reducible rfl) (by decide) ?_
      repeat (refine awp_seq ?_)
      refine awp_cond_false rfl (by simp only [jN, seval, vint, TyS, TyF, MapS, EqS, BdS] <;> with_reducible rfl) ?_
      repeat (refine awp_seq ?_)
      refine awp_skip ?_
      repeat (refine awp_seq ?_)
      refine awp_region ?_
      refine aops_gstart ?_
      refine g_take 4 (by simp only [jG, jO, jN, seval, vint, TyS, TyF, MapS, EqS, BdS] <;> with_reducible rfl) (by decide) ?_
      refine aops_gpure (by simp only [jE, jN, seval, vint, TyS, TyF, MapS, EqS, BdS] <;> with_reducible rfl) (by simp only [jE, jN, seval, vint, TyS, TyF, MapS, EqS, BdS] <;> with_reducible rfl) (by simp only [jE, jN, seval, vint, TyS, TyF, MapS, EqS, BdS]) (by decide) Trygo12 (fun hc => hbe _) ?_
      refine g_end (by simp only [jG, jO, jN, seval, vint, TyS, TyF, MapS, EqS, BdS] <;> with_reducible rfl) (by decide) (by repeat (first | exact Fin.base _ | with_reducible apply Fin.keep | apply Fin.drop)) ?_
      repeat (refine awp_seq ?_)
      refine awp_ret ⟨.inr rfl, _, rfl, ?_⟩
      first | rfl | (simp only [jN, seval, vint, TyS, TyF, MapS, EqS, BdS])

end Go.Abs
namespace Go.Abs
theorem strip (r : List (List Char)) : stripLifts liftWords ("cut".toList :: r) = ([], "cut".toList :: r) := by
  simp only [liftWords]
  repeat (rw [stripLifts, if_neg (by decide)])
  rfl
theorem mayEnter_of {P : Program} {r : List (List Char)} (h : behindMainWord (wordsSigns P.initOrder.toList) = "cut".toList :: r) (h1 : P.laysLater = false) (h2 : P.bearsReflect = false) (h3 : P.doorFits [] = true) : P.mayEnter = true := by
  unfold Program.mayEnter
  rw [h]
  simp only [strip, h1, h2, h3]
  rfl
theorem headLifts_of {P : Program} {r : List (List Char)} (h : behindMainWord (wordsSigns P.initOrder.toList) = "cut".toList :: r) : P.headLifts = [] := by
  unfold Program.headLifts
  rw [h, strip]
  rfl
theorem liftsFinal_of {P : Program} {r : List (List Char)} (h : behindMainWord (wordsSigns P.initOrder.toList) = "cut".toList :: r) : P.liftsFinal = false := by
  unfold Program.liftsFinal
  rw [headLifts_of h, h]
  rfl
theorem make_of {P : Program} {r : List (List Char)} (h : behindMainWord (wordsSigns P.initOrder.toList) = "cut".toList :: r) : P.make = some .cut := by
  unfold Program.make
  rw [h]
  rfl
def sg (l : List Nat) : List Char := l.map Char.ofNat
theorem words_cons (c : Char) (r : List Char) (h : (c == Char.ofNat 32) = false) : wordsSigns (c :: r) = match wordsSigns r with | w :: ws => (c :: w) :: ws | [] => [[c]] := by
  rw [wordsSigns]
  · rfl
  · intro e
    subst e
    simp at h
theorem words_word : ∀ (w r : List Char), w.all (fun c => !(c == Char.ofNat 32)) = true → wordsSigns (w ++ Char.ofNat 32 :: r) = w :: wordsSigns r
  | [], r, _ => by rfl
  | c :: w, r, h => by
    simp only [List.all_cons, Bool.and_eq_true, Bool.not_eq_true'] at h
    rw [List.cons_append, words_cons c _ h.1, words_word w r h.2]
/-- The head of a cut: 'harness', a sum, 'cut'. -/
theorem behind_of {P : Program} {a b c r : List Char} (hio : P.initOrder = String.ofList (a ++ Char.ofNat 32 :: (b ++ Char.ofNat 32 :: (c ++ Char.ofNat 32 :: r)))) (ha : a.all (fun c => !(c == Char.ofNat 32)) = true) (hb : b.all (fun c => !(c == Char.ofNat 32)) = true) (hc : c.all (fun c => !(c == Char.ofNat 32)) = true)
    (h : ((a == "harness".toList || a == "ownmain".toList) && isSumSigns b) = true) (hc2 : c = "cut".toList) : behindMainWord (wordsSigns P.initOrder.toList) = "cut".toList :: wordsSigns r := by
  rw [hio, String.toList_ofList, words_word _ _ ha, words_word _ _ hb, words_word _ _ hc]
  simp only [behindMainWord]
  rw [if_pos h, hc2]
end Go.Abs
