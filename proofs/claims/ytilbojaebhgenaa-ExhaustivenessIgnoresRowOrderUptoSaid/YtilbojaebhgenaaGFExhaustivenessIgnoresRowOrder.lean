/- Part 6 of a proof of the law ExhaustivenessIgnoresRowOrder: Go data as trees, the walks of the functions that the law reaches, the plain laws. -/
import Derived.Test.YtilbojaebhgenaaGEExhaustivenessIgnoresRowOrder
import GoSem.ClaimJoined
import Derived.ChangeArms
import Derived.Carry
import Derived.SizedLaws
import Derived.JoinedCond
import Derived.Deep.CondSized
import Derived.JoinedOf
import Derived.KernelRfl
set_option linter.unusedVariables false
set_option linter.unusedSimpArgs false
set_option maxRecDepth 4000
namespace Go.Abs
open Go.Proofs

theorem wrapm1 : IntKind.i64.wrap (0 - 1) = -1 := by decide
/-- What spare room holds. -/
abbrev spareR (m : Nat) : List PV := List.replicate m (PV.slice [] .full)
theorem flat_rows (rows : List Row) : flatE (rows.map rowE) = rows.map rowE := by
  induction rows with
  | nil => rfl
  | cons r rows ih => simp only [flatE, List.map_cons, List.flatten_cons] at ih ⊢; rw [ih]; rfl
theorem flat_spare (m : Nat) : flatE (spareR m) = spareR m := by
  induction m with
  | zero => rfl
  | succ m ih => simp only [spareR, flatE, List.replicate_succ, List.map_cons, List.flatten_cons] at ih ⊢; rw [ih]; rfl
theorem obel_rowsM {n m : Nat} (rows : List Row) : OBel n (.row (rows.map rowE ++ spareR m)) := fun c hc => by
  rcases List.mem_append.1 hc with h | h
  · obtain ⟨r, _, rfl⟩ := List.mem_map.1 h
    exact bel_slice_ty _ _
  · rw [(List.mem_replicate.1 h).2]; exact bel_nil0 _
theorem appM_get {rows : List Row} {k : Nat} (h : k < rows.length) (R : List PV) : (rows.map rowE ++ R)[k]? = some (rowE rows[k]) := by
  rw [List.getElem?_append_left (by simpa using h), List.getElem?_map, List.getElem?_eq_getElem h]; rfl
theorem appM_set {rows : List Row} {k : Nat} (h : k < rows.length) (r : Row) (R : List PV) : (rows.map rowE ++ R).set k (rowE r) = (rows.set k r).map rowE ++ R := by
  rw [List.set_append_left _ _ (by simpa using h), List.map_set]
/-- The first i and the last i rows have changed places. -/
def Rev (rows cur : List Row) (i : Nat) : Prop := cur.length = rows.length ∧ 2 * i ≤ rows.length ∧ ∀ k (h : k < rows.length) (h2 : k < cur.length), cur[k] = if k < i ∨ rows.length - i ≤ k then rows[rows.length - 1 - k] else rows[k]
theorem Rev.zero (rows : List Row) : Rev rows rows 0 := ⟨rfl, by omega, fun k h h2 => by rw [if_neg (by omega)]⟩
theorem Rev.done {rows cur : List Row} {i : Nat} (h : Rev rows cur i) (hi : rows.length ≤ 2 * i + 1) : cur = rows.reverse := by
  obtain ⟨h1, h0, h2⟩ := h
  refine List.ext_getElem (by simpa using h1) fun k hk1 hk2 => ?_
  rw [h2 k (by omega) hk1, List.getElem_reverse]
  split
  · rfl
  · congr 1; omega
theorem Rev.step {rows cur : List Row} {i : Nat} (h : Rev rows cur i) (hi : 2 * i + 1 < rows.length) (h1 : i < cur.length) (h2 : rows.length - 1 - i < cur.length) : Rev rows ((cur.set i cur[rows.length - 1 - i]).set (rows.length - 1 - i) cur[i]) (i + 1) := by
  obtain ⟨e1, e0, e2⟩ := h
  refine ⟨by simpa using e1, by omega, fun k hk hk2 => ?_⟩
  simp only [List.getElem_set]
  have ei := e2 i (by omega) h1
  rw [if_neg (by omega)] at ei
  have ej := e2 (rows.length - 1 - i) (by omega) h2
  rw [if_neg (by omega)] at ej
  by_cases hkj : rows.length - 1 - i = k
  · rw [if_pos hkj, ei, if_pos (by omega)]; congr 1; omega
  · rw [if_neg hkj]
    by_cases hki : i = k
    · rw [if_pos hki, ej, if_pos (by omega)]; congr 1; omega
    · rw [if_neg hki]
      have ek := e2 k hk (by omega)
      rw [ek]
      by_cases hc : k < i ∨ rows.length - i ≤ k
      · rw [if_pos hc, if_pos (by omega)]
      · rw [if_neg hc, if_neg (by omega)]

theorem cloneRow (H : Heap) (id : Nat) (xs : List Row) (hid : H[id]? = some .unborn) (hx : xs.length * 24 ≤ 2 ^ 47) : ACalls Try.prog 9 [.slice (xs.map rowE) .none] H fun r' H' => r' = .slice (xs.map rowE) (.tok id) ∧ H' = H.set id (.buf xs.length 1) := by
  have em : maxLen = 9223372036854775807 := by decide
  have happ : xs.map rowE ≠ [] → ∀ fr HH, aappend ⟨false, 1, 24⟩ fr HH (.slice [] .full) (.slice (xs.map rowE) .none) = some (.slice (xs.map rowE) (.tok fr), some (fr, .buf xs.length 1)) := fun hne fr HH => by
    have := aappend_all (i := ⟨false, 1, 24⟩) (fresh := fr) (H := HH) (tl := .none) hne (by simpa using hx) (by simp; omega) (fun e he => by obtain ⟨v, _, rfl⟩ := List.mem_map.1 he; exact ⟨rfl, rfl⟩) (by decide)
    simpa using this
  refine acalls_of (N := 8) Try.func9 rfl rfl (by simp) fun hb' => ?_
  repeat (refine awp_seq ?_)
  refine e_eval (by simp only [jA, jO, jN, seval, vint, qD] <;> with_reducible rfl) (by decide) ?_
  repeat (refine awp_seq ?_)
  refine awp_region ?_
  refine e_take 1 (by simp only [jA, jO, jN, seval, vint, qD] <;> with_reducible rfl) (by decide) ?_
  refine aops_nilcmp (es := xs.map rowE) (tl := .none) rfl (by simp only [jC, jN, seval, vint, qD] <;> rfl) rfl (by decide) (by rw [Tryte24]; rfl) (fun b hb => ?_)
  refine aops_nil ?_
  repeat (refine awp_seq ?_)
  refine awp_cond rfl (by simp only [jN, seval, vint, qD] <;> with_reducible rfl) (fun b0 => ?_) (fun b0 => ?_)
  ·
    have hxs : xs = [] := by
      cases xs with
      | nil => rfl
      | cons a l => rw [hb (by simp)] at b0; cases b0
    subst hxs
    repeat (refine awp_seq ?_)
    refine e_eval (by simp only [jA, jO, jN, seval, vint, qD] <;> with_reducible rfl) (by decide) ?_
    repeat (refine awp_seq ?_)
    refine awp_retokF id 2 1 (es := []) hid (by simp only [jC, jN, seval, vint, qD] <;> rfl) ?_
    refine awp_ret ⟨.inr rfl, _, rfl, ?_⟩
    exact ⟨rfl, rfl⟩
  ·
    repeat (refine awp_seq ?_)
    refine awp_skip ?_
    rcases Classical.em (xs = []) with hxs | hxs
    ·
      subst hxs
      repeat (refine awp_seq ?_)
      refine e_eval (by simp only [jA, jO, jN, seval, y24, y25, vint, qD, List.map_nil, aappend] <;> with_reducible rfl) (by decide) ?_
      repeat (refine awp_seq ?_)
      refine awp_retokF id 2 1 (es := []) hid (by simp only [jC, jN, seval, vint, qD] <;> rfl) ?_
      refine awp_ret ⟨.inr rfl, _, rfl, ?_⟩
      exact ⟨rfl, rfl⟩
    ·
      have ha := happ (by simpa using hxs)
      repeat (refine awp_seq ?_)
      refine awp_region ?_
      refine e_take 2 (by simp only [jA, jO, jN, seval, y24, y25, vint, qD, ha] <;> with_reducible rfl) (by decide) ?_
      refine aops_opF false id hid rfl (by decide) (v := .slice (xs.map rowE) (.tok id)) (e := some (id, .buf xs.length 1)) (by simp only [jN, seval, vint, qD, ha, aop, abuiltin, Tryti24, Tryte24] <;> rfl) rfl ?_
      refine e_end (by simp only [jA, jO, jN, seval, vint, qD, ha] <;> with_reducible rfl) (by decide) ?_
      repeat (refine awp_seq ?_)
      refine awp_ret ⟨.inr rfl, _, rfl, ?_⟩
      exact ⟨rfl, rfl⟩

theorem cloneM (rows : List Row) (hne : rows ≠ []) (hb : rows.length * 24 ≤ 2 ^ 47) : ACalls Try.prog 9 [.slice (rows.map rowE) .none] [.unborn] fun r' H' => ∃ c m, rows.length ≤ c ∧ c ≤ maxLen ∧ r' = .msl 0 0 rows.length c ∧ H' = [.row (rows.map rowE ++ spareR m)] := by
  have em : maxLen = 9223372036854775807 := by decide
  have hlen0 : rows.length = (rows.map rowE).length := by simp
  refine acalls_of (N := 8) Try.func9 rfl rfl (by simp) fun hb' => ?_
  repeat (refine awp_seq ?_)
  refine e_eval (by simp only [jA, jO, jN, seval, vint, qD] <;> with_reducible rfl) (by decide) ?_
  repeat (refine awp_seq ?_)
  refine awp_region ?_
  refine e_take 1 (by simp only [jA, jO, jN, seval, vint, qD] <;> with_reducible rfl) (by decide) ?_
  refine aops_nilcmp (es := rows.map rowE) (tl := .none) rfl (by simp only [jC, jN, seval, vint, qD] <;> rfl) rfl (by decide) (by rw [Tryte24]; rfl) (fun b hbb => ?_)
  obtain rfl : b = false := hbb (by simpa using hne)
  refine aops_nil ?_
  repeat (refine awp_seq ?_)
  refine awp_cond_false rfl (by simp only [jN, seval, vint, qD] <;> with_reducible rfl) ?_
  repeat (refine awp_seq ?_)
  refine awp_skip ?_
  repeat (refine awp_seq ?_)
  refine awp_region ?_
  refine e_take 2 (by simp only [jA, jO, jN, seval, y24, y25, vint, qD] <;> with_reducible rfl) (by decide) ?_
  refine aops_appendM 0 rfl (by simp only [jC, jN, seval, vint, qD] <;> rfl) rfl (by decide) (by decide) (xs := rows.map rowE) (tl := .none) (by simp only [jC, jN, seval, vint, qD] <;> rfl) (by simp only [jC, jN, seval, vint, qD] <;> rfl) (by simpa using hne) (by simpa using hb) (by simp; omega) (fun e he => by obtain ⟨r, _, rfl⟩ := List.mem_map.1 he; rfl) (by decide) Tryte24 (by rw [Tryte24]; rfl) Trytz25 (by rfl) ?_
  intro c rest hc hcm hrest
  rw [List.length_map] at hc
  have hrest : rest = spareR (c - (rows.map rowE).length) := by rw [hrest]; simp [PV.cells]
  subst hrest
  rw [flat_rows]
  refine e_end (by simp only [jA, jO, jN, seval, vint, qD] <;> with_reducible rfl) (by decide) ?_
  repeat (refine awp_seq ?_)
  refine awp_ret ⟨.inr rfl, _, rfl, ?_⟩
  exact ⟨c, _, hc, hcm, by simp [upd], rfl⟩

theorem reverse_c (rows : List Row) (c m : Nat) (hlm : rows.length ≤ maxLen) : ACalls Try.prog 15 [.msl 0 0 rows.length c] [.row (rows.map rowE ++ spareR m)] fun r' H' => r' = .tup [] ∧ H' = [.row (rows.reverse.map rowE ++ spareR m)] := by
  have em : maxLen = 9223372036854775807 := by decide
  have hw0 : IntKind.i64.wrap ((rows.length : Int) - 1) = (rows.length : Int) - 1 := wrap_id (by omega) (by omega)
  refine muts_raw (N := 28) Try.func15 rfl rfl (by simp) (.tup _ (by simp)) rfl (fun _ => by refine HBel.cons (obel_rowsM _) (hbel_nil _)) fun hb' => ?_
  repeat (refine awp_seq ?_)
  refine e_eval (by simp only [jA, jO, jN, seval, y3, y24, y25, vint, qD, hw0, Int.sub_zero, Int.natCast_zero, Int.ofNat_zero] <;> with_reducible rfl) (by decide) ?_
  repeat (refine awp_seq ?_)
  refine awp_block ?_
  refine awp_loopS (σ := Nat × List Row) (fun (s : Nat × List Row) => [(0, .msl 0 0 rows.length c), (2, vint (s.1 : Int)), (3, vint ((rows.length : Int) - 1 - s.1))]) ([]) (fun (s : Nat × List Row) => [.row (s.2.map rowE ++ spareR m)]) (fun (s : Nat × List Row) => rows.length - s.1) (fun (s : Nat × List Row) => Rev rows s.2 s.1) ((0, rows)) ([]) ⟨(by first | rfl | (simp only [jN, seval, vint, qD, hw0, Int.sub_zero, Int.natCast_zero, Int.ofNat_zero] <;> first | done | with_reducible rfl)), (by first | rfl | (simp only [jN, seval, vint, qD, hw0, Int.sub_zero, Int.natCast_zero, Int.ofNat_zero] <;> first | done | with_reducible rfl)), (by first | rfl | (simp only [jN, seval, vint, qD, hw0, Int.sub_zero, Int.natCast_zero, Int.ofNat_zero] <;> first | done | with_reducible rfl)), trivial⟩ (by first | rfl | (simp only [jN, seval, vint, qD, hw0, Int.sub_zero, Int.natCast_zero, Int.ofNat_zero] <;> first | done | with_reducible rfl)) (Rev.zero rows) (fun _ _ => by simp) ?_ ?_
  · exact fun s hg => ⟨by simp only [List.nil_append]; exact HBel.cons (obel_rowsM _) (hbel_nil _), .cons (.msl _ _ _ _ (by simp)) (.cons (.int _ _) (.cons (.int _ _) .nil))⟩
  · intro s hg
    obtain ⟨i, cur⟩ := s
    have hg : Rev rows cur i := hg
    have hln : cur.length = rows.length := hg.1
    have hg0 : 2 * i ≤ rows.length := hg.2.1
    have hwi : IntKind.i64.wrap ((i : Int) + 1) = ((i + 1 : Nat) : Int) := by rw [wrap_id (by omega) (by omega)]; omega
    have hwj : IntKind.i64.wrap ((rows.length : Int) - 1 - (i : Int) - 1) = (rows.length : Int) - 1 - ((i + 1 : Nat) : Int) := by rw [wrap_id (by omega) (by omega)]; omega
    repeat (refine awp_seq ?_)
    refine e_eval (by simp only [jA, jO, jN, seval, y3, vint, qD, hw0, Int.sub_zero, Int.natCast_zero, Int.ofNat_zero, hwi, hwj] <;> with_reducible rfl) (by decide) ?_
    repeat (refine awp_seq ?_)
    refine awp_cond rfl (by simp only [jN, seval, vint, qD, hw0, Int.sub_zero, Int.natCast_zero, Int.ofNat_zero, hwi, hwj] <;> with_reducible rfl) (fun bt9 => ?_) (fun bt9 => ?_)
    ·
      have hij : 2 * i + 1 < rows.length := by simp at bt9; omega
      have hi1 : i < cur.length := by omega
      have hj1 : rows.length - 1 - i < cur.length := by omega
      obtain ⟨j, hj⟩ : ∃ j, rows.length - 1 - i = j := ⟨_, rfl⟩
      have hst := hg.step hij hi1 hj1
      have hje : (rows.length : Int) - 1 - (i : Int) = (j : Int) := by omega
      simp only [hj] at hst hj1
      have hwj2 : IntKind.i64.wrap ((j : Int) - 1) = (rows.length : Int) - 1 - ((i + 1 : Nat) : Int) := by rw [wrap_id (by omega) (by omega)]; omega
      have gi := appM_get hi1 (spareR m)
      have gj := appM_get hj1 (spareR m)
      have si := fun r => appM_set hi1 r (spareR m)
      have sj := fun q r => appM_set (rows := cur.set i q) (k := j) (by simpa using hj1) r (spareR m)
      obtain ⟨ri, hri⟩ : ∃ r, cur[i] = r := ⟨_, rfl⟩
      obtain ⟨rj, hrj⟩ : ∃ r, cur[j] = r := ⟨_, rfl⟩
      rw [hri] at gi
      rw [hrj] at gj
      rw [hri, hrj] at hst
      have n1 : ((0 : Int) ≤ i ∧ (i : Int) < rows.length) = True := by simp; omega
      have n2 : ((0 : Int) ≤ j ∧ (j : Int) < rows.length) = True := by simp; omega
      have n3 : (i + 1 ≤ rows.length + m) = True := eq_true (by omega)
      have n4 : (j + 1 ≤ rows.length + m) = True := eq_true (by omega)
      repeat (refine awp_seq ?_)
      refine awp_skip ?_
      repeat (refine awp_seq ?_)
      refine awp_block ?_
      repeat (refine awp_seq ?_)
      refine awp_draw 0 (by kernel_rfl) ?_
      refine d_take (bm := [0, 0, 0, 0, 0, 0, 48, 112, 0, 0, 768, 1792, 4083, 8179, 16383, 32767]) 10 (fresh := (1)) (by kernel_rfl) (by simp only [jD, jO, jN, seval, y24, y25, y42, vint, qD, hw0, Int.sub_zero, Int.natCast_zero, Int.ofNat_zero, hwi, hwj, hje, n1, n2, n3, n4, gi, gj, si, sj, hln, List.length_set, List.length_append, List.length_map, List.length_replicate, Int.toNat_natCast, Nat.zero_add, Nat.mul_one] <;> with_reducible rfl) (by decide) (by decide) ?_
      refine d_end (bm := [0, 0, 0, 0, 0, 0, 48, 112, 0, 0, 768, 1792, 4083, 8179, 16383, 32767]) (fresh := (1)) (by kernel_rfl) (by simp only [jD, jO, jN, seval, y24, y25, y42, vint, qD, hw0, Int.sub_zero, Int.natCast_zero, Int.ofNat_zero, hwi, hwj, hje, n1, n2, n3, n4, gi, gj, si, sj, hln, List.length_set, List.length_append, List.length_map, List.length_replicate, Int.toNat_natCast, Nat.zero_add, Nat.mul_one] <;> with_reducible rfl) (by decide) ?_
      refine awp_sel [0, 2, 3] (by simp only [jN, seval, vint, qD, hw0, Int.sub_zero, Int.natCast_zero, Int.ofNat_zero, hwi, hwj] <;> with_reducible rfl) ?_
      repeat (refine awp_seq ?_)
      refine e_eval (by simp only [jA, jO, jN, seval, y3, vint, qD, hw0, Int.sub_zero, Int.natCast_zero, Int.ofNat_zero, hwi, hwj, hwj2] <;> with_reducible rfl) (by decide) ?_
      try simp only [thenQ, blockQ]
      exact ⟨(i + 1, (cur.set i rj).set j ri), _, by show rows.length - (i + 1) < rows.length - i; omega, ⟨rfl, rfl, rfl, trivial⟩, by simp only [jN, seval, vint, qD] <;> rfl, hst⟩
    ·
      have hij : rows.length ≤ 2 * i + 1 := by simp at bt9; omega
      have hrv := hg.done hij
      subst hrv
      repeat (refine awp_seq ?_)
      refine awp_exit ?_
      simp only [thenQ, blockQ, reduceIte, Nat.reduceEqDiff, Nat.succ_ne_self, if_true, if_false]
      refine ⟨by first | exact .inl rfl | exact .inl trivial | trivial, .tup [], [], rfl, rfl, ?_⟩
      simp only [jN, seval, vint, qD]
      try rfl

theorem reverse_nil : PC Try.prog 15 [.slice [] .none] (.tup []) := by
  refine pc_of (N := 28) Try.func15 rfl rfl (by simp) (by simp [bel_nil1]) (.tup _ (by simp)) ?_
  repeat (refine awp_seq ?_)
  refine e_eval (by simp only [jA, jO, jN, seval, y3, y24, y25, vint, qD, List.length_nil, wrapm1, Int.natCast_zero, Int.ofNat_zero] <;> with_reducible rfl) (by decide) ?_
  repeat (refine awp_seq ?_)
  refine awp_block ?_
  refine awp_loopS (σ := Unit) (fun (u_ : Unit) => [(0, .slice [] .none), (2, vint 0), (3, vint (-1))]) ([]) (fun (u_ : Unit) => []) (fun (u_ : Unit) => 0) (fun (u_ : Unit) => True) (()) ([]) ⟨(by first | rfl | (simp only [jN, seval, vint, qD, List.length_nil, wrapm1, Int.natCast_zero, Int.ofNat_zero] <;> first | done | with_reducible rfl)), (by first | rfl | (simp only [jN, seval, vint, qD, List.length_nil, wrapm1, Int.natCast_zero, Int.ofNat_zero] <;> first | done | with_reducible rfl)), (by first | rfl | (simp only [jN, seval, vint, qD, List.length_nil, wrapm1, Int.natCast_zero, Int.ofNat_zero] <;> first | done | with_reducible rfl)), trivial⟩ (by first | rfl | (simp only [jN, seval, vint, qD, List.length_nil, wrapm1, Int.natCast_zero, Int.ofNat_zero] <;> first | done | with_reducible rfl)) (by simp) (fun _ _ => by first | exact Nat.zero_le _ | (simp only [List.length_append]; omega)) ?_ ?_
  · exact fun u_ hg => ⟨hbel_nil _, .cons (bel_nil1 _) (.cons (.int _ _) (.cons (.int _ _) .nil))⟩
  · intro u_ hg
    repeat (refine awp_seq ?_)
    refine e_eval (by simp only [jA, jO, jN, seval, y3, vint, qD, List.length_nil, wrapm1, Int.natCast_zero, Int.ofNat_zero] <;> with_reducible rfl) (by decide) ?_
    repeat (refine awp_seq ?_)
    refine awp_cond_false rfl (by simp only [jN, seval, vint, qD, List.length_nil, wrapm1, Int.natCast_zero, Int.ofNat_zero] <;> with_reducible rfl) ?_
    repeat (refine awp_seq ?_)
    refine awp_exit ?_
    simp only [thenQ, blockQ, reduceIte, Nat.reduceEqDiff, Nat.succ_ne_self, if_true, if_false]
    refine ⟨by first | exact .inl rfl | exact .inl trivial | trivial, .tup [], rfl, ?_⟩
    rfl

theorem law_order_nil (ds : List Dm) (cols : List Int) (rows : List Row) (hx : XIn ds cols rows) (hr : rows = []) : PC Try.prog 5 [.slice (ds.map Dm.enc) .none, .slice (cols.map vint) .none, .slice (rows.map rowE) .none] (.bool true) := by
  have em : maxLen = 9223372036854775807 := by decide
  have hxr := xin_rev hx
  have hrm := hx.r.max
  have hbl := hx.r.len
  obtain ⟨m0, hm0⟩ : ∃ mo, missF ds cols rows = mo := ⟨_, rfl⟩
  have hc0 := missing_c ds cols rows hx
  rw [hm0] at hc0
  unfold missE at hc0
  obtain ⟨m1, hm1⟩ : ∃ mo, missF ds cols rows.reverse = mo := ⟨_, rfl⟩
  have hc1 := missing_c ds cols rows.reverse hxr
  rw [hm1] at hc1
  unfold missE at hc1
  have hval := validate ds cols rows hx.w hx.c hx.r
  obtain ⟨nv, hnv⟩ : ∃ n, validM ds cols rows = n := ⟨_, rfl⟩
  rw [hnv] at hval
  have hz : ¬ nv = 0 → m0 = none ∧ m1 = none := fun h => ⟨by rw [← hm0]; unfold missF; rw [if_neg (by rw [hnv]; exact h)], by rw [← hm1]; unfold missF; rw [if_neg (by rw [rev_valid, hnv]; exact h)]⟩
  subst hr
  have hcl := cloneRow [.unborn] 0 [] rfl (by simp)
  simp only [List.map_nil, List.reverse_nil] at hc0 hc1 hval hcl
  refine pc_of (N := 55) Try.func5 rfl rfl (by simp) (by simp [bel_nil1, Ty.bel, bel_slice_ty, bel_ints0, bel_Dv, bel_Dm, Dv.bel, Dm.bel, bel_Row, Bel.int, bel_mE]) (.bool _) ?_
  repeat (refine awp_seq ?_)
  refine e_eval (by simp only [jA, jO, jN, seval, vint, qD] <;> with_reducible rfl) (by decide) ?_
  repeat (refine awp_seq ?_)
  refine awp_region ?_
  refine aops_pure (by simp only [jC, jN, seval, vint, qD] <;> with_reducible rfl) (by simp only [jC, jN, seval, vint, qD]) (by decide) Trygo8 (exWorkK _) ?_
  refine e_end (by simp only [jA, jO, jN, seval, vint, qD] <;> with_reducible rfl) (by decide) ?_
  repeat (refine awp_seq ?_)
  refine awp_cond_false rfl (by simp only [jN, seval, vint, qD] <;> with_reducible rfl) ?_
  repeat (refine awp_seq ?_)
  refine awp_skip ?_
  repeat (refine awp_seq ?_)
  refine awp_ext ?_
  refine awp_region ?_
  refine e_take 1 (by simp only [jA, jO, jN, seval, vint, qD] <;> with_reducible rfl) (by decide) ?_
  refine aops_acall (by simp only [jC, jN, seval, vint, qD] <;> with_reducible rfl) (by simp only [jC, jN, seval, vint, qD]) (by decide) Trygo9 (hcl) ?_
  rintro _ _ ⟨rfl, rfl⟩
  refine e_end (by simp only [jA, jO, jN, seval, vint, qD] <;> with_reducible rfl) (by decide) ?_
  repeat (refine awp_seq ?_)
  refine awp_region ?_
  refine e_take 1 (by simp only [jA, jO, jN, seval, vint, qD] <;> with_reducible rfl) (by decide) ?_
  refine aops_pure (by simp only [jC, jN, seval, vint, qD] <;> with_reducible rfl) (by simp only [jC, jN, seval, vint, qD]) (by decide) Trygo15 (reverse_nil _) ?_
  refine aops_nil ?_
  repeat (refine awp_seq ?_)
  refine awp_region ?_
  refine e_take 3 (by simp only [jA, jO, jN, seval, vint, qD] <;> with_reducible rfl) (by decide) ?_
  refine aops_pure (by simp only [jC, jN, seval, vint, qD] <;> with_reducible rfl) (by simp only [jC, jN, seval, vint, qD]) (by decide) Trygo12 (hc0 _) ?_
  refine e_end (by simp only [jA, jO, jN, seval, vint, qD] <;> with_reducible rfl) (by decide) ?_
  refine awp_sel [0, 1, 2, 7, 9] (by simp only [jN, seval, vint, qD] <;> with_reducible rfl) ?_
  repeat (refine awp_seq ?_)
  refine awp_region ?_
  refine e_take 3 (by simp only [jA, jO, jN, seval, vint, qD] <;> with_reducible rfl) (by decide) ?_
  refine aops_pure (by simp only [jC, jN, seval, vint, qD] <;> with_reducible rfl) (by simp only [jC, jN, seval, vint, qD]) (by decide) Trygo12 (hc1 _) ?_
  refine e_end (by simp only [jA, jO, jN, seval, vint, qD] <;> with_reducible rfl) (by decide) ?_
  rcases Classical.em (nv = 0) with hv0 | hv0
  ·
    have hv := hnv.trans hv0
    have hd0 : decide (nv = 0) = true := decide_eq_true hv0
    obtain ⟨D, M⟩ := hx.min hv
    have hai := allInh ds hx.w D.d.fld
    repeat (refine awp_seq ?_)
    refine awp_region ?_
    refine aops_gstart ?_
    refine aops_gpure (by simp only [jE, jN, seval, vint, qD, hd0, Bool.not_true, Bool.false_or, Bool.or_false, Bool.not_false] <;> with_reducible rfl) (by simp only [jE, jN, seval, vint, qD, hd0, Bool.not_true, Bool.false_or, Bool.or_false, Bool.not_false] <;> with_reducible rfl) (by simp only [jE, jN, seval, vint, qD, hd0, Bool.not_true, Bool.false_or, Bool.or_false, Bool.not_false]) (by decide) Trygo8 (fun hc => exWorkK _) ?_
    refine g_take 5 (by simp only [jG, jO, jN, seval, vint, qD, hd0, Bool.not_true, Bool.false_or, Bool.or_false, Bool.not_false] <;> with_reducible rfl) (by decide) ?_
    refine aops_gpure (by simp only [jE, jN, seval, vint, qD, hd0, Bool.not_true, Bool.false_or, Bool.or_false, Bool.not_false] <;> with_reducible rfl) (by simp only [jE, jN, seval, vint, qD, hd0, Bool.not_true, Bool.false_or, Bool.or_false, Bool.not_false] <;> with_reducible rfl) (by simp only [jE, jN, seval, vint, qD, hd0, Bool.not_true, Bool.false_or, Bool.or_false, Bool.not_false]) (by decide) Trygo10 (fun hc => hval _) ?_
    refine g_end (by simp only [jG, jO, jN, seval, y28, vint, qD, hd0, Bool.not_true, Bool.false_or, Bool.or_false, Bool.not_false] <;> with_reducible rfl) (by decide) (by repeat (first | exact Fin.base _ | with_reducible apply Fin.keep | apply Fin.drop)) ?_
    repeat (refine awp_seq ?_)
    refine awp_cond_false rfl (by simp only [jN, seval, vint, qD, hd0, Bool.not_true, Bool.false_or, Bool.or_false, Bool.not_false] <;> with_reducible rfl) ?_
    repeat (refine awp_seq ?_)
    refine awp_skip ?_
    refine awp_sel [0, 9, 11] (by simp only [jN, seval, vint, qD, hd0, Bool.not_true, Bool.false_or, Bool.or_false, Bool.not_false] <;> with_reducible rfl) ?_
    repeat (refine awp_seq ?_)
    refine awp_region ?_
    refine aops_gstart ?_
    refine g_take 5 (by simp only [jG, jO, jN, seval, y4, vint, qD, hd0, Bool.not_true, Bool.false_or, Bool.or_false, Bool.not_false] <;> with_reducible rfl) (by decide) ?_
    refine aops_gpure (by simp only [jE, jN, seval, vint, qD, hd0, Bool.not_true, Bool.false_or, Bool.or_false, Bool.not_false] <;> with_reducible rfl) (by simp only [jE, jN, seval, vint, qD, hd0, Bool.not_true, Bool.false_or, Bool.or_false, Bool.not_false] <;> with_reducible rfl) (by simp only [jE, jN, seval, vint, qD, hd0, Bool.not_true, Bool.false_or, Bool.or_false, Bool.not_false]) (by decide) Trygo11 (fun hc => hai _) ?_
    refine g_end (by simp only [jG, jO, jN, seval, vint, qD, hd0, Bool.not_true, Bool.false_or, Bool.or_false, Bool.not_false] <;> with_reducible rfl) (by decide) (by repeat (first | exact Fin.base _ | with_reducible apply Fin.keep | apply Fin.drop)) ?_
    repeat (refine awp_seq ?_)
    refine awp_ret ⟨.inr rfl, _, rfl, ?_⟩
    simp only [jN, seval, vint, qD]
    refine congrArg PV.bool ?_
    have hq : inhM ds = true → m0.isSome = m1.isSome := fun h => by rw [← hm0, ← hm1]; exact rev_miss hv (inh_ok D.d D.u h)
    cases h : inhM ds
    · simp
    · rw [hq h]; simp
  ·
    have hd0 : decide (nv = 0) = false := decide_eq_false hv0
    obtain ⟨h0, h1⟩ := hz hv0
    subst h0
    subst h1
    repeat (refine awp_seq ?_)
    refine awp_region ?_
    refine aops_gstart ?_
    refine aops_gpure (by simp only [jE, jN, seval, vint, qD, hd0, Bool.not_false, Bool.true_or, Bool.or_true, Option.isSome_none, Option.getD_none] <;> with_reducible rfl) (by simp only [jE, jN, seval, vint, qD, hd0, Bool.not_false, Bool.true_or, Bool.or_true, Option.isSome_none, Option.getD_none] <;> with_reducible rfl) (by simp only [jE, jN, seval, vint, qD, hd0, Bool.not_false, Bool.true_or, Bool.or_true, Option.isSome_none, Option.getD_none]) (by decide) Trygo8 (fun hc => exWorkK _) ?_
    refine g_take 5 (by simp only [jG, jO, jN, seval, vint, qD, hd0, Bool.not_false, Bool.true_or, Bool.or_true, Option.isSome_none, Option.getD_none] <;> with_reducible rfl) (by decide) ?_
    refine aops_gpure (by simp only [jE, jN, seval, vint, qD, hd0, Bool.not_false, Bool.true_or, Bool.or_true, Option.isSome_none, Option.getD_none] <;> with_reducible rfl) (by simp only [jE, jN, seval, vint, qD, hd0, Bool.not_false, Bool.true_or, Bool.or_true, Option.isSome_none, Option.getD_none] <;> with_reducible rfl) (by simp only [jE, jN, seval, vint, qD, hd0, Bool.not_false, Bool.true_or, Bool.or_true, Option.isSome_none, Option.getD_none]) (by decide) Trygo10 (fun hc => hval _) ?_
    refine g_end (by simp only [jG, jO, jN, seval, y28, vint, qD, hd0, Bool.not_false, Bool.true_or, Bool.or_true, Option.isSome_none, Option.getD_none] <;> with_reducible rfl) (by decide) (by repeat (first | exact Fin.base _ | with_reducible apply Fin.keep | apply Fin.drop)) ?_
    repeat (refine awp_seq ?_)
    refine awp_cond_true rfl (by simp only [jN, seval, vint, qD, hd0, Bool.not_false, Bool.true_or, Bool.or_true, Option.isSome_none, Option.getD_none] <;> with_reducible rfl) ?_
    refine awp_sel [9, 11] (by simp only [jN, seval, vint, qD, hd0, Bool.not_false, Bool.true_or, Bool.or_true, Option.isSome_none, Option.getD_none] <;> with_reducible rfl) ?_
    repeat (refine awp_seq ?_)
    refine awp_region ?_
    refine aops_gstart ?_
    refine aops_gpure (by simp only [jE, jN, seval, vint, qD, hd0, Bool.not_false, Bool.true_or, Bool.or_true, Option.isSome_none, Option.getD_none] <;> with_reducible rfl) (by simp only [jE, jN, seval, vint, qD, hd0, Bool.not_false, Bool.true_or, Bool.or_true, Option.isSome_none, Option.getD_none] <;> with_reducible rfl) (by simp only [jE, jN, seval, vint, qD, hd0, Bool.not_false, Bool.true_or, Bool.or_true, Option.isSome_none, Option.getD_none]) (by decide) Trygo8 (fun hc => exWorkK _) ?_
    refine g_end (by simp only [jG, jO, jN, seval, y4, vint, qD, hd0, Bool.not_false, Bool.true_or, Bool.or_true, Option.isSome_none, Option.getD_none] <;> with_reducible rfl) (by decide) (by repeat (first | exact Fin.base _ | with_reducible apply Fin.keep | apply Fin.drop)) ?_
    repeat (refine awp_seq ?_)
    refine awp_ret ⟨.inr rfl, _, rfl, ?_⟩
    simp only [jN, seval, vint, qD]
    try rfl

theorem law_order_ne (ds : List Dm) (cols : List Int) (rows : List Row) (hx : XIn ds cols rows) (hr : rows ≠ []) : PC Try.prog 5 [.slice (ds.map Dm.enc) .none, .slice (cols.map vint) .none, .slice (rows.map rowE) .none] (.bool true) := by
  have em : maxLen = 9223372036854775807 := by decide
  have hxr := xin_rev hx
  have hrm := hx.r.max
  have hbl := hx.r.len
  obtain ⟨m0, hm0⟩ : ∃ mo, missF ds cols rows = mo := ⟨_, rfl⟩
  have hc0 := missing_c ds cols rows hx
  rw [hm0] at hc0
  unfold missE at hc0
  obtain ⟨m1, hm1⟩ : ∃ mo, missF ds cols rows.reverse = mo := ⟨_, rfl⟩
  have hc1 := missing_c ds cols rows.reverse hxr
  rw [hm1] at hc1
  unfold missE at hc1
  have hval := validate ds cols rows hx.w hx.c hx.r
  obtain ⟨nv, hnv⟩ : ∃ n, validM ds cols rows = n := ⟨_, rfl⟩
  rw [hnv] at hval
  have hz : ¬ nv = 0 → m0 = none ∧ m1 = none := fun h => ⟨by rw [← hm0]; unfold missF; rw [if_neg (by rw [hnv]; exact h)], by rw [← hm1]; unfold missF; rw [if_neg (by rw [rev_valid, hnv]; exact h)]⟩
  refine pc_of (N := 55) Try.func5 rfl rfl (by simp) (by simp [bel_nil1, Ty.bel, bel_slice_ty, bel_ints0, bel_Dv, bel_Dm, Dv.bel, Dm.bel, bel_Row, Bel.int, bel_mE]) (.bool _) ?_
  repeat (refine awp_seq ?_)
  refine e_eval (by simp only [jA, jO, jN, seval, vint, qD] <;> with_reducible rfl) (by decide) ?_
  repeat (refine awp_seq ?_)
  refine awp_region ?_
  refine aops_pure (by simp only [jC, jN, seval, vint, qD] <;> with_reducible rfl) (by simp only [jC, jN, seval, vint, qD]) (by decide) Trygo8 (exWorkK _) ?_
  refine e_end (by simp only [jA, jO, jN, seval, vint, qD] <;> with_reducible rfl) (by decide) ?_
  repeat (refine awp_seq ?_)
  refine awp_cond_false rfl (by simp only [jN, seval, vint, qD] <;> with_reducible rfl) ?_
  repeat (refine awp_seq ?_)
  refine awp_skip ?_
  repeat (refine awp_seq ?_)
  refine awp_ext ?_
  refine awp_region ?_
  refine e_take 1 (by simp only [jA, jO, jN, seval, vint, qD] <;> with_reducible rfl) (by decide) ?_
  refine aops_acall (by simp only [jC, jN, seval, vint, qD] <;> with_reducible rfl) (by simp only [jC, jN, seval, vint, qD] <;> rfl) (by decide) Trygo9 (cloneM rows hr hbl) ?_
  rintro _ _ ⟨c, m, hcc, hcm, rfl, rfl⟩
  refine e_end (by simp only [jA, jO, jN, seval, vint, qD] <;> with_reducible rfl) (by decide) ?_
  repeat (refine awp_seq ?_)
  refine awp_region ?_
  refine e_take 1 (by simp only [jA, jO, jN, seval, vint, qD] <;> with_reducible rfl) (by decide) ?_
  refine aops_acall (by simp only [jC, jN, seval, vint, qD] <;> with_reducible rfl) (by simp only [jC, jN, seval, vint, qD]) (by decide) Trygo15 (reverse_c rows c m hrm) ?_
  rintro _ _ ⟨rfl, rfl⟩
  refine aops_nil ?_
  repeat (refine awp_seq ?_)
  refine awp_freeze (H1 := []) [(0, .slice (ds.map Dm.enc) .none), (1, .slice (cols.map vint) .none), (2, .slice (rows.map rowE) .none), (7, .slice (rows.reverse.map rowE) .none)] ⟨.inl ⟨rfl, bel_Dm _ _⟩, .inl ⟨rfl, bel_ints0 _ _⟩, .inl ⟨rfl, bel_Row _ _⟩, .inr ⟨0, rows.length, c, 1, rows.reverse.map rowE ++ spareR m, rfl, Nat.zero_le _, ?_, by simp, hcc, ?_, ?_, ?_⟩, trivial⟩ rfl (Nat.le_refl _) (hbel_nil _) ?_
  · simp only [flatE_append, flat_rows, flat_spare]; rfl
  · intro e he
    rcases List.mem_append.1 he with h | h
    · obtain ⟨r, _, rfl⟩ := List.mem_map.1 h; rfl
    · rw [(List.mem_replicate.1 h).2]; rfl
  · intro e he z hz
    rcases List.mem_append.1 he with h | h
    · obtain ⟨r, _, rfl⟩ := List.mem_map.1 h
      simp [PV.cells] at hz; subst hz; exact bel_slice_ty _ _
    · rw [(List.mem_replicate.1 h).2] at hz
      simp [PV.cells] at hz; subst hz; exact bel_nil0 _
  · rw [List.take_append_of_le_length (by simp), List.take_of_length_le (by simp)]
  refine awp_region ?_
  refine e_take 3 (by simp only [jA, jO, jN, seval, vint, qD] <;> with_reducible rfl) (by decide) ?_
  refine aops_pure (by simp only [jC, jN, seval, vint, qD] <;> with_reducible rfl) (by simp only [jC, jN, seval, vint, qD]) (by decide) Trygo12 (hc0 _) ?_
  refine e_end (by simp only [jA, jO, jN, seval, vint, qD] <;> with_reducible rfl) (by decide) ?_
  refine awp_sel [0, 1, 2, 7, 9] (by simp only [jN, seval, vint, qD] <;> with_reducible rfl) ?_
  repeat (refine awp_seq ?_)
  refine awp_region ?_
  refine e_take 3 (by simp only [jA, jO, jN, seval, vint, qD] <;> with_reducible rfl) (by decide) ?_
  refine aops_pure (by simp only [jC, jN, seval, vint, qD] <;> with_reducible rfl) (by simp only [jC, jN, seval, vint, qD]) (by decide) Trygo12 (hc1 _) ?_
  refine e_end (by simp only [jA, jO, jN, seval, vint, qD] <;> with_reducible rfl) (by decide) ?_
  rcases Classical.em (nv = 0) with hv0 | hv0
  ·
    have hv := hnv.trans hv0
    have hd0 : decide (nv = 0) = true := decide_eq_true hv0
    obtain ⟨D, M⟩ := hx.min hv
    have hai := allInh ds hx.w D.d.fld
    repeat (refine awp_seq ?_)
    refine awp_region ?_
    refine aops_gstart ?_
    refine aops_gpure (by simp only [jE, jN, seval, vint, qD, hd0, Bool.not_true, Bool.false_or, Bool.or_false, Bool.not_false] <;> with_reducible rfl) (by simp only [jE, jN, seval, vint, qD, hd0, Bool.not_true, Bool.false_or, Bool.or_false, Bool.not_false] <;> with_reducible rfl) (by simp only [jE, jN, seval, vint, qD, hd0, Bool.not_true, Bool.false_or, Bool.or_false, Bool.not_false]) (by decide) Trygo8 (fun hc => exWorkK _) ?_
    refine g_take 5 (by simp only [jG, jO, jN, seval, vint, qD, hd0, Bool.not_true, Bool.false_or, Bool.or_false, Bool.not_false] <;> with_reducible rfl) (by decide) ?_
    refine aops_gpure (by simp only [jE, jN, seval, vint, qD, hd0, Bool.not_true, Bool.false_or, Bool.or_false, Bool.not_false] <;> with_reducible rfl) (by simp only [jE, jN, seval, vint, qD, hd0, Bool.not_true, Bool.false_or, Bool.or_false, Bool.not_false] <;> with_reducible rfl) (by simp only [jE, jN, seval, vint, qD, hd0, Bool.not_true, Bool.false_or, Bool.or_false, Bool.not_false]) (by decide) Trygo10 (fun hc => hval _) ?_
    refine g_end (by simp only [jG, jO, jN, seval, y28, vint, qD, hd0, Bool.not_true, Bool.false_or, Bool.or_false, Bool.not_false] <;> with_reducible rfl) (by decide) (by repeat (first | exact Fin.base _ | with_reducible apply Fin.keep | apply Fin.drop)) ?_
    repeat (refine awp_seq ?_)
    refine awp_cond_false rfl (by simp only [jN, seval, vint, qD, hd0, Bool.not_true, Bool.false_or, Bool.or_false, Bool.not_false] <;> with_reducible rfl) ?_
    repeat (refine awp_seq ?_)
    refine awp_skip ?_
    refine awp_sel [0, 9, 11] (by simp only [jN, seval, vint, qD, hd0, Bool.not_true, Bool.false_or, Bool.or_false, Bool.not_false] <;> with_reducible rfl) ?_
    repeat (refine awp_seq ?_)
    refine awp_region ?_
    refine aops_gstart ?_
    refine g_take 5 (by simp only [jG, jO, jN, seval, y4, vint, qD, hd0, Bool.not_true, Bool.false_or, Bool.or_false, Bool.not_false] <;> with_reducible rfl) (by decide) ?_
    refine aops_gpure (by simp only [jE, jN, seval, vint, qD, hd0, Bool.not_true, Bool.false_or, Bool.or_false, Bool.not_false] <;> with_reducible rfl) (by simp only [jE, jN, seval, vint, qD, hd0, Bool.not_true, Bool.false_or, Bool.or_false, Bool.not_false] <;> with_reducible rfl) (by simp only [jE, jN, seval, vint, qD, hd0, Bool.not_true, Bool.false_or, Bool.or_false, Bool.not_false]) (by decide) Trygo11 (fun hc => hai _) ?_
    refine g_end (by simp only [jG, jO, jN, seval, vint, qD, hd0, Bool.not_true, Bool.false_or, Bool.or_false, Bool.not_false] <;> with_reducible rfl) (by decide) (by repeat (first | exact Fin.base _ | with_reducible apply Fin.keep | apply Fin.drop)) ?_
    repeat (refine awp_seq ?_)
    refine awp_ret ⟨.inr rfl, _, rfl, ?_⟩
    simp only [jN, seval, vint, qD]
    refine congrArg PV.bool ?_
    have hq : inhM ds = true → m0.isSome = m1.isSome := fun h => by rw [← hm0, ← hm1]; exact rev_miss hv (inh_ok D.d D.u h)
    cases h : inhM ds
    · simp
    · rw [hq h]; simp
  ·
    have hd0 : decide (nv = 0) = false := decide_eq_false hv0
    obtain ⟨h0, h1⟩ := hz hv0
    subst h0
    subst h1
    repeat (refine awp_seq ?_)
    refine awp_region ?_
    refine aops_gstart ?_
    refine aops_gpure (by simp only [jE, jN, seval, vint, qD, hd0, Bool.not_false, Bool.true_or, Bool.or_true, Option.isSome_none, Option.getD_none] <;> with_reducible rfl) (by simp only [jE, jN, seval, vint, qD, hd0, Bool.not_false, Bool.true_or, Bool.or_true, Option.isSome_none, Option.getD_none] <;> with_reducible rfl) (by simp only [jE, jN, seval, vint, qD, hd0, Bool.not_false, Bool.true_or, Bool.or_true, Option.isSome_none, Option.getD_none]) (by decide) Trygo8 (fun hc => exWorkK _) ?_
    refine g_take 5 (by simp only [jG, jO, jN, seval, vint, qD, hd0, Bool.not_false, Bool.true_or, Bool.or_true, Option.isSome_none, Option.getD_none] <;> with_reducible rfl) (by decide) ?_
    refine aops_gpure (by simp only [jE, jN, seval, vint, qD, hd0, Bool.not_false, Bool.true_or, Bool.or_true, Option.isSome_none, Option.getD_none] <;> with_reducible rfl) (by simp only [jE, jN, seval, vint, qD, hd0, Bool.not_false, Bool.true_or, Bool.or_true, Option.isSome_none, Option.getD_none] <;> with_reducible rfl) (by simp only [jE, jN, seval, vint, qD, hd0, Bool.not_false, Bool.true_or, Bool.or_true, Option.isSome_none, Option.getD_none]) (by decide) Trygo10 (fun hc => hval _) ?_
    refine g_end (by simp only [jG, jO, jN, seval, y28, vint, qD, hd0, Bool.not_false, Bool.true_or, Bool.or_true, Option.isSome_none, Option.getD_none] <;> with_reducible rfl) (by decide) (by repeat (first | exact Fin.base _ | with_reducible apply Fin.keep | apply Fin.drop)) ?_
    repeat (refine awp_seq ?_)
    refine awp_cond_true rfl (by simp only [jN, seval, vint, qD, hd0, Bool.not_false, Bool.true_or, Bool.or_true, Option.isSome_none, Option.getD_none] <;> with_reducible rfl) ?_
    refine awp_sel [9, 11] (by simp only [jN, seval, vint, qD, hd0, Bool.not_false, Bool.true_or, Bool.or_true, Option.isSome_none, Option.getD_none] <;> with_reducible rfl) ?_
    repeat (refine awp_seq ?_)
    refine awp_region ?_
    refine aops_gstart ?_
    refine aops_gpure (by simp only [jE, jN, seval, vint, qD, hd0, Bool.not_false, Bool.true_or, Bool.or_true, Option.isSome_none, Option.getD_none] <;> with_reducible rfl) (by simp only [jE, jN, seval, vint, qD, hd0, Bool.not_false, Bool.true_or, Bool.or_true, Option.isSome_none, Option.getD_none] <;> with_reducible rfl) (by simp only [jE, jN, seval, vint, qD, hd0, Bool.not_false, Bool.true_or, Bool.or_true, Option.isSome_none, Option.getD_none]) (by decide) Trygo8 (fun hc => exWorkK _) ?_
    refine g_end (by simp only [jG, jO, jN, seval, y4, vint, qD, hd0, Bool.not_false, Bool.true_or, Bool.or_true, Option.isSome_none, Option.getD_none] <;> with_reducible rfl) (by decide) (by repeat (first | exact Fin.base _ | with_reducible apply Fin.keep | apply Fin.drop)) ?_
    repeat (refine awp_seq ?_)
    refine awp_ret ⟨.inr rfl, _, rfl, ?_⟩
    simp only [jN, seval, vint, qD]
    try rfl

theorem law_order (ds : List Dm) (cols : List Int) (rows : List Row) (hx : XIn ds cols rows) : PC Try.prog 5 [.slice (ds.map Dm.enc) .none, .slice (cols.map vint) .none, .slice (rows.map rowE) .none] (.bool true) := by
  by_cases hr : rows = []
  · exact law_order_nil ds cols rows hx hr
  · exact law_order_ne ds cols rows hx hr

end Go.Abs
namespace Go.Abs

/-! From a reading of the arguments to the trees, and back. -/

/-- A world as it is handed to a call: all that lies in it stays. -/
def env0 (W : World) : Env := { w := W, κ := fun _ => .fixed, ρ := fun _ => 0, tb := fun _ => none, H := [] }
theorem env0_ok (W : World) : (env0 W).Ok := by
  constructor
  · intro id cs h; simp [env0] at h
  · intro id n sz b h; simp [env0] at h
  · intro id id' cs cs' h; simp [env0] at h
  · intro id id' n sz n' sz' b h; simp [env0] at h
theorem env0_cell (W : World) (a : Addr) : (env0 W).view.cell a = W.cell? a := rfl

theorem calls_of_pc {P : Program} {f : FuncId} {args : List PV} {b : Bool} (h : PC P f args (.bool b)) (W : World) (vargs : Array Value) (hr : RL (env0 W).view vargs args) :
    Calls P f vargs W fun e w' => e = .returned (.bool b) ∧ Go.RowKit.Below W.heap.size W w' := by
  refine (h [] (env0 W) vargs (env0_ok W) rfl hr).mono ?_
  rintro e w' ⟨E', v, r, rfl, rfl, hle, hok, hv, rfl, _⟩
  refine ⟨by rw [hv.bool_inv], hle.os, hle.tape, hle.output, hle.size, fun k hk => (hle.other k hk ?_ ?_).2⟩
  · rintro ⟨id, cs, h, _⟩; simp [env0] at h
  · rintro ⟨id, n, sz, h, _⟩; simp [env0] at h

def RLl (V : View) (cs : List Value) (ps : List PV) : Prop := cs.length = ps.length ∧ ∀ i (h : i < ps.length), VRel V (cs.getD i undef) ps[i]

theorem RLl.nil {V : View} : RLl V [] [] := ⟨rfl, fun i h => by cases h⟩
theorem RLl.cons {V : View} {c : Value} {cs : List Value} {p : PV} {ps : List PV} (h : VRel V c p) (hs : RLl V cs ps) : RLl V (c :: cs) (p :: ps) := by
  refine ⟨by simp [hs.1], fun i hi => ?_⟩
  cases i with
  | zero => exact h
  | succ i => exact hs.2 i (by simpa using hi)
theorem RLl.app {V : View} {c1 c2 : List Value} {p1 p2 : List PV} (h1 : RLl V c1 p1) (h2 : RLl V c2 p2) : RLl V (c1 ++ c2) (p1 ++ p2) := by
  refine ⟨by simp [h1.1, h2.1], fun i hi => ?_⟩
  by_cases h : i < p1.length
  · have := h1.2 i h
    simp only [List.getD_eq_getElem?_getD] at this ⊢
    rw [List.getElem?_append_left (by rw [h1.1]; exact h), List.getElem_append_left h]; exact this
  · have := h2.2 (i - p1.length) (by simp at hi; omega)
    simp only [List.getD_eq_getElem?_getD] at this ⊢
    rw [List.getElem?_append_right (by rw [h1.1]; omega), List.getElem_append_right (by omega), h1.1]; exact this
theorem RLl.agg {V : View} {arr : Array Value} {ps : List PV} (h : RLl V arr.toList ps) : VRel V (.agg arr) (.agg ps) := by
  refine .agg _ _ (by have := h.1; simpa using this) fun i hi => ?_
  have := h.2 i hi
  rw [List.getD_eq_getElem?_getD, Array.getElem?_toList] at this
  rw [Array.getD_eq_getD_getElem?]; exact this
theorem RLl.one {V : View} {v : Value} {p : PV} (h : RLl V [v] [p]) : VRel V v p := h.2 0 (by simp)

theorem exists_list {α : Type} {n : Nat} {p : Nat → α → Prop} (h : ∀ i, i < n → ∃ a, p i a) : ∃ xs : List α, xs.length = n ∧ ∀ i (hi : i < xs.length), p i xs[i] := by
  induction n with
  | zero => exact ⟨[], rfl, fun i hi => by cases hi⟩
  | succ n ih =>
    obtain ⟨xs, h1, h2⟩ := ih fun i hi => h i (by omega)
    obtain ⟨a, ha⟩ := h n (by omega)
    refine ⟨xs ++ [a], by simp [h1], fun i hi => ?_⟩
    by_cases hlt : i < xs.length
    · rw [List.getElem_append_left hlt]; exact h2 i hlt
    · rw [List.getElem_append_right (by omega)]
      simp at hi
      obtain rfl : i = n := by omega
      simpa using ha

/-- A list and the data of a slice. -/
def SlD {α : Type} {H : Type} (D : α → DataW H → Prop) (xs : List α) (d : DataW H) : Prop :=
  (xs = [] ∧ d = .nil) ∨ ∃ els sp, d = .slice els sp ∧ xs.length = els.length ∧ ∀ i (h1 : i < xs.length) (h2 : i < els.length), D xs[i] els[i]

section
variable {H : Type} {enc : TypeId × Value → H} {P : Program} {W : World} {spare : Nat → Bool} {held : Bool}

theorem rd_slice {α : Type} (en : α → PV) (D : α → DataW H → Prop) {t e : TypeId} {fuel : Nat} {cs : List Value} {x : DataW H × List MemPlace} (ht : P.underlying t = some (.slice e)) (hsz : ∀ a, (en a).cells.length = P.cellsOf e)
    (h : DataW.trod enc P W 0 spare held fuel t cs = some x) (ih : ∀ n cs' x', n < fuel → DataW.trod enc P W 0 spare held n e cs' = some x' → ∃ a, RLl (env0 W).view cs' (en a).cells ∧ D a x'.1) :
    ∃ (xs : List α) (v : Value), cs = [v] ∧ VRel (env0 W).view v (.slice (xs.map en) .none) ∧ SlD D xs x.1 := by
  rcases DataW.trod_slice ht h with ⟨rfl, rfl⟩ | ⟨a, len, cap, elems, rest, n, rfl, rfl, rfl, hb, hl, hm, hlen, hel, _, _⟩
  · exact ⟨[], _, rfl, .nils .none trivial, .inl ⟨rfl, rfl⟩⟩
  · obtain ⟨ys, hys, hp⟩ := exists_list (α := α × List Value) (n := len) (p := fun i y => W.cells? 0 (a.add (i * P.cellsOf e)) (P.cellsOf e) = some y.2 ∧ RLl (env0 W).view y.2 (en y.1).cells ∧ ∀ h : i < elems.length, D y.1 elems[i].1) (fun i hi => by
      have := hel i hi
      rw [List.getElem?_eq_getElem (by omega)] at this
      obtain ⟨cs', h1, h2⟩ := Option.bind_eq_some_iff.1 this
      obtain ⟨y, h3, h4⟩ := ih n cs' _ (by omega) h2
      exact ⟨(y, cs'), h1, h3, fun _ => h4⟩)
    refine ⟨ys.map (·.1), _, rfl, ?_, .inr ⟨_, _, rfl, by simp [hys, hlen], fun i h1 h2 => ?_⟩⟩
    · have hget : ∀ i (hi : i < ys.length), ys[i]? = some ys[i] := fun i hi => List.getElem?_eq_getElem hi
      refine .slice a len cap (P.cellsOf e) _ .none (fun i j => match ys[i]? with | some y => y.2.getD j undef | none => undef) (by simp [hys]) hl hm ?_ ?_ ?_ trivial
      · intro i hi; simp only [List.getElem_map]; exact hsz _
      · intro i j hi hj
        have hi' : i < ys.length := by omega
        obtain ⟨h1, h2, _⟩ := hp i hi'
        obtain ⟨_, h4, h5⟩ := World.cells?_some h1
        have := h5 j hj
        rw [hget i hi']
        simp only
        rw [env0_cell, ← add_add, this, List.getD_eq_getElem?_getD, List.getElem?_eq_getElem (by omega)]; rfl
      · intro i j hi hj
        have hi' : i < ys.length := by simpa using hi
        simp only [List.getElem_map] at hj ⊢
        rw [hget i hi']
        exact (hp i hi').2.1.2 j hj
    · simp only [List.getElem_map]
      exact (hp i (by simpa using h1)).2.2 _

/-- The field of a structure. -/
theorem rd_fields {t : TypeId} {fs : Array Field} {fuel : Nat} {cs : List Value} {x : DataW H × List MemPlace} (ht : P.underlying t = some (.struct fs)) (h : DataW.trod enc P W 0 spare held fuel t cs = some x) :
    ∃ (ds : List (DataW H)) (n : Nat), fuel = n + 1 ∧ x.1 = .agg ds ∧ cs.length = P.cellsOf t ∧ ds.length = fs.size ∧ ∀ (i : Nat) (f : Field), fs[i]? = some f → ∃ d ps, ds[i]? = some d ∧ DataW.trod enc P W 0 spare held n f.type ((cs.drop f.offset).take (P.cellsOf f.type)) = some (d, ps) := by
  obtain ⟨xs, n, h1, rfl, h3, h4, h5⟩ := DataW.trod_struct ht h
  refine ⟨xs.map (·.1), n, h1, rfl, h3, by simpa using h4, fun i f hf => ?_⟩
  have hi : i < xs.length := by
    rw [h4]
    rcases Nat.lt_or_ge i fs.size with hl | hl
    · exact hl
    · rw [Array.getElem?_eq_none hl] at hf; cases hf
  have := h5 i f hf
  rw [List.getElem?_eq_getElem hi] at this
  exact ⟨xs[i].1, xs[i].2, by simp [hi], this⟩

theorem rd_int {t : TypeId} {k : IntKind} {fuel : Nat} {cs : List Value} {x : DataW H × List MemPlace} (ht : P.underlying t = some (.int k)) (h : DataW.trod enc P W 0 spare held fuel t cs = some x) : ∃ n, RLl (env0 W).view cs [.int k n] ∧ x.1 = .lit (.int k n) ∧ (Lit.int k n).wf = true ∧ cs = [.int k n] := by
  obtain ⟨n, rfl, rfl, h3⟩ := DataW.trod_int ht h
  exact ⟨n, .cons (.int _ _) .nil, rfl, h3, rfl⟩
theorem rd_bool {t : TypeId} {fuel : Nat} {cs : List Value} {x : DataW H × List MemPlace} (ht : P.underlying t = some .bool) (h : DataW.trod enc P W 0 spare held fuel t cs = some x) : ∃ b, RLl (env0 W).view cs [.bool b] ∧ x.1 = .lit (.bool b) := by
  obtain ⟨n, rfl, rfl⟩ := DataW.trod_bool ht h
  exact ⟨n, .cons (.bool _) .nil, rfl⟩
theorem rd_string {t : TypeId} {fuel : Nat} {cs : List Value} {x : DataW H × List MemPlace} (ht : P.underlying t = some .string) (h : DataW.trod enc P W 0 spare held fuel t cs = some x) : ∃ s : List UInt8, RLl (env0 W).view cs [.str s] ∧ x.1 = .lit (.string s) ∧ s.length ≤ maxLen := by
  obtain ⟨s, rfl, rfl, h3⟩ := DataW.trod_string ht h
  exact ⟨s.data.toList, .cons (.str _) .nil, rfl, by simpa using h3⟩
end

/-- The data of a type. -/
inductive TyD {H : Type} : Ty → DataW H → Prop
  | nil (k i : Int) : TyD (.mk k i []) (.agg [.lit (.int .i64 k), .lit (.int .i64 i), .nil])
  | slice (k i : Int) (xs : List Ty) (es sp : List (DataW H)) (hl : xs.length = es.length) (h : ∀ j (h1 : j < xs.length) (h2 : j < es.length), TyD xs[j] es[j]) : TyD (.mk k i xs) (.agg [.lit (.int .i64 k), .lit (.int .i64 i), .slice es sp])
theorem TyD.of {H : Type} {k i : Int} {xs : List Ty} {d : DataW H} (h : SlD TyD xs d) : TyD (.mk k i xs) (.agg [.lit (.int .i64 k), .lit (.int .i64 i), d]) := by
  rcases h with ⟨rfl, rfl⟩ | ⟨es, sp, rfl, h1, h2⟩
  · exact .nil k i
  · exact .slice k i xs es sp h1 h2

/-- The facts on a program's type 'api.Type' that a reading looks at. -/
structure TyAt (P : Program) (T S : TypeId) : Prop where
  st : ∃ f0 f1 f2 : Field, P.underlying T = some (.struct #[f0, f1, f2]) ∧ P.underlying f0.type = some (.int .i64) ∧ P.underlying f1.type = some (.int .i64) ∧ f2.type = S ∧ f0.offset = 0 ∧ f1.offset = 1 ∧ f2.offset = 2 ∧ P.cellsOf f0.type = 1 ∧ P.cellsOf f1.type = 1
  sl : P.underlying S = some (.slice T)
  c : P.cellsOf T = 3
  cs : P.cellsOf S = 1
  by40 : P.bytesOf T = 40

section
variable {H : Type} {enc : TypeId × Value → H} {P : Program} {W : World} {spare : Nat → Bool} {held : Bool} {T S : TypeId}

theorem rd_ty (F : TyAt P T S) : ∀ (fuel : Nat) (cs : List Value) (x : DataW H × List MemPlace), DataW.trod enc P W 0 spare held fuel T cs = some x → ∃ t : Ty, RLl (env0 W).view cs t.enc.cells ∧ TyD t x.1 := by
  intro fuel
  induction fuel using Nat.strongRecOn with
  | _ fuel ih =>
  intro cs x h
  obtain ⟨f0, f1, f2, hst, u0, u1, e2, o0, o1, o2, c0, c1⟩ := F.st
  obtain ⟨ds, n, rfl, hx, hlen, hdl, hf⟩ := rd_fields hst h
  rw [F.c] at hlen
  match cs, hlen with
  | [v0, v1, v2], _ =>
  obtain ⟨d0, p0, g0, r0⟩ := hf 0 f0 rfl
  obtain ⟨d1, p1, g1, r1⟩ := hf 1 f1 rfl
  obtain ⟨d2, p2, g2, r2⟩ := hf 2 f2 rfl
  rw [o0, c0] at r0
  rw [o1, c1] at r1
  rw [o2, e2, F.cs] at r2
  obtain ⟨k, q0, rfl, w0, _⟩ := rd_int u0 r0
  obtain ⟨i, q1, rfl, w1, _⟩ := rd_int u1 r1
  obtain ⟨xs, v, hv, hr, hd⟩ := rd_slice Ty.enc TyD F.sl (fun a => by rw [F.c, Ty.enc_len]) r2 (fun m cs' x' hm h' => ih m (by omega) cs' x' h')
  simp only [List.drop_succ_cons, List.drop_zero, List.take_succ_cons, List.take_zero, List.cons.injEq, and_true] at hv
  subst hv
  refine ⟨.mk k i xs, ?_, ?_⟩
  · rw [Ty.enc_cells]
    exact .cons q0.one (.cons q1.one (.cons hr .nil))
  · rw [hx]
    have : ds = [.lit (.int .i64 k), .lit (.int .i64 i), d2] := by
      match ds, hdl with
      | [a, b, c], _ =>
        simp at g0 g1 g2
        rw [g0, g1, g2]
    rw [this]
    exact .of hd

/-- No list of arguments is longer than the row's own bound bears. -/
theorem ty_weights (F : TyAt P T S) {t : Ty} {d : DataW H} (h : TyD t d) (hw : (d.weights P T).all (· ≤ reachBytes) = true) : t.W := by
  obtain ⟨f0, f1, f2, hst, u0, u1, e2, _⟩ := F.st
  induction h with
  | nil k i => exact .mk (by simp) (by simp)
  | slice k i xs es sp hl h ih =>
    simp only [DataW.weights, hst, DataW.weightsEach, List.map_cons, List.map_nil, e2, F.sl, F.by40, List.nil_append, List.append_nil, List.all_cons, List.all_append, Bool.and_eq_true, decide_eq_true_eq] at hw
    have hb : reachBytes = 140737488351232 := rfl
    refine .mk (by rw [hl]; have := hw.1; omega) fun u hu => ?_
    obtain ⟨j, hj, rfl⟩ := List.mem_iff_getElem.1 hu
    refine ih j hj (by omega) ?_
    have h2 := hw.2.1
    rw [List.all_eq_true] at h2 ⊢
    intro x hx
    refine h2 x ?_
    have hmem : ∀ (l : List (DataW H)) (e : DataW H), e ∈ l → x ∈ e.weights P T → x ∈ DataW.weightsAll P T l := by
      intro l
      induction l with
      | nil => intro e he; cases he
      | cons a l ihl =>
        intro e he hx
        simp only [DataW.weightsAll, List.mem_append]
        rcases List.mem_cons.1 he with rfl | he
        · exact .inl hx
        · exact .inr (ihl e he hx)
    exact hmem es _ (List.getElem_mem _) hx

theorem weights_mem {l : List (DataW H)} {e : TypeId} {d : DataW H} (hd : d ∈ l) (h : (DataW.weightsAll P e l).all (· ≤ reachBytes) = true) : (d.weights P e).all (· ≤ reachBytes) = true := by
  rw [List.all_eq_true] at h ⊢
  intro x hx
  refine h x ?_
  clear h
  induction l with
  | nil => cases hd
  | cons a l ih =>
    simp only [DataW.weightsAll, List.mem_append]
    rcases List.mem_cons.1 hd with rfl | hd
    · exact .inl hx
    · exact .inr (ih hd)

/-- A slice's elements and its length. -/
theorem sl_weights {α : Type} {D : α → DataW H → Prop} {Sl E : TypeId} (hs : P.underlying Sl = some (.slice E)) {xs : List α} {d : DataW H} (h : SlD D xs d) (hw : (d.weights P Sl).all (· ≤ reachBytes) = true) :
    xs.length * P.bytesOf E ≤ reachBytes ∧ ∀ a ∈ xs, ∃ d', D a d' ∧ (d'.weights P E).all (· ≤ reachBytes) = true := by
  rcases h with ⟨rfl, rfl⟩ | ⟨els, sp, rfl, h1, h2⟩
  · simp
  · simp only [DataW.weights, hs, List.all_cons, List.all_append, Bool.and_eq_true, decide_eq_true_eq] at hw
    refine ⟨?_, fun a ha => ?_⟩
    · rw [h1]
      refine Nat.le_trans (Nat.mul_le_mul_right _ (Nat.le_add_right _ _)) hw.1
    · obtain ⟨j, hj, rfl⟩ := List.mem_iff_getElem.1 ha
      exact ⟨_, h2 j hj (by omega), weights_mem (List.getElem_mem _) hw.2.1⟩
end
end Go.Abs
namespace Go.Abs
theorem RLl.rl {V : View} {arr : Array Value} {ps : List PV} (h : RLl V arr.toList ps) : RL V arr ps := by
  refine ⟨by have := h.1; simpa using this, fun i hi => ?_⟩
  have := h.2 i hi
  rw [List.getD_eq_getElem?_getD, Array.getElem?_toList] at this
  rw [Array.getD_eq_getD_getElem?]; exact this
theorem Ty.enc_agg (t : Ty) : PV.agg t.enc.cells = t.enc := by rw [Ty.enc_cells, Ty.enc_eq]
end Go.Abs
namespace Go.Abs
/-! The chapter 'types': bindings, sizes, variables. -/
structure Bd where
  v : Int
  t : Ty
def Bd.enc (b : Bd) : PV := .agg [.int .i64 b.v, .int .i64 b.t.kind, .int .i64 b.t.id, .slice (b.t.args.map Ty.enc) .none]
theorem Bd.enc_len (b : Bd) : b.enc.cells.length = 4 := rfl
theorem Bd.bel (n : Nat) (b : Bd) : Bel n b.enc := .agg _ (by
  intro c hc
  simp at hc
  rcases hc with rfl | rfl | rfl | rfl
  · exact .int _ _
  · exact .int _ _
  · exact .int _ _
  · exact bel_slice_ty _ _)
theorem bel_Bd (n : Nat) (us : List Bd) : Bel n (.slice (us.map Bd.enc) .none) := .slice _ _ (fun e he c hc => by
  obtain ⟨b, _, rfl⟩ := List.mem_map.1 he
  have := Bd.bel n b
  unfold Bd.enc at this hc
  cases this with | agg _ h => exact h c hc) (by simp)
/-- Rules for bindings. -/
theorem BdS : (∀ b : Bd, b.enc.cells = [.int .i64 b.v, .int .i64 b.t.kind, .int .i64 b.t.id, .slice (b.t.args.map Ty.enc) .none]) ∧ (∀ b : Bd, b.enc.isJunk = false) ∧ (∀ b : Bd, b.enc.drop1 = b.enc) ∧ (∀ (b : Bd) (n : Nat), b.enc.fits ⟨true, 4, n⟩ = true) ∧
    (∀ (v : Int) (t : Ty), PV.agg [.int .i64 v, .int .i64 t.kind, .int .i64 t.id, .slice (t.args.map Ty.enc) .none] = (Bd.mk v t).enc) ∧ (∀ (v : Int) (t : Ty), (Bd.mk v t).v = v) ∧ (∀ (v : Int) (t : Ty), (Bd.mk v t).t = t) ∧ (∀ b : Bd, Bd.mk b.v b.t = b) ∧
    (∀ (v k i : Int), PV.agg [.int .i64 v, .int .i64 k, .int .i64 i, .slice [] .none] = (Bd.mk v (Ty.mk k i [])).enc) :=
  ⟨fun _ => rfl, fun _ => rfl, fun _ => rfl, fun _ _ => rfl, fun _ _ => rfl, fun _ _ => rfl, fun _ _ => rfl, fun _ => rfl, fun _ _ _ => rfl⟩

def subG (s : List Bd) (u : Ty) : Ty × Bool :=
  if (!decide (u.kind = 1)) = true then (u, false)
  else if decide (idxI (fun b : Bd => decide (b.v = u.id)) s < 0) = true then (u, false)
  else ((s.getD (idxI (fun b : Bd => decide (b.v = u.id)) s).toNat ⟨0, .mk 0 0 []⟩).t, true)

theorem sub_W {s : List Bd} (hs : ∀ b ∈ s, b.t.W) {t : Ty} (ht : t.W) : (mapT (subG s) t).W :=
  mapT_W (fun u hu => by
    unfold subG at hu ⊢
    split at hu
    · cases hu
    · rename_i h1
      split at hu
      · cases hu
      · rename_i h2
        rw [if_neg h1, if_neg h2]
        simp only
        rw [List.getD_eq_getElem?_getD]
        cases hq : s[(idxI (fun b : Bd => decide (b.v = u.id)) s).toNat]? with
        | none => exact .mk (by simp) (by simp)
        | some a => exact hs a (List.mem_of_getElem? hq)) t ht

/-- Sizes and depths as 'measure' counts them. -/
def measL : List (Int → Int × Int) → Int → Int × Int → Int × Int
  | [], _, s => s
  | f :: fs, L, s => if decide (s.1 > L) = true then s else measL fs L (s.1 + (f (L - s.1)).1, max s.2 (f (L - s.1)).2)
def measT : Ty → Int → Int × Int
  | .mk _ _ us, L => ((measL (us.map fun u L => measT u L) L (1, 0)).1, (measL (us.map fun u L => measT u L) L (1, 0)).2 + 1)
theorem measT_eq (t : Ty) (L : Int) : measT t L = ((measL (t.args.map measT) L (1, 0)).1, (measL (t.args.map measT) L (1, 0)).2 + 1) := by
  cases t; rw [measT]; rfl
theorem measL_bd : ∀ (fs : List (Int → Int × Int)) (L : Int) (s : Int × Int), 0 ≤ L → (∀ f ∈ fs, ∀ M, 0 ≤ M → M < L → 1 ≤ (f M).1 ∧ (f M).1 ≤ M + 1 ∧ 1 ≤ (f M).2 ∧ (f M).2 ≤ M + 1) → 1 ≤ s.1 → s.1 ≤ L + 1 → 0 ≤ s.2 → s.2 ≤ L →
    1 ≤ (measL fs L s).1 ∧ (measL fs L s).1 ≤ L + 1 ∧ 0 ≤ (measL fs L s).2 ∧ (measL fs L s).2 ≤ L
  | [], L, s, hL, _, h1, h2, h3, h4 => ⟨h1, h2, h3, h4⟩
  | f :: fs, L, s, hL, hf, h1, h2, h3, h4 => by
    unfold measL
    split
    · exact ⟨h1, h2, h3, h4⟩
    · rename_i hs
      have hs' : s.1 ≤ L := by have : ¬ s.1 > L := fun q => hs (decide_eq_true q); omega
      obtain ⟨q1, q2, q3, q4⟩ := hf f (List.mem_cons_self ..) (L - s.1) (by omega) (by omega)
      exact measL_bd fs L _ hL (fun g hg => hf g (List.mem_cons_of_mem _ hg)) (by simp only; omega) (by simp only; omega) (by simp only; omega) (by simp only; omega)
theorem measT_bd : ∀ (t : Ty) (L : Int), 0 ≤ L → 1 ≤ (measT t L).1 ∧ (measT t L).1 ≤ L + 1 ∧ 1 ≤ (measT t L).2 ∧ (measT t L).2 ≤ L + 1
  | .mk k i us, L, hL => by
    have := measL_bd (us.map fun u L => measT u L) L (1, 0) hL (fun f hf M h0 _ => by
      obtain ⟨u, hu, rfl⟩ := List.mem_map.1 hf
      exact measT_bd u M h0) (by simp) (by simp; omega) (by simp) (by simp; omega)
    rw [measT]
    simp only
    omega

def nwf (t : Ty) : Bool :=
  if decide (t.kind = 0) || decide (t.kind = 3) || decide (t.kind = 4) || decide (t.kind = 5) || decide (t.kind = 6) then decide (t.id = 0) && decide ((t.args.length : Int) = 0)
  else if decide (t.kind = 1) || decide (t.kind = 2) then decide (t.id ≥ 0) && decide ((t.args.length : Int) = 0)
  else if decide (t.kind = 7) then decide (t.id ≥ 0)
  else if decide (t.kind = 8) then (decide (t.id = 0) || decide (t.id = 1)) && decide ((t.args.length : Int) = 1)
  else if decide (t.kind = 9) then decide (t.id = 0) && decide ((t.args.length : Int) > 0)
  else if decide (t.kind = 10) then decide (t.id ≥ 0) && decide ((t.args.length : Int) = 1)
  else false
def wfT : Ty → Bool
  | .mk k i us => nwf (.mk k i us) && !((us.map fun u => wfT u).any (fun b => !b))
theorem wfT_eq (t : Ty) : wfT t = (nwf t && !(t.args.any fun u => !wfT u)) := by
  cases t; rw [wfT, List.any_map]; rfl
/-- What Validate answers. -/
def valT (t : Ty) : Int := if (decide ((measT t 100).1 > 100) || decide ((measT t 100).2 > 12)) = true then 2 else if (!wfT t) = true then 3 else 0

/-- The free variables, in order of first occurrence. -/
def afvL : List (List Int → List Int) → List Int → List Int
  | [], vs => vs
  | f :: fs, vs => afvL fs (f vs)
def afv : Ty → List Int → List Int
  | .mk k i us, vs => afvL (us.map fun u vs => afv u vs) (if (decide (k = 1) && !vs.any (fun x => decide (i = x))) = true then vs ++ [i] else vs)
theorem afv_eq (t : Ty) (vs : List Int) : afv t vs = afvL (t.args.map afv) (if (decide (t.kind = 1) && !vs.any (fun x => decide (t.id = x))) = true then vs ++ [t.id] else vs) := by
  cases t; rw [afv]; rfl
theorem afv_len : ∀ (t : Ty) (vs : List Int), vs.length ≤ (afv t vs).length ∧ (afv t vs).length ≤ vs.length + t.size
  | .mk k i us, vs => by
    have key : ∀ (us : List Ty), (∀ u ∈ us, ∀ vs : List Int, vs.length ≤ (afv u vs).length ∧ (afv u vs).length ≤ vs.length + u.size) → ∀ vs : List Int, vs.length ≤ (afvL (us.map fun u vs => afv u vs) vs).length ∧ (afvL (us.map fun u vs => afv u vs) vs).length ≤ vs.length + Ty.sizes us := by
      intro us
      induction us with
      | nil => intro _ vs; simp [afvL, Ty.sizes]
      | cons u us ih =>
        intro h vs
        have h1 := h u (List.mem_cons_self ..) vs
        have h2 := ih (fun u hu => h u (List.mem_cons_of_mem _ hu)) (afv u vs)
        simp only [List.map_cons, afvL, Ty.sizes]
        omega
    rw [afv]
    have := key us (fun u hu vs => afv_len u vs) (if (decide (k = 1) && !vs.any (fun x => decide (i = x))) = true then vs ++ [i] else vs)
    have hs : (Ty.mk k i us).size = 1 + Ty.sizes us := by simp [Ty.size]
    rw [hs]
    split at this
    · rename_i hq; rw [if_pos hq]; simp at this ⊢; omega
    · rename_i hq; rw [if_neg hq]; omega
end Go.Abs
namespace Go.Abs
theorem measL_nil (L : Int) (s : Int × Int) : measL [] L s = s := rfl
theorem measL_cons (f : Int → Int × Int) (fs : List (Int → Int × Int)) (L : Int) (s : Int × Int) : measL (f :: fs) L s = if decide (s.1 > L) = true then s else measL fs L (s.1 + (f (L - s.1)).1, max s.2 (f (L - s.1)).2) := rfl
theorem afvL_nil (vs : List Int) : afvL [] vs = vs := rfl
theorem afvL_cons (f : List Int → List Int) (fs : List (List Int → List Int)) (vs : List Int) : afvL (f :: fs) vs = afvL fs (f vs) := rfl
end Go.Abs
namespace Go.Abs
/-! Reading bindings. -/
def BdD {H : Type} (b : Bd) (d : DataW H) : Prop := ∃ d1, d = .agg [.lit (.int .i64 b.v), d1] ∧ TyD b.t d1
structure BdAt (P : Program) (B T : TypeId) : Prop where
  st : ∃ f0 f1 : Field, P.underlying B = some (.struct #[f0, f1]) ∧ P.underlying f0.type = some (.int .i64) ∧ f1.type = T ∧ f0.offset = 0 ∧ f1.offset = 1 ∧ P.cellsOf f0.type = 1
  c : P.cellsOf B = 4
section
variable {H : Type} {enc : TypeId × Value → H} {P : Program} {W : World} {spare : Nat → Bool} {held : Bool} {B T S : TypeId}
theorem rd_bd (F : TyAt P T S) (G : BdAt P B T) (fuel : Nat) (cs : List Value) (x : DataW H × List MemPlace) (h : DataW.trod enc P W 0 spare held fuel B cs = some x) : ∃ b : Bd, RLl (env0 W).view cs b.enc.cells ∧ BdD b x.1 := by
  obtain ⟨f0, f1, hst, u0, e1, o0, o1, c0⟩ := G.st
  obtain ⟨ds, n, rfl, hx, hlen, hdl, hf⟩ := rd_fields hst h
  rw [G.c] at hlen
  match cs, hlen with
  | [v0, v1, v2, v3], _ =>
  obtain ⟨d0, p0, g0, r0⟩ := hf 0 f0 rfl
  obtain ⟨d1, p1, g1, r1⟩ := hf 1 f1 rfl
  rw [o0, c0] at r0
  rw [o1, e1, F.c] at r1
  obtain ⟨k, q0, rfl, w0, _⟩ := rd_int u0 r0
  obtain ⟨t, q1, w1⟩ := rd_ty F _ _ _ r1
  refine ⟨⟨k, t⟩, ?_, d1, ?_, w1⟩
  · have := RLl.app q0 q1
    rw [Ty.enc_cells] at this
    exact this
  · rw [hx]
    match ds, hdl with
    | [a, b], _ =>
      simp at g0 g1
      rw [g0, g1]
theorem bd_weights (F : TyAt P T S) (G : BdAt P B T) {b : Bd} {d : DataW H} (h : BdD b d) (hw : (d.weights P B).all (· ≤ reachBytes) = true) : b.t.W := by
  obtain ⟨d1, rfl, h1⟩ := h
  obtain ⟨f0, f1, hst, u0, e1, _⟩ := G.st
  simp only [DataW.weights, hst, DataW.weightsEach, List.map_cons, List.map_nil, e1, List.nil_append, List.append_nil] at hw
  exact ty_weights F h1 hw
end
end Go.Abs
set_option maxRecDepth 4000
namespace Go.Abs
open Go.Proofs
theorem tyAt : TyAt Try.prog 42 25 := ⟨⟨_, _, _, Try.underlying42, Try.underlying3, Try.underlying3, rfl, rfl, rfl, rfl, by kernel_rfl, by kernel_rfl⟩, Try.underlying25, by kernel_rfl, by kernel_rfl, by kernel_rfl⟩
theorem rd_Ty {H : Type} {enc : TypeId × Value → H} {W : World} {spare : Nat → Bool} {held : Bool} (fuel : Nat) (cs : List Value) (x : DataW H × List MemPlace) (h : DataW.trod enc Try.prog W 0 spare held fuel 42 cs = some x) : ∃ t : Ty, RLl (env0 W).view cs t.enc.cells ∧ TyD t x.1 := rd_ty tyAt fuel cs x h
def DvD {H : Type} (t : Dv) (d : DataW H) : Prop := ∃ d1, d = .agg [.lit (.int .i64 t.id), d1] ∧ SlD (fun n d => d = .lit (.int .i64 n)) t.fields d1
section
variable {H : Type} {enc : TypeId × Value → H} {W : World} {spare : Nat → Bool} {held : Bool}
theorem rd_Dv (fuel : Nat) (cs : List Value) (x : DataW H × List MemPlace) (h : DataW.trod enc Try.prog W 0 spare held fuel 51 cs = some x) : ∃ t : Dv, RLl (env0 W).view cs t.enc.cells ∧ DvD t x.1 := by
  obtain ⟨ds, n, rfl, hx, hlen, hdl, hf⟩ := rd_fields Try.underlying51 h
  rw [show Try.prog.cellsOf 51 = 2 from by kernel_rfl] at hlen
  match cs, hlen with
  | [v0, v1], _ =>
  obtain ⟨d0, p0, g0, r0⟩ := hf 0 _ rfl
  have r0 : DataW.trod enc Try.prog W 0 spare held n 3 [v0] = some (d0, p0) := by
    have e : Try.prog.cellsOf 3 = 1 := by kernel_rfl
    have r0 : DataW.trod enc Try.prog W 0 spare held n 3 (List.take (Try.prog.cellsOf 3) (List.drop 0 [v0, v1])) = some (d0, p0) := r0
    rw [e] at r0
    exact r0
  obtain ⟨a0, q0, rfl, _, _⟩ := rd_int Try.underlying3 r0
  obtain ⟨d1, p1, g1, r1⟩ := hf 1 _ rfl
  have r1 : DataW.trod enc Try.prog W 0 spare held n 23 [v1] = some (d1, p1) := by
    have e : Try.prog.cellsOf 23 = 1 := by kernel_rfl
    have r1 : DataW.trod enc Try.prog W 0 spare held n 23 (List.take (Try.prog.cellsOf 23) (List.drop 1 [v0, v1])) = some (d1, p1) := r1
    rw [e] at r1
    exact r1
  obtain ⟨a1, w1, hv1, hr1, hd1⟩ := rd_slice vint (fun n d => d = .lit (.int .i64 n)) Try.underlying23 (by intro a; kernel_rfl) r1 (fun m cs' x' hm h' => by obtain ⟨n, q, e, _, _⟩ := rd_int Try.underlying3 h'; exact ⟨n, q, e⟩)
  obtain rfl : v1 = w1 := by simpa using hv1
  have q1 : RLl (env0 W).view [v1] [_] := .cons hr1 .nil
  refine ⟨Dv.mk a0 a1, ?_, ?_⟩
  · rw [Dv.enc_cells]
    exact (RLl.app q0 q1)
  · rw [hx]
    have e : ds = [.lit (.int .i64 a0), d1] := by
      match ds, hdl with
      | [e0, e1], _ =>
        simp at g0 g1
        rw [g0, g1]
    rw [e]
    exact ⟨_, rfl, hd1⟩
theorem Dv_weights {t : Dv} {d : DataW H} (h : DvD t d) (hw : (d.weights Try.prog 51).all (· ≤ reachBytes) = true) : t.W := by
  have hb : reachBytes = 140737488351232 := rfl
  have hfl : ∀ (c : DataW H), True := fun _ => trivial
  obtain ⟨d1, rfl, k1⟩ := h
  simp only [DataW.weights, Try.underlying51, DataW.weightsEach, List.map_cons, List.map_nil, List.nil_append, List.append_nil, List.all_append, List.all_cons, List.all_nil, Bool.and_eq_true, Bool.and_true, decide_eq_true_eq] at hw
  have z1 := hw
  have m1 := sl_weights Try.underlying23 k1 z1
  unfold Dv.W
  exact (by
      have e : Try.prog.bytesOf 3 = 8 := by kernel_rfl
      have := m1.1; rw [e] at this; omega)
end
def DmD {H : Type} (t : Dm) (d : DataW H) : Prop := ∃ d1, d = .agg [.lit (.int .i64 t.kind), d1] ∧ SlD DvD t.vs d1
section
variable {H : Type} {enc : TypeId × Value → H} {W : World} {spare : Nat → Bool} {held : Bool}
theorem rd_Dm (fuel : Nat) (cs : List Value) (x : DataW H × List MemPlace) (h : DataW.trod enc Try.prog W 0 spare held fuel 48 cs = some x) : ∃ t : Dm, RLl (env0 W).view cs t.enc.cells ∧ DmD t x.1 := by
  obtain ⟨ds, n, rfl, hx, hlen, hdl, hf⟩ := rd_fields Try.underlying48 h
  rw [show Try.prog.cellsOf 48 = 2 from by kernel_rfl] at hlen
  match cs, hlen with
  | [v0, v1], _ =>
  obtain ⟨d0, p0, g0, r0⟩ := hf 0 _ rfl
  have r0 : DataW.trod enc Try.prog W 0 spare held n 3 [v0] = some (d0, p0) := by
    have e : Try.prog.cellsOf 3 = 1 := by kernel_rfl
    have r0 : DataW.trod enc Try.prog W 0 spare held n 3 (List.take (Try.prog.cellsOf 3) (List.drop 0 [v0, v1])) = some (d0, p0) := r0
    rw [e] at r0
    exact r0
  obtain ⟨a0, q0, rfl, _, _⟩ := rd_int Try.underlying3 r0
  obtain ⟨d1, p1, g1, r1⟩ := hf 1 _ rfl
  have r1 : DataW.trod enc Try.prog W 0 spare held n 46 [v1] = some (d1, p1) := by
    have e : Try.prog.cellsOf 46 = 1 := by kernel_rfl
    have r1 : DataW.trod enc Try.prog W 0 spare held n 46 (List.take (Try.prog.cellsOf 46) (List.drop 1 [v0, v1])) = some (d1, p1) := r1
    rw [e] at r1
    exact r1
  obtain ⟨a1, w1, hv1, hr1, hd1⟩ := rd_slice Dv.enc DvD Try.underlying46 (by intro a; rw [Dv.enc_len]; kernel_rfl) r1 (fun m cs' x' hm h' => rd_Dv m cs' x' h')
  obtain rfl : v1 = w1 := by simpa using hv1
  have q1 : RLl (env0 W).view [v1] [_] := .cons hr1 .nil
  refine ⟨Dm.mk a0 a1, ?_, ?_⟩
  · rw [Dm.enc_cells]
    exact (RLl.app q0 q1)
  · rw [hx]
    have e : ds = [.lit (.int .i64 a0), d1] := by
      match ds, hdl with
      | [e0, e1], _ =>
        simp at g0 g1
        rw [g0, g1]
    rw [e]
    exact ⟨_, rfl, hd1⟩
theorem Dm_weights {t : Dm} {d : DataW H} (h : DmD t d) (hw : (d.weights Try.prog 48).all (· ≤ reachBytes) = true) : t.W := by
  have hb : reachBytes = 140737488351232 := rfl
  have hfl : ∀ (c : DataW H), True := fun _ => trivial
  obtain ⟨d1, rfl, k1⟩ := h
  simp only [DataW.weights, Try.underlying48, DataW.weightsEach, List.map_cons, List.map_nil, List.nil_append, List.append_nil, List.all_append, List.all_cons, List.all_nil, Bool.and_eq_true, Bool.and_true, decide_eq_true_eq] at hw
  have z1 := hw
  have m1 := sl_weights Try.underlying46 k1 z1
  exact ⟨(by
      have e : Try.prog.bytesOf 51 = 32 := by kernel_rfl
      have := m1.1; rw [e] at this; omega), (fun u hu => by
      obtain ⟨e, h1, h2⟩ := m1.2 u hu
      exact Dv_weights h1 h2)⟩
end
end Go.Abs
namespace Go.Abs
theorem strip (r : List (List Char)) : stripLifts liftWords ("cut".toList :: r) = ([], "cut".toList :: r) := by
  simp only [liftWords]
  repeat (rw [stripLifts, if_neg (by decide)])
  rfl
theorem mayEnter_of {P : Program} {r : List (List Char)} (h : behindMainWord (wordsSigns P.initOrder.toList) = "cut".toList :: r) (h1 : P.laysLater = false) (h2 : P.bearsReflect = false) (h3 : P.doorFits [] = true) : P.mayEnter = true := by
  unfold Program.mayEnter
  rw [h]
  simp only [strip, h1, h2, h3]
  rfl
theorem headLifts_of {P : Program} {r : List (List Char)} (h : behindMainWord (wordsSigns P.initOrder.toList) = "cut".toList :: r) : P.headLifts = [] := by
  unfold Program.headLifts
  rw [h, strip]
  rfl
theorem liftsFinal_of {P : Program} {r : List (List Char)} (h : behindMainWord (wordsSigns P.initOrder.toList) = "cut".toList :: r) : P.liftsFinal = false := by
  unfold Program.liftsFinal
  rw [headLifts_of h, h]
  rfl
theorem make_of {P : Program} {r : List (List Char)} (h : behindMainWord (wordsSigns P.initOrder.toList) = "cut".toList :: r) : P.make = some .cut := by
  unfold Program.make
  rw [h]
  rfl
def sg (l : List Nat) : List Char := l.map Char.ofNat
theorem words_cons (c : Char) (r : List Char) (h : (c == Char.ofNat 32) = false) : wordsSigns (c :: r) = match wordsSigns r with | w :: ws => (c :: w) :: ws | [] => [[c]] := by
  rw [wordsSigns]
  · rfl
  · intro e
    subst e
    simp at h
theorem words_word : ∀ (w r : List Char), w.all (fun c => !(c == Char.ofNat 32)) = true → wordsSigns (w ++ Char.ofNat 32 :: r) = w :: wordsSigns r
  | [], r, _ => by rfl
  | c :: w, r, h => by
    simp only [List.all_cons, Bool.and_eq_true, Bool.not_eq_true'] at h
    rw [List.cons_append, words_cons c _ h.1, words_word w r h.2]
/-- The head of a cut: 'harness', a sum, 'cut'. -/
theorem behind_of {P : Program} {a b c r : List Char} (hio : P.initOrder = String.ofList (a ++ Char.ofNat 32 :: (b ++ Char.ofNat 32 :: (c ++ Char.ofNat 32 :: r)))) (ha : a.all (fun c => !(c == Char.ofNat 32)) = true) (hb : b.all (fun c => !(c == Char.ofNat 32)) = true) (hc : c.all (fun c => !(c == Char.ofNat 32)) = true)
    (h : ((a == "harness".toList || a == "ownmain".toList) && isSumSigns b) = true) (hc2 : c = "cut".toList) : behindMainWord (wordsSigns P.initOrder.toList) = "cut".toList :: wordsSigns r := by
  rw [hio, String.toList_ofList, words_word _ _ ha, words_word _ _ hb, words_word _ _ hc]
  simp only [behindMainWord]
  rw [if_pos h, hc2]
end Go.Abs
