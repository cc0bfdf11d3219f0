/- Part 3 of a proof of the law ExhaustivenessIgnoresRowOrder: Go data as trees, the walks of the functions that the law reaches, the plain laws. -/
import Derived.Test.YtilbojaebhgenaaGBExhaustivenessIgnoresRowOrder
set_option linter.unusedVariables false
set_option linter.unusedSimpArgs false
namespace Go.Abs
/-! The algorithm answers what it should. -/
mutual
def nw : Ty → Nat
  | .mk k _ us => (if k = 0 then 0 else 1) + nws us
def nws : List Ty → Nat
  | [] => 0
  | u :: us => nw u + nws us
end
theorem nw_eq (p : Ty) : nw p = (if p.kind = 0 then 0 else 1) + nws p.args := by cases p; rw [nw]; rfl
theorem nws_app : ∀ us vs : List Ty, nws (us ++ vs) = nws us + nws vs
  | [], vs => by simp [nws]
  | u :: us, vs => by simp only [List.cons_append, nws, nws_app us vs]; omega
theorem nws_wild : ∀ n : Nat, nws (List.replicate n wildP) = 0
  | 0 => rfl
  | n + 1 => by simp only [List.replicate_succ, nws, nws_wild n]; rfl
def nwR (rows : List Row) : Nat := (rows.map nws).sum
def muM (cols : List Int) (rows : List Row) : Nat := 4 * nwR rows + cols.length
theorem specRow_le {k i : Int} {n : Nat} {r r' : Row} (h : specRow k i n r = some r') : nws r' ≤ nws r := by
  cases r with
  | nil => simp [specRow] at h
  | cons p r =>
    rw [specRow_cons] at h
    split at h
    · cases h; rw [nws_app, nws_wild]; simp only [nws]; omega
    · split at h
      · cases h; rw [nws_app]; simp only [nws]; rw [nw_eq p]; omega
      · cases h
theorem specRow_lt {k i : Int} {n : Nat} {p : Ty} {r r' : Row} (hp : p.kind ≠ 0) (h : specRow k i n (p :: r) = some r') : nws r' < nws (p :: r) := by
  rw [specRow_cons] at h
  rw [if_neg hp] at h
  split at h
  · cases h; rw [nws_app]; simp only [nws]; rw [nw_eq p, if_neg hp]; omega
  · cases h
theorem spec_le (k i : Int) (n : Nat) : ∀ rows : List Row, nwR (spec rows k i n) ≤ nwR rows
  | [] => by simp [spec, nwR]
  | r :: rows => by
    have ih := spec_le k i n rows
    unfold spec at ih ⊢
    rw [List.filterMap_cons]
    split
    · simp only [nwR, List.map_cons, List.sum_cons] at ih ⊢; omega
    · rename_i r' hr
      have := specRow_le hr
      simp only [nwR, List.map_cons, List.sum_cons] at ih ⊢; omega
theorem spec_lt {k i : Int} {n : Nat} {p : Ty} {r : Row} (hp : p.kind ≠ 0) : ∀ {rows : List Row}, p :: r ∈ rows → nwR (spec rows k i n) < nwR rows
  | [], h => by cases h
  | s :: rows, h => by
    have ih := spec_le k i n rows
    unfold spec at ih ⊢
    rw [List.filterMap_cons]
    rcases List.mem_cons.1 h with h | h
    · subst h
      split
      · simp only [nwR, List.map_cons, List.sum_cons] at ih ⊢
        have : 0 < nws (p :: r) := by simp only [nws]; rw [nw_eq, if_neg hp]; omega
        omega
      · rename_i r' hr
        have := specRow_lt hp hr
        simp only [nwR, List.map_cons, List.sum_cons] at ih ⊢; omega
    · have ih := spec_lt (k := k) (i := i) (n := n) hp h
      unfold spec at ih
      split
      · simp only [nwR, List.map_cons, List.sum_cons] at ih ⊢; omega
      · rename_i r' hr
        have := specRow_le hr
        simp only [nwR, List.map_cons, List.sum_cons] at ih ⊢; omega

def RowsOk (ds : List Dm) (cols : List Int) (rows : List Row) : Prop := ∀ r ∈ rows, confL ds r cols = true
def ColsOk (ds : List Dm) (cols : List Int) : Prop := ∀ c ∈ cols, okIx ds c = true
theorem confP_kind {ds : List Dm} {p : Ty} {c : Int} (h : confP ds p c = true) (hp : p.kind ≠ 0) : p.kind = (domOf ds c).kind := by
  rw [confP_eq, if_neg hp] at h
  by_cases h1 : p.kind ≠ (domOf ds c).kind
  · rw [if_pos h1] at h; cases h
  · omega
theorem conf_args {ds : List Dm} (hd : DOk ds) {p : Ty} {c : Int} (hc : okIx ds c = true) (h : confP ds p c = true) (hp : p.kind ≠ 0) : confL ds p.args (fieldsOf (domOf ds c) p) = true := by
  have hk := confP_kind h hp
  rw [confP_eq, if_neg hp, if_neg (by omega)] at h
  unfold fieldsOf
  split at h
  · rename_i h2
    rw [List.isEmpty_iff.1 h]
    split
    · rw [if_neg (by omega)]; rfl
    · rfl
  · split at h
    · rename_i h2 h3
      simp only [Bool.and_eq_true] at h
      rw [List.isEmpty_iff.1 h.2]
      split
      · rw [if_neg (by omega)]; rfl
      · rfl
    · rename_i h2 h3
      have : p.kind = 1 := by rcases hd.kinds _ (domOf_mem hc) with q | q | q | q <;> omega
      split at h
      · cases h
      · rename_i v hv
        rw [hv]; simp only; rw [if_pos this]; exact h
theorem fieldsOf_congr {d : Dm} {p q : Ty} (h1 : p.kind = q.kind) (h2 : p.id = q.id) : fieldsOf d p = fieldsOf d q := by
  unfold fieldsOf; rw [h1, h2]
theorem fieldsOf_len {ds : List Dm} (hd : DOk ds) {p : Ty} {c : Int} (hc : okIx ds c = true) : ColsOk ds (fieldsOf (domOf ds c) p) := by
  intro f hf
  unfold fieldsOf at hf
  split at hf
  · rename_i v hv
    split at hf
    · exact hd.fld _ (domOf_mem hc) v (findV_mem hv).1 f hf
    · cases hf
  · cases hf
theorem ColsOk.app {ds : List Dm} {a b : List Int} (h1 : ColsOk ds a) (h2 : ColsOk ds b) : ColsOk ds (a ++ b) := fun c hc => by
  rcases List.mem_append.1 hc with h | h
  · exact h1 c h
  · exact h2 c h
theorem ColsOk.tail {ds : List Dm} {c : Int} {cs : List Int} (h : ColsOk ds (c :: cs)) : ColsOk ds cs := fun x hx => h x (List.mem_cons_of_mem _ hx)
theorem ColsOk.head {ds : List Dm} {c : Int} {cs : List Int} (h : ColsOk ds (c :: cs)) : okIx ds c = true := h c (List.mem_cons_self ..)
theorem RowsOk.cases {ds : List Dm} {c : Int} {cs : List Int} {rows : List Row} (h : RowsOk ds (c :: cs) rows) {r : Row} (hr : r ∈ rows) : ∃ q r', r = q :: r' ∧ confP ds q c = true ∧ confL ds r' cs = true := by
  have := h r hr
  cases r with
  | nil => simp [confL] at this
  | cons q r' =>
    simp only [confL, Bool.and_eq_true] at this
    exact ⟨q, r', rfl, this.1, this.2⟩
theorem spec_mem {rows : List Row} {k i : Int} {n : Nat} {r' : Row} (h : r' ∈ spec rows k i n) : ∃ r ∈ rows, specRow k i n r = some r' := by
  unfold spec at h
  obtain ⟨a, h1, h2⟩ := List.mem_filterMap.1 h
  exact ⟨a, h1, h2⟩
theorem mem_spec {rows : List Row} {k i : Int} {n : Nat} {r r' : Row} (h : r ∈ rows) (h2 : specRow k i n r = some r') : r' ∈ spec rows k i n := List.mem_filterMap.2 ⟨r, h, h2⟩
theorem rows_spec {ds : List Dm} (hd : DOk ds) {c : Int} {cs : List Int} {rows : List Row} (h : RowsOk ds (c :: cs) rows) (hc : okIx ds c = true) (p : Ty) (hp : p.kind ≠ 0) :
    RowsOk ds (fieldsOf (domOf ds c) p ++ cs) (spec rows p.kind p.id (fieldsOf (domOf ds c) p).length) := by
  intro r' hr'
  obtain ⟨r, hr, hs⟩ := spec_mem hr'
  obtain ⟨q, r1, rfl, h1, h2⟩ := h.cases hr
  rw [specRow_cons] at hs
  split at hs
  · cases hs; exact confL_app (confL_wild ds _) h2
  · rename_i h0
    split at hs
    · rename_i h3
      cases hs
      rw [fieldsOf_congr h3.1.symm h3.2.symm]
      exact confL_app (conf_args hd hc h1 h0) h2
    · cases hs
theorem conf_kind {ds : List Dm} (hd : DOk ds) {p : Ty} {c : Int} (hc : okIx ds c = true) (h : confP ds p c = true) : p.kind = 0 ∨ p.kind = 1 ∨ p.kind = 2 ∨ p.kind = 3 := by
  by_cases h0 : p.kind = 0
  · exact .inl h0
  · rw [confP_kind h h0]; exact hd.kinds _ (domOf_mem hc)
theorem rows_default {ds : List Dm} (hd : DOk ds) {c : Int} {cs : List Int} {rows : List Row} (h : RowsOk ds (c :: cs) rows) (hc : okIx ds c = true) : RowsOk ds cs (spec rows (-1) 0 0) := by
  intro r' hr'
  obtain ⟨r, hr, hs⟩ := spec_mem hr'
  obtain ⟨q, r1, rfl, h1, h2⟩ := h.cases hr
  rw [specRow_cons] at hs
  split at hs
  · cases hs; exact h2
  · split at hs
    · have := conf_kind hd hc h1; omega
    · cases hs
theorem cons_inv : ∀ (rows : List Row) (acc : List Ty), (∀ q ∈ rows.foldl conAdd acc, q ∈ acc ∨ (q.kind ≠ 0 ∧ ∃ r, q :: r ∈ rows)) ∧ (∀ n : Int, hasId acc n = true → hasId (rows.foldl conAdd acc) n = true) ∧ (∀ q r, q :: r ∈ rows → q.kind ≠ 0 → hasId (rows.foldl conAdd acc) q.id = true)
  | [], acc => ⟨fun q h => .inl h, fun n h => h, fun q r h => by cases h⟩
  | r :: rows, acc => by
    obtain ⟨i1, i2, i3⟩ := cons_inv rows (conAdd acc r)
    have hmono : ∀ n : Int, hasId acc n = true → hasId (conAdd acc r) n = true := by
      intro n hn
      cases r with
      | nil => exact hn
      | cons p r0 =>
        rw [conAdd_cons]
        split
        · unfold hasId at hn ⊢; rw [List.any_append, hn]; rfl
        · exact hn
    refine ⟨fun q hq => ?_, fun n hn => i2 n (hmono n hn), fun q r' hq hk => ?_⟩
    · rcases i1 q hq with h | ⟨h1, r', h2⟩
      · cases r with
        | nil => exact .inl h
        | cons p r0 =>
          rw [conAdd_cons] at h
          split at h
          · rename_i hc
            rcases List.mem_append.1 h with h | h
            · exact .inl h
            · rw [List.mem_singleton.1 h]
              exact .inr ⟨by simp at hc; exact hc.1, r0, List.mem_cons_self ..⟩
          · exact .inl h
      · exact .inr ⟨h1, r', List.mem_cons_of_mem _ h2⟩
    · rcases List.mem_cons.1 hq with h | h
      · subst h
        apply i2
        rw [conAdd_cons]
        split
        · unfold hasId; rw [List.any_append]; simp
        · rename_i hc
          simp [hk] at hc
          unfold hasId; rw [List.any_eq_true]
          obtain ⟨x, hx1, hx2⟩ := hc
          exact ⟨x, hx1, by simpa using hx2⟩
      · exact i3 q r' h hk
theorem cons_mem {rows : List Row} {q : Ty} (h : q ∈ cons rows) : q.kind ≠ 0 ∧ ∃ r, q :: r ∈ rows := by
  rcases (cons_inv rows []).1 q h with h | h
  · cases h
  · exact h
theorem cons_has {rows : List Row} {q : Ty} {r : Row} (h : q :: r ∈ rows) (hk : q.kind ≠ 0) : hasId (cons rows) q.id = true := (cons_inv rows []).2.2 q r h hk
theorem filter_le {α : Type} {P Q : α → Bool} (hpq : ∀ x, P x = true → Q x = true) : ∀ l : List α, (l.filter P).length ≤ (l.filter Q).length
  | [] => Nat.le_refl _
  | a :: l => by
    have ih := filter_le hpq l
    rw [List.filter_cons, List.filter_cons]
    cases hb : P a with
    | true => rw [hpq a hb]; simp only [if_true, List.length_cons]; omega
    | false =>
      cases hq : Q a with
      | true => simp only [if_true, Bool.false_eq_true, if_false, List.length_cons]; omega
      | false => simp only [Bool.false_eq_true, if_false]; exact ih
theorem filter_lt {α : Type} {P Q : α → Bool} (hpq : ∀ x, P x = true → Q x = true) : ∀ {l : List α}, (∃ x ∈ l, Q x = true ∧ P x = false) → (l.filter P).length < (l.filter Q).length
  | [], h => by obtain ⟨x, h, _⟩ := h; cases h
  | a :: l, h => by
    rw [List.filter_cons, List.filter_cons]
    obtain ⟨x, hx, h1, h2⟩ := h
    rcases List.mem_cons.1 hx with rfl | hx
    · rw [h1, h2]; have := filter_le hpq l; simp only [if_true, Bool.false_eq_true, if_false, List.length_cons]; omega
    · have ih := filter_lt hpq ⟨x, hx, h1, h2⟩
      cases hb : P a with
      | true => rw [hpq a hb]; simp only [if_true, List.length_cons]; omega
      | false =>
        cases hq : Q a with
        | true => simp only [if_true, Bool.false_eq_true, if_false, List.length_cons]; omega
        | false => simp only [Bool.false_eq_true, if_false]; exact ih
theorem pigeon (used : List Ty) : ∀ m : Nat, (∀ j : Nat, j < m → hasId used j = true) → m ≤ (used.filter fun p => decide (p.id < (m : Int))).length
  | 0, _ => Nat.zero_le _
  | m + 1, h => by
    have ih := pigeon used m (fun j hj => h j (by omega))
    have hm := h m (by omega)
    unfold hasId at hm
    obtain ⟨x, hx1, hx2⟩ := List.any_eq_true.1 hm
    have hx2 : x.id = (m : Int) := of_decide_eq_true hx2
    have := filter_lt (P := fun p : Ty => decide (p.id < (m : Int))) (Q := fun p : Ty => decide (p.id < ((m + 1 : Nat) : Int))) (l := used) (by intro x hx; simp at hx ⊢; omega) ⟨x, hx1, by simp [hx2]; omega, by simp [hx2]⟩
    omega
theorem free_some (used : List Ty) (n : Nat) (h : ∀ j : Nat, j < n → hasId used j = true) (hn : used.length < n) : False := by
  have h1 := pigeon used n h
  have h2 := List.length_filter_le (fun p : Ty => decide (p.id < (n : Int))) used
  omega
theorem upto_next {used : List Ty} {n : Nat} (h : ∀ j : Nat, j < n → hasId used j = true) (hq : hasId used n = true) : ∀ j : Nat, j < n + 1 → hasId used j = true := fun j hj => by
  rcases Nat.lt_or_ge j n with q | q
  · exact h j q
  · obtain rfl : n = j := by omega
    exact hq
theorem freeId_spec (used : List Ty) : ∀ (k n : Nat), (∀ j : Nat, j < n → hasId used j = true) → n + k = used.length → hasId used (freeId used k n) = false
  | 0, n, h, hk => by
    unfold freeId
    cases hq : hasId used n with
    | false => rfl
    | true => exact (free_some used (n + 1) (upto_next h hq) (by omega)).elim
  | k + 1, n, h, hk => by
    unfold freeId
    split
    · rename_i hq
      exact freeId_spec used k (n + 1) (upto_next h hq) (by omega)
    · rename_i hq; simpa using hq
theorem absent_spec {d : Dm} {used : List Ty} {p : Ty} (h : absentP d used = some p) : (used = [] ∧ p = wildP) ∨ (p.kind ≠ 0 ∧ hasId used p.id = false) := by
  unfold absentP at h
  split at h
  · rename_i h0; cases h; exact .inl ⟨h0, rfl⟩
  · split at h
    · cases h; exact .inr ⟨by simp [Ty.kind], freeId_spec used used.length 0 (fun j hj => by omega) (by omega)⟩
    · split at h
      · split at h
        · split at h
          · cases h
          · rename_i h1; cases h; exact .inr ⟨by simp [Ty.kind], by simpa [Ty.id] using h1⟩
        · rename_i h1; cases h; exact .inr ⟨by simp [Ty.kind], by simpa [Ty.id] using h1⟩
      · rw [Option.map_eq_some_iff] at h
        obtain ⟨v, h1, rfl⟩ := h
        exact .inr ⟨by simp [Ty.kind], by have := List.find?_some h1; simpa [Ty.id] using this⟩
/-- Every id is of one variant alone. -/
def UniqV (ds : List Dm) : Prop := ∀ d ∈ ds, ∀ v ∈ d.vs, findV d v.id = some v
theorem absent_conf {ds : List Dm} (hd : DOk ds) (hu : UniqV ds) {c : Int} (hc : okIx ds c = true) {used : List Ty} (hu0 : (domOf ds c).kind = 0 → used = []) {p : Ty} (h : absentP (domOf ds c) used = some p) : confP ds p c = true := by
  unfold absentP at h
  split at h
  · cases h; exact confP_wild ds c
  · rename_i hne
    split at h
    · rename_i h2
      cases h
      rw [confP_eq]; simp [Ty.kind, Ty.args, h2]
    · split at h
      · rename_i h3
        have : p = .mk 3 0 [] ∨ p = .mk 3 1 [] := by
          split at h
          · split at h
            · cases h
            · cases h; exact .inr rfl
          · cases h; exact .inl rfl
        rcases this with rfl | rfl <;> (rw [confP_eq]; simp [Ty.kind, Ty.args, Ty.id, h3])
      · rename_i h2 h3
        have hk : (domOf ds c).kind = 1 := by
          rcases hd.kinds _ (domOf_mem hc) with q | q | q | q
          · exact absurd (hu0 q) hne
          · exact q
          · exact absurd q h2
          · exact absurd q h3
        rw [Option.map_eq_some_iff] at h
        obtain ⟨v, h1, rfl⟩ := h
        rw [confP_eq]
        simp only [Ty.kind, Ty.args, Ty.id, hk]
        rw [hu _ (domOf_mem hc) v (List.mem_of_find?_eq_some h1)]
        simp [confL_wild]
theorem cons_kind0 {ds : List Dm} {c : Int} {cs : List Int} {rows : List Row} (h : RowsOk ds (c :: cs) rows) (h0 : (domOf ds c).kind = 0) : cons rows = [] := by
  cases hc : cons rows with
  | nil => rfl
  | cons q us =>
    obtain ⟨hk, r, hr⟩ := cons_mem (rows := rows) (q := q) (by rw [hc]; exact List.mem_cons_self ..)
    obtain ⟨q', r', e, h1, _⟩ := h.cases hr
    cases e
    exact absurd ((confP_kind h1 hk).trans h0) hk

/-! Values and rows. -/
theorem mat_spec {q v0 : Ty} {r vs : Row} {n : Nat} (hk : v0.kind ≠ 0) (hn : v0.args.length = n) (hq : q.kind ≠ 0 → q.kind = v0.kind → q.id = v0.id → q.args.length = n) :
    matL (q :: r) (v0 :: vs) = match specRow v0.kind v0.id n (q :: r) with | some r' => matL r' (v0.args ++ vs) | none => false := by
  rw [specRow_cons]
  simp only [matL, matP_eq q v0]
  by_cases h0 : q.kind = 0
  · rw [if_pos h0]
    simp only [h0, decide_true, Bool.true_or, Bool.true_and]
    rw [matL_app (by simp [hn]), ← hn, matL_wild]; rfl
  · rw [if_neg h0]
    simp only [h0, decide_false, Bool.false_or]
    by_cases h1 : q.kind = v0.kind ∧ q.id = v0.id
    · rw [if_pos h1]
      simp only [h1.1, h1.2, decide_true, Bool.true_and]
      rw [matL_app (by rw [hq h0 h1.1 h1.2, hn])]
    · rw [if_neg h1]
      simp only [Bool.and_eq_false_iff, decide_eq_false_iff_not]
      by_cases h2 : q.kind = v0.kind
      · have : ¬ q.id = v0.id := fun h => h1 ⟨h2, h⟩
        simp [h2, this]
      · simp [h2]
theorem val_args {ds : List Dm} {v : Ty} {c : Int} (h : Val ds v c) : ValL ds v.args (fieldsOf (domOf ds c) v) ∧ v.kind = (domOf ds c).kind := by
  cases h with
  | wild h =>
    refine ⟨?_, h.symm⟩
    unfold fieldsOf
    split
    · rw [if_neg (by simp [wildP, Ty.kind])]; exact .nil
    · exact .nil
  | int n h =>
    refine ⟨?_, h.symm⟩
    unfold fieldsOf
    split
    · rw [if_neg (by simp [Ty.kind])]; exact .nil
    · exact .nil
  | bool n h hn =>
    refine ⟨?_, h.symm⟩
    unfold fieldsOf
    split
    · rw [if_neg (by simp [Ty.kind])]; exact .nil
    · exact .nil
  | var i us w h hv hl hu =>
    refine ⟨?_, h.symm⟩
    unfold fieldsOf
    simp only [Ty.id, Ty.kind, Ty.args, hv, if_pos]
    exact ⟨hl, hu⟩
theorem val_mk {ds : List Dm} (hd : DOk ds) {p : Ty} {c : Int} (hc : okIx ds c = true) (hp : confP ds p c = true) (hk : p.kind ≠ 0) {us : List Ty} (hu : ValL ds us (fieldsOf (domOf ds c) p)) : Val ds (.mk p.kind p.id us) c := by
  have hkk := confP_kind hp hk
  have ha := conf_args hd hc hp hk
  rw [confP_eq, if_neg hk, if_neg (by omega)] at hp
  have hus : p.kind ≠ 1 → us = [] := fun h => by
    have : fieldsOf (domOf ds c) p = [] := by
      unfold fieldsOf; split
      · rw [if_neg h]
      · rfl
    rw [this] at hu
    exact List.length_eq_zero_iff.1 hu.1
  rcases hd.kinds _ (domOf_mem hc) with q | q | q | q
  · omega
  · have hp1 : p.kind = 1 := by omega
    rw [if_neg (by omega), if_neg (by omega)] at hp
    split at hp
    · cases hp
    · rename_i v hv
      unfold fieldsOf at hu
      rw [hv] at hu
      simp only [hp1, if_pos] at hu
      rw [hp1]
      exact .var _ us v q hv hu.1 hu.2
  · have hp1 : p.kind = 2 := by omega
    rw [hus (by omega), hp1]; exact .int _ q
  · have hp1 : p.kind = 3 := by omega
    rw [if_neg (by omega), if_pos hp1] at hp
    simp at hp
    rw [hus (by omega), hp1]; exact .bool _ q hp.1
theorem rows_mat {ds : List Dm} (hd : DOk ds) {c : Int} {cs : List Int} {rows : List Row} (h : RowsOk ds (c :: cs) rows) (hc : okIx ds c = true) {v0 : Ty} {vs : Row} (hk : v0.kind ≠ 0) (hn : v0.args.length = (fieldsOf (domOf ds c) v0).length) :
    (∀ r ∈ rows, matL r (v0 :: vs) = false) ↔ (∀ r ∈ spec rows v0.kind v0.id (fieldsOf (domOf ds c) v0).length, matL r (v0.args ++ vs) = false) := by
  have key : ∀ q r, confP ds q c = true → matL (q :: r) (v0 :: vs) = match specRow v0.kind v0.id (fieldsOf (domOf ds c) v0).length (q :: r) with | some r' => matL r' (v0.args ++ vs) | none => false := fun q r hq =>
    mat_spec hk hn (fun h1 h2 h3 => by rw [← fieldsOf_congr h2 h3]; exact confL_len (conf_args hd hc hq h1))
  constructor
  · intro h1 r' hr'
    obtain ⟨r, hr, hs⟩ := spec_mem hr'
    obtain ⟨q, r1, rfl, h2, _⟩ := h.cases hr
    have := h1 _ hr
    rw [key q r1 h2, hs] at this
    exact this
  · intro h1 r hr
    obtain ⟨q, r1, rfl, h2, _⟩ := h.cases hr
    rw [key q r1 h2]
    split
    · rename_i r' hs; exact h1 r' (mem_spec hr hs)
    · rfl
theorem rows_mat0 {ds : List Dm} {c : Int} {cs : List Int} {rows : List Row} (hd : DOk ds) (hc : okIx ds c = true) (h : RowsOk ds (c :: cs) rows) {v0 : Ty} {vs : Row} (hno : ∀ q r, q :: r ∈ rows → q.kind ≠ 0 → matP q v0 = false) :
    (∀ r ∈ rows, matL r (v0 :: vs) = false) ↔ (∀ r ∈ spec rows (-1) 0 0, matL r vs = false) := by
  constructor
  · intro h1 r' hr'
    obtain ⟨r, hr, hs⟩ := spec_mem hr'
    obtain ⟨q, r1, rfl, h2, _⟩ := h.cases hr
    have h3 := h1 _ hr
    rw [specRow_cons] at hs
    split at hs
    · rename_i h0
      cases hs
      simp only [matL, matP_eq, h0, decide_true, Bool.true_or, Bool.true_and] at h3
      simpa using h3
    · split at hs
      · have := conf_kind hd hc h2; omega
      · cases hs
  · intro h1 r hr
    obtain ⟨q, r1, rfl, h2, _⟩ := h.cases hr
    simp only [matL]
    by_cases h0 : q.kind = 0
    · rw [h1 r1 (mem_spec hr (by rw [specRow_cons, if_pos h0]; rfl))]; simp
    · rw [hno q r1 hr h0]; rfl
theorem absent_no {d : Dm} {rows : List Row} {p v0 : Ty} (h : absentP d (cons rows) = some p) (hv : matP p v0 = true) : ∀ q r, q :: r ∈ rows → q.kind ≠ 0 → matP q v0 = false := by
  intro q r hr hk
  have hq := cons_has hr hk
  rcases absent_spec h with ⟨h1, _⟩ | ⟨h1, h2⟩
  · rw [h1] at hq; cases hq
  · rw [matP_eq] at hv ⊢
    simp only [h1, decide_false, Bool.false_or, Bool.and_eq_true, decide_eq_true_eq] at hv
    simp only [hk, decide_false, Bool.false_or]
    have : ¬ q.id = v0.id := fun e => by rw [e, ← hv.2.1, h2] at hq; cases hq
    simp [this]
theorem absent_has {ds : List Dm} (hd : DOk ds) {c : Int} (hc : okIx ds c = true) {used : List Ty} (hu0 : (domOf ds c).kind = 0 → used = []) {v0 : Ty} (hv : Val ds v0 c) (h : hasId used v0.id = false) : ∃ p, absentP (domOf ds c) used = some p := by
  unfold absentP
  split
  · exact ⟨_, rfl⟩
  · rename_i hne
    cases hv with
    | wild h => exact absurd (hu0 h) hne
    | int n h => rw [if_pos h]; exact ⟨_, rfl⟩
    | bool n h3 hn =>
      rw [if_neg (by omega), if_pos h3]
      simp only [Ty.id] at h
      rcases hn with rfl | rfl
      · rw [h]; exact ⟨_, rfl⟩
      · rw [h]; split <;> exact ⟨_, rfl⟩
    | var i us w h1 hw hl hu =>
      rw [if_neg (by omega), if_neg (by omega)]
      simp only [Ty.id] at h
      obtain ⟨hm, hi⟩ := findV_mem hw
      cases hf : (domOf ds c).vs.find? (fun v => !hasId used v.id) with
      | some v => exact ⟨_, rfl⟩
      | none =>
        have := List.find?_eq_none.1 hf w hm
        rw [hi, h] at this
        simp at this
theorem no_match {rows : List Row} {v0 : Ty} (h : hasId (cons rows) v0.id = false) : ∀ q r, q :: r ∈ rows → q.kind ≠ 0 → matP q v0 = false := by
  intro q r hr hk
  have hq := cons_has hr hk
  rw [matP_eq]
  simp only [hk, decide_false, Bool.false_or]
  have : ¬ q.id = v0.id := fun e => by rw [e, h] at hq; cases hq
  simp [this]
theorem missU_some {f : Ty → Option Row} {ds : List Dm} {d : Dm} : ∀ {us : List Ty} {r : Row}, missU f ds d us = some r → ∃ p ∈ us, ∃ row, f p = some row ∧ r = .mk p.kind p.id (row.take (fieldsOf d p).length) :: row.drop (fieldsOf d p).length
  | [], r, h => by cases h
  | p :: us, r, h => by
    unfold missU at h
    split at h
    · rename_i row hr; cases h; exact ⟨p, List.mem_cons_self .., row, hr, rfl⟩
    · obtain ⟨q, hq, x⟩ := missU_some h
      exact ⟨q, List.mem_cons_of_mem _ hq, x⟩
theorem missU_none {f : Ty → Option Row} {ds : List Dm} {d : Dm} : ∀ {us : List Ty}, missU f ds d us = none → ∀ p ∈ us, f p = none
  | [], h, p, hp => by cases hp
  | q :: us, h, p, hp => by
    unfold missU at h
    split at h
    · cases h
    · rename_i hq
      rcases List.mem_cons.1 hp with rfl | hp
      · exact hq
      · exact missU_none h p hp
/-- A missing row is missing. -/
theorem miss_some {ds : List Dm} (hd : DOk ds) (hu : UniqV ds) : ∀ (k : Nat) (cols : List Int) (rows : List Row) (row : Row), ColsOk ds cols → RowsOk ds cols rows → missM ds k cols rows = some row →
    confL ds row cols = true ∧ ∀ vs, matL row vs = true → ∀ r ∈ rows, matL r vs = false
  | 0, cols, rows, row, _, _, h => by simp [missM] at h
  | k + 1, [], rows, row, hc, hr, h => by
    unfold missM at h
    split at h
    · rename_i h0; cases h; exact ⟨rfl, fun vs _ r hr => by rw [h0] at hr; cases hr⟩
    · cases h
  | k + 1, c :: cs, rows, row, hc, hr, h => by
    unfold missM at h
    split at h
    · rename_i r hb
      cases h
      obtain ⟨p, hp, h2⟩ := Option.bind_eq_some_iff.1 hb
      obtain ⟨rest, h3, rfl⟩ := Option.map_eq_some_iff.1 h2
      obtain ⟨i1, i2⟩ := miss_some hd hu k cs _ rest hc.tail (rows_default hd hr hc.head) h3
      refine ⟨?_, fun vs hv => ?_⟩
      · simp only [confL, Bool.and_eq_true]
        exact ⟨absent_conf hd hu hc.head (fun h0 => cons_kind0 hr h0) hp, i1⟩
      · cases vs with
        | nil => simp [matL] at hv
        | cons v0 vs =>
          simp only [matL, Bool.and_eq_true] at hv
          exact (rows_mat0 hd hc.head hr (absent_no hp hv.1)).2 (i2 vs hv.2)
    · obtain ⟨p, hp, rw', h2, rfl⟩ := missU_some h
      obtain ⟨hk, r0, hr0⟩ := cons_mem hp
      obtain ⟨q, r1, e, h3, h4⟩ := hr.cases hr0
      cases e
      obtain ⟨i1, i2⟩ := miss_some hd hu k _ _ rw' ((fieldsOf_len hd hc.head).app hc.tail) (rows_spec hd hr hc.head p hk) h2
      obtain ⟨s1, s2⟩ := confL_split i1
      refine ⟨?_, fun vs hv => ?_⟩
      · simp only [confL, Bool.and_eq_true]
        refine ⟨?_, s2⟩
        have hkk := conf_kind hd hc.head h3
        have hke := confP_kind h3 hk
        rw [confP_eq] at h3
        rw [confP_mk]
        rw [if_neg hk, if_neg (by simpa using hke)] at h3 ⊢
        have hnil : p.kind ≠ 1 → List.take (fieldsOf (domOf ds c) p).length rw' = [] := fun h => by
          have : fieldsOf (domOf ds c) p = [] := by
            unfold fieldsOf; split
            · rw [if_neg h]
            · rfl
          rw [this]; rfl
        split
        · rw [hnil (by omega)]; rfl
        · rename_i h2n
          rw [if_neg h2n] at h3
          split
          · rename_i h3n
            rw [if_pos h3n] at h3
            simp only [Bool.and_eq_true] at h3
            rw [hnil (by omega), h3.1]; rfl
          · rename_i h3n
            rw [if_neg h3n] at h3
            have hp1 : p.kind = 1 := by omega
            cases hf : findV (domOf ds c) p.id with
            | none => rw [hf] at h3; cases h3
            | some v =>
              have hfo : fieldsOf (domOf ds c) p = v.fields := by unfold fieldsOf; rw [hf]; simp [hp1]
              rw [hfo] at s1 ⊢
              exact s1
      · cases vs with
        | nil => simp [matL] at hv
        | cons v0 vs =>
          simp only [matL, Bool.and_eq_true] at hv
          obtain ⟨hv1, hv2⟩ := hv
          rw [matP_mk] at hv1
          simp only [hk, decide_false, Bool.false_or, Bool.and_eq_true, decide_eq_true_eq] at hv1
          have hfo : fieldsOf (domOf ds c) v0 = fieldsOf (domOf ds c) p := fieldsOf_congr hv1.1.symm hv1.2.1.symm
          have hlen := matL_len hv1.2.2
          have hl2 := confL_len s1
          refine (rows_mat hd hr hc.head (by rw [← hv1.1]; exact hk) (by rw [hfo, ← matL_len hv1.2.2, hl2])).2 ?_
          rw [hfo, ← hv1.1, ← hv1.2.1]
          apply i2
          rw [← List.take_append_drop (fieldsOf (domOf ds c) p).length rw', matL_app hlen, hv1.2.2, hv2]; rfl
theorem mu_default {c : Int} {cs : List Int} {rows : List Row} {k : Nat} (h : muM (c :: cs) rows < k + 1) : muM cs (spec rows (-1) 0 0) < k := by
  have := spec_le (-1) 0 0 rows
  simp only [muM, List.length_cons] at h ⊢; omega
/-- No variant has more than four fields. -/
def Fld4 (ds : List Dm) : Prop := ∀ d ∈ ds, ∀ v ∈ d.vs, v.fields.length ≤ 4
theorem fields4 {ds : List Dm} (h4 : Fld4 ds) {c : Int} (hc : okIx ds c = true) (p : Ty) : (fieldsOf (domOf ds c) p).length ≤ 4 := by
  unfold fieldsOf
  split
  · rename_i v hv
    split
    · exact h4 _ (domOf_mem hc) v (findV_mem hv).1
    · simp
  · simp
theorem mu_spec {ds : List Dm} (h4 : Fld4 ds) {c : Int} {cs : List Int} {rows : List Row} {k : Nat} (hc : okIx ds c = true) {p : Ty} (hp : p ∈ cons rows) (h : muM (c :: cs) rows < k + 1) : muM (fieldsOf (domOf ds c) p ++ cs) (spec rows p.kind p.id (fieldsOf (domOf ds c) p).length) < k := by
  obtain ⟨hk, r, hr⟩ := cons_mem hp
  have := spec_lt (k := p.kind) (i := p.id) (n := (fieldsOf (domOf ds c) p).length) hk hr
  have := fields4 h4 hc p
  simp only [muM, List.length_cons, List.length_append] at h ⊢; omega
theorem miss_none {ds : List Dm} (hd : DOk ds) (h4 : Fld4 ds) : ∀ (k : Nat) (cols : List Int) (rows : List Row), ColsOk ds cols → RowsOk ds cols rows → muM cols rows < k → missM ds k cols rows = none →
    ∀ vs, ValL ds vs cols → ∃ r ∈ rows, matL r vs = true
  | 0, cols, rows, _, _, hm, h => by omega
  | k + 1, [], rows, hc, hr, hm, h => by
    intro vs hv
    unfold missM at h
    split at h
    · cases h
    · rename_i h0
      cases rows with
      | nil => exact absurd rfl h0
      | cons r rows =>
        have h1 := confL_len (hr r (List.mem_cons_self ..))
        have h2 := hv.1
        obtain rfl : r = [] := List.length_eq_zero_iff.1 h1
        obtain rfl : vs = [] := List.length_eq_zero_iff.1 h2
        exact ⟨[], List.mem_cons_self .., rfl⟩
  | k + 1, c :: cs, rows, hc, hr, hm, h => by
    intro vs hv
    obtain ⟨v0, vs', rfl, hv0, hvs⟩ := hv.uncons
    unfold missM at h
    split at h
    · cases h
    · rename_i hb
      have hU := missU_none h
      obtain ⟨ha, hkv⟩ := val_args hv0
      refine Classical.byContradiction fun hno => ?_
      have hno : ∀ r ∈ rows, matL r (v0 :: vs') = false := fun r hr => by
        cases hq : matL r (v0 :: vs') with
        | false => rfl
        | true => exact absurd ⟨r, hr, hq⟩ hno
      cases hq : hasId (cons rows) v0.id with
      | true =>
        unfold hasId at hq
        obtain ⟨p, hp, hpi⟩ := List.any_eq_true.1 hq
        have hpi : p.id = v0.id := of_decide_eq_true hpi
        obtain ⟨hk, r0, hr0⟩ := cons_mem hp
        obtain ⟨q, r1, e, h3, h4'⟩ := hr.cases hr0
        cases e
        have hpk : p.kind = v0.kind := (confP_kind h3 hk).trans hkv.symm
        have hfo := fieldsOf_congr (d := domOf ds c) hpk hpi
        obtain ⟨r, hr1, hr2⟩ := miss_none hd h4 k _ _ ((fieldsOf_len hd hc.head).app hc.tail) (rows_spec hd hr hc.head p hk) (mu_spec h4 hc.head hp hm) (hU p hp) (v0.args ++ vs') (by rw [hfo]; exact ha.app hvs)
        have := (rows_mat hd hr hc.head (by omega) ha.1).1 hno r (by rw [← hpk, ← hpi, ← hfo]; exact hr1)
        rw [hr2] at this; cases this
      | false =>
        obtain ⟨p, hp⟩ := absent_has hd hc.head (fun h0 => cons_kind0 hr h0) hv0 hq
        rw [hp] at hb
        have hn : missM ds k cs (spec rows (-1) 0 0) = none := by simpa using hb
        obtain ⟨r, hr1, hr2⟩ := miss_none hd h4 k _ _ hc.tail (rows_default hd hr hc.head) (mu_default hm) hn vs' hvs
        have := (rows_mat0 hd hc.head hr (no_match hq)).1 hno r hr1
        rw [hr2] at this; cases this
theorem usef_iff {ds : List Dm} (hd : DOk ds) (hu : UniqV ds) (h4 : Fld4 ds) (hi : Inh ds) : ∀ (k : Nat) (cols : List Int) (rows : List Row) (row : Row), ColsOk ds cols → RowsOk ds cols rows → confL ds row cols = true → 4 * nwR rows + 4 * nws row + cols.length < k →
    (usefM ds k cols rows row = true ↔ ∃ vs, ValL ds vs cols ∧ matL row vs = true ∧ ∀ r ∈ rows, matL r vs = false)
  | 0, cols, rows, row, _, _, _, hm => by omega
  | k + 1, [], rows, row, hc, hr, hw, hm => by
    have h1 : row = [] := List.length_eq_zero_iff.1 (confL_len hw)
    subst h1
    simp only [usefM, decide_eq_true_eq]
    constructor
    · rintro rfl; exact ⟨[], .nil, rfl, fun r h => by cases h⟩
    · rintro ⟨vs, h1, h2, h3⟩
      cases rows with
      | nil => rfl
      | cons r rows =>
        obtain rfl : vs = [] := List.length_eq_zero_iff.1 h1.1
        obtain rfl : r = [] := List.length_eq_zero_iff.1 (confL_len (hr r (List.mem_cons_self ..)))
        have := h3 [] (List.mem_cons_self ..)
        simp [matL] at this
  | k + 1, c :: cs, rows, [], hc, hr, hw, hm => by simp [confL] at hw
  | k + 1, c :: cs, rows, p :: row, hc, hr, hw, hm => by
    simp only [confL, Bool.and_eq_true] at hw
    obtain ⟨hp, hrw⟩ := hw
    have one : ∀ (q : Ty), q.kind ≠ 0 → confP ds q c = true → ∀ (a : List Ty), (confL ds a (fieldsOf (domOf ds c) q) = true) → 4 * nwR (spec rows q.kind q.id (fieldsOf (domOf ds c) q).length) + 4 * nws (a ++ row) + (fieldsOf (domOf ds c) q ++ cs).length < k →
        (usefM ds k (fieldsOf (domOf ds c) q ++ cs) (spec rows q.kind q.id (fieldsOf (domOf ds c) q).length) (a ++ row) = true ↔ ∃ us vs, ValL ds (.mk q.kind q.id us :: vs) (c :: cs) ∧ matL a us = true ∧ matL row vs = true ∧ ∀ r ∈ rows, matL r (.mk q.kind q.id us :: vs) = false) := by
      intro q hk hq a ha hmm
      rw [usef_iff hd hu h4 hi k _ _ _ ((fieldsOf_len hd hc.head).app hc.tail) (rows_spec hd hr hc.head q hk) (confL_app ha hrw) hmm]
      constructor
      · rintro ⟨vs, h1, h2, h3⟩
        obtain ⟨us, ws, rfl, h5, h6⟩ := h1.split
        rw [matL_app (by rw [confL_len ha, h5.1])] at h2
        simp only [Bool.and_eq_true] at h2
        refine ⟨us, ws, ValL.cons (val_mk hd hc.head hq hk h5) h6, h2.1, h2.2, ?_⟩
        refine (rows_mat hd hr hc.head (v0 := .mk q.kind q.id us) hk (by rw [fieldsOf_congr (p := .mk q.kind q.id us) (q := q) rfl rfl]; exact h5.1)).2 ?_
        rw [fieldsOf_congr (p := .mk q.kind q.id us) (q := q) rfl rfl]
        exact h3
      · rintro ⟨us, vs, h1, h2, h3, h5⟩
        obtain ⟨v0, vs', e, h6, h7⟩ := h1.uncons
        cases e
        have hva := (val_args h6).1
        rw [fieldsOf_congr (p := .mk q.kind q.id us) (q := q) rfl rfl] at hva
        refine ⟨us ++ vs, hva.app h7, by rw [matL_app (matL_len h2), h2, h3]; rfl, ?_⟩
        have := (rows_mat hd hr hc.head (v0 := .mk q.kind q.id us) hk (by rw [fieldsOf_congr (p := .mk q.kind q.id us) (q := q) rfl rfl]; exact hva.1)).1 h5
        rw [fieldsOf_congr (p := .mk q.kind q.id us) (q := q) rfl rfl] at this
        exact this
    unfold usefM
    by_cases h0 : p.kind = 0
    · rw [if_pos h0, Bool.or_eq_true, Bool.and_eq_true, List.any_eq_true]
      have hpw : ∀ v0, matP p v0 = true := fun v0 => by rw [matP_eq]; simp [h0]
      have hm0 : nws (p :: row) = nws row + nw p := by simp only [nws]; omega
      have hdef := usef_iff hd hu h4 hi k cs (spec rows (-1) 0 0) row hc.tail (rows_default hd hr hc.head) hrw (by have := spec_le (-1) 0 0 rows; simp only [List.length_cons] at hm; omega)
      have hone : ∀ q ∈ cons rows, (usefM ds k (fieldsOf (domOf ds c) q ++ cs) (spec rows q.kind q.id (fieldsOf (domOf ds c) q).length) (List.replicate (fieldsOf (domOf ds c) q).length wildP ++ row) = true ↔ ∃ us vs, ValL ds (.mk q.kind q.id us :: vs) (c :: cs) ∧ matL (List.replicate (fieldsOf (domOf ds c) q).length wildP) us = true ∧ matL row vs = true ∧ ∀ r ∈ rows, matL r (.mk q.kind q.id us :: vs) = false) := by
        intro q hq
        obtain ⟨hk, r0, hr0⟩ := cons_mem hq
        obtain ⟨q', r1, e, h3, _⟩ := hr.cases hr0
        cases e
        refine one q hk h3 _ (confL_wild ds _) ?_
        have := spec_lt (k := q.kind) (i := q.id) (n := (fieldsOf (domOf ds c) q).length) hk hr0
        have := fields4 h4 hc.head q
        rw [nws_app, nws_wild]
        simp only [List.length_cons, List.length_append] at hm ⊢; omega
      constructor
      · rintro (⟨h1, h2⟩ | ⟨q, hq, h2⟩)
        · obtain ⟨w, hw⟩ := Option.isSome_iff_exists.1 h1
          obtain ⟨vs, h5, h6, h7⟩ := hdef.1 h2
          obtain ⟨v0, hv0, hv1⟩ := conf_val hd hi w c hc.head (absent_conf hd hu hc.head (fun h0 => cons_kind0 hr h0) hw)
          exact ⟨v0 :: vs, ValL.cons hv0 h5, by simp only [matL, hpw, h6, Bool.and_self], (rows_mat0 hd hc.head hr (absent_no hw hv1)).2 h7⟩
        · obtain ⟨us, vs, h5, _, h6, h7⟩ := (hone q hq).1 h2
          exact ⟨_, h5, by simp only [matL, hpw, h6, Bool.and_self], h7⟩
      · rintro ⟨vs, h1, h2, h3⟩
        obtain ⟨v0, vs', rfl, hv0, hvs⟩ := h1.uncons
        simp only [matL, hpw, Bool.true_and] at h2
        obtain ⟨ha, hkv⟩ := val_args hv0
        cases hq : hasId (cons rows) v0.id with
        | true =>
          right
          unfold hasId at hq
          obtain ⟨q, hq1, hqi⟩ := List.any_eq_true.1 hq
          have hqi : q.id = v0.id := of_decide_eq_true hqi
          obtain ⟨hk, r0, hr0⟩ := cons_mem hq1
          obtain ⟨q', r1, e, h5, _⟩ := hr.cases hr0
          cases e
          have hqk : q.kind = v0.kind := (confP_kind h5 hk).trans hkv.symm
          have hve : Ty.mk q.kind q.id v0.args = v0 := by rw [hqk, hqi]; cases v0; rfl
          refine ⟨q, hq1, (hone q hq1).2 ⟨v0.args, vs', by rw [hve]; exact h1, ?_, h2, by rw [hve]; exact h3⟩⟩
          rw [fieldsOf_congr hqk hqi, ← ha.1]; exact matL_wild _
        | false =>
          left
          obtain ⟨w, hw⟩ := absent_has hd hc.head (fun h0 => cons_kind0 hr h0) hv0 hq
          exact ⟨by rw [hw]; rfl, hdef.2 ⟨vs', hvs, h2, (rows_mat0 hd hc.head hr (no_match hq)).1 h3⟩⟩
    · rw [if_neg h0]
      have hm0 : nws (p :: row) = nws row + nw p := by simp only [nws]; omega
      rw [one p h0 hp p.args (conf_args hd hc.head hp h0) (by
        have := spec_le p.kind p.id (fieldsOf (domOf ds c) p).length rows
        have := fields4 h4 hc.head p
        have := nw_eq p
        rw [if_neg h0] at this
        rw [nws_app]
        simp only [List.length_cons, List.length_append] at hm ⊢; omega)]
      constructor
      · rintro ⟨us, vs, h1, h2, h3, h5⟩
        refine ⟨_, h1, ?_, h5⟩
        simp only [matL, matP_eq p, tkM, tiM, taM, decide_true, Bool.true_and, h2, h3, Bool.or_true]
      · rintro ⟨vs, h1, h2, h3⟩
        obtain ⟨v0, vs', rfl, hv0, hvs⟩ := h1.uncons
        simp only [matL, Bool.and_eq_true] at h2
        obtain ⟨h2, h5⟩ := h2
        rw [matP_eq] at h2
        simp only [h0, decide_false, Bool.false_or, Bool.and_eq_true, decide_eq_true_eq] at h2
        have hve : Ty.mk p.kind p.id v0.args = v0 := by rw [h2.1, h2.2.1]; cases v0; rfl
        exact ⟨v0.args, vs', by rw [hve]; exact h1, h2.2.2, h5, by rw [hve]; exact h3⟩
end Go.Abs
namespace Go.Abs
/-! The plain laws of chapter 'scheme'. -/
def mapT (g : Ty → Ty × Bool) : Ty → Ty
  | .mk k i us => if (g (.mk k i us)).2 then (g (.mk k i us)).1 else .mk k i (us.map fun u => mapT g u)
theorem mapT_eq (g : Ty → Ty × Bool) (t : Ty) : mapT g t = if (g t).2 then (g t).1 else .mk t.kind t.id (t.args.map (mapT g)) := by
  cases t; rw [mapT]; rfl
/-- What Apply's function value answers. -/
def appG (ps : List Int) (xs : List Ty) (u : Ty) : Ty × Bool :=
  if (!decide (u.kind = 2) || decide (idxI (fun x => decide (u.id = x)) ps < 0) || decide (idxI (fun x => decide (u.id = x)) ps ≥ xs.length)) = true then (u, false) else (xs.getD (idxI (fun x => decide (u.id = x)) ps).toNat (.mk 0 0 []), true)
def insG (ps : List Int) (v : Int) (u : Ty) : Ty × Bool :=
  if (!decide (u.kind = 2) || decide (idxI (fun x => decide (u.id = x)) ps < 0)) = true then (u, false) else (.mk 1 (IntKind.i64.wrap (v + idxI (fun x => decide (u.id = x)) ps)) [], true)
def cpar (p : Int) : Ty → Bool
  | .mk k i xs => (decide (k = 2) && decide (i = p)) || (xs.map fun a => cpar p a).any id
theorem cpar_eq (p : Int) (t : Ty) : cpar p t = ((decide (t.kind = 2) && decide (t.id = p)) || t.args.any (cpar p)) := by
  cases t; rw [cpar, List.any_map]; rfl
def mS0 (ps : List Int) : MSt := (List.replicate ps.length (.mk 0 0 []), List.replicate ps.length false)
theorem mS0_ok (ps : List Int) : MOk ps.length (mS0 ps) := ⟨by simp [mS0], by simp [mS0], fun a ha => by rw [List.eq_of_mem_replicate ha]; exact .mk (by simp) (by simp)⟩
/-- What Match answers. -/
def matchP (ps : List Int) (t p : Ty) : List Ty × Bool := if (matchT ps t p (mS0 ps)).1 = true then ((matchT ps t p (mS0 ps)).2.1, true) else ([], false)

theorem idxI_neg {ps : List Int} {n : Int} (h : n ∉ ps) : idxI (fun x => decide (n = x)) ps = -1 :=
  idxI_none (by rw [List.any_eq_false]; intro x hx; simp; rintro rfl; exact h hx)
theorem abs_map (ps : List Int) (g : Ty → Ty × Bool) (hg : ∀ u, ¬ (u.kind = 2 ∧ u.id ∈ ps) → (g u).2 = false) : ∀ t, (∀ p ∈ ps, cpar p t = false) → mapT g t = t
  | .mk k i us, h => by
    have h0 : ¬ (k = 2 ∧ i ∈ ps) := by
      rintro ⟨rfl, hi⟩
      have := h i hi
      rw [cpar_eq] at this
      simp [Ty.kind, Ty.id] at this
    rw [mapT, if_neg (by rw [hg (.mk k i us) h0]; simp)]
    congr 1
    have : ∀ u ∈ us, mapT g u = u := fun u hu => abs_map ps g hg u fun p hp => by
      have := h p hp
      rw [cpar_eq, Bool.or_eq_false_iff, List.any_eq_false] at this
      simpa using this.2 u hu
    rw [List.map_congr_left this, List.map_id'']
    intro x; rfl
theorem app_abs (ps : List Int) (xs : List Ty) (t : Ty) (h : (ps.any fun p => cpar p t) = false) : mapT (appG ps xs) t = t :=
  abs_map ps _ (fun u hu => by
    unfold appG
    rw [if_pos]
    by_cases hk : u.kind = 2
    · rw [idxI_neg fun hi => hu ⟨hk, hi⟩]; simp
    · simp [hk]) t (fun p hp => by rw [List.any_eq_false] at h; simpa using h p hp)
theorem ins_abs (ps : List Int) (v : Int) (t : Ty) (h : (ps.any fun p => cpar p t) = false) : mapT (insG ps v) t = t :=
  abs_map ps _ (fun u hu => by
    unfold insG
    rw [if_pos]
    by_cases hk : u.kind = 2
    · rw [idxI_neg fun hi => hu ⟨hk, hi⟩]; simp
    · simp [hk]) t (fun p hp => by rw [List.any_eq_false] at h; simpa using h p hp)

/-- The bound places of a state are those of a list. -/
def Agr (s : MSt) (xs : List Ty) : Prop := ∀ i, s.2.getD i false = true → xs.getD i .zero = s.1.getD i .zero

theorem getD_set {α : Type} (l : List α) (i j : Nat) (a d : α) (hi : i < l.length) : (l.set i a).getD j d = if j = i then a else l.getD j d := by
  simp only [List.getD_eq_getElem?_getD]
  by_cases h : j = i
  · subst h; rw [if_pos rfl, List.getElem?_set_self hi]; rfl
  · rw [if_neg h, List.getElem?_set_ne (Ne.symm h)]

/-- One state after another. -/
def MLe (s s' : MSt) : Prop := ∀ i, s.2.getD i false = true → s'.2.getD i false = true ∧ s'.1.getD i .zero = s.1.getD i .zero
theorem MLe.refl (s : MSt) : MLe s s := fun i h => ⟨h, rfl⟩
theorem MLe.trans {a b c : MSt} (h : MLe a b) (k : MLe b c) : MLe a c := fun i hi => ⟨(k i (h i hi).1).1, (k i (h i hi).1).2.trans (h i hi).2⟩
theorem Agr.mono {s s' : MSt} {xs : List Ty} (h : MLe s s') (k : Agr s' xs) : Agr s xs := fun i hi => (k i (h i hi).1).trans (h i hi).2

theorem matchL_le : ∀ (l : List (Ty × (Ty → MSt → Bool × MSt))) (s : MSt) {n : Nat}, MOk n s → (∀ x ∈ l, ∀ s, MOk n s → MOk n (x.2 x.1 s).2 ∧ MLe s (x.2 x.1 s).2) → MLe s (matchL l s).2
  | [], s, n, _, _ => .refl _
  | (a, f) :: r, s, n, hs, hl => by
    have h1 := hl _ (List.mem_cons_self ..) s hs
    unfold matchL
    split
    · exact h1.2.trans (matchL_le r _ h1.1 fun x hx => hl x (List.mem_cons_of_mem _ hx))
    · exact h1.2

theorem matchT_le (ps : List Int) : ∀ (p t : Ty) (s : MSt), t.W → MOk ps.length s → MLe s (matchT ps t p s).2
  | .mk pk pi us, t, s, hw, hs => by
    rw [matchT]
    split
    · rename_i hc
      rw [Bool.and_eq_true, decide_eq_true_eq, decide_eq_true_eq] at hc
      have hlt := idxI_lt hc.2
      have hk : (idxI (fun x => decide (pi = x)) ps).toNat < ps.length := by omega
      split
      · exact .refl _
      · rename_i hb
        intro i hi
        simp only [getD_set _ _ _ _ _ (show (idxI (fun x => decide (pi = x)) ps).toNat < s.1.length by rw [hs.l1]; exact hk), getD_set _ _ _ _ _ (show (idxI (fun x => decide (pi = x)) ps).toNat < s.2.length by rw [hs.l2]; exact hk)]
        have hne : i ≠ (idxI (fun x => decide (pi = x)) ps).toNat := by rintro rfl; exact hb hi
        rw [if_neg hne, if_neg hne]
        exact ⟨hi, rfl⟩
    · split
      · exact .refl _
      · refine matchL_le _ _ hs ?_
        rintro ⟨a, f⟩ hx s hs
        have hx1 := List.of_mem_zip hx
        obtain ⟨u, hu, rfl⟩ := List.mem_map.1 hx1.2
        exact ⟨matchT_ok ps u a s (hw.arg hx1.1) hs, matchT_le ps u a s (hw.arg hx1.1) hs⟩

/-- What a list of arguments that agrees with the state makes of the pattern. -/
theorem matchL_apply (ps : List Int) (xs : List Ty) (hn : xs.length = ps.length) : ∀ (ts us : List Ty) (s : MSt), ts.length = us.length → MOk ps.length s → (∀ t ∈ ts, t.W) →
    (∀ u ∈ us, ∀ (t : Ty) (s : MSt), t.W → MOk ps.length s → (matchT ps t u s).1 = true → Agr (matchT ps t u s).2 xs → mapT (appG ps xs) u = t) →
    (matchL (ts.zip (us.map fun u => fun a s => matchT ps a u s)) s).1 = true → Agr (matchL (ts.zip (us.map fun u => fun a s => matchT ps a u s)) s).2 xs → us.map (mapT (appG ps xs)) = ts
  | [], [], s, _, _, _, _, _, _ => rfl
  | t :: ts, u :: us, s, hl, hs, hw, ih, h1, h2 => by
    simp only [List.map_cons, List.zip_cons_cons, matchL] at h1 h2
    split at h1
    · rename_i hm
      rw [if_pos hm] at h2
      have hw1 := hw t (List.mem_cons_self ..)
      have hok := matchT_ok ps u t s hw1 hs
      have hle : MLe (matchT ps t u s).2 (matchL (ts.zip (us.map fun u => fun a s => matchT ps a u s)) (matchT ps t u s).2).2 := by
        refine matchL_le _ _ hok ?_
        rintro ⟨a, f⟩ hx s hs
        have hx1 := List.of_mem_zip hx
        obtain ⟨u, hu, rfl⟩ := List.mem_map.1 hx1.2
        have hwa := hw a (List.mem_cons_of_mem _ hx1.1)
        exact ⟨matchT_ok ps u a s hwa hs, matchT_le ps u a s hwa hs⟩
      rw [List.map_cons, ih u (List.mem_cons_self ..) t s hw1 hs hm (h2.mono hle),
        matchL_apply ps xs hn ts us _ (by simpa using hl) hok (fun t ht => hw t (List.mem_cons_of_mem _ ht)) (fun u hu => ih u (List.mem_cons_of_mem _ hu)) h1 h2]
    · cases h1

theorem matchT_apply (ps : List Int) (xs : List Ty) (hn : xs.length = ps.length) : ∀ (p t : Ty) (s : MSt), t.W → MOk ps.length s → (matchT ps t p s).1 = true → Agr (matchT ps t p s).2 xs → mapT (appG ps xs) p = t
  | .mk pk pi us, t, s, hw, hs, h1, h2 => by
    rw [matchT] at h1 h2
    rw [mapT]
    by_cases hc : (decide (pk = 2) && decide (idxI (fun x => decide (pi = x)) ps ≥ 0)) = true
    · rw [if_pos hc] at h1 h2
      rw [Bool.and_eq_true, decide_eq_true_eq, decide_eq_true_eq] at hc
      have hlt := idxI_lt hc.2
      have hk : (idxI (fun x => decide (pi = x)) ps).toNat < ps.length := by omega
      have hg : appG ps xs (.mk pk pi us) = (xs.getD (idxI (fun x => decide (pi = x)) ps).toNat .zero, true) := by
        unfold appG
        rw [if_neg]
        · rfl
        · intro hh
          rw [Bool.or_eq_true, Bool.or_eq_true] at hh
          rcases hh with (hh | hh) | hh
          · simp [Ty.kind, hc.1] at hh
          · have : idxI (fun x => decide (pi = x)) ps < 0 := of_decide_eq_true hh
            omega
          · have : idxI (fun x => decide (pi = x)) ps ≥ xs.length := of_decide_eq_true hh
            omega
      rw [hg, if_pos rfl]
      split at h1
      · rename_i hb
        rw [if_pos hb] at h2
        rw [h2 _ hb]
        exact (Ty.eqb_iff _ _).1 h1
      · rename_i hb
        rw [if_neg hb] at h2
        have := h2 (idxI (fun x => decide (pi = x)) ps).toNat (by rw [getD_set _ _ _ _ _ (by rw [hs.l2]; exact hk), if_pos rfl])
        rw [this, getD_set _ _ _ _ _ (by rw [hs.l1]; exact hk), if_pos rfl]
    · rw [if_neg hc] at h1 h2
      have hg : (appG ps xs (.mk pk pi us)).2 = false := by
        unfold appG
        rw [if_pos]
        simp only [Ty.kind, Ty.id]
        rw [Bool.or_eq_true, Bool.or_eq_true]
        by_cases hk : pk = 2
        · exact .inl (.inr (decide_eq_true (Int.not_le.1 fun q => hc (by rw [Bool.and_eq_true, decide_eq_true_eq, decide_eq_true_eq]; exact ⟨hk, q⟩))))
        · exact .inl (.inl (by simp [hk]))
      rw [hg, if_neg (by simp)]
      split at h1
      · cases h1
      · rename_i hd
        rw [if_neg hd] at h2
        simp at hd
        obtain ⟨⟨e1, e2⟩, e3⟩ := hd
        have := matchL_apply ps xs hn t.args us s (by omega) hs (fun t ht => hw.arg ht) (fun u hu t s => matchT_apply ps xs hn u t s) h1 h2
        rw [this, ← e1, ← e2]
        exact Ty.eta t

/-- Matching what Apply made. -/
structure MRt (ps : List Int) (xs : List Ty) (s : MSt) : Prop where
  agr : Agr s xs
  zero : ∀ i, s.2.getD i false = false → s.1.getD i .zero = .zero

theorem matchL_round (ps : List Int) (xs : List Ty) (hn : ps.length ≤ xs.length) (hW : ∀ x ∈ xs, x.W) : ∀ (us : List Ty) (s : MSt), MOk ps.length s → MRt ps xs s → (∀ t ∈ us.map (mapT (appG ps xs)), t.W) →
    (∀ u ∈ us, ∀ (s : MSt), (mapT (appG ps xs) u).W → MOk ps.length s → MRt ps xs s → (matchT ps (mapT (appG ps xs) u) u s).1 = true ∧ MRt ps xs (matchT ps (mapT (appG ps xs) u) u s).2) →
    (matchL ((us.map (mapT (appG ps xs))).zip (us.map fun u => fun a s => matchT ps a u s)) s).1 = true ∧ MRt ps xs (matchL ((us.map (mapT (appG ps xs))).zip (us.map fun u => fun a s => matchT ps a u s)) s).2
  | [], s, _, h, _, _ => ⟨rfl, h⟩
  | u :: us, s, hs, h, hw, ih => by
    have hw1 := hw _ (by simp : mapT (appG ps xs) u ∈ (u :: us).map (mapT (appG ps xs)))
    obtain ⟨h1, h2⟩ := ih u (List.mem_cons_self ..) s hw1 hs h
    simp only [List.map_cons, List.zip_cons_cons, matchL, h1, if_true]
    exact matchL_round ps xs hn hW us _ (matchT_ok ps u _ s hw1 hs) h2 (fun t ht => hw t (by rw [List.map_cons]; exact List.mem_cons_of_mem _ ht)) fun u hu => ih u (List.mem_cons_of_mem _ hu)

theorem matchT_round (ps : List Int) (xs : List Ty) (hn : ps.length ≤ xs.length) (hW : ∀ x ∈ xs, x.W) : ∀ (p : Ty) (s : MSt), (mapT (appG ps xs) p).W → MOk ps.length s → MRt ps xs s →
    (matchT ps (mapT (appG ps xs) p) p s).1 = true ∧ MRt ps xs (matchT ps (mapT (appG ps xs) p) p s).2
  | .mk pk pi us, s, hw, hs, h => by
    by_cases hc : (decide (pk = 2) && decide (idxI (fun x => decide (pi = x)) ps ≥ 0)) = true
    · have hc' := hc
      rw [Bool.and_eq_true, decide_eq_true_eq, decide_eq_true_eq] at hc
      have hlt := idxI_lt hc.2
      have hk : (idxI (fun x => decide (pi = x)) ps).toNat < ps.length := by omega
      have hg : appG ps xs (.mk pk pi us) = (xs.getD (idxI (fun x => decide (pi = x)) ps).toNat .zero, true) := by
        unfold appG
        rw [if_neg]
        · rfl
        · intro hh
          rw [Bool.or_eq_true, Bool.or_eq_true] at hh
          rcases hh with (hh | hh) | hh
          · simp [Ty.kind, hc.1] at hh
          · have : idxI (fun x => decide (pi = x)) ps < 0 := of_decide_eq_true hh
            omega
          · have : idxI (fun x => decide (pi = x)) ps ≥ xs.length := of_decide_eq_true hh
            omega
      have hmap : mapT (appG ps xs) (.mk pk pi us) = xs.getD (idxI (fun x => decide (pi = x)) ps).toNat .zero := by rw [mapT, hg, if_pos rfl]
      rw [hmap, matchT, if_pos hc']
      split
      · rename_i hb
        exact ⟨(Ty.eqb_iff _ _).2 (h.agr _ hb).symm, h⟩
      · rename_i hb
        refine ⟨rfl, ?_, ?_⟩
        · intro i hi
          simp only [getD_set _ _ _ _ _ (show (idxI (fun x => decide (pi = x)) ps).toNat < s.1.length by rw [hs.l1]; exact hk)]
          rw [getD_set _ _ _ _ _ (by rw [hs.l2]; exact hk)] at hi
          split
          · rename_i e; rw [e]
          · rename_i e; rw [if_neg e] at hi; exact h.agr i hi
        · intro i hi
          simp only [getD_set _ _ _ _ _ (show (idxI (fun x => decide (pi = x)) ps).toNat < s.1.length by rw [hs.l1]; exact hk)]
          rw [getD_set _ _ _ _ _ (by rw [hs.l2]; exact hk)] at hi
          split
          · rename_i e; rw [if_pos e] at hi; cases hi
          · rename_i e; rw [if_neg e] at hi; exact h.zero i hi
    · have hg : (appG ps xs (.mk pk pi us)).2 = false := by
        unfold appG
        rw [if_pos]
        simp only [Ty.kind, Ty.id]
        rw [Bool.or_eq_true, Bool.or_eq_true]
        by_cases hk : pk = 2
        · exact .inl (.inr (decide_eq_true (Int.not_le.1 fun q => hc (by rw [Bool.and_eq_true, decide_eq_true_eq, decide_eq_true_eq]; exact ⟨hk, q⟩))))
        · exact .inl (.inl (by simp [hk]))
      have hmap : mapT (appG ps xs) (.mk pk pi us) = .mk pk pi (us.map (mapT (appG ps xs))) := by rw [mapT, hg, if_neg (by simp)]
      rw [hmap] at hw ⊢
      rw [matchT, if_neg hc, if_neg (by simp [Ty.kind, Ty.id, Ty.args])]
      exact matchL_round ps xs hn hW us s hs h (fun t ht => hw.arg ht) fun u hu s => matchT_round ps xs hn hW u s

theorem mapT_W {g : Ty → Ty × Bool} (hg : ∀ u, (g u).2 = true → (g u).1.W) : ∀ t, t.W → (mapT g t).W
  | .mk k i us, h => by
    rw [mapT]
    split
    · rename_i hb; exact hg _ hb
    · refine .mk (by rw [List.length_map]; exact h.len) fun v hv => ?_
      obtain ⟨u, hu, rfl⟩ := List.mem_map.1 hv
      exact mapT_W hg u (h.arg hu)
theorem app_W {ps : List Int} {xs : List Ty} (hw : ∀ x ∈ xs, x.W) {t : Ty} (ht : t.W) : (mapT (appG ps xs) t).W :=
  mapT_W (fun u hu => by
    unfold appG at hu ⊢
    split at hu
    · cases hu
    · rename_i hc
      rw [if_neg hc]
      simp only
      rw [List.getD_eq_getElem?_getD]
      cases hq : xs[(idxI (fun x => decide (u.id = x)) ps).toNat]? with
      | none => exact .mk (by simp) (by simp)
      | some a => exact hw a (List.mem_of_getElem? hq)) t ht

theorem ins_W {ps : List Int} {v : Int} {t : Ty} (ht : t.W) : (mapT (insG ps v) t).W :=
  mapT_W (fun u hu => by
    unfold insG at hu ⊢
    split at hu
    · cases hu
    · rename_i hc
      rw [if_neg hc]
      exact .mk (by simp) (by simp)) t ht

/-- Match, then Apply. -/
theorem match_apply (ps : List Int) (t p : Ty) (hw : t.W) (h : (matchP ps t p).2 = true) : (matchP ps t p).1.length = ps.length ∧ mapT (appG ps (matchP ps t p).1) p = t := by
  unfold matchP at h ⊢
  split at h
  · rename_i hm
    rw [if_pos hm]
    have hok := matchT_ok ps p t (mS0 ps) hw (mS0_ok ps)
    exact ⟨hok.l1, matchT_apply ps _ hok.l1 p t (mS0 ps) hw (mS0_ok ps) hm fun i _ => rfl⟩
  · cases h
theorem match_none (ps : List Int) (t p : Ty) (h : (matchP ps t p).2 = false) : (matchP ps t p).1 = [] := by
  unfold matchP at h ⊢
  split at h
  · cases h
  · rename_i hm; rw [if_neg hm]
theorem matchP_W (ps : List Int) (t p : Ty) (hw : t.W) : ∀ a ∈ (matchP ps t p).1, a.W := by
  unfold matchP
  split
  · exact (matchT_ok ps p t (mS0 ps) hw (mS0_ok ps)).w
  · simp
/-- Apply, then Match. -/
theorem apply_match (ps : List Int) (xs : List Ty) (p : Ty) (hn : ps.length ≤ xs.length) (hW : ∀ x ∈ xs, x.W) (hp : p.W) :
    (matchP ps (mapT (appG ps xs) p) p).2 = true ∧ (matchP ps (mapT (appG ps xs) p) p).1.length = ps.length ∧
    ∀ i (h : i < (matchP ps (mapT (appG ps xs) p) p).1.length), ((matchP ps (mapT (appG ps xs) p) p).1[i]).kind ≠ 0 → (matchP ps (mapT (appG ps xs) p) p).1[i] = xs.getD i .zero := by
  have hw := app_W (ps := ps) hW hp
  have h0 : MRt ps xs (mS0 ps) := by
    refine ⟨fun i hi => ?_, fun i _ => ?_⟩
    · simp only [mS0, List.getD_eq_getElem?_getD] at hi
      rw [List.getElem?_replicate] at hi
      split at hi <;> cases hi
    · simp only [mS0, List.getD_eq_getElem?_getD]
      rw [List.getElem?_replicate]
      split <;> rfl
  obtain ⟨h1, h2⟩ := matchT_round ps xs hn hW p (mS0 ps) hw (mS0_ok ps) h0
  have hok := matchT_ok ps p _ (mS0 ps) hw (mS0_ok ps)
  simp only [matchP, h1, if_true]
  refine ⟨trivial, hok.l1, fun i hi hne => ?_⟩
  have hget : (matchT ps (mapT (appG ps xs) p) p (mS0 ps)).2.1.getD i .zero = (matchT ps (mapT (appG ps xs) p) p (mS0 ps)).2.1[i] := by
    rw [List.getD_eq_getElem?_getD, List.getElem?_eq_getElem hi, Option.getD_some]
  cases hb : (matchT ps (mapT (appG ps xs) p) p (mS0 ps)).2.2.getD i false with
  | true => rw [← hget]; exact (h2.agr i hb).symm
  | false => rw [← hget, h2.zero i hb] at hne; exact (hne rfl).elim
end Go.Abs
namespace Go.Abs
theorem bel_Ty (n : Nat) (us : List Ty) : Bel n (.slice (us.map Ty.enc) .none) := bel_slice_ty n us
theorem bel_Int (n : Nat) (us : List Int) : Bel n (.slice (us.map vint) .none) := bel_ints0 n us
/-- A row of patterns. -/
abbrev rowE (r : Row) : PV := .slice (r.map Ty.enc) .none
theorem bel_Row (n : Nat) (us : List Row) : Bel n (.slice (us.map rowE) .none) := .slice _ _ (fun e he c hc => by
  obtain ⟨r, _, rfl⟩ := List.mem_map.1 he
  simp [PV.cells] at hc
  subst hc; exact bel_slice_ty _ _) (by simp)
theorem bel_Row_tok {n id : Nat} (us : List Row) (h : id < n) : Bel n (.slice (us.map rowE) (.tok id)) := by
  have := bel_Row n us
  cases this with
  | slice _ _ h1 h2 => exact .slice _ _ h1 (fun _ e => by cases e; exact h)
theorem bel_Row_full {n : Nat} (us : List Row) : Bel n (.slice (us.map rowE) .full) := by
  have := bel_Row n us
  cases this with
  | slice _ _ h1 h2 => exact .slice _ _ h1 (fun _ e => by cases e)
theorem bel_iptr (n : Nat) (v : Dv) : Bel n (.iptr v.enc.cells) := by
  rw [Dv.enc_cells]
  exact .iptr _ (by simp [bel_ints0, Bel.int])
theorem bel_iptr2 (n : Nat) (i : Int) (fs : List Int) : Bel n (.iptr [.int .i64 i, .slice (fs.map vint) .none]) := bel_iptr n ⟨i, fs⟩
/-- Rules for rows. -/
theorem RwS : (∀ r : Row, (rowE r).cells = [rowE r]) ∧ (∀ r : Row, (rowE r).isJunk = false) ∧ (∀ r : Row, (rowE r).drop1 = rowE r) ∧ (∀ r : Row, (rowE r).drop0 = rowE r) ∧ (∀ (r : Row) (b : Nat), (rowE r).fits ⟨false, 1, b⟩ = true) :=
  ⟨fun _ => rfl, fun _ => rfl, fun _ => rfl, fun _ => rfl, fun _ _ => rfl⟩
theorem isE0 {α : Type} (l : List α) : l.isEmpty = decide ((l.length : Int) = 0) := by cases l with
  | nil => rfl
  | cons a l => simp; omega
/-- The receiver of the methods. -/
abbrev mE (ds : List Dm) : PV := .agg [.slice (ds.map Dm.enc) .none]
theorem bel_mE (n : Nat) (ds : List Dm) : Bel n (mE ds) := .agg _ (by simp [bel_Dm])
/-- The lengths are what rows bear. -/
structure DsW (ds : List Dm) : Prop where
  len : ds.length * 32 ≤ 2 ^ 47
  el : ∀ d ∈ ds, d.W
theorem DsW.max {ds : List Dm} (h : DsW ds) : ds.length ≤ maxLen := by
  have em : maxLen = 9223372036854775807 := by decide
  have := h.len; omega
theorem ix_dom {ds : List Dm} {d : Int} (h : okIx ds d = true) : ((0 : Int) ≤ d ∧ d < ds.length) = True ∧ (ds.map Dm.enc)[d.toNat]? = some (domOf ds d).enc := by
  simp only [okIx, Bool.and_eq_true, decide_eq_true_eq] at h
  have hl : d.toNat < ds.length := by omega
  refine ⟨by simp [h], ?_⟩
  unfold domOf
  rw [List.getElem?_map, List.getD_eq_getElem?_getD, List.getElem?_eq_getElem hl]
  rfl
/-- A pointer to a variant, or none. -/
def vptr : Option Dv → PV
  | none => .nilp
  | some v => .iptr v.enc.cells
theorem findV_idx (d : Dm) (i : Int) : (findV d i = none ∧ idxI (fun v : Dv => decide (v.id = i)) d.vs = -1) ∨ (∃ (n : Nat) (h : n < d.vs.length), idxI (fun v : Dv => decide (v.id = i)) d.vs = n ∧ findV d i = some d.vs[n]) := by
  unfold findV idxI
  cases h : d.vs.findIdx? (fun v : Dv => decide (v.id = i)) with
  | none =>
    left
    rw [List.findIdx?_eq_none_iff] at h
    exact ⟨List.find?_eq_none.2 (fun x hx => by simpa using h x hx), rfl⟩
  | some n =>
    right
    obtain ⟨h1, h2, h3⟩ := List.findIdx?_eq_some_iff_getElem.1 h
    refine ⟨n, h1, rfl, ?_⟩
    rw [List.find?_eq_some_iff_getElem]
    exact ⟨h2, n, h1, rfl, fun j hj => by simpa using h3 j hj⟩
theorem confL_iff (ds : List Dm) : ∀ (us : List Ty) (fs : List Int), confL ds us fs = true ↔ us.length = fs.length ∧ ∀ j (h1 : j < us.length) (h2 : j < fs.length), confP ds us[j] fs[j] = true
  | [], [] => by simp [confL]
  | [], f :: fs => by simp [confL]
  | u :: us, [] => by simp [confL]
  | u :: us, f :: fs => by
    simp only [confL, Bool.and_eq_true, confL_iff ds us fs, List.length_cons, Nat.add_right_cancel_iff]
    constructor
    · rintro ⟨h1, h2, h3⟩
      refine ⟨h2, fun j h4 h5 => ?_⟩
      cases j with
      | zero => exact h1
      | succ j => exact h3 j (by omega) (by omega)
    · rintro ⟨h1, h2⟩
      exact ⟨h2 0 (by simp) (by simp), h1, fun j h4 h5 => h2 (j + 1) (by simpa using h4) (by simpa using h5)⟩
theorem matL_iff : ∀ (us : List Ty) (vs : List Ty), matL us vs = true ↔ us.length = vs.length ∧ ∀ j (h1 : j < us.length) (h2 : j < vs.length), matP us[j] vs[j] = true
  | [], [] => by simp [matL]
  | [], f :: fs => by simp [matL]
  | u :: us, [] => by simp [matL]
  | u :: us, f :: fs => by
    simp only [matL, Bool.and_eq_true, matL_iff us fs, List.length_cons, Nat.add_right_cancel_iff]
    constructor
    · rintro ⟨h1, h2, h3⟩
      refine ⟨h2, fun j h4 h5 => ?_⟩
      cases j with
      | zero => exact h1
      | succ j => exact h3 j (by omega) (by omega)
    · rintro ⟨h1, h2⟩
      exact ⟨h2 0 (by simp) (by simp), h1, fun j h4 h5 => h2 (j + 1) (by simpa using h4) (by simpa using h5)⟩
theorem Ty.size_mem {a : Ty} : ∀ {ts : List Ty}, a ∈ ts → a.size ≤ Ty.sizes ts
  | [], h => by cases h
  | t :: ts, h => by
    simp only [Ty.sizes]
    rcases List.mem_cons.1 h with rfl | h
    · omega
    · have := Ty.size_mem h; omega
theorem Ty.size_args (a : Ty) : a.size = 1 + Ty.sizes a.args := by cases a; simp [Ty.size, Ty.args]
/-- patternCount, as it counts. -/
def pcL : List Int → Int → Int
  | [], n => n
  | c :: cs, n => if n > 20 then n else pcL cs (IntKind.i64.wrap (n + c))
def pcT : Ty → Int
  | .mk _ _ us => pcL (us.map fun u => pcT u) 1
theorem pcT_eq (t : Ty) : pcT t = pcL (t.args.map pcT) 1 := by cases t; rw [pcT]; rfl
theorem pcL_drop {us : List Ty} {i : Nat} (hi : i < us.length) {n : Int} : pcL ((us.drop i).map pcT) n = if n > 20 then n else pcL ((us.drop (i + 1)).map pcT) (IntKind.i64.wrap (n + pcT us[i])) := by
  rw [List.drop_eq_getElem_cons hi]; rfl
/-- One variant of a domain is valid. -/
def vOk (ds : List Dm) (d : Dm) (j : Nat) : Bool := !((d.vs.take j).any fun u => decide (u.id = (d.vs.getD j .zero).id)) && !((d.vs.getD j .zero).fields.any fun f => !okIx ds f)
def vKind (d : Dm) : Bool := (decide (d.kind < 0) || decide (d.kind > 3)) || (!decide (d.kind = 1) && decide ((d.vs.length : Int) > 0))
/-- The variants of a domain are valid. -/
def vvar (ds : List Dm) (d : Dm) : Bool := !vKind d && (List.range d.vs.length).all (vOk ds d)
theorem range_succ_all {p : Nat → Bool} {i : Nat} (h : (List.range i).all p = true) (hp : p i = true) : (List.range (i + 1)).all p = true := by
  rw [List.range_succ, List.all_append, h]; simp [hp]
theorem range_not_all {p : Nat → Bool} {i n : Nat} (h : i < n) (hp : p i = false) : (List.range n).all p = false := by
  rw [List.all_eq_false]; exact ⟨i, List.mem_range.2 h, by simp [hp]⟩
theorem take_any_succ {α : Type} (p : α → Bool) {xs : List α} {i : Nat} (hi : i < xs.length) : (xs.take (i + 1)).any p = ((xs.take i).any p || p xs[i]) := by
  rw [List.take_succ_eq_append_getElem hi, List.any_append]; simp
/-- What Validate looks at first. -/
def bigD (d : Dm) : Bool := decide ((d.vs.length : Int) > 8) || d.vs.any fun v => decide ((v.fields.length : Int) > 4)
def big0 (ds : List Dm) (cols : List Int) (rows : List Row) : Bool := (decide ((ds.length : Int) > 20) || decide ((cols.length : Int) > 6)) || decide ((rows.length : Int) > 12)
def bigM (ds : List Dm) (cols : List Int) (rows : List Row) : Bool := big0 ds cols rows || ds.any bigD
def rowOk (ds : List Dm) (cols : List Int) (row : Row) : Bool := (decide (row.length = cols.length) && !decide (pcT (.mk 0 0 row) > 21)) && confL ds row cols
/-- What Validate answers. -/
def validM (ds : List Dm) (cols : List Int) (rows : List Row) : Int :=
  if bigM ds cols rows then 2 else if (ds.any fun d => !vvar ds d) || cols.any fun c => !okIx ds c then 3 else if rows.all (rowOk ds cols) then 0 else 3
theorem vvar_dok {ds : List Dm} (h : (ds.any fun d => !vvar ds d) = false) : DOk ds ∧ UniqV ds := by
  have hv : ∀ d ∈ ds, vKind d = false ∧ ∀ j, j < d.vs.length → vOk ds d j = true := fun d hd => by
    have := List.any_eq_false.1 h d hd
    simp only [Bool.not_eq_true, Bool.not_eq_false'] at this
    unfold vvar at this
    simp only [Bool.and_eq_true, Bool.not_eq_true', List.all_eq_true, List.mem_range] at this
    exact this
  have get : ∀ (d : Dm) j (hj : j < d.vs.length), d.vs.getD j .zero = d.vs[j] := fun d j hj => by rw [List.getD_eq_getElem?_getD, List.getElem?_eq_getElem hj]; rfl
  refine ⟨⟨fun d hd => ?_, fun d hd v hvm f hf => ?_⟩, fun d hd v hvm => ?_⟩
  · have := (hv d hd).1
    unfold vKind at this
    simp at this; omega
  · obtain ⟨j, hj, rfl⟩ := List.mem_iff_getElem.1 hvm
    have := (hv d hd).2 j hj
    unfold vOk at this
    rw [get d j hj] at this
    simp only [Bool.and_eq_true, Bool.not_eq_true', List.any_eq_false] at this
    have := this.2 f hf
    simpa using this
  · obtain ⟨j, hj, rfl⟩ := List.mem_iff_getElem.1 hvm
    have := (hv d hd).2 j hj
    unfold vOk at this
    rw [get d j hj] at this
    simp only [Bool.and_eq_true, Bool.not_eq_true', List.any_eq_false] at this
    unfold findV
    rw [List.find?_eq_some_iff_getElem]
    refine ⟨by simp, j, hj, rfl, fun i hi => ?_⟩
    have := this.1 d.vs[i] (by rw [List.mem_take_iff_getElem]; exact ⟨i, by omega, rfl⟩)
    simpa using this
/-- The lengths of rows are what memory bears. -/
structure RowsW (rows : List Row) : Prop where
  len : rows.length * 24 ≤ 2 ^ 47
  el : ∀ r ∈ rows, r.length * 40 ≤ 2 ^ 47 ∧ ∀ u ∈ r, u.W
theorem RowsW.max {rows : List Row} (h : RowsW rows) : rows.length ≤ maxLen := by
  have em : maxLen = 9223372036854775807 := by decide
  have := h.len; omega
structure MOK (ds : List Dm) (cols : List Int) (rows : List Row) : Prop where
  d : DOk ds
  u : UniqV ds
  f : Fld4 ds
  c : ColsOk ds cols
  r : RowsOk ds cols rows
  nd : ds.length ≤ 20
  nc : cols.length ≤ 6
  nr : rows.length ≤ 12
theorem valid_ok {ds : List Dm} {cols : List Int} {rows : List Row} (h : validM ds cols rows = 0) : MOK ds cols rows := by
  unfold validM at h
  split at h
  · cases h
  · rename_i h1
    split at h
    · cases h
    · rename_i h2
      split at h
      · rename_i h3
        simp only [Bool.or_eq_true, not_or, Bool.not_eq_true] at h2
        obtain ⟨q1, q2⟩ := vvar_dok h2.1
        have h1 : bigM ds cols rows = false := by simpa using h1
        unfold bigM big0 at h1
        simp only [Bool.or_eq_false_iff, decide_eq_false_iff_not] at h1
        refine ⟨q1, q2, fun d hd v hv => ?_, fun c hc => by have := List.any_eq_false.1 h2.2 c hc; simpa using this, fun r hr => ?_, by omega, by omega, by omega⟩
        · have := List.any_eq_false.1 h1.2 d hd
          unfold bigD at this
          simp only [Bool.or_eq_true, not_or, Bool.not_eq_true, List.any_eq_false] at this
          have := this.2 v hv
          simp at this; omega
        · have := List.all_eq_true.1 h3 r hr
          unfold rowOk at this
          simp only [Bool.and_eq_true] at this
          exact this.2
      · cases h
end Go.Abs
namespace Go.Abs
section
variable {P : Program} {N nb : Nat} {Q : Post}
/-- Paths that meet: from here on a state, its slots and its heap alone. -/
theorem awp_join {x y : Code} {T : Slots} {H : Heap} {σ : Type} (rep : σ → List (Nat × PV)) (hp : σ → Heap) (good : σ → Prop)
    (bel : ∀ s, good s → nb ≤ (hp s).length ∧ HBel (hp s).length (hp s) ∧ BelL (hp s).length (rep s))
    (hx : AWP P N nb x (thenQ (fun T' H' => ∃ s L, Fits T' (rep s) ∧ H' = hp s ++ L ∧ good s) Q) T H)
    (hy : ∀ s, good s → AWP P N nb y Q (mkS (rep s)) (hp s)) : AWP P N nb (.seq x y) Q T H := by
  refine awp_seq (hx.mono fun e T' H' he => ?_)
  cases e with
  | normal =>
    obtain ⟨s, L, h1, h2, h3⟩ := he
    obtain ⟨b1, b2, b3⟩ := bel s h3
    exact awp_fix (rep s) h1 h2 b1 b2 b3 (hy s h3)
  | _ => exact he
theorem awp_joinT {x y : Code} {Q0 : Post} {T : Slots} {H : Heap} {σ : Type} (rep : σ → List (Nat × PV)) (hp : σ → Heap) (good : σ → Prop)
    (bel : ∀ s, good s → nb ≤ (hp s).length ∧ HBel (hp s).length (hp s) ∧ BelL (hp s).length (rep s))
    (hx : AWP P N nb x (thenQ (fun T' H' => ∃ s L, Fits T' (rep s) ∧ H' = hp s ++ L ∧ good s) Q) T H)
    (hy : ∀ s, good s → AWP P N nb y Q0 (mkS (rep s)) (hp s)) : AWP P N nb x (thenQ (AWP P N nb y Q0) Q) T H := by
  refine hx.mono fun e T' H' he => ?_
  cases e with
  | normal =>
    obtain ⟨s, L, h1, h2, h3⟩ := he
    obtain ⟨b1, b2, b3⟩ := bel s h3
    exact awp_fix (rep s) h1 h2 b1 b2 b3 (hy s h3)
  | _ => exact he
end
theorem aops_gskip {P : Program} {N nb : Nat} {ops : Array Oper} {Q : Exit → Slots → Heap → Prop} {o : Oper} {l : List Oper} {T : Slots} {G : Nat → Bool} {H : Heap} {r : PV} (hc : gcond ops.toList T G N o = some false)
    (h : AOps P N nb ops Q l (msk (.tup []) (updO T o.dst r) (ugO G o.dst false)) H) : AOps P N nb ops Q (o :: l) (msk (.tup []) T G) H := by
  rw [msk_put_false] at h
  exact aops_skipU (fun E a ht => gcond_false ht hc) h
theorem guard_sl {P : Program} {w : World} (op : BinOp) (t : TypeId) (x y : Operand) (a b : Option Addr) (n m k l : Nat) : (eqGuard op t x y (.slice a n m) (.slice b k l)).run P w = .ok () w := by
  cases op <;> rfl
/-- A comparison of a slice with nil. -/
theorem aops_nilcmp {P : Program} {N nb : Nat} {ops : Array Oper} {Q : Post} {o : Oper} {l : List Oper} {T : Slots} {H : Heap} {t y : TypeId} {x : Operand} {es : List PV} {tl : Tail}
    (hop : o.op = .binOp .eql t x (.const (.slice none 0 0)) y) (hx : aev T x = .slice es tl) (hw : awanted ops.toList T N o = some true) (hok : okOpnd N x = true) (hte : (telem P t).isSome = true)
    (h : ∀ b, (es ≠ [] → b = false) → AOps P N nb ops Q l (updO T o.dst (.bool b)) H) : AOps P N nb ops Q (o :: l) T H := by
  intro E a ho hH ht
  have hr := vrel_eval ht x hok
  rw [hx] at hr
  obtain ⟨e, hu⟩ := telem_isSome hte
  obtain ⟨b, hb, hres⟩ : ∃ b, (es ≠ [] → b = false) ∧ (execOp a.eval o).run P E.w = .ok (.value (.bool b)) E.w := by
    have hc : a.eval (.const (.slice none 0 0)) = .slice none 0 0 := rfl
    generalize hvx : a.eval x = vx at hr
    cases hr with
    | nils _ _ =>
      refine ⟨true, fun h => (h rfl).elim, ?_⟩
      have he : (Op.equal t (.slice none 0 0) (.slice none 0 0)).run P E.w = .ok true E.w := by
        have key : ∀ d, (Op.equalIn (d + 1) t (.slice none 0 0) (.slice none 0 0)).run P E.w = .ok true E.w := by
          intro d; simp only [Op.equalIn, Sem.run_bind, run_under hu, Result.andThen_ok, Sem.run_pure, Option.isNone_none]
        exact key 9999
      unfold execOp
      rw [hop]
      simp only [Sem.run_bind, hc, hvx, guard_sl, Result.andThen_ok, binOp, he, Sem.run_pure]
    | slice a' len cap sz _ _ vs h1 h2 h3 h4 h5 h6 h7 =>
      refine ⟨false, fun _ => rfl, ?_⟩
      have he : (Op.equal t (.slice (some a') len cap) (.slice none 0 0)).run P E.w = .ok false E.w := by
        have key : ∀ d, (Op.equalIn (d + 1) t (.slice (some a') len cap) (.slice none 0 0)).run P E.w = .ok false E.w := by
          intro d; simp only [Op.equalIn, Sem.run_bind, run_under hu, Result.andThen_ok, Sem.run_pure]
        exact key 9999
      unfold execOp
      rw [hop]
      simp only [Sem.run_bind, hc, hvx, guard_sl, Result.andThen_ok, binOp, he, Sem.run_pure]
  have hn := h b hb E (a.put o.dst (.bool b)) ho hH (ht.put o.dst (.bool b))
  refine wpList_cons (awanted_sound ht hw) ?_
  unfold Oper.wp
  rw [hres]
  exact hn
/-- An empty slice, and a list behind it. -/
theorem aappend_all {i : TI} {fresh : Nat} {H : Heap} {ys : List PV} {tl : Tail} (hne : ys ≠ []) (hb : ys.length * i.bytes ≤ 2 ^ 47) (hm : ys.length ≤ maxLen)
    (hys : ∀ e ∈ ys, e.cells.length = i.sz ∧ e.cells.all PV.isCell = true) (hs : 0 < i.sz) :
    aappend i fresh H (.slice [] .full) (.slice ys tl) = some (.slice ys (.tok fresh), some (fresh, .buf ys.length i.sz)) := by
  unfold aappend
  simp only [if_neg hne, List.length_nil, Nat.zero_add]
  rw [if_pos ⟨hb, hm, by simp, hys, hs⟩]
  rfl
section
variable {P : Program} {N nb : Nat} {Q : Post}
/-- An operation that lays something new at a place that is named ahead. -/
theorem aops_opF {ops : Array Oper} {o : Oper} {l : List Oper} {T : Slots} {H : Heap} (mt : Bool) (id : Nat) {v : PV} {e : Eff} {H' : Heap} (hid : H[id]? = some .unborn) (hw : awanted ops.toList T N o = some true) (hok : okOp N o.op = true)
    (hv : aop P mt id T H o.op = some (v, e)) (hH' : e.app H = H') (h : AOps P N nb ops Q l (updO T o.dst v) H') : AOps P N nb ops Q (o :: l) T H := by
  refine aops_done hw (fun E a ho hH ht => ?_) h
  subst hH
  obtain ⟨E', val, h1, h2, h3, h4, h5⟩ := aop_sound ho ht hok hv (fun ob he => hid)
  exact ⟨E', val, h1, h2, h3, h4.trans hH', h5⟩
/-- A slice in a slot, made a token's at a place that is named ahead. -/
theorem awp_retokF {c : Code} {T : Slots} {H : Heap} (id t sz : Nat) {es : List PV} (hid : H[id]? = some .unborn) (ht : T t = .slice es .full) (h : AWP P N nb c Q (upd T t (.slice es (.tok id))) (H.set id (.buf es.length sz))) : AWP P N nb c Q T H := by
  intro E a ho hH hr
  subst hH
  have ho2 := Env.Ok.retok (n := es.length) (sz := sz) ho hid
  have hle := Env.retok_le (n := es.length) (sz := sz) hid
  have hH2 : (E.retok id es.length sz).H = E.H.set id (.buf es.length sz) := rfl
  have hlen := len_of_get hid
  have := h (E.retok id es.length sz) a ho2 hH2 ⟨hr.size, hr.defers, fun i hi => ?_⟩
  · exact wp_mono this fun e a w hl => lift_mono (hle.leN nb) (fun _ _ _ q => q) hl
  · have h0 := (hr.rel i hi).mono hle.view
    unfold upd
    split
    · rename_i e
      subst e
      rw [ht] at h0
      refine h0.retok ⟨.buf es.length sz, by rw [hH2]; simp [hlen], by simp⟩ (fun t e => ?_)
      simp only [Env.view, hH2, List.getElem?_set_self hlen, Option.some.injEq] at e
      subst e; exact Nat.le_refl _
    · exact h0
end
/-- A call in a region that draws, which lays something new at a place that is named ahead. -/
theorem dops_fx {P : Program} {N : Nat} {Q : Post} {ops : Array Oper} {bm : List Nat} {k : Nat} {o : Oper} {l : List Oper} {prev : Prev} {T : Slots} {H : Heap} {f : FuncId} {args : List PV} {r : PV} (rd : List Nat) (id : Nat) (ob : AObj) (hbm : bmasks ops.toList = bm) (hcall : acall T o.op = some (f, args)) (hw : awanted ops.toList T N o = some true) (hok : okOp N o.op = true)
    (hgo : goFn P f = true) (hc : ∀ H' : Heap, (∀ id ∈ rd, H'[id]? = H[id]?) → ACalls P f args H' fun r' H'' => r' = r ∧ H'' = H'.set id ob) (hid : id ∈ rd)
    (hap : hapB (bm.getD k 0) prev rd [id] = true) (h : DOps P N ops Q (k + 1) l (prev ++ [(k, rd, [id])]) (updO T o.dst r) (H.set id ob)) : DOps P N ops Q k (o :: l) prev T H := by
  obtain ⟨fo, xs, ts, pf, pc, h1, h2, h3⟩ := acall_spec hcall
  exact dops_call (eff := [(id, ob)]) (rd := rd) h1 hw hok h2 hgo h3 (by simp [hid]) (fun H' hH _ => hc H' hH) (hapB_spec (eff := [(id, ob)]) (by rw [hbm]; exact hap)) h
end Go.Abs
namespace Go.Abs
/-! Drawn regions in which nothing is laid: the order is of no account. -/
def NoEff (prev : Prev) : Prop := ∀ p ∈ prev, p.2.2 = []
theorem hapB_noeff {prev : Prev} (h : NoEff prev) (m : Nat) (rd : List Nat) : hapB m prev rd [] = true := by
  unfold hapB
  rw [List.all_eq_true]
  intro p hp
  rw [h p hp]; simp
theorem NoEff.app {prev : Prev} (h : NoEff prev) (k : Nat) (rd : List Nat) : NoEff (prev ++ [(k, rd, [])]) := by
  intro p hp
  rcases List.mem_append.1 hp with hp | hp
  · exact h p hp
  · rw [List.mem_singleton] at hp; rw [hp]
section
variable {P : Program} {N nb : Nat} {ops : Array Oper} {Q : Post}
def DP (P : Program) (N : Nat) (ops : Array Oper) (Q : Post) (k : Nat) (l : List Oper) (T : Slots) (H : Heap) : Prop := ∀ prev, NoEff prev → DOps P N ops (fun e T1 H1 => ∃ T2, (∀ i, T2 i = .junk ∨ T2 i = T1 i) ∧ Q e T2 H1) k l prev T H
theorem dp_draw {id : Nat} {T : Slots} {H : Heap} (hok : drawOk P ops.toList = true) (h : DP P N ops Q 0 ops.toList (msk (.tup []) T allG) H) : AWP P N nb (.region id ops true) Q T H := by
  refine awp_drawW 0 hok ?_
  have := h [] (by intro p hp; cases hp)
  simp only [List.replicate_zero, List.append_nil]
  exact this
def ps2 (o : Oper) (T : Slots) (G : Nat → Bool) (H : Heap) (c : Bool) : Option (PV × Eff) → Option (Slots × (Nat → Bool) × Heap)
  | some (v, none) => some (updO T o.dst v, ugO G o.dst c, H)
  | _ => none
def ps1 (P : Program) (o : Oper) (T : Slots) (G : Nat → Bool) (H : Heap) : Option Bool → Option (Slots × (Nat → Bool) × Heap)
  | some c => ps2 o T G H c (gop P H.length c T G H o.op)
  | none => none
def ps0 (P : Program) (N : Nat) (ops : List Oper) (o : Oper) : Option (Slots × (Nat → Bool) × Heap) → Option (Slots × (Nat → Bool) × Heap)
  | some (T, G, H) => ps1 P o T G H (gcond ops T G N o)
  | none => none
def psq (P : Program) (N : Nat) (ops : List Oper) : List Oper → Option (Slots × (Nat → Bool) × Heap) → Option (Slots × (Nat → Bool) × Heap)
  | [], s => s
  | o :: l, s => psq P N ops l (ps0 P N ops o s)
theorem psq_none : ∀ l, psq P N ops.toList l none = none
  | [] => rfl
  | o :: l => psq_none l
theorem dp_run : ∀ (l l2 : List Oper) (k : Nat) (T : Slots) (G : Nat → Bool) (H : Heap) {T' : Slots} {G' : Nat → Bool} {H' : Heap}, l.all (fun o => okOp N o.op) = true →
    psq P N ops.toList l (some (T, G, H)) = some (T', G', H') → (DP P N ops Q (k + l.length) l2 (msk (.tup []) T' G') H') → DP P N ops Q k (l ++ l2) (msk (.tup []) T G) H
  | [], l2, k, T, G, H, T', G', H', _, hs, h => by cases hs; exact h
  | o :: l, l2, k, T, G, H, T', G', H', hok, hs, h => by
    simp only [List.all_cons, Bool.and_eq_true] at hok
    simp only [psq, ps0] at hs
    cases hw : gcond ops.toList T G N o with
    | none => rw [hw] at hs; simp only [ps1, psq_none] at hs; cases hs
    | some c =>
      rw [hw] at hs
      simp only [ps1] at hs
      cases hg : gop P H.length c T G H o.op with
      | none => rw [hg] at hs; simp only [ps2, psq_none] at hs; cases hs
      | some r =>
        rw [hg] at hs
        obtain ⟨v, e⟩ := r
        cases e with
        | some e => simp only [ps2, psq_none] at hs; cases hs
        | none =>
          simp only [ps2] at hs
          intro prev hp
          refine dops_gstep (fresh := H.length) rfl hok.1 hw hg rfl (hapB_noeff hp _ _) ?_
          have := dp_run l l2 (k + 1) _ _ _ hok.2 hs (by rw [show k + 1 + l.length = k + (o :: l).length by simp only [List.length_cons]; omega]; exact h)
          exact this _ (hp.app _ _)
theorem dp_take (n : Nat) {l : List Oper} {k : Nat} {T T' : Slots} {G G' : Nat → Bool} {H H' : Heap} (hs : psq P N ops.toList (l.take n) (some (T, G, H)) = some (T', G', H'))
    (hok : (l.take n).all (fun o => okOp N o.op) = true) (h : DP P N ops Q (k + (l.take n).length) (l.drop n) (msk (.tup []) T' G') H') : DP P N ops Q k l (msk (.tup []) T G) H := by
  have := dp_run (l.take n) (l.drop n) k T G H hok hs h
  rwa [List.take_append_drop] at this
theorem dp_end {l : List Oper} {k : Nat} {T T' F : Slots} {G G' : Nat → Bool} {H H' : Heap} (hs : psq P N ops.toList l (some (T, G, H)) = some (T', G', H'))
    (hok : l.all (fun o => okOp N o.op) = true) (hf : Fin T' G' F) (h : Q .normal F H') : DP P N ops Q k l (msk (.tup []) T G) H := by
  have := dp_run l [] k T G H hok hs (Q := Q) (fun prev _ => dops_nil ⟨F, fun i => ?_, h⟩)
  · rwa [List.append_nil] at this
  · rcases hf.spec i with e | ⟨e1, e2⟩
    · exact .inl e
    · exact .inr (by simp only [msk, e1, if_true]; exact e2)
theorem dp_fin {k : Nat} {T F : Slots} {G : Nat → Bool} {H : Heap} (hf : Fin T G F) (h : Q .normal F H) : DP P N ops Q k [] (msk (.tup []) T G) H := dp_end (T' := T) (G' := G) (H' := H) rfl rfl hf h
theorem dp_keep {k : Nat} {o : Oper} {l : List Oper} {T : Slots} {G : Nat → Bool} {H : Heap} {c : Bool} {f : FuncId} {args : List PV} {r : PV} (hcall : acall T o.op = some (f, args)) (hc : gcond ops.toList T G N o = some c)
    (hg : o.op.operands.toList.all (gOk c G) = true) (hok : okOp N o.op = true) (hgo : goFn P f = true) (hp : c = true → ACalls P f args H fun r' H'' => r' = r ∧ H'' = H)
    (h : DP P N ops Q (k + 1) l (msk (.tup []) (updO T o.dst r) (ugO G o.dst c)) H) : DP P N ops Q k (o :: l) (msk (.tup []) T G) H := by
  intro prev hn
  cases c
  · rw [msk_put_false] at h
    exact dops_skipR [] (fun p hp => .inr ⟨by rw [hn p hp]; simp, by simp⟩) hc (h _ (hn.app _ _))
  · rw [msk_put_true] at h
    have hcall' := acall_msk (u := .tup []) hcall hg
    obtain ⟨fo, xs, ts, pf, pc, h1, h2, h3⟩ := acall_spec hcall'
    refine dops_call (eff := []) (rd := List.range H.length) h1 ((gcond_sound hc).1 rfl _) hok h2 hgo h3 (by simp) (fun H' hH hl => ?_) (fun p hp => .inr ⟨by rw [hn p hp]; simp, by simp⟩) (h _ (hn.app _ _))
    have he : H' = H := List.ext_getElem? fun i => by
      by_cases hi : i < H.length
      · exact hH i (List.mem_range.2 hi)
      · rw [List.getElem?_eq_none (by omega), List.getElem?_eq_none (by omega)]
    subst he
    exact hp rfl
end
end Go.Abs
namespace Go.Abs
/-! Drawn regions: a first part in which nothing is laid, then operations that lay. -/
def noApp : Op → Bool
  | .call c => match c.callee with
    | .builtin .append => false
    | _ => true
  | .store .. => false
  | _ => true
theorem ard_row {P : Program} {fresh : Nat} {c : Bool} {T : Slots} {G : Nat → Bool} {H : Heap} {o : Op} {v : PV} {e : Eff} (h : gop P fresh c T G H o = some (v, e)) (hn : noApp o = true) : ∀ id ∈ ard T o, ∃ cs, H[id]? = some (.row cs) := by
  have hb : ∀ (x : Option (PV × Eff)) (f : PV × Eff → Option (PV × Eff)) (q : Prop) [Decidable q], (if q then x.bind f else none) = some (v, e) → ∃ r, x = some r := by
    intro x f q _ h
    split at h
    · obtain ⟨r, hr, _⟩ := Option.bind_eq_some_iff.1 h
      exact ⟨r, hr⟩
    · cases h
  cases o with
  | load t x =>
    simp only [gop] at h
    obtain ⟨r, hr⟩ := hb _ _ _ h
    intro id hid
    simp only [ard] at hid
    split at hid
    · rename_i id' off hx
      simp only [List.mem_singleton] at hid
      subst hid
      simp only [aop] at hr
      obtain ⟨i, hi, hr⟩ := Option.bind_eq_some_iff.1 hr
      rw [hx] at hr
      simp only [aload] at hr
      cases hq : H[id]? with
      | none => rw [hq] at hr; simp at hr
      | some ob =>
        cases ob with
        | row cs => exact ⟨cs, rfl⟩
        | unborn => rw [hq] at hr; simp at hr
        | buf n s => rw [hq] at hr; simp at hr
    · cases hid
  | store t x y => cases hn
  | call cl =>
    intro id hid
    simp only [ard] at hid
    simp only [noApp] at hn
    split at hid
    · rename_i hq; rw [hq] at hn; cases hn
    · cases hid
  | _ => intro id hid; simp [ard] at hid
def P1 (n0 k0 : Nat) (prev : Prev) : Prop := ∀ p ∈ prev, p.1 < k0 ∧ p.2.2 = [] ∧ ∀ id ∈ p.2.1, id < n0
theorem P1.app {n0 k : Nat} {prev : Prev} (h : P1 n0 k prev) {rd : List Nat} (hr : ∀ id ∈ rd, id < n0) : P1 n0 (k + 1) (prev ++ [(k, rd, [])]) := by
  intro p hp
  rcases List.mem_append.1 hp with hp | hp
  · obtain ⟨h1, h2⟩ := h p hp; exact ⟨by omega, h2⟩
  · rw [List.mem_singleton] at hp; subst hp; exact ⟨Nat.lt_succ_self _, rfl, hr⟩
theorem P1.noeff {n0 k : Nat} {prev : Prev} (h : P1 n0 k prev) : NoEff prev := fun p hp => (h p hp).2.1
def xchk (n0 k0 m : Nat) (eids : List Nat) : Bool := (eids.all fun id => decide (n0 ≤ id)) || (m % 2 ^ k0 == 2 ^ k0 - 1)
theorem hapB_P1 {n0 k0 m : Nat} {prev : Prev} {rd eids : List Nat} (h : P1 n0 k0 prev) (hm : xchk n0 k0 m eids = true) : hapB m prev rd eids = true := by
  unfold hapB
  rw [List.all_eq_true]
  intro p hp
  obtain ⟨h1, h2, h3⟩ := h p hp
  unfold xchk at hm
  rw [Bool.or_eq_true] at hm ⊢
  rcases hm with hm | hm
  · right
    rw [h2]
    simp only [List.all_nil, Bool.true_and]
    rw [List.all_eq_true] at hm ⊢
    intro id hid
    have := of_decide_eq_true (hm id hid)
    cases hc : p.2.1.contains id with
    | false => rfl
    | true =>
      have := h3 id (by simpa using hc)
      omega
  · left
    have e2 : (m / 2 ^ p.1 % 2 == 1) = m.testBit p.1 := by rw [Nat.testBit_eq_decide_div_mod_eq]; rfl
    rw [e2]
    have hm : m % 2 ^ k0 = 2 ^ k0 - 1 := by simpa using hm
    have := Nat.testBit_mod_two_pow m k0 p.1
    rw [hm, Nat.testBit_two_pow_sub_one] at this
    simp only [h1, decide_true, Bool.true_and] at this
    exact this.symm
theorem hapB_app {m : Nat} {p1 p2 : Prev} {rd eids : List Nat} (h1 : hapB m p1 rd eids = true) (h2 : hapB m p2 rd eids = true) : hapB m (p1 ++ p2) rd eids = true := by
  unfold hapB at h1 h2 ⊢
  rw [List.all_append, h1, h2]; rfl
section
variable {P : Program} {N nb : Nat} {ops : Array Oper} {Q : Post}
def X1 (P : Program) (N : Nat) (ops : Array Oper) (Q : Post) (n0 k : Nat) (l : List Oper) (T : Slots) (H : Heap) : Prop := ∀ prev, P1 n0 k prev → DOps P N ops (fun e T1 H1 => ∃ T2, (∀ i, T2 i = .junk ∨ T2 i = T1 i) ∧ Q e T2 H1) k l prev T H
theorem row_lt {H : Heap} {m id : Nat} {cs : List PV} (h : (H ++ List.replicate m AObj.unborn)[id]? = some (.row cs)) : id < H.length := by
  rcases Nat.lt_or_ge id H.length with hl | hl
  · exact hl
  · rw [List.getElem?_append_right hl, List.getElem?_replicate] at h
    split at h <;> cases h
theorem x_draw {id : Nat} {T : Slots} {H : Heap} (m : Nat) {n0 : Nat} (hn : H.length = n0) (hok : drawOk P ops.toList = true) (h : X1 P N ops Q n0 0 ops.toList (msk (.tup []) T allG) (H ++ List.replicate m .unborn)) : AWP P N nb (.region id ops true) Q T H := by
  refine awp_drawW m hok ?_
  exact h [] (by intro p hp; cases hp)
theorem x1_run {H : Heap} {n0 : Nat} (hu : ∀ id cs, H[id]? = some (.row cs) → id < n0) : ∀ (l l2 : List Oper) (k : Nat) (T : Slots) (G : Nat → Bool) {T' : Slots} {G' : Nat → Bool} {H' : Heap}, l.all (fun o => okOp N o.op) = true → l.all (fun o => noApp o.op) = true →
    psq P N ops.toList l (some (T, G, H)) = some (T', G', H') → (H' = H → X1 P N ops Q n0 (k + l.length) l2 (msk (.tup []) T' G') H) → X1 P N ops Q n0 k (l ++ l2) (msk (.tup []) T G) H
  | [], l2, k, T, G, T', G', H', _, _, hs, h => by cases hs; exact h rfl
  | o :: l, l2, k, T, G, T', G', H', hok, hna, hs, h => by
    simp only [List.all_cons, Bool.and_eq_true] at hok hna
    simp only [psq, ps0] at hs
    cases hw : gcond ops.toList T G N o with
    | none => rw [hw] at hs; simp only [ps1, psq_none] at hs; cases hs
    | some c =>
      rw [hw] at hs
      simp only [ps1] at hs
      cases hg : gop P H.length c T G H o.op with
      | none => rw [hg] at hs; simp only [ps2, psq_none] at hs; cases hs
      | some r =>
        rw [hg] at hs
        obtain ⟨v, e⟩ := r
        cases e with
        | some e => simp only [ps2, psq_none] at hs; cases hs
        | none =>
          simp only [ps2] at hs
          intro prev hp
          refine dops_gstep (fresh := H.length) rfl hok.1 hw hg rfl (hapB_noeff hp.noeff _ _) ?_
          have := x1_run hu l l2 (k + 1) _ _ hok.2 hna.2 hs (fun e => by rw [show k + 1 + l.length = k + (o :: l).length by simp only [List.length_cons]; omega]; exact h e)
          refine this _ (hp.app fun id hid => ?_)
          simp only [effIds, List.append_nil] at hid
          obtain ⟨cs, hcs⟩ := ard_row hg hna.1 id hid
          exact hu id cs hcs
theorem x1_take (n : Nat) {l : List Oper} {n0 k m : Nat} {T T' : Slots} {G G' : Nat → Bool} {B H' : Heap} (hl : B.length = n0) (hs : psq P N ops.toList (l.take n) (some (T, G, B ++ List.replicate m .unborn)) = some (T', G', H'))
    (hok : (l.take n).all (fun o => okOp N o.op) = true) (hna : (l.take n).all (fun o => noApp o.op) = true) (hn : (l.take n).length = n) (h : X1 P N ops Q n0 (k + n) (l.drop n) (msk (.tup []) T' G') (B ++ List.replicate m .unborn)) : X1 P N ops Q n0 k l (msk (.tup []) T G) (B ++ List.replicate m .unborn) := by
  have := x1_run (fun id cs h => hl ▸ row_lt h) (l.take n) (l.drop n) k T G hok hna hs (fun _ => by rw [hn]; exact h)
  rwa [List.take_append_drop] at this
theorem x1_keep {n0 k m : Nat} {o : Oper} {l : List Oper} {T : Slots} {G : Nat → Bool} {B : Heap} {c : Bool} {f : FuncId} {args : List PV} {r : PV} (hl : B.length = n0) (hcall : acall T o.op = some (f, args)) (hc : gcond ops.toList T G N o = some c)
    (hg : o.op.operands.toList.all (gOk c G) = true) (hok : okOp N o.op = true) (hgo : goFn P f = true) (hp : c = true → ∀ L, ACalls P f args (B ++ L) fun r' H'' => r' = r ∧ H'' = B ++ L)
    (h : X1 P N ops Q n0 (k + 1) l (msk (.tup []) (updO T o.dst r) (ugO G o.dst c)) (B ++ List.replicate m .unborn)) : X1 P N ops Q n0 k (o :: l) (msk (.tup []) T G) (B ++ List.replicate m .unborn) := by
  intro prev hn
  cases c
  · rw [msk_put_false] at h
    exact dops_skipR [] (fun p hp => .inr ⟨by rw [hn.noeff p hp]; simp, by simp⟩) hc (h _ (hn.app (by simp)))
  · rw [msk_put_true] at h
    have hcall' := acall_msk (u := .tup []) hcall hg
    obtain ⟨fo, xs, ts, pf, pc, h1, h2, h3⟩ := acall_spec hcall'
    refine dops_call (eff := []) (rd := List.range n0) h1 ((gcond_sound hc).1 rfl _) hok h2 hgo h3 (by simp) (fun H' hH hlen => ?_) (fun p hp => .inr ⟨by rw [hn.noeff p hp]; simp, by simp⟩) (h _ (hn.app (fun id hid => List.mem_range.1 hid)))
    obtain ⟨L, rfl⟩ : ∃ L, H' = B ++ L := by
      refine ⟨H'.drop B.length, ?_⟩
      have hle : B.length ≤ H'.length := by rw [hlen]; simp
      refine (List.take_append_drop B.length H').symm.trans ?_
      congr 1
      refine List.ext_getElem? fun i => ?_
      by_cases hi : i < B.length
      · rw [List.getElem?_take_of_lt hi, hH i (List.mem_range.2 (by omega)), List.getElem?_append_left hi]
      · rw [List.getElem?_eq_none (by simp; omega), List.getElem?_eq_none (by omega)]
    exact hp rfl L
def X2 (P : Program) (N : Nat) (ops : Array Oper) (Q : Post) (n0 k0 k : Nat) (l : List Oper) (prev2 : Prev) (T : Slots) (H : Heap) : Prop := ∀ prev1, P1 n0 k0 prev1 → DOps P N ops (fun e T1 H1 => ∃ T2, (∀ i, T2 i = .junk ∨ T2 i = T1 i) ∧ Q e T2 H1) k l (prev1 ++ prev2) T H
theorem x_mid {n0 k : Nat} {l : List Oper} {T : Slots} {H H1 : Heap} (hH : H = H1) (h : X2 P N ops Q n0 k k l [] T H1) : X1 P N ops Q n0 k l T H := by
  subst hH
  intro prev hp
  have := h prev hp
  rwa [List.append_nil] at this
def xd4 (o : Oper) (k fresh : Nat) (prev : Prev) (T : Slots) (G : Nat → Bool) (H : Heap) (c : Bool) (r : PV × Eff) (rd eids : List Nat) : Bool → Bool → Bool → Option GDSt
  | true, true, true => some (k + 1, nextFresh fresh r.2, prev ++ [(k, rd, eids)], updO T o.dst r.1, ugO G o.dst c, effSet r.2 H)
  | _, _, _ => none
def xd2 (n0 k0 : Nat) (bm : List Nat) (o : Oper) (k fresh : Nat) (prev : Prev) (T : Slots) (G : Nat → Bool) (H : Heap) (c : Bool) : Option (PV × Eff) → Option GDSt
  | some r => xd4 o k fresh prev T G H c r (ard T o.op ++ effIds r.2) (effIds r.2) (freshOk fresh r.2 H) (hapB (bm.getD k 0) prev (ard T o.op ++ effIds r.2) (effIds r.2)) (xchk n0 k0 (bm.getD k 0) (effIds r.2))
  | none => none
def xd1 (P : Program) (n0 k0 : Nat) (bm : List Nat) (o : Oper) (k fresh : Nat) (prev : Prev) (T : Slots) (G : Nat → Bool) (H : Heap) : Option Bool → Option GDSt
  | some c => xd2 n0 k0 bm o k fresh prev T G H c (gop P fresh c T G H o.op)
  | none => none
def xd0 (P : Program) (N : Nat) (ops : List Oper) (n0 k0 : Nat) (bm : List Nat) (o : Oper) : Option GDSt → Option GDSt
  | some (k, fresh, prev, T, G, H) => xd1 P n0 k0 bm o k fresh prev T G H (gcond ops T G N o)
  | none => none
def xq (P : Program) (N : Nat) (ops : List Oper) (n0 k0 : Nat) (bm : List Nat) : List Oper → Option GDSt → Option GDSt
  | [], s => s
  | o :: l, s => xq P N ops n0 k0 bm l (xd0 P N ops n0 k0 bm o s)
theorem xq_none {n0 k0 : Nat} {bm : List Nat} : ∀ l, xq P N ops.toList n0 k0 bm l none = none
  | [] => rfl
  | o :: l => xq_none l
theorem x2_run {n0 k0 : Nat} {bm : List Nat} (hbm : bmasks ops.toList = bm) : ∀ (l l2 : List Oper) (k fresh : Nat) (prev : Prev) (T : Slots) (G : Nat → Bool) (H : Heap) {k' fresh' : Nat} {prev' : Prev} {T' : Slots} {G' : Nat → Bool} {H' : Heap}, l.all (fun o => okOp N o.op) = true →
    xq P N ops.toList n0 k0 bm l (some (k, fresh, prev, T, G, H)) = some (k', fresh', prev', T', G', H') → X2 P N ops Q n0 k0 (k + l.length) l2 prev' (msk (.tup []) T' G') H' → X2 P N ops Q n0 k0 k (l ++ l2) prev (msk (.tup []) T G) H
  | [], l2, k, fresh, prev, T, G, H, k', fresh', prev', T', G', H', _, hs, h => by cases hs; exact h
  | o :: l, l2, k, fresh, prev, T, G, H, k', fresh', prev', T', G', H', hok, hs, h => by
    simp only [List.all_cons, Bool.and_eq_true] at hok
    simp only [xq, xd0] at hs
    cases hw : gcond ops.toList T G N o with
    | none => rw [hw] at hs; simp only [xd1, xq_none] at hs; cases hs
    | some c =>
      rw [hw] at hs
      simp only [xd1] at hs
      cases hg : gop P fresh c T G H o.op with
      | none => rw [hg] at hs; simp only [xd2, xq_none] at hs; cases hs
      | some r =>
        rw [hg] at hs
        simp only [xd2] at hs
        cases h1 : freshOk fresh r.2 H with
        | false => rw [h1] at hs; simp only [xd4, xq_none] at hs; cases hs
        | true =>
          cases h2 : hapB (bm.getD k 0) prev (ard T o.op ++ effIds r.2) (effIds r.2) with
          | false => rw [h1, h2] at hs; simp only [xd4, xq_none] at hs; cases hs
          | true =>
            cases h3 : xchk n0 k0 (bm.getD k 0) (effIds r.2) with
            | false => rw [h1, h2, h3] at hs; simp only [xd4, xq_none] at hs; cases hs
            | true =>
              rw [h1, h2, h3] at hs
              simp only [xd4] at hs
              intro prev1 hp
              refine dops_gstep hbm hok.1 hw hg h1 (hapB_app (hapB_P1 hp h3) h2) ?_
              have := x2_run hbm l l2 (k + 1) _ _ _ _ _ hok.2 hs (by rw [show k + 1 + l.length = k + (o :: l).length by simp only [List.length_cons]; omega]; exact h) prev1 hp
              rwa [← List.append_assoc] at this
theorem x2_take (n : Nat) {l : List Oper} {n0 k0 k k' fresh fresh' : Nat} {bm : List Nat} {prev prev' : Prev} {T T' : Slots} {G G' : Nat → Bool} {H H' : Heap} (hbm : bmasks ops.toList = bm) (hs : xq P N ops.toList n0 k0 bm (l.take n) (some (k, fresh, prev, T, G, H)) = some (k', fresh', prev', T', G', H'))
    (hok : (l.take n).all (fun o => okOp N o.op) = true) (hn : (l.take n).length = n) (h : X2 P N ops Q n0 k0 (k + n) (l.drop n) prev' (msk (.tup []) T' G') H') : X2 P N ops Q n0 k0 k l prev (msk (.tup []) T G) H := by
  have := x2_run hbm (l.take n) (l.drop n) k fresh prev T G H hok hs (by rw [hn]; exact h)
  rwa [List.take_append_drop] at this
theorem x2_end {l : List Oper} {n0 k0 k k' fresh fresh' : Nat} {bm : List Nat} {prev prev' : Prev} {T T' F : Slots} {G G' : Nat → Bool} {H H' : Heap} (hbm : bmasks ops.toList = bm) (hs : xq P N ops.toList n0 k0 bm l (some (k, fresh, prev, T, G, H)) = some (k', fresh', prev', T', G', H'))
    (hok : l.all (fun o => okOp N o.op) = true) (hf : Fin T' G' F) (h : Q .normal F H') : X2 P N ops Q n0 k0 k l prev (msk (.tup []) T G) H := by
  have := x2_run hbm l [] k fresh prev T G H hok hs (Q := Q) (fun prev1 _ => dops_nil ⟨F, fun i => ?_, h⟩)
  · rwa [List.append_nil] at this
  · rcases hf.spec i with e | ⟨e1, e2⟩
    · exact .inl e
    · exact .inr (by simp only [msk, e1, if_true]; exact e2)
theorem x2_fin {n0 k0 k : Nat} {prev : Prev} {T F : Slots} {G : Nat → Bool} {H : Heap} (hf : Fin T G F) (h : Q .normal F H) : X2 P N ops Q n0 k0 k [] prev (msk (.tup []) T G) H :=
  x2_end (fresh := 0) (T' := T) (G' := G) (H' := H) rfl rfl rfl hf h
/-- A call that sets one place (or none: 'ob' as it was). -/
theorem x2_fx {n0 k0 k : Nat} {bm : List Nat} {o : Oper} {l : List Oper} {prev : Prev} {T : Slots} {G : Nat → Bool} {H H1 : Heap} {f : FuncId} {args : List PV} {r : PV} (rd : List Nat) (id : Nat) (ob : AObj) (hbm : bmasks ops.toList = bm) (hcall : acall T o.op = some (f, args)) (hc : gcond ops.toList T G N o = some true)
    (hg : o.op.operands.toList.all (gOk true G) = true) (hok : okOp N o.op = true) (hgo : goFn P f = true) (hp : ∀ H' : Heap, (∀ id ∈ rd, H'[id]? = H[id]?) → H'.length = H.length → ACalls P f args H' fun r' H'' => r' = r ∧ H'' = H'.set id ob) (hid : id ∈ rd)
    (hap : hapB (bm.getD k 0) prev rd [id] = true) (hx : xchk n0 k0 (bm.getD k 0) [id] = true) (hH : H.set id ob = H1) (h : X2 P N ops Q n0 k0 (k + 1) l (prev ++ [(k, rd, [id])]) (msk (.tup []) (updO T o.dst r) (ugO G o.dst true)) H1) : X2 P N ops Q n0 k0 k (o :: l) prev (msk (.tup []) T G) H := by
  subst hH
  intro prev1 hn
  rw [msk_put_true] at h
  have hcall' := acall_msk (u := .tup []) hcall hg
  obtain ⟨fo, xs, ts, pf, pc, h1, h2, h3⟩ := acall_spec hcall'
  have := h prev1 hn
  rw [← List.append_assoc] at this
  refine dops_call (eff := [(id, ob)]) (rd := rd) h1 ((gcond_sound hc).1 rfl _) hok h2 hgo h3 (by simp [hid]) (fun H' hH hl => hp H' hH hl) ?_ this
  exact hapB_spec (eff := [(id, ob)]) (by rw [hbm]; exact hapB_app (hapB_P1 hn hx) hap)
end
end Go.Abs
namespace Go.Abs
/-! Bundles of rules, for shorter texts. -/
theorem jA : type_of% (And.intro @asq.eq_1 (And.intro @asq.eq_2 (And.intro @as0.eq_1 (And.intro @as0.eq_2 (And.intro @as1.eq_1 (And.intro @as1.eq_2 (And.intro @as1.eq_3 (And.intro @as2.eq_1 (And.intro @as2.eq_2 (@awanted.eq_1)))))))))) := And.intro @asq.eq_1 (And.intro @asq.eq_2 (And.intro @as0.eq_1 (And.intro @as0.eq_2 (And.intro @as1.eq_1 (And.intro @as1.eq_2 (And.intro @as1.eq_3 (And.intro @as2.eq_1 (And.intro @as2.eq_2 (@awanted.eq_1)))))))))
theorem jG : type_of% (And.intro @gsq.eq_1 (And.intro @gsq.eq_2 (And.intro @gs0.eq_1 (And.intro @gs0.eq_2 (And.intro @gs1.eq_1 (And.intro @gs1.eq_2 (And.intro @gs2.eq_1 (And.intro @gs2.eq_2 (And.intro @gcond.eq_1 (And.intro @gop.eq_1 (And.intro @gop.eq_2 (And.intro @Op.operands.eq_1 (And.intro @Op.operands.eq_2 (And.intro @Op.operands.eq_3 (And.intro @Op.operands.eq_4 (And.intro @Op.operands.eq_5 (And.intro @Op.operands.eq_6 (And.intro @Op.operands.eq_7 (And.intro @Op.operands.eq_8 (And.intro @Op.operands.eq_9 (And.intro @Op.operands.eq_10 (And.intro @Op.operands.eq_11 (And.intro @Op.operands.eq_12 (And.intro @Op.operands.eq_13 (And.intro @Op.operands.eq_14 (And.intro @Op.operands.eq_15 (And.intro @Op.operands.eq_16 (And.intro @Op.operands.eq_17 (And.intro @Op.operands.eq_18 (And.intro @Op.operands.eq_19 (And.intro @Op.operands.eq_20 (And.intro @Op.operands.eq_21 (And.intro @Op.operands.eq_22 (And.intro @Op.operands.eq_23 (And.intro @Op.operands.eq_24 (And.intro @Op.operands.eq_25 (And.intro @Op.operands.eq_26 (And.intro @Op.operands.eq_27 (And.intro @Op.operands.eq_28 (And.intro @Op.operands.eq_29 (And.intro @Op.operands.eq_30 (And.intro @Op.operands.eq_31 (And.intro @Op.operands.eq_32 (And.intro @Op.operands.eq_33 (And.intro @Op.operands.eq_34 (And.intro @Op.operands.eq_35 (And.intro @Op.operands.eq_36 (And.intro @Op.operands.eq_37 (And.intro @Op.operands.eq_38 (And.intro @Op.operands.eq_39 (And.intro @Op.operands.eq_40 (And.intro @Op.operands.eq_41 (And.intro @Op.operands.eq_42 (And.intro @Op.operands.eq_43 (And.intro @Call.operands.eq_1 (And.intro @SG (@Array.toList_append.{0}))))))))))))))))))))))))))))))))))))))))))))))))))))))))) := And.intro @gsq.eq_1 (And.intro @gsq.eq_2 (And.intro @gs0.eq_1 (And.intro @gs0.eq_2 (And.intro @gs1.eq_1 (And.intro @gs1.eq_2 (And.intro @gs2.eq_1 (And.intro @gs2.eq_2 (And.intro @gcond.eq_1 (And.intro @gop.eq_1 (And.intro @gop.eq_2 (And.intro @Op.operands.eq_1 (And.intro @Op.operands.eq_2 (And.intro @Op.operands.eq_3 (And.intro @Op.operands.eq_4 (And.intro @Op.operands.eq_5 (And.intro @Op.operands.eq_6 (And.intro @Op.operands.eq_7 (And.intro @Op.operands.eq_8 (And.intro @Op.operands.eq_9 (And.intro @Op.operands.eq_10 (And.intro @Op.operands.eq_11 (And.intro @Op.operands.eq_12 (And.intro @Op.operands.eq_13 (And.intro @Op.operands.eq_14 (And.intro @Op.operands.eq_15 (And.intro @Op.operands.eq_16 (And.intro @Op.operands.eq_17 (And.intro @Op.operands.eq_18 (And.intro @Op.operands.eq_19 (And.intro @Op.operands.eq_20 (And.intro @Op.operands.eq_21 (And.intro @Op.operands.eq_22 (And.intro @Op.operands.eq_23 (And.intro @Op.operands.eq_24 (And.intro @Op.operands.eq_25 (And.intro @Op.operands.eq_26 (And.intro @Op.operands.eq_27 (And.intro @Op.operands.eq_28 (And.intro @Op.operands.eq_29 (And.intro @Op.operands.eq_30 (And.intro @Op.operands.eq_31 (And.intro @Op.operands.eq_32 (And.intro @Op.operands.eq_33 (And.intro @Op.operands.eq_34 (And.intro @Op.operands.eq_35 (And.intro @Op.operands.eq_36 (And.intro @Op.operands.eq_37 (And.intro @Op.operands.eq_38 (And.intro @Op.operands.eq_39 (And.intro @Op.operands.eq_40 (And.intro @Op.operands.eq_41 (And.intro @Op.operands.eq_42 (And.intro @Op.operands.eq_43 (And.intro @Call.operands.eq_1 (And.intro @SG (@Array.toList_append.{0}))))))))))))))))))))))))))))))))))))))))))))))))))))))))
theorem jP : type_of% (And.intro @psq.eq_1 (And.intro @psq.eq_2 (And.intro @ps0.eq_1 (And.intro @ps0.eq_2 (And.intro @ps1.eq_1 (And.intro @ps1.eq_2 (And.intro @ps2.eq_1 (And.intro @ps2.eq_2 (And.intro @gcond.eq_1 (And.intro @gop.eq_1 (And.intro @gop.eq_2 (And.intro @Op.operands.eq_1 (And.intro @Op.operands.eq_2 (And.intro @Op.operands.eq_3 (And.intro @Op.operands.eq_4 (And.intro @Op.operands.eq_5 (And.intro @Op.operands.eq_6 (And.intro @Op.operands.eq_7 (And.intro @Op.operands.eq_8 (And.intro @Op.operands.eq_9 (And.intro @Op.operands.eq_10 (And.intro @Op.operands.eq_11 (And.intro @Op.operands.eq_12 (And.intro @Op.operands.eq_13 (And.intro @Op.operands.eq_14 (And.intro @Op.operands.eq_15 (And.intro @Op.operands.eq_16 (And.intro @Op.operands.eq_17 (And.intro @Op.operands.eq_18 (And.intro @Op.operands.eq_19 (And.intro @Op.operands.eq_20 (And.intro @Op.operands.eq_21 (And.intro @Op.operands.eq_22 (And.intro @Op.operands.eq_23 (And.intro @Op.operands.eq_24 (And.intro @Op.operands.eq_25 (And.intro @Op.operands.eq_26 (And.intro @Op.operands.eq_27 (And.intro @Op.operands.eq_28 (And.intro @Op.operands.eq_29 (And.intro @Op.operands.eq_30 (And.intro @Op.operands.eq_31 (And.intro @Op.operands.eq_32 (And.intro @Op.operands.eq_33 (And.intro @Op.operands.eq_34 (And.intro @Op.operands.eq_35 (And.intro @Op.operands.eq_36 (And.intro @Op.operands.eq_37 (And.intro @Op.operands.eq_38 (And.intro @Op.operands.eq_39 (And.intro @Op.operands.eq_40 (And.intro @Op.operands.eq_41 (And.intro @Op.operands.eq_42 (And.intro @Op.operands.eq_43 (And.intro @Call.operands.eq_1 (And.intro @SG (@Array.toList_append.{0}))))))))))))))))))))))))))))))))))))))))))))))))))))))))) := And.intro @psq.eq_1 (And.intro @psq.eq_2 (And.intro @ps0.eq_1 (And.intro @ps0.eq_2 (And.intro @ps1.eq_1 (And.intro @ps1.eq_2 (And.intro @ps2.eq_1 (And.intro @ps2.eq_2 (And.intro @gcond.eq_1 (And.intro @gop.eq_1 (And.intro @gop.eq_2 (And.intro @Op.operands.eq_1 (And.intro @Op.operands.eq_2 (And.intro @Op.operands.eq_3 (And.intro @Op.operands.eq_4 (And.intro @Op.operands.eq_5 (And.intro @Op.operands.eq_6 (And.intro @Op.operands.eq_7 (And.intro @Op.operands.eq_8 (And.intro @Op.operands.eq_9 (And.intro @Op.operands.eq_10 (And.intro @Op.operands.eq_11 (And.intro @Op.operands.eq_12 (And.intro @Op.operands.eq_13 (And.intro @Op.operands.eq_14 (And.intro @Op.operands.eq_15 (And.intro @Op.operands.eq_16 (And.intro @Op.operands.eq_17 (And.intro @Op.operands.eq_18 (And.intro @Op.operands.eq_19 (And.intro @Op.operands.eq_20 (And.intro @Op.operands.eq_21 (And.intro @Op.operands.eq_22 (And.intro @Op.operands.eq_23 (And.intro @Op.operands.eq_24 (And.intro @Op.operands.eq_25 (And.intro @Op.operands.eq_26 (And.intro @Op.operands.eq_27 (And.intro @Op.operands.eq_28 (And.intro @Op.operands.eq_29 (And.intro @Op.operands.eq_30 (And.intro @Op.operands.eq_31 (And.intro @Op.operands.eq_32 (And.intro @Op.operands.eq_33 (And.intro @Op.operands.eq_34 (And.intro @Op.operands.eq_35 (And.intro @Op.operands.eq_36 (And.intro @Op.operands.eq_37 (And.intro @Op.operands.eq_38 (And.intro @Op.operands.eq_39 (And.intro @Op.operands.eq_40 (And.intro @Op.operands.eq_41 (And.intro @Op.operands.eq_42 (And.intro @Op.operands.eq_43 (And.intro @Call.operands.eq_1 (And.intro @SG (@Array.toList_append.{0}))))))))))))))))))))))))))))))))))))))))))))))))))))))))
theorem jD : type_of% (And.intro @dsq.eq_1 (And.intro @dsq.eq_2 (And.intro @ds0.eq_1 (And.intro @ds0.eq_2 (And.intro @ds1.eq_1 (And.intro @ds1.eq_2 (And.intro @ds1.eq_3 (And.intro @ds2.eq_1 (And.intro @ds2.eq_2 (And.intro @ds3.eq_1 (And.intro @ds3.eq_2 (And.intro @awanted.eq_1 (And.intro @hapB.eq_1 (And.intro @effIds.eq_1 (And.intro @effIds.eq_2 (And.intro @effSet.eq_1 (And.intro @effSet.eq_2 (And.intro @nextFresh.eq_1 (And.intro @nextFresh.eq_2 (And.intro @ard.eq_1 (And.intro @ard.eq_2 (And.intro @ard.eq_3 (And.intro @ard.eq_4 (And.intro @freshOk.eq_1 (And.intro @freshOk.eq_2 (@isUnborn.eq_1)))))))))))))))))))))))))) := And.intro @dsq.eq_1 (And.intro @dsq.eq_2 (And.intro @ds0.eq_1 (And.intro @ds0.eq_2 (And.intro @ds1.eq_1 (And.intro @ds1.eq_2 (And.intro @ds1.eq_3 (And.intro @ds2.eq_1 (And.intro @ds2.eq_2 (And.intro @ds3.eq_1 (And.intro @ds3.eq_2 (And.intro @awanted.eq_1 (And.intro @hapB.eq_1 (And.intro @effIds.eq_1 (And.intro @effIds.eq_2 (And.intro @effSet.eq_1 (And.intro @effSet.eq_2 (And.intro @nextFresh.eq_1 (And.intro @nextFresh.eq_2 (And.intro @ard.eq_1 (And.intro @ard.eq_2 (And.intro @ard.eq_3 (And.intro @ard.eq_4 (And.intro @freshOk.eq_1 (And.intro @freshOk.eq_2 (@isUnborn.eq_1)))))))))))))))))))))))))
theorem jH : type_of% (And.intro @gdq.eq_1 (And.intro @gdq.eq_2 (And.intro @gd0.eq_1 (And.intro @gd0.eq_2 (And.intro @gd1.eq_1 (And.intro @gd1.eq_2 (And.intro @gd2.eq_1 (And.intro @gd2.eq_2 (And.intro @gd3.eq_1 (And.intro @gd3.eq_2 (And.intro @gcond.eq_1 (And.intro @gop.eq_1 (And.intro @gop.eq_2 (And.intro @Op.operands.eq_1 (And.intro @Op.operands.eq_2 (And.intro @Op.operands.eq_3 (And.intro @Op.operands.eq_4 (And.intro @Op.operands.eq_5 (And.intro @Op.operands.eq_6 (And.intro @Op.operands.eq_7 (And.intro @Op.operands.eq_8 (And.intro @Op.operands.eq_9 (And.intro @Op.operands.eq_10 (And.intro @Op.operands.eq_11 (And.intro @Op.operands.eq_12 (And.intro @Op.operands.eq_13 (And.intro @Op.operands.eq_14 (And.intro @Op.operands.eq_15 (And.intro @Op.operands.eq_16 (And.intro @Op.operands.eq_17 (And.intro @Op.operands.eq_18 (And.intro @Op.operands.eq_19 (And.intro @Op.operands.eq_20 (And.intro @Op.operands.eq_21 (And.intro @Op.operands.eq_22 (And.intro @Op.operands.eq_23 (And.intro @Op.operands.eq_24 (And.intro @Op.operands.eq_25 (And.intro @Op.operands.eq_26 (And.intro @Op.operands.eq_27 (And.intro @Op.operands.eq_28 (And.intro @Op.operands.eq_29 (And.intro @Op.operands.eq_30 (And.intro @Op.operands.eq_31 (And.intro @Op.operands.eq_32 (And.intro @Op.operands.eq_33 (And.intro @Op.operands.eq_34 (And.intro @Op.operands.eq_35 (And.intro @Op.operands.eq_36 (And.intro @Op.operands.eq_37 (And.intro @Op.operands.eq_38 (And.intro @Op.operands.eq_39 (And.intro @Op.operands.eq_40 (And.intro @Op.operands.eq_41 (And.intro @Op.operands.eq_42 (And.intro @Op.operands.eq_43 (And.intro @Call.operands.eq_1 (And.intro @SG (And.intro @Array.toList_append.{0} (And.intro @hapB.eq_1 (And.intro @effIds.eq_1 (And.intro @effIds.eq_2 (And.intro @effSet.eq_1 (And.intro @effSet.eq_2 (And.intro @nextFresh.eq_1 (And.intro @nextFresh.eq_2 (And.intro @ard.eq_1 (And.intro @ard.eq_2 (And.intro @ard.eq_3 (And.intro @ard.eq_4 (And.intro @freshOk.eq_1 (And.intro @freshOk.eq_2 (@isUnborn.eq_1))))))))))))))))))))))))))))))))))))))))))))))))))))))))))))))))))))))))) := And.intro @gdq.eq_1 (And.intro @gdq.eq_2 (And.intro @gd0.eq_1 (And.intro @gd0.eq_2 (And.intro @gd1.eq_1 (And.intro @gd1.eq_2 (And.intro @gd2.eq_1 (And.intro @gd2.eq_2 (And.intro @gd3.eq_1 (And.intro @gd3.eq_2 (And.intro @gcond.eq_1 (And.intro @gop.eq_1 (And.intro @gop.eq_2 (And.intro @Op.operands.eq_1 (And.intro @Op.operands.eq_2 (And.intro @Op.operands.eq_3 (And.intro @Op.operands.eq_4 (And.intro @Op.operands.eq_5 (And.intro @Op.operands.eq_6 (And.intro @Op.operands.eq_7 (And.intro @Op.operands.eq_8 (And.intro @Op.operands.eq_9 (And.intro @Op.operands.eq_10 (And.intro @Op.operands.eq_11 (And.intro @Op.operands.eq_12 (And.intro @Op.operands.eq_13 (And.intro @Op.operands.eq_14 (And.intro @Op.operands.eq_15 (And.intro @Op.operands.eq_16 (And.intro @Op.operands.eq_17 (And.intro @Op.operands.eq_18 (And.intro @Op.operands.eq_19 (And.intro @Op.operands.eq_20 (And.intro @Op.operands.eq_21 (And.intro @Op.operands.eq_22 (And.intro @Op.operands.eq_23 (And.intro @Op.operands.eq_24 (And.intro @Op.operands.eq_25 (And.intro @Op.operands.eq_26 (And.intro @Op.operands.eq_27 (And.intro @Op.operands.eq_28 (And.intro @Op.operands.eq_29 (And.intro @Op.operands.eq_30 (And.intro @Op.operands.eq_31 (And.intro @Op.operands.eq_32 (And.intro @Op.operands.eq_33 (And.intro @Op.operands.eq_34 (And.intro @Op.operands.eq_35 (And.intro @Op.operands.eq_36 (And.intro @Op.operands.eq_37 (And.intro @Op.operands.eq_38 (And.intro @Op.operands.eq_39 (And.intro @Op.operands.eq_40 (And.intro @Op.operands.eq_41 (And.intro @Op.operands.eq_42 (And.intro @Op.operands.eq_43 (And.intro @Call.operands.eq_1 (And.intro @SG (And.intro @Array.toList_append.{0} (And.intro @hapB.eq_1 (And.intro @effIds.eq_1 (And.intro @effIds.eq_2 (And.intro @effSet.eq_1 (And.intro @effSet.eq_2 (And.intro @nextFresh.eq_1 (And.intro @nextFresh.eq_2 (And.intro @ard.eq_1 (And.intro @ard.eq_2 (And.intro @ard.eq_3 (And.intro @ard.eq_4 (And.intro @freshOk.eq_1 (And.intro @freshOk.eq_2 (@isUnborn.eq_1))))))))))))))))))))))))))))))))))))))))))))))))))))))))))))))))))))))))
theorem jX : type_of% (And.intro @xq.eq_1 (And.intro @xq.eq_2 (And.intro @xd0.eq_1 (And.intro @xd0.eq_2 (And.intro @xd1.eq_1 (And.intro @xd1.eq_2 (And.intro @xd2.eq_1 (And.intro @xd2.eq_2 (And.intro @xd4.eq_1 (And.intro @xd4.eq_2 (And.intro @xchk.eq_1 (And.intro @gcond.eq_1 (And.intro @gop.eq_1 (And.intro @gop.eq_2 (And.intro @Op.operands.eq_1 (And.intro @Op.operands.eq_2 (And.intro @Op.operands.eq_3 (And.intro @Op.operands.eq_4 (And.intro @Op.operands.eq_5 (And.intro @Op.operands.eq_6 (And.intro @Op.operands.eq_7 (And.intro @Op.operands.eq_8 (And.intro @Op.operands.eq_9 (And.intro @Op.operands.eq_10 (And.intro @Op.operands.eq_11 (And.intro @Op.operands.eq_12 (And.intro @Op.operands.eq_13 (And.intro @Op.operands.eq_14 (And.intro @Op.operands.eq_15 (And.intro @Op.operands.eq_16 (And.intro @Op.operands.eq_17 (And.intro @Op.operands.eq_18 (And.intro @Op.operands.eq_19 (And.intro @Op.operands.eq_20 (And.intro @Op.operands.eq_21 (And.intro @Op.operands.eq_22 (And.intro @Op.operands.eq_23 (And.intro @Op.operands.eq_24 (And.intro @Op.operands.eq_25 (And.intro @Op.operands.eq_26 (And.intro @Op.operands.eq_27 (And.intro @Op.operands.eq_28 (And.intro @Op.operands.eq_29 (And.intro @Op.operands.eq_30 (And.intro @Op.operands.eq_31 (And.intro @Op.operands.eq_32 (And.intro @Op.operands.eq_33 (And.intro @Op.operands.eq_34 (And.intro @Op.operands.eq_35 (And.intro @Op.operands.eq_36 (And.intro @Op.operands.eq_37 (And.intro @Op.operands.eq_38 (And.intro @Op.operands.eq_39 (And.intro @Op.operands.eq_40 (And.intro @Op.operands.eq_41 (And.intro @Op.operands.eq_42 (And.intro @Op.operands.eq_43 (And.intro @Call.operands.eq_1 (And.intro @SG (And.intro @Array.toList_append.{0} (And.intro @hapB.eq_1 (And.intro @effIds.eq_1 (And.intro @effIds.eq_2 (And.intro @effSet.eq_1 (And.intro @effSet.eq_2 (And.intro @nextFresh.eq_1 (And.intro @nextFresh.eq_2 (And.intro @ard.eq_1 (And.intro @ard.eq_2 (And.intro @ard.eq_3 (And.intro @ard.eq_4 (And.intro @freshOk.eq_1 (And.intro @freshOk.eq_2 (And.intro @isUnborn.eq_1 (And.intro @Nat.le_refl (And.intro @decide_true (And.intro @Bool.true_or (And.intro @Bool.or_true (And.intro @List.all_cons.{0} (And.intro @List.all_nil.{0} (@Bool.and_true))))))))))))))))))))))))))))))))))))))))))))))))))))))))))))))))))))))))))))))))) := And.intro @xq.eq_1 (And.intro @xq.eq_2 (And.intro @xd0.eq_1 (And.intro @xd0.eq_2 (And.intro @xd1.eq_1 (And.intro @xd1.eq_2 (And.intro @xd2.eq_1 (And.intro @xd2.eq_2 (And.intro @xd4.eq_1 (And.intro @xd4.eq_2 (And.intro @xchk.eq_1 (And.intro @gcond.eq_1 (And.intro @gop.eq_1 (And.intro @gop.eq_2 (And.intro @Op.operands.eq_1 (And.intro @Op.operands.eq_2 (And.intro @Op.operands.eq_3 (And.intro @Op.operands.eq_4 (And.intro @Op.operands.eq_5 (And.intro @Op.operands.eq_6 (And.intro @Op.operands.eq_7 (And.intro @Op.operands.eq_8 (And.intro @Op.operands.eq_9 (And.intro @Op.operands.eq_10 (And.intro @Op.operands.eq_11 (And.intro @Op.operands.eq_12 (And.intro @Op.operands.eq_13 (And.intro @Op.operands.eq_14 (And.intro @Op.operands.eq_15 (And.intro @Op.operands.eq_16 (And.intro @Op.operands.eq_17 (And.intro @Op.operands.eq_18 (And.intro @Op.operands.eq_19 (And.intro @Op.operands.eq_20 (And.intro @Op.operands.eq_21 (And.intro @Op.operands.eq_22 (And.intro @Op.operands.eq_23 (And.intro @Op.operands.eq_24 (And.intro @Op.operands.eq_25 (And.intro @Op.operands.eq_26 (And.intro @Op.operands.eq_27 (And.intro @Op.operands.eq_28 (And.intro @Op.operands.eq_29 (And.intro @Op.operands.eq_30 (And.intro @Op.operands.eq_31 (And.intro @Op.operands.eq_32 (And.intro @Op.operands.eq_33 (And.intro @Op.operands.eq_34 (And.intro @Op.operands.eq_35 (And.intro @Op.operands.eq_36 (And.intro @Op.operands.eq_37 (And.intro @Op.operands.eq_38 (And.intro @Op.operands.eq_39 (And.intro @Op.operands.eq_40 (And.intro @Op.operands.eq_41 (And.intro @Op.operands.eq_42 (And.intro @Op.operands.eq_43 (And.intro @Call.operands.eq_1 (And.intro @SG (And.intro @Array.toList_append.{0} (And.intro @hapB.eq_1 (And.intro @effIds.eq_1 (And.intro @effIds.eq_2 (And.intro @effSet.eq_1 (And.intro @effSet.eq_2 (And.intro @nextFresh.eq_1 (And.intro @nextFresh.eq_2 (And.intro @ard.eq_1 (And.intro @ard.eq_2 (And.intro @ard.eq_3 (And.intro @ard.eq_4 (And.intro @freshOk.eq_1 (And.intro @freshOk.eq_2 (And.intro @isUnborn.eq_1 (And.intro @Nat.le_refl (And.intro @decide_true (And.intro @Bool.true_or (And.intro @Bool.or_true (And.intro @List.all_cons.{0} (And.intro @List.all_nil.{0} (@Bool.and_true))))))))))))))))))))))))))))))))))))))))))))))))))))))))))))))))))))))))))))))))
theorem jC : type_of% (And.intro @acallR.eq_def (And.intro @acall.eq_1 (And.intro @acall.eq_2 (@awanted.eq_1)))) := And.intro @acallR.eq_def (And.intro @acall.eq_1 (And.intro @acall.eq_2 (@awanted.eq_1)))
theorem jE : type_of% (And.intro @acallR.eq_def (And.intro @acall.eq_1 (And.intro @acall.eq_2 (And.intro @gcond.eq_1 (And.intro @Op.operands.eq_1 (And.intro @Op.operands.eq_2 (And.intro @Op.operands.eq_3 (And.intro @Op.operands.eq_4 (And.intro @Op.operands.eq_5 (And.intro @Op.operands.eq_6 (And.intro @Op.operands.eq_7 (And.intro @Op.operands.eq_8 (And.intro @Op.operands.eq_9 (And.intro @Op.operands.eq_10 (And.intro @Op.operands.eq_11 (And.intro @Op.operands.eq_12 (And.intro @Op.operands.eq_13 (And.intro @Op.operands.eq_14 (And.intro @Op.operands.eq_15 (And.intro @Op.operands.eq_16 (And.intro @Op.operands.eq_17 (And.intro @Op.operands.eq_18 (And.intro @Op.operands.eq_19 (And.intro @Op.operands.eq_20 (And.intro @Op.operands.eq_21 (And.intro @Op.operands.eq_22 (And.intro @Op.operands.eq_23 (And.intro @Op.operands.eq_24 (And.intro @Op.operands.eq_25 (And.intro @Op.operands.eq_26 (And.intro @Op.operands.eq_27 (And.intro @Op.operands.eq_28 (And.intro @Op.operands.eq_29 (And.intro @Op.operands.eq_30 (And.intro @Op.operands.eq_31 (And.intro @Op.operands.eq_32 (And.intro @Op.operands.eq_33 (And.intro @Op.operands.eq_34 (And.intro @Op.operands.eq_35 (And.intro @Op.operands.eq_36 (And.intro @Op.operands.eq_37 (And.intro @Op.operands.eq_38 (And.intro @Op.operands.eq_39 (And.intro @Op.operands.eq_40 (And.intro @Op.operands.eq_41 (And.intro @Op.operands.eq_42 (And.intro @Op.operands.eq_43 (And.intro @Call.operands.eq_1 (And.intro @SG (@Array.toList_append.{0})))))))))))))))))))))))))))))))))))))))))))))))))) := And.intro @acallR.eq_def (And.intro @acall.eq_1 (And.intro @acall.eq_2 (And.intro @gcond.eq_1 (And.intro @Op.operands.eq_1 (And.intro @Op.operands.eq_2 (And.intro @Op.operands.eq_3 (And.intro @Op.operands.eq_4 (And.intro @Op.operands.eq_5 (And.intro @Op.operands.eq_6 (And.intro @Op.operands.eq_7 (And.intro @Op.operands.eq_8 (And.intro @Op.operands.eq_9 (And.intro @Op.operands.eq_10 (And.intro @Op.operands.eq_11 (And.intro @Op.operands.eq_12 (And.intro @Op.operands.eq_13 (And.intro @Op.operands.eq_14 (And.intro @Op.operands.eq_15 (And.intro @Op.operands.eq_16 (And.intro @Op.operands.eq_17 (And.intro @Op.operands.eq_18 (And.intro @Op.operands.eq_19 (And.intro @Op.operands.eq_20 (And.intro @Op.operands.eq_21 (And.intro @Op.operands.eq_22 (And.intro @Op.operands.eq_23 (And.intro @Op.operands.eq_24 (And.intro @Op.operands.eq_25 (And.intro @Op.operands.eq_26 (And.intro @Op.operands.eq_27 (And.intro @Op.operands.eq_28 (And.intro @Op.operands.eq_29 (And.intro @Op.operands.eq_30 (And.intro @Op.operands.eq_31 (And.intro @Op.operands.eq_32 (And.intro @Op.operands.eq_33 (And.intro @Op.operands.eq_34 (And.intro @Op.operands.eq_35 (And.intro @Op.operands.eq_36 (And.intro @Op.operands.eq_37 (And.intro @Op.operands.eq_38 (And.intro @Op.operands.eq_39 (And.intro @Op.operands.eq_40 (And.intro @Op.operands.eq_41 (And.intro @Op.operands.eq_42 (And.intro @Op.operands.eq_43 (And.intro @Call.operands.eq_1 (And.intro @SG (@Array.toList_append.{0})))))))))))))))))))))))))))))))))))))))))))))))))
theorem jO : type_of% (And.intro @aop.eq_1 (And.intro @aop.eq_2 (And.intro @aop.eq_3 (And.intro @aop.eq_4 (And.intro @aop.eq_5 (And.intro @aop.eq_6 (And.intro @aop.eq_7 (And.intro @aop.eq_8 (And.intro @aop.eq_9 (And.intro @aop.eq_10 (And.intro @aop.eq_11 (And.intro @aop.eq_12 (And.intro @aop.eq_13 (And.intro @aop.eq_14 (And.intro @aop.eq_15 (And.intro @aop.eq_16 (And.intro @aop.eq_17 (And.intro @aop.eq_18 (And.intro @aop.eq_19 (And.intro @aop.eq_20 (And.intro @aop.eq_21 (And.intro @aop.eq_22 (And.intro @aop.eq_23 (And.intro @aload.eq_1 (And.intro @aload.eq_2 (And.intro @aload.eq_3 (And.intro @ajust.eq_1 (And.intro @astore.eq_1 (And.intro @astore.eq_2 (And.intro @splice.eq_1 (And.intro @splice.eq_2 (And.intro @afldAddr.eq_1 (And.intro @afld.eq_def (And.intro @aidxAddr.eq_1 (And.intro @aidxAddr.eq_2 (And.intro @aidxAddr.eq_3 (And.intro @aidx.eq_1 (And.intro @aidx.eq_2 (And.intro @abin.eq_1 (And.intro @abin.eq_2 (And.intro @abin.eq_3 (And.intro @abin.eq_4 (And.intro @abin.eq_5 (And.intro @abin.eq_6 (And.intro @abin.eq_7 (And.intro @abin.eq_8 (And.intro @abin.eq_9 (And.intro @abin.eq_10 (And.intro @abin.eq_11 (And.intro @abin.eq_12 (And.intro @abin.eq_13 (And.intro @abin.eq_14 (And.intro @abin.eq_15 (And.intro @abin.eq_16 (And.intro @abin.eq_17 (And.intro @abin.eq_18 (And.intro @abin.eq_19 (And.intro @abin.eq_20 (And.intro @abin.eq_21 (And.intro @abin.eq_22 (And.intro @abin.eq_23 (And.intro @abin.eq_24 (And.intro @abin.eq_25 (And.intro @abin.eq_26 (And.intro @abin.eq_27 (And.intro @abin.eq_28 (And.intro @abin.eq_29 (And.intro @abin.eq_30 (And.intro @aun.eq_1 (And.intro @aun.eq_2 (And.intro @aun.eq_3 (And.intro @abuiltin.eq_1 (And.intro @abuiltin.eq_2 (And.intro @abuiltin.eq_3 (And.intro @abuiltin.eq_4 (And.intro @abuiltin.eq_5 (And.intro @abuild.eq_1 (And.intro @abuild.eq_2 (And.intro @abuildS.eq_1 (And.intro @abuildS.eq_2 (And.intro @aslice.eq_1 (And.intro @aslice.eq_2 (And.intro @aslice.eq_3 (And.intro @aslice.eq_4 (And.intro @aslice.eq_5 (And.intro @abndO.eq_1 (And.intro @abndO.eq_2 (And.intro @abnd.eq_1 (And.intro @abnd.eq_2 (And.intro @amakeSlice.eq_1 (@amakeSlice.eq_2))))))))))))))))))))))))))))))))))))))))))))))))))))))))))))))))))))))))))))))))))))))))))) := And.intro @aop.eq_1 (And.intro @aop.eq_2 (And.intro @aop.eq_3 (And.intro @aop.eq_4 (And.intro @aop.eq_5 (And.intro @aop.eq_6 (And.intro @aop.eq_7 (And.intro @aop.eq_8 (And.intro @aop.eq_9 (And.intro @aop.eq_10 (And.intro @aop.eq_11 (And.intro @aop.eq_12 (And.intro @aop.eq_13 (And.intro @aop.eq_14 (And.intro @aop.eq_15 (And.intro @aop.eq_16 (And.intro @aop.eq_17 (And.intro @aop.eq_18 (And.intro @aop.eq_19 (And.intro @aop.eq_20 (And.intro @aop.eq_21 (And.intro @aop.eq_22 (And.intro @aop.eq_23 (And.intro @aload.eq_1 (And.intro @aload.eq_2 (And.intro @aload.eq_3 (And.intro @ajust.eq_1 (And.intro @astore.eq_1 (And.intro @astore.eq_2 (And.intro @splice.eq_1 (And.intro @splice.eq_2 (And.intro @afldAddr.eq_1 (And.intro @afld.eq_def (And.intro @aidxAddr.eq_1 (And.intro @aidxAddr.eq_2 (And.intro @aidxAddr.eq_3 (And.intro @aidx.eq_1 (And.intro @aidx.eq_2 (And.intro @abin.eq_1 (And.intro @abin.eq_2 (And.intro @abin.eq_3 (And.intro @abin.eq_4 (And.intro @abin.eq_5 (And.intro @abin.eq_6 (And.intro @abin.eq_7 (And.intro @abin.eq_8 (And.intro @abin.eq_9 (And.intro @abin.eq_10 (And.intro @abin.eq_11 (And.intro @abin.eq_12 (And.intro @abin.eq_13 (And.intro @abin.eq_14 (And.intro @abin.eq_15 (And.intro @abin.eq_16 (And.intro @abin.eq_17 (And.intro @abin.eq_18 (And.intro @abin.eq_19 (And.intro @abin.eq_20 (And.intro @abin.eq_21 (And.intro @abin.eq_22 (And.intro @abin.eq_23 (And.intro @abin.eq_24 (And.intro @abin.eq_25 (And.intro @abin.eq_26 (And.intro @abin.eq_27 (And.intro @abin.eq_28 (And.intro @abin.eq_29 (And.intro @abin.eq_30 (And.intro @aun.eq_1 (And.intro @aun.eq_2 (And.intro @aun.eq_3 (And.intro @abuiltin.eq_1 (And.intro @abuiltin.eq_2 (And.intro @abuiltin.eq_3 (And.intro @abuiltin.eq_4 (And.intro @abuiltin.eq_5 (And.intro @abuild.eq_1 (And.intro @abuild.eq_2 (And.intro @abuildS.eq_1 (And.intro @abuildS.eq_2 (And.intro @aslice.eq_1 (And.intro @aslice.eq_2 (And.intro @aslice.eq_3 (And.intro @aslice.eq_4 (And.intro @aslice.eq_5 (And.intro @abndO.eq_1 (And.intro @abndO.eq_2 (And.intro @abnd.eq_1 (And.intro @abnd.eq_2 (And.intro @amakeSlice.eq_1 (@amakeSlice.eq_2))))))))))))))))))))))))))))))))))))))))))))))))))))))))))))))))))))))))))))))))))))))))))
theorem jL : type_of% (And.intro @aload.eq_1 (And.intro @aload.eq_2 (@aload.eq_3))) := And.intro @aload.eq_1 (And.intro @aload.eq_2 (@aload.eq_3))
theorem jN : type_of% (And.intro @true_and (And.intro @and_true (And.intro @LS (And.intro @SS (And.intro @SX (And.intro @HS (And.intro @mkS_cons (And.intro @mkS_nil (And.intro @eq_self' (And.intro @List.map_nil.{0, 0} (And.intro @beq_self_eq_true.{0} (@Nat.succ_ne_self)))))))))))) := And.intro @true_and (And.intro @and_true (And.intro @LS (And.intro @SS (And.intro @SX (And.intro @HS (And.intro @mkS_cons (And.intro @mkS_nil (And.intro @eq_self' (And.intro @List.map_nil.{0, 0} (And.intro @beq_self_eq_true.{0} (@Nat.succ_ne_self)))))))))))
end Go.Abs
