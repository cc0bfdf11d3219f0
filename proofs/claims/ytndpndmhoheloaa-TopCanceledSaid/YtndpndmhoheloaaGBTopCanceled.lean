/- Part 2 of a proof of the law TopCanceled: Go data as trees, the walks of the functions that the law reaches, the plain laws. -/
import Derived.Test.YtndpndmhoheloaaGATopCanceled
set_option linter.unusedVariables false
set_option linter.unusedSimpArgs false
namespace Go.Abs
def Env.newObj (E : Env) (id : Nat) (o : Obj) (k : OKind) : Env :=
  { w := E.w.alloc o, κ := fun b => if b = E.w.heap.size then .mut else E.κ b, ρ := fun i => if i = id then E.w.heap.size else E.ρ i, tb := E.tb, H := E.H.set id (.obj k) }
section newObj
variable {E : Env} (h : E.Ok) {id : Nat} (hi : E.H[id]? = some .unborn) (o : Obj) (k : OKind)
include h hi
theorem Env.newObj_view : E.view.le (E.newObj id o k).view := by
  have hlen := len_of_get hi
  have hne : ∀ x, isBorn E.H x → x ≠ id := by rintro x ⟨o, h1, h2⟩ rfl; rw [hi] at h1; cases h1; exact h2 rfl
  refine ⟨fun a v hc => ?_, fun x hb => ?_, fun x hb => ?_, fun x t' hb ht => ⟨t', ?_, .inl rfl⟩⟩
  · have hl := cell?_lt (Env.cell_stable hc)
    simp only [Env.view] at hc ⊢
    split at hc
    · rename_i hs
      have hne : a.block ≠ E.w.heap.size := by omega
      simp only [Env.newObj, if_neg hne, hs, if_true]
      rw [cell?_congr (heap_alloc _ _ _ hl)]; exact hc
    · cases hc
  · have := hne x hb
    obtain ⟨o, h1, h2⟩ := hb
    exact ⟨o, by simp only [Env.newObj, get_set hlen, if_neg this]; exact h1, h2⟩
  · simp only [Env.view, Env.newObj, if_neg (hne x hb)]
  · have := hne x hb
    simp only [Env.view, Env.newObj, get_set hlen, if_neg this] at ht ⊢
    split at ht
    · rename_i n sz hx
      rw [← ht]
      cases htb : E.tb x with
      | none => rfl
      | some b =>
        have := h.bufBlock hx htb
        have hne : b ≠ E.w.heap.size := by omega
        simp only [Option.bind_some, if_neg hne]
    · cases ht
theorem Env.newObj_le : E.le (E.newObj id o k) := by
  have hlen := len_of_get hi
  refine ⟨rfl, rfl, rfl, by simp [Env.newObj], fun b hb _ => ⟨?_, heap_alloc _ _ _ hb⟩, Env.newObj_view h hi o k, fun b hb => Or.imp ?_ (Or.imp ?_ ?_)⟩
  · have hne : b ≠ E.w.heap.size := by omega
    simp only [Env.newObj, if_neg hne]
  · rintro ⟨x, cs', h1, h2⟩
    simp only [Env.newObj, get_set hlen] at h1 h2
    split at h1
    · cases h1
    · rename_i e; rw [if_neg e] at h2; exact ⟨x, cs', h1, h2⟩
  · rintro ⟨x, n, sz, h1, h2⟩
    simp only [Env.newObj, get_set hlen] at h1 h2
    split at h1
    · cases h1
    · exact ⟨x, n, sz, h1, h2⟩
  · rintro ⟨x, k', h1, h2⟩
    simp only [Env.newObj, get_set hlen] at h1 h2
    split at h1
    · rename_i e; rw [if_pos e] at h2; omega
    · rename_i e; rw [if_neg e] at h2; exact ⟨x, k', h1, h2⟩
theorem Env.Ok.newObj (hr : OR E.view k o) : (E.newObj id o k).Ok := by
  have hlen := len_of_get hi
  have hv := Env.newObj_view h hi o k
  refine ⟨?_, ?_, ?_, ?_, h.globs_of hv.cell (by intro x b vs hx; simp only [Env.newObj, get_set hlen] at hx; split at hx <;> first | exact hx | cases hx), ?_, ?_⟩
  · intro x cs' hx
    simp only [Env.newObj, get_set hlen] at hx
    split at hx
    · cases hx
    · rename_i e
      have hl := h.rowBlock hx
      obtain ⟨arr', elem', h1, h2, h3, h4⟩ := h.rows x cs' hx
      have hne : E.ρ x ≠ E.w.heap.size := by omega
      refine ⟨arr', elem', ?_, h2, fun i hl => (h3 i hl).mono hv, ?_⟩
      · simp only [Env.newObj, if_neg e]; rw [← h1]; exact heap_alloc _ _ _ hl
      · simp only [Env.newObj, if_neg e, if_neg hne]; exact h4
  · intro x n sz b hx hb
    simp only [Env.newObj, get_set hlen] at hx hb
    split at hx
    · cases hx
    · have hl := h.bufBlock hx hb
      obtain ⟨arr', elem', pos, h1, h2⟩ := h.bufs x n sz b hx hb
      have hne : b ≠ E.w.heap.size := by omega
      exact ⟨arr', elem', pos, by rw [← h1]; exact heap_alloc _ _ _ hl, by simp only [Env.newObj, if_neg hne]; exact h2⟩
  · intro x x' c c' h1 h2 e
    simp only [Env.newObj, get_set hlen] at h1 h2 e
    split at h1 <;> split at h2
    · cases h1
    · cases h1
    · cases h2
    · rename_i a b
      rw [if_neg a, if_neg b] at e
      exact h.injr x x' c c' h1 h2 e
  · intro x x' n sz n' sz' b h1 h2 e e'
    simp only [Env.newObj, get_set hlen] at h1 h2 e e'
    split at h1 <;> split at h2
    · cases h1
    · cases h1
    · cases h2
    · exact h.injb x x' n sz n' sz' b h1 h2 e e'
  · intro x k' hx
    simp only [Env.newObj, get_set hlen] at hx
    split at hx
    · rename_i e
      cases hx
      exact ⟨⟨o, by simp only [Env.newObj, if_pos e]; exact heap_alloc_new _ _, hr.mono hv⟩, by simp only [Env.newObj, if_pos e, if_true]⟩
    · rename_i e
      have hl := h.objs.lt hx
      obtain ⟨⟨o', a1, a2⟩, a3⟩ := h.objs.at_ x k' hx
      refine ⟨⟨o', ?_, a2.mono hv⟩, ?_⟩
      · simp only [Env.newObj, if_neg e]; rw [← a1]; exact heap_alloc _ _ _ hl
      · simp only [Env.newObj, if_neg e, if_neg (Nat.ne_of_lt hl)]; exact a3
  · intro x x' c c' h1 h2 e
    simp only [Env.newObj, get_set hlen] at h1 h2 e
    split at h1 <;> split at h2
    · omega
    · rename_i a b
      rw [if_pos a, if_neg b] at e
      have := h.objs.lt h2; omega
    · rename_i a b
      rw [if_neg a, if_pos b] at e
      have := h.objs.lt h1; omega
    · rename_i a b
      rw [if_neg a, if_neg b] at e
      exact h.objs.inj x x' c c' h1 h2 e
end newObj
def Env.setObj (E : Env) (id : Nat) (w' : World) (k : OKind) : Env := { E with w := w', H := E.H.set id (.obj k) }
structure World.Turned (w w' : World) (b : Nat) : Prop where
  os : w'.os = w.os
  tape : w'.tape = w.tape
  output : w'.output = w.output
  size : w'.heap.size = w.heap.size
  other : ∀ x, x ≠ b → w'.heap[x]? = w.heap[x]?
section setObj
variable {E : Env} (h : E.Ok) {id : Nat} {k0 : OKind} (hi : E.H[id]? = some (.obj k0)) {w' : World} (ht : World.Turned E.w w' (E.ρ id)) (k : OKind)
include h hi ht
theorem Env.setObj_view : E.view.le (E.setObj id w' k).view := by
  have hlen := len_of_get hi
  obtain ⟨_, hk⟩ := h.objs.at_ id k0 hi
  refine ⟨fun a u hc => ?_, fun x hb => ?_, fun x hb => rfl, fun x t' hb hx => ⟨t', ?_, .inl rfl⟩⟩
  · simp only [Env.view] at hc ⊢
    split at hc
    · rename_i hs
      have hne : a.block ≠ E.ρ id := by intro e; rw [e, hk] at hs; simp [Kind.stable] at hs
      simp only [Env.setObj, hs, if_true]
      rw [cell?_congr (ht.other _ hne)]; exact hc
    · cases hc
  · obtain ⟨o, a1, a2⟩ := hb
    by_cases e : x = id
    · exact ⟨.obj k, by simp only [Env.setObj, get_set hlen, if_pos e], by simp⟩
    · exact ⟨o, by simp only [Env.setObj, get_set hlen, if_neg e]; exact a1, a2⟩
  · by_cases e : x = id
    · simp only [Env.view, Env.setObj, get_set hlen, if_pos e] at hx; cases hx
    · simp only [Env.view, Env.setObj, get_set hlen, if_neg e] at hx ⊢; exact hx
theorem Env.setObj_le : E.le (E.setObj id w' k) := by
  have hlen := len_of_get hi
  refine ⟨ht.os, ht.tape, ht.output, by show _ ≤ w'.heap.size; rw [ht.size]; exact Nat.le_refl _, fun b hb hn => ⟨rfl, ht.other _ fun e => hn (.inr (.inr ⟨id, k0, hi, e.symm⟩))⟩, Env.setObj_view h hi ht k, fun b hb => Or.imp ?_ (Or.imp ?_ ?_)⟩
  · rintro ⟨x, cs', a1, a2⟩
    simp only [Env.setObj, get_set hlen] at a1 a2
    split at a1
    · cases a1
    · exact ⟨x, cs', a1, a2⟩
  · rintro ⟨x, n, sz, a1, a2⟩
    simp only [Env.setObj, get_set hlen] at a1 a2
    split at a1
    · cases a1
    · exact ⟨x, n, sz, a1, a2⟩
  · rintro ⟨x, k', a1, a2⟩
    simp only [Env.setObj, get_set hlen] at a1 a2
    split at a1
    · rename_i e; exact ⟨id, k0, hi, by rw [← e]; exact a2⟩
    · exact ⟨x, k', a1, a2⟩
theorem Env.Ok.setObj (hr : ∃ o, w'.heap[E.ρ id]? = some o ∧ OR E.view k o) : (E.setObj id w' k).Ok := by
  have hlen := len_of_get hi
  have hle := Env.setObj_view h hi ht k
  obtain ⟨⟨o0, h1, h2⟩, h3⟩ := h.objs.at_ id k0 hi
  refine ⟨?_, ?_, ?_, ?_, h.globs_of hle.cell (by intro x b vs hx; simp only [Env.setObj, get_set hlen] at hx; split at hx <;> first | exact hx | cases hx), ?_, ?_⟩
  · intro x cs' hx
    simp only [Env.setObj, get_set hlen] at hx
    split at hx
    · cases hx
    · obtain ⟨arr', elem', b1, b2, b3, b4⟩ := h.rows x cs' hx
      have hne : E.ρ x ≠ E.ρ id := fun q => by rw [q, h1] at b1; cases b1; exact h2.cells
      exact ⟨arr', elem', by rw [← b1]; exact ht.other _ hne, b2, fun i hl => (b3 i hl).mono hle, b4⟩
  · intro x n sz b hx hb
    simp only [Env.setObj, get_set hlen] at hx hb
    split at hx
    · cases hx
    · obtain ⟨arr', elem', pos, b1, b2⟩ := h.bufs x n sz b hx hb
      have hne : b ≠ E.ρ id := by intro q; rw [q, h3] at b2; cases b2
      exact ⟨arr', elem', pos, by rw [← b1]; exact ht.other _ hne, b2⟩
  · intro x x' c c' a1 a2 e
    simp only [Env.setObj, get_set hlen] at a1 a2 e
    split at a1 <;> split at a2
    · cases a1
    · cases a1
    · cases a2
    · exact h.injr x x' c c' a1 a2 e
  · intro x x' n sz n' sz' b a1 a2 e e'
    simp only [Env.setObj, get_set hlen] at a1 a2 e e'
    split at a1 <;> split at a2
    · cases a1
    · cases a1
    · cases a2
    · exact h.injb x x' n sz n' sz' b a1 a2 e e'
  · intro x k' hx
    simp only [Env.setObj, get_set hlen] at hx
    split at hx
    · rename_i e
      cases hx
      subst e
      obtain ⟨o, b1, b2⟩ := hr
      exact ⟨⟨o, b1, b2.mono hle⟩, h3⟩
    · rename_i e
      obtain ⟨⟨o, b1, b2⟩, b3⟩ := h.objs.at_ x k' hx
      have hne : E.ρ x ≠ E.ρ id := fun q => e (h.objs.inj x id k' k0 hx hi q)
      exact ⟨⟨o, by rw [← b1]; exact ht.other _ hne, b2.mono hle⟩, b3⟩
  · intro x x' c c' a1 a2 e
    simp only [Env.setObj, get_set hlen] at a1 a2 e
    have fix : ∀ y d, (if y = id then some (AObj.obj k) else E.H[y]?) = some (.obj d) → ∃ d', E.H[y]? = some (.obj d') := by
      intro y d q
      split at q
      · rename_i e; subst e; exact ⟨k0, hi⟩
      · exact ⟨d, q⟩
    obtain ⟨d, hd⟩ := fix _ _ a1
    obtain ⟨d', hd'⟩ := fix _ _ a2
    exact h.objs.inj x x' d d' hd hd' e
end setObj
section
variable {P : Program}
theorem tmap_some {t e : TypeId} (h : tmap P t = some e) : ∃ k, P.underlying t = some (.map k e) ∧ P.underlying k = some (.int .i64) := by
  unfold tmap at h
  split at h
  · rename_i k e' hu
    split at h
    · rename_i hk; cases h; exact ⟨k, hu, hk⟩
    · cases h
  · cases h
theorem mfind_lt : ∀ (es : List (Int × PV)) (n : Int) (j i : Nat) (v : PV), mfind es n j = some (i, v) → j ≤ i ∧ i < j + es.length
  | [], n, j, i, v, h => by cases h
  | e :: es, n, j, i, v, h => by
    simp only [mfind] at h
    split at h
    · cases h; simp
    · have := mfind_lt es n (j + 1) i v h
      simp only [List.length_cons]; omega
theorem findNow_some {V : View} : ∀ (ms : List MapEntry) (es : List (Int × PV)) (n : Int) (j : Nat), MRel V ms es →
    (mfind es n j = none ∧ Instr.findNow (.int .i64) (.int .i64 n) ms j = some none) ∨ ∃ i v p, mfind es n j = some (i, p) ∧ Instr.findNow (.int .i64) (.int .i64 n) ms j = some (some (i, v)) ∧ VRel V v p
  | [], [], n, j, _ => .inl ⟨rfl, rfl⟩
  | m :: ms, e :: es, n, j, h => by
    obtain ⟨h1, h2, h3⟩ := h
    simp only [mfind, Instr.findNow, h1, Instr.sameNow, if_true]
    by_cases hn : e.1 = n
    · right
      subst hn
      refine ⟨j, m.val, e.2, by rw [if_pos rfl], ?_, h2⟩
      simp
    · have e1 : (n == e.1) = false := by simpa using fun q => hn q.symm
      rw [if_neg hn, e1]
      exact findNow_some ms es n (j + 1) h3
  | [], _ :: _, n, j, h => h.elim
  | _ :: _, [], n, j, h => h.elim
theorem run_checkKey {k : TypeId} (hk : P.underlying k = some (.int .i64)) (b : Bool) (n : Int) (w : World) : (Instr.checkKey b 10000 k (.int .i64 n)).run P w = .ok () w := by
  rw [show (10000 : Nat) = Nat.succ 9999 from rfl, Instr.checkKey.eq_2]
  simp only [Sem.run_bind, run_under hk, Result.andThen_ok, Sem.run_pure]
theorem run_getObj {w : World} {b : Nat} {ms : Array MapEntry} {c : Nat} (h : w.heap[b]? = some (.map ms c)) : (getObj b).run P w = .ok (.map ms c) w := by
  simp [getObj, Sem.run, h]
theorem run_setObj {w : World} {b : Nat} {ms : Array MapEntry} {c : Nat} {o' : Obj} (h : w.heap[b]? = some (.map ms c)) : (setObj b o').run P w = .ok () { w with heap := w.heap.setIfInBounds b o' } := by
  simp [setObj, Sem.run, h]
theorem MRel.set {V : View} {n : Int} {v : Value} {p : PV} (hv : VRel V v p) : ∀ {ms : List MapEntry} {es : List (Int × PV)} (i : Nat), MRel V ms es → MRel V (ms.modify i fun (e : MapEntry) => { e with key := .int .i64 n, val := v }) (es.set i (n, p))
  | [], [], i, _ => by simp [MRel]
  | m :: ms, e :: es, 0, h => ⟨rfl, hv, h.2.2⟩
  | m :: ms, e :: es, i + 1, h => ⟨h.1, h.2.1, MRel.set hv i h.2.2⟩
  | [], _ :: _, i, h => h.elim
  | _ :: _, [], i, h => h.elim
theorem MRel.app {V : View} {n : Int} {v : Value} {p : PV} {c : Nat} (hv : VRel V v p) : ∀ {ms : List MapEntry} {es : List (Int × PV)}, MRel V ms es → MRel V (ms ++ [{ key := .int .i64 n, val := v, born := c }]) (es ++ [(n, p)])
  | [], [], _ => ⟨rfl, hv, trivial⟩
  | m :: ms, e :: es, h => ⟨h.1, h.2.1, MRel.app hv h.2.2⟩
  | [], _ :: _, h => h.elim
  | _ :: _, [], h => h.elim
theorem mfind_key : ∀ (es : List (Int × PV)) (n : Int) (j i : Nat) (v : PV), mfind es n j = some (i, v) → es[i - j]? = some (n, v)
  | [], n, j, i, v, h => by cases h
  | e :: es, n, j, i, v, h => by
    simp only [mfind] at h
    split at h
    · rename_i he
      cases h
      subst he
      simp
    · have h1 := mfind_lt es n (j + 1) i v h
      have := mfind_key es n (j + 1) i v h
      rw [show i - j = (i - (j + 1)) + 1 by omega, List.getElem?_cons_succ]
      exact this
theorem mfind_none : ∀ (es : List (Int × PV)) (n : Int) (j : Nat), mfind es n j = none → n ∉ es.map (·.1)
  | [], n, j, h => by simp
  | e :: es, n, j, h => by
    simp only [mfind] at h
    split at h
    · cases h
    · rename_i he
      have := mfind_none es n (j + 1) h
      simp only [List.map_cons, List.mem_cons, not_or]
      exact ⟨fun q => he q.symm, this⟩
theorem map_fst_set (es : List (Int × PV)) (i : Nat) (n : Int) (p q : PV) (h : es[i]? = some (n, q)) : (es.set i (n, p)).map (·.1) = es.map (·.1) := by
  apply List.ext_getElem?
  intro j
  rw [List.getElem?_map, List.getElem?_map]
  by_cases e : i = j
  · subst e
    have hl : i < es.length := (List.getElem?_eq_some_iff.1 h).1
    rw [List.getElem?_set_self hl, h]; rfl
  · rw [List.getElem?_set_ne e]
theorem map_born_modify (ms : List MapEntry) (i : Nat) (f : MapEntry → MapEntry) (hf : ∀ e, (f e).born = e.born) : (ms.modify i f).map (·.born) = ms.map (·.born) := by
  apply List.ext_getElem?
  intro j
  rw [List.getElem?_map, List.getElem?_map, List.getElem?_modify]
  cases ms[j]? with
  | none => rfl
  | some m => by_cases e : i = j <;> simp [e, hf]
abbrev GE := Nat × (Int × Int × Int) × PV
theorem gfind_lt : ∀ (es : List GE) (n : Int × Int × Int) (j i b : Nat) (v : PV), gfind es n j = some (i, b, v) → j ≤ i ∧ i < j + es.length ∧ es[i - j]? = some (b, n, v)
  | [], n, j, i, b, v, h => by cases h
  | e :: es, n, j, i, b, v, h => by
    simp only [gfind] at h
    split at h
    · rename_i he
      cases h
      subst he
      simp
    · obtain ⟨h1, h2, h3⟩ := gfind_lt es n (j + 1) i b v h
      refine ⟨by omega, by simp only [List.length_cons]; omega, ?_⟩
      rw [show i - j = (i - (j + 1)) + 1 by omega, List.getElem?_cons_succ]
      exact h3
theorem gfind_none : ∀ (es : List GE) (n : Int × Int × Int) (j : Nat), gfind es n j = none → n ∉ es.map (·.2.1)
  | [], n, j, h => by simp
  | e :: es, n, j, h => by
    simp only [gfind] at h
    split at h
    · cases h
    · rename_i he
      have := gfind_none es n (j + 1) h
      simp only [List.map_cons, List.mem_cons, not_or]
      exact ⟨he, this⟩
theorem run_findAsking {k : TypeId} {a b c : Field} (K : KeyT P k a b c) {V : View} (w : World) : ∀ (ms : List MapEntry) (es : List GE) (n : Int × Int × Int) (j : Nat), GRel V ms es →
    (gfind es n j = none ∧ (Instr.findAsking k (gkey n) ms j).run P w = .ok none w) ∨ ∃ i v bo p, gfind es n j = some (i, bo, p) ∧ (Instr.findAsking k (gkey n) ms j).run P w = .ok (some (i, v)) w ∧ VRel V v p
  | [], [], n, j, _ => .inl ⟨rfl, rfl⟩
  | m :: ms, e :: es, n, j, h => by
    obtain ⟨h0, h1, h2, h3⟩ := h
    simp only [gfind, Instr.findAsking, h1, Sem.run_bind, run_key_eq K, Result.andThen_ok]
    by_cases hn : n = e.2.1
    · right
      refine ⟨j, m.val, e.1, e.2.2, by rw [if_pos hn], ?_, h2⟩
      simp only [hn, decide_true, if_true, Sem.run_pure]
    · rw [if_neg hn]
      simp only [hn, decide_false, Bool.false_eq_true, if_false]
      exact run_findAsking K w ms es n (j + 1) h3
  | [], _ :: _, n, j, h => h.elim
  | _ :: _, [], n, j, h => h.elim
theorem findNow_struct (fs : Array Field) (n : Int × Int × Int) (ms : List MapEntry) : Instr.findNow (.struct fs) (gkey n) ms 0 = none ∨ (ms = [] ∧ Instr.findNow (.struct fs) (gkey n) ms 0 = some none) := by
  cases ms with
  | nil => exact .inr ⟨rfl, rfl⟩
  | cons m ms => left; rfl
theorem run_findKeyG {k : TypeId} {a b c : Field} (K : KeyT P k a b c) {V : View} (w : World) {ms : List MapEntry} {es : List GE} (n : Int × Int × Int) (h : GRel V ms es) :
    (gfind es n 0 = none ∧ (Instr.findKey k (gkey n) ms).run P w = .ok none w) ∨ ∃ i v bo p, gfind es n 0 = some (i, bo, p) ∧ (Instr.findKey k (gkey n) ms).run P w = .ok (some (i, v)) w ∧ VRel V v p := by
  unfold Instr.findKey
  simp only [Sem.run_bind, run_under K.ut, Result.andThen_ok]
  rcases findNow_struct #[a, b, c] n ms with e | ⟨rfl, e⟩
  · rw [e]; exact run_findAsking K w ms es n 0 h
  · rw [e]
    cases es with
    | nil => exact .inl ⟨rfl, rfl⟩
    | cons _ _ => exact h.elim
theorem GRel.length {V : View} : ∀ {ms : List MapEntry} {es : List GE}, GRel V ms es → ms.length = es.length
  | [], [], _ => rfl
  | m :: ms, e :: es, h => by rw [List.length_cons, List.length_cons, GRel.length h.2.2.2]
  | [], _ :: _, h => h.elim
  | _ :: _, [], h => h.elim
theorem GRel.get {V : View} : ∀ {ms : List MapEntry} {es : List GE}, GRel V ms es → ∀ (i : Nat) (h : i < ms.length) (h' : i < es.length), ms[i].born = es[i].1 ∧ ms[i].key = gkey es[i].2.1 ∧ VRel V ms[i].val es[i].2.2
  | m :: ms, e :: es, h, 0, _, _ => ⟨h.1, h.2.1, h.2.2.1⟩
  | m :: ms, e :: es, h, i + 1, h1, h2 => GRel.get h.2.2.2 i _ _
  | [], [], _, i, h, _ => absurd h (Nat.not_lt_zero _)
  | [], _ :: _, h, _, _, _ => h.elim
  | _ :: _, [], h, _, _, _ => h.elim
theorem GRel.set {V : View} {n : Int × Int × Int} {v : Value} {p q : PV} {b : Nat} (hv : VRel V v p) : ∀ {ms : List MapEntry} {es : List GE} (i : Nat), GRel V ms es → es[i]? = some (b, n, q) → GRel V (ms.modify i fun (e : MapEntry) => { e with key := gkey n, val := v }) (es.set i (b, n, p))
  | [], [], i, _, hi => by simp at hi
  | m :: ms, e :: es, 0, h, hi => by
    simp only [List.getElem?_cons_zero, Option.some.injEq] at hi
    subst hi
    exact ⟨h.1, rfl, hv, h.2.2.2⟩
  | m :: ms, e :: es, i + 1, h, hi => ⟨h.1, h.2.1, h.2.2.1, GRel.set hv i h.2.2.2 (by simpa using hi)⟩
  | [], _ :: _, i, h, _ => h.elim
  | _ :: _, [], i, h, _ => h.elim
theorem GRel.app {V : View} {n : Int × Int × Int} {v : Value} {p : PV} {c : Nat} (hv : VRel V v p) : ∀ {ms : List MapEntry} {es : List GE}, GRel V ms es → GRel V (ms ++ [{ key := gkey n, val := v, born := c }]) (es ++ [(c, n, p)])
  | [], [], _ => ⟨rfl, rfl, hv, trivial⟩
  | m :: ms, e :: es, h => ⟨h.1, h.2.1, h.2.2.1, GRel.app hv h.2.2.2⟩
  | [], _ :: _, h => h.elim
  | _ :: _, [], h => h.elim
theorem GRel.erase {V : View} : ∀ {ms : List MapEntry} {es : List GE} (i : Nat), GRel V ms es → GRel V (ms.eraseIdx i) (es.eraseIdx i)
  | [], [], i, _ => by simp [GRel]
  | m :: ms, e :: es, 0, h => h.2.2.2
  | m :: ms, e :: es, i + 1, h => ⟨h.1, h.2.1, h.2.2.1, GRel.erase i h.2.2.2⟩
  | [], _ :: _, i, h => h.elim
  | _ :: _, [], i, h => h.elim
theorem map_set_same {α β : Type} (f : α → β) (es : List α) (i : Nat) (p q : α) (h : es[i]? = some q) (hf : f p = f q) : (es.set i p).map f = es.map f := by
  apply List.ext_getElem?
  intro j
  rw [List.getElem?_map, List.getElem?_map]
  by_cases e : i = j
  · subst e
    have hl : i < es.length := (List.getElem?_eq_some_iff.1 h).1
    rw [List.getElem?_set_self hl, h]; simp [hf]
  · rw [List.getElem?_set_ne e]
theorem GOk.set {es : List GE} {clk : Nat} (h : GOk es clk) {i b : Nat} {n : Int × Int × Int} {p q : PV} (hi : es[i]? = some (b, n, q)) : GOk (es.set i (b, n, p)) clk := by
  refine ⟨by rw [map_set_same (·.1) es i (b, n, p) (b, n, q) hi rfl]; exact h.born, fun e he => ?_, by rw [map_set_same (·.2.1) es i (b, n, p) (b, n, q) hi rfl]; exact h.keys⟩
  rcases List.mem_or_eq_of_mem_set he with he | rfl
  · exact h.lt e he
  · exact h.lt (b, n, q) (List.mem_of_getElem? hi)
theorem GOk.app {es : List GE} {clk : Nat} (h : GOk es clk) {n : Int × Int × Int} {p : PV} (hn : n ∉ es.map (·.2.1)) : GOk (es ++ [(clk, n, p)]) (clk + 1) := by
  refine ⟨?_, fun e he => ?_, ?_⟩
  · rw [List.map_append, List.pairwise_append]
    refine ⟨h.born, by simp, fun x hx y hy => ?_⟩
    simp at hy; subst hy
    obtain ⟨e, he, rfl⟩ := List.mem_map.1 hx
    exact h.lt e he
  · rcases List.mem_append.1 he with he | he
    · exact Nat.lt_succ_of_lt (h.lt e he)
    · simp at he; subst he; exact Nat.lt_succ_self _
  · rw [List.map_append, List.nodup_append]
    refine ⟨h.keys, by simp, ?_⟩
    intro x hx y hy
    simp at hy; subst hy
    rintro rfl
    exact hn hx
theorem map_eraseIdx' {α β : Type} (f : α → β) : ∀ (l : List α) (i : Nat), (l.eraseIdx i).map f = (l.map f).eraseIdx i
  | [], _ => by simp
  | x :: l, 0 => rfl
  | x :: l, i + 1 => by simp [List.eraseIdx_cons_succ, map_eraseIdx' f l i]
theorem GOk.erase {es : List GE} {clk : Nat} (h : GOk es clk) (i : Nat) : GOk (es.eraseIdx i) clk :=
  ⟨by rw [map_eraseIdx']; exact h.born.sublist (List.eraseIdx_sublist _ _), fun e he => h.lt e ((List.eraseIdx_sublist _ _).subset he), by rw [map_eraseIdx']; exact h.keys.sublist (List.eraseIdx_sublist _ _)⟩
theorem GOk.nil (c : Nat) : GOk [] c := ⟨by simp, by simp, by simp⟩
theorem same_key (x : Int × Int × Int) : Instr.sameBits 10000 (gkey x) (gkey x) = true := by
  show Instr.sameBits (9999 + 1) _ _ = true
  unfold gkey
  simp [Instr.sameBits]
variable {E : Env} {N : Nat} {a : Act} {T : Nat → PV} (ho : E.Ok)
include ho
omit ho in
theorem turned_set (id : Nat) (o' : Obj) : World.Turned E.w { E.w with heap := E.w.heap.setIfInBounds (E.ρ id) o' } (E.ρ id) :=
  ⟨rfl, rfl, rfl, by simp, fun y hy => by simp [Ne.symm hy]⟩
omit ho in
theorem gkey_inv {V : View} {kv : Value} {x y z : Int} (hk : VRel V kv (.agg [.int .i64 x, .int .i64 y, .int .i64 z])) : kv = gkey (x, y, z) := by
  cases hk with
  | agg arr _ hl hr =>
    have h0 := hr 0 (by simp); have h1 := hr 1 (by simp); have h2 := hr 2 (by simp)
    simp only [List.getElem_cons_zero, List.getElem_cons_succ] at h0 h1 h2
    have g0 := h0.int_inv; have g1 := h1.int_inv; have g2 := h2.int_inv
    unfold gkey
    have hs : arr.size = 3 := hl
    have : arr = #[arr.getD 0 undef, arr.getD 1 undef, arr.getD 2 undef] := by
      apply Array.ext (by simp [hs])
      intro i h1 h2
      have h3 : i < 3 := by omega
      match i, h3 with
      | 0, _ => simp [Array.getD, hs]
      | 1, _ => simp [Array.getD, hs]
      | 2, _ => simp [Array.getD, hs]
    rw [this, g0, g1, g2]
theorem sound_lookup {t : TypeId} {xv kv : Value} {x k p : PV} {ok : Bool} (hx : VRel E.view xv x) (hk : VRel E.view kv k) (h : alookup P E.H t x k ok = some p) : ∃ val, (Instr.lookup t xv kv ok).run P E.w = .ok val E.w ∧ VRel E.view val p := by
  unfold alookup at h
  split at h
  · rename_i id n
    split at h
    · rename_i es hid
      obtain ⟨e, he, h⟩ := Option.bind_eq_some_iff.1 h
      obtain ⟨z, hz, h⟩ := Option.bind_eq_some_iff.1 h
      cases h
      obtain ⟨kt, ht, hkt⟩ := tmap_some he
      obtain ⟨f', zv, h5, h6, rfl⟩ := tzero_some hz
      obtain ⟨⟨o, b1, b2⟩, _⟩ := ho.objs.at_ id _ hid
      obtain ⟨ms, c, rfl, hm, _, _, _⟩ := b2
      have hx' : xv = .map (some (E.ρ id)) := by cases hx; rfl
      have hk' : kv = .int .i64 n := by cases hk; rfl
      subst hx' hk'
      have hf := findNow_some ms es n 0 hm
      unfold mget
      rcases hf with ⟨f1, f2⟩ | ⟨i, v, q, f1, f2, f3⟩
      · refine ⟨if ok then .tuple #[zv, .bool false] else zv, ?_, ?_⟩
        · simp only [Instr.lookup, Sem.run_bind, run_under ht, run_under hkt, run_getObj b1, run_checkKey hkt, Instr.findKey, Result.andThen_ok, Sem.run_pure, List.toList_toArray, f2, run_zero h5 h6]
        · rw [f1]
          simp only [Option.map_none, alook]
          have hz := vrel_ofConst E.view zv
          cases ok
          · exact hz
          · refine .tup _ _ rfl fun i hi => ?_
            match i, hi with
            | 0, _ => exact hz
            | 1, _ => exact .bool _
      · refine ⟨if ok then .tuple #[v, .bool true] else v, ?_, ?_⟩
        · simp only [Instr.lookup, Sem.run_bind, run_under ht, run_under hkt, run_getObj b1, run_checkKey hkt, Instr.findKey, Result.andThen_ok, Sem.run_pure, List.toList_toArray, f2]
        · rw [f1]
          simp only [Option.map_some, alook]
          cases ok
          · exact f3
          · refine .tup _ _ rfl fun i hi => ?_
            match i, hi with
            | 0, _ => exact f3
            | 1, _ => exact .bool _
    · cases h
  · rename_i id x y n
    split at h
    · rename_i es clk hid
      obtain ⟨e, he, h⟩ := Option.bind_eq_some_iff.1 h
      obtain ⟨z, hz, h⟩ := Option.bind_eq_some_iff.1 h
      cases h
      obtain ⟨kt, fa, fb, fc, ht, K⟩ := tmapg_some he
      obtain ⟨f', zv, h5, h6, rfl⟩ := tzero_some hz
      obtain ⟨⟨o, b1, b2⟩, _⟩ := ho.objs.at_ id _ hid
      obtain ⟨ms, rfl, hm, _⟩ := b2
      have hx' : xv = .map (some (E.ρ id)) := by cases hx; rfl
      have hk' := gkey_inv hk
      subst hx' hk'
      unfold gget
      rcases run_findKeyG K E.w (x, y, n) hm with ⟨f1, f2⟩ | ⟨i, v, bo, q, f1, f2, f3⟩
      · refine ⟨if ok then .tuple #[zv, .bool false] else zv, ?_, ?_⟩
        · simp only [Instr.lookup, Sem.run_bind, run_under ht, run_getObj b1, run_key_ok K, Result.andThen_ok, Sem.run_pure, List.toList_toArray, f2, run_zero h5 h6]
        · rw [f1]
          simp only [Option.map_none, alook]
          have hz := vrel_ofConst E.view zv
          cases ok
          · exact hz
          · refine .tup _ _ rfl fun i hi => ?_
            match i, hi with
            | 0, _ => exact hz
            | 1, _ => exact .bool _
      · refine ⟨if ok then .tuple #[v, .bool true] else v, ?_, ?_⟩
        · simp only [Instr.lookup, Sem.run_bind, run_under ht, run_getObj b1, run_key_ok K, Result.andThen_ok, Sem.run_pure, List.toList_toArray, f2]
        · rw [f1]
          simp only [Option.map_some, alook]
          cases ok
          · exact f3
          · refine .tup _ _ rfl fun i hi => ?_
            match i, hi with
            | 0, _ => exact f3
            | 1, _ => exact .bool _
    · cases h
  · cases h
theorem sound_mapset {t : TypeId} {xv kv vv : Value} {x k v : PV} {e : Nat × AObj} (hx : VRel E.view xv x) (hk : VRel E.view kv k) (hv : VRel E.view vv v) (h : amapset P E.H t x k v = some e) :
    ∃ E', (Instr.mapUpdate t xv kv vv).run P E.w = .ok () E'.w ∧ E.le E' ∧ E'.Ok ∧ E'.H = E.H.set e.1 e.2 := by
  unfold amapset at h
  split at h
  · rename_i id n
    split at h
    · rename_i es hid
      split at h
      · rename_i hs
        cases h
        obtain ⟨et, he⟩ := Option.isSome_iff_exists.1 hs
        obtain ⟨kt, ht, hkt⟩ := tmap_some he
        obtain ⟨⟨o, b1, b2⟩, _⟩ := ho.objs.at_ id _ hid
        obtain ⟨ms, c, rfl, hm, hb, hn, hkn⟩ := b2
        have hx' : xv = .map (some (E.ρ id)) := by cases hx; rfl
        have hk' : kv = .int .i64 n := by cases hk; rfl
        subst hx' hk'
        have hlt := ho.objs.lt hid
        have hd := hv.drop1
        have turned : ∀ o', World.Turned E.w { E.w with heap := E.w.heap.setIfInBounds (E.ρ id) o' } (E.ρ id) := fun o' =>
          ⟨rfl, rfl, rfl, by simp, fun y hy => by simp [Ne.symm hy]⟩
        have at_ : ∀ o', ({ E.w with heap := E.w.heap.setIfInBounds (E.ρ id) o' } : World).heap[E.ρ id]? = some o' := fun o' => by simp [hlt]
        rcases findNow_some ms es n 0 hm with ⟨f1, f2⟩ | ⟨i, v0, q, f1, f2, f3⟩
        · have hms : mset es n v.drop1 = es ++ [(n, v.drop1)] := by unfold mset; rw [f1]
          rw [hms]
          have hor : OR E.view (.mapo (es ++ [(n, v.drop1)])) (.map (ms ++ [({ key := .int .i64 n, val := vv, born := c } : MapEntry)]).toArray (c + 1)) := by
            refine ⟨_, _, rfl, MRel.app hd hm, by simp [hb], ?_, ?_⟩
            · rw [List.map_append, hn, List.length_append, List.length_singleton, List.range_succ, hb]; rfl
            · rw [List.map_append, List.nodup_append]
              refine ⟨hkn, by simp, ?_⟩
              intro x hx y hy
              simp at hy; subst hy
              rintro rfl
              exact mfind_none _ _ _ f1 hx
          refine ⟨E.setObj id { E.w with heap := E.w.heap.setIfInBounds (E.ρ id) (.map (ms ++ [({ key := .int .i64 n, val := vv, born := c } : MapEntry)]).toArray (c + 1)) } (.mapo (es ++ [(n, v.drop1)])), ?_, Env.setObj_le ho hid (turned _) _, ho.setObj hid (turned _) _ ⟨_, at_ _, hor⟩, rfl⟩
          simp only [Instr.mapUpdate, Sem.run_bind, run_under ht, run_under hkt, run_getObj b1, run_checkKey hkt, Instr.findKey, Result.andThen_ok, Sem.run_pure, List.toList_toArray, f2, run_setObj b1, List.push_toArray]
          rfl
        · have hms : mset es n v.drop1 = es.set i (n, v.drop1) := by unfold mset; rw [f1]
          rw [hms]
          have hkey := mfind_key es n 0 i q f1
          rw [Nat.sub_zero] at hkey
          have hor : OR E.view (.mapo (es.set i (n, v.drop1))) (.map (ms.modify i fun (e : MapEntry) => { e with key := .int .i64 n, val := vv }).toArray c) := by
            refine ⟨_, _, rfl, MRel.set hd i hm, by rw [List.length_modify]; exact hb, ?_, ?_⟩
            · rw [map_born_modify ms i (fun (e : MapEntry) => { e with key := .int .i64 n, val := vv }) (fun _ => rfl), List.length_modify]; exact hn
            · rw [map_fst_set es i n _ q hkey]; exact hkn
          have hkold : ((ms.toArray[i]?).map (·.key)).getD (.int .i64 n) = .int .i64 n := by
            have : ∀ (ms : List MapEntry) (es : List (Int × PV)) (i : Nat), MRel E.view ms es → es[i]? = some (n, q) → (ms[i]?).map (·.key) = some (.int .i64 n) := by
              intro ms
              induction ms with
              | nil => intro es i h h2; cases es with | nil => cases h2 | cons _ _ => exact h.elim
              | cons m ms ih =>
                intro es i h h2
                cases es with
                | nil => exact h.elim
                | cons e es =>
                  cases i with
                  | zero => simp only [List.getElem?_cons_zero, Option.some.injEq] at h2; simp [h.1, h2]
                  | succ i => exact ih es i h.2.2 h2
            have := this ms es i hm hkey
            rw [List.getElem?_toArray, this]; rfl
          refine ⟨E.setObj id { E.w with heap := E.w.heap.setIfInBounds (E.ρ id) (.map (ms.modify i fun (e : MapEntry) => { e with key := .int .i64 n, val := vv }).toArray c) } (.mapo (es.set i (n, v.drop1))), ?_, Env.setObj_le ho hid (turned _) _, ho.setObj hid (turned _) _ ⟨_, at_ _, hor⟩, rfl⟩
          have hsame : Instr.sameBits 10000 (.int .i64 n) (.int .i64 n) = true := by
            show Instr.sameBits (9999 + 1) _ _ = true
            simp [Instr.sameBits]
          simp only [Instr.mapUpdate, Sem.run_bind, run_under ht, run_under hkt, run_getObj b1, run_checkKey hkt, Instr.findKey, Result.andThen_ok, Sem.run_pure, List.toList_toArray, f2, hkold, Instr.keyThatStays, hsame, if_true, run_setObj b1, List.modify_toArray]
          rfl
      · cases h
    · cases h
  · rename_i id x y n
    split at h
    · rename_i es clk hid
      split at h
      · rename_i hs
        cases h
        obtain ⟨et, he⟩ := Option.isSome_iff_exists.1 hs
        obtain ⟨kt, fa, fb, fc, ht, K⟩ := tmapg_some he
        obtain ⟨⟨o, b1, b2⟩, _⟩ := ho.objs.at_ id _ hid
        obtain ⟨ms, rfl, hm, hok⟩ := b2
        have hx' : xv = .map (some (E.ρ id)) := by cases hx; rfl
        have hk' := gkey_inv hk
        subst hx' hk'
        have hlt := ho.objs.lt hid
        have hd := hv.drop1
        have turned := turned_set (E := E) id
        have at_ : ∀ o', ({ E.w with heap := E.w.heap.setIfInBounds (E.ρ id) o' } : World).heap[E.ρ id]? = some o' := fun o' => by simp [hlt]
        rcases run_findKeyG K E.w (x, y, n) hm with ⟨f1, f2⟩ | ⟨i, v0, bo, q, f1, f2, f3⟩
        · have hms : gset es clk (x, y, n) v.drop1 = es ++ [(clk, (x, y, n), v.drop1)] := by unfold gset; rw [f1]
          have hck : gclk es clk (x, y, n) = clk + 1 := by unfold gclk gget; rw [f1]; rfl
          rw [hms, hck]
          have hor : OR E.view (.mapg (es ++ [(clk, (x, y, n), v.drop1)]) (clk + 1)) (.map (ms ++ [({ key := gkey (x, y, n), val := vv, born := clk } : MapEntry)]).toArray (clk + 1)) :=
            ⟨_, rfl, GRel.app hd hm, hok.app (gfind_none _ _ _ f1)⟩
          refine ⟨E.setObj id { E.w with heap := E.w.heap.setIfInBounds (E.ρ id) (.map (ms ++ [({ key := gkey (x, y, n), val := vv, born := clk } : MapEntry)]).toArray (clk + 1)) } (.mapg (es ++ [(clk, (x, y, n), v.drop1)]) (clk + 1)), ?_, Env.setObj_le ho hid (turned _) _, ho.setObj hid (turned _) _ ⟨_, at_ _, hor⟩, rfl⟩
          simp only [Instr.mapUpdate, Sem.run_bind, run_under ht, run_getObj b1, run_key_ok K, Result.andThen_ok, Sem.run_pure, List.toList_toArray, f2, run_setObj b1, List.push_toArray]
          rfl
        · have hms : gset es clk (x, y, n) v.drop1 = es.set i (bo, (x, y, n), v.drop1) := by unfold gset; rw [f1]
          have hck : gclk es clk (x, y, n) = clk := by unfold gclk gget; rw [f1]; rfl
          rw [hms, hck]
          obtain ⟨_, g2, g3⟩ := gfind_lt es _ 0 i bo q f1
          rw [Nat.sub_zero] at g3
          have hor : OR E.view (.mapg (es.set i (bo, (x, y, n), v.drop1)) clk) (.map (ms.modify i fun (e : MapEntry) => { e with key := gkey (x, y, n), val := vv }).toArray clk) :=
            ⟨_, rfl, GRel.set hd i hm g3, hok.set g3⟩
          have hkold : ((ms.toArray[i]?).map (·.key)).getD (gkey (x, y, n)) = gkey (x, y, n) := by
            have hi1 : i < es.length := by omega
            have hi2 : i < ms.length := by rw [hm.length]; exact hi1
            have := (hm.get i hi2 hi1).2.1
            rw [List.getElem?_eq_getElem hi1] at g3
            injection g3 with g3
            rw [List.getElem?_toArray, List.getElem?_eq_getElem hi2]
            simp only [Option.map_some, Option.getD_some, this, g3]
          refine ⟨E.setObj id { E.w with heap := E.w.heap.setIfInBounds (E.ρ id) (.map (ms.modify i fun (e : MapEntry) => { e with key := gkey (x, y, n), val := vv }).toArray clk) } (.mapg (es.set i (bo, (x, y, n), v.drop1)) clk), ?_, Env.setObj_le ho hid (turned _) _, ho.setObj hid (turned _) _ ⟨_, at_ _, hor⟩, rfl⟩
          simp only [Instr.mapUpdate, Sem.run_bind, run_under ht, run_getObj b1, run_key_ok K, Result.andThen_ok, Sem.run_pure, List.toList_toArray, f2, hkold, Instr.keyThatStays, same_key, if_true, run_setObj b1, List.modify_toArray]
          rfl
      · cases h
    · cases h
  · cases h
theorem sound_delete {t : TypeId} {x y n : Int} {kv : Value} {id : Nat} {es : List GE} {clk : Nat} {ts : Array TypeId} {ty : TypeId} (h0 : ts[0]? = some t) (he : (tmapg P t).isSome = true) (hid : E.H[id]? = some (.obj (.mapg es clk))) (hk : VRel E.view kv (.agg [.int .i64 x, .int .i64 y, .int .i64 n])) :
    ∃ E', (Builtin.delete_ ts ty #[.map (some (E.ρ id)), kv]).run P E.w = .ok (.tuple #[]) E'.w ∧ E.le E' ∧ E'.Ok ∧ E'.H = E.H.set id (.obj (.mapg (gdel es (x, y, n)) clk)) := by
  obtain ⟨et, he⟩ := Option.isSome_iff_exists.1 he
  obtain ⟨kt, fa, fb, fc, ht, K⟩ := tmapg_some he
  obtain ⟨⟨o, b1, b2⟩, _⟩ := ho.objs.at_ id _ hid
  obtain ⟨ms, rfl, hm, hok⟩ := b2
  have hk' := gkey_inv hk
  subst hk'
  have hlt := ho.objs.lt hid
  have turned := turned_set (E := E) id
  have at_ : ∀ o', ({ E.w with heap := E.w.heap.setIfInBounds (E.ρ id) o' } : World).heap[E.ρ id]? = some o' := fun o' => by simp [hlt]
  rcases run_findKeyG K E.w (x, y, n) hm with ⟨f1, f2⟩ | ⟨i, v0, bo, q, f1, f2, f3⟩
  · have hms : gdel es (x, y, n) = es := by unfold gdel; rw [f1]
    rw [hms]
    refine ⟨E.setObj id { E.w with heap := E.w.heap.setIfInBounds (E.ρ id) (.map ms.toArray clk) } (.mapg es clk), ?_, Env.setObj_le ho hid (turned _) _, ho.setObj hid (turned _) _ ⟨_, at_ _, ⟨ms, rfl, hm, hok⟩⟩, rfl⟩
    simp only [Builtin.delete_, h0, List.getElem?_toArray, List.getElem?_cons_zero, List.getElem?_cons_succ, Sem.run_bind, run_under ht, run_getObj b1, run_key_ok K, Result.andThen_ok, Sem.run_pure, List.toList_toArray, f2, run_setObj b1]
    rfl
  · have hms : gdel es (x, y, n) = es.eraseIdx i := by unfold gdel; rw [f1]
    rw [hms]
    refine ⟨E.setObj id { E.w with heap := E.w.heap.setIfInBounds (E.ρ id) (.map (ms.eraseIdx i).toArray clk) } (.mapg (es.eraseIdx i) clk), ?_, Env.setObj_le ho hid (turned _) _, ho.setObj hid (turned _) _ ⟨_, at_ _, ⟨_, rfl, hm.erase i, hok.erase i⟩⟩, rfl⟩
    simp only [Builtin.delete_, h0, List.getElem?_toArray, List.getElem?_cons_zero, List.getElem?_cons_succ, Sem.run_bind, run_under ht, run_getObj b1, run_key_ok K, Result.andThen_ok, Sem.run_pure, List.toList_toArray, f2, run_setObj b1, List.eraseIdxIfInBounds_toArray]
    rfl
theorem sound_clear {t k e : TypeId} {id : Nat} {es : List GE} {clk : Nat} {ts : Array TypeId} {ty : TypeId} (h0 : ts[0]? = some t) (ht : P.underlying t = some (.map k e)) (hid : E.H[id]? = some (.obj (.mapg es clk))) :
    ∃ E', (Builtin.clear_ ts ty #[.map (some (E.ρ id))]).run P E.w = .ok (.tuple #[]) E'.w ∧ E.le E' ∧ E'.Ok ∧ E'.H = E.H.set id (.obj (.mapg [] clk)) := by
  obtain ⟨⟨o, b1, b2⟩, _⟩ := ho.objs.at_ id _ hid
  obtain ⟨ms, rfl, hm, hok⟩ := b2
  have hlt := ho.objs.lt hid
  have turned := turned_set (E := E) id
  have at_ : ∀ o', ({ E.w with heap := E.w.heap.setIfInBounds (E.ρ id) o' } : World).heap[E.ρ id]? = some o' := fun o' => by simp [hlt]
  refine ⟨E.setObj id { E.w with heap := E.w.heap.setIfInBounds (E.ρ id) (.map #[] clk) } (.mapg [] clk), ?_, Env.setObj_le ho hid (turned _) _, ho.setObj hid (turned _) _ ⟨_, at_ _, ⟨[], rfl, trivial, .nil _⟩⟩, rfl⟩
  simp only [Builtin.clear_, h0, List.getElem?_toArray, List.getElem?_cons_zero, Sem.run_bind, run_under ht, run_getObj b1, Result.andThen_ok, Sem.run_pure, run_setObj b1]
  rfl
end
end Go.Abs
namespace Go.Abs
def okOp (N : Nat) (o : Op) : Bool := o.operands.toList.all (okOpnd N)
theorem rl_map {V : View} {N : Nat} {a : Act} {T : Nat → PV} (ht : TRel V N a T) (xs : Array Operand) (h : xs.toList.all (okOpnd N) = true) :
    RL V (xs.map a.eval) (xs.toList.map fun x => (aev T x).drop1) := by
  refine ⟨by simp, fun i hi => ?_⟩
  simp only [List.length_map, Array.length_toList] at hi
  simp only [List.getElem_map, Array.getElem_toList]
  rw [Array.getD_eq_getD_getElem?, Array.getElem?_map, Array.getElem?_eq_getElem hi]
  simp only [Option.map_some, Option.getD_some]
  exact (vrel_eval ht _ (List.all_eq_true.1 h _ (by simp))).drop1
theorem Done.of {P : Program} {E : Env} {s : Sem Value} {v : PV} {e : Eff} (h : ∃ E' val, s.run P E.w = .ok val E'.w ∧ E.le E' ∧ E'.Ok ∧ E'.H = e.app E.H ∧ VRel E'.view val v) :
    Done P E (do pure (.value (← s))) v e := by
  obtain ⟨E', val, h1, h2⟩ := h
  exact ⟨E', val, .inl (by simp only [Sem.run_bind, h1, Result.andThen_ok, Sem.run_pure]), h2⟩
theorem Done.same {P : Program} {E : Env} (ho : E.Ok) {s : Sem Value} {v : PV} (h : ∃ val, s.run P E.w = .ok val E.w ∧ VRel E.view val v) :
    Done P E (do pure (.value (← s))) v none := by
  obtain ⟨val, h1, h2⟩ := h
  exact Done.of ⟨E, val, h1, .refl E, ho, rfl, h2⟩
theorem bind_some {α β : Type} {x : Option α} {f : α → Option β} {b : β} (h : x.bind f = some b) : ∃ a, x = some a ∧ f a = some b := by
  cases x with
  | none => cases h
  | some a => exact ⟨a, rfl, h⟩
theorem telem_isSome {P : Program} {t : TypeId} (h : (telem P t).isSome = true) : ∃ e, P.underlying t = some (.slice e) := by
  cases hq : telem P t with
  | none => rw [hq] at h; cases h
  | some q => obtain ⟨e, i⟩ := q; exact ⟨e, (telem_some hq).1⟩
section
variable {P : Program} {E : Env} {N : Nat} {a : Act} {T : Nat → PV} (ho : E.Ok) (ht : TRel E.view N a T)
include ho ht
omit ho ht in
theorem run_builtin {b : Builtin} {xs : List Operand} {ts : List TypeId} {c : Call} {ty : TypeId} (h1 : c.callee = .builtin b) (h2 : c.args.toList = xs) (h3 : c.argTypes.toList = ts) {s : Sem Value} (hs : builtin b ts.toArray ty (c.args.map fun | .const _ => true | _ => false) (xs.map a.eval).toArray = (do pure (.value (← s)) : Sem Next)) :
    (do let d ← resolve a.eval c ty; invoke d.target d.args : Sem Next).run P E.w = (do pure (.value (← s)) : Sem Next).run P E.w := by
  obtain ⟨ca, ar, at_⟩ := c
  simp only at h1 h2 h3 hs
  subst h1; subst h2; subst h3
  simp only [resolve, Sem.run_bind, Sem.run_pure, Result.andThen_ok, invoke]
  have e1 : at_.toList.toArray = at_ := by simp
  have e2 : (List.map a.eval ar.toList).toArray = ar.map a.eval := by rw [← Array.toList_map]
  rw [e1, e2] at hs
  exact (congrArg (fun q : Sem Next => q.run P E.w) hs).trans (by simp only [Sem.run_bind, Sem.run_pure])
omit ho ht in
theorem Done.congr {s s' : Sem Next} (h : s.run P E.w = s'.run P E.w) {v : PV} {e : Eff} (d : Done P E s' v e) : Done P E s v e := by
  obtain ⟨E', val, h1, h2⟩ := d
  exact ⟨E', val, by rw [h]; exact h1, h2⟩
theorem builtin_sound {c : Call} {b : Builtin} (hc : c.callee = .builtin b) (hall : ∀ x ∈ c.args.toList, okOpnd N x = true) {ty : TypeId} {fresh : Nat} {v : PV} {eff : Eff} (hv : abuiltin P fresh T E.H b c.args.toList c.argTypes.toList = some (v, eff))
    (hfr : ∀ ob, eff = some (fresh, ob) → E.H[fresh]? = some .unborn) : Done P E (do let d ← resolve a.eval c ty; invoke d.target d.args) v eff := by
  generalize hxs : c.args.toList = xs at hv hall
  generalize hts : c.argTypes.toList = ts at hv
  unfold abuiltin at hv
  split at hv
  · -- len
    rename_i x t
    have hr := vrel_eval ht x (hall _ (by simp))
    refine Done.congr (run_builtin hc hxs hts (s := Builtin.len_ #[t] ty #[a.eval x]) rfl) ?_
    split at hv
    · rename_i es tl hx
      rw [hx] at hr
      split at hv
      · rename_i hs
        obtain ⟨e, hu⟩ := telem_isSome hs
        cases hv
        obtain ⟨ad, cap, hval⟩ : ∃ ad cap, a.eval x = .slice ad es.length cap := by
          generalize a.eval x = y at hr
          cases hr with
          | nils _ _ => exact ⟨none, 0, rfl⟩
          | slice ad len cap sz _ _ vs hlen hcap hmax hsz hc hr ht => subst hlen; exact ⟨some ad, cap, rfl⟩
        refine Done.same ho ⟨.int .i64 es.length, ?_, .int _ _⟩
        simp only [Sem.run_bind, Sem.run_pure, Result.andThen_ok, Builtin.len_, List.getElem?_toArray, List.getElem?_cons_zero, run_under hu, hval, goInt]
      · cases hv
    · rename_i id off n c hx
      rw [hx] at hr
      split at hv
      · rename_i hs
        obtain ⟨e, hu⟩ := telem_isSome hs
        cases hv
        obtain ⟨ad, cap, hval⟩ : ∃ ad cap, a.eval x = .slice ad n cap := by
          generalize a.eval x = y at hr
          cases hr; exact ⟨_, _, rfl⟩
        refine Done.same ho ⟨.int .i64 n, ?_, .int _ _⟩
        simp only [Sem.run_bind, Sem.run_pure, Result.andThen_ok, Builtin.len_, List.getElem?_toArray, List.getElem?_cons_zero, run_under hu, hval, goInt]
      · cases hv
    · rename_i s hx
      rw [hx] at hr
      split at hv
      · rename_i hs
        unfold tstr at hs
        split at hs
        · rename_i hu
          cases hv
          obtain ⟨s', hval, rfl⟩ : ∃ s', a.eval x = .string s' ∧ s = s'.data.toList := by
            generalize a.eval x = y at hr
            cases hr; exact ⟨_, rfl, rfl⟩
          refine Done.same ho ⟨.int .i64 s'.data.toList.length, ?_, .int _ _⟩
          simp only [Sem.run_bind, Sem.run_pure, Result.andThen_ok, Builtin.len_, List.getElem?_toArray, List.getElem?_cons_zero, run_under hu, hval, goInt, Array.length_toList]
          rfl
        · cases hs
      · cases hv
    · cases hv
  · -- min
    rename_i x y
    refine Done.congr (run_builtin hc hxs hts (s := Builtin.min_ _ ty #[a.eval x, a.eval y]) rfl) ?_
    split at hv
    · rename_i m n hx hy
      cases hv
      have hr := vrel_eval ht x (hall _ (by simp))
      have hr' := vrel_eval ht y (hall _ (by simp))
      rw [hx] at hr; rw [hy] at hr'
      refine Done.same ho ⟨.int .i64 (min m n), ?_, .int _ _⟩
      simp only [Sem.run_pure, Builtin.min_, hr.int_inv, hr'.int_inv, List.foldlM_cons, List.foldlM_nil, Builtin.min2, pure_bind]
      congr 2; rw [Int.min_def]; split <;> split <;> omega
    · cases hv
  · -- max
    rename_i x y
    refine Done.congr (run_builtin hc hxs hts (s := Builtin.max_ _ ty #[a.eval x, a.eval y]) rfl) ?_
    split at hv
    · rename_i m n hx hy
      cases hv
      have hr := vrel_eval ht x (hall _ (by simp))
      have hr' := vrel_eval ht y (hall _ (by simp))
      rw [hx] at hr; rw [hy] at hr'
      refine Done.same ho ⟨.int .i64 (max m n), ?_, .int _ _⟩
      simp only [Sem.run_pure, Builtin.max_, hr.int_inv, hr'.int_inv, List.foldlM_cons, List.foldlM_nil, Builtin.max2, pure_bind]
      congr 2; rw [Int.max_def]; split <;> split <;> omega
    · cases hv
  · -- append
    rename_i x y t u
    obtain ⟨ei, hf, hv⟩ := bind_some hv
    obtain ⟨z, hz, hv⟩ := bind_some hv
    refine Done.congr (run_builtin hc hxs hts (s := Builtin.append_ #[t, u] ty #[a.eval x, a.eval y]) rfl) ?_
    split at hv
    · rename_i hcc
      have hr := vrel_eval ht x (hall _ (by simp))
      have hr' := vrel_eval ht y (hall _ (by simp))
      exact Done.of (sound_append (ty := ty) ho hr hr' hf hz hcc.1 hcc.2 hv (fun ob h _ _ => hfr ob h))
    · cases hv
  · cases hv
theorem aop_sound {o : Oper} (hok : okOp N o.op = true) {mt : Bool} {fresh : Nat} {v : PV} {eff : Eff} (hv : aop P mt fresh T E.H o.op = some (v, eff)) (hfr : ∀ ob, eff = some (fresh, ob) → E.H[fresh]? = some .unborn) :
    Done P E (execOp a.eval o) v eff := by
  have hall : ∀ x ∈ o.op.operands.toList, okOpnd N x = true := fun x hx => List.all_eq_true.1 hok x hx
  unfold execOp
  generalize hop : o.op = op at hv hall
  unfold aop at hv
  split at hv
  · -- move
    cases hv
    exact Done.val ho rfl (vrel_eval ht _ (hall _ (by simp [Op.operands])))
  · cases hv
    exact Done.val ho rfl (vrel_eval ht _ (hall _ (by simp [Op.operands])))
  · -- pick
    rename_i c x y
    split at hv
    · rename_i b hb
      cases hv
      have hc := vrel_eval ht c (hall _ (by simp [Op.operands]))
      rw [hb] at hc
      have hc' := hc.bool_inv
      refine Done.val ho (val := if b then a.eval x else a.eval y) ?_ ?_
      · simp only [Sem.run_bind, hc', asBool, Sem.run_pure, Result.andThen_ok]
      · cases b
        · exact vrel_eval ht y (hall _ (by simp [Op.operands]))
        · exact vrel_eval ht x (hall _ (by simp [Op.operands]))
    · cases hv
  · -- alloc
    rename_i e
    obtain ⟨z, hz, hv⟩ := bind_some hv
    split at hv
    · cases hv
    · rename_i hj
      cases hv
      exact Done.of (sound_alloc ho (hfr _ rfl) hz (by simpa using hj))
  · -- box
    rename_i e x
    split at hv
    · cases hv
    · rename_i hj
      cases hv
      exact Done.of (sound_box ho ht (hfr _ rfl) (hall _ (by simp [Op.operands])) (by simpa using hj))
  · -- build
    rename_i t ps
    obtain ⟨fl, hf, hv⟩ := bind_some hv
    obtain ⟨z, hz, hv⟩ := bind_some hv
    split at hv
    · cases hv
    · rename_i hj
      obtain ⟨cs, hb, hv⟩ := bind_some hv
      cases hv
      exact Done.same ho (sound_build ht (List.all_eq_true.2 fun x hx => hall _ (by simp only [Op.operands]; exact List.mem_map.2 ⟨x, hx, rfl⟩)) hf hz (by simpa using hj) hb)
  · -- buildSlice
    rename_i t n ps
    obtain ⟨ei, hf, hv⟩ := bind_some hv
    obtain ⟨z, hz, hv⟩ := bind_some hv
    split at hv
    · rename_i hc
      obtain ⟨es, hb, hv⟩ := bind_some hv
      cases hv
      exact Done.of (sound_buildSlice ht ho (List.all_eq_true.2 fun x hx => hall _ (by simp only [Op.operands]; exact List.mem_map.2 ⟨x, hx, rfl⟩)) hf hz hc.1 hc.2.1 hc.2.2 hb)
    · cases hv
  · -- load
    rename_i t x
    obtain ⟨i, hi, hv⟩ := bind_some hv
    obtain ⟨p, hp, hv⟩ := bind_some hv
    cases hv
    exact Done.same ho (sound_load ho ht (hall _ (by simp [Op.operands])) hi hp)
  · -- store
    rename_i t x y
    obtain ⟨i, hi, hv⟩ := bind_some hv
    obtain ⟨e, he, hv⟩ := bind_some hv
    cases hv
    obtain ⟨E', h1, h2, h3, h4⟩ := sound_store ho ht (hall x (by simp [Op.operands])) (hall y (by simp [Op.operands])) hi he
    exact ⟨E', undef, .inr ⟨by simp only [Sem.run_bind, h1, Result.andThen_ok, Sem.run_pure], rfl⟩, h2, h3, h4, .junk _⟩
  · -- nilCheck
    rename_i x
    split at hv
    · rename_i id off hx
      cases hv
      have hr := vrel_eval ht x (hall _ (by simp [Op.operands]))
      rw [hx] at hr
      have hi := hr.optr_inv
      refine Done.val ho (val := a.eval x) ?_ hr
      simp only [hi.1]; rfl
    · rename_i cs hx
      cases hv
      have hr := vrel_eval ht x (hall _ (by simp [Op.operands]))
      rw [hx] at hr
      obtain ⟨ad, vs, e, _, _⟩ := hr.iptr_inv
      refine Done.val ho (val := a.eval x) ?_ hr
      simp only [e]; rfl
    · cases hv
  · -- binOp
    rename_i op xt x y yt
    obtain ⟨p, hp, hv⟩ := bind_some hv
    cases hv
    exact Done.same ho (sound_bin (vrel_eval ht _ (hall x (by simp [Op.operands]))) (vrel_eval ht _ (hall y (by simp [Op.operands]))) hp)
  · -- unOp
    obtain ⟨p, hp, hv⟩ := bind_some hv
    cases hv
    exact Done.same ho (sound_un (vrel_eval ht _ (hall _ (by simp [Op.operands]))) hp)
  · -- convert
    rename_i s d x
    split at hv
    · rename_i k0 n k hx hk
      split at hv
      · rename_i hs
        cases hv
        have hr := vrel_eval ht x (hall _ (by simp [Op.operands]))
        rw [hx] at hr
        refine Done.same ho (sound_convert hr hk ?_)
        unfold tint at hs
        cases hq : P.underlying s with
        | none => rw [hq] at hs; cases hs
        | some _ => rfl
      · cases hv
    · cases hv
  · -- makeFunc
    rename_i f first caps
    cases hv
    have h1 := rl_map ht first (List.all_eq_true.2 fun x hx => hall _ (by simp only [Op.operands]; simp; left; simpa using hx))
    have h2 := rl_map ht caps (List.all_eq_true.2 fun x hx => hall _ (by simp only [Op.operands]; simp; right; simpa using hx))
    exact Done.val ho rfl (.fn _ _ _ _ _ h1.1 h2.1 h1.2 h2.2)
  · -- makeSlice
    rename_i t l c
    obtain ⟨ei, hf, hv⟩ := bind_some hv
    obtain ⟨z, hz, hv⟩ := bind_some hv
    exact Done.of (sound_makeSlice ho (vrel_eval ht _ (hall l (by simp [Op.operands]))) (vrel_eval ht _ (hall c (by simp [Op.operands]))) hf hz hv hfr)
  · -- slice
    rename_i t x lo hi mx
    obtain ⟨p, hp, hv⟩ := bind_some hv
    cases hv
    refine Done.same ho (sound_slice ht (hall x (by simp [Op.operands])) ?_ ?_ ?_ hp)
    · cases lo with
      | none => rfl
      | some y => exact hall y (by simp [Op.operands])
    · cases hi with
      | none => rfl
      | some y => exact hall y (by simp [Op.operands])
    · cases mx with
      | none => rfl
      | some y => exact hall y (by simp [Op.operands])
  · -- fieldAddr
    obtain ⟨fl, hf, hv⟩ := bind_some hv
    obtain ⟨p, hp, hv⟩ := bind_some hv
    cases hv
    exact Done.same ho (sound_fieldAddr ht (hall _ (by simp [Op.operands])) hf hp)
  · obtain ⟨fl, hf, hv⟩ := bind_some hv
    obtain ⟨p, hp, hv⟩ := bind_some hv
    cases hv
    exact Done.same ho (sound_field ht (hall _ (by simp [Op.operands])) hf hp)
  · -- indexAddr
    rename_i t x i
    obtain ⟨ei, hf, hv⟩ := bind_some hv
    obtain ⟨p, hp, hv⟩ := bind_some hv
    cases hv
    exact Done.same ho (sound_indexAddr ht (hall x (by simp [Op.operands])) (hall i (by simp [Op.operands])) hf hp)
  · -- index
    rename_i t x i
    split at hv
    · rename_i s hs
      split at hv
      · rename_i hst
        obtain ⟨k, hk, hv⟩ := bind_some hv
        obtain ⟨b, hb, hv⟩ := bind_some hv
        cases hv
        exact Done.same ho ⟨_, sound_index ht (hall x (by simp [Op.operands])) (hall i (by simp [Op.operands])) hs hst hk hb, .int _ _⟩
      · cases hv
    · cases hv
  · -- extract
    rename_i t i
    split at hv
    · rename_i vs hx
      obtain ⟨p, hp, hv⟩ := bind_some hv
      cases hv
      exact Done.same ho (sound_extract ht (hall _ (by simp [Op.operands])) hx hp)
    · cases hv
  · -- lookup
    rename_i t x k ok
    obtain ⟨p, hp, hv⟩ := bind_some hv
    cases hv
    exact Done.same ho (sound_lookup ho (vrel_eval ht _ (hall x (by simp [Op.operands]))) (vrel_eval ht _ (hall k (by simp [Op.operands]))) hp)
  · -- mapUpdate
    rename_i t x k y
    obtain ⟨e, he, hv⟩ := bind_some hv
    cases hv
    obtain ⟨E', h1, h2, h3, h4⟩ := sound_mapset ho (vrel_eval ht _ (hall x (by simp [Op.operands]))) (vrel_eval ht _ (hall k (by simp [Op.operands]))) (vrel_eval ht _ (hall y (by simp [Op.operands]))) he
    exact ⟨E', undef, .inr ⟨by simp only [Sem.run_bind, h1, Result.andThen_ok, Sem.run_pure], rfl⟩, h2, h3, h4, .junk _⟩
  · -- makeMap
    rename_i t
    split at hv
    · cases hv
      have hun := hfr _ rfl
      have hor : OR E.view (.mapg [] 0) (.map #[] 0) := ⟨[], rfl, trivial, .nil 0⟩
      refine Done.of ⟨E.newObj fresh (.map #[] 0) (.mapg [] 0), .map (some E.w.heap.size), ?_, Env.newObj_le ho hun _ _, ho.newObj hun _ _ hor, rfl, ?_⟩
      · simp only [Option.map_none, Instr.makeMap, Sem.run_bind, run_newObj, Result.andThen_ok, Sem.run_pure]
        rfl
      · have := VRel.mapp (V := (E.newObj fresh (.map #[] 0) (.mapg [] 0)).view) fresh ⟨.obj (.mapg [] 0), by simp only [Env.newObj]; exact List.getElem?_set_self (len_of_get hun), by simp⟩
        have hρ : (E.newObj fresh (.map #[] 0) (.mapg [] 0)).view.rho fresh = E.w.heap.size := by simp [Env.view, Env.newObj]
        rw [hρ] at this
        exact this
    obtain ⟨e, he, hv⟩ := bind_some hv
    cases hv
    have hun := hfr _ rfl
    have hor : OR E.view (.mapo []) (.map #[] 0) := ⟨[], 0, rfl, trivial, by simp, by simp, by simp⟩
    refine Done.of ⟨E.newObj fresh (.map #[] 0) (.mapo []), .map (some E.w.heap.size), ?_, Env.newObj_le ho hun _ _, ho.newObj hun _ _ hor, rfl, ?_⟩
    · simp only [Option.map_none, Instr.makeMap, Sem.run_bind, run_newObj, Result.andThen_ok, Sem.run_pure]
      rfl
    · have := VRel.mapp (V := (E.newObj fresh (.map #[] 0) (.mapo [])).view) fresh ⟨.obj (.mapo []), by simp only [Env.newObj]; exact List.getElem?_set_self (len_of_get hun), by simp⟩
      have hρ : (E.newObj fresh (.map #[] 0) (.mapo [])).view.rho fresh = E.w.heap.size := by simp [Env.view, Env.newObj]
      rw [hρ] at this
      exact this
  · -- a builtin
    rename_i c
    split at hv
    · rename_i b hb
      exact builtin_sound ho ht hb (fun x hx => hall _ (by simp only [Op.operands, Call.operands, hb]; simpa using hx)) hv hfr
    · cases hv
  · cases hv
end
end Go.Abs
namespace Go.Abs
abbrev Slots := Nat → PV
abbrev Heap := List AObj
abbrev Post := Exit → Slots → Heap → Prop
structure Env.leN (n : Nat) (E E' : Env) : Prop where
  os : E'.w.os = E.w.os
  tape : E'.w.tape = E.w.tape
  output : E'.w.output = E.w.output
  size : E.w.heap.size ≤ E'.w.heap.size
  other : ∀ b, b < E.w.heap.size → ¬ E.owns b → E'.κ b = E.κ b ∧ E'.w.heap[b]? = E.w.heap[b]?
  cell : ∀ a v, E.view.cell a = some v → E'.view.cell a = some v
  bornv : ∀ id, id < n → E.view.born id → E'.view.born id ∧ E'.view.rho id = E.view.rho id ∧
    ∀ t', E'.view.tok id = some t' → ∃ t, E.view.tok id = some t ∧ (t' = t ∨ t.n < t'.n)
  born : ∀ b, b < E.w.heap.size → E'.owns b → E.owns b
theorem Env.le.leN {E E' : Env} (h : E.le E') (n : Nat) : E.leN n E' :=
  ⟨h.os, h.tape, h.output, h.size, h.other, h.view.cell, fun id _ hb => ⟨h.view.born id hb, h.view.rho id hb, fun t' ht => h.view.tok id t' hb ht⟩, h.born⟩
theorem Env.leN.refl (n : Nat) (E : Env) : E.leN n E := (Env.le.refl E).leN n
theorem Env.leN.trans {n : Nat} {A B C : Env} (h : A.leN n B) (k : B.leN n C) : A.leN n C :=
  ⟨k.os.trans h.os, k.tape.trans h.tape, k.output.trans h.output, Nat.le_trans h.size k.size,
   fun b hb h1 => by
    obtain ⟨e1, e2⟩ := h.other b hb h1
    obtain ⟨e3, e4⟩ := k.other b (Nat.lt_of_lt_of_le hb h.size) (fun x => h1 (h.born b hb x))
    exact ⟨e3.trans e1, e4.trans e2⟩,
   fun a v x => k.cell a v (h.cell a v x),
   fun id hid hb => by
    obtain ⟨b1, b2, b3⟩ := h.bornv id hid hb
    obtain ⟨c1, c2, c3⟩ := k.bornv id hid b1
    refine ⟨c1, c2.trans b2, fun t' ht => ?_⟩
    obtain ⟨t, h1, h2⟩ := c3 t' ht
    obtain ⟨t0, h3, h4⟩ := b3 t h1
    refine ⟨t0, h3, ?_⟩
    rcases h2 with rfl | h2
    · exact h4
    · rcases h4 with rfl | h4
      · exact .inr h2
      · exact .inr (by omega),
   fun b hb x => h.born b hb (k.born b (Nat.lt_of_lt_of_le hb h.size) x)⟩
theorem Env.leN.le {E E' : Env} (h : E.leN E.H.length E') : E.le E' := by
  have hl : ∀ id, E.view.born id → id < E.H.length := by
    rintro id ⟨o, h1, _⟩; exact len_of_get h1
  exact ⟨h.os, h.tape, h.output, h.size, h.other, ⟨h.cell, fun id hb => (h.bornv id (hl id hb) hb).1, fun id hb => (h.bornv id (hl id hb) hb).2.1, fun id t' hb ht => (h.bornv id (hl id hb) hb).2.2 t' ht⟩, h.born⟩
def lift (N nb : Nat) (E : Env) (Q : Post) : Exit → Act → World → Prop := fun e a' w' => ∃ E' T', E'.w = w' ∧ E.leN nb E' ∧ E'.Ok ∧ TRel E'.view N a' T' ∧ Q e T' E'.H
def AWP (P : Program) (N nb : Nat) (c : Code) (Q : Post) (T : Slots) (H : Heap) : Prop :=
  ∀ (E : Env) (a : Act), E.Ok → E.H = H → TRel E.view N a T → c.wp P (lift N nb E Q) a E.w
theorem lift_mono {N nb : Nat} {E E1 : Env} (h : E.leN nb E1) {Q Q' : Post} (hq : ∀ e T H, Q e T H → Q' e T H) {e : Exit} {a : Act} {w : World} (hl : lift N nb E1 Q e a w) : lift N nb E Q' e a w := by
  obtain ⟨E', T', h1, h2, h3, h4, h5⟩ := hl
  exact ⟨E', T', h1, h.trans h2, h3, h4, hq _ _ _ h5⟩
section rules
variable {P : Program} {N nb : Nat} {Q : Post} {T : Slots} {H : Heap}
theorem AWP.mono {c : Code} {Q' : Post} (h : AWP P N nb c Q T H) (hq : ∀ e T H, Q e T H → Q' e T H) : AWP P N nb c Q' T H :=
  fun E a ho hH ht => wp_mono (h E a ho hH ht) fun e a w hl => lift_mono (.refl nb E) hq hl
theorem awp_skip (h : Q .normal T H) : AWP P N nb .skip Q T H := fun E a ho hH ht => wp_skip ⟨E, T, rfl, .refl nb E, ho, ht, hH ▸ h⟩
theorem awp_exit {id : Nat} (h : Q (.exit id) T H) : AWP P N nb (.exit id) Q T H := fun E a ho hH ht => wp_exit ⟨E, T, rfl, .refl nb E, ho, ht, hH ▸ h⟩
theorem awp_ret (h : Q .ret T H) : AWP P N nb .ret Q T H := fun E a ho hH ht => wp_ret ⟨E, T, rfl, .refl nb E, ho, ht, hH ▸ h⟩
def thenQ (next : Slots → Heap → Prop) (Q : Post) : Post
  | .normal, T, H => next T H
  | e, T, H => Q e T H
theorem awp_seq {x y : Code} (h : AWP P N nb x (thenQ (AWP P N nb y Q) Q) T H) : AWP P N nb (.seq x y) Q T H := by
  intro E a ho hH ht
  refine wp_seq (wp_mono (h E a ho hH ht) ?_)
  intro e a' w' hl
  obtain ⟨E', T', rfl, h2, h3, h4, h5⟩ := hl
  cases e with
  | normal =>
    exact wp_mono (h5 E' a' h3 rfl h4) fun e a w hl => lift_mono h2 (fun _ _ _ q => q) hl
  | _ => exact ⟨E', T', rfl, h2, h3, h4, h5⟩
theorem awp_cond {c : Operand} {x y : Code} {b : Bool} (hc : okOpnd N c = true) (hb : aev T c = .bool b) (h1 : b = true → AWP P N nb x Q T H) (h2 : b = false → AWP P N nb y Q T H) : AWP P N nb (.cond c x y) Q T H := by
  intro E a ho hH ht
  have hr := vrel_eval ht c hc
  rw [hb] at hr
  exact wp_cond_split hr.bool_inv (fun e => h1 e E a ho hH ht) (fun e => h2 e E a ho hH ht)
theorem awp_cond_true {c : Operand} {x y : Code} (hc : okOpnd N c = true) (hb : aev T c = .bool true) (h1 : AWP P N nb x Q T H) : AWP P N nb (.cond c x y) Q T H :=
  awp_cond hc hb (fun _ => h1) (fun h => by cases h)
theorem awp_cond_false {c : Operand} {x y : Code} (hc : okOpnd N c = true) (hb : aev T c = .bool false) (h1 : AWP P N nb y Q T H) : AWP P N nb (.cond c x y) Q T H :=
  awp_cond hc hb (fun h => by cases h) (fun _ => h1)
def blockQ (id : Nat) (Q : Post) : Post
  | .exit id', T, H => if id' = id then Q .normal T H else Q (.exit id') T H
  | e, T, H => Q e T H
theorem awp_block {id : Nat} {c : Code} (h : AWP P N nb c (blockQ id Q) T H) : AWP P N nb (.block id c) Q T H := by
  intro E a ho hH ht
  refine wp_block (wp_mono (h E a ho hH ht) ?_)
  intro e a' w' hl
  obtain ⟨E', T', rfl, h2, h3, h4, h5⟩ := hl
  cases e with
  | exit id' =>
    simp only [blockQ] at h5
    simp only [Exit.inBlock]
    split at h5
    · rename_i e; rw [if_pos e]; exact ⟨E', T', rfl, h2, h3, h4, h5⟩
    · rename_i e; rw [if_neg e]; exact ⟨E', T', rfl, h2, h3, h4, h5⟩
  | _ => exact ⟨E', T', rfl, h2, h3, h4, h5⟩
theorem nat_least {p : Nat → Prop} (h : ∃ n, p n) : ∃ n, p n ∧ ∀ m, p m → n ≤ m := by
  obtain ⟨n, hn⟩ := h
  induction n using Nat.strongRecOn with
  | _ n ih =>
    by_cases q : ∃ m, m < n ∧ p m
    · obtain ⟨m, hm, hp⟩ := q; exact ih m hm hp
    · exact ⟨n, hn, fun m hm => Nat.le_of_not_lt fun hlt => q ⟨m, hlt, hm⟩⟩
open Classical in
noncomputable def least (p : Nat → Prop) : Nat := if h : ∃ n, p n then Classical.choose (nat_least h) else 0
theorem least_spec {p : Nat → Prop} (h : ∃ n, p n) : p (least p) := by unfold least; rw [dif_pos h]; exact (Classical.choose_spec (nat_least h)).1
theorem least_le {p : Nat → Prop} {n : Nat} (h : p n) : least p ≤ n := by unfold least; rw [dif_pos ⟨n, h⟩]; exact (Classical.choose_spec (nat_least ⟨n, h⟩)).2 n h
inductive Bel (n : Nat) : PV → Prop
  | bool (b) : Bel n (.bool b)
  | int (k i) : Bel n (.int k i)
  | str (s) : Bel n (.str s)
  | nilp : Bel n .nilp
  | optr (id off) (h : id < n) : Bel n (.optr id off)
  | iptr (cs) (h : ∀ c ∈ cs, Bel n c) : Bel n (.iptr cs)
  | slice (es tl) (h : ∀ e ∈ es, ∀ c ∈ e.cells, Bel n c) (ht : ∀ id, tl = .tok id → id < n) : Bel n (.slice es tl)
  | msl (id off k c) (h : id < n) : Bel n (.msl id off k c)
  | fn (f pf pc) (hf : ∀ c ∈ pf, Bel n c) (hc : ∀ c ∈ pc, Bel n c) : Bel n (.fn f pf pc)
  | nilfn : Bel n .nilfn
  | agg (cs) (h : ∀ c ∈ cs, Bel n c) : Bel n (.agg cs)
  | tup (cs) (h : ∀ c ∈ cs, Bel n c) : Bel n (.tup cs)
  | mapp (id) (h : id < n) : Bel n (.mapp id)
  | nilmap : Bel n .nilmap
  | ifc (o) : Bel n (.ifc o)
  | junk : Bel n .junk
theorem VRel.bel {V : View} {v : Value} {p : PV} (h : VRel V v p) {n : Nat} (hn : ∀ id, V.born id → id < n) : Bel n p := by
  induction h with
  | bool b => exact .bool b
  | int k i => exact .int k i
  | str s => exact .str _
  | nilp => exact .nilp
  | optr id off hb => exact .optr _ _ (hn _ hb)
  | iptr a cs vs hc hr ih => exact .iptr _ fun c hc => by obtain ⟨i, hi, rfl⟩ := List.getElem_of_mem hc; exact ih i hi
  | nils tl ht => exact .slice _ _ (by simp) fun id e => by subst e; exact hn _ ht.1
  | slice a len cap sz es tl vs hlen hcap hmax hsz hc hr ht ih =>
    refine .slice _ _ (fun e he c hc => ?_) fun id e => by subst e; exact hn _ ht.1
    obtain ⟨i, hi, rfl⟩ := List.getElem_of_mem he
    obtain ⟨j, hj, rfl⟩ := List.getElem_of_mem hc
    exact ih i j hi hj
  | msl id off k c hb hm => exact .msl _ _ _ _ (hn _ hb)
  | fn f first caps pf pc hf hc _ _ ih1 ih2 =>
    exact .fn _ _ _ (fun c hc => by obtain ⟨i, hi, rfl⟩ := List.getElem_of_mem hc; exact ih1 i hi) (fun c hc => by obtain ⟨i, hi, rfl⟩ := List.getElem_of_mem hc; exact ih2 i hi)
  | nilfn => exact .nilfn
  | agg arr cs hl _ ih => exact .agg _ fun c hc => by obtain ⟨i, hi, rfl⟩ := List.getElem_of_mem hc; exact ih i hi
  | tup arr cs hl _ ih => exact .tup _ fun c hc => by obtain ⟨i, hi, rfl⟩ := List.getElem_of_mem hc; exact ih i hi
  | mapp id hb => exact .mapp _ (hn _ hb)
  | nilmap => exact .nilmap
  | nili => exact .ifc _
  | ifc t v => exact .ifc _
  | junk v => exact .junk
theorem VRel.cut {V V' : View} {n : Nat} (hc : ∀ a v, V.cell a = some v → V'.cell a = some v) (hb : ∀ id, id < n → V.born id → V'.born id ∧ V'.rho id = V.rho id ∧ ∀ t, V'.tok id = some t → V.tok id = some t)
    {v : Value} {p : PV} (h : VRel V v p) (hp : Bel n p) : VRel V' v p := by
  have htl : ∀ {tl a len cap}, (∀ id, tl = .tok id → id < n) → TailOk V tl a len cap → TailOk V' tl a len cap := by
    intro tl a len cap h1 h2
    cases tl with
    | none => trivial
    | full => exact h2
    | tok id =>
      obtain ⟨h3, h4⟩ := h2
      obtain ⟨b1, b2, b3⟩ := hb id (h1 id rfl) h3
      exact ⟨b1, fun t ht => h4 t (b3 t ht)⟩
  induction h with
  | bool b => exact .bool b
  | int k i => exact .int k i
  | str s => exact .str _
  | nilp => exact .nilp
  | optr id off hbn =>
    cases hp with
    | optr _ _ hlt => obtain ⟨b1, b2, _⟩ := hb id hlt hbn; rw [← b2]; exact .optr _ _ b1
  | iptr a cs vs hcl hr ih =>
    cases hp with
    | iptr _ hq => exact .iptr _ _ vs (fun j hj => hc _ _ (hcl j hj)) fun j hj => ih j hj (hq _ (List.getElem_mem hj))
  | nils tl ht =>
    cases hp with
    | slice _ _ hq hq2 => exact .nils _ (htl hq2 ht)
  | slice a len cap sz es tl vs hlen hcap hmax hsz hcl hr ht ih =>
    cases hp with
    | slice _ _ hq hq2 => exact .slice _ _ _ _ _ _ vs hlen hcap hmax hsz (fun i j hi hj => hc _ _ (hcl i j hi hj)) (fun i j hi hj => ih i j hi hj (hq _ (List.getElem_mem hi) _ (List.getElem_mem hj))) (htl hq2 ht)
  | msl id off k c hbn hm =>
    cases hp with
    | msl _ _ _ _ hlt => obtain ⟨b1, b2, _⟩ := hb id hlt hbn; rw [← b2]; exact .msl _ _ _ _ b1 hm
  | fn f first caps pf pc hf hcp _ _ ih1 ih2 =>
    cases hp with
    | fn _ _ _ q1 q2 => exact .fn _ _ _ _ _ hf hcp (fun i h => ih1 i h (q1 _ (List.getElem_mem h))) (fun i h => ih2 i h (q2 _ (List.getElem_mem h)))
  | nilfn => exact .nilfn
  | agg arr cs hl _ ih =>
    cases hp with
    | agg _ q => exact .agg _ _ hl fun i h => ih i h (q _ (List.getElem_mem h))
  | tup arr cs hl _ ih =>
    cases hp with
    | tup _ q => exact .tup _ _ hl fun i h => ih i h (q _ (List.getElem_mem h))
  | mapp id hbn =>
    cases hp with
    | mapp _ hlt => obtain ⟨b1, b2, _⟩ := hb id hlt hbn; rw [← b2]; exact .mapp _ b1
  | nilmap => exact .nilmap
  | nili => exact .nili
  | ifc t v => exact .ifc t v
  | junk v => exact .junk v
theorem born_lt {H : Heap} {id : Nat} (h : isBorn H id) : id < H.length := by
  obtain ⟨o, h1, _⟩ := h; exact len_of_get h1
theorem Bel.mono {n m : Nat} (hnm : n ≤ m) {p : PV} (h : Bel n p) : Bel m p := by
  induction h with
  | bool b => exact .bool b
  | int k i => exact .int k i
  | str s => exact .str _
  | nilp => exact .nilp
  | optr id off h => exact .optr _ _ (by omega)
  | iptr cs _ ih => exact .iptr _ ih
  | slice es tl _ ht ih => exact .slice _ _ ih fun id e => by have := ht id e; omega
  | msl id off k c h => exact .msl _ _ _ _ (by omega)
  | fn f pf pc _ _ ih1 ih2 => exact .fn _ _ _ ih1 ih2
  | nilfn => exact .nilfn
  | agg cs _ ih => exact .agg _ ih
  | tup cs _ ih => exact .tup _ ih
  | mapp id h => exact .mapp _ (by omega)
  | nilmap => exact .nilmap
  | ifc o => exact .ifc o
  | junk => exact .junk
def OBel (n : Nat) : AObj → Prop
  | .row cs => ∀ c ∈ cs, Bel n c
  | .obj (.mapo es) => ∀ e ∈ es, Bel n e.2
  | .obj (.miter im _ _) => im < n
  | .obj (.mapg es _) => ∀ e ∈ es, Bel n e.2.2
  | .obj (.mitg im _ _) => im < n
  | _ => True
theorem OBel.mono {n m : Nat} {o : AObj} (h : OBel m o) (hm : m ≤ n) : OBel n o := by
  cases o with
  | row cs => exact fun c hc => (h c hc).mono hm
  | obj k => cases k with
    | iter s p => trivial
    | mapo es => exact fun e he => (h e he).mono hm
    | miter im k seen => exact Nat.lt_of_lt_of_le h hm
    | mapg es c => exact fun e he => (h e he).mono hm
    | mitg im k seen => exact Nat.lt_of_lt_of_le h hm
  | _ => trivial
theorem MRel.bel {V : View} {n : Nat} (hn : ∀ id, V.born id → id < n) : ∀ {ms : List MapEntry} {es : List (Int × PV)}, MRel V ms es → ∀ e ∈ es, Bel n e.2
  | [], [], _, e, he => by cases he
  | m :: ms, x :: es, h, e, he => by
    rcases List.mem_cons.1 he with rfl | he
    · exact h.2.1.bel hn
    · exact MRel.bel hn h.2.2 e he
  | [], _ :: _, h, _, _ => h.elim
  | _ :: _, [], h, _, _ => h.elim
theorem GRel.bel {V : View} {n : Nat} (hn : ∀ id, V.born id → id < n) : ∀ {ms : List MapEntry} {es : List (Nat × (Int × Int × Int) × PV)}, GRel V ms es → ∀ e ∈ es, Bel n e.2.2
  | [], [], _, e, he => by cases he
  | m :: ms, x :: es, h, e, he => by
    rcases List.mem_cons.1 he with rfl | he
    · exact h.2.2.1.bel hn
    · exact GRel.bel hn h.2.2.2 e he
  | [], _ :: _, h, _, _ => h.elim
  | _ :: _, [], h, _, _ => h.elim
theorem OR.bel {V : View} {k : OKind} {o : Obj} (h : OR V k o) {n : Nat} (hn : ∀ id, V.born id → id < n) : OBel n (.obj k) := by
  cases k with
  | iter s pos => trivial
  | mapo es =>
    obtain ⟨ms, c, rfl, h1, h2⟩ := h
    exact MRel.bel hn h1
  | miter im k seen => exact hn im h.1
  | mapg es c =>
    obtain ⟨ms, rfl, h1, h2⟩ := h
    exact GRel.bel hn h1
  | mitg im k seen => exact hn im h.1
theorem OR.cut {V V' : View} {n : Nat} {k : OKind} {o : Obj} (hv : ∀ v p, VRel V v p → Bel n p → VRel V' v p) (h : OR V k o) (hb : OBel n (.obj k)) : OR V' k o := by
  cases k with
  | iter s pos => exact h
  | mapo es =>
    obtain ⟨ms, c, rfl, h1, h2⟩ := h
    exact ⟨ms, c, rfl, h1.imp fun v e he hr => hv _ _ hr (hb e he), h2⟩
  | miter im k seen =>
    have h1 := hv _ _ (VRel.mapp im h.1) (.mapp _ hb)
    generalize hq : Value.map (some (V.rho im)) = q at h1
    generalize hp : PV.mapp im = p at h1
    cases h1 <;> cases hp
    rename_i hbn
    injection hq with hq
    injection hq with hq
    exact ⟨hbn, by rw [h.2, hq]⟩
  | mapg es c =>
    obtain ⟨ms, rfl, h1, h2⟩ := h
    exact ⟨ms, rfl, h1.imp fun v e he hr => hv _ _ hr (hb e he), h2⟩
  | mitg im k seen =>
    have h1 := hv _ _ (VRel.mapp im h.1) (.mapp _ hb)
    generalize hq : Value.map (some (V.rho im)) = q at h1
    generalize hp : PV.mapp im = p at h1
    cases h1 <;> cases hp
    rename_i hbn
    injection hq with hq
    injection hq with hq
    exact ⟨hbn, by rw [h.2, hq]⟩
def HBel (n : Nat) (H : Heap) : Prop := ∀ o ∈ H, OBel n o
theorem Env.Ok.hbel {E : Env} (h : E.Ok) : HBel E.H.length E.H := by
  intro o ho
  obtain ⟨id, hid, rfl⟩ := List.getElem_of_mem ho
  cases hq : E.H[id] with
  | row cs =>
    intro c hc
    obtain ⟨arr, elem, h1, h2, h3, h4⟩ := h.rows id cs (by rw [List.getElem?_eq_getElem hid, hq])
    obtain ⟨i, hl, rfl⟩ := List.getElem_of_mem hc
    exact (h3 i hl).bel fun id hb => born_lt hb
  | obj k =>
    obtain ⟨⟨o, h1, h2⟩, _⟩ := h.objs.at_ id k (by rw [List.getElem?_eq_getElem hid, hq])
    exact h2.bel fun id hb => born_lt hb
  | _ => trivial
def Env.cutH (E : Env) (H1 : Heap) : Env := { E with H := H1 }
section cutH
variable {E : Env} (ho : E.Ok) {H1 L : Heap} (hE : E.H = H1 ++ L)
include hE
omit hE in
theorem cut_get {H1 L H : Heap} (hE : H = H1 ++ L) {id : Nat} (hid : id < H1.length) : H[id]? = H1[id]? := by rw [hE, List.getElem?_append_left hid]
theorem Env.cutH_rel {v : Value} {p : PV} (h : VRel E.view v p) (hp : Bel H1.length p) : VRel (E.cutH H1).view v p := by
  refine VRel.cut (V := E.view) (V' := (E.cutH H1).view) (n := H1.length) (fun a v h => h) (fun id hid hb => ⟨?_, rfl, fun t ht => ?_⟩) h hp
  · obtain ⟨o, h1, h2⟩ := hb
    exact ⟨o, by show H1[id]? = some o; rw [← cut_get hE hid]; exact h1, h2⟩
  · simp only [Env.view, Env.cutH, ← cut_get hE hid] at ht ⊢; exact ht
theorem Env.cutH_leN {n : Nat} (hn : n ≤ H1.length) : E.leN n (E.cutH H1) := by
  refine ⟨rfl, rfl, rfl, Nat.le_refl _, fun b hb _ => ⟨rfl, rfl⟩, fun a v h => h, fun id hid hb => ⟨?_, rfl, fun t' ht => ⟨t', ?_, .inl rfl⟩⟩, fun b hb => Or.imp ?_ (Or.imp ?_ (Env.ownsObj_of (E := E) (E' := E.cutH H1) fun id k h1 => ⟨by rw [cut_get hE (len_of_get h1)]; exact h1, rfl⟩))⟩
  · obtain ⟨o, h1, h2⟩ := hb
    exact ⟨o, by show H1[id]? = some o; rw [← cut_get hE (by omega)]; exact h1, h2⟩
  · have hid' : id < H1.length := by omega
    simp only [Env.view, Env.cutH, ← cut_get hE hid'] at ht ⊢; exact ht
  · rintro ⟨id, cs, h1, h2⟩
    exact ⟨id, cs, by rw [cut_get hE (len_of_get h1)]; exact h1, h2⟩
  · rintro ⟨id, m, sz, h1, h2⟩
    exact ⟨id, m, sz, by rw [cut_get hE (len_of_get h1)]; exact h1, h2⟩
include ho in
theorem Env.Ok.cutH (hb : HBel H1.length H1) : (E.cutH H1).Ok := by
  have hg : ∀ {id : Nat} {o : AObj}, H1[id]? = some o → E.H[id]? = some o := fun h => by rw [cut_get hE (len_of_get h)]; exact h
  refine ⟨?_, ?_, ?_, ?_, ho.globs_of (fun a v h => h) fun id b vs hi => hg hi, ⟨fun id k hi => ?_, fun id id' k k' h1 h2 e => ho.objs.inj id id' k k' (hg h1) (hg h2) e⟩⟩
  rotate_left 4
  · obtain ⟨⟨o, a1, a2⟩, a3⟩ := ho.objs.at_ id k (hg hi)
    exact ⟨⟨o, a1, a2.cut (fun v p hv hp => Env.cutH_rel hE hv hp) (hb _ (List.mem_of_getElem? hi))⟩, a3⟩
  · intro id cs hi
    obtain ⟨arr, elem, h1, h2, h3, h4⟩ := ho.rows id cs (hg hi)
    have hm : AObj.row cs ∈ H1 := List.mem_of_getElem? hi
    exact ⟨arr, elem, h1, h2, fun i hl => Env.cutH_rel hE (h3 i hl) (hb _ hm _ (List.getElem_mem hl)), h4⟩
  · intro id n sz b hi hb
    exact ho.bufs id n sz b (hg hi) hb
  · intro id id' cs cs' h1 h2 e
    exact ho.injr id id' cs cs' (hg h1) (hg h2) e
  · intro id id' n sz n' sz' b h1 h2 e e'
    exact ho.injb id id' n sz n' sz' b (hg h1) (hg h2) e e'
end cutH
def keep (live : List Nat) (T : Slots) : Slots := fun i => if i ∈ live then T i else .junk
theorem trel_cut {E : Env} {a : Act} (ht : TRel E.view N a T) {H1 L : Heap} (hE : E.H = H1 ++ L) {live : List Nat} (hl : ∀ i ∈ live, Bel H1.length (T i)) : TRel (E.cutH H1).view N a (keep live T) := by
  refine ⟨ht.size, ht.defers, fun i hi => ?_⟩
  unfold keep
  split
  · rename_i hm; exact Env.cutH_rel hE (ht.rel i hi) (hl i hm)
  · exact .junk _
theorem awp_gc {c : Code} (live : List Nat) {H1 L : Heap} (hH : H = H1 ++ L) (hn : nb ≤ H1.length) (hb : HBel H1.length H1) (hl : ∀ i ∈ live, Bel H1.length (T i)) (h : AWP P N nb c Q (keep live T) H1) : AWP P N nb c Q T H := by
  intro E a ho hE ht
  have hE' : E.H = H1 ++ L := hE.trans hH
  exact wp_mono (h (E.cutH H1) a (ho.cutH hE' hb) rfl (trel_cut ht hE' hl)) fun e a w hl => lift_mono (Env.cutH_leN hE' hn) (fun _ _ _ q => q) hl
theorem awp_loop {c : Code} (live : List Nat) (I : Nat → Slots → Heap → Prop) (n0 : Nat) (h0 : I n0 T H)
    (round : ∀ n T H, I n T H → AWP P N nb c (thenQ (fun T' H' => ∃ n' H1 L, n' < n ∧ H' = H1 ++ L ∧ nb ≤ H1.length ∧ HBel H1.length H1 ∧ (∀ i ∈ live, Bel H1.length (T' i)) ∧ I n' (keep live T') H1) Q) T H) : AWP P N nb (.loop c) Q T H := by
  intro E a ho hH ht
  let J : Nat → Act → World → Prop := fun n a w => ∃ E' T', E'.w = w ∧ E.leN nb E' ∧ E'.Ok ∧ TRel E'.view N a T' ∧ I n T' E'.H
  refine wp_loop (fun a w => ∃ n, J n a w) (fun a w => least (fun n => J n a w)) ⟨n0, E, T, rfl, .refl nb E, ho, ht, hH ▸ h0⟩ ?_
  intro a1 w1 hJ
  obtain ⟨E1, T1, hw1, hle, ho1, ht1, hI⟩ := least_spec hJ
  have hr := round _ T1 E1.H hI E1 a1 ho1 rfl ht1
  rw [hw1] at hr
  refine wp_mono hr ?_
  intro e a' w' hl
  obtain ⟨E', T', rfl, h2, h3, h4, h5⟩ := hl
  cases e with
  | normal =>
    obtain ⟨n', H1, L, hn, hE, hnb, hb, hlv, hI'⟩ := h5
    have hJ' : J n' a' E'.w := ⟨E'.cutH H1, keep live T', rfl, (hle.trans h2).trans (Env.cutH_leN hE hnb), h3.cutH hE hb, trel_cut h4 hE hlv, hI'⟩
    exact ⟨⟨n', hJ'⟩, Nat.lt_of_le_of_lt (least_le hJ') hn⟩
  | _ => exact ⟨E', T', rfl, hle.trans h2, h3, h4, h5⟩
def ACalls (P : Program) (f : FuncId) (args : List PV) (H : Heap) (R : PV → Heap → Prop) : Prop :=
  ∀ (E : Env) (vargs : Array Value), E.Ok → E.H = H → RL E.view vargs args → Calls P f vargs E.w fun e w' => ∃ (E' : Env) (v : Value) (r : PV), e = .returned v ∧ E'.w = w' ∧ E.le E' ∧ E'.Ok ∧ VRel E'.view v r ∧ R r E'.H
theorem ACalls.mono {f : FuncId} {args : List PV} {R R' : PV → Heap → Prop} (h : ACalls P f args H R) (hr : ∀ r H, R r H → R' r H) : ACalls P f args H R' :=
  fun E vargs ho hH hl => (h E vargs ho hH hl).mono fun e w' ⟨E', v, r, h1, h2, h3, h4, h5, h6⟩ => ⟨E', v, r, h1, h2, h3, h4, h5, hr _ _ h6⟩
def appS (H : Heap) (e : Eff) : Heap :=
  match e with
  | some (id, o) => if id = H.length then H ++ [o] else H.set id o
  | none => H
theorem get_ext {H : Heap} {id : Nat} {o : AObj} (h : H[id]? = some o) : (H ++ [AObj.unborn])[id]? = some o := by
  rw [List.getElem?_append_left (len_of_get h)]; exact h
theorem aload_ext {i : TI} {x v : PV} (h : aload i H x = some v) : aload i (H ++ [.unborn]) x = some v := by
  unfold aload at h ⊢
  split at h
  · rename_i id off
    split at h
    · rename_i cs hcs; simp only [get_ext hcs]; exact h
    · cases h
  · exact h
  · cases h
theorem abuiltin_ext {fresh : Nat} {b : Builtin} {xs : List Operand} {ts : List TypeId} {v : PV} {e : Eff} (h : abuiltin P fresh T H b xs ts = some (v, e)) : abuiltin P fresh T (H ++ [.unborn]) b xs ts = some (v, e) := by
  unfold abuiltin at h ⊢
  split at h
  · exact h
  · exact h
  · exact h
  · rename_i x y t u
    obtain ⟨ei, hf, h⟩ := bind_some h
    obtain ⟨z, hz, h⟩ := bind_some h
    simp only [hf, hz, Option.bind_some]
    split at h
    · rename_i hc
      rw [if_pos hc]
      unfold aappend at h ⊢
      split at h
      · split at h
        · rename_i hx; rw [if_pos hx]; exact h
        · rename_i hx
          rw [if_neg hx]
          split at h
          · rename_i hc2
            rw [if_pos hc2]
            split at h
            · exact h
            · rename_i id
              split at h
              · rename_i n sz hid; simp only [get_ext hid]; exact h
              · cases h
            · cases h
          · cases h
      · cases h
    · cases h
  · cases h
theorem alookup_ext {t : TypeId} {x k v : PV} {ok : Bool} (h : alookup P H t x k ok = some v) : alookup P (H ++ [.unborn]) t x k ok = some v := by
  unfold alookup at h ⊢
  split at h
  · split at h
    · rename_i hid; simp only [get_ext hid]; exact h
    · cases h
  · split at h
    · rename_i hid; simp only [get_ext hid]; exact h
    · cases h
  · cases h
theorem amapset_ext {t : TypeId} {x k v : PV} {p : Nat × AObj} (h : amapset P H t x k v = some p) : amapset P (H ++ [.unborn]) t x k v = some p := by
  unfold amapset at h ⊢
  split at h
  · split at h
    · rename_i hid; simp only [get_ext hid]; exact h
    · cases h
  · split at h
    · rename_i hid; simp only [get_ext hid]; exact h
    · cases h
  · cases h
theorem aop_ext {mt : Bool} {fresh : Nat} {o : Op} {v : PV} {e : Eff} (h : aop P mt fresh T H o = some (v, e)) : aop P mt fresh T (H ++ [.unborn]) o = some (v, e) := by
  unfold aop at h ⊢
  split at h <;> try exact h
  · obtain ⟨i, hi, h⟩ := bind_some h
    obtain ⟨p, hp, h⟩ := bind_some h
    simp only [hi, Option.bind_some, aload_ext hp]; exact h
  · obtain ⟨i, hi, h⟩ := bind_some h
    obtain ⟨p, hp, h⟩ := bind_some h
    simp only [hi, Option.bind_some]
    have : ∀ {x y : PV} {q}, astore i H x y = some q → astore i (H ++ [.unborn]) x y = some q := by
      intro x y q hq
      unfold astore at hq ⊢
      split at hq
      · split at hq
        · rename_i cs hcs; simp only [get_ext hcs]; exact hq
        · cases hq
      · cases hq
    simp only [this hp, Option.bind_some]; exact h
  · obtain ⟨p, hp, h⟩ := bind_some h
    simp only [alookup_ext hp, Option.bind_some]; exact h
  · obtain ⟨p, hp, h⟩ := bind_some h
    simp only [amapset_ext hp, Option.bind_some]; exact h
  · split at h
    · exact abuiltin_ext h
    · cases h
def AOps (P : Program) (N nb : Nat) (ops : Array Oper) (Q : Post) (l : List Oper) (T : Slots) (H : Heap) : Prop :=
  ∀ (E : Env) (a : Act), E.Ok → E.H = H → TRel E.view N a T → wpList P ops (lift N nb E Q) l a E.w
def awanted (ops : List Oper) (T : Slots) (N : Nat) (o : Oper) : Option Bool :=
  match o.guard with
  | none => some true
  | some (j, want) => match (ops[j]?).bind (·.dst) with
    | some d => if d < N then match T d with
      | .bool b => some (b == want)
      | _ => none
      else none
    | none => none
theorem awanted_sound {ops : Array Oper} {o : Oper} {b : Bool} {V : View} {a : Act} (ht : TRel V N a T) (h : awanted ops.toList T N o = some b) : Region.wanted o (yielded ops a.tmps) = b := by
  unfold awanted at h
  unfold Region.wanted
  split at h
  · cases h; rename_i hg; simp only [hg]
  · rename_i j want hg
    simp only [hg]
    split at h
    · rename_i d hd
      split at h
      · rename_i hdN
        split at h
        · rename_i q hq
          cases h
          have hr := ht.rel d hdN
          rw [hq] at hr
          have hv := hr.bool_inv
          have hy : yielded ops a.tmps j = some q := by
            unfold yielded
            rw [Array.getElem?_toList] at hd
            rw [hd]
            simp only [Option.bind_some]
            rw [Array.getD_eq_getD_getElem?, Array.getElem?_eq_getElem (by rw [ht.size]; exact hdN)] at hv
            rw [Array.getElem?_eq_getElem (by rw [ht.size]; exact hdN)]
            simp only [Option.getD_some] at hv
            rw [hv]
          rw [hy]
          cases q <;> cases want <;> rfl
        · cases h
      · cases h
    · cases h
theorem wpList_cons {P : Program} {ops : Array Oper} {Q : Exit → Act → World → Prop} {a : Act} {w : World} {rest : List Oper} {o : Oper} (hw : Region.wanted o (yielded ops a.tmps) = true)
    (h : o.wp P a w (wpList P ops Q rest) Q) : wpList P ops Q (o :: rest) a w := by
  unfold wpList; rw [if_pos hw]; exact .inl h
theorem aops_nil {ops : Array Oper} (h : Q .normal T H) : AOps P N nb ops Q [] T H := fun E a ho hH ht => ⟨E, T, rfl, .refl nb E, ho, ht, hH ▸ h⟩
theorem wpList_mono {P : Program} {ops : Array Oper} {Q Q' : Exit → Act → World → Prop} (hq : ∀ e a w, Q e a w → Q' e a w) : ∀ (l : List Oper) (a : Act) (w : World), wpList P ops Q l a w → wpList P ops Q' l a w
  | [], a, w, h => hq _ _ _ h
  | o :: l, a, w, h => by
    have hout : LetsOut Q → LetsOut Q' := fun ⟨a, w, x⟩ => ⟨a, w, hq _ _ _ x⟩
    unfold wpList at h ⊢
    split at h
    · rename_i hw
      rw [if_pos hw]
      rcases h with h | ⟨h1, h2⟩
      · left
        unfold Oper.wp at h ⊢
        generalize (execOp a.eval o).run P w = r at h ⊢
        unfold Oper.upon at h ⊢
        split at h
        · exact wpList_mono hq l _ _ h
        · exact wpList_mono hq l _ _ h
        · exact wpList_mono hq l _ _ h
        · refine h.mono fun e w'' he => ?_
          cases e with
          | returned v => exact wpList_mono hq l _ _ he
          | panicked ch => exact hq _ _ _ he
          | outgrown => exact hout he
        · exact h.mono fun v w'' he => wpList_mono hq l _ _ he
        · exact hq _ _ _ h
        · exact h.elim
      · exact .inr ⟨h1, hout h2⟩
    · rename_i hw
      rw [if_neg hw]
      exact wpList_mono hq l _ _ h
theorem aops_skip {ops : Array Oper} {o : Oper} {l : List Oper} (hw : awanted ops.toList T N o = some false) (h : AOps P N nb ops Q l (updO T o.dst .junk) H) : AOps P N nb ops Q (o :: l) T H := by
  intro E a ho hH ht
  unfold wpList
  rw [if_neg (by rw [awanted_sound ht hw]; simp)]
  exact h E _ ho hH (ht.put o.dst (.junk _))
theorem aops_done {ops : Array Oper} {o : Oper} {l : List Oper} {v : PV} {H' : Heap} (hw : awanted ops.toList T N o = some true)
    (hd : ∀ (E : Env) (a : Act), E.Ok → E.H = H → TRel E.view N a T → ∃ (E' : Env) (val : Value), ((execOp a.eval o).run P E.w = .ok (.value val) E'.w ∨ ((execOp a.eval o).run P E.w = .ok .skip E'.w ∧ val = undef)) ∧ E.le E' ∧ E'.Ok ∧ E'.H = H' ∧ VRel E'.view val v)
    (h : AOps P N nb ops Q l (updO T o.dst v) H') : AOps P N nb ops Q (o :: l) T H := by
  intro E a ho hH ht
  obtain ⟨E', val, h1, h2, h3, h4, h5⟩ := hd E a ho hH ht
  refine wpList_cons (awanted_sound ht hw) ?_
  have hn := wpList_mono (fun e a w hl => lift_mono (h2.leN nb) (fun _ _ _ q => q) hl) l _ _ (h E' (a.put o.dst val) h3 h4 ((ht.mono h2.view).put o.dst h5))
  unfold Oper.wp
  rcases h1 with h1 | ⟨h1, rfl⟩
  · rw [h1]; exact hn
  · rw [h1]; exact hn
theorem aops_op {ops : Array Oper} {o : Oper} {l : List Oper} (mt : Bool) {v : PV} {e : Eff} {H' : Heap} (hw : awanted ops.toList T N o = some true) (hok : okOp N o.op = true) (hv : aop P mt H.length T H o.op = some (v, e))
    (hH' : appS H e = H') (h : AOps P N nb ops Q l (updO T o.dst v) H') : AOps P N nb ops Q (o :: l) T H := by
  refine aops_done hw (fun E a ho hH ht => ?_) h
  subst hH
  by_cases hn : ∃ ob, e = some (E.H.length, ob)
  · obtain ⟨ob, rfl⟩ := hn
    have hx := E.ext_le
    obtain ⟨E', val, h1, h2, h3, h4, h5⟩ := aop_sound (E := E.ext) ho.ext (ht.mono hx.view) hok (mt := mt) (fresh := E.H.length) (v := v) (eff := some (E.H.length, ob)) (aop_ext hv)
      (fun _ _ => by simp [Env.ext])
    refine ⟨E', val, h1, hx.trans h2, h3, ?_, h5⟩
    rw [h4, ← hH']
    simp only [Eff.app, appS, if_true, Env.ext]
    rw [List.set_append_right _ _ (Nat.le_refl _)]; simp
  · obtain ⟨E', val, h1, h2, h3, h4, h5⟩ := aop_sound ho ht hok hv (fun ob he => (hn ⟨ob, he⟩).elim)
    refine ⟨E', val, h1, h2, h3, ?_, h5⟩
    rw [h4, ← hH']
    cases e with
    | none => rfl
    | some q =>
      obtain ⟨id, ob⟩ := q
      simp only [Eff.app, appS]
      rw [if_neg (fun e => hn ⟨ob, by rw [e]⟩)]
def goFn (P : Program) (f : FuncId) : Bool :=
  match P.funcs[f]? with
  | some fn => fn.body.isSome && !(fn.name == "runtime.NumGoroutine")
  | none => false
theorem run_callFunc {P : Program} {w : World} {f : FuncId} (h : goFn P f = true) (args : Array Value) : (callFunc f args).run P w = .ok (.enter f args) w := by
  unfold goFn at h
  split at h
  · rename_i fn hf
    simp only [Bool.and_eq_true, Bool.not_eq_true'] at h
    have hb : fn.body.isNone = false := by cases hq : fn.body <;> simp_all
    simp only [callFunc, Sem.run_bind, run_prog, Result.andThen_ok, hf, h.2, Bool.false_eq_true, if_false, hb, Sem.run_pure]
  · cases h
theorem rl_append' {V : View} {a b : Array Value} {x y : List PV} (h1 : RL V a x) (h2 : RL V b y) : RL V (a ++ b) (x ++ y) := rl_append h1 h2
theorem aops_call {ops : Array Oper} {o : Oper} {l : List Oper} {fo : Operand} {xs : Array Operand} {ts : Array TypeId} (hop : o.op = .call ⟨.value fo, xs, ts⟩) (hw : awanted ops.toList T N o = some true) (hok : okOp N o.op = true)
    {f : FuncId} {pf pc : List PV} (hf : aev T fo = .fn (.func f) pf pc) (hgo : goFn P f = true) {args : List PV} (hargs : pf ++ (xs.toList.map fun x => (aev T x).drop1) ++ pc = args) {R : PV → Heap → Prop} (hc : ACalls P f args H R)
    (h : ∀ r H', R r H' → AOps P N nb ops Q l (updO T o.dst r) H') : AOps P N nb ops Q (o :: l) T H := by
  intro E a ho hH ht
  refine wpList_cons (awanted_sound ht hw) ?_
  have hall : ∀ x ∈ o.op.operands.toList, okOpnd N x = true := fun x hx => List.all_eq_true.1 hok x hx
  rw [hop] at hall
  simp only [Op.operands, Call.operands] at hall
  have hr := vrel_eval ht fo (hall fo (by simp))
  rw [hf] at hr
  obtain ⟨first, caps, hval, h1, h2⟩ : ∃ first caps, a.eval fo = .func (.func f) first caps ∧ RL E.view first pf ∧ RL E.view caps pc := by
    generalize a.eval fo = y at hr
    cases hr with
    | fn _ first caps _ _ hf hc hrf hrc => exact ⟨first, caps, rfl, ⟨hf, hrf⟩, ⟨hc, hrc⟩⟩
  have h3 := rl_map ht xs (List.all_eq_true.2 fun x hx => hall x (by simp; right; simpa using hx))
  have hrl := rl_append' (rl_append' h1 h3) h2
  rw [hargs] at hrl
  have hrun : (execOp a.eval o).run P E.w = .ok (.enter f (first ++ xs.map a.eval ++ caps)) E.w := by
    unfold execOp
    rw [hop]
    simp only [resolve, hval, Deferred.ofValue, Sem.run_bind, Sem.run_pure, Result.andThen_ok, invoke, run_callFunc hgo]
  unfold Oper.wp
  rw [hrun]
  refine (hc E _ ho hH hrl).mono ?_
  rintro e w' ⟨E', v, r, rfl, rfl, h5, h6, h7, h8⟩
  exact wpList_mono (fun e a w hl => lift_mono (h5.leN nb) (fun _ _ _ q => q) hl) l _ _ (h r E'.H h8 E' (a.put o.dst v) h6 rfl ((ht.mono h5.view).put o.dst h7))
theorem awp_region {id : Nat} {ops : Array Oper} (h : AOps P N nb ops Q ops.toList T H) : AWP P N nb (.region id ops false) Q T H :=
  fun E a ho hH ht => wp_region_list (h E a ho hH ht)
def ares1 (P : Program) (N : Nat) (T : Slots) (H : Heap) : ResultVar → Option PV
  | .tmp t => if t < N then some (T t) else none
  | .cell t ty => if t < N then (tinfo P ty).bind fun i => aload i H (T t) else none
def aresults (P : Program) (N : Nat) (T : Slots) (H : Heap) (rs : List ResultVar) : Option PV :=
  match rs with
  | [r] => ares1 P N T H r
  | rs => (rs.mapM (ares1 P N T H)).map fun vs => .tup (vs.map PV.drop1)
def resF (tmps : Array Value) : ResultVar → Sem Value
  | .tmp t => pure (tmps.getD t undef)
  | .cell a t => do loadVar t (← asAddr (tmps.getD a undef))
theorem results_eq (fn : Func) (tmps : Array Value) : results fn tmps = (do let vs ← fn.results.mapM (resF tmps); pure (if h : vs.size = 1 then vs[0] else .tuple vs)) := by
  unfold results
  congr 2
theorem ares1_sound {E : Env} {a : Act} (ho : E.Ok) (ht : TRel E.view N a T) {r : ResultVar} {v : PV} (h : ares1 P N T E.H r = some v) :
    ∃ val, (resF a.tmps r).run P E.w = .ok val E.w ∧ VRel E.view val v := by
  cases r with
  | tmp t =>
    unfold ares1 at h; simp only at h
    split at h
    · rename_i hN; cases h; exact ⟨_, rfl, ht.rel t hN⟩
    · cases h
  | cell x t =>
    unfold ares1 at h; simp only at h
    split at h
    · rename_i hN
      obtain ⟨i, hi, hv⟩ := bind_some h
      obtain ⟨val, h1, h2⟩ := sound_load (P := P) ho ht (x := .tmp x) (by simpa [okOpnd] using hN) hi hv
      refine ⟨val, ?_, h2⟩
      have hp : ∃ ad, a.tmps.getD x undef = .pointer (some ad) := by
        have hr := ht.rel x hN
        unfold aload at hv
        skip
        split at hv
        · rename_i id off hT; rw [hT] at hr; exact ⟨_, hr.optr_inv.1⟩
        · rename_i cs hT; rw [hT] at hr; obtain ⟨ad, _, e, _, _⟩ := hr.iptr_inv; exact ⟨ad, e⟩
        · cases hv
      obtain ⟨ad, hp⟩ := hp
      simp only [Act.eval, Instr.loadAt, hp, Instr.sureAddr, Sem.run_bind, Sem.run_pure, Result.andThen_ok] at h1
      simp only [resF, hp, asAddr, Sem.run_bind, Sem.run_pure, Result.andThen_ok]
      exact h1
    · cases h
theorem mapM_length : ∀ (rs : List ResultVar) (vs : List PV), rs.mapM (ares1 P N T H) = some vs → vs.length = rs.length := by
  intro rs
  induction rs with
  | nil => intro vs h; simp at h; subst h; rfl
  | cons r rs ih =>
    intro vs h
    rw [List.mapM_cons] at h
    cases h1 : ares1 P N T H r with
    | none => rw [h1] at h; simp at h
    | some v =>
      cases h2 : rs.mapM (ares1 P N T H) with
      | none => rw [h1] at h; simp [h2] at h
      | some vs' => rw [h1] at h; simp [h2] at h; subst h; simp [ih vs' h2]
theorem mapM_sound {E : Env} {a : Act} (ho : E.Ok) (ht : TRel E.view N a T) : ∀ (rs : List ResultVar) (vs : List PV), rs.mapM (ares1 P N T E.H) = some vs →
      ∃ vals : List Value, (rs.mapM (resF a.tmps)).run P E.w = .ok vals E.w ∧ vals.length = vs.length ∧ ∀ i (h : i < vs.length), VRel E.view (vals.getD i undef) vs[i] := by
  intro rs
  induction rs with
  | nil => intro vs h; simp at h; subst h; exact ⟨[], rfl, rfl, fun i h => absurd h (by simp)⟩
  | cons r rs ih =>
    intro vs h
    rw [List.mapM_cons] at h
    cases h1 : ares1 P N T E.H r with
    | none => rw [h1] at h; simp at h
    | some v =>
      cases h2 : rs.mapM (ares1 P N T E.H) with
      | none => rw [h1] at h; simp [h2] at h
      | some vs' =>
        rw [h1] at h; simp [h2] at h; subst h
        obtain ⟨val, e1, e2⟩ := ares1_sound ho ht h1
        obtain ⟨vals, e3, e4, e5⟩ := ih vs' h2
        refine ⟨val :: vals, ?_, by simp [e4], fun i hi => ?_⟩
        · rw [List.mapM_cons]
          simp only [Sem.run_bind, e1, Result.andThen_ok, e3, Sem.run_pure]
        · cases i with
          | zero => exact e2
          | succ i => exact e5 i (by simpa using hi)
theorem aresults_sound {E : Env} {a : Act} (ho : E.Ok) (ht : TRel E.view N a T) {fn : Func} {v : PV} (h : aresults P N T E.H fn.results.toList = some v) :
    ∃ val, (results fn a.tmps).run P E.w = .ok val E.w ∧ VRel E.view val v := by
  unfold aresults at h
  rw [results_eq, Array.mapM_eq_mapM_toList]
  split at h
  · rename_i r hr
    obtain ⟨vals, e1, e2, e3⟩ := mapM_sound ho ht [r] [v] (by rw [List.mapM_cons, h]; rfl)
    rw [hr]
    match vals, e2 with
    | [val], _ =>
      refine ⟨val, ?_, e3 0 (by simp)⟩
      simp only [Sem.run_bind, Sem.run_map, e1, Result.andThen_ok, Sem.run_pure]
      rfl
  · rename_i rs hne
    cases h1 : fn.results.toList.mapM (ares1 P N T E.H) with
    | none => rw [h1] at h; cases h
    | some vs =>
      rw [h1] at h; simp only [Option.map_some, Option.some.injEq] at h; subst h
      obtain ⟨vals, e1, e2, e3⟩ := mapM_sound ho ht _ vs h1
      have hl := mapM_length _ _ h1
      have hne1 : ¬ vals.toArray.size = 1 := by
        intro hs
        have hl2 : fn.results.toList.length = 1 := by rw [← hl, ← e2]; simpa using hs
        obtain ⟨r, hr⟩ := List.length_eq_one_iff.1 hl2
        exact hne r hr
      refine ⟨.tuple vals.toArray, ?_, .tup _ _ (by simp [e2]) (vrel_drop1_list (fun i hi => ?_))⟩
      · simp only [Sem.run_bind, Sem.run_map, e1, Result.andThen_ok, Sem.run_pure, dif_neg hne1]
      · have := e3 i hi
        rw [List.getD_eq_getElem?_getD] at this
        rw [Array.getD_eq_getD_getElem?, List.getElem?_toArray]; exact this
def enter (args : List PV) : Slots := fun i => args.getD i .junk
theorem acalls_of {f : FuncId} {fn : Func} {c : Code} {args : List PV} {R : PV → Heap → Prop} (hf : P.funcs[f]? = some fn) (hb : fn.body = some c) (hN : fn.ntmps = N) (hl : args.length ≤ N)
    (h : HBel H.length H → AWP P N H.length c (fun e T H => (e = .normal ∨ e = .ret) ∧ ∃ r, aresults P N T H fn.results.toList = some r ∧ R r H) (enter args) H) : ACalls P f args H R := by
  intro E vargs ho hH hrl
  refine calls_of_wp hf hb (wp_mono (h (by have := ho.hbel; rw [hH] at this; exact this) E _ ho hH ⟨by simp [hrl.1, hN]; omega, rfl, fun i hi => ?_⟩) ?_)
  · rw [Array.getD_eq_getD_getElem?, Array.getElem?_append]
    unfold enter
    by_cases hia : i < args.length
    · rw [if_pos (by rw [hrl.1]; exact hia), ← Array.getD_eq_getD_getElem?, List.getD_eq_getElem?_getD, List.getElem?_eq_getElem hia]
      exact hrl.2 i hia
    · rw [List.getD_eq_getElem?_getD, List.getElem?_eq_none (by omega)]
      exact .junk _
  · rintro e a w ⟨E', T', rfl, h2, h3, h4, he, r, hr, hR⟩
    obtain ⟨val, h5, h6⟩ := aresults_sound (P := P) (fn := fn) h3 h4 hr
    rcases he with rfl | rfl
    · exact ⟨h4.defers, val, h5, E', val, r, rfl, rfl, (hH ▸ h2 : E.leN E.H.length E').le, h3, h6, hR⟩
    · exact ⟨h4.defers, val, h5, E', val, r, rfl, rfl, (hH ▸ h2 : E.leN E.H.length E').le, h3, h6, hR⟩
end rules
end Go.Abs
namespace Go.Abs
section
variable {P : Program}
theorem ACalls.pure {f : FuncId} {args : List PV} {r : PV} (h : ACalls P f args [] fun r' _ => r'.drop1 = r) (ha : ∀ p ∈ args, Bel 0 p) (hr : Bel 0 r) (H : Heap) :
    ACalls P f args H fun r' H' => r' = r ∧ H' = H := by
  intro E vargs ho hH hrl
  let E0 : Env := { E with H := [] }
  have ho0 : E0.Ok := ⟨fun id cs h => by simp [E0] at h, fun id n sz b h => by simp [E0] at h, fun id id' cs cs' h => by simp [E0] at h, fun id id' n sz n' sz' b h => by simp [E0] at h, fun id b vs h => by simp [E0] at h, ⟨fun id k h => by simp [E0] at h, fun id id' k k' h => by simp [E0] at h⟩⟩
  have hcell : ∀ a v, E.view.cell a = some v → E0.view.cell a = some v := fun a v h => h
  have hrl0 : RL E0.view vargs args := ⟨hrl.1, fun i hi => (hrl.2 i hi).cut (n := 0) hcell (fun id h => absurd h (by omega)) (ha _ (List.getElem_mem hi))⟩
  refine (h E0 vargs ho0 rfl hrl0).mono ?_
  rintro e w' ⟨E1, v, r', rfl, rfl, hle, ho1, hv, hq⟩
  have hno : ∀ b, ¬ E0.owns b := by rintro b (⟨id, cs, h, _⟩ | ⟨id, n, sz, h, _⟩ | ⟨id, k, h, _⟩) <;> simp [E0] at h
  have hsame : ∀ b, b < E.w.heap.size → E1.κ b = E.κ b ∧ E1.w.heap[b]? = E.w.heap[b]? := fun b hb => hle.other b hb (hno b)
  let E2 : Env := { E1 with ρ := E.ρ, tb := E.tb, H := E.H }
  have hview : E.view.le E2.view := by
    refine ⟨fun a v hc => hle.view.cell a v hc, fun id h => h, fun id _ => rfl, fun id t' hb ht => ⟨t', ?_, .inl rfl⟩⟩
    simp only [Env.view, E2] at ht ⊢
    split at ht
    · rename_i n sz hid
      rw [← ht]
      cases htb : E.tb id with
      | none => rfl
      | some b => simp only [Option.bind_some, (hsame b (ho.bufBlock hid htb)).1]
    · cases ht
  have hle2 : E.le E2 := by
    refine ⟨hle.os, hle.tape, hle.output, hle.size, fun b hb _ => hsame b hb, hview, fun b _ => id⟩
  have ho2 : E2.Ok := by
    refine ⟨?_, ?_, ho.injr, ho.injb, ho.globs_of hview.cell fun _ _ _ h => h, ho.objs.of hview fun id k hi => let ⟨s1, s2⟩ := hsame _ (ho.objs.lt hi); ⟨hi, rfl, s2, s1⟩⟩
    · intro id cs hi
      obtain ⟨arr, elem, h1, h2, h3, h4⟩ := ho.rows id cs hi
      obtain ⟨s1, s2⟩ := hsame _ (ho.rowBlock hi)
      exact ⟨arr, elem, s2.trans h1, h2, fun i hl => (h3 i hl).mono hview, s1.trans h4⟩
    · intro id n sz b hi hb
      obtain ⟨arr, elem, pos, h1, h2⟩ := ho.bufs id n sz b hi hb
      obtain ⟨s1, s2⟩ := hsame _ (ho.bufBlock hi hb)
      exact ⟨arr, elem, pos, s2.trans h1, s1.trans h2⟩
  refine ⟨E2, v, r, rfl, rfl, hle2, ho2, ?_, rfl, hH⟩
  have hv' := hv.drop1
  rw [hq] at hv'
  exact VRel.cut (V := E1.view) (V' := E2.view) (n := 0) (fun a v h => h) (fun id h => absurd h (by omega)) hv' hr
theorem ACalls.trunc {f : FuncId} {args : List PV} {H : Heap} {R : PV → Heap → Prop}
    (h : ACalls P f args H fun r H' => ∃ H1 L, H' = H1 ++ L ∧ H1.length = H.length ∧ (HBel H.length H → HBel H.length H1) ∧ Bel H.length r ∧ R r H1) : ACalls P f args H R := by
  intro E vargs ho hH hrl
  refine (h E vargs ho hH hrl).mono ?_
  rintro e w' ⟨E1, v, r, rfl, rfl, hle, ho1, hv, H1, L, hE1, hlen, hbel, hr, hR⟩
  have hb1 : HBel H1.length H1 := by rw [hlen]; exact hbel (by have := ho.hbel; rw [hH] at this; exact this)
  refine ⟨E1.cutH H1, v, r, rfl, rfl, ?_, ho1.cutH hE1 hb1, Env.cutH_rel hE1 hv (by rw [hlen]; exact hr), hR⟩
  have hn : E.H.length = H1.length := by rw [hH, hlen]
  exact ((hle.leN E.H.length).trans (Env.cutH_leN hE1 (Nat.le_of_eq hn))).le
end
end Go.Abs
namespace Go.Abs
def otmps (ops : List Oper) (o : Oper) : List Nat :=
  (o.op.operands.toList.filterMap fun | .tmp t => some t | _ => none) ++ (match o.guard with | some (j, _) => ((ops[j]?).bind (·.dst)).toList | none => [])
def effs (H : Heap) (es : List (Nat × AObj)) : Heap := es.foldl (fun H x => H.set x.1 x.2) H
def Rob (P : Program) (N : Nat) (ops : Array Oper) (o : Oper) (T : Slots) (H : Heap) (v : PV) (eff : List (Nat × AObj)) (rd : List Nat) : Prop :=
  ∀ (T' : Slots) (H' : Heap), (∀ t ∈ otmps ops.toList o, T' t = T t) → (∀ id ∈ rd, H'[id]? = H[id]?) → H'.length = H.length →
    ∀ (E : Env) (a : Act), E.Ok → E.H = H' → TRel E.view N a T' →
      (Region.wanted o (yielded ops a.tmps) = false ∧ eff = [] ∧ (v = .junk ∨ v = .tup [])) ∨
      (Region.wanted o (yielded ops a.tmps) = true ∧ ∀ (next : Act → World → Prop) (Q : Exit → Act → World → Prop),
        (∀ (E' : Env) (val : Value), E.le E' → E'.Ok → E'.H = effs H' eff → VRel E'.view val v → next (a.put o.dst val) E'.w) → o.wp P a E.w next Q)
def bmStep (acc : List Nat) (o : Oper) : List Nat :=
  acc ++ [o.after.toList.foldl (fun s e => if Region.binds .any e then s ||| 2 ^ e.on ||| acc.getD e.on 0 else s) 0]
def bmasks (l : List Oper) : List Nat := l.foldl bmStep []
inductive Bf (ops : List Oper) : Nat → Nat → Prop
  | edge {j : Nat} {o : Oper} {e : Edge} (ho : ops[j]? = some o) (he : e ∈ o.after.toList) (hb : Region.binds .any e = true) : Bf ops e.on j
  | trans {i k j : Nat} (h1 : Bf ops i k) (h2 : Bf ops k j) : Bf ops i j
theorem testBit_two_pow' {n i : Nat} (h : (2 ^ n).testBit i = true) : i = n := by
  rw [Nat.testBit_two_pow] at h; exact (of_decide_eq_true h).symm
theorem bmasks_sound (ops : List Oper) : ∀ (n : Nat) (p rest : List Oper), p.length = n → p ++ rest = ops → (p.foldl bmStep []).length = p.length ∧ ∀ j i, ((p.foldl bmStep []).getD j 0).testBit i = true → Bf ops i j := by
  intro n
  induction n with
  | zero => intro p rest hn h; obtain rfl := List.length_eq_zero_iff.1 hn; exact ⟨rfl, fun j i h => by simp at h⟩
  | succ n ih =>
    intro p0 rest hn h
    obtain ⟨p, o, rfl⟩ : ∃ p o, p0 = p ++ [o] := by
      have hne : p0 ≠ [] := by rintro rfl; simp at hn
      exact ⟨p0.dropLast, p0.getLast hne, (List.dropLast_concat_getLast hne).symm⟩
    obtain ⟨h1, h2⟩ := ih p (o :: rest) (by simpa using hn) (by simpa using h)
    rw [List.foldl_append]
    simp only [List.foldl_cons, List.foldl_nil, bmStep]
    refine ⟨by simp [h1], fun j i hb => ?_⟩
    by_cases hj : j < p.length
    · rw [List.getD_eq_getElem?_getD, List.getElem?_append_left (by omega), ← List.getD_eq_getElem?_getD] at hb
      exact h2 j i hb
    · by_cases hj' : j = p.length
      · subst hj'
        rw [List.getD_eq_getElem?_getD, List.getElem?_append_right (by omega), h1] at hb
        simp only [Nat.sub_self, List.getElem?_cons_zero, Option.getD_some] at hb
        have ho : ops[p.length]? = some o := by rw [← h]; simp
        have key : ∀ (es : List Edge) (s : Nat), (∀ e ∈ es, e ∈ o.after.toList) → (∀ i, s.testBit i = true → Bf ops i p.length) →
            (es.foldl (fun s e => if Region.binds .any e then s ||| 2 ^ e.on ||| (p.foldl bmStep []).getD e.on 0 else s) s).testBit i = true → Bf ops i p.length := by
          intro es
          induction es with
          | nil => intro s _ hs hb; exact hs i hb
          | cons e es ih2 =>
            intro s hm hs hb
            simp only [List.foldl_cons] at hb
            refine ih2 _ (fun e he => hm e (by simp [he])) (fun i hi => ?_) hb
            split at hi
            · rename_i hbd
              rw [Nat.testBit_or, Nat.testBit_or] at hi
              simp only [Bool.or_eq_true] at hi
              have hed : Bf ops e.on p.length := .edge ho (hm e (by simp)) hbd
              rcases hi with (hi | hi) | hi
              · exact hs i hi
              · rw [testBit_two_pow' hi]; exact hed
              · exact .trans (h2 _ _ hi) hed
            · exact hs i hi
        exact key o.after.toList 0 (fun e he => he) (fun i hi => by simp at hi) hb
      · rw [List.getD_eq_getElem?_getD, List.getElem?_eq_none (by simp [h1]; omega)] at hb
        simp at hb
structure Stp where
  o : Oper
  v : PV
  eff : List (Nat × AObj)
  rd : List Nat
def Stp.app (s : Stp) (x : Slots × Heap) : Slots × Heap := (updO x.1 s.o.dst s.v, effs x.2 s.eff)
def runD (D : Nat → Bool) : Nat → List Stp → Slots × Heap → Slots × Heap
  | _, [], x => x
  | k, s :: l, x => runD D (k + 1) l (if D k then s.app x else x)
theorem effs_length : ∀ (es : List (Nat × AObj)) (H : Heap), (effs H es).length = H.length
  | [], H => rfl
  | e :: es, H => by
    show (effs (H.set e.1 e.2) es).length = _
    rw [effs_length es]; simp
theorem effs_get_ne : ∀ (es : List (Nat × AObj)) (H : Heap) (id : Nat), (∀ e ∈ es, e.1 ≠ id) → (effs H es)[id]? = H[id]?
  | [], H, id, _ => rfl
  | e :: es, H, id, h => by
    show (effs (H.set e.1 e.2) es)[id]? = _
    rw [effs_get_ne es _ id (fun e he => h e (by simp [he])), List.getElem?_set_ne (h e (by simp))]
theorem effs_get_congr : ∀ (es : List (Nat × AObj)) (H H' : Heap) (id : Nat), H.length = H'.length → H[id]? = H'[id]? → (effs H es)[id]? = (effs H' es)[id]?
  | [], H, H', id, _, h => h
  | e :: es, H, H', id, hl, h => by
    refine effs_get_congr es _ _ id (by simp [hl]) ?_
    by_cases q : e.1 = id
    · subst q
      by_cases hlt : e.1 < H.length
      · rw [List.getElem?_set_self hlt, List.getElem?_set_self (by omega)]
      · rw [List.getElem?_eq_none (by simp; omega), List.getElem?_eq_none (by simp; omega)]
    · rw [List.getElem?_set_ne q, List.getElem?_set_ne q]; exact h
theorem effs_comm : ∀ (es es' : List (Nat × AObj)) (H : Heap), (∀ x ∈ es, ∀ y ∈ es', x.1 ≠ y.1) → effs (effs H es) es' = effs (effs H es') es
  | [], es', H, _ => rfl
  | e :: es, es', H, h => by
    have h1 : ∀ (es' : List (Nat × AObj)) (H : Heap), (∀ y ∈ es', e.1 ≠ y.1) → effs (H.set e.1 e.2) es' = (effs H es').set e.1 e.2 := by
      intro es'
      induction es' with
      | nil => intro H _; rfl
      | cons f es' ih =>
        intro H hq
        show effs ((H.set e.1 e.2).set f.1 f.2) es' = (effs (H.set f.1 f.2) es').set e.1 e.2
        rw [List.set_comm _ _ (hq f (by simp)), ih _ (fun y hy => hq y (by simp [hy]))]
    show effs (effs (H.set e.1 e.2) es) es' = effs ((effs H es').set e.1 e.2) es
    rw [← h1 es' H (fun y hy => h e (by simp) y hy)]
    exact effs_comm es es' _ (fun x hx y hy => h x (by simp [hx]) y hy)
theorem updO_comm {T : Slots} {d d' : Option Nat} {v v' : PV} (h : d = none ∨ d' = none ∨ d ≠ d') : updO (updO T d v) d' v' = updO (updO T d' v') d v := by
  cases d with
  | none => rfl
  | some d =>
    cases d' with
    | none => rfl
    | some d' =>
      have hne : d ≠ d' := by
        rcases h with h | h | h; · cases h
        · cases h
        · exact fun e => h (by rw [e])
      funext i
      simp only [updO, upd]
      by_cases h1 : i = d
      · subst h1; rw [if_neg hne, if_pos rfl, if_pos rfl]
      · by_cases h2 : i = d'
        · subst h2; rw [if_pos rfl, if_neg h1, if_pos rfl]
        · rw [if_neg h2, if_neg h1, if_neg h1, if_neg h2]
def Apart (s s' : Stp) : Prop := (s.o.dst = none ∨ s'.o.dst = none ∨ s.o.dst ≠ s'.o.dst) ∧ ∀ x ∈ s.eff, ∀ y ∈ s'.eff, x.1 ≠ y.1
theorem Stp.comm {s s' : Stp} (h : Apart s s') (x : Slots × Heap) : s'.app (s.app x) = s.app (s'.app x) := by
  unfold Stp.app
  rw [updO_comm h.1, effs_comm _ _ _ h.2]
theorem runD_app (D : Nat → Bool) (s : Stp) : ∀ (l : List Stp) (k : Nat) (x : Slots × Heap), (∀ j s', l[j]? = some s' → D (k + j) = true → Apart s s') → runD D k l (s.app x) = s.app (runD D k l x)
  | [], k, x, _ => rfl
  | s' :: l, k, x, h => by
    have ih := fun x => runD_app D s l (k + 1) x (fun j s'' hj hD => h (j + 1) s'' (by simpa using hj) (by rw [show k + (j + 1) = k + 1 + j by omega]; exact hD))
    simp only [runD]
    split
    · rename_i hD
      rw [Stp.comm (h 0 s' rfl hD), ih]
    · rw [ih]
theorem runD_congr {D D' : Nat → Bool} : ∀ (l : List Stp) (k : Nat) (x : Slots × Heap), (∀ j, j < l.length → D (k + j) = D' (k + j)) → runD D k l x = runD D' k l x
  | [], _, _, _ => rfl
  | s :: l, k, x, h => by
    simp only [runD]
    have h0 : D k = D' k := by simpa using h 0 (by simp)
    rw [h0]
    exact runD_congr l (k + 1) _ fun j hj => by have := h (j + 1) (by simpa using hj); rw [show k + (j + 1) = k + 1 + j by omega] at this; exact this
theorem runD_insert (D : Nat → Bool) {i : Nat} (hi : D i = false) : ∀ (l : List Stp) (k : Nat) (x : Slots × Heap) (s : Stp), k ≤ i → l[i - k]? = some s → (∀ j s', i < k + j → l[j]? = some s' → D (k + j) = true → Apart s s') →
    runD (fun j => j == i || D j) k l x = s.app (runD D k l x)
  | [], k, x, s, _, h, _ => by simp at h
  | s' :: l, k, x, s, hk, h, ha => by
    simp only [runD]
    by_cases e : k = i
    · subst e
      simp only [Nat.sub_self, List.getElem?_cons_zero, Option.some.injEq] at h
      subst h
      simp only [beq_self_eq_true, Bool.true_or, if_true, hi, Bool.false_eq_true, if_false]
      rw [runD_congr (D' := D) l (k + 1) _ (fun j hj => by
        have : ¬ (k + 1 + j = k) := by omega
        simp [this])]
      exact runD_app D s' l (k + 1) x (fun j s'' hj hD => ha (j + 1) s'' (by omega) (by simpa using hj) (by rw [show k + (j + 1) = k + 1 + j by omega]; exact hD))
    · have hne : (k == i) = false := by simp [e]
      simp only [hne, Bool.false_or]
      exact runD_insert D hi l (k + 1) _ s (by omega) (by rw [show i - k = (i - (k + 1)) + 1 by omega, List.getElem?_cons_succ] at h; exact h)
        (fun j s'' hj hl hD => ha (j + 1) s'' (by omega) (by simpa using hl) (by rw [show k + (j + 1) = k + 1 + j by omega]; exact hD))
theorem runD_slot {D D' : Nat → Bool} {t : Nat} : ∀ (l : List Stp) (k : Nat) (x x' : Slots × Heap), x.1 t = x'.1 t → (∀ j s, l[j]? = some s → D (k + j) ≠ D' (k + j) → s.o.dst ≠ some t) → (runD D k l x).1 t = (runD D' k l x').1 t
  | [], _, _, _, h, _ => h
  | s :: l, k, x, x', h, hd => by
    simp only [runD]
    refine runD_slot l (k + 1) _ _ ?_ (fun j s' hj hD => hd (j + 1) s' (by simpa using hj) (by rw [show k + (j + 1) = k + 1 + j by omega]; exact hD))
    have hsame : ∀ (x : Slots × Heap), s.o.dst ≠ some t → (s.app x).1 t = x.1 t := by
      intro x hne
      unfold Stp.app updO upd
      cases hq : s.o.dst with
      | none => rfl
      | some d =>
        have : t ≠ d := by rintro rfl; exact hne hq
        simp only [if_neg this]
    have hboth : (s.app x).1 t = (s.app x').1 t := by
      unfold Stp.app updO upd
      cases hq : s.o.dst with
      | none => exact h
      | some d =>
        by_cases e : t = d
        · simp only [if_pos e]
        · simp only [if_neg e]; exact h
    by_cases hD : D k = D' k
    · rw [← hD]
      split
      · exact hboth
      · exact h
    · have hne := hd 0 s rfl hD
      split <;> split
      · exact hboth
      · rw [hsame _ hne]; exact h
      · rw [hsame _ hne]; exact h
      · exact h
theorem runD_len (D : Nat → Bool) : ∀ (l : List Stp) (k : Nat) (x : Slots × Heap), (runD D k l x).2.length = x.2.length
  | [], _, _ => rfl
  | s :: l, k, x => by
    simp only [runD]
    rw [runD_len D l]
    split
    · exact effs_length _ _
    · rfl
theorem runD_heap {D D' : Nat → Bool} {id : Nat} : ∀ (l : List Stp) (k : Nat) (x x' : Slots × Heap), x.2.length = x'.2.length → x.2[id]? = x'.2[id]? → (∀ j s, l[j]? = some s → D (k + j) ≠ D' (k + j) → ∀ e ∈ s.eff, e.1 ≠ id) → (runD D k l x).2[id]? = (runD D' k l x').2[id]?
  | [], _, _, _, _, h, _ => h
  | s :: l, k, x, x', hl, h, hd => by
    simp only [runD]
    have hll : (if D k then s.app x else x).2.length = (if D' k then s.app x' else x').2.length := by
      have e1 : ∀ y : Slots × Heap, (s.app y).2.length = y.2.length := fun y => effs_length _ _
      split <;> split <;> simp only [e1, hl]
    refine runD_heap l (k + 1) _ _ hll ?_ (fun j s' hj hD => hd (j + 1) s' (by simpa using hj) (by rw [show k + (j + 1) = k + 1 + j by omega]; exact hD))
    by_cases hD : D k = D' k
    · rw [← hD]
      split
      · exact effs_get_congr _ _ _ _ hl h
      · exact h
    · have hne := hd 0 s rfl hD
      have e1 : ∀ y : Slots × Heap, (s.app y).2[id]? = y.2[id]? := fun y => effs_get_ne _ _ _ hne
      split <;> split <;> simp only [e1, h]
def ready (ops : Array Oper) (listed : Array Bool) (i : Nat) : Bool :=
  !listed.getD i true && ((ops[i]?).map (·.after.all fun e => !Region.binds .any e || listed.getD e.on false)).getD false
def goRem (ops : Array Oper) : Nat → Nat → Array Bool → List Nat
  | 0, _, _ => []
  | fuel + 1, t, listed =>
    match ((List.range ops.size).filter (ready ops listed))[t % ((List.range ops.size).filter (ready ops listed)).length]? with
    | some i => i :: goRem ops fuel (t / ((List.range ops.size).filter (ready ops listed)).length) (listed.setIfInBounds i true)
    | none => []
theorem go_eq (ops : Array Oper) : ∀ (fuel t : Nat) (listed : Array Bool) (acc : List Nat), Region.linearise.go .any ops fuel t listed acc = acc.reverse ++ goRem ops fuel t listed
  | 0, t, listed, acc => by simp [Region.linearise.go, goRem]
  | fuel + 1, t, listed, acc => by
    unfold Region.linearise.go goRem
    show (match ((List.range ops.size).filter (ready ops listed))[t % ((List.range ops.size).filter (ready ops listed)).length]? with
      | some i => _
      | none => _) = _
    split
    · rename_i i hi
      have := go_eq ops fuel (t / ((List.range ops.size).filter (ready ops listed)).length) (listed.setIfInBounds i true) (i :: acc)
      rw [show ((i :: acc).reverse ++ goRem ops fuel (t / ((List.range ops.size).filter (ready ops listed)).length) (listed.setIfInBounds i true)) = acc.reverse ++ i :: goRem ops fuel (t / ((List.range ops.size).filter (ready ops listed)).length) (listed.setIfInBounds i true) by simp] at this
      exact this
    · simp
def edgesBack (l : List Oper) : Bool := (l.zipIdx.all fun (o, i) => o.after.toList.all fun e => !Region.binds .any e || decide (e.on < i))
theorem edgesBack_spec {l : List Oper} (h : edgesBack l = true) {i : Nat} {o : Oper} (ho : l[i]? = some o) {e : Edge} (he : e ∈ o.after.toList) (hb : Region.binds .any e = true) : e.on < i := by
  unfold edgesBack at h
  rw [List.all_eq_true] at h
  have hm : (o, i) ∈ l.zipIdx := by
    rw [List.mem_zipIdx_iff_getElem?]; exact ho
  have := h _ hm
  simp only [List.all_eq_true] at this
  have := this e he
  rw [hb] at this
  simpa using this
def slotsApart (l : List Oper) (bm : List Nat) : Bool :=
  l.zipIdx.all fun (o, j) => l.zipIdx.all fun (o', i) =>
    !decide (i < j) || (bm.getD j 0).testBit i ||
      (match o'.dst with
       | some d => !(o.dst == some d) && !(otmps l o).contains d
       | none => true) &&
      (match o.dst with
       | some d => !(otmps l o').contains d
       | none => true)
theorem slotsApart_spec {l : List Oper} {bm : List Nat} (h : slotsApart l bm = true) {i j : Nat} (hij : i < j) {o o' : Oper} (ho' : l[i]? = some o') (ho : l[j]? = some o) (hb : (bm.getD j 0).testBit i = false) :
    (o'.dst = none ∨ o.dst = none ∨ o'.dst ≠ o.dst) ∧ (∀ t ∈ otmps l o, o'.dst ≠ some t) ∧ (∀ t ∈ otmps l o', o.dst ≠ some t) := by
  unfold slotsApart at h
  rw [List.all_eq_true] at h
  have h1 := h (o, j) (by rw [List.mem_zipIdx_iff_getElem?]; exact ho)
  simp only [List.all_eq_true] at h1
  have h2 := h1 (o', i) (by rw [List.mem_zipIdx_iff_getElem?]; exact ho')
  simp only [hij, decide_true, Bool.not_true, hb, Bool.false_or, Bool.and_eq_true] at h2
  obtain ⟨h3, h4⟩ := h2
  refine ⟨?_, ?_, ?_⟩
  · cases hq : o'.dst with
    | none => exact .inl rfl
    | some d =>
      rw [hq] at h3
      simp only [Bool.and_eq_true, Bool.not_eq_true', beq_eq_false_iff_ne, ne_eq] at h3
      exact .inr (.inr fun e => h3.1 e.symm)
  · intro t ht e
    rw [e] at h3
    simp only [Bool.and_eq_true, Bool.not_eq_true'] at h3
    have := h3.2
    rw [List.contains_iff_mem.2 ht] at this; cases this
  · intro t ht e
    rw [e] at h4
    simp only [Bool.not_eq_true'] at h4
    rw [List.contains_iff_mem.2 ht] at h4; cases h4
end Go.Abs
namespace Go.Abs
theorem Bf.closed {l : List Oper} {listed : Nat → Bool} (h : ∀ j o, l[j]? = some o → listed j = true → ∀ e ∈ o.after.toList, Region.binds .any e = true → listed e.on = true) {i j : Nat} (hb : Bf l i j) (hj : listed j = true) : listed i = true := by
  induction hb with
  | edge ho he hbd => exact h _ _ ho hj _ he hbd
  | trans _ _ ih1 ih2 => exact ih1 (ih2 hj)
theorem Bf.pre {l : List Oper} {listed : Nat → Bool} {i : Nat} (h : ∀ j o, l[j]? = some o → (listed j = true ∨ j = i) → ∀ e ∈ o.after.toList, Region.binds .any e = true → listed e.on = true) {k : Nat} (hb : Bf l k i) : listed k = true := by
  have hcl : ∀ j o, l[j]? = some o → listed j = true → ∀ e ∈ o.after.toList, Region.binds .any e = true → listed e.on = true := fun j o ho hj => h j o ho (.inl hj)
  have key : ∀ {k j : Nat}, Bf l k j → j = i → listed k = true := by
    intro k j hb
    induction hb with
    | edge ho he hbd => rintro rfl; exact h _ _ ho (.inr rfl) _ he hbd
    | trans h1 _ ih1 ih2 => intro e; exact h1.closed hcl (ih2 e)
  exact key hb rfl
structure Trace (P : Program) (N : Nat) (ops : Array Oper) (S : List Stp) (x : Slots × Heap) : Prop where
  ops_eq : S.map (·.o) = ops.toList
  rob : ∀ i s, S[i]? = some s → Rob P N ops s.o (runD (fun j => decide (j < i)) 0 S x).1 (runD (fun j => decide (j < i)) 0 S x).2 s.v s.eff s.rd
  own : ∀ s ∈ S, ∀ e ∈ s.eff, e.1 ∈ s.rd
  apart : ∀ i j s s', i < j → S[i]? = some s → S[j]? = some s' → ((bmasks ops.toList).getD j 0).testBit i = true ∨ ((∀ e ∈ s.eff, e.1 ∉ s'.rd) ∧ ∀ e ∈ s'.eff, e.1 ∉ s.rd)
section
variable {P : Program} {N nb : Nat} {ops : Array Oper} {S : List Stp} {x : Slots × Heap} {Q : Post}
theorem wpOps_cons {P : Program} {Q : Exit → Act → World → Prop} {a : Act} {w : World} {rest : List Nat} {i : Nat} {o : Oper} (ho : ops[i]? = some o)
    (h : if Region.wanted o (yielded ops a.tmps) then o.wp P a w (wpOps P ops Q rest) Q else wpOps P ops Q rest (a.put o.dst undef) w) : wpOps P ops Q (i :: rest) a w := by
  unfold wpOps
  simp only [ho]
  split
  · rename_i hw; rw [if_pos hw] at h; exact .inl h
  · rename_i hw; rw [if_neg hw] at h; exact h
theorem draw_walk (hb : edgesBack ops.toList = true) (hs : slotsApart ops.toList (bmasks ops.toList) = true) (tr : Trace P N ops S x) (hQ : Q .normal (runD (fun _ => true) 0 S x).1 (runD (fun _ => true) 0 S x).2) (E0 : Env) :
    ∀ (fuel t : Nat) (listed : Array Bool) (E : Env) (a : Act), listed.size = ops.size → ((List.range ops.size).filter fun i => !listed.getD i true).length ≤ fuel →
      (∀ j o, ops.toList[j]? = some o → listed.getD j false = true → ∀ e ∈ o.after.toList, Region.binds .any e = true → listed.getD e.on false = true) →
      E0.leN nb E → E.Ok → E.H = (runD (fun j => listed.getD j false) 0 S x).2 → TRel E.view N a (runD (fun j => listed.getD j false) 0 S x).1 → wpOps P ops (lift N nb E0 Q) (goRem ops fuel t listed) a E.w := by
  have hlen : S.length = ops.size := by rw [← Array.length_toList, ← tr.ops_eq]; simp
  have hop : ∀ (i : Nat) (s : Stp), S[i]? = some s → ops.toList[i]? = some s.o := by
    intro i s h; rw [← tr.ops_eq, List.getElem?_map, h]; rfl
  intro fuel
  induction fuel with
  | zero =>
    intro t listed E a hsz hcnt hcl hle ho hH ht
    have hall : ∀ j, j < S.length → listed.getD j false = true := by
      intro j hj
      cases hq : listed.getD j false with
      | true => rfl
      | false =>
        have hm : j ∈ (List.range ops.size).filter fun i => !listed.getD i true := by
          rw [List.mem_filter]
          refine ⟨List.mem_range.2 (by omega), ?_⟩
          rw [Array.getD_eq_getD_getElem?, Array.getElem?_eq_getElem (by omega)] at hq ⊢
          simpa using hq
        have := List.length_pos_of_mem hm; omega
    rw [runD_congr (D' := fun _ => true) S 0 x (fun j hj => by simpa using hall j hj)] at hH ht
    exact ⟨E, _, rfl, hle, ho, ht, hH ▸ hQ⟩
  | succ fuel ih =>
    intro t listed E a hsz hcnt hcl hle ho hH ht
    unfold goRem
    by_cases hdone : ∀ j, j < ops.size → listed.getD j false = true
    · have hrs : (List.range ops.size).filter (ready ops listed) = [] := by
        rw [List.filter_eq_nil_iff]
        intro j hj
        rw [List.mem_range] at hj
        have := hdone j hj
        unfold ready
        rw [Array.getD_eq_getD_getElem?, Array.getElem?_eq_getElem (by omega)] at this ⊢
        simp only [Option.getD_some] at this ⊢
        simp [this]
      rw [hrs]
      rw [runD_congr (D' := fun _ => true) S 0 x (fun j hj => by simpa using hdone j (by omega))] at hH ht
      exact ⟨E, _, rfl, hle, ho, ht, hH ▸ hQ⟩
    · -- the first that is not listed is ready
      have hex : ∃ j, j < ops.size ∧ listed.getD j false = false := by
        apply Classical.byContradiction
        intro hno
        apply hdone
        intro j hj
        cases hq : listed.getD j false with
        | true => rfl
        | false => exact (hno ⟨j, hj, hq⟩).elim
      obtain ⟨j0, ⟨hj0, hl0⟩, hmin⟩ := nat_least hex
      have hdT : ∀ (j : Nat), j < ops.size → ∀ b c : Bool, listed.getD j b = listed.getD j c := by
        intro j hj b c
        rw [Array.getD_eq_getD_getElem?, Array.getD_eq_getD_getElem?, Array.getElem?_eq_getElem (by omega)]; rfl
      have hready : ready ops listed j0 = true := by
        unfold ready
        rw [hdT j0 hj0 true false, hl0, Array.getElem?_eq_getElem hj0]
        simp only [Bool.not_false, Bool.true_and, Option.map_some, Option.getD_some]
        rw [Array.all_eq_true']
        intro e he
        cases hbd : Region.binds .any e with
        | false => rfl
        | true =>
          have hon := edgesBack_spec hb (i := j0) (o := ops[j0]) (by simp [hj0]) (e := e) (by simpa using he) hbd
          simp only [Bool.not_true, Bool.false_or]
          cases hq : listed.getD e.on false with
          | true => rfl
          | false => have := hmin e.on ⟨by omega, hq⟩; omega
      have hne : (List.range ops.size).filter (ready ops listed) ≠ [] := by
        intro hnil
        have : j0 ∈ (List.range ops.size).filter (ready ops listed) := List.mem_filter.2 ⟨List.mem_range.2 hj0, hready⟩
        rw [hnil] at this; cases this
      have hpos : 0 < ((List.range ops.size).filter (ready ops listed)).length := List.length_pos_iff.2 hne
      have hlt := Nat.mod_lt t hpos
      rw [List.getElem?_eq_getElem hlt]
      simp only
      generalize hi : ((List.range ops.size).filter (ready ops listed))[t % ((List.range ops.size).filter (ready ops listed)).length] = i
      have him : i ∈ (List.range ops.size).filter (ready ops listed) := by rw [← hi]; exact List.getElem_mem hlt
      obtain ⟨him1, him2⟩ := List.mem_filter.1 him
      rw [List.mem_range] at him1
      unfold ready at him2
      rw [hdT i him1 true false, Array.getElem?_eq_getElem him1] at him2
      simp only [Bool.and_eq_true, Bool.not_eq_true', Option.map_some, Option.getD_some] at him2
      obtain ⟨hnl, hpre⟩ := him2
      rw [Array.all_eq_true'] at hpre
      obtain ⟨s, hs_i⟩ : ∃ s, S[i]? = some s := ⟨S[i]'(by omega), List.getElem?_eq_getElem _⟩
      have hso := hop i s hs_i
      have hop_i : ops[i]? = some s.o := by rw [Array.getElem?_toList] at hso; exact hso
      have hso' : ops[i] = s.o := by rw [Array.getElem?_eq_getElem him1] at hop_i; simpa using hop_i
      have hprei : ∀ e ∈ s.o.after.toList, Region.binds .any e = true → listed.getD e.on false = true := by
        intro e he hbd
        have := hpre e (by rw [hso']; simpa using he)
        rw [hbd] at this; simpa using this
      have hBfD : ∀ {k j : Nat}, Bf ops.toList k j → listed.getD j false = true → listed.getD k false = true := fun hbf hj => hbf.closed (listed := fun j => listed.getD j false) hcl hj
      have hBfI : ∀ {k : Nat}, Bf ops.toList k i → listed.getD k false = true := fun hbf => Bf.pre (listed := fun j => listed.getD j false) (i := i) (fun j o hoo hj e he hbd => by
        rcases hj with hj | rfl
        · exact hcl j o hoo hj e he hbd
        · rw [hso] at hoo; cases hoo; exact hprei e he hbd) hbf
      have hbmB : ∀ {k j : Nat}, ((bmasks ops.toList).getD j 0).testBit k = true → Bf ops.toList k j := fun h => (bmasks_sound ops.toList _ ops.toList [] rfl (by simp)).2 _ _ h
      have hun1 : ∀ j, i < j → listed.getD j false = true → ((bmasks ops.toList).getD j 0).testBit i = false := by
        intro j hij hj
        cases hq : ((bmasks ops.toList).getD j 0).testBit i with
        | false => rfl
        | true => have := hBfD (hbmB hq) hj; rw [hnl] at this; cases this
      have hun2 : ∀ k, k < i → listed.getD k false = false → ((bmasks ops.toList).getD i 0).testBit k = false := by
        intro k hki hk
        cases hq : ((bmasks ops.toList).getD i 0).testBit k with
        | false => rfl
        | true => have := hBfI (hbmB hq); rw [hk] at this; cases this
      let D : Nat → Bool := fun j => listed.getD j false
      have hslot : ∀ t ∈ otmps ops.toList s.o, (runD D 0 S x).1 t = (runD (fun j => decide (j < i)) 0 S x).1 t := by
        intro t htm
        refine runD_slot S 0 x x rfl (fun j s' hj hD => ?_)
        rw [Nat.zero_add] at hD
        have hoj := hop j s' hj
        by_cases hji : j < i
        · have hDj : D j = false := by
            cases hq : D j with
            | false => rfl
            | true => rw [hq] at hD; simp [hji] at hD
          exact (slotsApart_spec hs hji hoj hso (hun2 j hji hDj)).2.1 t htm
        · have hDj : D j = true := by
            cases hq : D j with
            | true => rfl
            | false => rw [hq] at hD; simp [hji] at hD
          have hne : j ≠ i := by rintro rfl; rw [show D j = false from hnl] at hDj; cases hDj
          exact (slotsApart_spec hs (by omega : i < j) hso hoj (hun1 j (by omega) hDj)).2.2 t htm
      have hheap : ∀ id ∈ s.rd, (runD D 0 S x).2[id]? = (runD (fun j => decide (j < i)) 0 S x).2[id]? := by
        intro id hid
        refine runD_heap S 0 x x rfl rfl (fun j s' hj hD e he heq => ?_)
        rw [Nat.zero_add] at hD
        by_cases hji : j < i
        · have hDj : D j = false := by
            cases hq : D j with
            | false => rfl
            | true => rw [hq] at hD; simp [hji] at hD
          rcases tr.apart j i s' s hji hj hs_i with h | h
          · rw [hun2 j hji hDj] at h; cases h
          · exact h.1 e he (heq ▸ hid)
        · have hDj : D j = true := by
            cases hq : D j with
            | true => rfl
            | false => rw [hq] at hD; simp [hji] at hD
          have hne : j ≠ i := by rintro rfl; rw [show D j = false from hnl] at hDj; cases hDj
          rcases tr.apart i j s s' (by omega) hs_i hj with h | h
          · rw [hun1 j (by omega) hDj] at h; cases h
          · exact h.2 e he (heq ▸ hid)
      have hlenr : (runD D 0 S x).2.length = (runD (fun j => decide (j < i)) 0 S x).2.length := by rw [runD_len, runD_len]
      have hins : runD (fun j => (listed.setIfInBounds i true).getD j false) 0 S x = s.app (runD D 0 S x) := by
        rw [← runD_insert D (i := i) hnl S 0 x s (Nat.zero_le _) (by simpa using hs_i)]
        · refine runD_congr S 0 x (fun j hj => ?_)
          rw [Nat.zero_add]
          simp only [D]
          rw [Array.getD_eq_getD_getElem?, Array.getD_eq_getD_getElem?]
          by_cases e : j = i
          · subst e
            rw [Array.getElem?_setIfInBounds_self_of_lt (by omega)]; simp
          · rw [Array.getElem?_setIfInBounds_ne (fun q => e q.symm)]
            have : (j == i) = false := by simp [e]
            rw [this]; simp
        · intro j s' hij hj hDj
          rw [Nat.zero_add] at hij hDj
          have hb' := hun1 j hij hDj
          refine ⟨(slotsApart_spec hs hij hso (hop j s' hj) hb').1, fun e he y hy heq => ?_⟩
          rcases tr.apart i j s s' hij hs_i hj with h | h
          · rw [hb'] at h; cases h
          · exact h.1 e he (heq ▸ tr.own s' (List.mem_of_getElem? hj) y hy)
      have hcnt' : ((List.range ops.size).filter fun k => !(listed.setIfInBounds i true).getD k true).length ≤ fuel := by
        have hsub : ((List.range ops.size).filter fun k => !(listed.setIfInBounds i true).getD k true).length < ((List.range ops.size).filter fun k => !listed.getD k true).length := by
          have e1 : (List.range ops.size).filter (fun k => !(listed.setIfInBounds i true).getD k true) = ((List.range ops.size).filter fun k => !listed.getD k true).filter fun k => k != i := by
            rw [List.filter_filter]
            apply List.filter_congr
            intro k hk
            rw [Array.getD_eq_getD_getElem?, Array.getD_eq_getD_getElem?]
            by_cases e : k = i
            · subst e; rw [Array.getElem?_setIfInBounds_self_of_lt (by omega)]; simp
            · rw [Array.getElem?_setIfInBounds_ne (fun q => e q.symm)]; simp [e]
          rw [e1]
          refine List.length_filter_lt_length_iff_exists.2 ⟨i, ?_, by simp⟩
          rw [List.mem_filter]
          exact ⟨List.mem_range.2 him1, by rw [hdT i him1 true false, hnl]; rfl⟩
        omega
      have hcl' : ∀ j o, ops.toList[j]? = some o → (listed.setIfInBounds i true).getD j false = true → ∀ e ∈ o.after.toList, Region.binds .any e = true → (listed.setIfInBounds i true).getD e.on false = true := by
        intro j o hoo hj e he hbd
        have hup : ∀ k, listed.getD k false = true → (listed.setIfInBounds i true).getD k false = true := by
          intro k hk
          rw [Array.getD_eq_getD_getElem?] at hk ⊢
          by_cases q : k = i
          · subst q; rw [Array.getElem?_setIfInBounds_self_of_lt (by omega)]; rfl
          · rw [Array.getElem?_setIfInBounds_ne (fun z => q z.symm)]; exact hk
        apply hup
        by_cases q : j = i
        · subst q; rw [hso] at hoo; cases hoo; exact hprei e he hbd
        · rw [Array.getD_eq_getD_getElem?, Array.getElem?_setIfInBounds_ne (fun z => q z.symm), ← Array.getD_eq_getD_getElem?] at hj
          exact hcl j o hoo hj e he hbd
      have hrob := tr.rob i s hs_i (runD D 0 S x).1 (runD D 0 S x).2 hslot hheap hlenr E a ho hH ht
      refine wpOps_cons hop_i ?_
      rcases hrob with ⟨hw, he0, hv0⟩ | ⟨hw, hgo⟩
      · rw [if_neg (by rw [hw]; simp)]
        refine ih _ _ E _ (by simp [hsz]) hcnt' hcl' hle ho ?_ ?_
        · rw [hins]; simp only [Stp.app, he0, effs, List.foldl_nil]; exact hH
        · rw [hins]; simp only [Stp.app]
          rcases hv0 with e | e
          · rw [e]; exact ht.put s.o.dst (.junk _)
          · rw [e]; exact ht.put s.o.dst (.tup _ _ rfl (fun i h => absurd h (by simp)))
      · rw [if_pos hw]
        refine hgo _ _ (fun E' val hle' ho' hH' hv' => ?_)
        refine ih _ _ E' _ (by simp [hsz]) hcnt' hcl' (hle.trans (hle'.leN nb)) ho' ?_ ?_
        · rw [hins]; simp only [Stp.app]; exact hH'
        · rw [hins]; simp only [Stp.app]; exact (ht.mono hle'.view).put s.o.dst hv'
end
end Go.Abs
namespace Go.Abs
theorem runD_append (D : Nat → Bool) : ∀ (l1 l2 : List Stp) (k : Nat) (x : Slots × Heap), runD D k (l1 ++ l2) x = runD D (k + l1.length) l2 (runD D k l1 x)
  | [], l2, k, x => rfl
  | s :: l1, l2, k, x => by
    simp only [List.cons_append, runD]
    rw [runD_append D l1 l2 (k + 1)]
    congr 1
    simp only [List.length_cons]; omega
theorem runD_none {D : Nat → Bool} : ∀ (l : List Stp) (k : Nat) (x : Slots × Heap), (∀ j, j < l.length → D (k + j) = false) → runD D k l x = x
  | [], _, _, _ => rfl
  | s :: l, k, x, h => by
    simp only [runD]
    have h0 : D k = false := by simpa using h 0 (by simp)
    rw [h0]
    exact runD_none l (k + 1) x fun j hj => by have := h (j + 1) (by simpa using hj); rw [show k + (j + 1) = k + 1 + j by omega] at this; exact this
abbrev Prev := List (Nat × List Nat × List Nat)
def DOps (P : Program) (N : Nat) (ops : Array Oper) (Q : Post) : Nat → List Oper → Prev → Slots → Heap → Prop
  | _, [], _, T, H => Q .normal T H
  | k, o :: l, prev, T, H => ∃ v eff rd, Rob P N ops o T H v eff rd ∧ (∀ e ∈ eff, e.1 ∈ rd) ∧
      (∀ p ∈ prev, ((bmasks ops.toList).getD k 0).testBit p.1 = true ∨ ((∀ id ∈ p.2.2, id ∉ rd) ∧ ∀ e ∈ eff, e.1 ∉ p.2.1)) ∧
      DOps P N ops Q (k + 1) l (prev ++ [(k, rd, eff.map (·.1))]) (updO T o.dst v) (effs H eff)
section
variable {P : Program} {N nb : Nat} {ops : Array Oper} {Q : Post}
theorem dops_trace {x : Slots × Heap} : ∀ (l : List Oper) (k : Nat) (prev : Prev) (S0 : List Stp), S0.length = k → S0.map (·.o) ++ l = ops.toList →
    (∀ (i : Nat) (s : Stp), S0[i]? = some s → Rob P N ops s.o (runD (fun j => decide (j < i)) 0 S0 x).1 (runD (fun j => decide (j < i)) 0 S0 x).2 s.v s.eff s.rd) →
    (∀ s ∈ S0, ∀ e ∈ s.eff, e.1 ∈ s.rd) →
    (∀ (i j : Nat) (s s' : Stp), i < j → S0[i]? = some s → S0[j]? = some s' → ((bmasks ops.toList).getD j 0).testBit i = true ∨ ((∀ e ∈ s.eff, e.1 ∉ s'.rd) ∧ ∀ e ∈ s'.eff, e.1 ∉ s.rd)) →
    (∀ (i : Nat) (s : Stp), S0[i]? = some s → (i, s.rd, s.eff.map (·.1)) ∈ prev) →
    DOps P N ops Q k l prev (runD (fun _ => true) 0 S0 x).1 (runD (fun _ => true) 0 S0 x).2 →
    ∃ S, Trace P N ops S x ∧ Q .normal (runD (fun _ => true) 0 S x).1 (runD (fun _ => true) 0 S x).2
  | [], k, prev, S0, hk, ho, h1, h2, h3, h4, hd => ⟨S0, ⟨by simpa using ho, h1, h2, h3⟩, hd⟩
  | o :: l, k, prev, S0, hk, ho, h1, h2, h3, h4, hd => by
    obtain ⟨v, eff, rd, hr, how, hap, hd'⟩ := hd
    let s : Stp := ⟨o, v, eff, rd⟩
    have hpre : ∀ i, i ≤ k → runD (fun j => decide (j < i)) 0 (S0 ++ [s]) x = runD (fun j => decide (j < i)) 0 S0 x := by
      intro i hi
      rw [runD_append]
      exact runD_none _ _ _ (fun j hj => by simp at hj; subst hj; simp; omega)
    have hfull : runD (fun j => decide (j < k)) 0 S0 x = runD (fun _ => true) 0 S0 x := runD_congr S0 0 x (fun j hj => by simp; omega)
    have hext : runD (fun _ => true) 0 (S0 ++ [s]) x = s.app (runD (fun _ => true) 0 S0 x) := by
      rw [runD_append]; rfl
    refine dops_trace l (k + 1) (prev ++ [(k, rd, eff.map (·.1))]) (S0 ++ [s]) (by simp [hk]) (by simpa using ho) ?_ ?_ ?_ ?_ ?_
    · intro i s' hs'
      by_cases hi : i < k
      · rw [List.getElem?_append_left (by omega)] at hs'
        rw [hpre i (by omega)]
        exact h1 i s' hs'
      · have hik : i = k := by have := len_of_get hs'; simp [hk] at this; omega
        subst hik
        rw [List.getElem?_append_right (by omega), hk] at hs'
        simp at hs'
        subst hs'
        rw [hpre i (Nat.le_refl _), hfull]
        exact hr
    · intro s' hs'
      rcases List.mem_append.1 hs' with hs' | hs'
      · exact h2 s' hs'
      · simp at hs'; subst hs'; exact how
    · intro i j s1 s2 hij hs1 hs2
      have hi : i < k := by have := len_of_get hs2; simp [hk] at this; omega
      rw [List.getElem?_append_left (by omega)] at hs1
      by_cases hj : j < k
      · rw [List.getElem?_append_left (by omega)] at hs2
        exact h3 i j s1 s2 hij hs1 hs2
      · have hjk : j = k := by have := len_of_get hs2; simp [hk] at this; omega
        subst hjk
        rw [List.getElem?_append_right (by omega), hk] at hs2
        simp at hs2
        subst hs2
        rcases hap _ (h4 i s1 hs1) with h | h
        · exact .inl h
        · refine .inr ⟨fun e he => h.1 _ (List.mem_map.2 ⟨e, he, rfl⟩), h.2⟩
    · intro i s' hs'
      by_cases hi : i < k
      · rw [List.getElem?_append_left (by omega)] at hs'
        exact List.mem_append.2 (.inl (h4 i s' hs'))
      · have hik : i = k := by have := len_of_get hs'; simp [hk] at this; omega
        subst hik
        rw [List.getElem?_append_right (by omega), hk] at hs'
        simp at hs'
        subst hs'
        exact List.mem_append.2 (.inr (by simp [s]))
    · rw [hext]; exact hd'
theorem awp_ext {c : Code} {T : Slots} {H : Heap} (h : AWP P N nb c Q T (H ++ [.unborn])) : AWP P N nb c Q T H := by
  intro E a ho hH ht
  have := h E.ext a ho.ext (by simp [Env.ext, hH]) (ht.mono E.ext_view_le)
  exact wp_mono this fun e a w hl => lift_mono (E.ext_le.leN nb) (fun _ _ _ q => q) hl
theorem awp_extN {c : Code} {T : Slots} : ∀ (m : Nat) {H : Heap}, AWP P N nb c Q T (H ++ List.replicate m .unborn) → AWP P N nb c Q T H
  | 0, H, h => by simpa using h
  | m + 1, H, h => awp_ext (awp_extN m (by simpa [List.replicate_succ] using h))
def drawOk (P : Program) (l : List Oper) : Bool := P.follows .mixedOrders && edgesBack l && slotsApart l (bmasks l)
theorem awp_draw {id : Nat} {ops : Array Oper} {T : Slots} {H : Heap} (m : Nat) (hok : drawOk P ops.toList = true) (h : DOps P N ops Q 0 ops.toList [] T (H ++ List.replicate m .unborn)) : AWP P N nb (.region id ops true) Q T H := by
  refine awp_extN m ?_
  unfold drawOk at hok
  simp only [Bool.and_eq_true] at hok
  obtain ⟨S, tr, hQ⟩ := dops_trace (x := (T, H ++ List.replicate m .unborn)) ops.toList 0 [] [] rfl (by simp) (fun i s h => by simp at h) (fun s h => by simp at h) (fun i j s s' _ h => by simp at h) (fun i s h => by simp at h) h
  intro E a ho hH ht
  refine wp_region_draw fun t => ?_
  rw [hok.1.1]
  simp only [Region.schedule, Bool.true_or, if_true, Region.linearise, go_eq, List.reverse_nil, List.nil_append]
  have hrun : runD (fun j => (Array.replicate ops.size false).getD j false) 0 S (T, H ++ List.replicate m .unborn) = (T, H ++ List.replicate m .unborn) := by
    refine runD_none S 0 _ (fun j hj => ?_)
    rw [Array.getD_eq_getD_getElem?]
    by_cases h : 0 + j < ops.size
    · rw [Array.getElem?_eq_getElem (by simpa using h)]; simp
    · rw [Array.getElem?_eq_none (by simp; omega)]; rfl
  refine draw_walk hok.1.2 hok.2 tr hQ E ops.size t (Array.replicate ops.size false) E.drew a (by simp) ?_ ?_ (E.drew_le.leN nb) ho.drew ?_ ?_
  · refine Nat.le_trans (List.length_filter_le _ _) (by simp)
  · intro j o hj hl
    rw [Array.getD_eq_getD_getElem?] at hl
    by_cases h : j < ops.size
    · rw [Array.getElem?_eq_getElem (by simpa using h)] at hl; simp at hl
    · rw [Array.getElem?_eq_none (by simp; omega)] at hl; cases hl
  · rw [hrun]; exact hH
  · rw [hrun]; exact ht
theorem abuild_congr {fl : List (Nat × TI)} {T T' : Slots} : ∀ (ps : List (Nat × Operand)) (cs : List PV), (∀ x ∈ ps, aev T' x.2 = aev T x.2) → abuild fl T' cs ps = abuild fl T cs ps
  | [], cs, _ => rfl
  | (f, x) :: ps, cs, h => by
    unfold abuild
    rw [h (f, x) (by simp)]
    split
    · split
      · exact abuild_congr ps _ (fun y hy => h y (by simp [hy]))
      · rfl
    · rfl
theorem abuildS_congr {i : TI} {T T' : Slots} : ∀ (ps : List (Nat × Operand)) (cs : List PV), (∀ x ∈ ps, aev T' x.2 = aev T x.2) → abuildS i T' cs ps = abuildS i T cs ps
  | [], cs, _ => rfl
  | (f, x) :: ps, cs, h => by
    unfold abuildS
    rw [h (f, x) (by simp)]
    split
    · exact abuildS_congr ps _ (fun y hy => h y (by simp [hy]))
    · rfl
theorem abndO_congr {T T' : Slots} {x : Option Operand} (h : ∀ y, x = some y → aev T' y = aev T y) (n d : Nat) : abndO T' x n d = abndO T x n d := by
  cases x with
  | none => rfl
  | some y => simp only [abndO, h y rfl]
theorem aslice_congr {T T' : Slots} {t : TypeId} {x : PV} {lo hi mx : Option Operand} (h1 : ∀ y, lo = some y → aev T' y = aev T y) (h2 : ∀ y, hi = some y → aev T' y = aev T y) (h3 : ∀ y, mx = some y → aev T' y = aev T y) :
    aslice P T' t x lo hi mx = aslice P T t x lo hi mx := by
  unfold aslice
  simp only [fun n d => abndO_congr h1 n d, fun n d => abndO_congr h2 n d]
  split
  · rfl
  · split
    · split
      · cases mx with
        | none => rfl
        | some m =>
          cases hi with
          | none => rfl
          | some h => simp only [h3 m rfl, h2 h rfl]
      · rfl
    · rfl
  · rfl
theorem abuiltin_congr {fresh : Nat} {T T' : Slots} {H : Heap} {b : Builtin} {xs : List Operand} {ts : List TypeId} (h : ∀ x ∈ xs, aev T' x = aev T x) : abuiltin P fresh T' H b xs ts = abuiltin P fresh T H b xs ts := by
  unfold abuiltin
  split
  · simp only [h _ (List.mem_singleton.2 rfl)]
  · rename_i x y; simp only [h x (by simp), h y (by simp)]
  · rename_i x y; simp only [h x (by simp), h y (by simp)]
  · rename_i x y t u; simp only [h x (by simp), h y (by simp)]
  · rfl
theorem aop_congr {mt : Bool} {fresh : Nat} {T T' : Slots} {H : Heap} {o : Op} (h : ∀ x ∈ o.operands.toList, aev T' x = aev T x) : aop P mt fresh T' H o = aop P mt fresh T H o := by
  cases o with
  | pick c a b => simp only [aop, h c (by simp [Op.operands]), h a (by simp [Op.operands]), h b (by simp [Op.operands])]
  | build t ps =>
    simp only [aop]
    congr 1; funext fl; congr 1; funext z
    split
    · rfl
    · rw [abuild_congr ps.toList z.cells (fun x hx => h x.2 (by simp only [Op.operands]; exact List.mem_map.2 ⟨x, hx, rfl⟩))]
  | buildSlice t n ps =>
    simp only [aop]
    congr 1; funext ei; congr 1; funext z
    split
    · rw [abuildS_congr ps.toList _ (fun x hx => h x.2 (by simp only [Op.operands]; exact List.mem_map.2 ⟨x, hx, rfl⟩))]
    · rfl
  | makeFunc f first caps =>
    simp only [aop]
    have e1 : (first.toList.map fun x => (aev T' x).drop1) = first.toList.map fun x => (aev T x).drop1 := List.map_congr_left fun x hx => by rw [h x (by simp only [Op.operands]; simp; left; simpa using hx)]
    have e2 : (caps.toList.map fun x => (aev T' x).drop1) = caps.toList.map fun x => (aev T x).drop1 := List.map_congr_left fun x hx => by rw [h x (by simp only [Op.operands]; simp; right; simpa using hx)]
    rw [e1, e2]
  | slice t x lo hi mx =>
    simp only [aop]
    rw [h x (by simp [Op.operands]), aslice_congr (fun y e => h y (by subst e; simp [Op.operands])) (fun y e => h y (by subst e; simp [Op.operands])) (fun y e => h y (by subst e; simp [Op.operands]))]
  | call c =>
    simp only [aop]
    split
    · rename_i b hb
      exact abuiltin_congr (fun x hx => h x (by simp only [Op.operands, Call.operands, hb]; simpa using hx))
    · rfl
  | store t a v => simp only [aop, h a (by simp [Op.operands]), h v (by simp [Op.operands])]
  | binOp op t a v u => simp only [aop, h a (by simp [Op.operands]), h v (by simp [Op.operands])]
  | indexAddr t a v => simp only [aop, h a (by simp [Op.operands]), h v (by simp [Op.operands])]
  | index t a v => simp only [aop, h a (by simp [Op.operands]), h v (by simp [Op.operands])]
  | makeSlice t a v => simp only [aop, h a (by simp [Op.operands]), h v (by simp [Op.operands])]
  | lookup t a v ok => simp only [aop, h a (by simp [Op.operands]), h v (by simp [Op.operands])]
  | mapUpdate t a v y => simp only [aop, h a (by simp [Op.operands]), h v (by simp [Op.operands]), h y (by simp [Op.operands])]
  | makeMap t r => cases r <;> rfl
  | move x => simp only [aop, h x (by simp [Op.operands])]
  | assign x => simp only [aop, h x (by simp [Op.operands])]
  | box t x => simp only [aop, h x (by simp [Op.operands])]
  | load t x => simp only [aop, h x (by simp [Op.operands])]
  | nilCheck x => simp only [aop, h x (by simp [Op.operands])]
  | unOp t u x => simp only [aop, h x (by simp [Op.operands])]
  | convert t u x => simp only [aop, h x (by simp [Op.operands])]
  | fieldAddr t x u => simp only [aop, h x (by simp [Op.operands])]
  | field t x u => simp only [aop, h x (by simp [Op.operands])]
  | extract x u => simp only [aop, h x (by simp [Op.operands])]
  | _ => rfl
def ard (T : Slots) : Op → List Nat
  | .load _ x => match aev T x with | .optr id _ => [id] | _ => []
  | .store _ x _ => match aev T x with | .optr id _ => [id] | _ => []
  | .lookup _ x _ _ => match aev T x with | .mapp id => [id] | _ => []
  | .mapUpdate _ x _ _ => match aev T x with | .mapp id => [id] | _ => []
  | .call c => match c.callee with
    | .builtin .append => match c.args.toList with
      | x :: _ => match aev T x with | .slice _ (.tok id) => [id] | _ => []
      | [] => []
    | _ => []
  | _ => []
theorem aop_heap {mt : Bool} {fresh : Nat} {T : Slots} {H H' : Heap} {o : Op} (h : ∀ id ∈ ard T o, H'[id]? = H[id]?) : aop P mt fresh T H' o = aop P mt fresh T H o := by
  cases o with
  | load t x =>
    simp only [aop]
    have : ∀ i, aload i H' (aev T x) = aload i H (aev T x) := by
      intro i
      unfold aload
      split
      · rename_i id off hq; rw [h id (by simp [ard, hq])]
      · rfl
      · rfl
    simp only [this]
  | lookup t x k ok =>
    simp only [aop]
    have : alookup P H' t (aev T x) (aev T k) ok = alookup P H t (aev T x) (aev T k) ok := by
      unfold alookup
      split
      · rename_i id n hq _; rw [h id (by simp [ard, hq])]
      · rename_i id _ _ _ hq _; rw [h id (by simp [ard, hq])]
      · rfl
    rw [this]
  | mapUpdate t x k y =>
    simp only [aop]
    have : amapset P H' t (aev T x) (aev T k) (aev T y) = amapset P H t (aev T x) (aev T k) (aev T y) := by
      unfold amapset
      split
      · rename_i id n hq _; rw [h id (by simp [ard, hq])]
      · rename_i id _ _ _ hq _; rw [h id (by simp [ard, hq])]
      · rfl
    rw [this]
  | makeMap t r => cases r <;> rfl
  | store t x y =>
    simp only [aop]
    have : ∀ i, astore i H' (aev T x) (aev T y) = astore i H (aev T x) (aev T y) := by
      intro i
      unfold astore
      split
      · rename_i id off hq; rw [h id (by simp [ard, hq])]
      · rfl
    simp only [this]
  | call c =>
    simp only [aop]
    split
    · rename_i b hb
      unfold abuiltin
      split
      · rfl
      · rfl
      · rfl
      · rename_i x y t u hxs hts
        have : ∀ i, aappend i fresh H' (aev T x) (aev T y) = aappend i fresh H (aev T x) (aev T y) := by
          intro i
          unfold aappend
          split
          · rename_i es tl xs tlx hq1 hq2
            split
            · rfl
            · split
              · split
                · rfl
                · rename_i id; rw [h id (by simp [ard, hb, hxs, hq1])]
                · rfl
              · rfl
          · rfl
        simp only [this]
      · rfl
    · rfl
  | _ => rfl
def effL (e : Eff) : List (Nat × AObj) := e.toList
theorem eff_app (e : Eff) (H : Heap) : e.app H = effs H (effL e) := by cases e <;> rfl
theorem mem_otmps {l : List Oper} {o : Oper} {t : Nat} (h : Operand.tmp t ∈ o.op.operands.toList) : t ∈ otmps l o := by
  unfold otmps
  refine List.mem_append.2 (.inl ?_)
  rw [List.mem_filterMap]
  exact ⟨_, h, rfl⟩
theorem aev_agree {l : List Oper} {o : Oper} {T T' : Slots} (h : ∀ t ∈ otmps l o, T' t = T t) : ∀ x ∈ o.op.operands.toList, aev T' x = aev T x := by
  intro x hx
  cases x with
  | tmp t => exact h t (mem_otmps hx)
  | _ => rfl
theorem wanted_agree {o : Oper} {T T' : Slots} {b : Bool} (h : ∀ t ∈ otmps ops.toList o, T' t = T t) (hw : awanted ops.toList T N o = some b) : awanted ops.toList T' N o = some b := by
  unfold awanted at hw ⊢
  split
  · rename_i hg; rw [hg] at hw; exact hw
  · rename_i j want hg
    rw [hg] at hw
    simp only at hw
    split
    · rename_i d hd
      rw [hd] at hw
      simp only at hw
      have : d ∈ otmps ops.toList o := by unfold otmps; rw [hg]; simp only [hd]; simp
      rw [h d this]
      exact hw
    · rename_i hd; rw [hd] at hw; exact hw
theorem dops_nil {k : Nat} {prev : Prev} {T : Slots} {H : Heap} (h : Q .normal T H) : DOps P N ops Q k [] prev T H := h
theorem dops_op {k : Nat} {o : Oper} {l : List Oper} {prev : Prev} {T : Slots} {H : Heap} (mt : Bool) (fresh : Nat) {v : PV} {e : Eff} (hw : awanted ops.toList T N o = some true) (hok : okOp N o.op = true)
    (hv : aop P mt fresh T H o.op = some (v, e)) (hfr : ∀ ob, e = some (fresh, ob) → H[fresh]? = some .unborn) {H' : Heap} (hH' : effs H (effL e) = H') {rd : List Nat} (hrd : ard T o.op ++ (effL e).map (·.1) = rd)
    (hap : ∀ p ∈ prev, ((bmasks ops.toList).getD k 0).testBit p.1 = true ∨ ((∀ id ∈ p.2.2, id ∉ rd) ∧ ∀ e' ∈ effL e, e'.1 ∉ p.2.1))
    (h : DOps P N ops Q (k + 1) l (prev ++ [(k, rd, (effL e).map (·.1))]) (updO T o.dst v) H') : DOps P N ops Q k (o :: l) prev T H := by
  subst hH'
  refine ⟨v, effL e, rd, ?_, ?_, hap, h⟩
  · intro T' H' hT hHd hlen E a ho hE ht
    refine .inr ⟨awanted_sound ht (wanted_agree hT hw), fun next Q hn => ?_⟩
    have hv' : aop P mt fresh T' H' o.op = some (v, e) := by
      rw [aop_congr (aev_agree hT), aop_heap (H := H), hv]
      intro id hid
      exact hHd id (by rw [← hrd]; exact List.mem_append.2 (.inl hid))
    subst hE
    obtain ⟨E', val, h1, h2, h3, h4, h5⟩ := aop_sound ho ht hok hv' (fun ob he => by
      rw [hHd fresh (by rw [← hrd, he]; simp [effL])]; exact hfr ob he)
    rw [eff_app] at h4
    have := hn E' val h2 h3 h4 h5
    unfold Oper.wp
    rcases h1 with h1 | ⟨h1, rfl⟩
    · rw [h1]; exact this
    · rw [h1]; exact this
  · intro e' he'
    rw [← hrd]
    exact List.mem_append.2 (.inr (List.mem_map.2 ⟨e', he', rfl⟩))
theorem dops_skip {k : Nat} {o : Oper} {l : List Oper} {prev : Prev} {T : Slots} {H : Heap} (hw : awanted ops.toList T N o = some false)
    (h : DOps P N ops Q (k + 1) l (prev ++ [(k, [], [])]) (updO T o.dst .junk) H) : DOps P N ops Q k (o :: l) prev T H :=
  ⟨.junk, [], [], fun T' H' hT _ _ E a ho hE ht => .inl ⟨awanted_sound ht (wanted_agree hT hw), rfl, .inl rfl⟩, by simp, fun p _ => .inr ⟨by simp, by simp⟩, h⟩
theorem dops_call {k : Nat} {o : Oper} {l : List Oper} {prev : Prev} {T : Slots} {H : Heap} {fo : Operand} {xs : Array Operand} {ts : Array TypeId} (hop : o.op = .call ⟨.value fo, xs, ts⟩) (hw : awanted ops.toList T N o = some true) (hok : okOp N o.op = true)
    {f : FuncId} {pf pc : List PV} (hf : aev T fo = .fn (.func f) pf pc) (hgo : goFn P f = true) {args : List PV} (hargs : pf ++ (xs.toList.map fun x => (aev T x).drop1) ++ pc = args) {r : PV} {eff : List (Nat × AObj)} {rd : List Nat}
    (hown : ∀ e ∈ eff, e.1 ∈ rd) (hc : ∀ H' : Heap, (∀ id ∈ rd, H'[id]? = H[id]?) → H'.length = H.length → ACalls P f args H' fun r' H'' => r' = r ∧ H'' = effs H' eff)
    (hap : ∀ p ∈ prev, ((bmasks ops.toList).getD k 0).testBit p.1 = true ∨ ((∀ id ∈ p.2.2, id ∉ rd) ∧ ∀ e' ∈ eff, e'.1 ∉ p.2.1))
    (h : DOps P N ops Q (k + 1) l (prev ++ [(k, rd, eff.map (·.1))]) (updO T o.dst r) (effs H eff)) : DOps P N ops Q k (o :: l) prev T H := by
  refine ⟨r, eff, rd, ?_, hown, hap, h⟩
  intro T' H' hT hHd hlen E a ho hE ht
  refine .inr ⟨awanted_sound ht (wanted_agree hT hw), fun next Q hn => ?_⟩
  have hag := aev_agree hT
  have hall : ∀ x ∈ o.op.operands.toList, okOpnd N x = true := fun x hx => List.all_eq_true.1 hok x hx
  rw [hop] at hall hag
  simp only [Op.operands, Call.operands] at hall hag
  have hr := vrel_eval ht fo (hall fo (by simp))
  rw [hag fo (by simp), hf] at hr
  obtain ⟨first, caps, hval, h1, h2⟩ : ∃ first caps, a.eval fo = .func (.func f) first caps ∧ RL E.view first pf ∧ RL E.view caps pc := by
    generalize a.eval fo = y at hr
    cases hr with
    | fn _ first caps _ _ hf hc hrf hrc => exact ⟨first, caps, rfl, ⟨hf, hrf⟩, ⟨hc, hrc⟩⟩
  have h3 := rl_map ht xs (List.all_eq_true.2 fun x hx => hall x (by simp; right; simpa using hx))
  have e3 : (xs.toList.map fun x => (aev T' x).drop1) = xs.toList.map fun x => (aev T x).drop1 := List.map_congr_left fun x hx => by rw [hag x (by simp; right; simpa using hx)]
  rw [e3] at h3
  have hrl := rl_append' (rl_append' h1 h3) h2
  rw [hargs] at hrl
  have hrun : (execOp a.eval o).run P E.w = .ok (.enter f (first ++ xs.map a.eval ++ caps)) E.w := by
    unfold execOp
    rw [hop]
    simp only [resolve, hval, Deferred.ofValue, Sem.run_bind, Sem.run_pure, Result.andThen_ok, invoke, run_callFunc hgo]
  unfold Oper.wp
  rw [hrun]
  refine (hc H' hHd hlen E _ ho hE hrl).mono ?_
  rintro e w' ⟨E', v, r', rfl, rfl, h5, h6, h7, rfl, h8⟩
  exact hn E' v h5 h6 h8 h7
end
end Go.Abs
namespace Go.Abs
def aseq (P : Program) (N : Nat) (ops : List Oper) : List Oper → Slots → Heap → Option (Slots × Heap)
  | [], T, H => some (T, H)
  | o :: l, T, H => match awanted ops T N o with
    | some true => (aop P false H.length T H o.op).bind fun r => aseq P N ops l (updO T o.dst r.1) (appS H r.2)
    | some false => aseq P N ops l (updO T o.dst .junk) H
    | none => none
section
variable {P : Program} {N nb : Nat} {ops : Array Oper} {Q : Post}
theorem aops_run : ∀ (l l2 : List Oper) (T : Slots) (H : Heap) {T' : Slots} {H' : Heap}, l.all (fun o => okOp N o.op) = true → aseq P N ops.toList l T H = some (T', H') → AOps P N nb ops Q l2 T' H' → AOps P N nb ops Q (l ++ l2) T H
  | [], l2, T, H, T', H', _, hs, h => by cases hs; exact h
  | o :: l, l2, T, H, T', H', hok, hs, h => by
    simp only [List.all_cons, Bool.and_eq_true] at hok
    unfold aseq at hs
    split at hs
    · rename_i hw
      obtain ⟨r, hr, hs⟩ := bind_some hs
      exact aops_op false hw hok.1 hr rfl (aops_run l l2 _ _ hok.2 hs h)
    · rename_i hw
      exact aops_skip hw (aops_run l l2 _ _ hok.2 hs h)
    · cases hs
theorem aops_take (n : Nat) {l : List Oper} {T T' : Slots} {H H' : Heap} (hs : aseq P N ops.toList (l.take n) T H = some (T', H')) (hok : (l.take n).all (fun o => okOp N o.op) = true) (h : AOps P N nb ops Q (l.drop n) T' H') : AOps P N nb ops Q l T H := by
  have := aops_run (l.take n) (l.drop n) T H hok hs h
  rwa [List.take_append_drop] at this
theorem aops_end {l : List Oper} {T T' : Slots} {H H' : Heap} (hs : aseq P N ops.toList l T H = some (T', H')) (hok : l.all (fun o => okOp N o.op) = true) (h : Q .normal T' H') : AOps P N nb ops Q l T H := by
  have := aops_run l [] T H hok hs (aops_nil (nb := nb) (Q := Q) h)
  rwa [List.append_nil] at this
theorem awp_eval {id : Nat} {T T' : Slots} {H H' : Heap} (hs : aseq P N ops.toList ops.toList T H = some (T', H')) (hok : ops.toList.all (fun o => okOp N o.op) = true) (h : Q .normal T' H') : AWP P N nb (.region id ops false) Q T H := by
  refine awp_region ?_
  have := aops_run (nb := nb) ops.toList [] T H hok hs (aops_nil (Q := Q) h)
  rwa [List.append_nil] at this
end
def hapB (bmk : Nat) (prev : Prev) (rd eids : List Nat) : Bool :=
  prev.all fun p => (bmk / 2 ^ p.1 % 2 == 1) || ((p.2.2.all fun id => !rd.contains id) && eids.all fun id => !p.2.1.contains id)
theorem hapB_spec {bmk : Nat} {prev : Prev} {rd : List Nat} {eff : List (Nat × AObj)} (h : hapB bmk prev rd (eff.map (·.1)) = true) :
    ∀ p ∈ prev, bmk.testBit p.1 = true ∨ ((∀ id ∈ p.2.2, id ∉ rd) ∧ ∀ e ∈ eff, e.1 ∉ p.2.1) := by
  intro p hp
  unfold hapB at h
  have e2 : (bmk / 2 ^ p.1 % 2 == 1) = bmk.testBit p.1 := by rw [Nat.testBit_eq_decide_div_mod_eq]; rfl
  have := List.all_eq_true.1 h p hp
  rw [e2] at this
  simp only [Bool.or_eq_true, Bool.and_eq_true, List.all_eq_true, Bool.not_eq_true', List.contains_eq_mem, decide_eq_false_iff_not, List.mem_map] at this
  rcases this with h | ⟨h1, h2⟩
  · exact .inl h
  · exact .inr ⟨h1, fun e he => h2 e.1 ⟨e, he, rfl⟩⟩
def isUnborn (H : Heap) (id : Nat) : Bool := match H[id]? with | some .unborn => true | _ => false
theorem isUnborn_spec {H : Heap} {id : Nat} (h : isUnborn H id = true) : H[id]? = some .unborn := by
  unfold isUnborn at h
  split at h
  · assumption
  · cases h
def effIds (e : Eff) : List Nat := match e with | some (id, _) => [id] | none => []
def effSet (e : Eff) (H : Heap) : Heap := match e with | some (id, o) => H.set id o | none => H
def nextFresh (fresh : Nat) (e : Eff) : Nat := match e with | some (id, _) => if id = fresh then fresh + 1 else fresh | none => fresh
def freshOk (fresh : Nat) (e : Eff) (H : Heap) : Bool := match e with | some (id, _) => if id = fresh then isUnborn H fresh else true | none => true
def dseq (P : Program) (N : Nat) (ops : List Oper) (bm : List Nat) : List Oper → Nat → Nat → Prev → Slots → Heap → Option (Nat × Prev × Slots × Heap)
  | [], _, fresh, prev, T, H => some (fresh, prev, T, H)
  | o :: l, k, fresh, prev, T, H => match awanted ops T N o with
    | some true => (aop P false fresh T H o.op).bind fun r =>
      if freshOk fresh r.2 H = true ∧ hapB (bm.getD k 0) prev (ard T o.op ++ effIds r.2) (effIds r.2) = true then
        dseq P N ops bm l (k + 1) (nextFresh fresh r.2) (prev ++ [(k, ard T o.op ++ effIds r.2, effIds r.2)]) (updO T o.dst r.1) (effSet r.2 H)
      else none
    | some false => dseq P N ops bm l (k + 1) fresh (prev ++ [(k, [], [])]) (updO T o.dst .junk) H
    | none => none
section
variable {P : Program} {N nb : Nat} {ops : Array Oper} {Q : Post}
theorem dops_run : ∀ (l l2 : List Oper) (k fresh : Nat) (prev : Prev) (T : Slots) (H : Heap) {bm : List Nat} {fresh' : Nat} {prev' : Prev} {T' : Slots} {H' : Heap}, bmasks ops.toList = bm → l.all (fun o => okOp N o.op) = true →
    dseq P N ops.toList bm l k fresh prev T H = some (fresh', prev', T', H') → DOps P N ops Q (k + l.length) l2 prev' T' H' → DOps P N ops Q k (l ++ l2) prev T H
  | [], l2, k, fresh, prev, T, H, bm, fresh', prev', T', H', hbm, _, hs, h => by cases hs; exact h
  | o :: l, l2, k, fresh, prev, T, H, bm, fresh', prev', T', H', hbm, hok, hs, h => by
    simp only [List.all_cons, Bool.and_eq_true] at hok
    have h' : DOps P N ops Q (k + 1 + l.length) l2 prev' T' H' := by rw [show k + 1 + l.length = k + (o :: l).length by simp only [List.length_cons]; omega]; exact h
    unfold dseq at hs
    split at hs
    · rename_i hw
      obtain ⟨r, hr, hs⟩ := bind_some hs
      split at hs
      · rename_i hc
        obtain ⟨v, e⟩ := r
        have hids : effIds e = (effL e).map (·.1) := by cases e <;> rfl
        have hset : effSet e H = effs H (effL e) := by cases e <;> rfl
        rw [hids] at hc hs
        rw [hset] at hs
        refine dops_op false fresh hw hok.1 hr (fun ob he => ?_) rfl rfl (hapB_spec (by rw [hbm]; exact hc.2)) (dops_run l l2 (k + 1) _ _ _ _ hbm hok.2 hs h')
        have := hc.1
        subst he
        simp only [freshOk, if_true] at this
        exact isUnborn_spec this
      · cases hs
    · rename_i hw
      exact dops_skip hw (dops_run l l2 (k + 1) _ _ _ _ hbm hok.2 hs h')
    · cases hs
theorem dops_take (n : Nat) {l : List Oper} {k fresh : Nat} {prev prev' : Prev} {T T' : Slots} {H H' : Heap} {bm : List Nat} {fresh' : Nat} (hbm : bmasks ops.toList = bm) (hs : dseq P N ops.toList bm (l.take n) k fresh prev T H = some (fresh', prev', T', H'))
    (hok : (l.take n).all (fun o => okOp N o.op) = true) (hn : (l.take n).length = n) (h : DOps P N ops Q (k + n) (l.drop n) prev' T' H') : DOps P N ops Q k l prev T H := by
  have := dops_run (l.take n) (l.drop n) k fresh prev T H hbm hok hs (by rw [hn]; exact h)
  rwa [List.take_append_drop] at this
theorem dops_end {l : List Oper} {k fresh : Nat} {prev prev' : Prev} {T T' : Slots} {H H' : Heap} {bm : List Nat} {fresh' : Nat} (hbm : bmasks ops.toList = bm) (hs : dseq P N ops.toList bm l k fresh prev T H = some (fresh', prev', T', H'))
    (hok : l.all (fun o => okOp N o.op) = true) (h : Q .normal T' H') : DOps P N ops Q k l prev T H := by
  have := dops_run l [] k fresh prev T H (Q := Q) hbm hok hs (dops_nil h)
  rwa [List.append_nil] at this
def acall (T : Slots) : Op → Option (FuncId × List PV)
  | .call c => match c.callee with
    | .value fo => match aev T fo with
      | .fn (.func f) pf pc => some (f, pf ++ (c.args.toList.map fun x => (aev T x).drop1) ++ pc)
      | _ => none
    | _ => none
  | _ => none
theorem acall_spec {T : Slots} {o : Op} {f : FuncId} {args : List PV} (h : acall T o = some (f, args)) :
    ∃ fo xs ts pf pc, o = .call ⟨.value fo, xs, ts⟩ ∧ aev T fo = .fn (.func f) pf pc ∧ pf ++ (xs.toList.map fun x => (aev T x).drop1) ++ pc = args := by
  unfold acall at h
  split at h
  · rename_i c
    obtain ⟨ca, xs, ts⟩ := c
    simp only at h
    split at h
    · rename_i fo
      split at h
      · rename_i f' pf pc hq
        simp only [Option.some.injEq, Prod.mk.injEq] at h
        obtain ⟨rfl, rfl⟩ := h
        exact ⟨fo, xs, ts, pf, pc, rfl, hq, rfl⟩
      · cases h
    · cases h
  · cases h
theorem aops_acall {o : Oper} {l : List Oper} {T : Slots} {H : Heap} {f : FuncId} {args : List PV} (hcall : acall T o.op = some (f, args)) (hw : awanted ops.toList T N o = some true) (hok : okOp N o.op = true)
    (hgo : goFn P f = true) {R : PV → Heap → Prop} (hc : ACalls P f args H R) (h : ∀ r H', R r H' → AOps P N nb ops Q l (updO T o.dst r) H') : AOps P N nb ops Q (o :: l) T H := by
  obtain ⟨fo, xs, ts, pf, pc, h1, h2, h3⟩ := acall_spec hcall
  exact aops_call h1 hw hok h2 hgo h3 hc h
theorem aops_pure {o : Oper} {l : List Oper} {T : Slots} {H : Heap} {f : FuncId} {args : List PV} {r : PV} (hcall : acall T o.op = some (f, args)) (hw : awanted ops.toList T N o = some true) (hok : okOp N o.op = true)
    (hgo : goFn P f = true) (hc : ACalls P f args H fun r' H'' => r' = r ∧ H'' = H) (h : AOps P N nb ops Q l (updO T o.dst r) H) : AOps P N nb ops Q (o :: l) T H :=
  aops_acall hcall hw hok hgo hc fun r' H' ⟨h1, h2⟩ => by subst h1; subst h2; exact h
theorem awp_for {T : Slots} {H : Heap} (n : Nat) (live : List Nat) (Inv : Nat → Slots → Heap → Prop) {b b1 i1 i2 : Nat} {body : Code} {o1 o2 o3 : Oper} {ti tn tc tt : Nat} {y1 y2 : TypeId}
    (e1 : o1.op = .binOp .lss y1 (.tmp ti) (.tmp tn) y2) (d1 : o1.dst = some tc) (g1 : o1.guard = none)
    (e2 : o2.op = .binOp .add y1 (.tmp ti) (.const (.int .i64 1)) y2) (d2 : o2.dst = some tt) (g2 : o2.guard = none)
    (e3 : o3.op = .move (.tmp tt)) (d3 : o3.dst = some ti) (g3 : o3.guard = none)
    (hbnd : ti < N ∧ tn < N ∧ tc < N ∧ tt < N) (hdis : ti ≠ tn ∧ ti ≠ tc ∧ tn ≠ tc ∧ tn ≠ tt ∧ ti ≠ tt ∧ ti ∉ live ∧ tc ∉ live ∧ tt ∉ live) (hn : n ≤ maxLen) (hb : b ≠ b1)
    (hi0 : T ti = .int .i64 0) (hn0 : T tn = .int .i64 n) (hInv : ∀ i T T2 H, (∀ t ∈ live, T2 t = T t) → Inv i T H → Inv i T2 H) (h0 : Inv 0 T H)
    (hbody : ∀ i T H, i < n → Inv i T H → T ti = .int .i64 i → T tn = .int .i64 n →
      AWP P N nb body (fun e T' H' => match e with
        | .normal => T' ti = .int .i64 i ∧ T' tn = .int .i64 n ∧ ∃ H1 L, H' = H1 ++ L ∧ nb ≤ H1.length ∧ HBel H1.length H1 ∧ (∀ t ∈ live, Bel H1.length (T' t)) ∧ Inv (i + 1) T' H1
        | .exit id => if id = b1 then T' ti = .int .i64 i ∧ T' tn = .int .i64 n ∧ ∃ H1 L, H' = H1 ++ L ∧ nb ≤ H1.length ∧ HBel H1.length H1 ∧ (∀ t ∈ live, Bel H1.length (T' t)) ∧ Inv (i + 1) T' H1
          else if id = b then Q .normal T' H' else Q (.exit id) T' H'
        | e => Q e T' H') T H)
    (hexit : ∀ T H, Inv n T H → Q .normal T H) :
    AWP P N nb (.block b (.loop (.seq (.region i1 #[o1] false) (.seq (.cond (.tmp tc) .skip (.exit b)) (.seq (.block b1 body) (.region i2 #[o2, o3] false)))))) Q T H := by
  obtain ⟨b1', b2', b3', b4'⟩ := hbnd
  obtain ⟨q1, q2, q3, q4, q5, q6, q7, q8⟩ := hdis
  have k1 : okOp N o1.op = true := by
    rw [e1]; show ([Operand.tmp ti, .tmp tn].all (okOpnd N)) = true
    simp only [List.all_cons, List.all_nil, okOpnd, b1', b2', decide_true, Bool.and_self]
  have k2 : okOp N o2.op = true := by
    rw [e2]; show ([Operand.tmp ti, .const (.int .i64 1)].all (okOpnd N)) = true
    simp only [List.all_cons, List.all_nil, okOpnd, b1', decide_true, Bool.and_self]
  have k3 : okOp N o3.op = true := by
    rw [e3]; show ([Operand.tmp tt].all (okOpnd N)) = true
    simp only [List.all_cons, List.all_nil, okOpnd, b4', decide_true, Bool.and_self]
  have em : maxLen = 9223372036854775807 := by decide
  have hwrap : ∀ i : Nat, i < n → IntKind.i64.wrap ((i : Int) + 1) = (i : Int) + 1 := by
    intro i hi
    rw [em] at hn
    simp [IntKind.wrap, IntKind.bits, IntKind.signed]
    omega
  have hend : ∀ (i : Nat), i < n → ∀ (T' : Slots) (H' : Heap), T' ti = .int .i64 i → T' tn = .int .i64 n → (∃ H1 L, H' = H1 ++ L ∧ nb ≤ H1.length ∧ HBel H1.length H1 ∧ (∀ t ∈ live, Bel H1.length (T' t)) ∧ Inv (i + 1) T' H1) →
      AWP P N nb (.region i2 #[o2, o3] false) (thenQ (fun T' H' => ∃ n' H1 L, n' < n - i ∧ H' = H1 ++ L ∧ nb ≤ H1.length ∧ HBel H1.length H1 ∧ (∀ t ∈ ti :: tn :: live, Bel H1.length (T' t)) ∧
        ∃ i' : Nat, n' = n - i' ∧ i' ≤ n ∧ keep (ti :: tn :: live) T' ti = .int .i64 i' ∧ keep (ti :: tn :: live) T' tn = .int .i64 n ∧ Inv i' (keep (ti :: tn :: live) T') H1) (blockQ b Q)) T' H' := by
    intro i hi T' H' h1 h2 h3
    refine awp_eval (T' := upd (upd T' tt (.int .i64 ((i : Int) + 1))) ti (.int .i64 ((i : Int) + 1))) (H' := H') ?_ ?_ ?_
    · simp only [aseq, awanted, g2, g3, e2, e3, d2, d3, aop, aev, h1, ofConst, abin, if_true, Option.bind_some, ajust, updO, appS, hwrap i hi]
      have : upd T' tt (.int .i64 ((i : Int) + 1)) tt = .int .i64 ((i : Int) + 1) := if_pos rfl
      simp only [this]
    · simp only [List.all_cons, List.all_nil, k2, k3, Bool.and_self]
    · obtain ⟨H1, L, h4, h5, h6, h7, h8⟩ := h3
      have hti : upd (upd T' tt (.int .i64 ((i : Int) + 1))) ti (.int .i64 ((i : Int) + 1)) ti = .int .i64 ((i : Int) + 1) := if_pos rfl
      have htn : upd (upd T' tt (.int .i64 ((i : Int) + 1))) ti (.int .i64 ((i : Int) + 1)) tn = .int .i64 n := by
        unfold upd; rw [if_neg (fun e => q1 e.symm), if_neg q4]; exact h2
      have hlv : ∀ t ∈ live, upd (upd T' tt (.int .i64 ((i : Int) + 1))) ti (.int .i64 ((i : Int) + 1)) t = T' t := by
        intro t ht
        unfold upd; rw [if_neg (by rintro rfl; exact q6 ht), if_neg (by rintro rfl; exact q8 ht)]
      refine ⟨n - (i + 1), H1, L, by omega, h4, h5, h6, ?_, i + 1, rfl, by omega, ?_, ?_, ?_⟩
      · intro t ht
        rcases List.mem_cons.1 ht with rfl | ht
        · rw [hti]; exact .int _ _
        · rcases List.mem_cons.1 ht with rfl | ht
          · rw [htn]; exact .int _ _
          · rw [hlv t ht]; exact h7 t ht
      · unfold keep; rw [if_pos (by simp), hti]; rfl
      · unfold keep; rw [if_pos (by simp), htn]
      · refine hInv _ T' _ _ (fun t ht => ?_) h8
        unfold keep; rw [if_pos (by simp [ht]), hlv t ht]
  refine awp_block (awp_loop (ti :: tn :: live) (fun k T H => ∃ i : Nat, k = n - i ∧ i ≤ n ∧ T ti = .int .i64 i ∧ T tn = .int .i64 n ∧ Inv i T H) n ⟨0, rfl, Nat.zero_le _, hi0, hn0, h0⟩ ?_)
  rintro k T H ⟨i, rfl, hin, h1, h2, h3⟩
  refine awp_seq (awp_eval (T' := upd T tc (.bool (decide ((i : Int) < n)))) (H' := H) ?_ ?_ ?_)
  · simp only [aseq, awanted, g1, e1, d1, aop, aev, h1, h2, abin, if_true, Option.bind_some, ajust, updO, appS]
  · simp only [List.all_cons, List.all_nil, k1, Bool.and_self]
  · have htc : upd T tc (.bool (decide ((i : Int) < n))) tc = .bool (decide ((i : Int) < n)) := if_pos rfl
    have hti : upd T tc (.bool (decide ((i : Int) < n))) ti = .int .i64 i := by unfold upd; rw [if_neg q2]; exact h1
    have htn : upd T tc (.bool (decide ((i : Int) < n))) tn = .int .i64 n := by unfold upd; rw [if_neg q3]; exact h2
    have hiv : Inv i (upd T tc (.bool (decide ((i : Int) < n)))) H := hInv i T _ H (fun t ht => by unfold upd; rw [if_neg (by rintro rfl; exact q7 ht)]) h3
    refine awp_seq (awp_cond (b := decide ((i : Int) < n)) (by simpa [okOpnd] using b3') htc (fun hb' => ?_) (fun hb' => ?_))
    · have hlt : i < n := by have := of_decide_eq_true hb'; omega
      refine awp_skip ?_
      refine awp_seq (awp_block (AWP.mono (hbody i _ H hlt hiv hti htn) ?_))
      intro e T' H' he
      cases e with
      | normal => exact hend i hlt T' H' he.1 he.2.1 he.2.2
      | exit id =>
        simp only at he
        simp only [blockQ]
        split at he
        · rename_i hid
          rw [if_pos hid]
          exact hend i hlt T' H' he.1 he.2.1 he.2.2
        · rename_i hid
          rw [if_neg hid]
          simp only [thenQ, blockQ]
          split at he
          · rename_i hid2; rw [if_pos hid2]; exact he
          · rename_i hid2; rw [if_neg hid2]; exact he
      | _ => exact he
    · have hge : i = n := by have := of_decide_eq_false hb'; omega
      subst hge
      refine awp_exit ?_
      simp only [thenQ, blockQ, if_true]
      exact hexit _ _ hiv
end
theorem hbel_nil (n : Nat) : HBel n [] := fun o h => by cases h
theorem HBel.cons {n : Nat} {o : AObj} {H : Heap} (h1 : OBel n o) (h2 : HBel n H) : HBel n (o :: H) := fun x hx => by
  rcases List.mem_cons.1 hx with rfl | hx
  · exact h1
  · exact h2 x hx
theorem upd_apply (T : Slots) (d i : Nat) (v : PV) : upd T d v i = if i = d then v else T i := rfl
theorem updO_some (T : Slots) (d : Nat) (v : PV) : updO T (some d) v = upd T d v := rfl
theorem updO_none (T : Slots) (v : PV) : updO T none v = T := rfl
theorem aev_tmp (T : Slots) (t : Nat) : aev T (.tmp t) = T t := rfl
theorem aev_const (T : Slots) (v : Value) : aev T (.const v) = ofConst v := rfl
theorem aev_func (T : Slots) (f : FuncId) : aev T (.func f) = .fn (.func f) [] [] := rfl
theorem enter_apply (args : List PV) (i : Nat) : enter args i = args.getD i .junk := rfl
theorem keep_apply (l : List Nat) (T : Slots) (i : Nat) : keep l T i = if i ∈ l then T i else .junk := rfl
theorem appS_none (H : Heap) : appS H none = H := rfl
theorem appS_some (H : Heap) (id : Nat) (o : AObj) : appS H (some (id, o)) = if id = H.length then H ++ [o] else H.set id o := rfl
theorem bq_ft : (false == true) = false := rfl
theorem bq_tf : (true == false) = false := rfl
theorem cells_agg (cs : List PV) : (PV.agg cs).cells = cs := rfl
theorem cells_int (k : IntKind) (n : Int) : (PV.int k n).cells = [.int k n] := rfl
theorem cells_bool (b : Bool) : (PV.bool b).cells = [.bool b] := rfl
theorem cells_str (s : List UInt8) : (PV.str s).cells = [.str s] := rfl
theorem cells_slice (es : List PV) (tl : Tail) : (PV.slice es tl).cells = [.slice es tl] := rfl
theorem cells_optr (i o : Nat) : (PV.optr i o).cells = [.optr i o] := rfl
theorem cells_iptr (cs : List PV) : (PV.iptr cs).cells = [.iptr cs] := rfl
theorem cells_nilp : PV.nilp.cells = [.nilp] := rfl
theorem cells_fn (f : Fn) (a b : List PV) : (PV.fn f a b).cells = [.fn f a b] := rfl
theorem cells_msl (a b c d : Nat) : (PV.msl a b c d).cells = [.msl a b c d] := rfl
theorem junk_agg (cs : List PV) : (PV.agg cs).isJunk = false := rfl
theorem junk_int (k : IntKind) (n : Int) : (PV.int k n).isJunk = false := rfl
theorem junk_bool (b : Bool) : (PV.bool b).isJunk = false := rfl
theorem junk_str (s : List UInt8) : (PV.str s).isJunk = false := rfl
theorem junk_slice (es : List PV) (tl : Tail) : (PV.slice es tl).isJunk = false := rfl
theorem junk_optr (i o : Nat) : (PV.optr i o).isJunk = false := rfl
theorem junk_iptr (cs : List PV) : (PV.iptr cs).isJunk = false := rfl
theorem junk_nilp : PV.nilp.isJunk = false := rfl
theorem junk_fn (f : Fn) (a b : List PV) : (PV.fn f a b).isJunk = false := rfl
theorem junk_msl (a b c d : Nat) : (PV.msl a b c d).isJunk = false := rfl
theorem isc_int (k : IntKind) (n : Int) : (PV.int k n).isCell = true := rfl
theorem isc_bool (b : Bool) : (PV.bool b).isCell = true := rfl
theorem isc_str (s : List UInt8) : (PV.str s).isCell = true := rfl
theorem isc_slice (es : List PV) (tl : Tail) : (PV.slice es tl).isCell = true := rfl
theorem isc_optr (i o : Nat) : (PV.optr i o).isCell = true := rfl
theorem isc_iptr (cs : List PV) : (PV.iptr cs).isCell = true := rfl
theorem isc_nilp : PV.nilp.isCell = true := rfl
theorem isc_fn (f : Fn) (a b : List PV) : (PV.fn f a b).isCell = true := rfl
theorem isc_msl (a b c d : Nat) : (PV.msl a b c d).isCell = true := rfl
theorem d1_agg (cs : List PV) : (PV.agg cs).drop1 = .agg (cs.map PV.drop0) := rfl
theorem d1_int (k : IntKind) (n : Int) : (PV.int k n).drop1 = .int k n := rfl
theorem d1_bool (b : Bool) : (PV.bool b).drop1 = .bool b := rfl
theorem d1_str (s : List UInt8) : (PV.str s).drop1 = .str s := rfl
theorem d1_slice (es : List PV) (tl : Tail) : (PV.slice es tl).drop1 = .slice es .none := rfl
theorem d1_optr (i o : Nat) : (PV.optr i o).drop1 = .optr i o := rfl
theorem d1_iptr (cs : List PV) : (PV.iptr cs).drop1 = .iptr cs := rfl
theorem d1_nilp : PV.nilp.drop1 = .nilp := rfl
theorem d1_fn (f : Fn) (a b : List PV) : (PV.fn f a b).drop1 = .fn f a b := rfl
theorem d1_msl (a b c d : Nat) : (PV.msl a b c d).drop1 = .msl a b c d := rfl
theorem d0_int (k : IntKind) (n : Int) : (PV.int k n).drop0 = .int k n := rfl
theorem d0_bool (b : Bool) : (PV.bool b).drop0 = .bool b := rfl
theorem d0_str (s : List UInt8) : (PV.str s).drop0 = .str s := rfl
theorem d0_slice (es : List PV) (tl : Tail) : (PV.slice es tl).drop0 = .slice es .none := rfl
theorem d0_optr (i o : Nat) : (PV.optr i o).drop0 = .optr i o := rfl
theorem d0_iptr (cs : List PV) : (PV.iptr cs).drop0 = .iptr cs := rfl
theorem d0_nilp : PV.nilp.drop0 = .nilp := rfl
theorem d0_fn (f : Fn) (a b : List PV) : (PV.fn f a b).drop0 = .fn f a b := rfl
theorem fit_agg (cs : List PV) (n b : Nat) : (PV.agg cs).fits ⟨true, n, b⟩ = decide (cs.length = n) := by unfold PV.fits; exact Bool.and_true _
theorem fit_int (k : IntKind) (i : Int) (b : Nat) : (PV.int k i).fits ⟨false, 1, b⟩ = true := rfl
theorem fit_bool (x : Bool) (b : Nat) : (PV.bool x).fits ⟨false, 1, b⟩ = true := rfl
theorem fit_str (s : List UInt8) (b : Nat) : (PV.str s).fits ⟨false, 1, b⟩ = true := rfl
theorem fit_slice (es : List PV) (tl : Tail) (b : Nat) : (PV.slice es tl).fits ⟨false, 1, b⟩ = true := rfl
theorem fit_optr (i o : Nat) (b : Nat) : (PV.optr i o).fits ⟨false, 1, b⟩ = true := rfl
theorem fit_nilp (b : Nat) : (PV.nilp).fits ⟨false, 1, b⟩ = true := rfl
theorem ofConst_bool (b : Bool) : ofConst (.bool b) = .bool b := rfl
theorem ofConst_int (k : IntKind) (n : Int) : ofConst (.int k n) = .int k n := rfl
theorem ofConst_str (s : ByteArray) : ofConst (.string s) = .str s.data.toList := rfl
theorem ofConst_nilp : ofConst (.pointer none) = .nilp := rfl
theorem ofConst_nils : ofConst (.slice none 0 0) = .slice [] .full := rfl
theorem SS : (∀ (T : Slots) (d i : Nat) (v : PV), upd T d v i = if i = d then v else T i) ∧
    (∀ (T : Slots) (d : Nat) (v : PV), updO T (some d) v = upd T d v) ∧
    (∀ (T : Slots) (v : PV), updO T none v = T) ∧
    (∀ (T : Slots) (t : Nat), aev T (.tmp t) = T t) ∧
    (∀ (T : Slots) (v : Value), aev T (.const v) = ofConst v) ∧
    (∀ (T : Slots) (f : FuncId), aev T (.func f) = .fn (.func f) [] []) ∧
    (∀ (args : List PV) (i : Nat), enter args i = args.getD i .junk) ∧
    (∀ (l : List Nat) (T : Slots) (i : Nat), keep l T i = if i ∈ l then T i else .junk) ∧
    (∀ (H : Heap), appS H none = H) ∧
    (∀ (H : Heap) (id : Nat) (o : AObj), appS H (some (id, o)) = if id = H.length then H ++ [o] else H.set id o) ∧
    ((false == true) = false) ∧
    ((true == false) = false) ∧
    (∀ (cs : List PV), (PV.agg cs).cells = cs) ∧
    (∀ (k : IntKind) (n : Int), (PV.int k n).cells = [.int k n]) ∧
    (∀ (b : Bool), (PV.bool b).cells = [.bool b]) ∧
    (∀ (s : List UInt8), (PV.str s).cells = [.str s]) ∧
    (∀ (es : List PV) (tl : Tail), (PV.slice es tl).cells = [.slice es tl]) ∧
    (∀ (i o : Nat), (PV.optr i o).cells = [.optr i o]) ∧
    (∀ (cs : List PV), (PV.iptr cs).cells = [.iptr cs]) ∧
    (PV.nilp.cells = [.nilp]) ∧
    (∀ (f : Fn) (a b : List PV), (PV.fn f a b).cells = [.fn f a b]) ∧
    (∀ (a b c d : Nat), (PV.msl a b c d).cells = [.msl a b c d]) ∧
    (∀ (cs : List PV), (PV.agg cs).isJunk = false) ∧
    (∀ (k : IntKind) (n : Int), (PV.int k n).isJunk = false) ∧
    (∀ (b : Bool), (PV.bool b).isJunk = false) ∧
    (∀ (s : List UInt8), (PV.str s).isJunk = false) ∧
    (∀ (es : List PV) (tl : Tail), (PV.slice es tl).isJunk = false) ∧
    (∀ (i o : Nat), (PV.optr i o).isJunk = false) ∧
    (∀ (cs : List PV), (PV.iptr cs).isJunk = false) ∧
    (PV.nilp.isJunk = false) ∧
    (∀ (f : Fn) (a b : List PV), (PV.fn f a b).isJunk = false) ∧
    (∀ (a b c d : Nat), (PV.msl a b c d).isJunk = false) ∧
    (∀ (k : IntKind) (n : Int), (PV.int k n).isCell = true) ∧
    (∀ (b : Bool), (PV.bool b).isCell = true) ∧
    (∀ (s : List UInt8), (PV.str s).isCell = true) ∧
    (∀ (es : List PV) (tl : Tail), (PV.slice es tl).isCell = true) ∧
    (∀ (i o : Nat), (PV.optr i o).isCell = true) ∧
    (∀ (cs : List PV), (PV.iptr cs).isCell = true) ∧
    (PV.nilp.isCell = true) ∧
    (∀ (f : Fn) (a b : List PV), (PV.fn f a b).isCell = true) ∧
    (∀ (a b c d : Nat), (PV.msl a b c d).isCell = true) ∧
    (∀ (cs : List PV), (PV.agg cs).drop1 = .agg (cs.map PV.drop0)) ∧
    (∀ (k : IntKind) (n : Int), (PV.int k n).drop1 = .int k n) ∧
    (∀ (b : Bool), (PV.bool b).drop1 = .bool b) ∧
    (∀ (s : List UInt8), (PV.str s).drop1 = .str s) ∧
    (∀ (es : List PV) (tl : Tail), (PV.slice es tl).drop1 = .slice es .none) ∧
    (∀ (i o : Nat), (PV.optr i o).drop1 = .optr i o) ∧
    (∀ (cs : List PV), (PV.iptr cs).drop1 = .iptr cs) ∧
    (PV.nilp.drop1 = .nilp) ∧
    (∀ (f : Fn) (a b : List PV), (PV.fn f a b).drop1 = .fn f a b) ∧
    (∀ (a b c d : Nat), (PV.msl a b c d).drop1 = .msl a b c d) ∧
    (∀ (k : IntKind) (n : Int), (PV.int k n).drop0 = .int k n) ∧
    (∀ (b : Bool), (PV.bool b).drop0 = .bool b) ∧
    (∀ (s : List UInt8), (PV.str s).drop0 = .str s) ∧
    (∀ (es : List PV) (tl : Tail), (PV.slice es tl).drop0 = .slice es .none) ∧
    (∀ (i o : Nat), (PV.optr i o).drop0 = .optr i o) ∧
    (∀ (cs : List PV), (PV.iptr cs).drop0 = .iptr cs) ∧
    (PV.nilp.drop0 = .nilp) ∧
    (∀ (f : Fn) (a b : List PV), (PV.fn f a b).drop0 = .fn f a b) ∧
    (∀ (cs : List PV) (n b : Nat), (PV.agg cs).fits ⟨true, n, b⟩ = decide (cs.length = n)) ∧
    (∀ (k : IntKind) (i : Int) (b : Nat), (PV.int k i).fits ⟨false, 1, b⟩ = true) ∧
    (∀ (x : Bool) (b : Nat), (PV.bool x).fits ⟨false, 1, b⟩ = true) ∧
    (∀ (s : List UInt8) (b : Nat), (PV.str s).fits ⟨false, 1, b⟩ = true) ∧
    (∀ (es : List PV) (tl : Tail) (b : Nat), (PV.slice es tl).fits ⟨false, 1, b⟩ = true) ∧
    (∀ (i o : Nat) (b : Nat), (PV.optr i o).fits ⟨false, 1, b⟩ = true) ∧
    (∀ (b : Nat), (PV.nilp).fits ⟨false, 1, b⟩ = true) ∧
    (∀ (b : Bool), ofConst (.bool b) = .bool b) ∧
    (∀ (k : IntKind) (n : Int), ofConst (.int k n) = .int k n) ∧
    (∀ (s : ByteArray), ofConst (.string s) = .str s.data.toList) ∧
    (ofConst (.pointer none) = .nilp) ∧
    (ofConst (.slice none 0 0) = .slice [] .full) :=
  ⟨upd_apply, updO_some, updO_none, aev_tmp, aev_const, aev_func, enter_apply, keep_apply, appS_none, appS_some, bq_ft, bq_tf, cells_agg, cells_int, cells_bool, cells_str, cells_slice, cells_optr, cells_iptr, cells_nilp, cells_fn, cells_msl, junk_agg, junk_int, junk_bool, junk_str, junk_slice, junk_optr, junk_iptr, junk_nilp, junk_fn, junk_msl, isc_int, isc_bool, isc_str, isc_slice, isc_optr, isc_iptr, isc_nilp, isc_fn, isc_msl, d1_agg, d1_int, d1_bool, d1_str, d1_slice, d1_optr, d1_iptr, d1_nilp, d1_fn, d1_msl, d0_int, d0_bool, d0_str, d0_slice, d0_optr, d0_iptr, d0_nilp, d0_fn, fit_agg, fit_int, fit_bool, fit_str, fit_slice, fit_optr, fit_nilp, ofConst_bool, ofConst_int, ofConst_str, ofConst_nilp, ofConst_nils⟩
end Go.Abs
namespace Go.Abs
theorem VRel.retok {V : View} {v : Value} {es : List PV} {id : Nat} (hes : es = []) (h : VRel V v (.slice es .full)) (hb : V.born id) (ht : ∀ t, V.tok id = some t → es.length ≤ t.n) : VRel V v (.slice es (.tok id)) := by
  cases h with
  | nils _ h0 => exact .nils _ ⟨hb, fun t e => ⟨Nat.zero_le _, fun _ => .inl ⟨rfl, fun h => absurd h (by simp)⟩⟩⟩
  | slice a len cap sz _ _ vs hlen hcap hmax hsz hc hr h0 =>
    subst hlen
    exact .slice _ _ _ _ _ _ vs rfl hcap hmax hsz hc hr ⟨hb, fun t e => ⟨ht t e, fun _ => .inl ⟨h0, fun h => by rw [hes] at h; exact absurd h (by simp)⟩⟩⟩
section
variable {P : Program} {N nb : Nat} {Q : Post}
def PC (P : Program) (f : FuncId) (args : List PV) (r : PV) : Prop := ∀ H, ACalls P f args H fun r' H' => r' = r ∧ H' = H
theorem pc_of {f : FuncId} {fn : Func} {c : Code} {args : List PV} {r : PV} (hf : P.funcs[f]? = some fn) (hb : fn.body = some c) (hN : fn.ntmps = N) (hl : args.length ≤ N) (ha : ∀ p ∈ args, Bel 0 p) (hr : Bel 0 r)
    (h : AWP P N 0 c (fun e T H => (e = .normal ∨ e = .ret) ∧ ∃ r', aresults P N T H fn.results.toList = some r' ∧ r'.drop1 = r) (enter args) []) : PC P f args r :=
  ACalls.pure (acalls_of hf hb hN hl fun _ => h) ha hr
theorem keeps_of {f : FuncId} {fn : Func} {c : Code} {args : List PV} {r : PV} {H : Heap} (hf : P.funcs[f]? = some fn) (hb : fn.body = some c) (hN : fn.ntmps = N) (hl : args.length ≤ N) (hr : Bel H.length r)
    (h : HBel H.length H → AWP P N H.length c (fun e T H' => (e = .normal ∨ e = .ret) ∧ ∃ r' L, aresults P N T H' fn.results.toList = some r' ∧ r'.drop1 = r ∧ H' = H ++ L) (enter args) H) : ACalls P f args H fun r' H' => r' = r ∧ H' = H := by
  have h1 : ACalls P f args H fun r' H' => ∃ L, r'.drop1 = r ∧ H' = H ++ L :=
    (acalls_of hf hb hN hl fun hh => (h hh).mono fun e T H' ⟨he, r', L, h1, h2, h3⟩ => ⟨he, r', h1, L, h2, h3⟩)
  have h2 : ACalls P f args H fun r' H' => ∃ L, r' = r ∧ H' = H ++ L := by
    intro E vargs ho hH hrl
    refine (h1 E vargs ho hH hrl).mono ?_
    rintro e w' ⟨E', v, r', e1, e2, e3, e4, e5, L, e6, e7⟩
    exact ⟨E', v, r'.drop1, e1, e2, e3, e4, e5.drop1, L, e6, e7⟩
  refine ACalls.trunc (h2.mono ?_)
  rintro r' H' ⟨L, rfl, rfl⟩
  exact ⟨H, L, rfl, rfl, id, hr, rfl, rfl⟩
theorem get_app (H L : Heap) (k : Nat) : (H ++ L)[H.length + k]? = L[k]? := by rw [List.getElem?_append_right (by omega)]; congr 1; omega
theorem get_app0 (H L : Heap) : (H ++ L)[H.length]? = L[0]? := by rw [List.getElem?_append_right (Nat.le_refl _)]; simp
theorem set_app (H L : Heap) (k : Nat) (o : AObj) : (H ++ L).set (H.length + k) o = H ++ L.set k o := by rw [List.set_append_right _ _ (by omega)]; congr 2; omega
theorem set_app0 (H L : Heap) (o : AObj) : (H ++ L).set H.length o = H ++ L.set 0 o := by rw [List.set_append_right _ _ (Nat.le_refl _)]; simp
theorem eq_add0 (n k : Nat) : (n = n + k) = (k = 0) := by simp
theorem add_eq0 (n k : Nat) : (n + k = n) = (k = 0) := by simp
theorem add_eq_add (n k m : Nat) : (n + k = n + m) = (k = m) := by simp
theorem beq_add0 (n k : Nat) : (n == n + k) = decide (k = 0) := by rw [Bool.eq_iff_iff]; simp
theorem add_beq0 (n k : Nat) : (n + k == n) = decide (k = 0) := by rw [Bool.eq_iff_iff]; simp
theorem add_beq_add (n k m : Nat) : (n + k == n + m) = decide (k = m) := by rw [Bool.eq_iff_iff]; simp
theorem eq_self' {α : Type} (a : α) : (a = a) = True := by simp
theorem HS : (∀ (H L : Heap) (k : Nat), (H ++ L)[H.length + k]? = L[k]?) ∧ (∀ (H L : Heap), (H ++ L)[H.length]? = L[0]?) ∧ (∀ (H L : Heap) (k : Nat) (o : AObj), (H ++ L).set (H.length + k) o = H ++ L.set k o) ∧
    (∀ (H L : Heap) (o : AObj), (H ++ L).set H.length o = H ++ L.set 0 o) ∧ (∀ (n k : Nat), (n = n + k) = (k = 0)) ∧ (∀ (n k : Nat), (n + k = n) = (k = 0)) ∧ (∀ (n k m : Nat), (n + k = n + m) = (k = m)) ∧
    (∀ (n k : Nat), (n == n + k) = decide (k = 0)) ∧ (∀ (n k : Nat), (n + k == n) = decide (k = 0)) ∧ (∀ (n k m : Nat), (n + k == n + m) = decide (k = m)) :=
  ⟨get_app, get_app0, set_app, set_app0, eq_add0, add_eq0, add_eq_add, beq_add0, add_beq0, add_beq_add⟩
end
end Go.Abs
namespace Go.Abs
def acallR (T : Slots) : Op → Option (FuncId × List PV)
  | .call c => match c.callee with
    | .value fo => match aev T fo with
      | .fn (.func f) pf pc => some (f, pf ++ (c.args.toList.map fun x => aev T x) ++ pc)
      | _ => none
    | _ => none
  | _ => none
section
variable {P : Program} {N nb : Nat} {Q : Post} {T : Slots} {H : Heap}
theorem dops_keep {ops : Array Oper} {bm : List Nat} {k : Nat} {o : Oper} {l : List Oper} {prev : Prev} {f : FuncId} {args : List PV} {r : PV} (rd : List Nat) (hbm : bmasks ops.toList = bm) (hcall : acall T o.op = some (f, args)) (hw : awanted ops.toList T N o = some true) (hok : okOp N o.op = true)
    (hgo : goFn P f = true) (hc : ∀ H' : Heap, (∀ id ∈ rd, H'[id]? = H[id]?) → ACalls P f args H' fun r' H'' => r' = r ∧ H'' = H')
    (hap : hapB (bm.getD k 0) prev rd [] = true) (h : DOps P N ops Q (k + 1) l (prev ++ [(k, rd, [])]) (updO T o.dst r) H) : DOps P N ops Q k (o :: l) prev T H := by
  obtain ⟨fo, xs, ts, pf, pc, h1, h2, h3⟩ := acall_spec hcall
  exact dops_call (eff := []) (rd := rd) h1 hw hok h2 hgo h3 (by simp) (fun H' hH _ => hc H' hH) (hapB_spec (eff := []) (by rw [hbm]; exact hap)) h
end
end Go.Abs
namespace Go.Abs
theorem ares_cell {P : Program} {N : Nat} {T : Slots} {H : Heap} {rs : List ResultVar} (t : Nat) (ty : TypeId) {i : TI} {r : PV} (hrs : rs = [.cell t ty]) (hi : tinfo P ty = some i) (ht : t < N) (h : aload i H (T t) = some r) : aresults P N T H rs = some r := by
  subst hrs
  simp only [aresults, ares1, if_pos ht, hi, Option.bind_some]
  exact h
end Go.Abs
namespace Go.Abs
theorem aappend_tok1 {i : TI} {fresh : Nat} {H : Heap} {es : List PV} {x : PV} {id n : Nat} {tl : Tail} (hH : H[id]? = some (.buf n i.sz)) (hn : n = es.length) (hb : (es.length + 1) * i.bytes ≤ 2 ^ 47) (hm : es.length + 1 ≤ maxLen)
    (hes : ∀ e ∈ es, e.cells.length = i.sz) (hx : x.cells.length = i.sz) (hx' : x.cells.all PV.isCell = true) (hs : 0 < i.sz) :
    aappend i fresh H (.slice es (.tok id)) (.slice [x] tl) = some (.slice (es ++ [x]) (.tok id), some (id, .buf (es.length + 1) i.sz)) := by
  unfold aappend
  simp only [List.cons_ne_self, if_false, List.length_cons, List.length_nil, Nat.zero_add, reduceCtorEq]
  rw [if_pos ⟨hb, hm, hes, fun e he => by rw [List.mem_singleton] at he; subst he; exact ⟨hx, hx'⟩, hs⟩]
  simp only [hH]
  simp only [hn, and_self, if_true]
end Go.Abs
namespace Go.Abs
def msk (u : PV) (T : Slots) (G : Nat → Bool) : Slots := fun i => if G i then T i else u
def ug (G : Nat → Bool) (d : Nat) (c : Bool) : Nat → Bool := fun i => if i = d then c else G i
def ugO (G : Nat → Bool) (d : Option Nat) (c : Bool) : Nat → Bool := match d with | some d => ug G d c | none => G
def allG : Nat → Bool := fun _ => true
def gOk (c : Bool) (G : Nat → Bool) : Operand → Bool
  | .tmp t => !c || G t
  | _ => true
def gcond (ops : List Oper) (T : Slots) (G : Nat → Bool) (N : Nat) (o : Oper) : Option Bool :=
  match o.guard with
  | none => some true
  | some (j, want) => match (ops[j]?).bind (·.dst) with
    | some d => if d < N then match T d with
      | .bool b => some (G d && (b == want))
      | _ => none
      else none
    | none => none
def pk (c : Bool) (a b : PV) : PV := if c then a else b
def gop (P : Program) (fresh : Nat) (c : Bool) (T : Slots) (G : Nat → Bool) (H : Heap) : Op → Option (PV × Eff)
  | .pick x a b => match aev T x with
    | .bool p => if gOk c G x = true ∧ gOk (c && p) G a = true ∧ gOk (c && !p) G b = true then some (pk p (aev T a) (aev T b), none) else none
    | _ => none
  | o => if o.operands.toList.all (gOk c G) = true then (aop P false fresh T H o).bind fun r => match r.2 with
    | none => some r
    | some e => if c = true then some r else none
    else none
theorem aev_msk {u : PV} {T : Slots} {G : Nat → Bool} {x : Operand} (h : gOk true G x = true) : aev (msk u T G) x = aev T x := by
  cases x with
  | tmp t => simp only [gOk, Bool.not_true, Bool.false_or] at h; simp only [aev, msk, h, if_true]
  | _ => rfl
theorem gop_true {P : Program} {fresh : Nat} {u : PV} {T : Slots} {G : Nat → Bool} {H : Heap} {o : Op} {r : PV × Eff} (h : gop P fresh true T G H o = some r) : aop P false fresh (msk u T G) H o = some r := by
  cases o with
  | pick x a b =>
    simp only [gop] at h
    split at h
    · rename_i p hp
      split at h
      · rename_i hg
        obtain ⟨h1, h2, h3⟩ := hg
        cases h
        simp only [aop, aev_msk h1, hp]
        cases p
        · simp only [Bool.not_false, Bool.and_true] at h3
          simp only [pk, aev_msk h3, Bool.false_eq_true, if_false]
        · simp only [Bool.and_true] at h2
          simp only [pk, aev_msk h2, if_true]
      · cases h
    · cases h
  | _ =>
    simp only [gop] at h
    split at h
    · rename_i hall
      obtain ⟨q, hq, h⟩ := bind_some h
      rw [aop_congr (T := T) (fun x hx => aev_msk (List.all_eq_true.1 hall x hx)), hq]
      split at h
      · exact h
      · simpa using h
    · cases h
theorem gop_false {P : Program} {fresh : Nat} {T : Slots} {G : Nat → Bool} {H : Heap} {o : Op} {r : PV × Eff} (h : gop P fresh false T G H o = some r) : r.2 = none := by
  cases o with
  | pick x a b =>
    simp only [gop] at h
    split at h
    · split at h
      · cases h; rfl
      · cases h
    · cases h
  | _ =>
    simp only [gop] at h
    split at h
    · obtain ⟨q, hq, h⟩ := bind_some h
      split at h
      · cases h; assumption
      · simp at h
    · cases h
theorem msk_put_true (u : PV) (T : Slots) (G : Nat → Bool) (d : Option Nat) (v : PV) : msk u (updO T d v) (ugO G d true) = updO (msk u T G) d v := by
  cases d with
  | none => rfl
  | some d =>
    funext i
    simp only [msk, updO, upd, ugO, ug]
    split <;> simp
theorem msk_put_false (u : PV) (T : Slots) (G : Nat → Bool) (d : Option Nat) (v : PV) : msk u (updO T d v) (ugO G d false) = updO (msk u T G) d u := by
  cases d with
  | none => rfl
  | some d =>
    funext i
    simp only [msk, updO, upd, ugO, ug]
    split <;> simp
section
variable {P : Program} {N nb : Nat} {ops : Array Oper} {Q : Post}
theorem gcond_sound {ops : List Oper} {o : Oper} {b : Bool} {T : Slots} {G : Nat → Bool} (h : gcond ops T G N o = some b) :
    (b = true → ∀ u, awanted ops (msk u T G) N o = some true) ∧
    (b = false → awanted ops (msk .junk T G) N o = some false ∨ True) := by
  refine ⟨fun hb u => ?_, fun _ => .inr trivial⟩
  subst hb
  unfold gcond at h
  unfold awanted
  split at h
  · rename_i hg; simp only [hg]
  · rename_i j want hg
    try simp only [hg]
    split at h
    · rename_i d hd
      split at h
      · rename_i hdN
        split at h
        · rename_i q hq
          simp only [Option.some.injEq, Bool.and_eq_true] at h
          simp only [hd, hdN, if_true, msk, h.1, hq, h.2]
        · cases h
      · cases h
    · cases h
theorem gcond_false' {ops : Array Oper} {o : Oper} {V : View} {a : Act} {T T' : Slots} {G : Nat → Bool} (ht : TRel V N a T') (hT : ∀ j want d, o.guard = some (j, want) → (ops.toList[j]?).bind (·.dst) = some d → T' d = msk (.tup []) T G d) (h : gcond ops.toList T G N o = some false) : Region.wanted o (yielded ops a.tmps) = false := by
  unfold gcond at h
  unfold Region.wanted
  split at h
  · cases h
  · rename_i j want hg
    simp only [hg]
    split at h
    · rename_i d hd
      split at h
      · rename_i hdN
        split at h
        · rename_i q hq
          simp only [Option.some.injEq] at h
          have hr := ht.rel d hdN
          rw [hT j want d hg hd] at hr
          simp only [msk] at hr
          have hy : ∀ v, a.tmps.getD d undef = v → yielded ops a.tmps j = (match v with | .bool b => some b | _ => none) := by
            intro v hv
            unfold yielded
            rw [Array.getElem?_toList] at hd
            rw [hd]
            simp only [Option.bind_some]
            rw [Array.getD_eq_getD_getElem?, Array.getElem?_eq_getElem (by rw [ht.size]; exact hdN), Option.getD_some] at hv
            rw [Array.getElem?_eq_getElem (by rw [ht.size]; exact hdN), hv]
            cases v <;> rfl
          cases hG : G d
          · rw [hG] at hr
            simp only [Bool.false_eq_true, if_false] at hr
            obtain ⟨arr, e1, _⟩ := hr.tup_inv
            rw [hy _ e1]; rfl
          · rw [hG] at hr h
            simp only [if_true, hq] at hr
            rw [hy _ hr.bool_inv]
            simp only [Bool.true_and] at h
            show (some q == some want) = false
            rw [← h]; rfl
        · cases h
      · cases h
    · cases h
theorem gcond_false {o : Oper} {V : View} {a : Act} {T : Slots} {G : Nat → Bool} (ht : TRel V N a (msk (.tup []) T G)) (h : gcond ops.toList T G N o = some false) : Region.wanted o (yielded ops a.tmps) = false :=
  gcond_false' ht (fun _ _ _ _ _ => rfl) h
theorem aops_skipU {o : Oper} {l : List Oper} {T : Slots} {H : Heap} (hw : ∀ (E : Env) (a : Act), TRel E.view N a T → Region.wanted o (yielded ops a.tmps) = false) (h : AOps P N nb ops Q l (updO T o.dst (.tup [])) H) : AOps P N nb ops Q (o :: l) T H := by
  intro E a ho hH ht
  unfold wpList
  rw [if_neg (by rw [hw E a ht]; simp)]
  exact h E _ ho hH (ht.put o.dst (.tup _ _ rfl (fun i h => absurd h (by simp))))
def gseq (P : Program) (N : Nat) (ops : List Oper) : List Oper → Slots → (Nat → Bool) → Heap → Option (Slots × (Nat → Bool) × Heap)
  | [], T, G, H => some (T, G, H)
  | o :: l, T, G, H => (gcond ops T G N o).bind fun c => (gop P H.length c T G H o.op).bind fun r => gseq P N ops l (updO T o.dst r.1) (ugO G o.dst c) (appS H r.2)
theorem aops_gstep {o : Oper} {l : List Oper} {T : Slots} {G : Nat → Bool} {H : Heap} {c : Bool} {r : PV × Eff} (hok : okOp N o.op = true) (hc : gcond ops.toList T G N o = some c) (hr : gop P H.length c T G H o.op = some r)
    (h : AOps P N nb ops Q l (msk (.tup []) (updO T o.dst r.1) (ugO G o.dst c)) (appS H r.2)) : AOps P N nb ops Q (o :: l) (msk (.tup []) T G) H := by
  cases c
  · refine aops_skipU (fun E a ht => gcond_false ht hc) ?_
    rw [msk_put_false] at h
    rw [gop_false hr] at h
    exact h
  · rw [msk_put_true] at h
    exact aops_op false ((gcond_sound hc).1 rfl _) hok (gop_true hr) rfl h
theorem aops_grun : ∀ (l l2 : List Oper) (T : Slots) (G : Nat → Bool) (H : Heap) {T' : Slots} {G' : Nat → Bool} {H' : Heap}, l.all (fun o => okOp N o.op) = true → gseq P N ops.toList l T G H = some (T', G', H') →
    AOps P N nb ops Q l2 (msk (.tup []) T' G') H' → AOps P N nb ops Q (l ++ l2) (msk (.tup []) T G) H
  | [], l2, T, G, H, T', G', H', _, hs, h => by cases hs; exact h
  | o :: l, l2, T, G, H, T', G', H', hok, hs, h => by
    simp only [List.all_cons, Bool.and_eq_true] at hok
    unfold gseq at hs
    obtain ⟨c, hc, hs⟩ := bind_some hs
    obtain ⟨r, hr, hs⟩ := bind_some hs
    exact aops_gstep hok.1 hc hr (aops_grun l l2 _ _ _ hok.2 hs h)
theorem aops_gtake (n : Nat) {l : List Oper} {T T' : Slots} {G G' : Nat → Bool} {H H' : Heap} (hs : gseq P N ops.toList (l.take n) T G H = some (T', G', H')) (hok : (l.take n).all (fun o => okOp N o.op) = true)
    (h : AOps P N nb ops Q (l.drop n) (msk (.tup []) T' G') H') : AOps P N nb ops Q l (msk (.tup []) T G) H := by
  have := aops_grun (l.take n) (l.drop n) T G H hok hs h
  rwa [List.take_append_drop] at this
theorem aops_gstart {l : List Oper} {T : Slots} {H : Heap} (h : AOps P N nb ops Q l (msk (.tup []) T allG) H) : AOps P N nb ops Q l T H := h
inductive Fin : Slots → (Nat → Bool) → Slots → Prop
  | base (T : Slots) : Fin T allG T
  | keep {T G F d v} (h : Fin T G F) : Fin (upd T d v) (ug G d true) (upd F d v)
  | drop {T G F d v c} (h : Fin T G F) : Fin (upd T d v) (ug G d c) (upd F d .junk)
theorem Fin.spec {T : Slots} {G : Nat → Bool} {F : Slots} (h : Fin T G F) : ∀ i, F i = .junk ∨ (G i = true ∧ F i = T i) := by
  induction h with
  | base T => exact fun i => .inr ⟨rfl, rfl⟩
  | keep h ih =>
    intro i
    simp only [upd, ug]
    split
    · exact .inr ⟨rfl, rfl⟩
    · exact ih i
  | drop h ih =>
    intro i
    simp only [upd, ug]
    split
    · exact .inl rfl
    · exact ih i
theorem aops_weak {l : List Oper} {T F : Slots} {H : Heap} (hf : ∀ i, F i = .junk ∨ F i = T i) (h : AOps P N nb ops Q l F H) : AOps P N nb ops Q l T H := by
  intro E a ho hH ht
  refine h E a ho hH ⟨ht.size, ht.defers, fun i hi => ?_⟩
  rcases hf i with e | e
  · rw [e]; exact .junk _
  · rw [e]; exact ht.rel i hi
theorem awp_weak {c : Code} {T F : Slots} {H : Heap} (hf : ∀ i, F i = .junk ∨ F i = T i) (h : AWP P N nb c Q F H) : AWP P N nb c Q T H := by
  intro E a ho hH ht
  refine h E a ho hH ⟨ht.size, ht.defers, fun i hi => ?_⟩
  rcases hf i with e | e
  · rw [e]; exact .junk _
  · rw [e]; exact ht.rel i hi
theorem aops_gfin {l : List Oper} {T F : Slots} {G : Nat → Bool} {H : Heap} (hf : Fin T G F) (h : AOps P N nb ops Q l F H) : AOps P N nb ops Q l (msk (.tup []) T G) H := by
  refine aops_weak (fun i => ?_) h
  rcases hf.spec i with e | ⟨e1, e2⟩
  · exact .inl e
  · exact .inr (by simp only [msk, e1, if_true]; exact e2)
theorem aops_gend {l : List Oper} {T T' F : Slots} {G G' : Nat → Bool} {H H' : Heap} (hs : gseq P N ops.toList l T G H = some (T', G', H')) (hok : l.all (fun o => okOp N o.op) = true) (hf : Fin T' G' F) (h : Q .normal F H') :
    AOps P N nb ops Q l (msk (.tup []) T G) H := by
  have := aops_grun l [] T G H hok hs (aops_gfin (nb := nb) (Q := Q) hf (aops_nil h))
  rwa [List.append_nil] at this
theorem awp_geval {id : Nat} {T T' F : Slots} {G' : Nat → Bool} {H H' : Heap} (hs : gseq P N ops.toList ops.toList T allG H = some (T', G', H')) (hok : ops.toList.all (fun o => okOp N o.op) = true) (hf : Fin T' G' F) (h : Q .normal F H') : AWP P N nb (.region id ops false) Q T H :=
  awp_region (aops_gstart (aops_gend hs hok hf h))
theorem aops_gpure {o : Oper} {l : List Oper} {T : Slots} {G : Nat → Bool} {H : Heap} {c : Bool} {f : FuncId} {args : List PV} {r : PV} (hcall : acall T o.op = some (f, args)) (hc : gcond ops.toList T G N o = some c) (hg : o.op.operands.toList.all (gOk c G) = true) (hok : okOp N o.op = true)
    (hgo : goFn P f = true) (hp : c = true → ACalls P f args H fun r' H'' => r' = r ∧ H'' = H) (h : AOps P N nb ops Q l (msk (.tup []) (updO T o.dst r) (ugO G o.dst c)) H) : AOps P N nb ops Q (o :: l) (msk (.tup []) T G) H := by
  cases c
  · rw [msk_put_false] at h
    exact aops_skipU (fun E a ht => gcond_false ht hc) h
  · rw [msk_put_true] at h
    refine aops_pure (f := f) (args := args) ?_ ((gcond_sound hc).1 rfl _) hok hgo (hp rfl) h
    obtain ⟨fo, xs, ts, pf, pc, e1, e2, e3⟩ := acall_spec hcall
    rw [e1] at hg
    simp only [Op.operands, Call.operands] at hg
    have hall := List.all_eq_true.1 hg
    unfold acall
    rw [e1]
    simp only [aev_msk (hall fo (by simp)), e2]
    congr 2
    rw [← e3]
    congr 2
    exact List.map_congr_left fun x hx => by rw [aev_msk (hall x (by simp; right; simpa using hx))]
end
def mkS : List (Nat × PV) → Slots
  | [] => fun _ => .junk
  | (d, v) :: l => upd (mkS l) d v
def Fits (T : Slots) : List (Nat × PV) → Prop
  | [] => True
  | (d, v) :: l => T d = v ∧ Fits T l
theorem mkS_weak {T : Slots} : ∀ {l : List (Nat × PV)}, Fits T l → ∀ i, mkS l i = .junk ∨ mkS l i = T i
  | [], _, i => .inl rfl
  | (d, v) :: l, h, i => by
    simp only [mkS, upd]
    split
    · rename_i e; subst e; exact .inr h.1.symm
    · exact mkS_weak h.2 i
def BelL (n : Nat) : List (Nat × PV) → Prop
  | [] => True
  | (_, v) :: l => Bel n v ∧ BelL n l
theorem trel_weak {V : View} {N : Nat} {a : Act} {T F : Slots} (ht : TRel V N a T) (hf : ∀ i, F i = .junk ∨ F i = T i) : TRel V N a F := by
  refine ⟨ht.size, ht.defers, fun i hi => ?_⟩
  rcases hf i with e | e
  · rw [e]; exact .junk _
  · rw [e]; exact ht.rel i hi
theorem fits_congr {T T2 : Slots} : ∀ {l : List (Nat × PV)}, (∀ t ∈ l.map Prod.fst, T2 t = T t) → Fits T l → Fits T2 l
  | [], _, _ => trivial
  | (d, v) :: l, h, hf => ⟨(h d (by simp)).trans hf.1, fits_congr (fun t ht => h t (by simp only [List.map_cons, List.mem_cons]; exact .inr ht)) hf.2⟩
theorem fits_bel {T : Slots} {n : Nat} : ∀ {l : List (Nat × PV)}, Fits T l → BelL n l → ∀ t ∈ l.map Prod.fst, Bel n (T t)
  | [], _, _, t, h => by cases h
  | (d, v) :: l, hf, hb, t, h => by
    simp only [List.map_cons, List.mem_cons] at h
    rcases h with rfl | h
    · rw [hf.1]; exact hb.1
    · exact fits_bel hf.2 hb.2 t h
section
variable {P : Program} {N nb : Nat} {Q : Post}
theorem AWP.monoW {c : Code} {T : Slots} {H : Heap} {Q Q' : Post} (h : AWP P N nb c Q T H) (hq : ∀ e T H, Q e T H → ∃ T2, (∀ i, T2 i = .junk ∨ T2 i = T i) ∧ Q' e T2 H) : AWP P N nb c Q' T H := by
  intro E a ho hH ht
  refine wp_mono (h E a ho hH ht) ?_
  rintro e a' w' ⟨E', T', h1, h2, h3, h4, h5⟩
  obtain ⟨T2, k1, k2⟩ := hq _ _ _ h5
  exact ⟨E', T2, h1, h2, h3, trel_weak h4 k1, k2⟩
theorem awp_forS {T : Slots} {H : Heap} {σ : Type} (n : Nat) (rep : σ → List (Nat × PV)) (dom : List Nat) (H0 : Heap) (hp : σ → Heap) (good : Nat → σ → Prop) (s0 : σ) (L0 : Heap) {b b1 i1 i2 : Nat} {body : Code} {o1 o2 o3 : Oper} {ti tn tc tt : Nat} {y1 y2 : TypeId}
    (e1 : o1.op = .binOp .lss y1 (.tmp ti) (.tmp tn) y2) (d1 : o1.dst = some tc) (g1 : o1.guard = none)
    (e2 : o2.op = .binOp .add y1 (.tmp ti) (.const (.int .i64 1)) y2) (d2 : o2.dst = some tt) (g2 : o2.guard = none)
    (e3 : o3.op = .move (.tmp tt)) (d3 : o3.dst = some ti) (g3 : o3.guard = none)
    (hbnd : ti < N ∧ tn < N ∧ tc < N ∧ tt < N) (hdis : ti ≠ tn ∧ ti ≠ tc ∧ tn ≠ tc ∧ tn ≠ tt ∧ ti ≠ tt ∧ ti ∉ dom ∧ tc ∉ dom ∧ tt ∉ dom) (hb : b ≠ b1) (hdom : ∀ s, (rep s).map Prod.fst = dom) (hn : n ≤ maxLen)
    (hT : Fits T ((ti, .int .i64 0) :: (tn, .int .i64 n) :: rep s0)) (hH : H = H0 ++ hp s0 ++ L0) (hg : good 0 s0) (hlen : ∀ i s, good i s → nb ≤ (H0 ++ hp s).length)
    (bel : ∀ i s, good i s → HBel (H0 ++ hp s).length (H0 ++ hp s) ∧ BelL (H0 ++ hp s).length (rep s))
    (round : ∀ (i : Nat) s, i < n → good i s → AWP P N nb body (fun e T' H' =>
        let more := Fits T' ((ti, .int .i64 i) :: (tn, .int .i64 n) :: []) ∧ ∃ s' L, Fits T' (rep s') ∧ H' = H0 ++ hp s' ++ L ∧ good (i + 1) s'
        match e with
        | .normal => more
        | .exit id => if id = b1 then more else if id = b then Q .normal T' H' else Q (.exit id) T' H'
        | e => Q e T' H') (mkS ((ti, .int .i64 i) :: (tn, .int .i64 n) :: rep s)) (H0 ++ hp s))
    (done : ∀ s, good n s → Q .normal (mkS (rep s)) (H0 ++ hp s)) :
    AWP P N nb (.block b (.loop (.seq (.region i1 #[o1] false) (.seq (.cond (.tmp tc) .skip (.exit b)) (.seq (.block b1 body) (.region i2 #[o2, o3] false)))))) Q T H := by
  have hb0 : ∀ t ∈ ti :: tn :: dom, Bel (H0 ++ hp s0).length (T t) := fun t ht => by
    simp only [List.mem_cons] at ht
    rcases ht with rfl | rfl | ht
    · rw [hT.1]; exact .int _ _
    · rw [hT.2.1]; exact .int _ _
    · exact fits_bel hT.2.2 (bel 0 s0 hg).2 t (by rw [hdom]; exact ht)
  refine awp_gc (ti :: tn :: dom) hH (hlen 0 s0 hg) (bel 0 s0 hg).1 hb0 ?_
  have hk : ∀ t ∈ ti :: tn :: dom, keep (ti :: tn :: dom) T t = T t := fun t ht => by unfold keep; rw [if_pos ht]
  refine AWP.monoW (awp_for (Q := fun e T' H' => match e with
      | .normal => (∃ s, good n s ∧ Fits T' (rep s) ∧ H' = H0 ++ hp s) ∨ Q .normal T' H'
      | e => Q e T' H') n dom (fun i T H => ∃ s, good i s ∧ Fits T (rep s) ∧ H = H0 ++ hp s) e1 d1 g1 e2 d2 g2 e3 d3 g3 hbnd hdis hn hb ?_ ?_ ?_ ?_ ?_ ?_) ?_
  · rw [hk _ (by simp)]; exact hT.1
  · rw [hk _ (by simp)]; exact hT.2.1
  · rintro i T T2 H h ⟨s, h1, h2, h3⟩
    exact ⟨s, h1, fits_congr (fun t ht => h t (by rw [← hdom s]; exact ht)) h2, h3⟩
  · exact ⟨s0, hg, fits_congr (fun t ht => hk t (by rw [hdom] at ht; simp [ht])) hT.2.2, rfl⟩
  · rintro i T H hi ⟨s, h1, h2, rfl⟩ h3 h4
    refine awp_weak (mkS_weak (l := (ti, .int .i64 i) :: (tn, .int .i64 n) :: rep s) ⟨h3, h4, h2⟩) ((round i s hi h1).mono ?_)
    have key : ∀ T' H', (Fits T' ((ti, .int .i64 i) :: (tn, .int .i64 n) :: []) ∧ ∃ s' L, Fits T' (rep s') ∧ H' = H0 ++ hp s' ++ L ∧ good (i + 1) s') →
        T' ti = .int .i64 i ∧ T' tn = .int .i64 n ∧ ∃ H1 L, H' = H1 ++ L ∧ nb ≤ H1.length ∧ HBel H1.length H1 ∧ (∀ t ∈ dom, Bel H1.length (T' t)) ∧ ∃ s, good (i + 1) s ∧ Fits T' (rep s) ∧ H1 = H0 ++ hp s := by
      rintro T' H' ⟨⟨k1, k2, _⟩, s', L, k3, k4, k5⟩
      exact ⟨k1, k2, H0 ++ hp s', L, k4, hlen (i + 1) s' k5, (bel _ _ k5).1, fun t ht => fits_bel k3 (bel _ _ k5).2 t (by rw [hdom]; exact ht), s', k5, k3, rfl⟩
    intro e T' H' he
    cases e with
    | normal => exact key T' H' he
    | exit id =>
      simp only at he ⊢
      split at he
      · rename_i hid; rw [if_pos hid]; exact key T' H' he
      · rename_i hid
        rw [if_neg hid]
        split at he
        · rename_i hid2; rw [if_pos hid2]; exact .inr he
        · rename_i hid2; rw [if_neg hid2]; exact he
    | _ => exact he
  · rintro T H ⟨s, h1, h2, h3⟩
    exact .inl ⟨s, h1, h2, h3⟩
  · intro e T' H' he
    cases e with
    | normal =>
      rcases he with ⟨s, h1, h2, rfl⟩ | he
      · exact ⟨mkS (rep s), mkS_weak h2, done s h1⟩
      · exact ⟨T', fun i => .inr rfl, he⟩
    | _ => exact ⟨T', fun i => .inr rfl, he⟩
end
end Go.Abs
namespace Go.Abs
section
variable {P : Program} {N nb : Nat} {ops : Array Oper} {Q : Post}
theorem dops_skipR {k : Nat} {o : Oper} {l : List Oper} {prev : Prev} {T : Slots} {G : Nat → Bool} {H : Heap} (rd : List Nat) (hap : ∀ p ∈ prev, ((bmasks ops.toList).getD k 0).testBit p.1 = true ∨ ((∀ id ∈ p.2.2, id ∉ rd) ∧ ∀ e' ∈ ([] : List (Nat × AObj)), e'.1 ∉ p.2.1)) (hw : gcond ops.toList T G N o = some false)
    (h : DOps P N ops Q (k + 1) l (prev ++ [(k, rd, [])]) (updO (msk (.tup []) T G) o.dst (.tup [])) H) : DOps P N ops Q k (o :: l) prev (msk (.tup []) T G) H :=
  ⟨.tup [], [], rd, fun T' H' hT _ _ E a ho hE ht => .inl ⟨gcond_false' ht (fun j want d hg hd => hT d (by unfold otmps; rw [hg]; simp only [hd]; simp)) hw, rfl, .inr rfl⟩, by simp, hap, h⟩
theorem ard_msk {u : PV} {T : Slots} {G : Nat → Bool} {o : Op} (h : ∀ x ∈ o.operands.toList, aev (msk u T G) x = aev T x) : ard (msk u T G) o = ard T o := by
  cases o with
  | load t x => simp only [ard, h x (by simp [Op.operands])]
  | store t x y => simp only [ard, h x (by simp [Op.operands])]
  | lookup t x y ok => simp only [ard, h x (by simp [Op.operands])]
  | mapUpdate t x y z => simp only [ard, h x (by simp [Op.operands])]
  | call c =>
    simp only [ard]
    split
    · split
      · rename_i x l hx
        rw [h x (by
          simp only [Op.operands, Call.operands]; simp; right; have : x ∈ c.args.toList := by rw [hx]; simp
          simpa using this)]
      · rfl
    · rfl
  | _ => rfl
theorem gop_reads {fresh : Nat} {u : PV} {T : Slots} {G : Nat → Bool} {H : Heap} {o : Op} {r : PV × Eff} (h : gop P fresh true T G H o = some r) : ard (msk u T G) o = ard T o := by
  cases o with
  | pick x a b => rfl
  | _ =>
    simp only [gop] at h
    split at h
    · rename_i hall
      exact ard_msk fun x hx => aev_msk (List.all_eq_true.1 hall x hx)
    · cases h
theorem dops_gstep {bm : List Nat} {k fresh : Nat} {o : Oper} {l : List Oper} {prev : Prev} {T : Slots} {G : Nat → Bool} {H : Heap} {c : Bool} {r : PV × Eff} (hbm : bmasks ops.toList = bm) (hok : okOp N o.op = true) (hc : gcond ops.toList T G N o = some c) (hr : gop P fresh c T G H o.op = some r)
    (hf : freshOk fresh r.2 H = true) (hap : hapB (bm.getD k 0) prev (ard T o.op ++ effIds r.2) (effIds r.2) = true)
    (h : DOps P N ops Q (k + 1) l (prev ++ [(k, ard T o.op ++ effIds r.2, effIds r.2)]) (msk (.tup []) (updO T o.dst r.1) (ugO G o.dst c)) (effSet r.2 H)) : DOps P N ops Q k (o :: l) prev (msk (.tup []) T G) H := by
  obtain ⟨v, e⟩ := r
  have hids : effIds e = (effL e).map (·.1) := by cases e <;> rfl
  have hset : effSet e H = effs H (effL e) := by cases e <;> rfl
  cases c
  · obtain rfl : e = none := gop_false hr
    rw [msk_put_false] at h
    exact dops_skipR _ (hapB_spec (eff := []) (by rw [hbm]; exact hap)) hc h
  · rw [msk_put_true] at h
    have hr' := gop_true (u := .tup []) hr
    have hard := gop_reads (u := .tup []) hr
    simp only at hf hap h
    rw [hids, ← hard] at hap
    rw [hids, hset, ← hard] at h
    refine dops_op false fresh ((gcond_sound hc).1 rfl _) hok hr' (fun ob he => ?_) rfl rfl (hapB_spec (by rw [hbm]; exact hap)) h
    subst he
    simp only [freshOk, if_true] at hf
    exact isUnborn_spec hf
theorem awp_drawW {id : Nat} {ops : Array Oper} {T : Slots} {H : Heap} (m : Nat) (hok : drawOk P ops.toList = true)
    (h : DOps P N ops (fun e T1 H1 => ∃ T2, (∀ i, T2 i = .junk ∨ T2 i = T1 i) ∧ Q e T2 H1) 0 ops.toList [] T (H ++ List.replicate m .unborn)) : AWP P N nb (.region id ops true) Q T H :=
  AWP.monoW (awp_draw m hok h) fun _ _ _ he => he
theorem acall_msk {u : PV} {T : Slots} {G : Nat → Bool} {o : Op} {f : FuncId} {args : List PV} (hcall : acall T o = some (f, args)) (hg : o.operands.toList.all (gOk true G) = true) : acall (msk u T G) o = some (f, args) := by
  obtain ⟨fo, xs, ts, pf, pc, e1, e2, e3⟩ := acall_spec hcall
  rw [e1] at hg
  simp only [Op.operands, Call.operands] at hg
  have hall := List.all_eq_true.1 hg
  unfold acall
  rw [e1]
  simp only [aev_msk (hall fo (by simp)), e2]
  congr 2
  rw [← e3]
  congr 2
  exact List.map_congr_left fun x hx => by rw [aev_msk (hall x (by simp; right; simpa using hx))]
end
end Go.Abs
namespace Go.Abs
theorem ug_apply (G : Nat → Bool) (d : Nat) (c : Bool) (i : Nat) : ug G d c i = if i = d then c else G i := rfl
theorem ugO_some (G : Nat → Bool) (d : Nat) (c : Bool) : ugO G (some d) c = ug G d c := rfl
theorem ugO_none (G : Nat → Bool) (c : Bool) : ugO G none c = G := rfl
theorem allG_apply (i : Nat) : allG i = true := rfl
theorem pk_true (a b : PV) : pk true a b = a := rfl
theorem pk_false (a b : PV) : pk false a b = b := rfl
theorem pk_and (c x : Bool) : pk c (.bool x) (.bool false) = .bool (c && x) := by cases c <;> rfl
theorem pk_or (c x : Bool) : pk c (.bool true) (.bool x) = .bool (c || x) := by cases c <;> rfl
theorem bq_true (b : Bool) : (b == true) = b := by cases b <;> rfl
theorem bq_false (b : Bool) : (b == false) = !b := by cases b <;> rfl
theorem nor_self (b : Bool) : (!b || b) = true := by cases b <;> rfl
theorem or_nself (b : Bool) : (b || !b) = true := by cases b <;> rfl
theorem gOk_tmp (c : Bool) (G : Nat → Bool) (t : Nat) : gOk c G (.tmp t) = (!c || G t) := rfl
theorem gOk_const (c : Bool) (G : Nat → Bool) (v : Value) : gOk c G (.const v) = true := rfl
theorem gOk_func (c : Bool) (G : Nat → Bool) (f : FuncId) : gOk c G (.func f) = true := rfl
theorem SG : (∀ (G : Nat → Bool) (d : Nat) (c : Bool) (i : Nat), ug G d c i = if i = d then c else G i) ∧ (∀ (G : Nat → Bool) (d : Nat) (c : Bool), ugO G (some d) c = ug G d c) ∧ (∀ (G : Nat → Bool) (c : Bool), ugO G none c = G) ∧
    (∀ i, allG i = true) ∧ (∀ a b : PV, pk true a b = a) ∧ (∀ a b : PV, pk false a b = b) ∧ (∀ c x : Bool, pk c (.bool x) (.bool false) = .bool (c && x)) ∧ (∀ c x : Bool, pk c (.bool true) (.bool x) = .bool (c || x)) ∧
    (∀ b : Bool, (b == true) = b) ∧ (∀ b : Bool, (b == false) = !b) ∧ (∀ b : Bool, (!b || b) = true) ∧ (∀ b : Bool, (b || !b) = true) ∧
    (∀ (c : Bool) (G : Nat → Bool) (t : Nat), gOk c G (.tmp t) = (!c || G t)) ∧ (∀ (c : Bool) (G : Nat → Bool) (v : Value), gOk c G (.const v) = true) ∧ (∀ (c : Bool) (G : Nat → Bool) (f : FuncId), gOk c G (.func f) = true) :=
  ⟨ug_apply, ugO_some, ugO_none, allG_apply, pk_true, pk_false, pk_and, pk_or, bq_true, bq_false, nor_self, or_nself, gOk_tmp, gOk_const, gOk_func⟩
theorem mkS_cons (d : Nat) (v : PV) (l : List (Nat × PV)) (i : Nat) : mkS ((d, v) :: l) i = if i = d then v else mkS l i := rfl
theorem mkS_nil (i : Nat) : mkS [] i = .junk := rfl
theorem BelL.nil {n : Nat} : BelL n [] := trivial
theorem BelL.cons {n d : Nat} {v : PV} {l : List (Nat × PV)} (h : Bel n v) (hl : BelL n l) : BelL n ((d, v) :: l) := ⟨h, hl⟩
theorem hbel_app' {n m : Nat} {H L : Heap} (h : HBel m H) (hm : m ≤ n) (hl : HBel n L) : HBel n (H ++ L) := fun o ho => by
  rcases List.mem_append.1 ho with h' | h'
  · have := h o h'
    cases o with
    | row cs => exact fun c hc => (this c hc).mono hm
    | obj k => cases k with
      | iter s p => trivial
      | mapo es => exact fun e he => (this e he).mono hm
      | miter im k seen => exact Nat.lt_of_lt_of_le this hm
      | mapg es c => exact fun e he => (this e he).mono hm
      | mitg im k seen => exact Nat.lt_of_lt_of_le this hm
    | _ => trivial
  · exact hl o h'
theorem bel_nil0 (n : Nat) : Bel n (.slice [] .full) := .slice _ _ (by simp) (by simp)
theorem bel_nil1 (n : Nat) : Bel n (.slice [] .none) := .slice _ _ (by simp) (by simp)
theorem obel_row_nil (n : Nat) : OBel n (.row []) := fun c hc => by cases hc
theorem obel_row_cons {n : Nat} {c : PV} {cs : List PV} (h : Bel n c) (hc : OBel n (.row cs)) : OBel n (.row (c :: cs)) := fun x hx => by
  rcases List.mem_cons.1 hx with rfl | hx
  · exact h
  · exact hc x hx
theorem ares_two {P : Program} {N : Nat} {T : Slots} {H : Heap} {rs : List ResultVar} (r1 r2 : ResultVar) {v1 v2 : PV} (hrs : rs = [r1, r2]) (h1 : ares1 P N T H r1 = some v1) (h2 : ares1 P N T H r2 = some v2) : aresults P N T H rs = some (.tup [v1.drop1, v2.drop1]) := by
  subst hrs
  simp only [aresults, List.mapM_cons, List.mapM_nil, h1, h2, Option.bind_eq_bind, Option.bind_some, Option.pure_def, Option.map_some, List.map_cons, List.map_nil]
theorem ares_three {P : Program} {N : Nat} {T : Slots} {H : Heap} {rs : List ResultVar} (r1 r2 r3 : ResultVar) {v1 v2 v3 : PV} (hrs : rs = [r1, r2, r3]) (h1 : ares1 P N T H r1 = some v1) (h2 : ares1 P N T H r2 = some v2) (h3 : ares1 P N T H r3 = some v3) : aresults P N T H rs = some (.tup [v1.drop1, v2.drop1, v3.drop1]) := by
  subst hrs
  simp only [aresults, List.mapM_cons, List.mapM_nil, h1, h2, h3, Option.bind_eq_bind, Option.bind_some, Option.pure_def, Option.map_some, List.map_cons, List.map_nil]
theorem ares_cell1 {P : Program} {N : Nat} {T : Slots} {H : Heap} {t : Nat} {ty : TypeId} {i : TI} {r : PV} (hi : tinfo P ty = some i) (ht : t < N) (h : aload i H (T t) = some r) : ares1 P N T H (.cell t ty) = some r := by
  simp only [ares1, if_pos ht, hi, Option.bind_some]; exact h
theorem ares_tmp1 {P : Program} {N : Nat} {T : Slots} {H : Heap} {t : Nat} (ht : t < N) : ares1 P N T H (.tmp t) = some (T t) := if_pos ht
end Go.Abs
namespace Go.Abs
theorem LS : (∀ {α : Type} (p : α → Bool) (a : α) (l : List α), (a :: l).all p = (p a && l.all p)) ∧ (∀ {α : Type} (p : α → Bool), ([] : List α).all p = true) ∧
    (∀ {α : Type} (n : Nat) (a : α), List.replicate (n + 1) a = a :: List.replicate n a) ∧ (∀ {α : Type} (a : α), List.replicate 0 a = []) ∧
    (∀ {α : Type} (n : Nat) (a : α) (l : List α), (a :: l).take (n + 1) = a :: l.take n) ∧ (∀ {α : Type} (l : List α), l.take 0 = []) ∧ (∀ {α : Type} (n : Nat), ([] : List α).take n = []) ∧
    (∀ {α : Type} (n : Nat) (a : α) (l : List α), (a :: l).drop (n + 1) = l.drop n) ∧ (∀ {α : Type} (l : List α), l.drop 0 = l) ∧
    (∀ {α β : Type} (a : α) (f : α → Option β), (some a).bind f = f a) ∧
    (∀ {α : Type} (a d : α) (l : List α), (a :: l).getD 0 d = a) ∧ (∀ {α : Type} (a d : α) (l : List α) (n : Nat), (a :: l).getD (n + 1) d = l.getD n d) ∧
    (∀ {α : Type} (a : α) (l : List α), (a :: l)[0]? = some a) ∧ (∀ {α : Type} (a : α) (l : List α) (n : Nat), (a :: l)[n + 1]? = l[n]?) ∧ (∀ {α : Type} (n : Nat), ([] : List α)[n]? = none) ∧
    (∀ {α : Type} (a : α) (l : List α), (a :: l).length = l.length + 1) ∧ (∀ {α : Type}, ([] : List α).length = 0) ∧ (∀ {α : Type} (a b : List α), (a ++ b).length = a.length + b.length) ∧ (∀ {α β : Type} (f : α → β) (l : List α), (l.map f).length = l.length) ∧
    (∀ {α : Type} (a b : α) (l : List α), (a :: l).set 0 b = b :: l) ∧ (∀ {α : Type} (a b : α) (l : List α) (n : Nat), (a :: l).set (n + 1) b = a :: l.set n b) ∧
    (∀ {α : Type} (a b c : List α), a ++ b ++ c = a ++ (b ++ c)) ∧ (∀ {α : Type} (x : α) (a b : List α), x :: a ++ b = x :: (a ++ b)) ∧ (∀ {α : Type} (a : List α), [] ++ a = a) ∧ (∀ {α : Type} (a : List α), a ++ [] = a) ∧
    (∀ {α : Type} (a : α), (some a).isSome = true) ∧ (∀ {α : Type}, (none : Option α).isSome = false) ∧
    ((false = true) = False) ∧ (∀ b : Bool, (b && true) = b) ∧ (∀ b : Bool, (true && b) = b) ∧ (∀ b : Bool, (b && b) = b) ∧ ((!true) = false) ∧ ((!false) = true) ∧ (∀ b : Bool, (!(!b)) = b) ∧
    (∀ b : Bool, (b && false) = false) ∧ (∀ b : Bool, (false && b) = false) ∧ (∀ p : Prop, (p ∧ True) = p) ∧ (∀ p : Prop, (True ∧ p) = p) ∧ (∀ p : Prop, (p ∧ p) = p) ∧
    (decide True = true) ∧ (decide False = false) ∧ (∀ n : Nat, (n == n) = true) ∧
    (∀ {α β : Type} (f : α → β) (a : α) (l : List α), (a :: l).map f = f a :: l.map f) ∧ (∀ b : Bool, (b || false) = b) ∧ (∀ b : Bool, (false || b) = b) ∧ (∀ b : Bool, (b || true) = true) ∧ (∀ b : Bool, (true || b) = true) ∧
    (∀ n : Nat, n + 0 = n) ∧ (∀ n : Nat, 0 + n = n) ∧ (∀ {α : Type} (l : List α), l.toArray.toList = l) ∧
    (∀ (a b : Nat) (l : List Nat), (b :: l).contains a = (a == b || l.contains a)) ∧ (∀ a : Nat, ([] : List Nat).contains a = false) ∧ (∀ {α : Type} (a b : α), (if True then a else b) = a) ∧ (∀ {α : Type} (a b : α), (if False then a else b) = b) := by
  refine ⟨?_, ?_, ?_, ?_, ?_, ?_, ?_, ?_, ?_, ?_, ?_, ?_, ?_, ?_, ?_, ?_, ?_, ?_, ?_, ?_, ?_, ?_, ?_, ?_, ?_, ?_, ?_, ?_, ?_, ?_, ?_, ?_, ?_, ?_, ?_, ?_, ?_, ?_, ?_, ?_, ?_, ?_, ?_, ?_, ?_, ?_, ?_, ?_, ?_, ?_, ?_, ?_, ?_, ?_⟩ <;> first | (intros; rfl) | simp [List.replicate_succ]
end Go.Abs
namespace Go.Abs
theorem SX : (∀ vs : List PV, (PV.tup vs).drop1 = .tup vs) ∧ (∀ vs : List PV, (PV.tup vs).isJunk = false) ∧ (PV.nilfn.drop1 = .nilfn) ∧ (∀ (c : Bool), (!decide (c = true)) = !c) ∧ (∀ (c : Bool), decide (c = true) = c) ∧ (∀ (i : Nat), (Int.toNat (i : Int)) = i) :=
  ⟨fun _ => rfl, fun _ => rfl, rfl, fun c => by cases c <;> rfl, fun c => by cases c <;> rfl, fun i => Int.toNat_natCast i⟩
end Go.Abs
namespace Go.Abs
open Classical in
noncomputable def Env.frz (E : Env) (H1 : Heap) : Env :=
  { E with κ := fun b => if ∃ id cs, H1.length ≤ id ∧ E.H[id]? = some (.row cs) ∧ E.ρ id = b then .fixed else E.κ b, H := H1 }
section frz
variable {E : Env} (ho : E.Ok) {H1 L : Heap} (hE : E.H = H1 ++ L)
theorem Env.frz_cell (a : Addr) (v : Value) (h : E.view.cell a = some v) : (E.frz H1).view.cell a = some v := by
  simp only [Env.view] at h ⊢
  split at h
  · rename_i hs
    have : ((E.frz H1).κ a.block).stable a.off = true := by
      simp only [Env.frz]
      split
      · rfl
      · exact hs
    rw [if_pos this]; exact h
  · cases h
include ho hE in
theorem Env.frz_tok {id : Nat} (hid : id < H1.length) {t : TokI} (h : (E.frz H1).view.tok id = some t) : E.view.tok id = some t := by
  have e1 : (E.frz H1).H[id]? = E.H[id]? := by show H1[id]? = _; rw [cut_get hE hid]
  simp only [Env.view, e1] at h ⊢
  split at h
  · rename_i n sz hi
    rw [← h]
    show some (TokI.mk n sz ((E.tb id).bind _)) = some (TokI.mk n sz ((E.tb id).bind _))
    cases htb : E.tb id with
    | none => rfl
    | some b =>
      simp only [Option.bind_some]
      have hκ : (E.frz H1).κ b = E.κ b ∨ ((E.frz H1).κ b = .fixed ∧ E.κ b = .mut) := by
        simp only [Env.frz]
        split
        · rename_i hx
          obtain ⟨id', cs, _, h2, h3⟩ := hx
          obtain ⟨_, _, _, _, _, h4⟩ := ho.rows id' cs h2
          rw [h3] at h4
          exact .inr ⟨rfl, h4⟩
        · exact .inl rfl
      rcases hκ with e | ⟨e, e'⟩
      · rw [e]
      · rw [e, e']
  · cases h
include ho hE in
theorem Env.frz_rel {v : Value} {p : PV} (h : VRel E.view v p) (hp : Bel H1.length p) : VRel (E.frz H1).view v p := by
  refine VRel.cut (V := E.view) (V' := (E.frz H1).view) (n := H1.length) Env.frz_cell (fun id hid hb => ⟨?_, rfl, fun t ht => Env.frz_tok ho hE hid ht⟩) h hp
  obtain ⟨o, h1, h2⟩ := hb
  exact ⟨o, by show H1[id]? = some o; rw [← cut_get hE hid]; exact h1, h2⟩
include ho hE in
theorem Env.Ok.frz (hb : HBel H1.length H1) : (E.frz H1).Ok := by
  have hg : ∀ {id : Nat} {o : AObj}, H1[id]? = some o → E.H[id]? = some o := fun h => by rw [cut_get hE (len_of_get h)]; exact h
  refine ⟨?_, ?_, ?_, ?_, ho.globs_of Env.frz_cell fun id b vs hi => hg hi, ⟨fun id k hi => ?_, fun id id' k k' h1 h2 e => ho.objs.inj id id' k k' (hg h1) (hg h2) e⟩⟩
  rotate_left 4
  · obtain ⟨⟨o, a1, a2⟩, a3⟩ := ho.objs.at_ id k (hg hi)
    refine ⟨⟨o, a1, a2.cut (fun v p hv hp => Env.frz_rel ho hE hv hp) (hb _ (List.mem_of_getElem? hi))⟩, ?_⟩
    simp only [Env.frz]
    rw [if_neg]
    · exact a3
    · rintro ⟨id', cs', h5, h6, h7⟩
      obtain ⟨_, _, h8, _⟩ := ho.rows id' cs' h6
      rw [h7, a1] at h8; cases h8
      exact a2.cells
  · intro id cs hi
    obtain ⟨arr, elem, h1, h2, h3, h4⟩ := ho.rows id cs (hg hi)
    have hm : AObj.row cs ∈ H1 := List.mem_of_getElem? hi
    refine ⟨arr, elem, h1, h2, fun i hl => Env.frz_rel ho hE (h3 i hl) (hb _ hm _ (List.getElem_mem hl)), ?_⟩
    simp only [Env.frz]
    rw [if_neg]
    · exact h4
    · rintro ⟨id', cs', h5, h6, h7⟩
      have := ho.injr id' id cs' cs h6 (hg hi) h7
      have : id < H1.length := len_of_get (H := H1) hi
      omega
  · intro id n sz b hi hb'
    obtain ⟨arr, elem, pos, h1, h2⟩ := ho.bufs id n sz b (hg hi) hb'
    refine ⟨arr, elem, pos, h1, ?_⟩
    simp only [Env.frz]
    rw [if_neg]
    · exact h2
    · rintro ⟨id', cs', h5, h6, h7⟩
      obtain ⟨_, _, _, _, _, h8⟩ := ho.rows id' cs' h6
      rw [h7, h2] at h8; cases h8
  · intro id id' cs cs' h1 h2 e
    exact ho.injr id id' cs cs' (hg h1) (hg h2) e
  · intro id id' n sz n' sz' b h1 h2 e e'
    exact ho.injb id id' n sz n' sz' b (hg h1) (hg h2) e e'
end frz
def Frz (H : Heap) (n : Nat) (p v : PV) : Prop :=
  (p = v ∧ Bel n v) ∨ ∃ id k c sz es, p = .msl id 0 k c ∧ n ≤ id ∧ H[id]? = some (.row (flatE es)) ∧ k ≤ es.length ∧ k ≤ c ∧ (∀ e ∈ es, e.cells.length = sz) ∧ (∀ e ∈ es, ∀ x ∈ e.cells, Bel n x) ∧ v = .slice (es.take k) .none
theorem Frz.same {H : Heap} {n : Nat} {v : PV} (h : Bel n v) : Frz H n v v := .inl ⟨rfl, h⟩
section
variable {P : Program} {N nb : Nat} {Q : Post}
end
end Go.Abs
