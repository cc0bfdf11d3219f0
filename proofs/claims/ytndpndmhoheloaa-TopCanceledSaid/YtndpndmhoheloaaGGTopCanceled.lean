/- Part 7 of a proof of the law TopCanceled: Go data as trees, the walks of the functions that the law reaches, the plain laws. -/
import Derived.Test.YtndpndmhoheloaaGFTopCanceled
import Derived.Laws.LoneSync
import Derived.RangeFuncGives
import Derived.RangeFuncKeeps
import Derived.Sort.MapsRangeIn
import Derived.WalkKit
import Derived.OwnWalkIn
import Derived.TacticsInMore
import Derived.RegionIn
import Derived.LoopNIn
import Derived.LoopIn
import Derived.RangeFuncNested
import Derived.Maps.AppendAt
import Derived.RangeFuncWrites
set_option linter.unusedVariables false
set_option linter.unusedSimpArgs false
namespace Go.Abs
open Go.Proofs Go.Memo
section
variable {ix : Ids} {loc : QK → Nat} {act : List QK} {st : St} {F : FPl} {H : Heap}
theorem DbR.seti (h : DbR ix loc act st F H) (k : QK) (v : QV) (d : Nat) (hsm : ¬ ((st.cell k).d = d ∧ (st.cell k).val = v)) (hv : v.nums.length ≤ lim) {es : List GE} {clk : Nat} (hm : H[ix.c]? = some (.obj (.mapg es clk))) :
    DbR ix loc act (setI k v d st) F ((H.set ix.s (stRow ((st.now + 1 : Nat) : Int) ((setI k v d st).lc 0) ((setI k v d st).lc 1) ((setI k v d st).lc 2) ix.c)).set ix.c (.obj (.mapg (gset es clk k (cellE ⟨v, st.now + 1, d⟩)) (gclk es clk k)))) ∧
    ∀ id, ¬ F id → ((H.set ix.s (stRow ((st.now + 1 : Nat) : Int) ((setI k v d st).lc 0) ((setI k v d st).lc 1) ((setI k v d st).lc 2) ix.c)).set ix.c (.obj (.mapg (gset es clk k (cellE ⟨v, st.now + 1, d⟩)) (gclk es clk k))))[id]? = H[id]? := by
  obtain ⟨o1, o2, o3, o4, o5⟩ := h.own
  obtain ⟨n1, n2, n3, n4, n5, n6, n7, n8, n9, n10⟩ := h.ne
  have hs : ∀ id, id ≠ ix.s → id ≠ ix.c → ∀ o o2, ((H.set ix.s o).set ix.c o2)[id]? = H[id]? := fun id h1 h2 o o2 => by
    rw [List.getElem?_set_ne (Ne.symm h2), List.getElem?_set_ne (Ne.symm h1)]
  have e : setI k v d st = { st with now := st.now + 1, lc := fun i => if i ≤ max (st.cell k).d d then st.now + 1 else st.lc i, cell := fun q => if q = k then ⟨v, st.now + 1, d⟩ else st.cell q } := by
    unfold setI; rw [if_neg hsm]
  obtain ⟨es', clk', e1, e2, e3⟩ := h.cells
  rw [hm] at e1; injection e1 with e1; injection e1 with e1; injection e1 with e1 e1'; subst e1; subst e1'
  refine ⟨?_, fun id hf => hs id (by rintro rfl; exact hf o2) (by rintro rfl; exact hf o4) _ _⟩
  generalize hst' : setI k v d st = st' at *
  have f1 : st'.res = st.res := by rw [e]
  have f2 : st'.comps = st.comps := by rw [e]
  have f5 : st'.clk = st.clk := by rw [e]
  have f3 : st'.now = st.now + 1 := by rw [e]
  have f4 : st'.cell = fun q => if q = k then ⟨v, st.now + 1, d⟩ else st.cell q := by rw [e]
  refine ⟨?_, ?_, ?_, ?_, fun q r hq => ?_, fun q q' a b hq hq' => h.inj q q' a b (f1 ▸ hq) (f1 ▸ hq'), ?_, fun q => ?_, h.own, fun id hi => by simpa using h.lt id hi, h.ne, fun c hc => ?_, fun q r tl lu hq hr => ?_⟩
  · rw [f2, hs _ n1 n3]; exact h.db
  · rw [List.getElem?_set_ne (Ne.symm n6), List.getElem?_set_self (h.lt _ o2), f3]
  · refine ⟨_, _, List.getElem?_set_self (by simpa using h.lt _ o4), gn_set e2 _ _ _, fun q => ?_⟩
    rw [gget_set, f4]
    by_cases hq : q = k
    · exact .inr (by simp [hq])
    · rcases e3 q with ⟨h1, h2⟩ | h1
      · exact .inl ⟨by simp [hq, h1], by simp [hq, h2]⟩
      · exact .inr (by simp [hq, h1])
  · rw [f1, hs _ (Ne.symm n5) n8]; exact h.res
  · rw [f1] at hq
    obtain ⟨⟨tl, lu, h1⟩, h2, h3, h4, h5, h6, h7, h8⟩ := h.recs q r hq
    exact ⟨⟨tl, lu, by rw [hs _ h4 h6]; exact h1⟩, h2, h3, h4, h5, h6, h7, h8⟩
  · rw [hs _ (Ne.symm n7) (Ne.symm n10)]; exact h.acts
  · rw [f4]
    simp only
    split
    · exact hv
    · exact h.okc q
  · rw [f2, hs _ n1 n3] at hc
    rw [f5]; exact h.clk c hc
  · rw [f1] at hq
    have h4 := h.recs q r hq
    rw [hs _ h4.2.2.2.1 h4.2.2.2.2.2.1] at hr
    rw [f5]; exact h.lus q r tl lu hq hr
theorem DbR.forget (h : DbR ix loc act st F H) (k : QK) {es : List GE} {clk : Nat} (hm : H[ix.m]? = some (.obj (.mapg es clk))) : DbR ix loc act { st with res := setF st.res k none } F (H.set ix.m (.obj (.mapg (gdel es k) clk))) := by
  obtain ⟨o1, o2, o3, o4, o5⟩ := h.own
  obtain ⟨n1, n2, n3, n4, n5, n6, n7, n8, n9, n10⟩ := h.ne
  have hs : ∀ id, id ≠ ix.m → ∀ o, (H.set ix.m o)[id]? = H[id]? := fun id hi o => List.getElem?_set_ne (Ne.symm hi)
  obtain ⟨es', clk', e1, e2, e3⟩ := h.res
  rw [hm] at e1; injection e1 with e1; injection e1 with e1; injection e1 with e1 e1'; subst e1; subst e1'
  have hr : ∀ q r, setF st.res k none q = some r → st.res q = some r := fun q r hq => by
    unfold setF at hq; split at hq
    · cases hq
    · exact hq
  refine ⟨by rw [hs _ n2]; exact h.db, by rw [hs _ n5]; exact h.sto, by rw [hs _ (Ne.symm n8)]; exact h.cells, ⟨_, _, List.getElem?_set_self (h.lt _ o3), gn_del e2 _, fun q => ?_⟩, fun q r hq => ?_, fun q q' a b hq hq' => h.inj q q' a b (hr _ _ hq) (hr _ _ hq'), by rw [hs _ (Ne.symm n9)]; exact h.acts, h.okc, h.own, fun id hi => by rw [List.length_set]; exact h.lt id hi, h.ne, fun c hc => by rw [hs _ n2] at hc; exact h.clk c hc, fun q r tl lu hq hr1 => by rw [hs _ (h.recs q r (hr q r hq)).2.2.2.2.1] at hr1; exact h.lus q r tl lu (hr q r hq) hr1⟩
  · rw [gget_del e2, e3]
    simp only [setF]
    by_cases hq : q = k
    · simp [hq]
    · simp [hq]
  · obtain ⟨⟨tl, lu, h1⟩, h2, h3, h4, h5, h6⟩ := h.recs q r (hr q r hq)
    exact ⟨⟨tl, lu, by rw [hs _ h5]; exact h1⟩, h2, h3, h4, h5, h6⟩
end
theorem mpF : (∀ i, (PV.mapp i).isJunk = false) ∧ (∀ i, (PV.mapp i).cells = [.mapp i]) ∧ (∀ i, (PV.mapp i).drop1 = .mapp i) ∧ (∀ i, (PV.mapp i).isCell = true) ∧ (∀ f a b, (PV.fn f a b).isJunk = false) ∧ (PV.nilfn.isJunk = false) :=
  ⟨fun _ => rfl, fun _ => rfl, fun _ => rfl, fun _ => rfl, fun _ _ _ => rfl, rfl⟩
def St.new : St := ⟨0, fun _ => 0, fun _ => .zero, fun _ => none, 0, 0⟩
theorem DbR.new {ix : Ids} {H : Heap} (hstp : ix.stp = .nilfn) (hd : H[ix.d]? = some (.row [ix.cf, .optr ix.s 0, .mapp ix.m, .mapp ix.a, ix.stp, vint 0, vint 0])) (hs : H[ix.s]? = some (stRow 0 0 0 0 ix.c)) (hm : H[ix.m]? = some (.obj (.mapg [] 0))) (hc : H[ix.c]? = some (.obj (.mapg [] 0))) (ha : H[ix.a]? = some (.obj (.mapg [] 0)))
    (ne : ix.d ≠ ix.s ∧ ix.d ≠ ix.m ∧ ix.d ≠ ix.c ∧ ix.d ≠ ix.a ∧ ix.s ≠ ix.m ∧ ix.s ≠ ix.c ∧ ix.s ≠ ix.a ∧ ix.m ≠ ix.c ∧ ix.m ≠ ix.a ∧ ix.c ≠ ix.a) :
    DbR ix (fun _ => 0) [] St.new (fun id => id = ix.d ∨ id = ix.s ∨ id = ix.m ∨ id = ix.c ∨ id = ix.a) H :=
  { db := ⟨0, hd⟩, sto := hs, cells := ⟨[], 0, hc, List.Pairwise.nil, fun _ => .inl ⟨rfl, rfl⟩⟩, res := ⟨[], 0, hm, List.Pairwise.nil, fun _ => rfl⟩
    recs := fun _ _ h => by (cases h)
    inj := fun _ _ _ _ h => by (cases h)
    acts := ⟨[], 0, ha, List.Pairwise.nil, fun _ => rfl⟩, okc := fun _ => Nat.zero_le _
    own := ⟨.inl rfl, .inr (.inl rfl), .inr (.inr (.inl rfl)), .inr (.inr (.inr (.inl rfl))), .inr (.inr (.inr (.inr rfl)))⟩
    lt := fun id hid => by
      rcases hid with rfl | rfl | rfl | rfl | rfl
      · exact len_of_get hd
      · exact len_of_get hs
      · exact len_of_get hm
      · exact len_of_get hc
      · exact len_of_get ha
    ne := ne
    clk := fun c hc => by
      rw [hd] at hc
      simp [vint] at hc
      have h0 : wrap64 ((0 : Nat) : Int) = 0 := by unfold wrap64; omega
      exact hc.2.symm.trans h0.symm
    lus := fun _ _ _ _ h => by (cases h) }
end Go.Abs
namespace Go.Abs
open Go.Proofs Go.Memo
structure Ls (qs : List (List QK)) (n i : Nat) (vs : List Int) (st : St) : Prop where
  inv : ∃ hist, Inv (cpQ qs) rkQ GoodQ st hist
  now : st.now ≤ i
  clk : st.clk ≤ i * 4000
  dl : DL (KsQ qs.length) st
  d2 : ∀ q, (st.cell q).d ≤ 2
  vl : vs.length = n
  vr : ∀ v ∈ vs, 0 ≤ v ∧ v < 1000003
  cells : ∀ q : QK, q.1 = 0 → hdv (st.cell q).val = if q.2.2 = 0 ∧ 0 ≤ q.2.1 then vs.getD q.2.1.toNat 0 else 0
theorem Ls.new (qs : List (List QK)) (n : Nat) : Ls qs n 0 (List.replicate n 0) St.new where
  inv := ⟨_, Inv.init (fun q => Nat.zero_le _) 0⟩
  now := Nat.le_refl _
  clk := Nat.zero_le _
  dl := fun q r h => by cases h
  d2 := fun q => Nat.zero_le _
  vl := by simp
  vr := fun v hv => by rw [List.eq_of_mem_replicate hv]; omega
  cells := fun q _ => by
    show (0 : Int) = _
    split
    · rw [List.getD_eq_getElem?_getD]
      cases h : (List.replicate n (0 : Int))[q.2.1.toNat]? with
      | none => rfl
      | some v =>
        have := List.eq_of_mem_replicate (List.mem_of_getElem? h)
        subst this; rfl
    · rfl
theorem Ls.good {qs : List (List QK)} {n i : Nat} {vs : List Int} {st : St} (h : Ls qs n i vs st) : GoodQ (vals st.cell) := by
  obtain ⟨hist, hi⟩ := h.inv
  have := hi.good _ (Nat.le_refl _)
  rw [hi.hnow] at this; exact this
theorem Ls.mono {qs : List (List QK)} {n i j : Nat} {vs : List Int} {st : St} (h : Ls qs n i vs st) (hij : i ≤ j) : Ls qs n j vs st :=
  ⟨h.inv, Nat.le_trans h.now hij, Nat.le_trans h.clk (Nat.mul_le_mul_right _ hij), h.dl, h.d2, h.vl, h.vr, h.cells⟩
theorem Ls.set {qs : List (List QK)} {n i : Nat} {vs : List Int} {st : St} (h : Ls qs n i vs st) {a : Nat} (ha : a < n) {b : Int} (hb : 0 ≤ b ∧ b < 1000003) {d : Nat} (hd : d ≤ 2) :
    Ls qs n (i + 1) (vs.set a b) (setI (0, (a : Int), 0) ⟨[b], []⟩ d st) := by
  obtain ⟨hist, hi⟩ := h.inv
  have hcell : ∀ q, ((setI (0, (a : Int), 0) ⟨[b], []⟩ d st).cell q).val = if q = (0, (a : Int), 0) then ⟨[b], []⟩ else (st.cell q).val := fun q => by
    unfold setI
    split
    · rename_i h1
      split
      · rename_i h2; rw [h2]; exact h1.2
      · rfl
    · simp only
      split <;> rfl
  have hn1 : (setI (0, (a : Int), 0) ⟨[b], []⟩ d st).now ≤ st.now + 1 := by unfold setI; split <;> simp
  have hk1 : (setI (0, (a : Int), 0) ⟨[b], []⟩ d st).clk = st.clk := by unfold setI; split <;> rfl
  have hr1 : (setI (0, (a : Int), 0) ⟨[b], []⟩ d st).res = st.res := by unfold setI; split <;> rfl
  refine ⟨hi.set _ _ _ fun q => ?_, Nat.le_trans hn1 (Nat.succ_le_succ h.now), by rw [hk1]; exact Nat.le_trans h.clk (Nat.mul_le_mul_right _ (Nat.le_succ _)), fun q r hq => h.dl q r (by rw [← hr1]; exact hq), fun q => ?_, by rw [List.length_set]; exact h.vl, fun v hv => ?_, fun q hq => ?_⟩
  · show (if q = _ then (⟨[b], []⟩ : QV) else (st.cell q).val).nums.length ≤ 1
    split
    · exact Nat.le_refl _
    · exact h.good q
  · unfold setI
    split
    · exact h.d2 q
    · simp only
      split
      · exact hd
      · exact h.d2 q
  · rcases List.mem_or_eq_of_mem_set hv with hv | rfl
    · exact h.vr v hv
    · exact hb
  · rw [hcell]
    obtain ⟨q0, q1, q2⟩ := q
    simp only at hq
    subst hq
    have hc := h.cells (0, q1, q2) rfl
    simp only at hc ⊢
    by_cases e : q1 = (a : Int) ∧ q2 = 0
    · obtain ⟨rfl, rfl⟩ := e
      rw [if_pos rfl, if_pos ⟨rfl, by omega⟩, Int.toNat_natCast, List.getD_eq_getElem?_getD, List.getElem?_set_self (by rw [h.vl]; exact ha)]
      show redu b = b
      unfold redu; omega
    · rw [if_neg (by simpa using e), hc]
      split
      · rename_i e2
        rw [List.getD_eq_getElem?_getD, List.getD_eq_getElem?_getD, List.getElem?_set_ne (by omega)]
      · rfl
theorem Ls.less {qs : List (List QK)} {n i : Nat} {vs : List Int} {st : St} (h : Ls qs n i vs st) {f : QK → Option Rec} (hf : ∀ q r, f q = some r → st.res q = some r) : Ls qs n i vs { st with res := f } := by
  obtain ⟨hist, hi⟩ := h.inv
  exact ⟨⟨hist, hi.less hf st.comps⟩, h.now, h.clk, fun q r hq => h.dl q r (hf q r hq), h.d2, h.vl, h.vr, h.cells⟩
theorem Ls.fin {qs : List (List QK)} (hl : qs.length ≤ 40) {n i : Nat} {vs : List Int} {st : St} (h : Ls qs n i vs st) : ∃ Ks : List QK, Ks.length ≤ 1000000 ∧ ∀ k r, st.res k = some r → k ∈ Ks :=
  ⟨KsQ qs.length, by rw [ksQ_len]; omega, fun k r hk => (h.dl k r hk).1⟩
theorem Ls.get {inp : Int} {qs : List (List QK)} (hP : ValP inp qs) {n i : Nat} {vs : List Int} {st : St} (h : Ls qs n i vs st) {k : QK} (hk : k ∈ KsQ qs.length) (stp : Int → Bool) :
    ∃ o st', Memo.upd stp (cpQ qs) 41 [] k st = some (o, st') ∧ Ls qs n (i + 1) vs st' ∧ ∀ r, o = some r → r.val = sem (cpQ qs) rkQ (vals st.cell) k ∧ r.val.nums.length ≤ lim := by
  obtain ⟨hist, hi⟩ := h.inv
  have hk' := ksQ_mem.1 hk
  have hl := hP.len
  have hk0 : k.1 ≠ 0 := by rw [hk'.1]; decide
  obtain ⟨o, st', h1, h2, h3, h4⟩ := upd_ok (bndQ hP) stp 41 [] k st (by unfold rkQ; omega) (fun a h => by cases h) hk0 hi
  have hc := upd_cst (clkQ hP) stp 41 [] k st o st' hk h.dl h1
  have hph : Ph (KsQ qs.length) st ≤ 40 := Nat.le_trans (List.length_filter_le _ _) (by rw [ksQ_len]; exact hl)
  refine ⟨o, st', h1, ⟨⟨hist, h2⟩, by rw [h3.now]; have := h.now; omega, ?_, hc.dl, by rw [h3.cell]; exact h.d2, h.vl, h.vr, by rw [h3.cell]; exact h.cells⟩, fun r e => ?_⟩
  · have := hc.clk
    have := h.clk
    have : ce o 1 (41 * 41) ≤ 1681 := by cases o <;> simp [ce]
    omega
  · obtain ⟨h5, h6⟩ := h4 r e
    have hv := (h2.recs k r h5).val
    rw [h6, Ev, hi.hnow] at hv
    refine ⟨hv, ?_⟩
    rw [hv]
    exact Nat.le_trans (sem_len hP _ h.good k) (by unfold lim; omega)
theorem Ls.got {inp : Int} {qs : List (List QK)} (hP : ValP inp qs) {n i : Nat} {vs : List Int} {st : St} (h : Ls qs n i vs st) {k : QK} (hk : k ∈ KsQ qs.length) :
    ∃ r st', Memo.upd (fun _ => false) (cpQ qs) 41 [] k st = some (some r, st') ∧ Ls qs n (i + 1) vs st' ∧ r.val = sem (cpQ qs) rkQ (vals st.cell) k ∧ r.val.nums.length ≤ lim := by
  obtain ⟨o, st', h1, h2, h3⟩ := h.get hP hk fun _ => false
  cases o with
  | none => exact (upd_nc 41 [] k st st' h1).elim
  | some r => exact ⟨r, st', h1, h2, h3 r rfl⟩
theorem Ls.agree {inp : Int} {qs : List (List QK)} (hP : ValP inp qs) {n i j : Nat} {vs : List Int} {st st2 : St} (h : Ls qs n i vs st) (h2 : Ls qs n j vs st2) {k : QK} (hk : k ∈ KsQ qs.length) : sem (cpQ qs) rkQ (vals st.cell) k = sem (cpQ qs) rkQ (vals st2.cell) k :=
  sem_heads hP (fun q hq => by show hdv (st.cell q).val = hdv (st2.cell q).val; rw [h.cells q hq, h2.cells q hq]) (rkQ k + 1) k (by rw [(ksQ_mem.1 hk).1]; decide) (Nat.lt_succ_self _)
theorem chkAll_zero {inp : Int} : ∀ (qs : List (List QK)) (i : Nat), chkAll inp qs i = 0 → ∀ (j : Nat) (h : j < qs.length), chkQ inp ((i + j : Nat) : Int) qs[j] 0 = 0
  | [], _, _, j, h => by simp at h
  | q :: qs, i, h0, j, h => by
    rw [chkAll] at h0
    split at h0
    · rename_i h1
      cases j with
      | zero => exact h1
      | succ j =>
        have := chkAll_zero qs (i + 1) h0 j (by simpa using h)
        rw [show i + 1 + j = i + (j + 1) by omega] at this
        exact this
    · rename_i h1; exact absurd h0 h1
theorem valP_of {inp : Int} {qs : List (List QK)} (h : chkP inp qs = 0) : ValP inp qs ∧ 0 ≤ inp ∧ inp ≤ 40 := by
  unfold chkP at h
  split at h
  · cases h
  rename_i h1
  split at h
  · cases h
  rename_i h2
  have h3 : ¬ (qs.any fun q => decide ((q.length : Int) > 20)) = true := fun e => h1 (.inr (.inr e))
  refine ⟨⟨by omega, fun i hi => ⟨?_, ?_⟩⟩, by omega, by omega⟩
  · by_cases h4 : (qs[i]).length ≤ 20
    · exact h4
    · exact absurd (List.any_eq_true.2 ⟨qs[i], List.getElem_mem hi, decide_eq_true (by omega)⟩) h3
  · have := chkAll_zero qs 0 h i hi
    rw [Nat.zero_add] at this; exact this
end Go.Abs
set_option maxRecDepth 4000
namespace Go.Abs
open Go.Proofs Go.Memo
def rowQ (qs : List (List QK)) (i : Nat) : List PV := (qs.take i).map ksE ++ List.replicate (qs.length - i) (.slice [] .full)
theorem rowQ_len (qs : List (List QK)) {i : Nat} (hi : i ≤ qs.length) : (rowQ qs i).length = qs.length := by simp [rowQ]; omega
theorem rowQ_set (qs : List (List QK)) {i : Nat} (hi : i < qs.length) : (rowQ qs i).set i (ksE qs[i]) = rowQ qs (i + 1) := by
  unfold rowQ
  rw [List.set_append_right _ _ (by simp; omega)]
  obtain ⟨m, hm⟩ : ∃ m, qs.length - i = m + 1 := ⟨qs.length - i - 1, by omega⟩
  have e : i - ((qs.take i).map ksE).length = 0 := by simp; omega
  rw [e, hm, List.replicate_succ, List.set_cons_zero, show qs.length - (i + 1) = m from by omega, List.take_succ_eq_append_getElem hi]
  simp only [List.map_append, List.map_cons, List.map_nil, List.append_assoc, List.singleton_append]
theorem rowQ_all (qs : List (List QK)) : rowQ qs qs.length = qs.map ksE := by simp [rowQ]
theorem compile_c (inp : Int) (qs : List (List QK)) (hV : chkP inp qs = 0) (H : Heap) : ACalls Try.prog 7 [.agg [vint inp, .slice (qs.map ksE) .none]] H (fun r H' => r = .fn (.func 24) [] [.optr (H.length + 1) 0, .optr (H.length + 3) 0] ∧ H' = H ++ [.row [vint inp, .slice (qs.map ksE) .none], .row [.bool true], .row (rowQ qs qs.length), .row [.msl (H.length + 2) 0 qs.length qs.length]]) := by
  obtain ⟨hP, hi0, hi1⟩ := valP_of hV
  have hq40 := hP.len
  have hz0 : List.replicate qs.length (PV.slice [] .full) = rowQ qs 0 := by simp [rowQ]
  have hd0 : decide ((0 : Int) = 0) = true := by decide
  have gmr : ((qs.length : Int) ≤ (qs.length : Int)) = True := by simp
  have gms : (0 ≤ (qs.length : Int)) = True := by simp
  have gm2 : ((qs.length : Int) * 24 ≤ 140737488355328) = True := by simp only [eq_iff_iff, iff_true]; omega
  have gm3 : ((qs.length : Int) ≤ maxLen) = True := by simp only [eq_iff_iff, iff_true, maxLen]; omega
  have hfl : (List.replicate qs.length [PV.slice [] .full]).flatten = rowQ qs 0 := by
    rw [← hz0]
    generalize qs.length = n
    induction n with
    | zero => rfl
    | succ n ih => rw [List.replicate_succ, List.replicate_succ, List.flatten_cons, ih]; rfl
  refine acalls_of (N := 29) Try.func7 rfl rfl (by simp) fun hb' => ?_
  repeat (refine awp_seq ?_)
  refine e_eval (by simp only [jA, jO, jN, seval, y24, vint, ksE_cells, kE_cells, ksE_drop1, kE_drop1] <;> with_reducible rfl) (by decide) ?_
  repeat (refine awp_seq ?_)
  refine awp_region ?_
  refine e_take 1 (by simp only [jA, jO, jN, seval, y24, vint, ksE_cells, kE_cells, ksE_drop1, kE_drop1, hV, hd0, decide_true] <;> with_reducible rfl) (by decide) ?_
  refine aops_pure (by simp only [jC, jN, seval, vint, ksE_cells, kE_cells, ksE_drop1, kE_drop1, hV, hd0, decide_true] <;> with_reducible rfl) (by simp only [jC, jN, seval, vint, ksE_cells, kE_cells, ksE_drop1, kE_drop1, hV, hd0, decide_true]) (by decide) Trygo20 (check_c inp qs (by unfold maxLen; omega) _) ?_
  refine e_end (by simp only [jA, jO, jN, seval, y4, y38, vint, ksE_cells, kE_cells, ksE_drop1, kE_drop1, hV, hd0, decide_true] <;> with_reducible rfl) (by decide) ?_
  repeat (refine awp_seq ?_)
  refine awp_ext ?_
  refine awp_region ?_
  refine e_take 3 (by simp only [jA, jO, jN, seval, y22, y24, y53, vint, ksE_cells, kE_cells, ksE_drop1, kE_drop1] <;> with_reducible rfl) (by decide) ?_
  refine aops_opF true (H.length + 2) (by simp) rfl (by decide) (v := .msl (H.length + 2) 0 qs.length qs.length) (e := some (H.length + 2, .row (rowQ qs 0))) (H' := H ++ [.row [vint inp, .slice (qs.map ksE) .none], .row [.bool true], .row (rowQ qs 0)]) (by simp only [jD, jO, jN, seval, y22, y53, vint, ksE_cells, kE_cells, ksE_drop1, kE_drop1, gms, gmr, gm2, gm3, hfl, PV.fits, PV.cells, Int.toNat_natCast, amakeSlice] <;> rfl) (by simp [Eff.app]) ?_
  refine e_end (by simp only [jA, jO, jN, seval, y22, y53, vint, ksE_cells, kE_cells, ksE_drop1, kE_drop1] <;> with_reducible rfl) (by decide) ?_
  repeat (refine awp_seq ?_)
  refine e_eval (by simp only [jA, jO, jN, seval, y22, y24, y53, vint, ksE_cells, kE_cells, ksE_drop1, kE_drop1] <;> with_reducible rfl) (by decide) ?_
  repeat (refine awp_seq ?_)
  refine awp_block ?_
  refine awp_loopX (σ := Nat) (fun (z : Nat) => [(1, .optr H.length 0), (3, .optr (H.length + 1) 0), (4, .optr (H.length + 3) 0), (15, .slice (qs.map ksE) .none), (16, vint (qs.length : Int)), (17, vint (z : Int))]) (fun (z : Nat) =>  fun H1 => z ≤ qs.length ∧ H1 = H ++ [.row [vint inp, .slice (qs.map ksE) .none], .row [.bool true], .row (rowQ qs z), .row [.msl (H.length + 2) 0 qs.length qs.length]]) (fun (z : Nat) => qs.length - z) (0) ⟨(by first | rfl | (simp only [jN, seval, vint, ksE_cells, kE_cells, ksE_drop1, kE_drop1] <;> first | done | with_reducible rfl)), (by first | rfl | (simp only [jN, seval, vint, ksE_cells, kE_cells, ksE_drop1, kE_drop1] <;> first | done | with_reducible rfl)), (by first | rfl | (simp only [jN, seval, vint, ksE_cells, kE_cells, ksE_drop1, kE_drop1] <;> first | done | with_reducible rfl)), (by first | rfl | (simp only [jN, seval, vint, ksE_cells, kE_cells, ksE_drop1, kE_drop1] <;> first | done | with_reducible rfl)), (by first | rfl | (simp only [jN, seval, vint, ksE_cells, kE_cells, ksE_drop1, kE_drop1] <;> first | done | with_reducible rfl)), (by first | rfl | (simp only [jN, seval, vint, ksE_cells, kE_cells, ksE_drop1, kE_drop1] <;> first | done | with_reducible rfl)), trivial⟩ (⟨Nat.zero_le _, rfl⟩) ?_
  intro z H1 hg
  obtain ⟨hz, hH1⟩ := hg
  have gj : IntKind.i64.wrap ((z : Int) + 1) = ((z + 1 : Nat) : Int) := by rw [wrap_id (by omega) (by omega)]; omega
  have gl : decide ((z : Int) < (qs.length : Int)) = decide (z < qs.length) := by rw [decide_eq_decide]; omega
  have r2 : H1[H.length + 2]? = some (.row (rowQ qs z)) := by rw [hH1]; simp
  have r3 : H1[H.length + 3]? = some (.row [.msl (H.length + 2) 0 qs.length qs.length]) := by rw [hH1]; simp
  have r1 : H1.length = H.length + 4 := by rw [hH1]; simp
  have rl := rowQ_len qs hz
  repeat (refine awp_seq ?_)
  refine e_eval (by simp only [jA, jO, jN, seval, y3, vint, ksE_cells, kE_cells, ksE_drop1, kE_drop1, gj, gl, r2, r3, rl] <;> with_reducible rfl) (by decide) ?_
  repeat (refine awp_seq ?_)
  refine awp_cond rfl (by simp only [jN, seval, vint, ksE_cells, kE_cells, ksE_drop1, kE_drop1, gj, gl, r2, r3, rl] <;> with_reducible rfl) (fun bt18 => ?_) (fun bt18 => ?_)
  ·
    have hlt : z < qs.length := of_decide_eq_true bt18
    have gi := ix_nat hlt
    have ge := get_enc ksE hlt
    have gb := rowQ_set qs hlt
    obtain ⟨h20, hch⟩ := hP.each z hlt
    have gm : (z + 1 ≤ qs.length) = True := by simp; omega
    repeat (refine awp_seq ?_)
    refine awp_skip ?_
    repeat (refine awp_seq ?_)
    refine awp_block ?_
    repeat (refine awp_seq ?_)
    refine e_eval (by simp only [jA, jO, jN, seval, y22, y52, y53, vint, ksE_cells, kE_cells, ksE_drop1, kE_drop1, gj, gl, r2, r3, rl, gi, ge, Int.toNat_natCast] <;> with_reducible rfl) (by decide) ?_
    repeat (refine awp_seq ?_)
    refine x_draw 0 rfl (by kernel_rfl) ?_
    refine x1_take 3 rfl (by simp only [jP, jO, jN, seval, y22, y53, vint, ksE_cells, kE_cells, ksE_drop1, kE_drop1, gj, gl, r2, r3, rl, gi, ge, gb, gm, Int.toNat_natCast, Nat.mul_one, Nat.zero_add, splice] <;> with_reducible rfl) (by decide) (by decide) (by decide) ?_
    refine x1_keep rfl (by simp only [jE, jN, seval, vint, ksE_cells, kE_cells, ksE_drop1, kE_drop1, gj, gl, r2, r3, rl, gi, ge, gb, gm, Int.toNat_natCast, Nat.mul_one, Nat.zero_add, splice] <;> with_reducible rfl) (by simp only [jE, jN, seval, vint, ksE_cells, kE_cells, ksE_drop1, kE_drop1, gj, gl, r2, r3, rl, gi, ge, gb, gm, Int.toNat_natCast, Nat.mul_one, Nat.zero_add, splice] <;> with_reducible rfl) (by simp only [jE, jN, seval, vint, ksE_cells, kE_cells, ksE_drop1, kE_drop1, gj, gl, r2, r3, rl, gi, ge, gb, gm, Int.toNat_natCast, Nat.mul_one, Nat.zero_add, splice]) (by decide) Trygo23 (fun hc L => cloneOps qs[z] (by omega) _) ?_
    refine x1_take 1 rfl (by simp only [jP, jO, jN, seval, y22, y53, vint, ksE_cells, kE_cells, ksE_drop1, kE_drop1, gj, gl, r2, r3, rl, gi, ge, gb, gm, Int.toNat_natCast, Nat.mul_one, Nat.zero_add, splice] <;> with_reducible rfl) (by decide) (by decide) (by decide) ?_
    refine x_mid (by first | (simp only [LS, HS, List.append_assoc, List.cons_append, List.nil_append, gj, gl, r2, r3, rl, gi, ge, gb, gm, Int.toNat_natCast, Nat.mul_one, Nat.zero_add, splice] <;> with_reducible rfl) | rfl) ?_
    refine x2_end (bm := [0, 0, 0, 4, 15, 31]) (fresh := 0) (by kernel_rfl) (by simp only [jX, jO, jN, seval, y52, y53, vint, ksE_cells, kE_cells, ksE_drop1, kE_drop1, gj, gl, r2, r3, rl, gi, ge, gb, gm, Int.toNat_natCast, Nat.mul_one, Nat.zero_add, splice] <;> with_reducible rfl) (by decide) (by repeat (first | exact Fin.base _ | with_reducible apply Fin.keep | apply Fin.drop)) ?_
    repeat (refine awp_seq ?_)
    refine e_eval (by simp only [jA, jO, jN, seval, y3, vint, ksE_cells, kE_cells, ksE_drop1, kE_drop1, gj, gl, r2, r3, rl] <;> with_reducible rfl) (by decide) ?_
    try simp only [thenQ, blockQ]
    exact ⟨z + 1, by show _ < _; omega, (by repeat (first | exact trivial | refine ⟨rfl, ?_⟩)), by omega, by rw [hH1, ← gb]; simp [ksE]⟩
  ·
    have hge := of_decide_eq_false bt18
    obtain rfl : z = qs.length := by omega
    repeat (refine awp_seq ?_)
    refine awp_exit ?_
    simp only [thenQ, blockQ, reduceIte, Nat.reduceEqDiff, Nat.succ_ne_self, if_true, if_false]
    repeat (refine awp_seq ?_)
    refine e_eval (by simp only [jA, jO, jN, seval, vint, ksE_cells, kE_cells, ksE_drop1, kE_drop1, gj, gl, r2, r3, rl] <;> with_reducible rfl) (by decide) ?_
    repeat (refine awp_seq ?_)
    refine awp_ret ⟨.inr rfl, _, rfl, ?_⟩
    exact ⟨rfl, hH1⟩
end Go.Abs
set_option maxHeartbeats 1000000
namespace Go.Abs
open Go.Proofs Go.Memo
theorem get_c {cx : Cx} (hx : CxOk cx) (n : Nat) (k : QK) (hk : k.1 ≠ 0) (loc : QK → Nat) (st : St) (G : FPl) (H : Heap) (o : Option Rec) (st' : St) (hm : Memo.upd (fun _ => false) cx.cp n [] k st = some (o, st')) (hl : ∀ r, o = some r → r.val.nums.length ≤ lim) (hW : WR cx.off loc [] st false G H) :
    ACalls Try.prog 17 [.optr cx.ix.d 0, kE k] H (fun r H' => ∃ loc' G', r = .tup [ansV o, vint (ansE o)] ∧ WR cx.off loc' [] st' o.isNone G' H' ∧ FrS G G' H H') := by
  obtain ⟨k1, k2, k3⟩ := k
  refine acalls_of (N := 11) Try.func17 rfl rfl (by simp) fun hb' => ?_
  repeat (refine awp_seq ?_)
  refine e_eval (by simp only [jA, jO, jN, seval, y37, y41, vint, ksE_cells, kE_cells, ksE_drop1, kE_drop1, kE, nfF] <;> with_reducible rfl) (by decide) ?_
  refine awp_abs (fun H1 => WR cx.off loc [] st false G H1 ∧ FrS G G H H1 ∧ H1[H.length]? = some (.row [vint k1, vint k2, vint k3]) ∧ H1[H.length + 1]? = some (.row [.slice [] .full, .str []])) ⟨hW.app hx.off _, FrS.app _ _ _ (hW.lt hx.off), by simp, by simp⟩ ?_
  rintro H1 ⟨W1, f1, b3, b4⟩
  have nG : ∀ id, H.length ≤ id → ¬ G id := fun id hid h => by have := hW.lt hx.off _ h; omega
  ·
    repeat (refine awp_seq ?_)
    refine awp_region ?_
    refine e_take 2 (by simp only [jA, jO, jN, seval, y37, vint, ksE_cells, kE_cells, ksE_drop1, kE_drop1, kE, nfF, b3] <;> with_reducible rfl) (by decide) ?_
    refine aops_acall (by simp only [jC, jN, seval, vint, ksE_cells, kE_cells, ksE_drop1, kE_drop1, kE, nfF, b3] <;> with_reducible rfl) (by simp only [jC, jN, seval, vint, ksE_cells, kE_cells, ksE_drop1, kE_drop1, kE, nfF, b3]) (by decide) Trygo12 (show ACalls Try.prog 12 [.optr cx.ix.d 0, .agg [.int .i64 k1, .int .i64 k2, .int .i64 k3], .nilfn] H1 _ from getUntil_c hx.off n (k1, k2, k3) hk loc st G H1 o st' hm hl W1) ?_
    rintro _ H2 ⟨loc', G2, rfl, w2, f2⟩
    obtain ⟨p4, nG2⟩ := f2.get b4 (nG _ (by omega))
    obtain ⟨na, ta, hans⟩ : ∃ na ta, ansV o = .agg [.slice na .none, .str ta] := by cases o <;> exact ⟨_, _, rfl⟩
    have v4 : (H.length + 1 = H2.length) = False := by have := len_of_get p4; simp; omega
    have q4 : ∀ o, (H2.set (H.length + 1) o)[H.length + 1]? = some o := fun o => List.getElem?_set_self (len_of_get p4)
    refine e_end (by simp only [jA, jO, jN, seval, y41, vint, ksE_cells, kE_cells, ksE_drop1, kE_drop1, kE, nfF, b3, p4, hans, v4] <;> with_reducible rfl) (by decide) ?_
    repeat (refine awp_seq ?_)
    refine awp_ret ⟨.inr rfl, _, (ares_two (.cell 4 41) (.tmp 5) rfl (ares_cell1 Tryti41 (by decide) (by simp only [jL, jN, seval, vint, ksE_cells, kE_cells, ksE_drop1, kE_drop1, kE, nfF, b3, p4, hans, v4, q4] <;> with_reducible rfl)) (ares_tmp1 (by decide))), ?_⟩
    refine ⟨loc', G2, ?_, w2.fr hx.off fun id hi => List.getElem?_set_ne (by rintro rfl; exact nG2 hi), (f1.trans f2).new (by omega) _⟩
    rw [hans]
    rfl
theorem inNew (H : Heap) : ACalls Try.prog 22 [] H fun r H' => r = .optr (H.length + 1) 0 ∧ H' = H ++ [.obj (.mapg [] 0), stRow 0 0 0 0 H.length] := by
  refine acalls_of (N := 4) Try.func22 rfl rfl (by simp) fun hb' => ?_
  repeat (refine awp_seq ?_)
  refine e_eval (by simp only [jA, jO, jN, seval, vint, ksE_cells, kE_cells, ksE_drop1, kE_drop1, Option.isSome_some, mpF] <;> with_reducible rfl) (by decide) ?_
  repeat (refine awp_seq ?_)
  refine e_eval (by simp only [jA, jO, jN, seval, y93, y96, y101, vint, ksE_cells, kE_cells, ksE_drop1, kE_drop1, Option.isSome_some, mpF] <;> with_reducible rfl) (by decide) ?_
  repeat (refine awp_seq ?_)
  refine awp_ret ⟨.inr rfl, _, rfl, ?_⟩
  exact ⟨rfl, by simp [stRow, vint]⟩
theorem memNew (f : FuncId) (caps : List PV) (H : Heap) : ACalls Try.prog 6 [.fn (.func f) [] caps] H fun r H' => r = .optr (H.length + 4) 0 ∧ H' = H ++ [.obj (.mapg [] 0), stRow 0 0 0 0 H.length, .obj (.mapg [] 0), .obj (.mapg [] 0), .row [.fn (.func f) [] caps, .optr (H.length + 1) 0, .mapp (H.length + 2), .mapp (H.length + 3), .nilfn, vint 0, vint 0]] := by
  refine acalls_of (N := 11) Try.func6 rfl rfl (by simp) fun hb' => ?_
  repeat (refine awp_seq ?_)
  refine e_eval (by simp only [jA, jO, jN, seval, vint, ksE_cells, kE_cells, ksE_drop1, kE_drop1, nfF, mpF, Option.isSome_some] <;> with_reducible rfl) (by decide) ?_
  repeat (refine awp_seq ?_)
  refine awp_region ?_
  refine e_take 1 (by simp only [jA, jO, jN, seval, vint, ksE_cells, kE_cells, ksE_drop1, kE_drop1, nfF, mpF, Option.isSome_some] <;> with_reducible rfl) (by decide) ?_
  refine aops_fncmp (op := .eql) rfl (.inl rfl) (by simp only [jC, jN, seval, vint]) (by decide) Try.underlying30 (v := false) (.inl ⟨by simp only [jC, jN, seval, vint] <;> rfl, rfl⟩) ?_
  refine aops_nil ?_
  repeat (refine awp_seq ?_)
  refine awp_cond_false rfl (by simp only [jN, seval, vint, ksE_cells, kE_cells, ksE_drop1, kE_drop1, nfF, mpF, Option.isSome_some] <;> with_reducible rfl) ?_
  repeat (refine awp_seq ?_)
  refine awp_skip ?_
  repeat (refine awp_seq ?_)
  refine awp_region ?_
  refine e_take 1 (by simp only [jA, jO, jN, seval, vint, ksE_cells, kE_cells, ksE_drop1, kE_drop1, nfF, mpF, Option.isSome_some] <;> with_reducible rfl) (by decide) ?_
  refine aops_acall (by simp only [jC, jN, seval, vint] <;> rfl) (by simp only [jC, jN, seval, vint]) (by decide) Trygo22 (inNew _) ?_
  rintro _ H1 ⟨rfl, rfl⟩
  refine e_end (by simp only [jA, jO, jN, seval, y3, y59, y60, y62, y85, vint, ksE_cells, kE_cells, ksE_drop1, kE_drop1, nfF, mpF, Option.isSome_some] <;> with_reducible rfl) (by decide) ?_
  repeat (refine awp_seq ?_)
  refine awp_ret ⟨.inr rfl, _, rfl, ?_⟩
  exact ⟨rfl, by simp [vint]⟩
theorem computations_c {id : Nat} {H : Heap} {v0 v1 v2 v3 v4 v6 : PV} {n : Int} (h1 : H[id]? = some (.row [v0, v1, v2, v3, v4, vint n, v6])) : ACalls Try.prog 11 [.optr id 0] H fun r' H' => r' = vint n ∧ H' = H := by
  simp only [vint] at h1
  have h1L := getL h1
  refine keeps_of (N := 7) Try.func11 rfl rfl (by simp) (.int _ _) fun hb' => ?_
  repeat (refine awp_seq ?_)
  refine e_eval (by simp only [jA, jO, jN, seval, vint, ksE_cells, kE_cells, ksE_drop1, kE_drop1, h1, h1L] <;> with_reducible rfl) (by decide) ?_
  repeat (refine awp_seq ?_)
  refine e_eval (by simp only [jA, jO, jN, seval, y3, y62, vint, ksE_cells, kE_cells, ksE_drop1, kE_drop1, h1, h1L] <;> with_reducible rfl) (by decide) ?_
  repeat (refine awp_seq ?_)
  refine awp_ret ⟨.inr rfl, _, _, rfl, ?_, (by first | exact (List.append_nil _).symm | rfl)⟩
  simp only [jN, seval, vint, ksE_cells, kE_cells, ksE_drop1, kE_drop1]
end Go.Abs
namespace Go.Abs
open Go.Proofs Go.Memo
theorem inSet {cx : Cx} (hx : CxOk cx) (k : QK) (hk : k.1 = 0) (v : QV) (d : Nat) (hd : d ≤ 2) (hv : v.nums.length ≤ lim) (loc : QK → Nat) (act : List QK) (st : St) (b : Bool) (G : FPl) (H : Heap) (hd0 : ∀ q, (st.cell q).d ≤ 2) (hnow : st.now < 2 ^ 62) (hW : WR cx loc act st b G H) :
    ACalls Try.prog 28 [.optr cx.ix.s 0, kE k, qvE v, vint (d : Int)] H (fun r H' => ∃ bb, r = .tup [.bool bb, vint 0] ∧ WR cx loc act (setI k v d st) b G H' ∧ FrS G G H H') := by
  obtain ⟨k1, k2, k3⟩ := k
  simp only at hk
  subst hk
  have t14 : (!decide ((0 : Int) = 0)) = false := by simp
  have t20a : decide ((d : Int) < 0) = false := decide_eq_false (by omega)
  have t20b : decide ((d : Int) ≥ 3) = false := decide_eq_false (by omega)
  refine acalls_of (N := 75) Try.func28 rfl rfl (by simp) fun hb' => ?_
  repeat (refine awp_seq ?_)
  refine e_eval (by simp only [jA, jO, jN, seval, y37, y41, vint, ksE_cells, kE_cells, ksE_drop1, kE_drop1, kE, qvE, t14, t20a, t20b, Bool.or_self] <;> with_reducible rfl) (by decide) ?_
  repeat (refine awp_seq ?_)
  refine e_eval (by simp only [jA, jO, jN, seval, y3, y37, vint, ksE_cells, kE_cells, ksE_drop1, kE_drop1, kE, qvE, t14, t20a, t20b, Bool.or_self] <;> with_reducible rfl) (by decide) ?_
  repeat (refine awp_seq ?_)
  refine awp_cond_false rfl (by simp only [jN, seval, vint, ksE_cells, kE_cells, ksE_drop1, kE_drop1, kE, qvE, t14, t20a, t20b, Bool.or_self] <;> with_reducible rfl) ?_
  repeat (refine awp_seq ?_)
  refine awp_skip ?_
  repeat (refine awp_seq ?_)
  refine g_eval (by simp only [jG, jO, jN, seval, y3, vint, ksE_cells, kE_cells, ksE_drop1, kE_drop1, kE, qvE, t14, t20a, t20b, Bool.or_self] <;> with_reducible rfl) (by decide) (by repeat (first | exact Fin.base _ | with_reducible apply Fin.keep | apply Fin.drop)) ?_
  repeat (refine awp_seq ?_)
  refine awp_cond_false rfl (by simp only [jN, seval, vint, ksE_cells, kE_cells, ksE_drop1, kE_drop1, kE, qvE, t14, t20a, t20b, Bool.or_self] <;> with_reducible rfl) ?_
  repeat (refine awp_seq ?_)
  refine awp_skip ?_
  refine awp_abs (fun HA => WR cx loc act st b G HA ∧ FrS G G H HA ∧ HA[H.length]? = some (.row [vint 0, vint k2, vint k3]) ∧ HA[H.length + 1]? = some (.row [.slice (v.nums.map vint) .none, .str v.text]) ∧ HA.length = H.length + 2) ⟨hW.app hx _, FrS.app _ _ _ (hW.lt hx), by simp, by simp, by simp⟩ ?_
  rintro HA ⟨W1, f1, b5, b6, l1⟩
  obtain ⟨F1, D1, _, _, hG1, _⟩ := id W1
  have hs1 := D1.sto
  simp only [stRow, vint] at hs1
  obtain ⟨ces, cclk, hc1, hcn, hcg⟩ := D1.cells
  obtain ⟨tl, gE⟩ := gz (hcg (0, k2, k3))
  have b5L := getL b5
  have b6L := getL b6
  have hs1L := getL hs1
  have hc1L := getL hc1
  have nG : ∀ id, H.length ≤ id → ¬ G id := fun id hid h => by have := hW.lt hx _ h; omega
  have ns : ∀ id, H.length ≤ id → id ≠ cx.ix.s := fun id hid e => nG id hid (by rw [hG1]; exact .inl (e ▸ D1.own.2.1))
  have nc : ∀ id, H.length ≤ id → id ≠ cx.ix.c := fun id hid e => nG id hid (by rw [hG1]; exact .inl (e ▸ D1.own.2.2.2.1))
  have hml : (st.cell (0, k2, k3)).val.nums.length ≤ maxLen := by
    have em : maxLen = 9223372036854775807 := by decide
    have := D1.okc (0, k2, k3)
    unfold lim at this
    omega
  have hdd : decide (((st.cell (0, k2, k3)).d : Int) = (d : Int)) = decide ((st.cell (0, k2, k3)).d = d) := by rw [decide_eq_decide]; omega
  ·
    repeat (refine awp_seq ?_)
    refine x_draw 1 (n0 := HA.length) (by first | rfl | (simp only [List.length_append, List.length_cons, List.length_nil, Nat.reduceAdd, Nat.zero_add, kE, qvE, t14, t20a, t20b, Bool.or_self, b5, b6, b5L, b6L, hs1, hs1L, hc1, hc1L, gE, alookup, t20a, t20b, hdd]; done)) (by kernel_rfl) ?_
    refine x1_take 6 (by first | rfl | (simp only [List.length_append, List.length_cons, List.length_nil, Nat.reduceAdd, Nat.zero_add, kE, qvE, t14, t20a, t20b, Bool.or_self, b5, b6, b5L, b6L, hs1, hs1L, hc1, hc1L, gE, alookup, t20a, t20b, hdd]; done)) (by simp only [jP, jO, jN, seval, y37, y93, y96, y101, vint, ksE_cells, kE_cells, ksE_drop1, kE_drop1, kE, qvE, t14, t20a, t20b, Bool.or_self, b5, b6, b5L, b6L, hs1, hs1L, hc1, hc1L, gE, alookup, t20a, t20b, hdd] <;> with_reducible rfl) (by decide) (by decide) (by decide) ?_
    refine x_mid (by first | (simp only [LS, HS, List.append_assoc, List.cons_append, List.nil_append, kE, qvE, t14, t20a, t20b, Bool.or_self, b5, b6, b5L, b6L, hs1, hs1L, hc1, hc1L, gE, alookup, t20a, t20b, hdd] <;> with_reducible rfl) | rfl) ?_
    refine x2_end (bm := [0, 1, 3, 7, 0, 31, 0, 127]) (fresh := (HA.length)) (by kernel_rfl) (by simp only [jX, jO, jN, seval, y101, vint, ksE_cells, kE_cells, ksE_drop1, kE_drop1, kE, qvE, t14, t20a, t20b, Bool.or_self, b5, b6, b5L, b6L, hs1, hs1L, hc1, hc1L, gE, alookup, t20a, t20b, hdd] <;> with_reducible rfl) (by decide) (by repeat (first | exact Fin.base _ | with_reducible apply Fin.keep | apply Fin.drop)) ?_
    refine awp_sel [0, 3, 5, 6, 10] (by simp only [jN, seval, vint, ksE_cells, kE_cells, ksE_drop1, kE_drop1, kE, qvE, t14, t20a, t20b, Bool.or_self, b5, b6, b5L, b6L, hs1, hs1L, hc1, hc1L, gE, alookup, t20a, t20b, hdd] <;> with_reducible rfl) ?_
    refine awp_abs (fun HB => HB.length = HA.length + 1 ∧ (∀ id, id < HA.length → HB[id]? = HA[id]?) ∧ HB[HA.length]? = some (.row [.slice ((st.cell (0, k2, k3)).val.nums.map vint) tl, .str (st.cell (0, k2, k3)).val.text, .int .i64 ((st.cell (0, k2, k3)).c : Int), .int .i64 ((st.cell (0, k2, k3)).d : Int)])) ⟨by simp, fun id hid => by simp [List.getElem?_append_left hid], by simp [vint]⟩ ?_
    rintro HB ⟨l2, h2s, h2t⟩
    have g5 := (h2s _ (len_of_get b5)).trans b5
    have g6 := (h2s _ (len_of_get b6)).trans b6
    have gs := (h2s _ (len_of_get hs1)).trans hs1
    have gc := (h2s _ (len_of_get hc1)).trans hc1
    have gw : IntKind.i64.wrap ((st.now : Int) + 1) = ((st.now + 1 : Nat) : Int) := by rw [wrap_id (by omega) (by omega)]; omega
    have hdk := hd0 (0, k2, k3)
    have gm : max ((st.cell (0, k2, k3)).d : Int) (d : Int) = ((max (st.cell (0, k2, k3)).d d : Nat) : Int) := by omega
    have gm1 : IntKind.i64.wrap (((max (st.cell (0, k2, k3)).d d : Nat) : Int) + 1) = ((max (st.cell (0, k2, k3)).d d + 1 : Nat) : Int) := by rw [wrap_id (by omega) (by omega)]; omega
    have vs2 : (cx.ix.s = HB.length) = False := by have := len_of_get gs; simp; omega
    have W2 : WR cx loc act st b G HB := W1.fr hx fun id hi => h2s id (W1.lt hx id hi)
    have f2 : FrS G G H HB := f1.upd (by omega) fun id hid => h2s id (by omega)
    ·
      repeat (refine awp_seq ?_)
      refine awp_region ?_
      refine aops_gstart ?_
      refine g_take 8 (by simp only [jG, jO, jN, seval, y3, y41, y101, vint, ksE_cells, kE_cells, ksE_drop1, kE_drop1, kE, qvE, t14, t20a, t20b, Bool.or_self, b5, b6, b5L, b6L, hs1, hs1L, hc1, hc1L, gE, alookup, t20a, t20b, hdd, g5, g6, gs, gc, h2t, gw, gm, gm1, vs2] <;> with_reducible rfl) (by decide) ?_
      refine aops_gpure (by simp only [jE, jN, seval, vint, ksE_cells, kE_cells, ksE_drop1, kE_drop1, kE, qvE, t14, t20a, t20b, Bool.or_self, b5, b6, b5L, b6L, hs1, hs1L, hc1, hc1L, gE, alookup, t20a, t20b, hdd, g5, g6, gs, gc, h2t, gw, gm, gm1, vs2] <;> with_reducible rfl) (by simp only [jE, jN, seval, vint, ksE_cells, kE_cells, ksE_drop1, kE_drop1, kE, qvE, t14, t20a, t20b, Bool.or_self, b5, b6, b5L, b6L, hs1, hs1L, hc1, hc1L, gE, alookup, t20a, t20b, hdd, g5, g6, gs, gc, h2t, gw, gm, gm1, vs2] <;> with_reducible rfl) (by simp only [jE, jN, seval, vint, ksE_cells, kE_cells, ksE_drop1, kE_drop1, kE, qvE, t14, t20a, t20b, Bool.or_self, b5, b6, b5L, b6L, hs1, hs1L, hc1, hc1L, gE, alookup, t20a, t20b, hdd, g5, g6, gs, gc, h2t, gw, gm, gm1, vs2]) (by decide) Trygo43 (fun hc => inEqual (st.cell (0, k2, k3)).val.nums v.nums (st.cell (0, k2, k3)).val.text v.text hml _) ?_
      refine g_end (by simp only [jG, jO, jN, seval, vint, ksE_cells, kE_cells, ksE_drop1, kE_drop1, kE, qvE, t14, t20a, t20b, Bool.or_self, b5, b6, b5L, b6L, hs1, hs1L, hc1, hc1L, gE, alookup, t20a, t20b, hdd, g5, g6, gs, gc, h2t, gw, gm, gm1, vs2] <;> with_reducible rfl) (by decide) (by repeat (first | exact Fin.base _ | with_reducible apply Fin.keep | apply Fin.drop)) ?_
      repeat (refine awp_seq ?_)
      refine awp_cond rfl (by simp only [jN, seval, vint, ksE_cells, kE_cells, ksE_drop1, kE_drop1, kE, qvE, t14, t20a, t20b, Bool.or_self, b5, b6, b5L, b6L, hs1, hs1L, hc1, hc1L, gE, alookup, t20a, t20b, hdd, g5, g6, gs, gc, h2t, gw, gm, gm1, vs2] <;> with_reducible rfl) (fun bt36 => ?_) (fun bt36 => ?_)
      ·
        have hsm : (st.cell (0, k2, k3)).d = d ∧ (st.cell (0, k2, k3)).val = v := by
          simp only [Bool.and_eq_true, decide_eq_true_eq] at bt36
          obtain ⟨h1, h2, h3⟩ := bt36
          exact ⟨h1, qv_ext _ _ h3 h2⟩
        have hset : setI (0, k2, k3) v d st = st := by unfold setI; rw [if_pos hsm]
        repeat (refine awp_seq ?_)
        refine e_eval (by simp only [jA, jO, jN, seval, vint, ksE_cells, kE_cells, ksE_drop1, kE_drop1, kE, qvE, t14, t20a, t20b, Bool.or_self, b5, b6, b5L, b6L, hs1, hs1L, hc1, hc1L, gE, alookup, t20a, t20b, hdd, g5, g6, gs, gc, h2t, gw, gm, gm1, vs2] <;> with_reducible rfl) (by decide) ?_
        repeat (refine awp_seq ?_)
        refine awp_ret ⟨.inr rfl, _, (ares_two (.tmp 8) (.tmp 9) rfl (ares_tmp1 (by decide)) (ares_tmp1 (by decide))), ?_⟩
        exact ⟨false, rfl, by rw [hset]; exact W2, f2⟩
      ·
        have hsm : ¬ ((st.cell (0, k2, k3)).d = d ∧ (st.cell (0, k2, k3)).val = v) := by
          rintro ⟨h1, h2⟩
          rw [← h2] at bt36
          simp [h1] at bt36
        repeat (refine awp_seq ?_)
        refine awp_skip ?_
        repeat (refine awp_seq ?_)
        refine e_eval (by simp only [jA, jO, jN, seval, y3, y96, vint, ksE_cells, kE_cells, ksE_drop1, kE_drop1, kE, qvE, t14, t20a, t20b, Bool.or_self, b5, b6, b5L, b6L, hs1, hs1L, hc1, hc1L, gE, alookup, t20a, t20b, hdd, g5, g6, gs, gc, h2t, gw, gm, gm1, vs2] <;> with_reducible rfl) (by decide) ?_
        refine awp_sel [0, 3, 5, 6, 10] (by simp only [jN, seval, vint, ksE_cells, kE_cells, ksE_drop1, kE_drop1, kE, qvE, t14, t20a, t20b, Bool.or_self, b5, b6, b5L, b6L, hs1, hs1L, hc1, hc1L, gE, alookup, t20a, t20b, hdd, g5, g6, gs, gc, h2t, gw, gm, gm1, vs2] <;> with_reducible rfl) ?_
        refine awp_abs (fun HC => HC.length = HB.length ∧ (∀ id, id ≠ cx.ix.s → HC[id]? = HB[id]?) ∧ HC[cx.ix.s]? = some (.row [vint ((st.now + 1 : Nat) : Int), vint (((if 0 < 0 then st.now + 1 else st.lc 0 : Nat)) : Int), vint (((if 1 < 0 then st.now + 1 else st.lc 1 : Nat)) : Int), vint (((if 2 < 0 then st.now + 1 else st.lc 2 : Nat)) : Int), .mapp cx.ix.c])) ⟨by simp, fun id hid => List.getElem?_set_ne (Ne.symm hid), by rw [List.getElem?_set_self (len_of_get gs)]; simp [vint]⟩ ?_
        rintro HC ⟨l3, h3s, h3t⟩
        have e10 := (h3s _ (fun e => ns _ (by omega) e)).trans h2t
        ·
          repeat (refine awp_seq ?_)
          refine e_eval (by simp only [jA, jO, jN, seval, y3, y101, vint, ksE_cells, kE_cells, ksE_drop1, kE_drop1, kE, qvE, t14, t20a, t20b, Bool.or_self, b5, b6, b5L, b6L, hs1, hs1L, hc1, hc1L, gE, alookup, t20a, t20b, hdd, g5, g6, gs, gc, h2t, gw, gm, gm1, vs2, e10] <;> with_reducible rfl) (by decide) ?_
          repeat (refine awp_seq ?_)
          refine awp_block ?_
          refine awp_loopX (σ := Nat) (fun (i : Nat) => [(0, .optr cx.ix.s 0), (3, vint (d : Int)), (5, .optr H.length 0), (6, .optr (H.length + 1) 0), (48, vint ((max (st.cell (0, k2, k3)).d d + 1 : Nat) : Int)), (49, vint (i : Int))]) (fun (i : Nat) =>  fun H1 => i ≤ max (st.cell (0, k2, k3)).d d + 1 ∧ H1.length = HB.length ∧ (∀ id, id ≠ cx.ix.s → H1[id]? = HB[id]?) ∧ H1[cx.ix.s]? = some (.row [vint ((st.now + 1 : Nat) : Int), vint (((if 0 < i then st.now + 1 else st.lc 0 : Nat)) : Int), vint (((if 1 < i then st.now + 1 else st.lc 1 : Nat)) : Int), vint (((if 2 < i then st.now + 1 else st.lc 2 : Nat)) : Int), .mapp cx.ix.c])) (fun (i : Nat) => max (st.cell (0, k2, k3)).d d + 1 - i) (0) ⟨(by first | rfl | (simp only [jN, seval, vint, ksE_cells, kE_cells, ksE_drop1, kE_drop1, kE, qvE, t14, t20a, t20b, Bool.or_self, b5, b6, b5L, b6L, hs1, hs1L, hc1, hc1L, gE, alookup, t20a, t20b, hdd, g5, g6, gs, gc, h2t, gw, gm, gm1, vs2, e10] <;> first | done | with_reducible rfl)), (by first | rfl | (simp only [jN, seval, vint, ksE_cells, kE_cells, ksE_drop1, kE_drop1, kE, qvE, t14, t20a, t20b, Bool.or_self, b5, b6, b5L, b6L, hs1, hs1L, hc1, hc1L, gE, alookup, t20a, t20b, hdd, g5, g6, gs, gc, h2t, gw, gm, gm1, vs2, e10] <;> first | done | with_reducible rfl)), (by first | rfl | (simp only [jN, seval, vint, ksE_cells, kE_cells, ksE_drop1, kE_drop1, kE, qvE, t14, t20a, t20b, Bool.or_self, b5, b6, b5L, b6L, hs1, hs1L, hc1, hc1L, gE, alookup, t20a, t20b, hdd, g5, g6, gs, gc, h2t, gw, gm, gm1, vs2, e10] <;> first | done | with_reducible rfl)), (by first | rfl | (simp only [jN, seval, vint, ksE_cells, kE_cells, ksE_drop1, kE_drop1, kE, qvE, t14, t20a, t20b, Bool.or_self, b5, b6, b5L, b6L, hs1, hs1L, hc1, hc1L, gE, alookup, t20a, t20b, hdd, g5, g6, gs, gc, h2t, gw, gm, gm1, vs2, e10] <;> first | done | with_reducible rfl)), (by first | rfl | (simp only [jN, seval, vint, ksE_cells, kE_cells, ksE_drop1, kE_drop1, kE, qvE, t14, t20a, t20b, Bool.or_self, b5, b6, b5L, b6L, hs1, hs1L, hc1, hc1L, gE, alookup, t20a, t20b, hdd, g5, g6, gs, gc, h2t, gw, gm, gm1, vs2, e10] <;> first | done | with_reducible rfl)), (by first | rfl | (simp only [jN, seval, vint, ksE_cells, kE_cells, ksE_drop1, kE_drop1, kE, qvE, t14, t20a, t20b, Bool.or_self, b5, b6, b5L, b6L, hs1, hs1L, hc1, hc1L, gE, alookup, t20a, t20b, hdd, g5, g6, gs, gc, h2t, gw, gm, gm1, vs2, e10] <;> first | done | with_reducible rfl)), trivial⟩ (⟨Nat.zero_le _, l3, h3s, h3t⟩) ?_
          intro i H1 hg
          obtain ⟨hi, gl, gf, gs3⟩ := hg
          have gs3 : H1[cx.ix.s]? = some (.row [.int .i64 _, .int .i64 _, .int .i64 _, .int .i64 _, _]) := gs3
          have p5 := (gf _ (ns _ (by omega))).trans g5
          have p6 := (gf _ (ns _ (by omega))).trans g6
          have pc := (gf _ (Ne.symm D1.ne.2.2.2.2.2.1)).trans gc
          have p10 := (gf _ (ns _ (by omega))).trans h2t
          have vs1 : (cx.ix.s = H1.length) = False := by have := len_of_get gs3; simp; omega
          have vc1 : (cx.ix.c = H1.length) = False := by have := len_of_get pc; simp; omega
          have gj : IntKind.i64.wrap ((i : Int) + 1) = ((i + 1 : Nat) : Int) := by rw [wrap_id (by omega) (by omega)]; omega
          have glt : decide ((i : Int) < ((max (st.cell (0, k2, k3)).d d + 1 : Nat) : Int)) = decide (i < max (st.cell (0, k2, k3)).d d + 1) := by rw [decide_eq_decide]; omega
          repeat (refine awp_seq ?_)
          refine e_eval (by simp only [jA, jO, jN, seval, y3, vint, ksE_cells, kE_cells, ksE_drop1, kE_drop1, kE, qvE, t14, t20a, t20b, Bool.or_self, b5, b6, b5L, b6L, hs1, hs1L, hc1, hc1L, gE, alookup, t20a, t20b, hdd, g5, g6, gs, gc, h2t, gw, gm, gm1, vs2, e10, gs3, gj, glt, p5, p6, pc, p10] <;> with_reducible rfl) (by decide) ?_
          repeat (refine awp_seq ?_)
          refine awp_cond rfl (by simp only [jN, seval, vint, ksE_cells, kE_cells, ksE_drop1, kE_drop1, kE, qvE, t14, t20a, t20b, Bool.or_self, b5, b6, b5L, b6L, hs1, hs1L, hc1, hc1L, gE, alookup, t20a, t20b, hdd, g5, g6, gs, gc, h2t, gw, gm, gm1, vs2, e10, gs3, gj, glt, p5, p6, pc, p10] <;> with_reducible rfl) (fun bt50 => ?_) (fun bt50 => ?_)
          ·
            have hx50 := bt50
            repeat (refine awp_seq ?_)
            refine awp_skip ?_
            repeat (refine awp_seq ?_)
            refine awp_block ?_
            repeat (refine awp_seq ?_)
            refine e_eval (by simp only [jA, jO, jN, seval, vint, ksE_cells, kE_cells, ksE_drop1, kE_drop1, kE, qvE, t14, t20a, t20b, Bool.or_self, b5, b6, b5L, b6L, hs1, hs1L, hc1, hc1L, gE, alookup, t20a, t20b, hdd, g5, g6, gs, gc, h2t, gw, gm, gm1, vs2, e10, gs3, gj, glt, p5, p6, pc, p10] <;> with_reducible rfl) (by decide) ?_
            have hi2 : i = 0 ∨ i = 1 ∨ i = 2 := by simp at bt50; omega
            have him : i < max (st.cell (0, k2, k3)).d d + 1 := by simpa using bt50
            rcases hi2 with rfl | rfl | rfl
            ·
              repeat (refine awp_seq ?_)
              refine awp_drawB 0 (by kernel_rfl) ?_
              refine seg_pure 8 (bm := [0, 0, 0, 4, 12, 28, 1, 65, 255, 511]) (by kernel_rfl) (by decide) (by kernel_rfl) (by kernel_rfl) ?_
              refine dp_end (by simp only [jP, jO, jN, seval, y3, y96, vint, ksE_cells, kE_cells, ksE_drop1, kE_drop1, gs3] <;> with_reducible rfl) (by decide) (by repeat (first | exact Fin.base _ | with_reducible apply Fin.keep | apply Fin.drop)) ?_
              refine seg_op (k := 8) (bm := [0, 0, 0, 4, 12, 28, 1, 65, 255, 511]) (by kernel_rfl) rfl (by kernel_rfl) (by kernel_rfl) ?_
              refine aops_idxA (k := 0) (off := 1) (id := cx.ix.s) rfl (by simp only [jC, jN, seval, vint] <;> rfl) (by decide) (n := 3) (e := 3) (i := ⟨false, 1, 8⟩) (by kernel_rfl) (by simp only [jC, jN, seval, vint] <;> rfl) (by simp only [jC, jN, seval, vint] <;> rfl) (by decide) ?_
              refine aops_nil ?_
              show GoAt _ _ _ _ _ _ _ _
              refine seg_draw 1 (bm := [0, 0, 0, 4, 12, 28, 1, 65, 255, 511]) (by kernel_rfl) (by decide) (by kernel_rfl) (by kernel_rfl) ?_
              refine d_end (bm := [0, 0, 0, 4, 12, 28, 1, 65, 255, 511]) (fresh := H1.length) (by kernel_rfl) (by simp only [jD, jO, jN, seval, y3, vint, ksE_cells, kE_cells, ksE_drop1, kE_drop1, gs3, gs3, vs1] <;> with_reducible rfl) (by decide) ?_
              refine goat_end ?_
              repeat (refine awp_seq ?_)
              refine e_eval (by simp only [jA, jO, jN, seval, y3, vint, ksE_cells, kE_cells, ksE_drop1, kE_drop1, kE, qvE, t14, t20a, t20b, Bool.or_self, b5, b6, b5L, b6L, hs1, hs1L, hc1, hc1L, gE, alookup, t20a, t20b, hdd, g5, g6, gs, gc, h2t, gw, gm, gm1, vs2, e10, gs3, gj, glt, p5, p6, pc, p10] <;> with_reducible rfl) (by decide) ?_
              try simp only [thenQ, blockQ]
              exact ⟨1, by show _ < _; omega, (by repeat (first | exact trivial | refine ⟨rfl, ?_⟩)), by omega, by simp [gl], fun id hid => by rw [List.getElem?_set_ne (Ne.symm hid)]; exact gf id hid, by rw [List.getElem?_set_self (len_of_get gs3)]; simp⟩
            ·
              repeat (refine awp_seq ?_)
              refine awp_drawB 0 (by kernel_rfl) ?_
              refine seg_pure 8 (bm := [0, 0, 0, 4, 12, 28, 1, 65, 255, 511]) (by kernel_rfl) (by decide) (by kernel_rfl) (by kernel_rfl) ?_
              refine dp_end (by simp only [jP, jO, jN, seval, y3, y96, vint, ksE_cells, kE_cells, ksE_drop1, kE_drop1, gs3] <;> with_reducible rfl) (by decide) (by repeat (first | exact Fin.base _ | with_reducible apply Fin.keep | apply Fin.drop)) ?_
              refine seg_op (k := 8) (bm := [0, 0, 0, 4, 12, 28, 1, 65, 255, 511]) (by kernel_rfl) rfl (by kernel_rfl) (by kernel_rfl) ?_
              refine aops_idxA (k := 1) (off := 1) (id := cx.ix.s) rfl (by simp only [jC, jN, seval, vint] <;> rfl) (by decide) (n := 3) (e := 3) (i := ⟨false, 1, 8⟩) (by kernel_rfl) (by simp only [jC, jN, seval, vint] <;> rfl) (by simp only [jC, jN, seval, vint] <;> rfl) (by decide) ?_
              refine aops_nil ?_
              show GoAt _ _ _ _ _ _ _ _
              refine seg_draw 1 (bm := [0, 0, 0, 4, 12, 28, 1, 65, 255, 511]) (by kernel_rfl) (by decide) (by kernel_rfl) (by kernel_rfl) ?_
              refine d_end (bm := [0, 0, 0, 4, 12, 28, 1, 65, 255, 511]) (fresh := H1.length) (by kernel_rfl) (by simp only [jD, jO, jN, seval, y3, vint, ksE_cells, kE_cells, ksE_drop1, kE_drop1, gs3, gs3, vs1] <;> with_reducible rfl) (by decide) ?_
              refine goat_end ?_
              repeat (refine awp_seq ?_)
              refine e_eval (by simp only [jA, jO, jN, seval, y3, vint, ksE_cells, kE_cells, ksE_drop1, kE_drop1, kE, qvE, t14, t20a, t20b, Bool.or_self, b5, b6, b5L, b6L, hs1, hs1L, hc1, hc1L, gE, alookup, t20a, t20b, hdd, g5, g6, gs, gc, h2t, gw, gm, gm1, vs2, e10, gs3, gj, glt, p5, p6, pc, p10] <;> with_reducible rfl) (by decide) ?_
              try simp only [thenQ, blockQ]
              exact ⟨2, by show _ < _; omega, (by repeat (first | exact trivial | refine ⟨rfl, ?_⟩)), by omega, by simp [gl], fun id hid => by rw [List.getElem?_set_ne (Ne.symm hid)]; exact gf id hid, by rw [List.getElem?_set_self (len_of_get gs3)]; simp⟩
            ·
              repeat (refine awp_seq ?_)
              refine awp_drawB 0 (by kernel_rfl) ?_
              refine seg_pure 8 (bm := [0, 0, 0, 4, 12, 28, 1, 65, 255, 511]) (by kernel_rfl) (by decide) (by kernel_rfl) (by kernel_rfl) ?_
              refine dp_end (by simp only [jP, jO, jN, seval, y3, y96, vint, ksE_cells, kE_cells, ksE_drop1, kE_drop1, gs3] <;> with_reducible rfl) (by decide) (by repeat (first | exact Fin.base _ | with_reducible apply Fin.keep | apply Fin.drop)) ?_
              refine seg_op (k := 8) (bm := [0, 0, 0, 4, 12, 28, 1, 65, 255, 511]) (by kernel_rfl) rfl (by kernel_rfl) (by kernel_rfl) ?_
              refine aops_idxA (k := 2) (off := 1) (id := cx.ix.s) rfl (by simp only [jC, jN, seval, vint] <;> rfl) (by decide) (n := 3) (e := 3) (i := ⟨false, 1, 8⟩) (by kernel_rfl) (by simp only [jC, jN, seval, vint] <;> rfl) (by simp only [jC, jN, seval, vint] <;> rfl) (by decide) ?_
              refine aops_nil ?_
              show GoAt _ _ _ _ _ _ _ _
              refine seg_draw 1 (bm := [0, 0, 0, 4, 12, 28, 1, 65, 255, 511]) (by kernel_rfl) (by decide) (by kernel_rfl) (by kernel_rfl) ?_
              refine d_end (bm := [0, 0, 0, 4, 12, 28, 1, 65, 255, 511]) (fresh := H1.length) (by kernel_rfl) (by simp only [jD, jO, jN, seval, y3, vint, ksE_cells, kE_cells, ksE_drop1, kE_drop1, gs3, gs3, vs1] <;> with_reducible rfl) (by decide) ?_
              refine goat_end ?_
              repeat (refine awp_seq ?_)
              refine e_eval (by simp only [jA, jO, jN, seval, y3, vint, ksE_cells, kE_cells, ksE_drop1, kE_drop1, kE, qvE, t14, t20a, t20b, Bool.or_self, b5, b6, b5L, b6L, hs1, hs1L, hc1, hc1L, gE, alookup, t20a, t20b, hdd, g5, g6, gs, gc, h2t, gw, gm, gm1, vs2, e10, gs3, gj, glt, p5, p6, pc, p10] <;> with_reducible rfl) (by decide) ?_
              try simp only [thenQ, blockQ]
              exact ⟨3, by show _ < _; omega, (by repeat (first | exact trivial | refine ⟨rfl, ?_⟩)), by omega, by simp [gl], fun id hid => by rw [List.getElem?_set_ne (Ne.symm hid)]; exact gf id hid, by rw [List.getElem?_set_self (len_of_get gs3)]; simp⟩
          ·
            have hx50 := bt50
            repeat (refine awp_seq ?_)
            refine awp_exit ?_
            simp only [thenQ, blockQ, reduceIte, Nat.reduceEqDiff, Nat.succ_ne_self, if_true, if_false]
            repeat (refine awp_seq ?_)
            refine x_draw 0 (n0 := H1.length) (by first | rfl | (simp only [List.length_append, List.length_cons, List.length_nil, Nat.reduceAdd, Nat.zero_add, kE, qvE, t14, t20a, t20b, Bool.or_self, b5, b6, b5L, b6L, hs1, hs1L, hc1, hc1L, gE, alookup, t20a, t20b, hdd, g5, g6, gs, gc, h2t, gw, gm, gm1, vs2, e10, gs3, gj, glt, p5, p6, pc, p10, amapset, Option.isSome_some, vc1]; done)) (by kernel_rfl) ?_
            refine x1_take 6 (by first | rfl | (simp only [List.length_append, List.length_cons, List.length_nil, Nat.reduceAdd, Nat.zero_add, kE, qvE, t14, t20a, t20b, Bool.or_self, b5, b6, b5L, b6L, hs1, hs1L, hc1, hc1L, gE, alookup, t20a, t20b, hdd, g5, g6, gs, gc, h2t, gw, gm, gm1, vs2, e10, gs3, gj, glt, p5, p6, pc, p10, amapset, Option.isSome_some, vc1]; done)) (by simp only [jP, jO, jN, seval, y37, y41, y93, y96, y101, vint, ksE_cells, kE_cells, ksE_drop1, kE_drop1, kE, qvE, t14, t20a, t20b, Bool.or_self, b5, b6, b5L, b6L, hs1, hs1L, hc1, hc1L, gE, alookup, t20a, t20b, hdd, g5, g6, gs, gc, h2t, gw, gm, gm1, vs2, e10, gs3, gj, glt, p5, p6, pc, p10, amapset, Option.isSome_some, vc1] <;> with_reducible rfl) (by decide) (by decide) (by decide) ?_
            refine x1_keep (by first | rfl | (simp only [List.length_append, List.length_cons, List.length_nil, Nat.reduceAdd, Nat.zero_add, kE, qvE, t14, t20a, t20b, Bool.or_self, b5, b6, b5L, b6L, hs1, hs1L, hc1, hc1L, gE, alookup, t20a, t20b, hdd, g5, g6, gs, gc, h2t, gw, gm, gm1, vs2, e10, gs3, gj, glt, p5, p6, pc, p10, amapset, Option.isSome_some, vc1]; done)) (by simp only [jE, jN, seval, vint, ksE_cells, kE_cells, ksE_drop1, kE_drop1, kE, qvE, t14, t20a, t20b, Bool.or_self, b5, b6, b5L, b6L, hs1, hs1L, hc1, hc1L, gE, alookup, t20a, t20b, hdd, g5, g6, gs, gc, h2t, gw, gm, gm1, vs2, e10, gs3, gj, glt, p5, p6, pc, p10, amapset, Option.isSome_some, vc1] <;> with_reducible rfl) (by simp only [jE, jN, seval, vint, ksE_cells, kE_cells, ksE_drop1, kE_drop1, kE, qvE, t14, t20a, t20b, Bool.or_self, b5, b6, b5L, b6L, hs1, hs1L, hc1, hc1L, gE, alookup, t20a, t20b, hdd, g5, g6, gs, gc, h2t, gw, gm, gm1, vs2, e10, gs3, gj, glt, p5, p6, pc, p10, amapset, Option.isSome_some, vc1] <;> with_reducible rfl) (by simp only [jE, jN, seval, vint, ksE_cells, kE_cells, ksE_drop1, kE_drop1, kE, qvE, t14, t20a, t20b, Bool.or_self, b5, b6, b5L, b6L, hs1, hs1L, hc1, hc1L, gE, alookup, t20a, t20b, hdd, g5, g6, gs, gc, h2t, gw, gm, gm1, vs2, e10, gs3, gj, glt, p5, p6, pc, p10, amapset, Option.isSome_some, vc1]) (by decide) Trygo44 (fun hc L => inClone v.nums v.text (lim8 hv) _) ?_
            refine x1_take 6 (by first | rfl | (simp only [List.length_append, List.length_cons, List.length_nil, Nat.reduceAdd, Nat.zero_add, kE, qvE, t14, t20a, t20b, Bool.or_self, b5, b6, b5L, b6L, hs1, hs1L, hc1, hc1L, gE, alookup, t20a, t20b, hdd, g5, g6, gs, gc, h2t, gw, gm, gm1, vs2, e10, gs3, gj, glt, p5, p6, pc, p10, amapset, Option.isSome_some, vc1]; done)) (by simp only [jP, jO, jN, seval, y3, y96, y101, vint, ksE_cells, kE_cells, ksE_drop1, kE_drop1, kE, qvE, t14, t20a, t20b, Bool.or_self, b5, b6, b5L, b6L, hs1, hs1L, hc1, hc1L, gE, alookup, t20a, t20b, hdd, g5, g6, gs, gc, h2t, gw, gm, gm1, vs2, e10, gs3, gj, glt, p5, p6, pc, p10, amapset, Option.isSome_some, vc1] <;> with_reducible rfl) (by decide) (by decide) (by decide) ?_
            refine x_mid (by first | (simp only [LS, HS, List.append_assoc, List.cons_append, List.nil_append, kE, qvE, t14, t20a, t20b, Bool.or_self, b5, b6, b5L, b6L, hs1, hs1L, hc1, hc1L, gE, alookup, t20a, t20b, hdd, g5, g6, gs, gc, h2t, gw, gm, gm1, vs2, e10, gs3, gj, glt, p5, p6, pc, p10, amapset, Option.isSome_some, vc1] <;> with_reducible rfl) | rfl) ?_
            refine x2_end (bm := [0, 1, 3, 7, 0, 0, 32, 0, 128, 384, 896, 0, 4064, 8191]) (fresh := (H1.length)) (by kernel_rfl) (by simp only [jX, jO, jN, seval, y93, y101, vint, ksE_cells, kE_cells, ksE_drop1, kE_drop1, kE, qvE, t14, t20a, t20b, Bool.or_self, b5, b6, b5L, b6L, hs1, hs1L, hc1, hc1L, gE, alookup, t20a, t20b, hdd, g5, g6, gs, gc, h2t, gw, gm, gm1, vs2, e10, gs3, gj, glt, p5, p6, pc, p10, amapset, Option.isSome_some, vc1] <;> with_reducible rfl) (by decide) (by repeat (first | exact Fin.base _ | with_reducible apply Fin.keep | apply Fin.drop)) ?_
            repeat (refine awp_seq ?_)
            refine e_eval (by simp only [jA, jO, jN, seval, vint, ksE_cells, kE_cells, ksE_drop1, kE_drop1, kE, qvE, t14, t20a, t20b, Bool.or_self, b5, b6, b5L, b6L, hs1, hs1L, hc1, hc1L, gE, alookup, t20a, t20b, hdd, g5, g6, gs, gc, h2t, gw, gm, gm1, vs2, e10, gs3, gj, glt, p5, p6, pc, p10] <;> with_reducible rfl) (by decide) ?_
            repeat (refine awp_seq ?_)
            refine awp_ret ⟨.inr rfl, _, (ares_two (.tmp 8) (.tmp 9) rfl (ares_tmp1 (by decide)) (ares_tmp1 (by decide))), ?_⟩
            have hie : i = max (st.cell (0, k2, k3)).d d + 1 := by simp at hx50; omega
            have hst : setI (0, k2, k3) v d st = { st with now := st.now + 1, lc := fun i => if i ≤ max (st.cell (0, k2, k3)).d d then st.now + 1 else st.lc i, cell := fun q => if q = (0, k2, k3) then ⟨v, st.now + 1, d⟩ else st.cell q } := by
              unfold setI; rw [if_neg hsm]
            obtain ⟨w3, f3⟩ := W2.upd hx (act' := act) (st' := setI (0, k2, k3) v d st) (H' := H1.set cx.ix.c (.obj (.mapg (gset ces cclk (0, k2, k3) (cellE ⟨v, st.now + 1, d⟩)) (gclk ces cclk (0, k2, k3))))) (by simp [gl]) fun F D => by
              obtain ⟨d1, d2⟩ := D.seti (0, k2, k3) v d hsm hv gc
              have hns : cx.ix.s ≠ cx.ix.c := D.ne.2.2.2.2.2.1
              have hE : ∀ id, (H1.set cx.ix.c (.obj (.mapg (gset ces cclk (0, k2, k3) (cellE ⟨v, st.now + 1, d⟩)) (gclk ces cclk (0, k2, k3)))))[id]? = ((HB.set cx.ix.s (stRow ((st.now + 1 : Nat) : Int) ((setI (0, k2, k3) v d st).lc 0) ((setI (0, k2, k3) v d st).lc 1) ((setI (0, k2, k3) v d st).lc 2) cx.ix.c)).set cx.ix.c (.obj (.mapg (gset ces cclk (0, k2, k3) (cellE ⟨v, st.now + 1, d⟩)) (gclk ces cclk (0, k2, k3)))))[id]? := fun id => by
                by_cases h1 : id = cx.ix.c
                · subst h1
                  rw [List.getElem?_set_self (len_of_get pc), List.getElem?_set_self (by simpa using len_of_get gc)]
                · rw [List.getElem?_set_ne (Ne.symm h1), List.getElem?_set_ne (Ne.symm h1)]
                  by_cases h2 : id = cx.ix.s
                  · subst h2
                    rw [List.getElem?_set_self (len_of_get gs), gs3, hst]
                    simp only [stRow, vint, hie, Nat.lt_succ_iff]
                  · rw [List.getElem?_set_ne (Ne.symm h2)]
                    exact gf id h2
              exact ⟨d1.fr fun id _ => hE id, fun id hn => (hE id).trans (d2 id hn)⟩
            exact ⟨true, rfl, w3, f2.trans f3⟩
end Go.Abs
namespace Go.Abs
open Go.Proofs Go.Memo
theorem set_c {cx : Cx} (hx : CxOk cx) (k : QK) (hk : k.1 = 0) (v : QV) (d : Nat) (hd : d ≤ 2) (hv : v.nums.length ≤ lim) (loc : QK → Nat) (act : List QK) (st : St) (b : Bool) (G : FPl) (H : Heap) (hd0 : ∀ q, (st.cell q).d ≤ 2) (hnow : st.now < 2 ^ 62) (hW : WR cx loc act st b G H) :
    ACalls Try.prog 9 [.optr cx.ix.d 0, kE k, qvE v, vint (d : Int)] H (fun r H' => r = vint 0 ∧ WR cx loc act (setI k v d st) b G H' ∧ FrS G G H H') := by
  obtain ⟨k1, k2, k3⟩ := k
  refine acalls_of (N := 23) Try.func9 rfl rfl (by simp) fun hb' => ?_
  repeat (refine awp_seq ?_)
  refine e_eval (by simp only [jA, jO, jN, seval, y37, y41, vint, ksE_cells, kE_cells, ksE_drop1, kE_drop1, kE, qvE] <;> with_reducible rfl) (by decide) ?_
  refine awp_abs (fun HA => WR cx loc act st b G HA ∧ FrS G G H HA ∧ HA[H.length]? = some (.row [vint k1, vint k2, vint k3]) ∧ HA[H.length + 1]? = some (.row [.slice (v.nums.map vint) .none, .str v.text])) ⟨hW.app hx _, FrS.app _ _ _ (hW.lt hx), by simp, by simp⟩ ?_
  rintro HA ⟨WA, fA, b5, b6⟩
  obtain ⟨F1, D1, _⟩ := id WA
  obtain ⟨clock1, hd1⟩ := D1.db
  ·
    repeat (refine awp_seq ?_)
    refine awp_drawB 0 (by kernel_rfl) ?_
    refine seg_pure 7 (bm := [0, 1, 3, 7, 0, 0, 0, 127, 255, 511, 511, 1023, 4095]) (by kernel_rfl) (by decide) (by kernel_rfl) (by kernel_rfl) ?_
    refine dp_end (by simp only [jP, jO, jN, seval, y37, y41, y57, y62, vint, ksE_cells, kE_cells, ksE_drop1, kE_drop1, b5, b6, hd1, kE, qvE] <;> with_reducible rfl) (by decide) (by repeat (first | exact Fin.base _ | with_reducible apply Fin.keep | apply Fin.drop)) ?_
    refine seg_op (k := 7) (bm := [0, 1, 3, 7, 0, 0, 0, 127, 255, 511, 511, 1023, 4095]) (by kernel_rfl) rfl (by kernel_rfl) (by kernel_rfl) ?_
    refine aops_acall (by simp only [jC, jN, seval, vint, ksE_cells, kE_cells, ksE_drop1, kE_drop1, b5, b6, hd1, kE, qvE] <;> with_reducible rfl) (by simp only [jC, jN, seval, vint, ksE_cells, kE_cells, ksE_drop1, kE_drop1, b5, b6, hd1, kE, qvE]) (by decide) Trygo28 (show ACalls Try.prog 28 [.optr cx.ix.s 0, .agg [.int .i64 k1, .int .i64 k2, .int .i64 k3], .agg [.slice (v.nums.map fun n => PV.int .i64 n) .none, .str v.text], .int .i64 (d : Int)] HA _ from inSet hx (k1, k2, k3) hk v d hd hv loc act st b G HA hd0 hnow WA) ?_
    rintro _ HB ⟨bb, rfl, wB, fB⟩
    refine aops_nil ?_
    show GoAt _ _ _ _ _ _ _ _
    refine seg_draw 5 (bm := [0, 1, 3, 7, 0, 0, 0, 127, 255, 511, 511, 1023, 4095]) (by kernel_rfl) (by decide) (by kernel_rfl) (by kernel_rfl) ?_
    refine d_end (bm := [0, 1, 3, 7, 0, 0, 0, 127, 255, 511, 511, 1023, 4095]) (fresh := 0) (by kernel_rfl) (by simp only [jD, jO, jN, seval, vint, ksE_cells, kE_cells, ksE_drop1, kE_drop1, b5, b6, hd1, kE, qvE] <;> with_reducible rfl) (by decide) ?_
    refine goat_end ?_
    refine awp_sel [10] (by simp only [jN, seval, vint, ksE_cells, kE_cells, ksE_drop1, kE_drop1, kE, qvE, b5, b6, hd1] <;> with_reducible rfl) ?_
    repeat (refine awp_seq ?_)
    refine e_eval (by simp only [jA, jO, jN, seval, vint, ksE_cells, kE_cells, ksE_drop1, kE_drop1, kE, qvE, b5, b6, hd1] <;> with_reducible rfl) (by decide) ?_
    repeat (refine awp_seq ?_)
    refine awp_ret ⟨.inr rfl, _, rfl, ?_⟩
    exact ⟨rfl, wB, fA.trans fB⟩
theorem forget_c {cx : Cx} (hx : CxOk cx) (k : QK) (loc : QK → Nat) (act : List QK) (st : St) (b : Bool) (G : FPl) (H : Heap) (hW : WR cx loc act st b G H) :
    ACalls Try.prog 36 [.optr cx.ix.d 0, kE k] H (fun r H' => ∃ bb, r = .bool bb ∧ WR cx loc act { st with res := setF st.res k none } b G H' ∧ FrS G G H H') := by
  obtain ⟨k1, k2, k3⟩ := k
  refine acalls_of (N := 22) Try.func36 rfl rfl (by simp) fun hb' => ?_
  repeat (refine awp_seq ?_)
  refine e_eval (by simp only [jA, jO, jN, seval, y37, vint, ksE_cells, kE_cells, ksE_drop1, kE_drop1, kE] <;> with_reducible rfl) (by decide) ?_
  refine awp_abs (fun HA => WR cx loc act st b G HA ∧ FrS G G H HA ∧ HA[H.length]? = some (.row [vint k1, vint k2, vint k3])) ⟨hW.app hx _, FrS.app _ _ _ (hW.lt hx), by simp⟩ ?_
  rintro HA ⟨WA, fA, b3⟩
  obtain ⟨F1, D1, _⟩ := id WA
  obtain ⟨clock1, hd1⟩ := D1.db
  obtain ⟨es, clk, hm1, hgn, hgg⟩ := D1.res
  obtain ⟨xx, bb, gE⟩ : ∃ xx bb, alook true .nilp (gget es (k1, k2, k3)) = .tup [xx, .bool bb] := by
    rw [hgg]
    cases st.res (k1, k2, k3) <;> exact ⟨_, _, rfl⟩
  ·
    repeat (refine awp_seq ?_)
    refine dp_draw (by kernel_rfl) ?_
    refine dp_end (by simp only [jP, jO, jN, seval, y37, y59, y62, y85, vint, ksE_cells, kE_cells, ksE_drop1, kE_drop1, kE, b3, hd1, hm1, gE, alookup] <;> with_reducible rfl) (by decide) (by repeat (first | exact Fin.base _ | with_reducible apply Fin.keep | apply Fin.drop)) ?_
    repeat (refine awp_seq ?_)
    refine awp_drawB 0 (by kernel_rfl) ?_
    refine seg_pure 5 (bm := [0, 1, 3, 7, 0, 31]) (by kernel_rfl) (by decide) (by kernel_rfl) (by kernel_rfl) ?_
    refine dp_end (by simp only [jP, jO, jN, seval, y37, y59, y62, y85, vint, ksE_cells, kE_cells, ksE_drop1, kE_drop1, b3, hd1, hm1, kE] <;> with_reducible rfl) (by decide) (by repeat (first | exact Fin.base _ | with_reducible apply Fin.keep | apply Fin.drop)) ?_
    refine seg_op (k := 5) (bm := [0, 1, 3, 7, 0, 31]) (by kernel_rfl) rfl (by kernel_rfl) (by kernel_rfl) ?_
    refine aops_del rfl (by simp only [jC, jN, seval, vint, ksE_cells, kE_cells, ksE_drop1, kE_drop1, b3, hd1, hm1, kE]) (by decide) (by simp [Trytg59]) (by simp only [jC, jN, seval, vint, ksE_cells, kE_cells, ksE_drop1, kE_drop1, b3, hd1, hm1, kE] <;> with_reducible rfl) (by simp only [jC, jN, seval, vint, ksE_cells, kE_cells, ksE_drop1, kE_drop1, b3, hd1, hm1, kE] <;> with_reducible rfl) hm1 ?_
    refine aops_nil ?_
    show GoAt _ _ _ _ _ _ _ _
    refine goat_end ?_
    refine awp_sel [6] (by simp only [jN, seval, vint, ksE_cells, kE_cells, ksE_drop1, kE_drop1, kE, b3, hd1, hm1, gE, alookup] <;> with_reducible rfl) ?_
    repeat (refine awp_seq ?_)
    refine e_eval (by simp only [jA, jO, jN, seval, vint, ksE_cells, kE_cells, ksE_drop1, kE_drop1, kE, b3, hd1, hm1, gE, alookup] <;> with_reducible rfl) (by decide) ?_
    repeat (refine awp_seq ?_)
    refine awp_ret ⟨.inr rfl, _, rfl, ?_⟩
    obtain ⟨w2, f2⟩ := WA.upd hx (act' := act) (st' := { st with res := setF st.res (k1, k2, k3) none }) (H' := HA.set cx.ix.m (.obj (.mapg (gdel es (k1, k2, k3)) clk))) (by simp) fun F D => ⟨D.forget _ hm1, fun id hn => List.getElem?_set_ne (by rintro rfl; exact hn D.own.2.2.1)⟩
    exact ⟨bb, rfl, w2, fA.trans f2⟩
end Go.Abs
namespace Go.Abs
section
variable {P : Program} {N nb : Nat} {ops : Array Oper} {Q : Post} {T : Slots} {H : Heap}
theorem aops_atload {o : Oper} {l : List Oper} {f : FuncId} {x : Operand} {ts : Array TypeId} {fn : Func} {k : IntKind} {id off : Nat} {cs : List PV} {n : Int} (hop : o.op = .call ⟨.value (.func f), #[x], ts⟩) (hw : awanted ops.toList T N o = some true) (hok : okOpnd N x = true)
    (hf : P.funcs[f]? = some fn) (hname : (fn.name == "runtime.NumGoroutine") = false) (hb : fn.body.isNone = true) (hn : Extern.findNext fn = none) (he : Extern.find fn = some (Extern.Atomic.loadT (.int k)))
    (hx : aev T x = .optr id off) (hid : H[id]? = some (.row cs)) (hc : cs[off]? = some (.int k n)) (h : AOps P N nb ops Q l (updO T o.dst (.int k n)) H) : AOps P N nb ops Q (o :: l) T H := by
  refine aops_done hw (fun E A ho hH ht => ?_) h
  have rx := vrel_eval ht x hok
  rw [hx] at rx
  obtain ⟨ex, hb2⟩ := rx.optr_inv
  subst hH
  obtain ⟨arr, elem, h1, h2, h3, h4⟩ := ho.rows id cs hid
  have hl : off < cs.length := (List.getElem?_eq_some_iff.1 hc).1
  have hv := h3 off hl
  rw [(List.getElem?_eq_some_iff.1 hc).2] at hv
  have hcell : E.w.cell? ⟨E.ρ id, off, none⟩ = some (.int k n) := by
    rw [cell_row h1, Array.getElem?_eq_getElem (by omega)]
    have := hv.int_inv
    rw [Array.getD_eq_getD_getElem?, Array.getElem?_eq_getElem (by omega)] at this
    exact congrArg some this
  refine ⟨E, .int k n, .inl ?_, .refl E, ho, rfl, .int _ _⟩
  unfold execOp
  rw [hop]
  have ef : A.eval (.func f) = .func (.func f) #[] #[] := rfl
  simp only [resolve, ef, Deferred.ofValue, Sem.run_bind, Sem.run_pure, Result.andThen_ok, invoke, Array.empty_append, Array.append_empty]
  have e2 : (#[x].map A.eval) = #[.pointer (some ⟨E.ρ id, off, none⟩)] := by
    simp only [List.map_toArray, List.map_cons, List.map_nil, ex]
    rfl
  rw [e2]
  exact run_call_load hf hname hb hn k he hcell
theorem aops_atstore {o : Oper} {l : List Oper} {f : FuncId} {x y : Operand} {ts : Array TypeId} {fn : Func} {k : IntKind} {id off : Nat} {cs : List PV} {n : Int} (hop : o.op = .call ⟨.value (.func f), #[x, y], ts⟩) (hw : awanted ops.toList T N o = some true) (hok : okOpnd N x = true) (hok2 : okOpnd N y = true)
    (hf : P.funcs[f]? = some fn) (hname : (fn.name == "runtime.NumGoroutine") = false) (hb : fn.body.isNone = true) (hn : Extern.findNext fn = none) (he : Extern.find fn = some Extern.Atomic.storeT)
    (hx : aev T x = .optr id off) (hy : aev T y = .int k n) (hid : H[id]? = some (.row cs)) (hl : off < cs.length) (h : AOps P N nb ops Q l (updO T o.dst (.tup [])) (H.set id (.row (cs.set off (.int k n))))) : AOps P N nb ops Q (o :: l) T H := by
  refine aops_done hw (fun E A ho hH ht => ?_) h
  have rx := vrel_eval ht x hok
  rw [hx] at rx
  obtain ⟨ex, hb2⟩ := rx.optr_inv
  have ry := vrel_eval ht y hok2
  rw [hy] at ry
  have ey := ry.int_inv
  subst hH
  obtain ⟨arr, elem, h1, h2, h3, h4⟩ := ho.rows id cs hid
  have hle := Env.setRow_le ho hid off (v := .int k n) (p := .int k n)
  have hok3 := Env.Ok.setRow ho hid off (v := .int k n) (p := .int k n) (.int _ _)
  refine ⟨E.setRow id off (.int k n) cs (.int k n), .tuple #[], .inl ?_, hle, hok3, rfl, .tup _ _ rfl (fun i hi => absurd hi (Nat.not_lt_zero _))⟩
  unfold execOp
  rw [hop]
  have ef : A.eval (.func f) = .func (.func f) #[] #[] := rfl
  simp only [resolve, ef, Deferred.ofValue, Sem.run_bind, Sem.run_pure, Result.andThen_ok, invoke, Array.empty_append, Array.append_empty]
  have e2 : (#[x, y].map A.eval) = #[.pointer (some ⟨E.ρ id, off, none⟩), .int k n] := by
    simp only [List.map_toArray, List.map_cons, List.map_nil, ex, ey]
    rfl
  rw [e2]
  exact run_call_store hf hname hb hn he (u := arr[off]'(by omega)) (by rw [cell_row h1, Array.getElem?_eq_getElem]) (frozen_row h1)
end
end Go.Abs
namespace Go.Abs
open Go.Proofs Go.Memo
def tkRow (b : Bool) : AObj := .row [.int .u32 (if b then 1 else 0)]
theorem tokNew (H : Heap) : ACalls Try.prog 10 [] H fun r H' => r = .optr H.length 0 ∧ H' = H ++ [tkRow false] := by
  refine acalls_of (N := 3) Try.func10 rfl rfl (by simp) fun hb' => ?_
  repeat (refine awp_seq ?_)
  refine e_eval (by simp only [jA, jO, jN, seval, vint, ksE_cells, kE_cells, ksE_drop1, kE_drop1] <;> with_reducible rfl) (by decide) ?_
  repeat (refine awp_seq ?_)
  refine e_eval (by simp only [jA, jO, jN, seval, y75, vint, ksE_cells, kE_cells, ksE_drop1, kE_drop1] <;> with_reducible rfl) (by decide) ?_
  repeat (refine awp_seq ?_)
  refine awp_ret ⟨.inr rfl, _, rfl, ?_⟩
  exact ⟨rfl, rfl⟩
theorem b32_c (b : Bool) : PC Try.prog 50 [.bool b] (.int .u32 (if b then 1 else 0)) := by
  refine pc_of (N := 4) Try.func50 rfl rfl (by simp) (by simp [Bel.int, Bel.str, Bel.bool, bel_ints0, bel_kE, bel_vE, bel_K, bel_KK, bel_pE, Bel.nilp, bel_fn0]) (.int _ _) ?_
  repeat (refine awp_seq ?_)
  refine e_eval (by simp only [jA, jO, jN, seval, vint, ksE_cells, kE_cells, ksE_drop1, kE_drop1, Int.cast_ofNat_Int, Int.reduceLT, Int.reduceLE, Int.reduceEq, Int.toNat_one, Int.toNat_zero, Int.reduceToNat, Int.reduceNeg, decide_true, decide_false] <;> with_reducible rfl) (by decide) ?_
  repeat (refine awp_seq ?_)
  refine e_eval (by simp only [jA, jO, jN, seval, vint, ksE_cells, kE_cells, ksE_drop1, kE_drop1, Int.cast_ofNat_Int, Int.reduceLT, Int.reduceLE, Int.reduceEq, Int.toNat_one, Int.toNat_zero, Int.reduceToNat, Int.reduceNeg, decide_true, decide_false] <;> with_reducible rfl) (by decide) ?_
  repeat (refine awp_seq ?_)
  refine awp_cond rfl (by simp only [jN, seval, vint, ksE_cells, kE_cells, ksE_drop1, kE_drop1, Int.cast_ofNat_Int, Int.reduceLT, Int.reduceLE, Int.reduceEq, Int.toNat_one, Int.toNat_zero, Int.reduceToNat, Int.reduceNeg, decide_true, decide_false] <;> with_reducible rfl) (fun b0 => ?_) (fun b0 => ?_)
  ·
    subst b0
    repeat (refine awp_seq ?_)
    refine e_eval (by simp only [jA, jO, jN, seval, vint, ksE_cells, kE_cells, ksE_drop1, kE_drop1, Int.cast_ofNat_Int, Int.reduceLT, Int.reduceLE, Int.reduceEq, Int.toNat_one, Int.toNat_zero, Int.reduceToNat, Int.reduceNeg, decide_true, decide_false] <;> with_reducible rfl) (by decide) ?_
    repeat (refine awp_seq ?_)
    refine awp_ret ⟨.inr rfl, _, rfl, ?_⟩
    simp only [jN, seval, vint, ksE_cells, kE_cells, ksE_drop1, kE_drop1]
    try rfl
  ·
    subst b0
    repeat (refine awp_seq ?_)
    refine awp_skip ?_
    repeat (refine awp_seq ?_)
    refine e_eval (by simp only [jA, jO, jN, seval, vint, ksE_cells, kE_cells, ksE_drop1, kE_drop1, Int.cast_ofNat_Int, Int.reduceLT, Int.reduceLE, Int.reduceEq, Int.toNat_one, Int.toNat_zero, Int.reduceToNat, Int.reduceNeg, decide_true, decide_false] <;> with_reducible rfl) (by decide) ?_
    repeat (refine awp_seq ?_)
    refine awp_ret ⟨.inr rfl, _, rfl, ?_⟩
    simp only [jN, seval, vint, ksE_cells, kE_cells, ksE_drop1, kE_drop1]
    try rfl
theorem bStore (id : Nat) (b c : Bool) (H : Heap) (htk0 : H[id]? = some (tkRow c)) : ACalls Try.prog 33 [.optr id 0, .bool b] H fun r H' => H' = H.set id (tkRow b) := by
  have htk : H[id]? = some (.row [.int .u32 (if c then 1 else 0)]) := htk0
  refine acalls_of (N := 10) Try.func33 rfl rfl (by simp) fun hb' => ?_
  repeat (refine awp_seq ?_)
  refine awp_drawB 0 (by kernel_rfl) ?_
  refine seg_pure 5 (bm := [0, 1, 3, 0, 8, 31]) (by kernel_rfl) (by decide) (by kernel_rfl) (by kernel_rfl) ?_
  refine dp_take 4 (by simp only [jP, jO, jN, seval, y73, vint, ksE_cells, kE_cells, ksE_drop1, kE_drop1, htk] <;> with_reducible rfl) (by decide) ?_
  refine dp_keep (by simp only [jE, jN, seval, vint, ksE_cells, kE_cells, ksE_drop1, kE_drop1, htk] <;> with_reducible rfl) (by simp only [jE, jN, seval, vint, ksE_cells, kE_cells, ksE_drop1, kE_drop1, htk] <;> with_reducible rfl) (by simp only [jE, jN, seval, vint, ksE_cells, kE_cells, ksE_drop1, kE_drop1, htk]) (by decide) Trygo50 (fun hc => b32_c _ _) ?_
  refine dp_end (by simp only [jP, jO, jN, seval, vint, ksE_cells, kE_cells, ksE_drop1, kE_drop1, htk] <;> with_reducible rfl) (by decide) (by repeat (first | exact Fin.base _ | with_reducible apply Fin.keep | apply Fin.drop)) ?_
  refine seg_op (k := 5) (bm := [0, 1, 3, 0, 8, 31]) (by kernel_rfl) rfl (by kernel_rfl) (by kernel_rfl) ?_
  refine aops_atstore (k := .u32) (id := id) (off := 0) rfl (by simp only [jC, jN, seval, vint, ksE_cells, kE_cells, ksE_drop1, kE_drop1, htk]) (by decide) (by decide) Try.func49 (by kernel_rfl) (by kernel_rfl) (by kernel_rfl) (by kernel_rfl) (by simp only [jC, jN, seval, vint, ksE_cells, kE_cells, ksE_drop1, kE_drop1, htk] <;> rfl) (by simp only [jC, jN, seval, vint, ksE_cells, kE_cells, ksE_drop1, kE_drop1, htk] <;> rfl) htk (by simp) ?_
  refine aops_nil ?_
  show GoAt _ _ _ _ _ _ _ _
  refine goat_end ?_
  refine ⟨(by first | exact .inl rfl | exact .inl trivial | trivial), _, rfl, ?_⟩
  exact rfl
theorem bLoad (id : Nat) (c : Bool) (H : Heap) (htk0 : H[id]? = some (tkRow c)) : ACalls Try.prog 34 [.optr id 0] H fun r H' => r = .bool c ∧ H' = H := by
  have htk : H[id]? = some (.row [.int .u32 (if c then 1 else 0)]) := htk0
  refine acalls_of (N := 8) Try.func34 rfl rfl (by simp) fun hb' => ?_
  repeat (refine awp_seq ?_)
  refine e_eval (by simp only [jA, jO, jN, seval, vint, ksE_cells, kE_cells, ksE_drop1, kE_drop1] <;> with_reducible rfl) (by decide) ?_
  repeat (refine awp_seq ?_)
  refine awp_region ?_
  refine e_take 3 (by simp only [jA, jO, jN, seval, y73, vint, ksE_cells, kE_cells, ksE_drop1, kE_drop1] <;> with_reducible rfl) (by decide) ?_
  refine aops_atload (k := .u32) (id := id) (off := 0) (n := if c then 1 else 0) rfl (by simp only [jC, jN, seval, vint]) (by decide) Try.func51 (by kernel_rfl) (by kernel_rfl) (by kernel_rfl) (by kernel_rfl) (by simp only [jC, jN, seval, vint] <;> rfl) htk rfl ?_
  refine e_end (by simp only [jA, jO, jN, seval, y71, vint, ksE_cells, kE_cells, ksE_drop1, kE_drop1] <;> with_reducible rfl) (by decide) ?_
  repeat (refine awp_seq ?_)
  refine awp_ret ⟨.inr rfl, _, rfl, ?_⟩
  exact ⟨by cases c <;> rfl, rfl⟩
theorem tokCancel (id : Nat) (c : Bool) (H : Heap) (htk : H[id]? = some (tkRow c)) : ACalls Try.prog 14 [.optr id 0] H fun r H' => H' = H.set id (tkRow true) := by
  refine acalls_of (N := 8) Try.func14 rfl rfl (by simp) fun hb' => ?_
  repeat (refine awp_seq ?_)
  refine e_eval (by simp only [jA, jO, jN, seval, y42, vint, ksE_cells, kE_cells, ksE_drop1, kE_drop1] <;> with_reducible rfl) (by decide) ?_
  repeat (refine awp_seq ?_)
  refine awp_cond_true rfl (by simp only [jN, seval, vint, ksE_cells, kE_cells, ksE_drop1, kE_drop1] <;> with_reducible rfl) ?_
  repeat (refine awp_seq ?_)
  refine awp_region ?_
  refine e_take 3 (by simp only [jA, jO, jN, seval, y75, vint, ksE_cells, kE_cells, ksE_drop1, kE_drop1] <;> with_reducible rfl) (by decide) ?_
  refine aops_acall (by simp only [jC, jN, seval, vint, ksE_cells, kE_cells, ksE_drop1, kE_drop1] <;> with_reducible rfl) (by simp only [jC, jN, seval, vint, ksE_cells, kE_cells, ksE_drop1, kE_drop1]) (by decide) Trygo33 (bStore id true c H htk) ?_
  rintro _ _ rfl
  refine aops_nil ?_
  refine ⟨(by first | exact .inl rfl | exact .inl trivial | trivial), _, rfl, ?_⟩
  exact rfl
theorem tokCanceled (id : Nat) (c : Bool) (H : Heap) (htk : H[id]? = some (tkRow c)) : ACalls Try.prog 15 [.optr id 0] H fun r H' => r = .bool c ∧ H' = H := by
  refine acalls_of (N := 11) Try.func15 rfl rfl (by simp) fun hb' => ?_
  repeat (refine awp_seq ?_)
  refine e_eval (by simp only [jA, jO, jN, seval, vint, ksE_cells, kE_cells, ksE_drop1, kE_drop1] <;> with_reducible rfl) (by decide) ?_
  repeat (refine awp_seq ?_)
  refine awp_region ?_
  refine e_take 6 (by simp only [jA, jO, jN, seval, y42, y75, vint, ksE_cells, kE_cells, ksE_drop1, kE_drop1] <;> with_reducible rfl) (by decide) ?_
  refine aops_acall (by simp only [jC, jN, seval, vint, ksE_cells, kE_cells, ksE_drop1, kE_drop1] <;> with_reducible rfl) (by simp only [jC, jN, seval, vint, ksE_cells, kE_cells, ksE_drop1, kE_drop1]) (by decide) Trygo34 (bLoad id c H htk) ?_
  rintro _ _ ⟨rfl, rfl⟩
  refine e_end (by simp only [jA, jO, jN, seval, vint, ksE_cells, kE_cells, ksE_drop1, kE_drop1] <;> with_reducible rfl) (by decide) ?_
  repeat (refine awp_seq ?_)
  refine awp_ret ⟨.inr rfl, _, rfl, ?_⟩
  exact ⟨rfl, rfl⟩
end Go.Abs
namespace Go.Abs
open Go.Proofs Go.Memo
theorem stop_c (tk b7 b16 b15 b14 d : Nat) (start budget n : Int) (v0 v1 v2 v3 v4 v6 : PV) (H : Heap) (hd : H[d]? = some (.row [v0, v1, v2, v3, v4, vint n, v6])) (h7 : H[b7]? = some (.row [.optr d 0])) (h16 : H[b16]? = some (.row [vint start])) (h15 : H[b15]? = some (.row [vint budget])) (h14 : H[b14]? = some (.row [.optr tk 0])) (ht : H[tk]? = some (tkRow false)) (hne : b14 ≠ tk) :
    ACalls Try.prog 13 [.optr b7 0, .optr b16 0, .optr b15 0, .optr b14 0] H fun r H' => r = .bool (decide (budget ≤ wrap64 (n - start))) ∧ H' = if budget ≤ wrap64 (n - start) then H.set tk (tkRow true) else H := by
  simp only [vint] at h7 h16 h15
  have ge : decide (wrap64 (n - start) ≥ budget) = decide (budget ≤ wrap64 (n - start)) := rfl
  have h14s : ∀ o, (H.set tk o)[b14]? = _ := fun o => set_lt h14 hne
  have hts : ∀ o, (H.set tk o)[tk]? = some o := fun o => List.getElem?_set_self (len_of_get ht)
  refine acalls_of (N := 15) Try.func13 rfl rfl (by simp) fun hb' => ?_
  repeat (refine awp_seq ?_)
  refine e_eval (by simp only [jA, jO, jN, seval, vint, ksE_cells, kE_cells, ksE_drop1, kE_drop1, h7, h16, h15, h14, h14s] <;> with_reducible rfl) (by decide) ?_
  repeat (refine awp_seq ?_)
  refine dp_draw (by kernel_rfl) ?_
  refine dp_take 1 (by simp only [jP, jO, jN, seval, y28, vint, ksE_cells, kE_cells, ksE_drop1, kE_drop1, h7, h16, h15, h14, h14s, wrap64_eq, ge] <;> with_reducible rfl) (by decide) ?_
  refine dp_keep (by simp only [jE, jN, seval, vint, ksE_cells, kE_cells, ksE_drop1, kE_drop1, h7, h16, h15, h14, h14s, wrap64_eq, ge] <;> with_reducible rfl) (by simp only [jE, jN, seval, vint, ksE_cells, kE_cells, ksE_drop1, kE_drop1, h7, h16, h15, h14, h14s, wrap64_eq, ge] <;> with_reducible rfl) (by simp only [jE, jN, seval, vint, ksE_cells, kE_cells, ksE_drop1, kE_drop1, h7, h16, h15, h14, h14s, wrap64_eq, ge]) (by decide) Trygo11 (fun hc => computations_c hd) ?_
  refine dp_end (by simp only [jP, jO, jN, seval, y3, vint, ksE_cells, kE_cells, ksE_drop1, kE_drop1, h7, h16, h15, h14, h14s, wrap64_eq, ge] <;> with_reducible rfl) (by decide) (by repeat (first | exact Fin.base _ | with_reducible apply Fin.keep | apply Fin.drop)) ?_
  repeat (refine awp_seq ?_)
  refine awp_cond rfl (by simp only [jN, seval, vint, ksE_cells, kE_cells, ksE_drop1, kE_drop1, h7, h16, h15, h14, h14s] <;> with_reducible rfl) (fun bt10 => ?_) (fun bt10 => ?_)
  ·
    have hb := of_decide_eq_true bt10
    repeat (refine awp_seq ?_)
    refine awp_region ?_
    refine e_take 1 (by simp only [jA, jO, jN, seval, y42, vint, ksE_cells, kE_cells, ksE_drop1, kE_drop1, h7, h16, h15, h14, h14s] <;> with_reducible rfl) (by decide) ?_
    refine aops_acall (by simp only [jC, jN, seval, vint, ksE_cells, kE_cells, ksE_drop1, kE_drop1, h7, h16, h15, h14, h14s] <;> with_reducible rfl) (by simp only [jC, jN, seval, vint, ksE_cells, kE_cells, ksE_drop1, kE_drop1, h7, h16, h15, h14, h14s]) (by decide) Trygo14 (tokCancel tk false H ht) ?_
    rintro _ _ rfl
    refine aops_nil ?_
    repeat (refine awp_seq ?_)
    refine awp_region ?_
    refine e_take 1 (by simp only [jA, jO, jN, seval, y42, vint, ksE_cells, kE_cells, ksE_drop1, kE_drop1, h7, h16, h15, h14, h14s] <;> with_reducible rfl) (by decide) ?_
    refine aops_acall (by simp only [jC, jN, seval, vint, ksE_cells, kE_cells, ksE_drop1, kE_drop1, h7, h16, h15, h14, h14s] <;> with_reducible rfl) (by simp only [jC, jN, seval, vint, ksE_cells, kE_cells, ksE_drop1, kE_drop1, h7, h16, h15, h14, h14s]) (by decide) Trygo15 (tokCanceled tk true _ (hts _)) ?_
    rintro _ _ ⟨rfl, rfl⟩
    refine e_end (by simp only [jA, jO, jN, seval, vint, ksE_cells, kE_cells, ksE_drop1, kE_drop1, h7, h16, h15, h14, h14s] <;> with_reducible rfl) (by decide) ?_
    repeat (refine awp_seq ?_)
    refine awp_ret ⟨.inr rfl, _, rfl, ?_⟩
    rw [if_pos hb, decide_eq_true hb]
    exact ⟨rfl, rfl⟩
  ·
    have hb := of_decide_eq_false bt10
    repeat (refine awp_seq ?_)
    refine awp_skip ?_
    repeat (refine awp_seq ?_)
    refine awp_region ?_
    refine e_take 1 (by simp only [jA, jO, jN, seval, y42, vint, ksE_cells, kE_cells, ksE_drop1, kE_drop1, h7, h16, h15, h14, h14s] <;> with_reducible rfl) (by decide) ?_
    refine aops_acall (by simp only [jC, jN, seval, vint, ksE_cells, kE_cells, ksE_drop1, kE_drop1, h7, h16, h15, h14, h14s] <;> with_reducible rfl) (by simp only [jC, jN, seval, vint, ksE_cells, kE_cells, ksE_drop1, kE_drop1, h7, h16, h15, h14, h14s]) (by decide) Trygo15 (tokCanceled tk false _ ht) ?_
    rintro _ _ ⟨rfl, rfl⟩
    refine e_end (by simp only [jA, jO, jN, seval, vint, ksE_cells, kE_cells, ksE_drop1, kE_drop1, h7, h16, h15, h14, h14s] <;> with_reducible rfl) (by decide) ?_
    repeat (refine awp_seq ?_)
    refine awp_ret ⟨.inr rfl, _, rfl, ?_⟩
    rw [if_neg hb, decide_eq_false hb]
    exact ⟨rfl, rfl⟩
def Cx.tok (cx : Cx) (tk b7 b16 b15 b14 : Nat) (start budget : Int) : Cx :=
  { ix := { cx.ix with stp := .fn (.func 13) [] [.optr b7 0, .optr b16 0, .optr b15 0, .optr b14 0] }, cp := cx.cp, stpf := fun n => decide (budget ≤ wrap64 (n - start)), env := cx.env
    FX := fun id => id = tk ∨ id = b7 ∨ id = b16 ∨ id = b15 ∨ id = b14
    I := fun b H => H[tk]? = some (tkRow b) ∧ H[b7]? = some (.row [.optr cx.ix.d 0]) ∧ H[b16]? = some (.row [vint start]) ∧ H[b15]? = some (.row [vint budget]) ∧ H[b14]? = some (.row [.optr tk 0]) }
theorem Cx.tok_ok {cx : Cx} (hx : CxOk cx) (tk b7 b16 b15 b14 : Nat) (start budget : Int) (hne : tk ≠ b7 ∧ tk ≠ b16 ∧ tk ≠ b15 ∧ tk ≠ b14) : CxOk (cx.tok tk b7 b16 b15 b14 start budget) := by
  obtain ⟨n1, n2, n3, n4⟩ := hne
  refine ⟨hx.comp, fun b H H' h hs => ?_, fun b H h id hid => ?_, .inr ⟨13, _, rfl, Trygo13, fun loc act st F H D hI hdis => ?_⟩⟩
  · obtain ⟨h1, h2, h3, h4, h5⟩ := h
    exact ⟨by rw [hs _ (.inl rfl)]; exact h1, by rw [hs _ (.inr (.inl rfl))]; exact h2, by rw [hs _ (.inr (.inr (.inl rfl)))]; exact h3, by rw [hs _ (.inr (.inr (.inr (.inl rfl))))]; exact h4, by rw [hs _ (.inr (.inr (.inr (.inr rfl))))]; exact h5⟩
  · obtain ⟨h1, h2, h3, h4, h5⟩ := h
    rcases hid with rfl | rfl | rfl | rfl | rfl
    · exact len_of_get h1
    · exact len_of_get h2
    · exact len_of_get h3
    · exact len_of_get h4
    · exact len_of_get h5
  · obtain ⟨h1, h2, h3, h4, h5⟩ := hI
    obtain ⟨clock, hd⟩ := D.db
    refine (stop_c tk b7 b16 b15 b14 cx.ix.d start budget st.comps _ _ _ _ _ _ H hd h2 h3 h4 h5 h1 (Ne.symm n4)).mono ?_
    rintro r H' ⟨rfl, rfl⟩
    refine ⟨rfl, ?_, ?_⟩
    · by_cases hb : budget ≤ wrap64 (st.comps - start)
      · rw [if_pos hb]
        show (H.set tk _)[tk]? = some (tkRow (decide _)) ∧ _
        rw [decide_eq_true hb]
        exact ⟨List.getElem?_set_self (len_of_get h1), set_lt h2 (Ne.symm n1), set_lt h3 (Ne.symm n2), set_lt h4 (Ne.symm n3), set_lt h5 (Ne.symm n4)⟩
      · rw [if_neg hb]
        show H[tk]? = some (tkRow (decide _)) ∧ _
        rw [decide_eq_false hb]
        exact ⟨h1, h2, h3, h4, h5⟩
    · split
      · exact ⟨by simp, fun id _ hn => List.getElem?_set_ne (by rintro rfl; exact hn (.inl rfl)), fun id h _ => h⟩
      · exact .refl _ _
end Go.Abs
namespace Go.Abs
open Go.Proofs Go.Memo
def cfQ (b : Nat) : PV := .fn (.func 24) [] [.optr (b + 1) 0, .optr (b + 3) 0]
def envB (qs : List (List QK)) (b : Nat) : List (Nat × AObj) := envQ qs (b + 1) (b + 3) (b + 2)
def cxQ (qs : List (List QK)) (b n : Nat) : Cx := { ix := { d := n + 4, s := n + 1, m := n + 2, c := n, a := n + 3, cf := cfQ b, stp := .nilfn }, cp := cpQ qs, stpf := fun _ => false, env := envB qs b, FX := fun _ => False, I := fun _ _ => True }
theorem cxQ_ok {inp : Int} {qs : List (List QK)} (hP : ValP inp qs) (b n : Nat) : CxOk (cxQ qs b n) :=
  ⟨compile1_c hP _ _ _, fun _ _ _ _ _ => trivial, fun _ _ _ _ h => h.elim, .inl ⟨rfl, fun _ => rfl⟩⟩
def DbAt (b n : Nat) (H : Heap) : Prop := H[n]? = some (.obj (.mapg [] 0)) ∧ H[n + 1]? = some (stRow 0 0 0 0 n) ∧ H[n + 2]? = some (.obj (.mapg [] 0)) ∧ H[n + 3]? = some (.obj (.mapg [] 0)) ∧ H[n + 4]? = some (.row [cfQ b, .optr (n + 1) 0, .mapp (n + 2), .mapp (n + 3), .nilfn, vint 0, vint 0])
def EnvAt (qs : List (List QK)) (b : Nat) (H : Heap) : Prop := ∀ e ∈ envB qs b, H[e.1]? = some e.2
def GQ (qs : List (List QK)) (b n : Nat) : FPl := fun id => (id = n + 4 ∨ id = n + 1 ∨ id = n + 2 ∨ id = n ∨ id = n + 3) ∨ False ∨ ∃ e ∈ envB qs b, e.1 = id
theorem env_rng {qs : List (List QK)} {b : Nat} {e : Nat × AObj} (h : e ∈ envB qs b) : b + 1 ≤ e.1 ∧ e.1 < b + 4 := by
  simp only [envB, envQ, List.mem_cons, List.not_mem_nil, or_false] at h
  rcases h with rfl | rfl | rfl <;> simp
theorem gq_rng {qs : List (List QK)} {b n id : Nat} (h : GQ qs b n id) : (b + 1 ≤ id ∧ id < b + 4) ∨ (n ≤ id ∧ id < n + 5) := by
  rcases h with h | h | ⟨e, he, rfl⟩
  · omega
  · exact h.elim
  · exact .inl (env_rng he)
theorem EnvAt.app {qs : List (List QK)} {b : Nat} {H : Heap} (h : EnvAt qs b H) (L : Heap) : EnvAt qs b (H ++ L) := fun e he => getL (h e he) L
theorem DbAt.app {b n : Nat} {H : Heap} (h : DbAt b n H) (L : Heap) : DbAt b n (H ++ L) := ⟨getL h.1 L, getL h.2.1 L, getL h.2.2.1 L, getL h.2.2.2.1 L, getL h.2.2.2.2 L⟩
theorem wr_new {qs : List (List QK)} {b n : Nat} {H : Heap} (he : EnvAt qs b H) (hd : DbAt b n H) (hbn : b + 4 ≤ n) : WR (cxQ qs b n) (fun _ => 0) [] St.new false (GQ qs b n) H := by
  obtain ⟨h0, h1, h2, h3, h4⟩ := hd
  refine ⟨_, DbR.new (ix := (cxQ qs b n).ix) rfl h4 h1 h2 h0 h3 ?_, trivial, fun _ _ h => h.elim, rfl, fun e hm => ⟨he e hm, fun hf => ?_, fun h => h⟩⟩
  · simp only [cxQ]; omega
  · have := env_rng hm
    simp only [cxQ] at hf; omega
theorem env_new (inp : Int) (qs : List (List QK)) (H : Heap) : EnvAt qs H.length (H ++ [.row [vint inp, .slice (qs.map ksE) .none], .row [.bool true], .row (rowQ qs qs.length), .row [.msl (H.length + 2) 0 qs.length qs.length]]) := by
  intro e he
  simp only [envB, envQ, List.mem_cons, List.not_mem_nil, or_false] at he
  rcases he with rfl | rfl | rfl <;> simp [rowQ_all]
theorem db_new (b : Nat) (H : Heap) : DbAt b H.length (H ++ [.obj (.mapg [] 0), stRow 0 0 0 0 H.length, .obj (.mapg [] 0), .obj (.mapg [] 0), .row [cfQ b, .optr (H.length + 1) 0, .mapp (H.length + 2), .mapp (H.length + 3), .nilfn, vint 0, vint 0]]) := by
  refine ⟨?_, ?_, ?_, ?_, ?_⟩ <;> simp
theorem cfF : (∀ b, (cfQ b).drop1 = cfQ b) ∧ (∀ b, (cfQ b).cells = [cfQ b]) ∧ (∀ b, (cfQ b).isCell = true) ∧ (∀ b, (cfQ b).isJunk = false) := ⟨fun _ => rfl, fun _ => rfl, fun _ => rfl, fun _ => rfl⟩
theorem memNewQ (b : Nat) (H : Heap) : ACalls Try.prog 6 [cfQ b] H fun r H' => r = .optr (H.length + 4) 0 ∧ H' = H ++ [.obj (.mapg [] 0), stRow 0 0 0 0 H.length, .obj (.mapg [] 0), .obj (.mapg [] 0), .row [cfQ b, .optr (H.length + 1) 0, .mapp (H.length + 2), .mapp (H.length + 3), .nilfn, vint 0, vint 0]] := memNew 24 _ H
section
variable {inp : Int} {qs : List (List QK)} (hP : ValP inp qs) {b n : Nat} {loc : QK → Nat} {act : List QK} {st : St} {G : FPl} {H : Heap} {tk b7 b16 b15 b14 : Nat} {start budget : Int}
def FTk (tk b7 b16 b15 b14 : Nat) : FPl := fun id => id = tk ∨ id = b7 ∨ id = b16 ∨ id = b15 ∨ id = b14
def ITk (n tk b7 b16 b15 b14 : Nat) (start budget : Int) (c : Bool) (H : Heap) : Prop := H[tk]? = some (tkRow c) ∧ H[b7]? = some (.row [.optr (n + 4) 0]) ∧ H[b16]? = some (.row [vint start]) ∧ H[b15]? = some (.row [vint budget]) ∧ H[b14]? = some (.row [.optr tk 0])
theorem wr_tok (h : WR (cxQ qs b n) loc [] st false G H) (hI : ITk n tk b7 b16 b15 b14 start budget false H) (hn : ∀ id, G id → ¬ FTk tk b7 b16 b15 b14 id) :
    ∃ G', WR ((cxQ qs b n).tok tk b7 b16 b15 b14 start budget).off loc [] st false G' H ∧ ∀ id, G' id ↔ (G id ∨ FTk tk b7 b16 b15 b14 id) := by
  obtain ⟨F, h1, h2, h3, rfl, h4⟩ := h
  refine ⟨_, ⟨F, h1, hI, fun id hf => hn id (.inl hf), rfl, fun e he => ⟨(h4 e he).1, (h4 e he).2.1, hn e.1 (.inr (.inr ⟨e, he, rfl⟩))⟩⟩, fun id => ⟨?_, ?_⟩⟩
  · rintro (h | h | h)
    · exact .inl (.inl h)
    · exact .inr h
    · exact .inl (.inr (.inr h))
  · rintro ((h | h | h) | h)
    · exact .inl h
    · exact h.elim
    · exact .inr (.inr h)
    · exact .inr (.inl h)
theorem wr_untok {c : Bool} {G' : FPl} (h : WR ((cxQ qs b n).tok tk b7 b16 b15 b14 start budget).off loc act st c G' H) :
    ∃ G, WR (cxQ qs b n) loc act st false G H ∧ (∀ id, G id → G' id ∧ ¬ FTk tk b7 b16 b15 b14 id) ∧ ITk n tk b7 b16 b15 b14 start budget c H := by
  obtain ⟨F, h1, h2, h3, rfl, h4⟩ := h
  refine ⟨_, ⟨F, h1, trivial, fun _ _ h => h.elim, rfl, fun e he => ⟨(h4 e he).1, (h4 e he).2.1, fun h => h⟩⟩, fun id hg => ?_, h2⟩
  rcases hg with h | h | ⟨e, he, rfl⟩
  · exact ⟨.inl h, h3 id h⟩
  · exact h.elim
  · exact ⟨.inr (.inr ⟨e, he, rfl⟩), (h4 e he).2.2⟩
include hP
theorem gu_c {N i : Nat} {vs : List Int} (hL : Ls qs N i vs st) {k : QK} (hk : k ∈ KsQ qs.length) (hW : WR (cxQ qs b n) loc [] st false G H) (hI : ITk n tk b7 b16 b15 b14 start budget false H) (hn : ∀ id, G id → ¬ FTk tk b7 b16 b15 b14 id) (hne : tk ≠ b7 ∧ tk ≠ b16 ∧ tk ≠ b15 ∧ tk ≠ b14) :
    ACalls Try.prog 12 [.optr (n + 4) 0, kE k, .fn (.func 13) [] [.optr b7 0, .optr b16 0, .optr b15 0, .optr b14 0]] H (fun r H' => ∃ (o : Option Rec) (st' : St) (loc' : QK → Nat) (G' : FPl), r = .tup [ansV o, vint (ansE o)] ∧ Ls qs N (i + 1) vs st' ∧ WR (cxQ qs b n) loc' [] st' false G' H' ∧
      H'[tk]? = some (tkRow o.isNone) ∧ H'[b14]? = some (.row [.optr tk 0]) ∧ FrS (fun id => G id ∨ id = tk) (fun id => G' id ∨ id = tk) H H') := by
  obtain ⟨o, st', h1, h2, h3⟩ := hL.get hP hk ((cxQ qs b n).tok tk b7 b16 b15 b14 start budget).stpf
  obtain ⟨Gt, w1, w2⟩ := wr_tok hW hI hn
  have hk0 : k.1 ≠ 0 := by rw [(ksQ_mem.1 hk).1]; decide
  refine (getUntil_c (Cx.tok_ok (cxQ_ok hP b n) tk b7 b16 b15 b14 start budget hne) 41 k hk0 loc st Gt H o st' h1 (fun r e => (h3 r e).2) w1).mono ?_
  rintro r H' ⟨loc', G1, rfl, w3, f3⟩
  obtain ⟨G', w4, w5, w6⟩ := wr_untok w3
  refine ⟨o, st', loc', G', rfl, h2, w4, w6.1, w6.2.2.2.2, f3.len, fun id h4 h5 => ?_, fun id h4 h5 => ?_⟩
  · by_cases ht : FTk tk b7 b16 b15 b14 id
    · rcases ht with rfl | rfl | rfl | rfl | rfl
      · exact (h5 (.inr rfl)).elim
      · rw [w6.2.1, hI.2.1]
      · rw [w6.2.2.1, hI.2.2.1]
      · rw [w6.2.2.2.1, hI.2.2.2.1]
      · rw [w6.2.2.2.2, hI.2.2.2.2]
    · exact f3.same id h4 fun h => ((w2 id).1 h).elim (fun h => h5 (.inl h)) ht
  · rcases h4 with h4 | h4
    · obtain ⟨h6, h7⟩ := w5 id h4
      exact .inl (((w2 id).1 (f3.ids id h6 h5)).resolve_right h7)
    · exact .inr h4
end
structure LwS (inp : Int) (qs : List (List QK)) (b1 n1 b2 n2 q vi : Nat) (vs : List Int) (loc : QK → Nat) (st : St) (G : FPl) (loc2 : QK → Nat) (st2 : St) (G2 : FPl) (H : Heap) : Prop where
  bx : H[0]? = some (.row [vint inp, .slice (qs.map ksE) .none])
  bq : H[q]? = some (.row [.optr (n1 + 4) 0])
  bv : H[vi]? = some (.row (vs.map vint))
  w1 : WR (cxQ qs b1 n1) loc [] st false G H
  w2 : WR (cxQ qs b2 n2) loc2 [] st2 false G2 H
  dj : ∀ id, G id → ¬ G2 id
  n0 : ¬ G 0 ∧ ¬ G2 0
  nq : ¬ G q ∧ ¬ G2 q
  nv : ¬ G vi ∧ ¬ G2 vi
  ne : vi ≠ 0 ∧ vi ≠ q
section
variable {inp : Int} {qs : List (List QK)} (hP : ValP inp qs) {b1 n1 b2 n2 q vi : Nat} {vs : List Int} {loc loc2 : QK → Nat} {st st2 : St} {G G2 : FPl} {H H' : Heap}
include hP
theorem LwS.fr (h : LwS inp qs b1 n1 b2 n2 q vi vs loc st G loc2 st2 G2 H) (hs : ∀ id, id < H.length → H'[id]? = H[id]?) : LwS inp qs b1 n1 b2 n2 q vi vs loc st G loc2 st2 G2 H' :=
  ⟨by rw [hs 0 (len_of_get h.bx)]; exact h.bx, by rw [hs q (len_of_get h.bq)]; exact h.bq, by rw [hs vi (len_of_get h.bv)]; exact h.bv,
   h.w1.fr (cxQ_ok hP _ _) fun id hi => hs id (h.w1.lt (cxQ_ok hP _ _) id hi), h.w2.fr (cxQ_ok hP _ _) fun id hi => hs id (h.w2.lt (cxQ_ok hP _ _) id hi), h.dj, h.n0, h.nq, h.nv, h.ne⟩
theorem LwS.setv (h : LwS inp qs b1 n1 b2 n2 q vi vs loc st G loc2 st2 G2 H) (vs' : List Int) : LwS inp qs b1 n1 b2 n2 q vi vs' loc st G loc2 st2 G2 (H.set vi (.row (vs'.map vint))) :=
  ⟨by rw [List.getElem?_set_ne h.ne.1]; exact h.bx, by rw [List.getElem?_set_ne h.ne.2]; exact h.bq, List.getElem?_set_self (len_of_get h.bv),
   h.w1.fr (cxQ_ok hP _ _) fun id hi => List.getElem?_set_ne (by rintro rfl; exact h.nv.1 hi), h.w2.fr (cxQ_ok hP _ _) fun id hi => List.getElem?_set_ne (by rintro rfl; exact h.nv.2 hi), h.dj, h.n0, h.nq, h.nv, h.ne⟩
theorem LwS.call (h : LwS inp qs b1 n1 b2 n2 q vi vs loc st G loc2 st2 G2 H) {loc' : QK → Nat} {st' : St} {G' : FPl} (w : WR (cxQ qs b1 n1) loc' [] st' false G' H') {p : Nat → Prop} (hp : ∀ id, p id → id ≠ 0 ∧ id ≠ q ∧ id ≠ vi ∧ ¬ G2 id) (f : FrS (fun id => G id ∨ p id) (fun id => G' id ∨ p id) H H') :
    LwS inp qs b1 n1 b2 n2 q vi vs loc' st' G' loc2 st2 G2 H' := by
  have keep : ∀ id o, H[id]? = some o → ¬ G id → ¬ p id → H'[id]? = some o ∧ ¬ G' id := fun id o h1 h2 h3 => by
    obtain ⟨h4, h5⟩ := f.get h1 (fun h => h.elim h2 h3)
    exact ⟨h4, fun h => h5 (.inl h)⟩
  obtain ⟨k1, k2⟩ := keep 0 _ h.bx h.n0.1 fun h => (hp _ h).1 rfl
  obtain ⟨k3, k4⟩ := keep q _ h.bq h.nq.1 fun h => (hp _ h).2.1 rfl
  obtain ⟨k5, k6⟩ := keep vi _ h.bv h.nv.1 fun h => (hp _ h).2.2.1 rfl
  have hl := h.w2.lt (cxQ_ok hP _ _)
  refine ⟨k1, k3, k5, w, h.w2.fr (cxQ_ok hP _ _) fun id hi => f.same id (hl id hi) fun h1 => h1.elim (fun h1 => h.dj id h1 hi) fun h1 => (hp id h1).2.2.2 hi, fun id h1 h2 => ?_, ⟨k2, h.n0.2⟩, ⟨k4, h.nq.2⟩, ⟨k6, h.nv.2⟩, h.ne⟩
  rcases f.ids id (.inl h1) (hl id h2) with h3 | h3
  · exact h.dj id h3 h2
  · exact (hp id h3).2.2.2 h2
theorem LwS.call2 (h : LwS inp qs b1 n1 b2 n2 q vi vs loc st G loc2 st2 G2 H) {loc' : QK → Nat} {st' : St} {G' : FPl} (w : WR (cxQ qs b2 n2) loc' [] st' false G' H') (f : FrS G2 G' H H') :
    LwS inp qs b1 n1 b2 n2 q vi vs loc st G loc' st' G' H' := by
  obtain ⟨k1, k2⟩ := f.get h.bx h.n0.2
  obtain ⟨k3, k4⟩ := f.get h.bq h.nq.2
  obtain ⟨k5, k6⟩ := f.get h.bv h.nv.2
  have hl := h.w1.lt (cxQ_ok hP _ _)
  exact ⟨k1, k3, k5, h.w1.fr (cxQ_ok hP _ _) fun id hi => f.same id (hl id hi) fun h1 => h.dj id hi h1, w, fun id h1 h2 => h.dj id h1 (f.ids id h2 (hl id h1)), ⟨h.n0.1, k2⟩, ⟨h.nq.1, k4⟩, ⟨h.nv.1, k6⟩, h.ne⟩
theorem set_s (h : LwS inp qs b1 n1 b2 n2 q vi vs loc st G loc2 st2 G2 H) {N i : Nat} {vs0 : List Int} (hL : Ls qs N i vs0 st) (hi : i < 100) {a : Nat} (ha : a < N) {b : Int} (hb : 0 ≤ b ∧ b < 1000003) {d : Nat} (hd : d ≤ 2) :
    ACalls Try.prog 9 [.optr (n1 + 4) 0, kE (0, (a : Int), 0), qvE ⟨[b], []⟩, vint (d : Int)] H (fun r H' => r = vint 0 ∧ ∃ st', LwS inp qs b1 n1 b2 n2 q vi vs loc st' G loc2 st2 G2 H' ∧ Ls qs N (i + 1) (vs0.set a b) st') := by
  have hnow : st.now < 2 ^ 62 := by have := hL.now; omega
  refine (set_c (cxQ_ok hP b1 n1) (0, (a : Int), 0) rfl ⟨[b], []⟩ d hd (by show 1 ≤ lim; unfold lim; omega) loc [] st false G H hL.d2 hnow h.w1).mono ?_
  rintro r H' ⟨rfl, w, f⟩
  exact ⟨rfl, _, h.call hP w (p := fun _ => False) (fun _ h => h.elim) (f.or _), hL.set ha hb hd⟩
theorem set_s2 (h : LwS inp qs b1 n1 b2 n2 q vi vs loc st G loc2 st2 G2 H) {N i : Nat} {vs0 : List Int} (hL : Ls qs N i vs0 st2) (hi : i < 100) {a : Nat} (ha : a < N) {b : Int} (hb : 0 ≤ b ∧ b < 1000003) {d : Nat} (hd : d ≤ 2) :
    ACalls Try.prog 9 [.optr (n2 + 4) 0, kE (0, (a : Int), 0), qvE ⟨[b], []⟩, vint (d : Int)] H (fun r H' => r = vint 0 ∧ ∃ st', LwS inp qs b1 n1 b2 n2 q vi vs loc st G loc2 st' G2 H' ∧ Ls qs N (i + 1) (vs0.set a b) st') := by
  have hnow : st2.now < 2 ^ 62 := by have := hL.now; omega
  refine (set_c (cxQ_ok hP b2 n2) (0, (a : Int), 0) rfl ⟨[b], []⟩ d hd (by show 1 ≤ lim; unfold lim; omega) loc2 [] st2 false G2 H hL.d2 hnow h.w2).mono ?_
  rintro r H' ⟨rfl, w, f⟩
  exact ⟨rfl, _, h.call2 hP w f, hL.set ha hb hd⟩
theorem get_s (h : LwS inp qs b1 n1 b2 n2 q vi vs loc st G loc2 st2 G2 H) {N i : Nat} {vs0 : List Int} (hL : Ls qs N i vs0 st) {k : QK} (hk : k ∈ KsQ qs.length) :
    ACalls Try.prog 17 [.optr (n1 + 4) 0, kE k] H (fun r H' => r = .tup [qvE (sem (cpQ qs) rkQ (vals st.cell) k), vint 0] ∧ FrS G (fun id => H.length ≤ id ∨ G id) H H' ∧ ∃ loc' st' G', LwS inp qs b1 n1 b2 n2 q vi vs loc' st' G' loc2 st2 G2 H') := by
  obtain ⟨r, st', h1, h2, h3, h4⟩ := hL.got hP hk
  have hk0 : k.1 ≠ 0 := by rw [(ksQ_mem.1 hk).1]; decide
  refine (get_c (cxQ_ok hP b1 n1) 41 k hk0 loc st G H (some r) st' h1 (fun r' e => by injection e with e; subst e; exact h4) h.w1).mono ?_
  rintro _ H' ⟨loc', G', rfl, w, f⟩
  refine ⟨by rw [← h3]; rfl, ⟨f.len, f.same, fun id h1 h2 => ?_⟩, loc', st', G', h.call hP w (p := fun _ => False) (fun _ h => h.elim) (f.or _)⟩
  exact h1.elim (fun h => by omega) fun h => h
theorem get_s2 (h : LwS inp qs b1 n1 b2 n2 q vi vs loc st G loc2 st2 G2 H) {N i : Nat} {vs0 : List Int} (hL : Ls qs N i vs0 st2) {k : QK} (hk : k ∈ KsQ qs.length) :
    ACalls Try.prog 17 [.optr (n2 + 4) 0, kE k] H (fun r H' => r = .tup [qvE (sem (cpQ qs) rkQ (vals st2.cell) k), vint 0] ∧ FrS G2 (fun id => H.length ≤ id ∨ G2 id) H H') := by
  obtain ⟨r, st', h1, h2, h3, h4⟩ := hL.got hP hk
  have hk0 : k.1 ≠ 0 := by rw [(ksQ_mem.1 hk).1]; decide
  refine (get_c (cxQ_ok hP b2 n2) 41 k hk0 loc2 st2 G2 H (some r) st' h1 (fun r' e => by injection e with e; subst e; exact h4) h.w2).mono ?_
  rintro _ H' ⟨loc', G', rfl, w, f⟩
  exact ⟨by rw [← h3]; rfl, f.len, f.same, fun id h1 h2 => h1.elim (fun h => by omega) fun h => h⟩
end
end Go.Abs
namespace Go.Proofs
open Go.RowKit Go.Abs
open Go.ChangeMaps (setBlock)
section
variable {F : Fence} {n : Nat} {P : Program} (w : World) {ops : Array Oper} {rest : List Oper} {o : Oper} {a : Act} {Q : Exit → Act → World → Prop}
theorem in_range_raw (hg : o.guard = none) (m : Operand) (t : TypeId) (hop : o.op = Op.range t m) (k e : TypeId) (ht : P.underlying t = some (.map k e)) (b : Nat) (es : Array MapEntry) (clock : Nat) (hm : a.eval m = .map (some b)) (hb : w.heap[b]? = some (.map es clock))
    (hK : wpListIn F n P ops Q rest (a.put o.dst (.pointer (some ⟨w.heap.size, 0, none⟩))) (w.alloc (.mapIter (some b) clock #[] clock))) : wpListIn F n P ops Q (o :: rest) a w := by
  refine wpListIn_plain hg fun K' hK' => ?_
  have hrun := run_range_map w t k e b es clock ht hb
  unfold Oper.wpIn
  refine ⟨by simp [Oper.about, hop], ?_⟩
  rw [Oper.semAt_plain F _ _ (by rw [hop]; intro c hc'; cases hc')]
  simp [execOp, hop, hm, hrun, Result.andThen]
  exact hK' _ _ hK
theorem in_next_raw (hg : o.guard = none) (it : Operand) (hop : o.op = Op.next it false) (b r clock : Nat) (es : Array MapEntry) (seen : Array Nat) (hit : a.eval it = .pointer (some ⟨r, 0, none⟩)) (hb : w.heap[b]? = some (.map es clock)) (hr : w.heap[r]? = some (.mapIter (some b) clock seen clock))
    (hold : ∀ x ∈ es.toList, x.born < clock) (hnd : (es.toList.map (·.born)).Nodup)
    (hDone : (leftOf es seen).size = 0 → wpListIn F n P ops Q rest (a.put o.dst (.tuple #[.bool false])) w)
    (hMore : ∀ e ∈ (leftOf es seen).toList, ∀ w' : World, w'.heap[b]? = some (.map es clock) → w'.heap[r]? = some (.mapIter (some b) clock (seen.push e.born) clock) → w.grownBy w' (some r) → w'.heap.size = w.heap.size →
      (Instr.entry (.pointer (some ⟨r, 0, none⟩))).run P w' = .ok (.tuple #[e.key, e.val]) w' → wpListIn F n P ops Q rest (a.put o.dst (.tuple #[.bool true, e.key, e.val])) w') : wpListIn F n P ops Q (o :: rest) a w := by
  refine wpListIn_plain hg fun K' hK' => ?_
  unfold Oper.wpIn
  refine ⟨by simp [Oper.about, hop], ?_⟩
  rw [Oper.semAt_plain F _ _ (by rw [hop]; intro c hc'; cases hc')]
  have hne : r ≠ b := by rintro rfl; rw [hb] at hr; cases hr
  rcases run_next_at (P := P) w o.type r b clock clock seen es clock hr hb hold (Nat.le_refl _) with ⟨h0, hrun⟩ | ⟨e, he, w1, hal, hrun⟩
  · simp [execOp, hop, hit, hrun, Result.andThen]
    exact hK' _ _ (hDone h0)
  · have hr1 : w1.heap[r]? = some (.mapIter (some b) clock seen clock) := by rcases hal with rfl | rfl <;> exact hr
    have hb1 : w1.heap[b]? = some (.map es clock) := by rcases hal with rfl | rfl <;> exact hb
    have hset := Go.MapKept.heap_set (o' := .mapIter (some b) clock (seen.push e.born) clock) hr1
    have hb' : (setBlock w1 r (.mapIter (some b) clock (seen.push e.born) clock)).heap[b]? = some (.map es clock) := (hset.2 b (fun e1 => hne e1.symm)).trans hb1
    have hem := (mem_left he).1
    simp [execOp, hop, hit, hrun, Result.andThen]
    refine hK' _ _ (hMore e he _ hb' hset.1 ?_ ?_ (run_entry_at _ r b clock seen es clock e hset.1 hb' hem hnd))
    · rcases hal with rfl | rfl <;> exact ⟨rfl, rfl, rfl, by simp [setBlock], fun i _ hi => hset.2 i (fun e1 => hi (by rw [e1]))⟩
    · rcases hal with rfl | rfl <;> simp [setBlock]
end
theorem rangeLeft_raw {w : World} {b r clock c1 c2 : Nat} {es : Array MapEntry} {seen : Array Nat} (hb : w.heap[b]? = some (.map es clock)) (hr : w.heap[r]? = some (.mapIter (some b) c1 seen c2)) : w.rangeLeft b r = (leftOf es seen).size := by
  simp only [World.rangeLeft, hb, hr]
set_option maxRecDepth 100000 in
set_option maxHeartbeats 4000000 in
theorem keys66 (F : Fence) (n : Nat) (h66 : F.fn 66) (hro : F.round = none) (hn : 1 ≤ n) (Bm b : Nat) (es : Array MapEntry) (clock : Nat) (w : World) (hBm : Bm < w.heap.size)
    (hmw : w.cell? ⟨Bm, 0, none⟩ = some (.map (some b))) (hbw : w.heap[b]? = some (.map es clock)) (hold : ∀ x ∈ es.toList, x.born < clock) (hnd : (es.toList.map (·.born)).Nodup) (hkeys : ∀ e ∈ es.toList, ∃ k, e.key = gkey k) :
    SeqStopsK F n Try.prog 66 #[.pointer (some ⟨Bm, 0, none⟩)] (fun x : { k : Int × Int × Int // ∃ e ∈ es.toList, e.key = gkey k } => #[gkey x.1]) KeepsWalks (fun xs => xs.length ≤ es.size) (fun _ => True) es.size w := by
  intro l J Jx W hW hJ hJx hY h0
  have hbl0 : b < w.heap.size := (Array.getElem?_eq_some_iff.1 hbw).1
  have hb : W.heap[b]? = some (.map es clock) := (hW.block b hbl0).trans hbw
  have hm : W.cell? ⟨Bm, 0, none⟩ = some (.map (some b)) := (hW.cell (p := ⟨Bm, 0, none⟩) hBm).trans hmw
  have t59 := Try.underlying59
  have t37 := Try.underlying37; have a37 := Try.isAgg37; have z37 := Try.sizeOf37; have v37 := Try.zeroValue37
  have a59 := Try.isAgg59; have z59 := Try.sizeOf59
  refine callsIn_of_wp Try.func66 rfl h66 ?_ hro
  simp only [Try.ntmps66, List.size_toArray, List.length_cons, List.length_nil, Nat.reduceAdd, Nat.reduceSub, Array.replicate_succ, Array.replicate_zero, List.push_toArray, List.append_toArray, List.nil_append, List.cons_append]
  gi_wp2_with (first
    | (gi_at_range; refine in_range_raw _ rfl _ 59 rfl 37 85 Try.underlying59 b es clock rfl hb ?_)
    | gi_in)
  try go_frame
  have hbl : b < W.heap.size := (Array.getElem?_eq_some_iff.1 hb).1
  obtain ⟨W0, hW0⟩ : ∃ W0, W.alloc (.mapIter (some b) clock #[] clock) = W0 := ⟨_, rfl⟩
  have hg0 : W.grownBy W0 none := by rw [← hW0]; exact World.grownBy_alloc W _ none
  have hb0 : W0.heap[b]? = some (.map es clock) := (hg0.block b hbl (by simp)).trans hb
  have hr0 : W0.heap[W.heap.size]? = some (.mapIter (some b) clock #[] clock) := by rw [← hW0]; exact World.alloc_heap_new W _
  rw [hW0]
  gi_loopw [] (fun wr => ∃ (seen : Array Nat) (ks : List { k : Int × Int × Int // ∃ e ∈ es.toList, e.key = gkey k }), wr.heap[b]? = some (.map es clock) ∧ wr.heap[W.heap.size]? = some (.mapIter (some b) clock seen clock) ∧ ks.length + (leftOf es seen).size ≤ es.size ∧ J ks wr)
    (fun wr => wr.rangeLeft b W.heap.size)
  case atStart =>
    exact ⟨#[], [], hb0, hr0, by simp [leftOf, Array.size_filter_le], hJ [] W W0 none h0 hg0 (fun r e => by cases e)⟩
  case round =>
    obtain ⟨seen, ks, hbR, hrR, hcs, hJs⟩ := hrel
    gi_wp2_with (first
      | (gi_at_next; refine in_next_raw _ rfl _ rfl b W.heap.size clock es seen rfl hbR hrR hold hnd ?_ ?_)
      | gi_in)
    · -- nothing is left
      intro hc0
      gi_wp2
      go_end0
      exact ⟨⟨_, rfl⟩, .inl ⟨ks, by omega, hJs⟩⟩
    · -- a key has come
      intro e he w2 hb2 hr2 hg2 hs2 hen
      have he := Array.mem_toList_iff.2 he
      obtain ⟨hem, _⟩ := mem_left he
      obtain ⟨k, hk⟩ := hkeys e hem
      rw [hk] at hen ⊢
      unfold gkey at hen ⊢
      gi_wp2
      obtain ⟨w3, hw3⟩ : ∃ w3, w2.alloc (Obj.cells #[Value.int IntKind.i64 k.1, Value.int IntKind.i64 k.2.1, Value.int IntKind.i64 k.2.2] 37) = w3 := ⟨_, rfl⟩
      rw [hw3]
      have hg3 : w2.grownBy w3 none := by rw [← hw3]; exact World.grownBy_alloc w2 _ none
      have hbl2 : b < w2.heap.size := (Array.getElem?_eq_some_iff.1 hb2).1
      have hrl2 : W.heap.size < w2.heap.size := (Array.getElem?_eq_some_iff.1 hr2).1
      have hb3 := (hg3.block b hbl2 (by simp)).trans hb2
      have hr3 := (hg3.block _ hrl2 (by simp)).trans hr2
      have hJ2 : J ks w2 := hJ ks wr w2 (some W.heap.size) hJs hg2 (fun r e => by cases e; exact ⟨Nat.le_refl _, _, hrR, rfl⟩)
      have hJ3 : J ks w3 := hJ ks w2 w3 none hJ2 hg3 (fun r e => by cases e)
      have hlt := left_shrinks es seen e he
      obtain ⟨fn, tmps, assign, body, hy, hR⟩ := hY ks ⟨k, e, hem, hk⟩ w3 hJ3 (by omega)
      unfold gkey at hy
      clear hw3
      rw [hy]
      go_simp
      refine hR.mono ?_
      rintro e W4 (⟨rfl, hJ4, hk4⟩ | ⟨rfl, hJ4⟩)
      · gi_wp2
        have hb4 := hk4.same b _ hb3 rfl
        have hr4 := hk4.same _ _ hr3 rfl
        go_roundw
        case rel => exact ⟨_, ks ++ [_], hb4, hr4, by simp; omega, hJ4⟩
        case measure => rw [rangeLeft_raw hb4 hr4, rangeLeft_raw hbR hrR]; exact hlt
      · gi_wp2
        (try simp only [Exit.inBlock, Exit.then])
        refine bodyPost_ret (results_none rfl _ _ _) rfl ?_
        exact ⟨⟨_, rfl⟩, .inr ⟨_, trivial, hJ4⟩⟩
end Go.Proofs
namespace Go.Proofs
open Go.RowKit Go.Abs
abbrev KQ := Int × Int × Int
def kCells (ks : List KQ) : List Value := ks.flatMap fun k => [.int .i64 k.1, .int .i64 k.2.1, .int .i64 k.2.2]
theorem kCells_snoc (ks : List KQ) (k : KQ) : kCells (ks ++ [k]) = kCells ks ++ [.int .i64 k.1, .int .i64 k.2.1, .int .i64 k.2.2] := by simp [kCells]
theorem Try.info37 : (Try.prog.info? 37).map (fun i => (i.zero, i.size, i.bytes)) = some (some (.agg #[.int .i64 0, .int .i64 0, .int .i64 0]), 3, 24) := by kernel_rfl
def ApI (w : World) (Bs : Nat) {p : KQ → Prop} (pre : List { k : KQ // p k }) (W : World) : Prop :=
  ∃ v, W.heap[Bs]? = some (.cells #[v] 82 (0, 0)) ∧ W.ownsRow w.heap.size 37 3 v pre.length (kCells (pre.map (·.1))) ∧ Below w.heap.size w W
theorem keepsCells {W W' : World} {row : Option Nat} (hg : W.grownBy W' row) (hr : ∀ r, row = some r → ∃ o : Obj, W.heap[r]? = some o ∧ o.isCells = false) {k : Nat} {o : Obj} (hk : W.heap[k]? = some o) (hc : o.isCells = true) : W'.heap[k]? = some o :=
  (hg.block k (Array.getElem?_eq_some_iff.1 hk).1 (fun e => by
    obtain ⟨o2, h2, h3⟩ := hr k e.symm
    rw [hk] at h2; cases h2; rw [hc] at h3; cases h3)).trans hk
theorem ownsRow_cells {W W' : World} {row : Option Nat} {base : Nat} {e : TypeId} {size : Nat} {v : Value} {k : Nat} {xs : List Value} (h : W.ownsRow base e size v k xs) (hg : W.grownBy W' row) (hr : ∀ r, row = some r → ∃ o : Obj, W.heap[r]? = some o ∧ o.isCells = false) : W'.ownsRow base e size v k xs := by
  refine h.kept hg ?_
  rcases h.2 with ⟨rfl, _⟩ | ⟨g, cap, cur, rfl, _, hgb, _⟩
  · exact .inl rfl
  · refine .inr fun e' => ?_
    obtain ⟨o, ho, hw⟩ := hr g (by simpa [Value.ownBlock] using e'.symm)
    rw [hgb] at ho; cases ho; cases hw
theorem own_abides {w : World} {Bs B : Nat} {p : KQ → Prop} (hB : w.heap.size ≤ B) : OwnFrom B (fun (pre : List { k : KQ // p k }) W => ApI w Bs pre W) := by
  rintro s W W' row ⟨v, hv, hrow, hb⟩ hg hr
  have hr' : ∀ r, row = some r → ∃ o : Obj, W.heap[r]? = some o ∧ o.isCells = false := fun r e => (hr r e).2
  exact ⟨v, keepsCells hg hr' hv rfl, ownsRow_cells hrow hg hr', hb.grown hg hb.size (fun k e => Nat.le_trans hB (hr k e).1)⟩
theorem cells3_new (W : World) (a b c : Value) (e : TypeId) (j : Nat) (u : Value) (h : [a, b, c][j]? = some u) : (W.alloc (.cells #[a, b, c] e)).cell? ((⟨W.heap.size, 0, none⟩ : Addr).add j) = some u := by
  have h0 := World.alloc_heap_new W (Obj.cells #[a, b, c] e)
  have hc : (W.alloc (.cells #[a, b, c] e)).cell? ⟨W.heap.size, j, none⟩ = (#[a, b, c] : Array Value)[j]? := by
    unfold World.cell?
    simp only [h0]
    simp
  have ha : (⟨W.heap.size, 0, none⟩ : Addr).add j = ⟨W.heap.size, j, none⟩ := by
    simp [Addr.add]
    try (intro h; exact h.symm)
  rw [ha, hc, ← h]
  simp
theorem boxNe {W : World} {base : Nat} {e : TypeId} {size : Nat} {v : Value} {k : Nat} {xs : List Value} (h : W.ownsRow base e size v k xs) {j : Nat} {o : Obj} (hj : W.heap[j]? = some o) (hno : ∀ cur, o ≠ .cells cur e (0, 0)) : some j ≠ v.ownBlock := by
  rcases h.2 with ⟨rfl, _⟩ | ⟨g, cap, cur, rfl, _, hgb, _⟩
  · simp [Value.ownBlock]
  · intro e'
    have : g = j := by simpa [Value.ownBlock] using e'.symm
    subst this; rw [hgb] at hj; cases hj; exact hno cur rfl
set_option maxRecDepth 100000 in
set_option maxHeartbeats 4000000 in
theorem append70 (F : Fence) (n : Nat) (h70 : F.fn 70) (hro : F.round = none) (hn : 2 ≤ n) (g : Nat) (lb : Array Value) (hFg : F.fn g) (eg : ∀ args w, (callFunc g args).run Try.prog w = .ok (.enter g args) w)
    (p : KQ → Prop) (N : Nat) (hN : N ≤ 1000000) (w : World) (hseq : SeqStopsK F (n - 1) Try.prog g lb (fun x : { k : KQ // p k } => #[gkey x.1]) KeepsWalks (fun xs => xs.length ≤ N) (fun _ => True) N w) :
    CallsIn F n Try.prog 70 #[.slice none 0 0, .func (.func g) #[] lb] w fun e w' => ∃ (v : Value) (ks : List { k : KQ // p k }), e = .returned v ∧ ks.length ≤ N ∧ w'.ownsRow w.heap.size 37 3 v ks.length (kCells (ks.map (·.1))) ∧ Below w.heap.size w w' := by
  have h1 : 1 ≤ n := by omega
  have t82 := Try.underlying82; have a82 := Try.isAgg82; have z82 := Try.sizeOf82; have v82 := Try.zeroValue82
  have t37 := Try.underlying37; have a37 := Try.isAgg37; have z37 := Try.sizeOf37; have v37 := Try.zeroValue37
  refine callsIn_of_wp_marks Try.func70 rfl h70 ?_ hro
  simp only [Try.ntmps70, List.size_toArray, List.length_cons, List.length_nil, Nat.reduceAdd, Nat.reduceSub, Array.replicate_succ, Array.replicate_zero, List.push_toArray, List.append_toArray, List.nil_append, List.cons_append]
  gi_wp2
  obtain ⟨W0, hW0⟩ : ∃ W0, w.alloc (.cells #[.slice none 0 0] 82) = W0 := ⟨_, rfl⟩
  have hs0 : W0.heap.size = w.heap.size + 1 := by rw [← hW0]; simp
  have hv0 : W0.heap[w.heap.size]? = some (.cells #[.slice none 0 0] 82 (0, 0)) := by rw [← hW0]; exact World.alloc_heap_new w _
  have hb0 : Below w.heap.size w W0 := by rw [← hW0]; exact (Below.refl _ w).alloc (Nat.le_refl _) _
  rw [hW0]
  refine wpIn_rangeFunc_ownH (w0 := w) (α := { k : KQ // p k }) (encs := fun x => #[gkey x.1]) (Kp := KeepsWalks) (N := N) hro h1 (gf := g) (lb := lb) rfl hFg eg hseq (fun h k => h.trans k) ?hKb hb0 (fun _ => rfl)
    (fun pre W => ApI w w.heap.size pre W) (fun _ _ _ => False) ?hI (fun c s W W' row h _ _ => h) ?h0
    (fun x a' W => ∃ B5, W0.heap.size ≤ B5 ∧ W.heap[B5]? = some (.cells #[.int .i64 x.1.1, .int .i64 x.1.2.1, .int .i64 x.1.2.2] 37 (0, 0)) ∧ a' = { tmps := #[.slice none 0 0, .func (.func g) #[] lb, .pointer (some ⟨w.heap.size, 0, none⟩), undef, .slice none 0 0, .pointer (some ⟨B5, 0, none⟩), .func (.func g) #[] lb, gkey x.1, undef, undef, undef, undef, undef], defers := [] })
    ?hAx ?hassign ?hbody ?hdone (fun D c pre W _ _ h => h.elim)
  case hKb => exact fun W l o o' _ h _ hw => KeepsWalks.putObj _ h hw
  case hI => exact own_abides (by omega)
  case h0 => exact ⟨_, hv0, ⟨rfl, .inl ⟨rfl, rfl⟩⟩, hb0⟩
  case hAx =>
    rintro x a' s W W' row ⟨B5, h1, h2, h3⟩ hg hr
    exact ⟨B5, h1, keepsCells hg (fun r e => (hr r e).2) h2 rfl, h3⟩
  case hassign =>
    rintro l pre ⟨x, hx⟩ W K hIp hK
    simp only [gkey]
    gi_wp2_with (rw [Oper.semAt_eq _ _ _ (fun c h => by cases h)]; go_simp; try go_bits)
    obtain ⟨v, hv, hrow, hb⟩ := id hIp
    have hlt : w.heap.size < W.heap.size := (Array.getElem?_eq_some_iff.1 hv).1
    have hga := World.grownBy_alloc W (Obj.cells #[Value.int IntKind.i64 x.1, Value.int IntKind.i64 x.2.1, Value.int IntKind.i64 x.2.2] 37) none
    exact hK _ _ (KeepsFrom.of_grownBy hga (fun j e => by cases e)) (KeepsWalks.alloc _ _) (own_abides (Nat.le_refl _) pre W _ none hIp hga (fun r e => by cases e)) ⟨W.heap.size, by omega, World.alloc_heap_new W _, rfl⟩
  case hbody =>
    rintro l pre ⟨x, hx⟩ a' W hl hrec hIp ⟨B5, hB5, h5, rfl⟩ hlen
    obtain ⟨v, hv, hrow, hb⟩ := id hIp
    obtain ⟨i0, hi, hz0, hz1, hz2⟩ := info_parts Try.info37
    have hlt : w.heap.size < W.heap.size := (Array.getElem?_eq_some_iff.1 hv).1
    have hc2 : W.cell? ⟨w.heap.size, 0, none⟩ = some v ∧ W.frozen? ⟨w.heap.size, 0, none⟩ = false := by constructor <;> simp [World.cell?, World.frozen?, hv]
    have hc5 : W.cell? ⟨B5, 0, none⟩ = some (.int .i64 x.1) ∧ W.cell? ⟨B5, 1, none⟩ = some (.int .i64 x.2.1) ∧ W.cell? ⟨B5, 2, none⟩ = some (.int .i64 x.2.2) := by refine ⟨?_, ?_, ?_⟩ <;> simp [World.cell?, h5]
    obtain ⟨c2, f2⟩ := hc2
    obtain ⟨c50, c51, c52⟩ := hc5
    simp only [gkey]
    gi_wp2_with (first
      | (gi_at_builtin; refine wpListIn_append_own _ rfl _ _ 82 rfl w.heap.size 37 i0 (.agg #[.int .i64 0, .int .i64 0, .int .i64 0]) 3 24 Try.underlying82 hi hz0 hz1 hz2 rfl (by decide) _ _ _ rfl (hrow.alloc _) ⟨W.heap.size, 0, none⟩ 1 1 [.int .i64 x.1, .int .i64 x.2.1, .int .i64 x.2.2] rfl rfl (cells3_new W _ _ _ 37) (by simp [Value.oneCell']) (by simp only [maxLen]; omega) (by omega) (by have := hb.size; simp; omega) ?_
         intro v' w3 hown' hg3 hnil3
         have hv3 : w3.heap[w.heap.size]? = some (.cells #[v] 82 (0, 0)) := (hg3.block _ (by simp; omega) (boxNe hrow hv (fun cur e => by cases e))).trans ((Below.heap_alloc _ _ _ hlt).trans hv)
         have hcc3 : w3.cell? ⟨w.heap.size, 0, none⟩ = some v ∧ w3.frozen? ⟨w.heap.size, 0, none⟩ = false := by constructor <;> simp [World.cell?, World.frozen?, hv3]
         obtain ⟨hc3, hf3⟩ := hcc3
         obtain ⟨g', cap', cur', rfl, hbase', hgb', hr1, hr2, hr3, hr4⟩ : ∃ g' cap' cur', v' = .slice (some ⟨g', 0, none⟩) (pre.length + 1) cap' ∧ w.heap.size ≤ g' ∧ w3.heap[g']? = some (.cells cur' 37 (0, 0)) ∧ pre.length + 1 ≤ cap' ∧ cap' ≤ maxLen ∧ cur'.size = cap' * 3 ∧ cur'.toList.take ((pre.length + 1) * 3) = kCells (pre.map (·.1)) ++ [.int .i64 x.1, .int .i64 x.2.1, .int .i64 x.2.2] := by
           rcases hown'.2 with ⟨_, h0⟩ | h'
           · exact absurd h0 (by omega)
           · exact h'
         go_frame)
      | (rw [Oper.semAt_eq _ _ _ (fun c h => by cases h)]; go_simp; try go_bits))
    have hg3' : (W.alloc (.cells #[.int .i64 x.1, .int .i64 x.2.1, .int .i64 x.2.2] 37)).grownBy w3 v.ownBlock := hg3
    obtain ⟨w4, hw4⟩ : ∃ w4, w3.setCell ⟨w.heap.size, 0, none⟩ (.slice (some ⟨g', 0, none⟩) (pre.length + 1) cap') = w4 := ⟨_, rfl⟩
    rw [hw4]
    have hg4 : w3.grownBy w4 (some w.heap.size) := by rw [← hw4]; exact grownBy_setCell' _ _ _
    have hv4 : w4.heap[w.heap.size]? = some (.cells #[.slice (some ⟨g', 0, none⟩) (pre.length + 1) cap'] 82 (0, 0)) := by rw [← hw4]; exact heap_setCell_eq hv3
    have hk4 : KeepsWalks W w4 := ((KeepsWalks.alloc _ _).trans (KeepsWalks.of_grownBy hg3' fun j o hj ho => by
      rcases (hrow.alloc (.cells #[.int .i64 x.1, .int .i64 x.2.1, .int .i64 x.2.2] 37)).2 with ⟨rfl, _⟩ | ⟨g, cap, cur, rfl, _, hgb, _⟩
      · simp [Value.ownBlock] at hj
      · have : g = j := by simpa [Value.ownBlock] using hj
        subst this; rw [hgb] at ho; cases ho; rfl)).trans (by rw [← hw4]; exact KeepsWalks.setCell _ _ _)
    have hb3 : Below w.heap.size w w3 := (hb.alloc hb.size _).grown hg3' (by have := hb.size; simp; omega) (fun k e => (hrow.lt k e).1)
    refine ⟨⟨by have h1 := hg3'.size; have h2 := hg4.size; simp at h1; omega, fun k o hBk hk hc => ?_⟩, hk4, _, hv4, ?_, hb3.grown hg4 hb3.size (fun k e => by cases e; exact Nat.le_refl _)⟩
    · have hkl : k < W.heap.size := (Array.getElem?_eq_some_iff.1 hk).1
      refine (hg4.block k (by have h1 := hg3'.size; simp at h1; omega) (fun e => by cases e; omega)).trans ((hg3'.block k (by simp; omega) (boxNe hrow hk (fun cur e => by rw [e] at hc; cases hc))).trans ((Below.heap_alloc _ _ k hkl).trans hk))
    · have hr4 := hown'.kept hg4 (.inr (Ne.symm (boxNe hown' hv3 (fun cur e => by cases e))))
      rw [List.map_append, List.map_cons, List.map_nil, kCells_snoc, List.length_append, List.length_cons, List.length_nil]
      exact hr4
  case hdone =>
    rintro D xs W hD hS ⟨v, hv, hrow, hb⟩ hK
    have hc2 : W.cell? ⟨w.heap.size, 0, none⟩ = some v ∧ W.frozen? ⟨w.heap.size, 0, none⟩ = false := by constructor <;> simp [World.cell?, World.frozen?, hv]
    obtain ⟨c2, f2⟩ := hc2
    gi_wp2
    have hgD : W.grownBy (W.putObj D (.deferred none)) (some D) := grownBy_putObj' _ _ _
    refine ⟨by simp, .inl ⟨_, _, rfl, run_takeDeferred hK, ?_⟩⟩
    exact ⟨_, results_tmp rfl _ _ _, v, xs, rfl, hS, hrow.kept hgD (.inr (Ne.symm (boxNe hrow hK (fun cur e => by cases e)))), hb.grown hgD hb.size (fun k e => by cases e; omega)⟩
end Go.Proofs
