/- Part 5 of a proof of the law TopCanceled: Go data as trees, the walks of the functions that the law reaches, the plain laws. -/
import Derived.Test.YtndpndmhoheloaaGDTopCanceled
set_option linter.unusedVariables false
set_option linter.unusedSimpArgs false
namespace Go.Memo
section
variable {cp : QK → Prog} {rk : QK → Nat} {Good : (QK → QV) → Prop} (hB : Bnd cp rk Good) {hist : Nat → QK → Cell}
include hB
omit hB in
theorem setF_self (f : QK → Option Rec) (k : QK) (r : Rec) : setF f k (some r) k = some r := by simp [setF]
omit hB in
theorem setF_ne {f : QK → Option Rec} {k q : QK} {r : Option Rec} (h : q ≠ k) : setF f k r q = f q := by simp [setF, h]
theorem low {s : St} (hi : Inv cp rk Good s hist) {q k : QK} {r : Rec} (hq : s.res q = some r) (hk : k.1 ≠ 0) (hc : Clo cp (Ev cp rk hist r.v) q k)
    (hs : ∀ x, Clo cp (Ev cp rk hist r.v) k x → x.1 = 0 → (s.cell x).c ≤ r.v) {D : Nat}
    (hm : ∀ m, m ≤ 2 → (∀ d ∈ (cp k).reads (Ev cp rk hist s.now), d.1 = 0 → m ≤ (s.cell d).d) → (∀ d ∈ (cp k).reads (Ev cp rk hist s.now), d.1 ≠ 0 → ∀ rd, s.res d = some rd → m ≤ rd.D) → m ≤ D) : r.D ≤ D := by
  have ho := hi.recs q r hq
  obtain ⟨e1, e2, e3⟩ := hi.stab hB hk ho.vn hs ho.vn (Nat.le_refl _)
  rw [e2] at hm
  refine hm r.D ho.d2 (fun d hd h0 => ?_) (fun d hd h0 rd hrd => ?_)
  · have := ho.i3 d (hc.trans (.dir hk hd)) h0
    rw [hi.hold d r.v ho.vn (hs d (.dir hk hd) h0)] at this
    exact this
  · exact ho.i6 d (hc.trans (.dir hk hd)) h0 (fun x hx hx0 => hs x (.step hk hd hx) hx0) rd hrd
theorem recomp_ok {k : QK} {u : QK → St → Out Rec} (hu : USpec cp rk Good hist (rk k) u) (stp : Int → Bool) (hk : k.1 ≠ 0) {st : St} (hi : Inv cp rk Good st hist) (hnv : ∀ r, st.res k = some r → r.v ≠ st.now) :
    ∃ o st', recomp u stp cp k st = some (o, st') ∧ Inv cp rk Good st' hist ∧ Fr rk (rk k + 1) st st' ∧ ∀ r, o = some r → st'.res k = some r ∧ r.v = st.now := by
  unfold recomp
  by_cases hst : stp st.comps = true
  · rw [if_pos hst]
    exact ⟨none, st, rfl, hi, .refl _ _, fun r h => by cases h⟩
  rw [if_neg hst]
  obtain ⟨o, a, s, h1, h2, h3, h4⟩ := run_ok hB hu (cp k) ⟨[], 2⟩ st (hB.rank.below k hk) hi (by have := hB.okr _ (hi.good _ (Nat.le_refl _)) k hk; simpa using this)
  rw [h1]
  have h3' : Fr rk (rk k + 1) st s := h3.mono (Nat.le_succ _)
  cases o with
  | none => exact ⟨none, s, rfl, h2, h3', fun r h => by cases h⟩
  | some v =>
    obtain ⟨g1, g2, g3, g4, g5, g6⟩ := h4 v rfl
    have hval : v = Ev cp rk hist st.now k := by rw [g1, Ev, sem_q hB.rank _ hk]
    have hov : okV v = true := by rw [hval]; exact hB.okv _ (hi.good _ (Nat.le_refl _)) k
    dsimp only
    rw [if_pos hov]
    simp only [List.not_mem_nil, false_or] at g2
    have hsk : s.res k = st.res k := h3.high k (Nat.le_refl _)
    have hn : newC (s.res k) st.now a.D v ≤ st.now := by
      unfold newC
      split
      · rename_i o ho
        split
        · have := h2.recs k o ho
          have h5 := this.cv; have h6 := this.vn
          rw [h3.now] at h6; omega
        · omega
      · omega
    have hne : ∀ d ∈ (cp k).reads (Ev cp rk hist st.now), d.1 ≠ 0 → d ≠ k := fun d hd h0 e => by
      have := (Prog.bel_reads _ (hB.rank.below k hk) d hd).resolve_left h0
      rw [e] at this; omega
    have hlow : ∀ q r, s.res q = some r → Clo cp (Ev cp rk hist r.v) q k → (∀ x, Clo cp (Ev cp rk hist r.v) k x → x.1 = 0 → (s.cell x).c ≤ r.v) → r.D ≤ a.D := by
      intro q r hq hc hs
      refine low hB h2 hq hk hc hs fun m hm p1 p2 => ?_
      rw [h3.now, h3.cell] at p1
      rw [h3.now] at p2
      exact g6 m hm p1 p2
    refine ⟨_, _, rfl, recs_put h2 ?_ ?_ ?_, ?_, fun r hr => ?_⟩
    · refine ⟨hk, hn, ?_, g3, hval, g2, fun x hx h0 => ?_, fun d hd h0 rd hrd hc => ?_, fun y hy h0 hs ry hry => ?_⟩
      · show st.now ≤ s.now; rw [h3.now]; exact Nat.le_refl _
      · show a.D ≤ _
        obtain ⟨d, hd, h⟩ := hx.cases'
        rcases h with rfl | h
        · rw [hi.hnow]; exact g4 d hd h0
        · obtain ⟨rd, r1, r2, r3⟩ := g5 d hd h.src
          have := (h2.recs d rd r1).i3 x (by rw [r2]; exact h) h0
          rw [r2] at this
          exact Nat.le_trans r3 this
      · have hd' : d ∈ (cp k).reads (Ev cp rk hist st.now) := (g2 d).1 hd
        obtain ⟨rd', r1, r2, r3⟩ := g5 d hd' h0
        have hrd' : s.res d = some rd := by rw [← hrd]; exact (setF_ne (hne d hd' h0)).symm
        rw [hrd'] at r1; cases r1
        have := (h2.recs d rd hrd').val
        rw [r2] at this
        exact ⟨this, r3⟩
      · have hry' : s.res y = some ry := by
          rw [← hry]; refine (setF_ne ?_).symm
          intro e
          have := hy.rank hB.rank h0
          rw [e] at this; omega
        obtain ⟨d, hd, h⟩ := hy.cases'
        rcases h with rfl | h
        · obtain ⟨rd', r1, r2, r3⟩ := g5 d hd h0
          rw [hry'] at r1; cases r1
          exact r3
        · obtain ⟨rd, r1, r2, r3⟩ := g5 d hd h.src
          have := (h2.recs d rd r1).i6 y (by rw [r2]; exact h) h0 (by rw [r2]; exact hs) ry hry'
          exact Nat.le_trans r3 this
    · intro q r hq hr hd hc
      have ho := h2.recs q r hr
      have hrd : k ∈ (cp q).reads (Ev cp rk hist r.v) := (ho.deps k).1 hd
      have hcase : (∃ o, s.res k = some o ∧ o.D ≤ a.D ∧ o.val = v ∧ o.c ≤ r.v) ∨ r.v = s.now := by
        simp only [newC] at hc
        split at hc
        · rename_i o ho'
          split at hc
          · rename_i h; exact .inl ⟨o, ho', h.1, h.2, hc⟩
          · right; have := ho.vn; rw [h3.now] at this ⊢; omega
        · right; have := ho.vn; rw [h3.now] at this ⊢; omega
      rcases hcase with ⟨o, o1, o2, o3, o4⟩ | hv
      · obtain ⟨e1, e2⟩ := ho.i5 k hd hk o o1 o4
        exact ⟨by rw [← e1, o3], Nat.le_trans e2 o2⟩
      · refine ⟨?_, hlow q r hr (.dir ho.q hrd) fun x hx h0 => by rw [hv]; exact h2.hc x⟩
        rw [hv, h3.now]; exact hval
    · intro q r hq hr hc hs
      exact hlow q r hr hc hs
    · refine ⟨h3.now, h3.lc, h3.cell, fun q r hq hv => ?_, fun q hq => ?_⟩
      · have hqk : q ≠ k := by rintro rfl; exact hnv r hq hv
        exact (setF_ne hqk).trans (h3.stay q r hq hv)
      · have hqk : q ≠ k := by rintro rfl; omega
        exact (setF_ne hqk).trans (h3.high q (by omega))
    · cases hr
      exact ⟨setF_self _ _ _, rfl⟩
omit hB in
theorem keep_ok {k : QK} {st s : St} (hf : Fr rk (rk k) st s) (hk : k.1 ≠ 0) (hi : Inv cp rk Good s hist) {r : Rec} (hr : s.res k = some r)
    (hR : RecOk cp rk { s with res := setF s.res k (some { r with v := s.now }), comps := s.comps } hist k { r with v := s.now }) (hv : r.v ≠ s.now) :
    ∃ o st', keep k r s = some (o, st') ∧ Inv cp rk Good st' hist ∧ Fr rk (rk k + 1) st st' ∧ ∀ r, o = some r → st'.res k = some r ∧ r.v = st.now := by
  refine ⟨_, _, rfl, recs_put (n := s.comps) hi hR (fun q r' hq hr' hd hc => ?_) (fun q r' hq hr' hc hs => ?_), ?_, fun r' hr' => ?_⟩
  · exact (hi.recs q r' hr').i5 k hd hk r hr hc
  · exact (hi.recs q r' hr').i6 k hc hk hs r hr
  · refine ⟨hf.now, hf.lc, hf.cell, fun q r' hq h => ?_, fun q hq => ?_⟩
    · have h1 := hf.stay q r' hq h
      have hqk : q ≠ k := by
        rintro rfl
        rw [hr] at h1; cases h1
        exact hv (by rw [hf.now]; exact h)
      exact (setF_ne hqk).trans h1
    · have hqk : q ≠ k := by rintro rfl; omega
      exact (setF_ne hqk).trans (hf.high q (by omega))
  · cases hr'
    exact ⟨setF_self _ _ _, hf.now⟩
theorem updF_ok {k : QK} {u : QK → St → Out Rec} (hu : USpec cp rk Good hist (rk k) u) (stp : Int → Bool) (hk : k.1 ≠ 0) {st : St} (hi : Inv cp rk Good st hist) :
    ∃ o st', updF u stp cp k st = some (o, st') ∧ Inv cp rk Good st' hist ∧ Fr rk (rk k + 1) st st' ∧ ∀ r, o = some r → st'.res k = some r ∧ r.v = st.now := by
  unfold updF
  cases hr : st.res k with
  | none => exact recomp_ok hB hu stp hk hi (fun r h => by rw [hr] at h; cases h)
  | some r =>
    have ho := hi.recs k r hr
    dsimp only
    by_cases hv : r.v = st.now
    · rw [if_pos (.inl hv)]
      have e1 : ({ r with v := st.now } : Rec) = r := by rw [← hv]
      have e2 : setF st.res k (some r) = st.res := by funext q; by_cases e : q = k <;> simp [setF, e, hr]
      refine ⟨some r, st, ?_, hi, .refl _ _, fun r' h => by cases h; exact ⟨hr, hv⟩⟩
      unfold keep
      rw [e1, e2]
    have hvl : r.v < st.now := Nat.lt_of_le_of_ne ho.vn hv
    have hvn : ∀ r', st.res k = some r' → r'.v ≠ st.now := fun r' h => by rw [hr] at h; cases h; exact hv
    have hnk : ∀ d ∈ (cp k).reads (Ev cp rk hist r.v), d.1 = 0 ∨ rk d < rk k := fun d hd => Prog.bel_reads _ (hB.rank.below k hk) d hd
    by_cases hl : st.lc r.D ≤ r.v
    · rw [if_pos (.inr hl)]
      have hs : ∀ x, Clo cp (Ev cp rk hist r.v) k x → x.1 = 0 → (st.cell x).c ≤ r.v := by
        intro x hx h0
        rcases Nat.lt_or_ge r.v (st.cell x).c with h | h
        · have := hi.hlc x r.v r.D h (ho.i3 x hx h0); omega
        · exact h
      obtain ⟨e1, e2, e3⟩ := hi.stab hB hk ho.vn hs ho.vn (Nat.le_refl _)
      have hst : ∀ y, Clo cp (Ev cp rk hist r.v) k y → y.1 ≠ 0 → Ev cp rk hist st.now y = Ev cp rk hist r.v y ∧ (∀ t, r.v ≤ t → t ≤ st.now → Ev cp rk hist t y = Ev cp rk hist r.v y) := fun y hy h0 => by
        have hh : ∀ x, Clo cp (Ev cp rk hist r.v) y x → x.1 = 0 → (st.cell x).c ≤ r.v := fun x hx => hs x (hy.trans hx)
        exact ⟨(hi.stab hB h0 ho.vn hh ho.vn (Nat.le_refl _)).1, fun t h1 h2 => (hi.stab hB h0 ho.vn hh h1 h2).1⟩
      refine keep_ok (.refl _ _) hk hi hr ⟨hk, ?_, Nat.le_refl _, ho.d2, ?_, ?_, ?_, ?_, ?_⟩ hv
      · exact Nat.le_trans ho.cv ho.vn
      · exact ho.val.trans e1.symm
      · intro d; rw [ho.deps d]; simp only; rw [e2]
      · intro x hx h0
        have hx' := (e3 x).1 hx
        have h1 := ho.i3 x hx' h0
        rw [hi.hold x r.v ho.vn (hs x hx' h0)] at h1
        simp only [hi.hnow]; exact h1
      · intro d hd h0 rd hrd hc
        have hd' := (ho.deps d).1 hd
        have hne : d ≠ k := fun e => by have := (hnk d hd').resolve_left h0; rw [e] at this; omega
        have hrd' : st.res d = some rd := by rw [← hrd]; exact (setF_ne hne).symm
        have hcl : Clo cp (Ev cp rk hist r.v) k d := .dir hk hd'
        have hod := hi.recs d rd hrd'
        refine ⟨?_, ho.i6 d hcl h0 (fun x hx => hs x (hcl.trans hx)) rd hrd'⟩
        simp only
        rw [(hst d hcl h0).1]
        rcases Nat.lt_or_ge r.v rd.c with h | h
        · rw [hod.val]; exact (hst d hcl h0).2 rd.v (Nat.le_trans (Nat.le_of_lt h) hod.cv) hod.vn
        · exact (ho.i5 d hd h0 rd hrd' h).1
      · intro y hy h0 _ ry hry
        have hy' := (e3 y).1 hy
        have hne : y ≠ k := fun e => by have := hy'.rank hB.rank h0; rw [e] at this; omega
        exact ho.i6 y hy' h0 (fun x hx => hs x (hy'.trans hx)) ry (by rw [← hry]; exact (setF_ne hne).symm)
    · rw [if_neg (fun h => h.elim hv hl)]
      obtain ⟨o, s, h1, h2, h3, h4⟩ := chk_ok hu r.v r.deps st (fun d hd => hnk d ((ho.deps d).1 hd)) hi
      rw [h1]
      have hsk : s.res k = some r := by rw [h3.high k (Nat.le_refl _)]; exact hr
      cases o with
      | none => exact ⟨none, s, rfl, h2, h3.mono (Nat.le_succ _), fun r h => by cases h⟩
      | some bb =>
        cases bb with
        | true =>
          dsimp only
          obtain ⟨o, st', g1, g2, g3, g4⟩ := recomp_ok hB hu stp hk h2 (fun r' h => by rw [hsk] at h; cases h; rw [h3.now]; exact hv)
          exact ⟨o, st', g1, g2, (h3.mono (Nat.le_succ _)).trans g3, fun r h => by rw [← h3.now]; exact g4 r h⟩
        | false =>
          dsimp only
          have h4 := h4 rfl
          have ho := h2.recs k r hsk
          have hdv : ∀ d ∈ (cp k).reads (Ev cp rk hist r.v), Ev cp rk hist s.now d = Ev cp rk hist r.v d := by
            intro d hd
            obtain ⟨p1, p2⟩ := h4 d ((ho.deps d).2 hd)
            by_cases h0 : d.1 = 0
            · have := p1 h0
              rw [← h3.cell] at this
              rw [Ev, Ev, sem_in _ h0, sem_in _ h0, vals, vals, h2.hold d r.v ho.vn this, h2.hnow]
            · obtain ⟨rd, r1, r2, r3⟩ := p2 h0
              have := (h2.recs d rd r1).val
              rw [r2, ← h3.now] at this
              rw [← this]
              exact (ho.i5 d ((ho.deps d).2 hd) h0 rd r1 r3).1
          obtain ⟨c1, c2⟩ := Prog.congr (e := Ev cp rk hist r.v) (e' := Ev cp rk hist s.now) (cp k) hdv
          have hval : Ev cp rk hist s.now k = Ev cp rk hist r.v k := by
            rw [Ev, Ev, sem_q hB.rank _ hk, sem_q hB.rank _ hk]; exact c1
          refine keep_ok h3 hk h2 hsk ⟨hk, ?_, Nat.le_refl _, ho.d2, ?_, ?_, ?_, ?_, ?_⟩ (by rw [h3.now]; exact hv)
          · exact Nat.le_trans ho.cv ho.vn
          · exact ho.val.trans hval.symm
          · intro d; rw [ho.deps d]; simp only; rw [c2]
          · intro x hx h0
            obtain ⟨d, hd, h⟩ := hx.cases'
            simp only [c2] at hd
            obtain ⟨p1, p2⟩ := h4 d ((ho.deps d).2 hd)
            rcases h with rfl | h
            · have h5 := ho.i3 d (.dir hk hd) h0
              have h6 := p1 h0
              rw [← h3.cell] at h6
              rw [h2.hold d r.v ho.vn h6] at h5
              simp only [h2.hnow]; exact h5
            · obtain ⟨rd, r1, r2, r3⟩ := p2 h.src
              have h5 := (ho.i5 d ((ho.deps d).2 hd) h.src rd r1 r3).2
              rw [← h3.now] at r2
              have h6 := (h2.recs d rd r1).i3 x (by rw [r2]; exact h) h0
              rw [r2] at h6
              exact Nat.le_trans h5 h6
          · intro d hd h0 rd hrd hc
            have hd' := (ho.deps d).1 hd
            have hne : d ≠ k := fun e => by have := (hnk d hd').resolve_left h0; rw [e] at this; omega
            have hrd' : s.res d = some rd := by rw [← hrd]; exact (setF_ne hne).symm
            obtain ⟨rd', r1, r2, r3⟩ := (h4 d hd).2 h0
            rw [hrd'] at r1; cases r1
            have := (h2.recs d rd hrd').val
            rw [r2, ← h3.now] at this
            exact ⟨this, (ho.i5 d hd h0 rd hrd' r3).2⟩
          · intro y hy h0 hs ry hry
            have hne : y ≠ k := fun e => by have := hy.rank hB.rank h0; rw [e] at this; omega
            have hry' : s.res y = some ry := by rw [← hry]; exact (setF_ne hne).symm
            obtain ⟨d, hd, h⟩ := hy.cases'
            simp only [c2] at hd
            have hd2 := (ho.deps d).2 hd
            rcases h with rfl | h
            · obtain ⟨rd', r1, r2, r3⟩ := (h4 d hd2).2 h0
              rw [hry'] at r1; cases r1
              exact (ho.i5 _ hd2 h0 _ hry' r3).2
            · obtain ⟨rd', r1, r2, r3⟩ := (h4 d hd2).2 h.src
              rw [← h3.now] at r2
              have h5 := (h2.recs d rd' r1).i6 y (by rw [r2]; exact h) h0 (by rw [r2]; exact hs) ry hry'
              exact Nat.le_trans (ho.i5 d hd2 h.src rd' r1 r3).2 h5
theorem upd_ok (stp : Int → Bool) : ∀ (n : Nat) (act : List QK) (k : QK) (st : St), rk k < n → (∀ a ∈ act, rk k < rk a) → k.1 ≠ 0 → Inv cp rk Good st hist →
    ∃ o st', upd stp cp n act k st = some (o, st') ∧ Inv cp rk Good st' hist ∧ Fr rk (rk k + 1) st st' ∧ ∀ r, o = some r → st'.res k = some r ∧ r.v = st.now
  | 0, _, _, _, h, _, _, _ => absurd h (Nat.not_lt_zero _)
  | n + 1, act, k, st, h, ha, hk, hi => by
    unfold upd
    rw [if_neg fun hm => by have := ha k hm; omega]
    have hu : USpec cp rk Good hist (rk k) (upd stp cp n (k :: act)) := fun d st' h0 hd hi' => ?_
    · obtain ⟨o, st', h1, h2, h3, h4⟩ := updF_ok hB hu stp hk hi
      refine ⟨o, bump o st', by rw [h1]; rfl, ?_, ?_, fun r e => ?_⟩
      · cases o with
        | none => exact h2
        | some r => exact h2.clk _
      · cases o with
        | none => exact h3
        | some r => exact ⟨h3.now, h3.lc, h3.cell, h3.stay, h3.high⟩
      · obtain ⟨h5, h6⟩ := h4 r e
        subst e
        exact ⟨h5, h6⟩
    exact upd_ok stp n (k :: act) d st' (by omega) (fun a h => (List.mem_cons.1 h).elim (fun e => e ▸ hd) (fun h => Nat.lt_trans hd (ha a h))) h0 hi'
end
end Go.Memo
namespace Go.Memo
section
variable {cp : QK → Prog} {rk : QK → Nat} {Good : (QK → QV) → Prop} {hist : Nat → QK → Cell}
theorem Inv.less {st : St} (hi : Inv cp rk Good st hist) {f : QK → Option Rec} (hf : ∀ q r, f q = some r → st.res q = some r) (n : Int) : Inv cp rk Good { st with res := f, comps := n } hist :=
  ⟨hi.hnow, hi.hold, hi.hlc, hi.hc, hi.good, fun q r hq => by
    have ho := hi.recs q r (hf q r hq)
    exact ⟨ho.q, ho.cv, ho.vn, ho.d2, ho.val, ho.deps, ho.i3, fun d hd h0 rd hrd => ho.i5 d hd h0 rd (hf d rd hrd), fun y hy h0 hs ry hry => ho.i6 y hy h0 hs ry (hf y ry hry)⟩⟩
theorem Inv.init (h : Good fun _ => ⟨[], []⟩) (n : Int) : Inv cp rk Good ⟨0, fun _ => 0, fun _ => .zero, fun _ => none, n, 0⟩ (fun _ _ => .zero) :=
  ⟨rfl, fun _ _ _ _ => rfl, fun _ t _ h => absurd h (Nat.not_lt_zero t), fun _ => Nat.le_refl _, fun _ _ => h, fun _ _ h => by cases h⟩
theorem Inv.set {st : St} (hi : Inv cp rk Good st hist) (k : QK) (v : QV) (d : Nat) (hg : Good fun q => if q = k then v else (st.cell q).val) : ∃ hist', Inv cp rk Good (setI k v d st) hist' := by
  unfold setI
  by_cases hsame : (st.cell k).d = d ∧ (st.cell k).val = v
  · rw [if_pos hsame]; exact ⟨hist, hi⟩
  rw [if_neg hsame]
  refine ⟨fun t => if t = st.now + 1 then (fun q => if q = k then ⟨v, st.now + 1, d⟩ else st.cell q) else hist t, ?_⟩
  have hh : ∀ t, t ≤ st.now → (if t = st.now + 1 then (fun q => if q = k then (⟨v, st.now + 1, d⟩ : Cell) else st.cell q) else hist t) = hist t := fun t ht => if_neg (by omega)
  refine ⟨by simp, fun x t ht hc => ?_, fun x t D ht hD => ?_, fun x => ?_, fun t ht => ?_, fun q r hq => ?_⟩
  · by_cases e : t = st.now + 1
    · simp [e]
    · have htn : t ≤ st.now := by
        have : t ≤ st.now + 1 := ht
        omega
      rw [hh t htn]
      by_cases ex : x = k
      · have : st.now + 1 ≤ t := by simpa [ex] using hc
        omega
      · simp only [if_neg ex] at hc ⊢
        exact hi.hold x t htn hc
  · have htn : t ≤ st.now := by
      by_cases ex : x = k
      · have : t < st.now + 1 := by simpa [ex] using ht
        omega
      · simp only [if_neg ex] at ht
        have := hi.hc x; omega
    simp only [hh t htn] at hD
    show t < (if D ≤ max (st.cell k).d d then st.now + 1 else st.lc D)
    by_cases ex : x = k
    · subst ex
      by_cases hcx : (st.cell x).c ≤ t
      · rw [hi.hold x t htn hcx] at hD
        rw [if_pos (by omega)]; omega
      · have := hi.hlc x t D (by omega) hD
        split <;> omega
    · simp only [if_neg ex] at ht
      have := hi.hlc x t D ht hD
      split <;> omega
  · show (if x = k then (⟨v, st.now + 1, d⟩ : Cell) else st.cell x).c ≤ st.now + 1
    split
    · exact Nat.le_refl _
    · exact Nat.le_succ_of_le (hi.hc x)
  · by_cases e : t = st.now + 1
    · subst e
      simp only [if_pos]
      have : vals (fun q => if q = k then (⟨v, st.now + 1, d⟩ : Cell) else st.cell q) = fun q => if q = k then v else (st.cell q).val := by
        funext q; simp only [vals]; split <;> rfl
      rw [this]; exact hg
    · rw [hh t (by have : t ≤ st.now + 1 := ht; omega)]
      exact hi.good t (by have : t ≤ st.now + 1 := ht; omega)
  · have ho := hi.recs q r hq
    have e : (if r.v = st.now + 1 then (fun q => if q = k then (⟨v, st.now + 1, d⟩ : Cell) else st.cell q) else hist r.v) = hist r.v := hh r.v ho.vn
    have eE : Ev cp rk (fun t => if t = st.now + 1 then (fun q => if q = k then (⟨v, st.now + 1, d⟩ : Cell) else st.cell q) else hist t) r.v = Ev cp rk hist r.v := by
      simp only [Ev, e]
    refine ⟨ho.q, ho.cv, Nat.le_succ_of_le ho.vn, ho.d2, by rw [eE]; exact ho.val, by rw [eE]; exact ho.deps, by rw [eE]; simp only [e]; exact ho.i3, by rw [eE]; exact ho.i5, ?_⟩
    rw [eE]
    intro y hy h0 hs ry hry
    refine ho.i6 y hy h0 (fun x hx hx0 => ?_) ry hry
    have := hs x hx hx0
    by_cases ex : x = k
    · subst ex
      have h1 : st.now + 1 ≤ r.v := by simpa using this
      have := ho.vn; omega
    · simpa [ex] using this
def NoC (u : QK → St → Out Rec) : Prop := ∀ k st st', u k st ≠ some (none, st')
theorem chk_nc {u : QK → St → Out Rec} (hu : NoC u) (v : Nat) : ∀ (ds : List QK) (st st' : St), chk u v ds st ≠ some (none, st')
  | [], st, st', h => by simp [chk] at h
  | d :: ds, st, st', h => by
    unfold chk at h
    split at h
    · split at h
      · simp at h
      · exact chk_nc hu v ds st st' h
    · split at h
      · cases h
      · rename_i h1; exact hu _ _ _ h1
      · split at h
        · simp at h
        · exact chk_nc hu v ds _ st' h
theorem run_nc {u : QK → St → Out Rec} (hu : NoC u) : ∀ (p : Prog) (s s' : Acc × St), runP (getStep u) p s ≠ some (none, s')
  | .ret v, s, s', h => by simp [runP] at h
  | .get k c, s, s', h => by
    unfold runP at h
    split at h
    · cases h
    · rename_i h1
      unfold getStep at h1
      split at h1
      · split at h1 <;> simp at h1
      · split at h1
        · cases h1
        · rename_i h2; exact hu _ _ _ h2
        · split at h1 <;> simp at h1
    · exact run_nc hu (c _) _ s' h
theorem recomp_nc {u : QK → St → Out Rec} (hu : NoC u) (k : QK) (st st' : St) : recomp u (fun _ => false) cp k st ≠ some (none, st') := by
  intro h
  unfold recomp at h
  rw [if_neg (by simp)] at h
  split at h
  · cases h
  · rename_i h1; exact run_nc hu _ _ _ h1
  · split at h <;> simp at h
theorem upd_nc : ∀ (n : Nat) (act : List QK), NoC (upd (fun _ => false) cp n act)
  | 0, act, k, st, st', h => by simp [upd] at h
  | n + 1, act, k, st, st', h => by
    unfold upd at h
    split at h
    · cases h
    · obtain ⟨⟨o, s⟩, h, e⟩ := Option.map_eq_some_iff.1 h
      simp only [Prod.mk.injEq] at e
      obtain ⟨rfl, _⟩ := e
      unfold updF at h
      split at h
      · exact recomp_nc (upd_nc n _) _ _ _ h
      · split at h
        · simp [keep] at h
        · split at h
          · cases h
          · rename_i h1; exact chk_nc (upd_nc n _) _ _ _ _ h1
          · exact recomp_nc (upd_nc n _) _ _ _ h
          · simp [keep] at h
end
end Go.Memo
namespace Go.Abs
open Go.Proofs Go.Memo
abbrev FPl := Nat → Prop
theorem getL {H : Heap} {id : Nat} {o : AObj} (h : H[id]? = some o) (L : Heap) : (H ++ L)[id]? = some o := by rw [List.getElem?_append_left (len_of_get h)]; exact h
structure FrS (F F' : FPl) (H H' : Heap) : Prop where
  len : H.length ≤ H'.length
  same : ∀ id, id < H.length → ¬ F id → H'[id]? = H[id]?
  ids : ∀ id, F' id → id < H.length → F id
theorem FrS.refl (F : FPl) (H : Heap) : FrS F F H H := ⟨Nat.le_refl _, fun _ _ _ => rfl, fun _ h _ => h⟩
theorem FrS.trans {F F1 F2 : FPl} {H H1 H2 : Heap} (a : FrS F F1 H H1) (b : FrS F1 F2 H1 H2) : FrS F F2 H H2 :=
  ⟨Nat.le_trans a.len b.len, fun id h1 h2 => (b.same id (Nat.lt_of_lt_of_le h1 a.len) (fun h => h2 (a.ids id h h1))).trans (a.same id h1 h2), fun id h1 h2 => a.ids id (b.ids id h1 (Nat.lt_of_lt_of_le h2 a.len)) h2⟩
theorem FrS.of_app {F F' : FPl} {H H' L : Heap} (a : FrS F F' (H ++ L) H') : FrS F F' H H' :=
  ⟨by have := a.len; rw [List.length_append] at this; omega, fun id h1 h2 => by rw [a.same id (by rw [List.length_append]; omega) h2, List.getElem?_append_left h1], fun id h1 h2 => a.ids id h1 (by rw [List.length_append]; omega)⟩
theorem FrS.app (F : FPl) (H L : Heap) (hF : ∀ id, F id → id < H.length) : FrS F F H (H ++ L) :=
  ⟨by rw [List.length_append]; omega, fun id h1 _ => List.getElem?_append_left h1, fun _ h _ => h⟩
theorem FrS.get {F F' : FPl} {H H' : Heap} (a : FrS F F' H H') {id : Nat} {o : AObj} (h : H[id]? = some o) (hn : ¬ F id) : H'[id]? = some o ∧ ¬ F' id :=
  ⟨by rw [a.same id (len_of_get h) hn]; exact h, fun h' => hn (a.ids id h' (len_of_get h))⟩
theorem FrS.or {F F' : FPl} {H H' : Heap} (a : FrS F F' H H') (p : FPl) : FrS (fun id => F id ∨ p id) (fun id => F' id ∨ p id) H H' :=
  ⟨a.len, fun id h1 h2 => a.same id h1 fun h => h2 (.inl h), fun id h h1 => h.elim (fun h => .inl (a.ids id h h1)) .inr⟩
theorem mn {α β γ : Type} {o : Option α} {f : α → β} {g : α → γ} (h : o.map f = none) : o.map g = none := by cases o with
  | none => rfl
  | some v => cases h
structure Own {σ : Type} (J : σ → FPl → Heap → Prop) : Prop where
  fr : ∀ {s F H H'}, J s F H → (∀ id, F id → H'[id]? = H[id]?) → J s F H'
  lt : ∀ {s F H}, J s F H → ∀ id, F id → id < H.length
theorem Own.app {σ : Type} {J : σ → FPl → Heap → Prop} (o : Own J) {s : σ} {F : FPl} {H : Heap} (h : J s F H) (L : Heap) : J s F (H ++ L) := o.fr h fun id hi => List.getElem?_append_left (o.lt h id hi)
def chC : List PanicEntry := [{ v := .iface 79 (.agg #[.int .i64 12]), recovered := false }]
def qvE (v : QV) : PV := .agg [.slice (v.nums.map vint) .none, .str v.text]
def cellE (c : Cell) : PV := .agg [.slice (c.val.nums.map vint) .none, .str c.val.text, vint (c.c : Int), vint (c.d : Int)]
def recC (r : Rec) (tl : Tail) (lu : Int) : List PV := [.slice (r.val.nums.map vint) .none, .str r.val.text, vint (r.v : Int), vint (r.c : Int), vint (r.D : Int), .slice (r.deps.map kE) tl, vint lu]
def XM (P : Program) {σ : Type} (J : σ → FPl → Heap → Prop) (f : FuncId) (args : List PV) (F : FPl) (H : Heap) (o : Option PV) (s' : σ) : Prop :=
  XCalls P chC f args H (fun r H' => o = some r ∧ ∃ F', J s' F' H' ∧ FrS F F' H H') (fun H' => o = none ∧ ∃ F', J s' F' H' ∧ FrS F F' H H')
structure GetC (P : Program) {σ : Type} (J : σ → FPl → Heap → Prop) (step : QK → σ → Option (Option QV × σ)) (g : PV) : Prop where
  own : Own J
  ex : ∃ f caps, g = .fn (.func f) [] caps ∧ goFn P f = true ∧
    ∀ k s F H o s', step k s = some (o, s') → J s F H → XM P J f (kE k :: caps) F H (o.map qvE) s'
def CompC (P : Program) (cp : QK → Prog) (cf : PV) (env : List (Nat × AObj)) : Prop :=
  ∃ f caps, cf = .fn (.func f) [] caps ∧ goFn P f = true ∧
    ∀ (σ : Type) (J : σ → FPl → Heap → Prop) (step : QK → σ → Option (Option QV × σ)) (g : PV), GetC P J step g → ∀ k s F H o s', k.1 ≠ 0 → runP step (cp k) s = some (o, s') → J s F H → (∀ e ∈ env, H[e.1]? = some e.2) →
      XM P J f (kE k :: g :: caps) F H (o.map qvE) s'
end Go.Abs
set_option maxRecDepth 4000
namespace Go.Abs
open Go.Proofs Go.Memo
def stRow (now : Int) (l0 l1 l2 : Int) (c : Nat) : AObj := .row [vint now, vint l0, vint l1, vint l2, .mapp c]
theorem gz {es : List GE} {k : QK} {v : Cell} (h : (gget es k = none ∧ v = .zero) ∨ gget es k = some (cellE v)) : ∃ tl, alook false (.agg [.slice [] .full, .str [], .int .i64 0, .int .i64 0]) (gget es k) = .agg [.slice (v.val.nums.map vint) tl, .str v.val.text, vint (v.c : Int), vint (v.d : Int)] := by
  rcases h with ⟨h1, rfl⟩ | h
  · rw [h1]; exact ⟨.full, rfl⟩
  · rw [h]; exact ⟨.none, rfl⟩
theorem revision_c {now l0 l1 l2 : Int} {c id : Nat} {H : Heap} (h1 : H[id]? = some (stRow now l0 l1 l2 c)) : ACalls Try.prog 48 [.optr id 0] H fun r' H' => r' = vint now ∧ H' = H := by
  simp only [stRow, vint] at h1
  have q1 : ∀ L, (H ++ L)[id]? = some (.row [.int .i64 now, .int .i64 l0, .int .i64 l1, .int .i64 l2, .mapp c]) := fun L => by rw [List.getElem?_append_left (len_of_get h1)]; exact h1
  refine keeps_of (N := 7) Try.func48 rfl rfl (by simp) (.int _ _) fun hb' => ?_
  repeat (refine awp_seq ?_)
  refine e_eval (by simp only [jA, jO, jN, seval, vint, ksE_cells, kE_cells, ksE_drop1, kE_drop1, q1, h1] <;> with_reducible rfl) (by decide) ?_
  repeat (refine awp_seq ?_)
  refine e_eval (by simp only [jA, jO, jN, seval, y3, y96, vint, ksE_cells, kE_cells, ksE_drop1, kE_drop1, q1, h1] <;> with_reducible rfl) (by decide) ?_
  repeat (refine awp_seq ?_)
  refine awp_ret ⟨.inr rfl, _, _, rfl, ?_, (by first | exact (List.append_nil _).symm | rfl)⟩
  simp only [jN, seval, vint, ksE_cells, kE_cells, ksE_drop1, kE_drop1]
theorem lastChange_c {now l0 l1 l2 : Int} {c id : Nat} {H : Heap} (h1 : H[id]? = some (stRow now l0 l1 l2 c)) (d : Nat) (hd : d ≤ 2) (v : Int) (hv : [l0, l1, l2][d]? = some v) : ACalls Try.prog 58 [.optr id 0, vint (d : Int)] H fun r' H' => r' = vint v ∧ H' = H := by
  simp only [stRow, vint] at h1
  have hlt : decide ((d : Int) < 0) = false := decide_eq_false (by omega)
  have hge : decide ((d : Int) ≥ 3) = false := decide_eq_false (by omega)
  have hld : ([PV.int .i64 now, .int .i64 l0, .int .i64 l1, .int .i64 l2, .mapp c])[1 + d * 1]? = some (.int .i64 v) := by
    match d, hd with
    | 0, _ => simp at hv; simp [hv]
    | 1, _ => simp at hv; simp [hv]
    | 2, _ => simp at hv; simp [hv]
  have q1 : ∀ L, (H ++ L)[id]? = some (.row [.int .i64 now, .int .i64 l0, .int .i64 l1, .int .i64 l2, .mapp c]) := fun L => by rw [List.getElem?_append_left (len_of_get h1)]; exact h1
  refine keeps_of (N := 17) Try.func58 rfl rfl (by simp) (.int _ _) fun hb' => ?_
  repeat (refine awp_seq ?_)
  refine e_eval (by simp only [jA, jO, jN, seval, vint, ksE_cells, kE_cells, ksE_drop1, kE_drop1, q1, h1, hlt, hge] <;> with_reducible rfl) (by decide) ?_
  repeat (refine awp_seq ?_)
  refine g_eval (by simp only [jG, jO, jN, seval, y3, vint, ksE_cells, kE_cells, ksE_drop1, kE_drop1, q1, h1, hlt, hge] <;> with_reducible rfl) (by decide) (by repeat (first | exact Fin.base _ | with_reducible apply Fin.keep | apply Fin.drop)) ?_
  repeat (refine awp_seq ?_)
  refine awp_cond_false rfl (by simp only [jN, seval, vint, ksE_cells, kE_cells, ksE_drop1, kE_drop1, q1, h1, hlt, hge] <;> with_reducible rfl) ?_
  repeat (refine awp_seq ?_)
  refine awp_skip ?_
  repeat (refine awp_seq ?_)
  refine awp_region ?_
  refine e_take 4 (by simp only [jA, jO, jN, seval, y96, vint, ksE_cells, kE_cells, ksE_drop1, kE_drop1, q1, h1, hlt, hge, hld] <;> with_reducible rfl) (by decide) ?_
  refine aops_idxA (k := d) rfl (by simp only [jC, jN, seval, vint, ksE_cells, kE_cells, ksE_drop1, kE_drop1] <;> rfl) (by decide) (n := 3) (e := 3) (i := ⟨false, 1, 8⟩) (by kernel_rfl) (by simp only [jC, jN, seval, vint, ksE_cells, kE_cells, ksE_drop1, kE_drop1] <;> rfl) (by simp only [jC, jN, seval, vint, ksE_cells, kE_cells, ksE_drop1, kE_drop1] <;> rfl) (by omega) ?_
  refine e_end (by simp only [jA, jO, jN, seval, y3, vint, ksE_cells, kE_cells, ksE_drop1, kE_drop1, q1, h1, hlt, hge, hld] <;> with_reducible rfl) (by decide) ?_
  repeat (refine awp_seq ?_)
  refine awp_ret ⟨.inr rfl, _, _, rfl, ?_, (by first | exact (List.append_nil _).symm | rfl)⟩
  simp only [jN, seval, vint, ksE_cells, kE_cells, ksE_drop1, kE_drop1, hld]
theorem inGet {now l0 l1 l2 : Int} {c id : Nat} {H : Heap} (h1 : H[id]? = some (stRow now l0 l1 l2 c)) {es : List GE} {clk : Nat} (h2 : H[c]? = some (.obj (.mapg es clk))) (k : QK) (v : Cell) (h3 : (gget es k = none ∧ v = .zero) ∨ gget es k = some (cellE v)) (hl : v.val.nums.length * 8 ≤ 2 ^ 47) : ACalls Try.prog 29 [.optr id 0, kE k] H fun r' H' => r' = .tup [qvE v.val, vint (v.c : Int), vint (v.d : Int)] ∧ H' = H := by
  simp only [stRow, vint] at h1
  obtain ⟨k1, k2, k3⟩ := k
  obtain ⟨tl, gE⟩ := gz h3
  have q1 : ∀ L, (H ++ L)[id]? = some (.row [.int .i64 now, .int .i64 l0, .int .i64 l1, .int .i64 l2, .mapp c]) := fun L => by rw [List.getElem?_append_left (len_of_get h1)]; exact h1
  have q2 : ∀ L, (H ++ L)[c]? = some (.obj (.mapg es clk)) := fun L => by rw [List.getElem?_append_left (len_of_get h2)]; exact h2
  refine keeps_of (N := 21) Try.func29 rfl rfl (by simp) (.tup _ (by simp [qvE, bel_vE, Bel.int])) fun hb' => ?_
  repeat (refine awp_seq ?_)
  refine e_eval (by simp only [jA, jO, jN, seval, y37, y41, vint, ksE_cells, kE_cells, ksE_drop1, kE_drop1, q1, h1, q2, h2, gE, alookup, kE, qvE] <;> with_reducible rfl) (by decide) ?_
  repeat (refine awp_seq ?_)
  refine x_draw 1 (n0 := H.length + 2) (by first | rfl | (simp only [List.length_append, List.length_cons, List.length_nil, Nat.reduceAdd, Nat.zero_add, q1, h1, q2, h2, gE, alookup, kE, qvE]; done)) (by kernel_rfl) ?_
  refine x1_take 6 (by first | rfl | (simp only [List.length_append, List.length_cons, List.length_nil, Nat.reduceAdd, Nat.zero_add, q1, h1, q2, h2, gE, alookup, kE, qvE]; done)) (by simp only [jP, jO, jN, seval, y37, y93, y96, y101, vint, ksE_cells, kE_cells, ksE_drop1, kE_drop1, q1, h1, q2, h2, gE, alookup, kE, qvE] <;> with_reducible rfl) (by decide) (by decide) (by decide) ?_
  refine x_mid (by first | (simp only [LS, HS, List.append_assoc, List.cons_append, List.nil_append, q1, h1, q2, h2, gE, alookup, kE, qvE] <;> with_reducible rfl) | rfl) ?_
  refine x2_end (bm := [0, 1, 3, 7, 0, 31, 0, 127]) (fresh := (H.length + 2)) (by kernel_rfl) (by simp only [jX, jO, jN, seval, y101, vint, ksE_cells, kE_cells, ksE_drop1, kE_drop1, q1, h1, q2, h2, gE, alookup, kE, qvE] <;> with_reducible rfl) (by decide) (by repeat (first | exact Fin.base _ | with_reducible apply Fin.keep | apply Fin.drop)) ?_
  repeat (refine awp_seq ?_)
  refine awp_draw 0 (by kernel_rfl) ?_
  refine d_take (bm := [0, 1, 3, 0, 8, 0, 32, 7, 159, 511]) 2 (fresh := 0) (by kernel_rfl) (by simp only [jD, jO, jN, seval, y41, y101, vint, ksE_cells, kE_cells, ksE_drop1, kE_drop1, q1, h1, q2, h2, gE, alookup, kE, qvE] <;> with_reducible rfl) (by decide) (by decide) ?_
  refine dops_keep (bm := [0, 1, 3, 0, 8, 0, 32, 7, 159, 511]) ([]) (by kernel_rfl) (by simp only [jC, jN, seval, vint, ksE_cells, kE_cells, ksE_drop1, kE_drop1, q1, h1, q2, h2, gE, alookup, kE, qvE] <;> with_reducible rfl) (by simp only [jC, jN, seval, vint, ksE_cells, kE_cells, ksE_drop1, kE_drop1, q1, h1, q2, h2, gE, alookup, kE, qvE]) (by decide) Trygo44 (fun H' _ => inClone v.val.nums v.val.text hl H') (by simp only [jD, jO, jN, seval, vint, ksE_cells, kE_cells, ksE_drop1, kE_drop1, q1, h1, q2, h2, gE, alookup, kE, qvE] <;> first | done | rfl) ?_
  refine d_end (bm := [0, 1, 3, 0, 8, 0, 32, 7, 159, 511]) (fresh := 0) (by kernel_rfl) (by simp only [jD, jO, jN, seval, y3, y41, y101, vint, ksE_cells, kE_cells, ksE_drop1, kE_drop1, q1, h1, q2, h2, gE, alookup, kE, qvE] <;> with_reducible rfl) (by decide) ?_
  repeat (refine awp_seq ?_)
  refine awp_ret ⟨.inr rfl, _, _, (ares_three (.cell 4 41) (.tmp 5) (.tmp 6) rfl (ares_cell1 Tryti41 (by decide) (by simp only [jL, jN, seval, vint, ksE_cells, kE_cells, ksE_drop1, kE_drop1, q1, h1, q2, h2, gE, alookup, kE, qvE] <;> with_reducible rfl)) (ares_tmp1 (by decide)) (ares_tmp1 (by decide))), ?_, (by first | exact (List.append_nil _).symm | rfl)⟩
  simp only [jN, seval, vint, ksE_cells, kE_cells, ksE_drop1, kE_drop1]
  rfl
end Go.Abs
namespace Go.Abs
section
variable {P : Program} {N nb : Nat} {ops : Array Oper} {Q : Post}
theorem wpOps_list {Q : Exit → Act → World → Prop} : ∀ (is : List Nat), wpOps P ops Q is = wpList P ops Q (is.filterMap fun i => ops[i]?) := by
  intro is
  induction is with
  | nil => funext a w; simp [wpList, wpOps]
  | cons i is ih =>
    funext a w
    cases ho : ops[i]? with
    | none => simp only [List.filterMap_cons, ho, wpOps, ih]
    | some o => simp only [List.filterMap_cons, ho, wpOps, wpList, ih]
def GoS (P : Program) (N nb : Nat) (ops : Array Oper) (Q : Post) (f : Nat) (listed : Array Bool) (T : Slots) (H : Heap) : Prop :=
  ∀ (E0 : Env) (t : Nat) (E : Env) (a : Act), E0.leN nb E → E.Ok → E.H = H → TRel E.view N a T → wpOps P ops (lift N nb E0 Q) (goRem ops f t listed) a E.w
theorem GoS.weak {f : Nat} {listed : Array Bool} {T T2 : Slots} {H : Heap} (h : GoS P N nb ops Q f listed T2 H) (hw : ∀ i, T2 i = .junk ∨ T2 i = T i) : GoS P N nb ops Q f listed T H :=
  fun E0 t E a hle ho hH ht => h E0 t E a hle ho hH (trel_weak ht hw)
theorem gos_nil {listed : Array Bool} {T : Slots} {H : Heap} (h : Q .normal T H) : GoS P N nb ops Q 0 listed T H :=
  fun E0 t E a hle ho hH ht => ⟨E, T, rfl, hle, ho, ht, hH ▸ h⟩
theorem gos_step {f : Nat} {listed : Array Bool} {T : Slots} {H : Heap} (rs : List Nat) (hrs : (List.range ops.size).filter (ready ops listed) = rs) (hne : rs ≠ [])
    (h : ∀ i ∈ rs, ∀ o, ops[i]? = some o → AOps P N nb ops (thenQ (GoS P N nb ops Q f (listed.setIfInBounds i true)) Q) [o] T H) : GoS P N nb ops Q (f + 1) listed T H := by
  intro E0 t E a hle ho hH ht
  unfold goRem
  rw [hrs]
  have hlt : t % rs.length < rs.length := Nat.mod_lt _ (List.length_pos_iff.2 hne)
  rw [List.getElem?_eq_getElem hlt]
  have hm := List.getElem_mem hlt
  generalize rs[t % rs.length] = i at hm
  generalize t / rs.length = t2
  have hi : i < ops.size := by rw [← hrs] at hm; exact List.mem_range.1 (List.mem_filter.1 hm).1
  have hok' : ops[i]? = some ops[i] := Array.getElem?_eq_getElem hi
  have hgo := h i hm _ hok' E a ho hH ht
  generalize ops[i] = o at hok' hgo
  unfold wpList at hgo
  simp only
  unfold wpOps
  rw [hok']
  simp only
  have hnorm : ∀ a w, lift N nb E (thenQ (GoS P N nb ops Q f (listed.setIfInBounds i true)) Q) .normal a w → wpOps P ops (lift N nb E0 Q) (goRem ops f t2 (listed.setIfInBounds i true)) a w := by
    rintro a w ⟨E', T', rfl, h2, h3, h4, h5⟩
    exact h5 E0 t2 E' a (hle.trans h2) h3 rfl h4
  have hbad : ∀ e a w, e ≠ .normal → lift N nb E (thenQ (GoS P N nb ops Q f (listed.setIfInBounds i true)) Q) e a w → lift N nb E0 Q e a w := by
    intro e a w hne hx
    obtain ⟨E', T', h1, h2, h3, h4, h5⟩ := hx
    refine ⟨E', T', h1, hle.trans h2, h3, h4, ?_⟩
    cases e with
    | normal => exact (hne rfl).elim
    | _ => exact h5
  have hout : LetsOut (lift N nb E (thenQ (GoS P N nb ops Q f (listed.setIfInBounds i true)) Q)) → LetsOut (lift N nb E0 Q) := fun ⟨a, w, x⟩ => ⟨a, w, hbad _ _ _ (by simp) x⟩
  split at hgo
  · rename_i hw
    rw [if_pos hw]
    rcases hgo with hgo | ⟨h1, h2⟩
    · left
      unfold Oper.wp at hgo ⊢
      generalize (execOp a.eval o).run P E.w = r at hgo ⊢
      unfold Oper.upon at hgo ⊢
      split at hgo
      · exact hnorm _ _ hgo
      · exact hnorm _ _ hgo
      · exact hnorm _ _ hgo
      · refine hgo.mono fun e w'' he => ?_
        cases e with
        | returned v => exact hnorm _ _ he
        | panicked ch => exact hbad _ _ _ (by simp) he
        | outgrown => exact hout he
      · exact hgo.mono fun v w'' he => hnorm _ _ he
      · exact hbad _ _ _ (by simp) hgo
      · exact hgo.elim
    · exact .inr ⟨h1, hout h2⟩
  · rename_i hw
    rw [if_neg hw]
    exact hnorm _ _ hgo
theorem awp_gosX {id : Nat} {T : Slots} {H : Heap} (R : Post) (hf : P.follows .mixedOrders = true) (h : ∀ ops' R', ops' = ops → R' = R → GoS P N nb ops' R' ops.size (Array.replicate ops.size false) T H) (hr : ∀ e T' H', R e T' H' → Q e T' H') : AWP P N nb (.region id ops true) Q T H := by
  intro E a ho hH ht
  refine wp_region_draw fun t => ?_
  rw [hf]
  simp only [Region.schedule, Bool.true_or, if_true, Region.linearise, go_eq, List.reverse_nil, List.nil_append]
  rw [wpOps_list]
  have := h ops R rfl rfl E t E.drew a (E.drew_le.leN nb) ho.drew hH ht
  rw [wpOps_list] at this
  refine wpList_mono (fun e a w hl => ?_) _ _ _ this
  obtain ⟨E', T', h1, h2, h3, h4, h5⟩ := hl
  exact ⟨E', T', h1, h2, h3, h4, hr _ _ _ h5⟩
theorem awp_abs {N nb : Nat} {P : Program} {Q : Post} {c : Code} {T : Slots} {H : Heap} (I : Heap → Prop) (hI : I H) (h : ∀ H', I H' → AWP P N nb c Q T H') : AWP P N nb c Q T H := h H hI
theorem awp_joinX {P : Program} {N nb : Nat} {Q : Post} {x y : Code} {Q0 : Post} {T : Slots} {H : Heap} {σ : Type} (rep : σ → List (Nat × PV)) (I : σ → Heap → Prop)
    (hx : AWP P N nb x (thenQ (fun T' H' => ∃ s, Fits T' (rep s) ∧ I s H') Q) T H)
    (hy : ∀ s H', I s H' → AWP P N nb y Q0 (mkS (rep s)) H') : AWP P N nb x (thenQ (AWP P N nb y Q0) Q) T H := by
  refine hx.mono fun e T' H' he => ?_
  cases e with
  | normal =>
    obtain ⟨s, h1, h2⟩ := he
    exact awp_weak (mkS_weak h1) (hy s H' h2)
  | _ => exact he
theorem go_one {f : Nat} {listed : Array Bool} {T T' : Slots} {H H' : Heap} {l : List Oper} {m : List (Nat × PV)} (hs : asq P N ops.toList l (some (T, H)) = some (T', H')) (h : GoS P N nb ops Q f listed (mkS m) H') (hok : l.all (fun o => okOp N o.op) = true := by decide)
    (hw : Fits T' m := by
      try simp only [List.cons_append, List.nil_append]
      repeat (first | exact trivial | refine ⟨rfl, ?_⟩)) : AOps P N nb ops (thenQ (GoS P N nb ops Q f listed) Q) l T H := e_end hs hok (h.weak (mkS_weak hw))
section
variable {f : Nat} {listed : Array Bool} {T : Slots} {H : Heap} {o1 o2 o3 : Oper}
theorem zs1 (i1 : Nat) (e1 : ops[i1]? = some o1) (h1 : AOps P N nb ops (thenQ (GoS P N nb ops Q f (listed.setIfInBounds i1 true)) Q) [o1] T H) (hrs : (List.range ops.size).filter (ready ops listed) = [i1] := by kernel_rfl) : GoS P N nb ops Q (f + 1) listed T H :=
  gos_step _ hrs (by simp) fun i hi o ho => by
    simp only [List.mem_cons, List.not_mem_nil, or_false] at hi
    subst hi
    obtain rfl := Option.some.inj (e1.symm.trans ho)
    exact h1
theorem zs2 (i1 i2 : Nat) (e1 : ops[i1]? = some o1) (e2 : ops[i2]? = some o2) (h1 : AOps P N nb ops (thenQ (GoS P N nb ops Q f (listed.setIfInBounds i1 true)) Q) [o1] T H) (h2 : AOps P N nb ops (thenQ (GoS P N nb ops Q f (listed.setIfInBounds i2 true)) Q) [o2] T H) (hrs : (List.range ops.size).filter (ready ops listed) = [i1, i2] := by kernel_rfl) : GoS P N nb ops Q (f + 1) listed T H :=
  gos_step _ hrs (by simp) fun i hi o ho => by
    simp only [List.mem_cons, List.not_mem_nil, or_false] at hi
    rcases hi with rfl | rfl
    · obtain rfl := Option.some.inj (e1.symm.trans ho); exact h1
    · obtain rfl := Option.some.inj (e2.symm.trans ho); exact h2
theorem zs3 (i1 i2 i3 : Nat) (e1 : ops[i1]? = some o1) (e2 : ops[i2]? = some o2) (e3 : ops[i3]? = some o3) (h1 : AOps P N nb ops (thenQ (GoS P N nb ops Q f (listed.setIfInBounds i1 true)) Q) [o1] T H) (h2 : AOps P N nb ops (thenQ (GoS P N nb ops Q f (listed.setIfInBounds i2 true)) Q) [o2] T H) (h3 : AOps P N nb ops (thenQ (GoS P N nb ops Q f (listed.setIfInBounds i3 true)) Q) [o3] T H) (hrs : (List.range ops.size).filter (ready ops listed) = [i1, i2, i3] := by kernel_rfl) : GoS P N nb ops Q (f + 1) listed T H :=
  gos_step _ hrs (by simp) fun i hi o ho => by
    simp only [List.mem_cons, List.not_mem_nil, or_false] at hi
    rcases hi with rfl | rfl | rfl
    · obtain rfl := Option.some.inj (e1.symm.trans ho); exact h1
    · obtain rfl := Option.some.inj (e2.symm.trans ho); exact h2
    · obtain rfl := Option.some.inj (e3.symm.trans ho); exact h3
theorem zs4 {o4 : Oper} (i1 i2 i3 i4 : Nat) (e1 : ops[i1]? = some o1) (e2 : ops[i2]? = some o2) (e3 : ops[i3]? = some o3) (e4 : ops[i4]? = some o4) (h1 : AOps P N nb ops (thenQ (GoS P N nb ops Q f (listed.setIfInBounds i1 true)) Q) [o1] T H) (h2 : AOps P N nb ops (thenQ (GoS P N nb ops Q f (listed.setIfInBounds i2 true)) Q) [o2] T H) (h3 : AOps P N nb ops (thenQ (GoS P N nb ops Q f (listed.setIfInBounds i3 true)) Q) [o3] T H) (h4 : AOps P N nb ops (thenQ (GoS P N nb ops Q f (listed.setIfInBounds i4 true)) Q) [o4] T H) (hrs : (List.range ops.size).filter (ready ops listed) = [i1, i2, i3, i4] := by kernel_rfl) : GoS P N nb ops Q (f + 1) listed T H :=
  gos_step _ hrs (by simp) fun i hi o ho => by
    simp only [List.mem_cons, List.not_mem_nil, or_false] at hi
    rcases hi with rfl | rfl | rfl | rfl
    · obtain rfl := Option.some.inj (e1.symm.trans ho); exact h1
    · obtain rfl := Option.some.inj (e2.symm.trans ho); exact h2
    · obtain rfl := Option.some.inj (e3.symm.trans ho); exact h3
    · obtain rfl := Option.some.inj (e4.symm.trans ho); exact h4
end
end
end Go.Abs
namespace Go.Abs
inductive RwOk {α : Type} (enc : α → PV) (sz : Nat) (H : Heap) : PV → List α → List Nat → Prop
  | nil : RwOk enc sz H (.slice [] .full) [] []
  | msl {ic c : Nat} {xs : List α} {rest : List PV} (hH : H[ic]? = some (.row (flatE (xs.map enc) ++ rest))) (hc : xs.length * sz + rest.length = c * sz) (hm : c ≤ maxLen) : RwOk enc sz H (.msl ic 0 xs.length c) xs [ic]
section
variable {α : Type} {enc : α → PV} {sz : Nat}
theorem RwOk.of {H : Heap} {ic c n : Nat} {xs : List α} {rest : List PV} (hn : xs.length = n) (hH : H[ic]? = some (.row (flatE (xs.map enc) ++ rest))) (hc : n * sz + rest.length = c * sz) (hm : c ≤ maxLen) : RwOk enc sz H (.msl ic 0 n c) xs [ic] := by
  subst hn; exact .msl hH hc hm
theorem RwOk.fr {H H' : Heap} {cv : PV} {xs : List α} {cid : List Nat} (h : RwOk enc sz H cv xs cid) (he : ∀ i ∈ cid, H'[i]? = H[i]?) : RwOk enc sz H' cv xs cid := by
  cases h with
  | nil => exact .nil
  | msl hH hc hm => exact .msl (by rw [he _ (by simp)]; exact hH) hc hm
theorem RwOk.lt {H : Heap} {cv : PV} {xs : List α} {cid : List Nat} (h : RwOk enc sz H cv xs cid) : ∀ i ∈ cid, i < H.length := by
  cases h with
  | nil => intro i hi; cases hi
  | msl hH hc hm => intro i hi; rw [List.mem_singleton] at hi; subst hi; exact len_of_get hH
theorem RwOk.app {H : Heap} {cv : PV} {xs : List α} {cid : List Nat} (h : RwOk enc sz H cv xs cid) (L : Heap) : RwOk enc sz (H ++ L) cv xs cid := h.fr fun i hi => List.getElem?_append_left (h.lt i hi)
theorem RwOk.cases2 {H : Heap} {cv : PV} {xs : List α} {cid : List Nat} (h : RwOk enc sz H cv xs cid) : (xs = [] ∧ cv = .slice [] .full ∧ cid = []) ∨
    ∃ ic c rest, cv = .msl ic 0 xs.length c ∧ cid = [ic] ∧ H[ic]? = some (.row (flatE (xs.map enc) ++ rest)) ∧ xs.length * sz + rest.length = c * sz ∧ c ≤ maxLen := by
  cases h with
  | nil => exact .inl ⟨rfl, rfl, rfl⟩
  | msl hH hc hm => exact .inr ⟨_, _, _, rfl, rfl, hH, hc, hm⟩
theorem splice_app : ∀ (vs A B : List PV), vs.length ≤ B.length → splice (A ++ B) A.length vs = A ++ vs ++ B.drop vs.length
  | [], A, B, _ => by simp [splice]
  | v :: vs, A, [], h => by simp at h
  | v :: vs, A, b :: B, h => by
    have h1 := splice_app vs (A ++ [v]) B (by simpa using h)
    simp only [splice]
    rw [List.set_append_right _ _ (Nat.le_refl _), Nat.sub_self, List.set_cons_zero]
    simp only [List.length_append, List.length_singleton, List.append_assoc, List.singleton_append] at h1
    rw [h1]; simp
theorem flat_enc_len (henc : ∀ a, (enc a).cells.length = sz) (xs : List α) : (flatE (xs.map enc)).length = xs.length * sz := by
  rw [flatE_length (sz := sz) _ (fun e he => by obtain ⟨v, _, rfl⟩ := List.mem_map.1 he; exact henc v), List.length_map]
variable {P : Program} {N nb : Nat} {ops : Array Oper} {Q : Post}
theorem first_fullK {E : Env} {v : Value} {es : List PV} {n : Nat} (hn : es.length = n) (hes : ∀ e ∈ es, e.cells.length = sz) (hv : VRel E.view v (.slice es .full)) : ∃ ad, v = .slice ad n n ∧ ∃ arrs, (Builtin.firstCells sz n (.slice ad n n)).run P E.w = .ok arrs E.w ∧ RL E.view arrs (flatE es) := by
  obtain ⟨arrs, r1, r2, ad, cap, rfl, hc1, hc2, hc3⟩ := run_first (P := P) hv hes
  subst hn
  have : cap = es.length := hc3
  subst this
  exact ⟨ad, rfl, arrs, r1, r2⟩
theorem aops_appRw (henc : ∀ a, (enc a).cells.length = sz) (hcell : ∀ a, (enc a).cells.all PV.isCell = true) (hs0 : 0 < sz) {o : Oper} {l : List Oper} {T : Slots} {H : Heap} {x y : Operand} {t u : TypeId} {ei : TypeId × TI} {z : PV} {tl : Tail} {cv : PV} {xs : List α} {cid : List Nat} {a : α}
    (hw : awanted ops.toList T N o = some true) (hop : o.op = .call ⟨.builtin .append, #[x, y], #[t, u]⟩) (okx : okOpnd N x = true) (oky : okOpnd N y = true) (hx : aev T x = cv) (hy : aev T y = .slice [enc a] tl) (hk : RwOk enc sz H cv xs cid)
    (hte : telem P t = some ei) (hei : ei.2.sz = sz) (hb : (xs.length + 1) * ei.2.bytes ≤ 2 ^ 47) (hm : xs.length + 1 ≤ maxLen) (htu : (telem P u).isSome = true) (hz : tzero P ei.1 = some z) (hzf : z.fits ei.2 = true)
    (h : ∀ (cv' : PV) (cid' : List Nat) (H' : Heap), RwOk enc sz H' cv' (xs ++ [a]) cid' → (∀ i ∈ cid', i ∈ cid ∨ H.length ≤ i) → H.length ≤ H'.length → (∀ j, j < H.length → j ∉ cid → H'[j]? = H[j]?) → AOps P N nb ops Q l (updO T o.dst cv') H') :
    AOps P N nb ops Q (o :: l) T H := by
  have hzs : z.cells.length = sz := by rw [(PV.fits_spec hzf).1, hei]
  have hnew : ∀ oc, oc = flatE (xs.map enc) → (∀ (E : Env) (v : Value), E.Ok → E.H = H → VRel E.view v (aev T x) → ∃ ad, v = .slice ad xs.length xs.length ∧ ∃ arrs, (Builtin.firstCells ei.2.sz xs.length (.slice ad xs.length xs.length)).run P E.w = .ok arrs E.w ∧ RL E.view arrs oc) → AOps P N nb ops Q (o :: l) T H := by
    intro oc hoc hold
    refine aops_appNew (n := xs.length) (oc := oc) (e1 := enc a) (tl := tl) hw hop okx oky hy hb hm (by rw [henc, hei]) hte htu hz hzf hold fun c rest hc1 hc2 hrest => ?_
    refine h _ [H.length] _ (.of (rest := rest) (by simp) ?_ ?_ hc2) (fun i hi => by rw [List.mem_singleton] at hi; exact .inr (by omega)) (by simp) (fun j hj _ => List.getElem?_append_left hj)
    · rw [List.getElem?_append_right (Nat.le_refl _), Nat.sub_self, hoc, List.map_append, flatE_append]
      simp [flatE]
    · rw [hrest]
      have : (List.replicate (c - (xs.length + 1)) z.cells).flatten.length = (c - (xs.length + 1)) * sz := by simp [hzs]
      rw [this, ← Nat.add_mul]
      congr 1; omega
  rcases hk.cases2 with ⟨rfl, rfl, rfl⟩ | ⟨ic, c, rest, rfl, rfl, hH, hc, hmx⟩
  · exact hnew _ rfl fun E v ho hE hv => by
      rw [hx] at hv
      exact first_fullK (es := []) rfl (by simp) hv
  · have hfl := flat_enc_len (enc := enc) henc xs
    rcases Nat.lt_or_ge xs.length c with hlt | hge
    · have hr : sz ≤ rest.length := by
        have : (xs.length + 1) * sz ≤ c * sz := Nat.mul_le_mul_right _ hlt
        rw [Nat.succ_mul] at this; omega
      refine aops_appIn (id := ic) (n := xs.length) (c := c) (cs := flatE (xs.map enc) ++ rest) (e1 := enc a) (tl := tl) hH hw hop okx oky hx hy hlt (by rw [List.length_append, hfl, hei]; exact hc) (by rw [henc, hei]) (hcell a) hte htu ?_
      have hil := len_of_get hH
      refine h _ [ic] _ (.of (rest := rest.drop sz) (by simp) ?_ ?_ hmx) (fun i hi => .inl hi) (by simp) (fun j hj hn => by rw [List.getElem?_set_ne (by rintro rfl; exact hn (by simp))])
      · rw [List.getElem?_set_self hil, hei, ← hfl, splice_app _ _ _ (by rw [henc]; exact hr), henc, List.map_append, flatE_append]
        simp [flatE]
      · rw [List.length_drop, Nat.succ_mul]; omega
    · have hr : rest = [] := by
        have : c * sz ≤ xs.length * sz := Nat.mul_le_mul_right _ hge
        exact List.length_eq_zero_iff.1 (by omega)
      subst hr
      have hcl : c = xs.length := by
        simp only [List.length_nil, Nat.add_zero] at hc
        exact (Nat.eq_of_mul_eq_mul_right hs0 hc).symm
      subst hcl
      rw [List.append_nil] at hH
      exact hnew _ rfl fun E v ho hE hv => by
        rw [hx] at hv
        exact first_msl ho (cs := flatE (xs.map enc)) (by rw [hE]; exact hH) (by rw [hfl, hei]) hv
end
end Go.Abs
namespace Go.Abs
open Go.Proofs Go.Memo
def hdv (v : QV) : Int := match v.nums with
  | [] => 0
  | n :: _ => redu n
def progQ (idx : Int) : List QK → List Int → Prog
  | [], xs => .ret ⟨[xs.headD 0], []⟩
  | o :: os, xs =>
    if o.1 = 4 ∨ o.1 = 5 then .get (keyD (opKey o idx (xs.getLastD 0))) fun v => progQ idx os (xs.dropLast ++ [hdv v])
    else if (opKey o idx 0).isSome = true then .get (keyD (opKey o idx 0)) fun v => progQ idx os (xs ++ [hdv v])
    else if o.1 = 1 then progQ idx os (xs ++ [redu o.2.1])
    else progQ idx os (xs.dropLast.dropLast ++ [binQ o.1 (xs.dropLast.getLastD 0) (xs.getLastD 0)])
theorem opKey_some {o : QK} {idx n : Int} (h : o.1 = 4 ∨ o.1 = 5) : (opKey o idx n).isSome = true := by
  unfold opKey
  rcases h with h | h
  · rw [if_neg (by omega), if_neg (by omega), if_pos h]; rfl
  · by_cases hn : n = 0
    · rw [if_neg (by omega), if_neg (by omega), if_neg (by omega), if_neg (by simp [hn]), if_pos h]; rfl
    · rw [if_neg (by omega), if_neg (by omega), if_neg (by omega), if_pos ⟨h, hn⟩]; rfl
theorem binQ_rng {op x y : Int} (hx : 0 ≤ x ∧ x < 1000003) (hy : 0 ≤ y ∧ y < 1000003) : 0 ≤ binQ op x y ∧ binQ op x y < 1000003 := by
  unfold binQ
  have h1 := redu_rng (x + y); have h2 := redu_rng (x - y); have h3 := redu_rng (x * y)
  repeat' split
  all_goals omega
theorem hdv_rng (v : QV) : 0 ≤ hdv v ∧ hdv v < 1000003 := by
  unfold hdv
  split
  · omega
  · exact redu_rng _
structure GetI (P : Program) {σ : Type} (J : σ → FPl → Heap → Prop) (step : QK → σ → Option (Option QV × σ)) (f : FuncId) (caps : List PV) : Prop where
  own : Own J
  go : goFn P f = true
  call : ∀ k s F H o s', step k s = some (o, s') → J s F H → XM P J f (kE k :: caps) F H (o.map fun v => vint (hdv v)) s'
def Jb {σ : Type} (J : σ → FPl → Heap → Prop) (b : Nat) (g : PV) (s : σ) (F' : FPl) (H : Heap) : Prop := ∃ F, J s F H ∧ ¬ F b ∧ H[b]? = some (.row [g]) ∧ F' = fun id => F id ∨ id = b
theorem own_b {σ : Type} {J : σ → FPl → Heap → Prop} (o : Own J) (b : Nat) (g : PV) : Own (Jb J b g) :=
  ⟨fun {s F H H'} ⟨F0, h1, h2, h3, h4⟩ he => ⟨F0, o.fr h1 fun id hi => he id (by rw [h4]; exact .inl hi), h2, by rw [he b (by rw [h4]; exact .inr rfl)]; exact h3, h4⟩,
   fun {s F H} ⟨F0, h1, h2, h3, h4⟩ id hi => by
    rw [h4] at hi
    rcases hi with hi | rfl
    · exact o.lt h1 id hi
    · exact len_of_get h3⟩
structure RunS {σ : Type} (J : σ → FPl → Heap → Prop) (H0 : Heap) (F0 : FPl) (B : Nat) (s : σ) (F : FPl) (xs : List Int) (H : Heap) : Prop where
  stk : ∃ cv cid, H[B]? = some (.row [cv]) ∧ RwOk vint 1 H cv xs cid ∧ ∀ i ∈ cid, H0.length ≤ i ∧ i ≠ B ∧ ¬ F i
  j : J s F H
  b : H0.length ≤ B ∧ ¬ F B
  fr : FrS F0 F H0 H
variable {σ : Type} {J : σ → FPl → Heap → Prop} (hJ : Own J) {H0 : Heap} {F0 : FPl} {B : Nat} {s : σ} {F : FPl} {xs : List Int} {H : Heap}
theorem FrS.upd {F' : FPl} {H1 H2 : Heap} (a : FrS F0 F' H0 H1) (hl : H1.length ≤ H2.length) (h : ∀ id, id < H0.length → H2[id]? = H1[id]?) : FrS F0 F' H0 H2 :=
  ⟨Nat.le_trans a.len hl, fun id h1 h2 => (h id h1).trans (a.same id h1 h2), a.ids⟩
include hJ
theorem RunS.app (h : RunS J H0 F0 B s F xs H) (L : Heap) : RunS J H0 F0 B s F xs (H ++ L) := by
  obtain ⟨cv, cid, h1, h2, h3⟩ := h.stk
  exact ⟨⟨cv, cid, getL h1 L, h2.app L, h3⟩, hJ.app h.j L, h.b, h.fr.upd (by simp) fun id hi => List.getElem?_append_left (Nat.lt_of_lt_of_le hi h.fr.len)⟩
theorem RunS.keep {H' : Heap} (h : RunS J H0 F0 B s F xs H) (hl : H.length ≤ H'.length) (hs : ∀ id, (id = B ∨ F id ∨ id < H0.length ∨ (∃ cv cid, H[B]? = some (.row [cv]) ∧ RwOk vint 1 H cv xs cid ∧ id ∈ cid)) → H'[id]? = H[id]?) : RunS J H0 F0 B s F xs H' := by
  obtain ⟨cv, cid, h1, h2, h3⟩ := h.stk
  exact ⟨⟨cv, cid, by rw [hs B (.inl rfl)]; exact h1, h2.fr fun i hi => hs i (.inr (.inr (.inr ⟨cv, cid, h1, h2, hi⟩))), h3⟩, hJ.fr h.j fun id hi => hs id (.inr (.inl hi)), h.b, h.fr.upd hl fun id hi => hs id (.inr (.inr (.inl hi)))⟩
omit hJ in
theorem RunS.got {s' : σ} {F' : FPl} {H' : Heap} (h : RunS J H0 F0 B s F xs H) (hj : J s' F' H') (fr : FrS F F' H H') : RunS J H0 F0 B s' F' xs H' := by
  obtain ⟨cv, cid, h1, h2, h3⟩ := h.stk
  have hb := fr.get h1 h.b.2
  refine ⟨⟨cv, cid, hb.1, h2.fr fun i hi => fr.same i (h2.lt i hi) (h3 i hi).2.2, fun i hi => ⟨(h3 i hi).1, (h3 i hi).2.1, fun h' => (h3 i hi).2.2 (fr.ids i h' (h2.lt i hi))⟩⟩, hj, ⟨h.b.1, hb.2⟩, h.fr.trans fr⟩
theorem RunS.push {cv' : PV} {cid cid' : List Nat} {H' : Heap} {v : Int} (h : RunS J H0 F0 B s F xs H) (hc : ∀ i ∈ cid, H0.length ≤ i ∧ i ≠ B ∧ ¬ F i) (hk : RwOk vint 1 H' cv' (xs ++ [v]) cid') (hi : ∀ i ∈ cid', i ∈ cid ∨ H.length ≤ i) (hl : H.length ≤ H'.length) (hs : ∀ j, j < H.length → j ∉ cid → H'[j]? = H[j]?) :
    RunS J H0 F0 B s F (xs ++ [v]) (H'.set B (.row [cv'])) := by
  have hB : B < H.length := by obtain ⟨_, _, h1, _⟩ := h.stk; exact len_of_get h1
  have hB' : B < H'.length := Nat.lt_of_lt_of_le hB hl
  have hne : ∀ i ∈ cid', H0.length ≤ i ∧ i ≠ B ∧ ¬ F i := fun i hm => (hi i hm).elim (hc i) fun hg => ⟨Nat.le_trans h.fr.len hg, by omega, fun hf => by have := hJ.lt h.j i hf; omega⟩
  refine ⟨⟨cv', cid', List.getElem?_set_self hB', hk.fr fun i hm => List.getElem?_set_ne (Ne.symm (hne i hm).2.1), hne⟩, hJ.fr h.j fun id hf => ?_, h.b, h.fr.upd (by simp; omega) fun id hid => ?_⟩
  · rw [List.getElem?_set_ne (by rintro rfl; exact h.b.2 hf)]
    exact hs id (hJ.lt h.j id hf) fun hm => (hc id hm).2.2 hf
  · have := h.b.1
    rw [List.getElem?_set_ne (by omega)]
    exact hs id (Nat.lt_of_lt_of_le hid h.fr.len) fun hm => by have := (hc id hm).1; omega
omit hJ in
theorem RunS.lt (h : RunS J H0 F0 B s F xs H) : B < H.length := by obtain ⟨_, _, h1, _⟩ := h.stk; exact len_of_get h1
omit hJ in
theorem rw_pop {cv : PV} {cid : List Nat} {v : Int} (h : RwOk vint 1 H cv (xs ++ [v]) cid) : ∃ ic c rest, cv = .msl ic 0 (xs.length + 1) c ∧ cid = [ic] ∧ H[ic]? = some (.row (xs.map vint ++ vint v :: rest)) ∧ xs.length + 1 ≤ c ∧
    ∀ H', H'[ic]? = H[ic]? → RwOk vint 1 H' (.msl ic 0 xs.length c) xs cid := by
  rcases h.cases2 with ⟨he, _⟩ | ⟨ic, c, rest, h1, h2, h3, h4, h5⟩
  · simp at he
  · have fl : ∀ l : List Int, flatE (l.map vint) = l.map vint := fun l => by
      induction l with
      | nil => rfl
      | cons a l ih => exact congrArg (vint a :: ·) ih
    rw [fl] at h3
    simp only [List.map_append, List.map_cons, List.map_nil, List.append_assoc, List.singleton_append, List.length_append, List.length_singleton] at h1 h3 h4
    refine ⟨ic, c, rest, h1, h2, h3, by omega, fun H' he => ?_⟩
    rw [h2]
    refine .of (rest := vint v :: rest) rfl (by rw [he, fl]; exact h3) (by simp only [List.length_cons]; omega) h5
end Go.Abs
namespace Go.Abs
open Go.Proofs Go.Memo
theorem pop_c {σ : Type} {J : σ → FPl → Heap → Prop} (hJ : Own J) {H0 : Heap} {F0 : FPl} {B : Nat} {s : σ} {F : FPl} {xs : List Int} {v : Int} {H : Heap} (h : RunS J H0 F0 B s F (xs ++ [v]) H) (hn : xs.length ≤ 1000) : ACalls Try.prog 40 [.optr B 0] H fun r H' => r = vint v ∧ RunS J H0 F0 B s F xs H' ∧ H'.length = H.length ∧ ∀ id, id ≠ B → H'[id]? = H[id]? := by
  obtain ⟨cv, cid, h1, h2, h3⟩ := h.stk
  obtain ⟨ic, c, rest, rfl, rfl, hic, hc, hk⟩ := rw_pop h2
  have hne := (h3 ic (by simp)).2.1
  have gw : IntKind.i64.wrap (((xs.length + 1 : Nat) : Int) - 1) = (xs.length : Int) := by rw [wrap_id (by omega) (by omega)]; omega
  have gi := ix_nat (n := xs.length + 1) (i := xs.length) (by omega)
  have gv : (xs.map (fun n : Int => PV.int .i64 n) ++ PV.int .i64 v :: rest)[xs.length]? = some (.int .i64 v) := by rw [List.getElem?_append_right (by simp)]; simp
  have hic2 : H[ic]? = some (.row (xs.map (fun n : Int => PV.int .i64 n) ++ PV.int .i64 v :: rest)) := hic
  have nB : (B = H.length) = False := by have := h.lt; simp; omega
  refine acalls_of (N := 15) Try.func40 rfl rfl (by simp) fun hb' => ?_
  repeat (refine awp_seq ?_)
  refine e_eval (by simp only [jA, jO, jN, seval, vint, ksE_cells, kE_cells, ksE_drop1, kE_drop1, h1, hic2, nB] <;> with_reducible rfl) (by decide) ?_
  repeat (refine awp_seq ?_)
  refine e_eval (by simp only [jA, jO, jN, seval, y3, y32, vint, ksE_cells, kE_cells, ksE_drop1, kE_drop1, h1, hic2, nB, gw, gi, gv, Nat.zero_add, Nat.mul_one, Int.toNat_natCast] <;> with_reducible rfl) (by decide) ?_
  repeat (refine awp_seq ?_)
  refine awp_region ?_
  refine e_take 4 (by simp only [jA, jO, jN, seval, y3, y32, vint, ksE_cells, kE_cells, ksE_drop1, kE_drop1, h1, hic2, nB, gw] <;> with_reducible rfl) (by decide) ?_
  refine aops_sliceM (id := ic) (n := xs.length + 1) (c := c) (k := xs.length) (by simp only [jC, jN, seval, vint, ksE_cells, kE_cells, ksE_drop1, kE_drop1, gw]) rfl (by decide) (by decide) Tryte32 (by simp only [jC, jN, seval, vint, ksE_cells, kE_cells, ksE_drop1, kE_drop1, gw] <;> first | done | rfl) (by simp only [jC, jN, seval, vint, ksE_cells, kE_cells, ksE_drop1, kE_drop1, gw] <;> first | done | rfl) (by omega) ?_
  refine e_end (by simp only [jA, jO, jN, seval, y3, y32, vint, ksE_cells, kE_cells, ksE_drop1, kE_drop1, h1, hic2, nB, gw] <;> with_reducible rfl) (by decide) ?_
  repeat (refine awp_seq ?_)
  refine e_eval (by simp only [jA, jO, jN, seval, vint, ksE_cells, kE_cells, ksE_drop1, kE_drop1, h1, hic2, nB] <;> with_reducible rfl) (by decide) ?_
  repeat (refine awp_seq ?_)
  refine awp_ret ⟨.inr rfl, _, rfl, ?_⟩
  have hB := h.lt
  refine ⟨rfl, ⟨⟨_, [ic], List.getElem?_set_self hB, hk _ (List.getElem?_set_ne (Ne.symm hne)), h3⟩, hJ.fr h.j fun id hf => List.getElem?_set_ne (by rintro rfl; exact h.b.2 hf), h.b, h.fr.upd (by simp) fun id hid => List.getElem?_set_ne (by have := h.b.1; omega)⟩, by simp, fun id hid => List.getElem?_set_ne (Ne.symm hid)⟩
theorem compile11 {σ : Type} {J : σ → FPl → Heap → Prop} {step : QK → σ → Option (Option QV × σ)} {f : FuncId} {caps : List PV} (hJ : Own J) (hgo : goFn Try.prog f = true)
    (hc : ∀ k s F H o s', step k s = some (o, s') → J s F H → XM Try.prog J f (kE k :: caps) F H (o.map qvE) s') (b : Nat) (k : QK) (s : σ) (F' : FPl) (H : Heap) (o : Option QV) (s' : σ) (hs : step k s = some (o, s')) (hj : Jb J b (.fn (.func f) [] caps) s F' H) : XM Try.prog (Jb J b (.fn (.func f) [] caps)) 26 [kE k, .optr b 0] F' H (o.map fun v => vint (hdv v)) s' := by
  obtain ⟨F, j0, nb, hbx, rfl⟩ := hj
  have hbL := getL hbx
  obtain ⟨k1, k2, k3⟩ := k
  refine xcalls_of (N := 16) Try.func26 rfl rfl (by simp) fun hb' => ?_
  repeat (refine awp_seq ?_)
  refine e_eval (by simp only [jA, jO, jN, seval, y37, vint, ksE_cells, kE_cells, ksE_drop1, kE_drop1, hbL, hbx, kE, qvE] <;> with_reducible rfl) (by decide) ?_
  repeat (refine awp_seq ?_)
  refine awp_region ?_
  refine e_take 2 (by simp only [jA, jO, jN, seval, y37, y56, vint, ksE_cells, kE_cells, ksE_drop1, kE_drop1, hbL, hbx, kE, qvE] <;> with_reducible rfl) (by decide) ?_
  refine aops_xc (by simp only [jC, jN, seval, vint, ksE_cells, kE_cells, ksE_drop1, kE_drop1, hbL, hbx, kE, qvE] <;> rfl) (by simp only [jC, jN, seval, vint, ksE_cells, kE_cells, ksE_drop1, kE_drop1, hbL, hbx, kE, qvE]) (by decide) hgo (hc (k1, k2, k3) s F _ o s' hs (hJ.app j0 _)) ?_ (fun HP ⟨ho, F2, j2, f2⟩ => Or.inr ⟨rfl, mn ho, _, ⟨F2, j2, (f2.get (hbL _) nb).2, (f2.get (hbL _) nb).1, rfl⟩, f2.of_app.or _⟩)
  rintro r H1 ⟨ho, F2, j2, f2⟩
  cases o with
  | none => cases ho
  | some v => ?_
  injection ho with ho
  subst ho
  have hb2 := f2.get (hbL _) nb
  obtain ⟨nums, text⟩ := v
  refine e_end (by simp only [jA, jO, jN, seval, y41, vint, ksE_cells, kE_cells, ksE_drop1, kE_drop1, hbL, hbx, kE, qvE] <;> with_reducible rfl) (by decide) ?_
  repeat (refine awp_seq ?_)
  refine e_eval (by simp only [jA, jO, jN, seval, y3, y32, vint, ksE_cells, kE_cells, ksE_drop1, kE_drop1, hbL, hbx, kE, qvE] <;> with_reducible rfl) (by decide) ?_
  repeat (refine awp_seq ?_)
  refine awp_cond rfl (by simp only [jN, seval, vint, ksE_cells, kE_cells, ksE_drop1, kE_drop1, hbL, hbx, kE, qvE] <;> with_reducible rfl) (fun bt11 => ?_) (fun bt11 => ?_)
  ·
    have hn : nums = [] := by cases nums with | nil => rfl | cons a l => simp at bt11; omega
    subst hn
    repeat (refine awp_seq ?_)
    refine e_eval (by simp only [jA, jO, jN, seval, vint, ksE_cells, kE_cells, ksE_drop1, kE_drop1, hbL, hbx, kE, qvE] <;> with_reducible rfl) (by decide) ?_
    repeat (refine awp_seq ?_)
    refine awp_ret (Or.inl ⟨.inr rfl, _, rfl, ?_⟩)
    exact ⟨rfl, _, ⟨F2, j2, hb2.2, hb2.1, rfl⟩, f2.of_app.or _⟩
  ·
    obtain ⟨a, l, rfl⟩ : ∃ a l, nums = a :: l := by
      cases nums with
      | nil => simp at bt11
      | cons a l => exact ⟨a, l, rfl⟩
    have g0 : ((0 : Int) < ((l.length + 1 : Nat) : Int)) = True := eq_true (by omega)
    repeat (refine awp_seq ?_)
    refine awp_skip ?_
    repeat (refine awp_seq ?_)
    refine awp_region ?_
    refine e_take 3 (by simp only [jA, jO, jN, seval, y3, y32, vint, ksE_cells, kE_cells, ksE_drop1, kE_drop1, hbL, hbx, kE, qvE, List.map_cons, Int.toNat_zero, List.getElem?_cons_zero, List.length_cons, List.length_map, g0] <;> with_reducible rfl) (by decide) ?_
    refine aops_pure (by simp only [jC, jN, seval, vint, ksE_cells, kE_cells, ksE_drop1, kE_drop1, hbL, hbx, kE, qvE, List.map_cons, Int.toNat_zero, List.getElem?_cons_zero, List.length_cons, List.length_map, g0] <;> with_reducible rfl) (by simp only [jC, jN, seval, vint, ksE_cells, kE_cells, ksE_drop1, kE_drop1, hbL, hbx, kE, qvE, List.map_cons, Int.toNat_zero, List.getElem?_cons_zero, List.length_cons, List.length_map, g0]) (by decide) Trygo27 (reduce_c a _) ?_
    refine e_end (by simp only [jA, jO, jN, seval, vint, ksE_cells, kE_cells, ksE_drop1, kE_drop1, hbL, hbx, kE, qvE, List.map_cons, Int.toNat_zero, List.getElem?_cons_zero, List.length_cons, List.length_map, g0] <;> with_reducible rfl) (by decide) ?_
    repeat (refine awp_seq ?_)
    refine awp_ret (Or.inl ⟨.inr rfl, _, rfl, ?_⟩)
    exact ⟨rfl, _, ⟨F2, j2, hb2.2, hb2.1, rfl⟩, f2.of_app.or _⟩
end Go.Abs
namespace Go.Abs
open Go.Proofs Go.Memo
theorem run_get {σ : Type} {step : QK → σ → Option (Option QV × σ)} {k : QK} {c : QV → Prog} {s s' : σ} {o : Option QV} (h : runP step (.get k c) s = some (o, s')) : ∃ o1 s1, step k s = some (o1, s1) ∧ ((o1 = none ∧ o = none ∧ s' = s1) ∨ ∃ v, o1 = some v ∧ runP step (c v) s1 = some (o, s')) := by
  unfold runP at h
  split at h
  · cases h
  · rename_i s1 h1; injection h with h; injection h with h2 h3; subst h2; subst h3; exact ⟨none, s1, h1, .inl ⟨rfl, rfl, rfl⟩⟩
  · rename_i v s1 h1; exact ⟨some v, s1, h1, .inr ⟨v, rfl, h⟩⟩
theorem snoc_of {α : Type} : ∀ (l : List α), l ≠ [] → ∃ m a, l = m ++ [a]
  | [], h => (h rfl).elim
  | a :: l, _ => ⟨(a :: l).dropLast, (a :: l).getLast (by simp), (List.dropLast_concat_getLast _).symm⟩
theorem run_c {σ : Type} {J : σ → FPl → Heap → Prop} {step : QK → σ → Option (Option QV × σ)} {f : FuncId} {caps : List PV} (hI : GetI Try.prog J step f caps) (inp idx : Int) (ops : List QK) (hok : chkQ inp idx ops 0 = 0) (h20 : ops.length ≤ 20) (s0 : σ) (F0 : FPl) (H0 : Heap) (o : Option QV) (s' : σ) : runP step (progQ idx ops []) s0 = some (o, s') → J s0 F0 H0 → XM Try.prog J 25 [.slice (ops.map kE) .none, vint idx, .fn (.func f) [] caps] F0 H0 (o.map fun v => vint (v.nums.headD 0)) s' := by
  intro hr hj
  have em : maxLen = 9223372036854775807 := by decide
  refine xcalls_of (N := 72) Try.func25 rfl rfl (by simp) fun hb' => ?_
  repeat (refine awp_seq ?_)
  refine e_eval (by simp only [jA, jO, jN, seval, vint, ksE_cells, kE_cells, ksE_drop1, kE_drop1] <;> with_reducible rfl) (by decide) ?_
  repeat (refine awp_seq ?_)
  refine e_eval (by simp only [jA, jO, jN, seval, y3, y32, vint, ksE_cells, kE_cells, ksE_drop1, kE_drop1] <;> with_reducible rfl) (by decide) ?_
  repeat (refine awp_seq ?_)
  refine e_eval (by simp only [jA, jO, jN, seval, vint, ksE_cells, kE_cells, ksE_drop1, kE_drop1] <;> with_reducible rfl) (by decide) ?_
  repeat (refine awp_seq ?_)
  refine e_eval (by simp only [jA, jO, jN, seval, y52, y53, vint, ksE_cells, kE_cells, ksE_drop1, kE_drop1] <;> with_reducible rfl) (by decide) ?_
  repeat (refine awp_seq ?_)
  refine awp_block ?_
  refine awp_loopX (σ := Nat × List Int × σ × FPl) (fun (z : Nat × List Int × σ × FPl) => [(17, .slice (ops.map kE) .none), (18, vint (ops.length : Int)), (19, vint (z.1 : Int)), (7, .optr H0.length 0), (8, .fn (.func 40) [] [.optr H0.length 0]), (1, vint idx), (2, .fn (.func f) [] caps)]) (fun (z : Nat × List Int × σ × FPl) =>  fun H1 => z.1 ≤ ops.length ∧ chkQ inp idx (ops.drop z.1) (z.2.1.length : Int) = 0 ∧ (∀ x ∈ z.2.1, 0 ≤ x ∧ x < 1000003) ∧ z.2.1.length ≤ z.1 ∧ runP step (progQ idx (ops.drop z.1) z.2.1) z.2.2.1 = some (o, s') ∧ RunS J H0 F0 H0.length z.2.2.1 z.2.2.2 z.2.1 H1) (fun (z : Nat × List Int × σ × FPl) => ops.length - z.1) ((0, [], s0, F0)) ⟨(by first | rfl | (simp only [jN, seval, vint, ksE_cells, kE_cells, ksE_drop1, kE_drop1] <;> first | done | with_reducible rfl)), (by first | rfl | (simp only [jN, seval, vint, ksE_cells, kE_cells, ksE_drop1, kE_drop1] <;> first | done | with_reducible rfl)), (by first | rfl | (simp only [jN, seval, vint, ksE_cells, kE_cells, ksE_drop1, kE_drop1] <;> first | done | with_reducible rfl)), (by first | rfl | (simp only [jN, seval, vint, ksE_cells, kE_cells, ksE_drop1, kE_drop1] <;> first | done | with_reducible rfl)), (by first | rfl | (simp only [jN, seval, vint, ksE_cells, kE_cells, ksE_drop1, kE_drop1] <;> first | done | with_reducible rfl)), (by first | rfl | (simp only [jN, seval, vint, ksE_cells, kE_cells, ksE_drop1, kE_drop1] <;> first | done | with_reducible rfl)), (by first | rfl | (simp only [jN, seval, vint, ksE_cells, kE_cells, ksE_drop1, kE_drop1] <;> first | done | with_reducible rfl)), trivial⟩ (⟨Nat.zero_le _, hok, by simp, Nat.le_refl _, hr, ⟨⟨.slice [] .full, [], by simp, .nil, by simp⟩, hI.own.app hj _, ⟨Nat.le_refl _, fun h => by have := hI.own.lt hj _ h; omega⟩, FrS.app _ _ _ (hI.own.lt hj)⟩⟩) ?_
  intro z H1 hg
  obtain ⟨i, xs, s, F⟩ := z
  obtain ⟨hi0, hq1, hrg, hxl, hrun1, r1⟩ := hg
  simp only at hi0 hq1 hrg hxl hrun1 r1
  rcases Nat.lt_or_ge i ops.length with hlt | hge
  ·
    have gi := ix_nat hlt
    have ge := get_enc kE hlt
    have gl : decide ((i : Int) < (ops.length : Int)) = true := decide_eq_true (by omega)
    have w1 : IntKind.i64.wrap ((i : Int) + 1) = ((i + 1 : Nat) : Int) := by rw [wrap_id (by omega) (by omega)]; omega
    rw [List.drop_eq_getElem_cons hlt] at hq1 hrun1
    obtain ⟨⟨a, b, c⟩, hoo⟩ : ∃ o, o = ops[i] := ⟨_, rfl⟩
    rw [← hoo] at ge hq1 hrun1
    simp only [chkQ] at hq1
    split at hq1
    · cases hq1
    rename_i hk1
    split at hq1
    · cases hq1
    rename_i hk2
    have hval : (opnd inp idx (a, b, c)).2 = true := by cases h : (opnd inp idx (a, b, c)).2 with
      | true => rfl
      | false => exact (hk2 (.inl h)).elim
    have hpop : (opnd inp idx (a, b, c)).1 ≤ (xs.length : Int) := by omega
    repeat (refine awp_seq ?_)
    refine e_eval (by simp only [jA, jO, jN, seval, y3, vint, ksE_cells, kE_cells, ksE_drop1, kE_drop1, gi, ge, gl, w1, Int.toNat_natCast, kE] <;> with_reducible rfl) (by decide) ?_
    repeat (refine awp_seq ?_)
    refine awp_cond_true rfl (by simp only [jN, seval, vint, ksE_cells, kE_cells, ksE_drop1, kE_drop1, gi, ge, gl, w1, Int.toNat_natCast, kE] <;> with_reducible rfl) ?_
    repeat (refine awp_seq ?_)
    refine awp_skip ?_
    repeat (refine awp_seq ?_)
    refine awp_block ?_
    rcases Classical.em (a = 4 ∨ a = 5) with ha | ha
    ·
      have hp1 : (opnd inp idx (a, b, c)).1 = 1 := by rcases ha with rfl | rfl <;> rfl
      rw [hp1] at hq1 hpop
      obtain ⟨ys, n, rfl⟩ := snoc_of xs (by intro h; rw [h] at hpop; simp at hpop)
      have hyl : ys.length + 1 ≤ i := by simpa using hxl
      have hq2 : ∀ v : Int, chkQ inp idx (ops.drop (i + 1)) ((ys ++ [v]).length : Int) = 0 := fun v => by rw [← hq1]; congr 1; simp <;> omega
      have hrg2 : ∀ x ∈ ys, 0 ≤ x ∧ x < 1000003 := fun x hx => hrg x (by simp [hx])
      simp only [progQ, if_pos ha, List.getLastD_concat, List.dropLast_concat] at hrun1
      have hid4 : a = 4 → 0 < idx := fun h => by
        subst h
        simp [opnd] at hval
        exact hval.2
      have hsome := opKey_some (o := (a, b, c)) (idx := idx) (n := n) ha
      have t30 : (decide (a = 4) || decide (a = 5)) = true := by simpa using ha
      obtain ⟨⟨k1, k2, k3⟩, hkk⟩ : ∃ k, k = keyD (opKey (a, b, c) idx n) := ⟨_, rfl⟩
      rw [← hkk] at hrun1
      obtain ⟨o1, s1, hst, hcs⟩ := run_get hrun1
      have hop : PC Try.prog 41 [kE (a, b, c), vint idx, vint n] (.tup [kE (k1, k2, k3), .bool true]) := by have := operandKey_c (a, b, c) idx n hid4; rw [← hkk, hsome] at this; exact this
      repeat (refine awp_seq ?_)
      refine e_eval (by simp only [jA, jO, jN, seval, y52, y53, vint, ksE_cells, kE_cells, ksE_drop1, kE_drop1, gi, ge, gl, w1, Int.toNat_natCast, kE, t30] <;> with_reducible rfl) (by decide) ?_
      repeat (refine awp_seq ?_)
      refine e_eval (by simp only [jA, jO, jN, seval, vint, ksE_cells, kE_cells, ksE_drop1, kE_drop1, gi, ge, gl, w1, Int.toNat_natCast, kE, t30] <;> with_reducible rfl) (by decide) ?_
      repeat (refine awp_seq ?_)
      refine g_eval (by simp only [jG, jO, jN, seval, y3, y52, vint, ksE_cells, kE_cells, ksE_drop1, kE_drop1, gi, ge, gl, w1, Int.toNat_natCast, kE, t30] <;> with_reducible rfl) (by decide) (by repeat (first | exact Fin.base _ | with_reducible apply Fin.keep | apply Fin.drop)) ?_
      repeat (refine awp_seq ?_)
      refine awp_cond_true rfl (by simp only [jN, seval, vint, ksE_cells, kE_cells, ksE_drop1, kE_drop1, gi, ge, gl, w1, Int.toNat_natCast, kE, t30] <;> with_reducible rfl) ?_
      repeat (refine awp_seq ?_)
      refine awp_region ?_
      refine e_take 1 (by simp only [jA, jO, jN, seval, vint, ksE_cells, kE_cells, ksE_drop1, kE_drop1, gi, ge, gl, w1, Int.toNat_natCast, kE, t30] <;> with_reducible rfl) (by decide) ?_
      refine aops_acall (by simp only [jC, jN, seval, vint] <;> with_reducible rfl) (by simp only [jC, jN, seval, vint]) (by decide) Trygo40 (pop_c (v := n) hI.own (r1.app hI.own _) (by simp at hxl ⊢; omega)) ?_
      rintro _ H2 ⟨rfl, r2, hlH2, hsH2⟩
      have h10 : H2[H1.length]? = some (.row [vint a, vint b, vint c]) := by rw [hsH2 _ (by have := r1.lt; omega)]; simp
      have q10 := getL h10
      refine e_end (by simp only [jA, jO, jN, seval, vint, ksE_cells, kE_cells, ksE_drop1, kE_drop1, gi, ge, gl, w1, Int.toNat_natCast, kE, t30] <;> with_reducible rfl) (by decide) ?_
      refine awp_sel [1, 2, 7, 8, 10, 11, 17, 18, 19] (by simp only [jN, seval, vint, ksE_cells, kE_cells, ksE_drop1, kE_drop1, gi, ge, gl, w1, Int.toNat_natCast, kE, t30, h10, q10] <;> with_reducible rfl) ?_
      repeat (refine awp_seq ?_)
      refine awp_region ?_
      refine e_take 3 (by simp only [jA, jO, jN, seval, y52, vint, ksE_cells, kE_cells, ksE_drop1, kE_drop1, gi, ge, gl, w1, Int.toNat_natCast, kE, t30, h10, q10] <;> with_reducible rfl) (by decide) ?_
      refine aops_pure (by simp only [jC, jN, seval, vint, ksE_cells, kE_cells, ksE_drop1, kE_drop1, gi, ge, gl, w1, Int.toNat_natCast, kE, t30, h10, q10] <;> with_reducible rfl) (by simp only [jC, jN, seval, vint, ksE_cells, kE_cells, ksE_drop1, kE_drop1, gi, ge, gl, w1, Int.toNat_natCast, kE, t30, h10, q10]) (by decide) Trygo41 (hop _) ?_
      refine e_end (by simp only [jA, jO, jN, seval, y37, vint, ksE_cells, kE_cells, ksE_drop1, kE_drop1, gi, ge, gl, w1, Int.toNat_natCast, kE, t30, h10, q10] <;> with_reducible rfl) (by decide) ?_
      refine awp_abs (fun H3 => RunS J H0 F0 H0.length s F ys H3 ∧ H3[H1.length]? = some (.row [vint a, vint b, vint c]) ∧ H3[H2.length]? = some (.row [vint k1, vint k2, vint k3])) ⟨r2.app hI.own _, q10 _, by simp⟩ ?_
      rintro H3 ⟨r3, hO, hK⟩
      obtain ⟨cv, cid, hB3, hk3, hc3⟩ := r3.stk
      ·
        repeat (refine awp_seq ?_)
        refine e_eval (by simp only [jA, jO, jN, seval, vint, ksE_cells, kE_cells, ksE_drop1, kE_drop1, gi, ge, gl, w1, Int.toNat_natCast, kE, t30, h10, q10, hO, hK] <;> with_reducible rfl) (by decide) ?_
        repeat (refine awp_seq ?_)
        refine awp_cond_true rfl (by simp only [jN, seval, vint, ksE_cells, kE_cells, ksE_drop1, kE_drop1, gi, ge, gl, w1, Int.toNat_natCast, kE, t30, h10, q10, hO, hK] <;> with_reducible rfl) ?_
        repeat (refine awp_seq ?_)
        refine awp_gosX (fun e T H => (e = .normal ∧ ∃ v F4, o1 = some v ∧ Fits T [(17, .slice (ops.map kE) .none), (18, vint (ops.length : Int)), (19, vint (i : Int)), (7, .optr H0.length 0), (8, .fn (.func 40) [] [.optr H0.length 0]), (1, vint idx), (2, .fn (.func f) [] caps)] ∧ RunS J H0 F0 H0.length s1 F4 (ys ++ [hdv v]) H) ∨ (e = .panic chC ∧ ∃ F4, o1 = none ∧ J s1 F4 H ∧ FrS F0 F4 H0 H)) (by kernel_rfl) (fun opr R' hops hR => ?_) (fun e T' H5 hr => ?_)
        · have p31 : ∀ (v : QV) (F4 : FPl) (H4 : Heap), o1 = some v → RunS J H0 F0 H0.length s1 F4 ys H4 → H4[H0.length]? = some (.row [cv]) → RwOk vint 1 H4 cv ys cid → (∀ i ∈ cid, H0.length ≤ i ∧ i ≠ H0.length ∧ ¬ F4 i) → GoS Try.prog 72 H0.length opr R' 2 #[true, true, true, true, true, false, false] (mkS [(17, .slice (ops.map kE) .none), (18, vint (ops.length : Int)), (19, vint (i : Int)), (7, .optr H0.length 0), (8, .fn (.func 40) [] [.optr H0.length 0]), (1, vint idx), (2, .fn (.func f) [] caps), (12, .optr H2.length 0), (41, cv), (42, .fn (.func f) [] caps), (43, .agg [vint k1, vint k2, vint k3]), (45, .slice [vint (hdv v)] .full), (44, vint (hdv v))]) H4 := by
            subst hops
            intro v F4 H4 hov r4 hB4 hk4 hc4
            refine zs1 5 rfl ?_
            · refine aops_appRw (enc := vint) (sz := 1) (fun _ => rfl) (fun _ => rfl) (by decide) (xs := ys) (a := hdv v) (cid := cid) (by simp only [jC, jN, seval, vint]) rfl (by decide) (by decide) (by simp only [jC, jN, seval, vint] <;> first | done | rfl) (by simp only [jC, jN, seval, vint] <;> first | done | rfl) hk4 Tryte32 rfl (by show (_ + 1) * 8 ≤ _; omega) (by omega) (by rw [Tryte32]; rfl) Trytz3 rfl ?_
              intro cv5 cid5 H5 hk5 hi5 hl5 hs5
              refine aops_nil ?_
              have hcc : cv5.cells = [cv5] := by rcases hk5.cases2 with ⟨_, rfl, _⟩ | ⟨_, _, _, rfl, _⟩ <;> rfl
              have hcl : cv5.isCell = true := by rcases hk5.cases2 with ⟨_, rfl, _⟩ | ⟨_, _, _, rfl, _⟩ <;> rfl
              have hB5 : H5[H0.length]? = some (.row [cv]) := by rw [hs5 _ r4.lt (fun h => (hc4 _ h).2.1 rfl)]; exact hB4
              have nB5 : (H0.length = H5.length) = False := by have := len_of_get hB5; simp; omega
              have hpush := RunS.push hI.own r4 hc4 hk5 hi5 hl5 hs5
              refine GoS.weak (T2 := mkS [(17, .slice (ops.map kE) .none), (18, vint (ops.length : Int)), (19, vint (i : Int)), (7, .optr H0.length 0), (8, .fn (.func 40) [] [.optr H0.length 0]), (1, vint idx), (2, .fn (.func f) [] caps), (12, .optr H2.length 0), (41, cv), (42, .fn (.func f) [] caps), (43, .agg [vint k1, vint k2, vint k3]), (45, .slice [vint (hdv v)] .full), (44, vint (hdv v)), (46, cv5)]) (listed := #[true, true, true, true, true, true, false]) (f := 1) ?_ (mkS_weak (by repeat (first | exact trivial | refine ⟨rfl, ?_⟩)))
              refine zs1 6 rfl (go_one (m := [(17, .slice (ops.map kE) .none), (18, vint (ops.length : Int)), (19, vint (i : Int)), (7, .optr H0.length 0), (8, .fn (.func 40) [] [.optr H0.length 0]), (1, vint idx), (2, .fn (.func f) [] caps)]) (by simp only [jA, jO, jN, seval, y3, y32, vint, ksE_cells, kE_cells, ksE_drop1, kE_drop1, hB5, nB5, hcc, hcl] <;> with_reducible rfl) (gos_nil ?_))
              rw [hR]
              exact Or.inl ⟨rfl, v, F4, hov, by repeat (first | exact trivial | refine ⟨rfl, ?_⟩), hpush⟩
          have p30 : ∀ (v : QV) (F4 : FPl) (H4 : Heap), o1 = some v → RunS J H0 F0 H0.length s1 F4 ys H4 → H4[H0.length]? = some (.row [cv]) → RwOk vint 1 H4 cv ys cid → (∀ i ∈ cid, H0.length ≤ i ∧ i ≠ H0.length ∧ ¬ F4 i) → GoS Try.prog 72 H0.length opr R' 3 #[false, true, true, true, true, false, false] (mkS [(17, .slice (ops.map kE) .none), (18, vint (ops.length : Int)), (19, vint (i : Int)), (7, .optr H0.length 0), (8, .fn (.func 40) [] [.optr H0.length 0]), (1, vint idx), (2, .fn (.func f) [] caps), (12, .optr H2.length 0), (42, .fn (.func f) [] caps), (43, .agg [vint k1, vint k2, vint k3]), (45, .slice [vint (hdv v)] .full), (44, vint (hdv v))]) H4 := by
            subst hops
            intro v F4 H4 hov r4 hB4 hk4 hc4
            refine zs1 0 rfl (go_one (by simp only [jA, jO, jN, seval, y3, y32, vint, ksE_cells, kE_cells, ksE_drop1, kE_drop1, hB4] <;> with_reducible rfl) (p31 v F4 H4 hov r4 hB4 hk4 hc4))
          have p15 : ∀ (v : QV) (F4 : FPl) (H4 : Heap), o1 = some v → RunS J H0 F0 H0.length s1 F4 ys H4 → H4[H0.length]? = some (.row [cv]) → RwOk vint 1 H4 cv ys cid → (∀ i ∈ cid, H0.length ≤ i ∧ i ≠ H0.length ∧ ¬ F4 i) → GoS Try.prog 72 H0.length opr R' 3 #[true, true, true, true, false, false, false] (mkS [(17, .slice (ops.map kE) .none), (18, vint (ops.length : Int)), (19, vint (i : Int)), (7, .optr H0.length 0), (8, .fn (.func 40) [] [.optr H0.length 0]), (1, vint idx), (2, .fn (.func f) [] caps), (12, .optr H2.length 0), (41, cv), (42, .fn (.func f) [] caps), (43, .agg [vint k1, vint k2, vint k3]), (44, vint (hdv v))]) H4 := by
            subst hops
            intro v F4 H4 hov r4 hB4 hk4 hc4
            refine zs1 4 rfl (go_one (by simp only [jA, jO, jN, seval, y3, y32, vint, ksE_cells, kE_cells, ksE_drop1, kE_drop1, hB4] <;> with_reducible rfl) (p31 v F4 H4 hov r4 hB4 hk4 hc4))
          have p14 : ∀ (v : QV) (F4 : FPl) (H4 : Heap), o1 = some v → RunS J H0 F0 H0.length s1 F4 ys H4 → H4[H0.length]? = some (.row [cv]) → RwOk vint 1 H4 cv ys cid → (∀ i ∈ cid, H0.length ≤ i ∧ i ≠ H0.length ∧ ¬ F4 i) → GoS Try.prog 72 H0.length opr R' 4 #[false, true, true, true, false, false, false] (mkS [(17, .slice (ops.map kE) .none), (18, vint (ops.length : Int)), (19, vint (i : Int)), (7, .optr H0.length 0), (8, .fn (.func 40) [] [.optr H0.length 0]), (1, vint idx), (2, .fn (.func f) [] caps), (12, .optr H2.length 0), (42, .fn (.func f) [] caps), (43, .agg [vint k1, vint k2, vint k3]), (44, vint (hdv v))]) H4 := by
            subst hops
            intro v F4 H4 hov r4 hB4 hk4 hc4
            refine zs2 0 4 rfl rfl (go_one (by simp only [jA, jO, jN, seval, y3, y32, vint, ksE_cells, kE_cells, ksE_drop1, kE_drop1, hB4] <;> with_reducible rfl) (p15 v F4 H4 hov r4 hB4 hk4 hc4)) (go_one (by simp only [jA, jO, jN, seval, y3, y32, vint, ksE_cells, kE_cells, ksE_drop1, kE_drop1, hB4] <;> with_reducible rfl) (p30 v F4 H4 hov r4 hB4 hk4 hc4))
          have g7 : GoS Try.prog 72 H0.length opr R' 4 #[true, true, true, false, false, false, false] (mkS [(17, .slice (ops.map kE) .none), (18, vint (ops.length : Int)), (19, vint (i : Int)), (7, .optr H0.length 0), (8, .fn (.func 40) [] [.optr H0.length 0]), (1, vint idx), (2, .fn (.func f) [] caps), (12, .optr H2.length 0), (41, cv), (42, .fn (.func f) [] caps), (43, .agg [vint k1, vint k2, vint k3])]) H3 := by
            subst hops
            refine zs1 3 rfl ?_
            · refine aops_xc (by simp only [jC, jN, seval, vint] <;> rfl) (by simp only [jC, jN, seval, vint]) (by decide) hI.go (hI.call (k1, k2, k3) s F H3 o1 s1 hst r3.j) ?_ ?_
              · rintro r H4 ⟨ho, F4, j4, f4⟩
                obtain ⟨v, hv⟩ : ∃ v, o1 = some v := by
                  cases o1 with
                  | none => cases ho
                  | some v => exact ⟨v, rfl⟩
                rw [hv] at ho
                injection ho with ho
                subst ho
                refine aops_nil ?_
                have hp := p15 v F4 H4 hv (r3.got j4 f4) (f4.get hB3 r3.b.2).1 (hk3.fr fun i hi => f4.same i (hk3.lt i hi) (hc3 i hi).2.2) (fun i hi => ⟨(hc3 i hi).1, (hc3 i hi).2.1, fun h' => (hc3 i hi).2.2 (f4.ids i h' (hk3.lt i hi))⟩)
                exact hp.weak (mkS_weak (by try simp only [List.cons_append, List.nil_append]
                                            repeat (first | exact trivial | refine ⟨rfl, ?_⟩)))
              · rintro H4 ⟨ho, F4, j4, f4⟩
                have hv : o1 = none := by
                  cases o1 with
                  | none => rfl
                  | some v => cases ho
                show R' (.panic chC) _ H4
                rw [hR]
                exact Or.inr ⟨rfl, F4, hv, j4, r3.fr.trans f4⟩
          have g6 : GoS Try.prog 72 H0.length opr R' 5 #[false, true, true, false, false, false, false] (mkS [(17, .slice (ops.map kE) .none), (18, vint (ops.length : Int)), (19, vint (i : Int)), (7, .optr H0.length 0), (8, .fn (.func 40) [] [.optr H0.length 0]), (1, vint idx), (2, .fn (.func f) [] caps), (12, .optr H2.length 0), (42, .fn (.func f) [] caps), (43, .agg [vint k1, vint k2, vint k3])]) H3 := by
            subst hops
            refine zs2 0 3 rfl rfl (go_one (by simp only [jA, jO, jN, seval, y3, y32, vint, ksE_cells, kE_cells, ksE_drop1, kE_drop1, hB3, hK] <;> with_reducible rfl) g7) ?_
            · refine aops_xc (by simp only [jC, jN, seval, vint] <;> rfl) (by simp only [jC, jN, seval, vint]) (by decide) hI.go (hI.call (k1, k2, k3) s F H3 o1 s1 hst r3.j) ?_ ?_
              · rintro r H4 ⟨ho, F4, j4, f4⟩
                obtain ⟨v, hv⟩ : ∃ v, o1 = some v := by
                  cases o1 with
                  | none => cases ho
                  | some v => exact ⟨v, rfl⟩
                rw [hv] at ho
                injection ho with ho
                subst ho
                refine aops_nil ?_
                have hp := p14 v F4 H4 hv (r3.got j4 f4) (f4.get hB3 r3.b.2).1 (hk3.fr fun i hi => f4.same i (hk3.lt i hi) (hc3 i hi).2.2) (fun i hi => ⟨(hc3 i hi).1, (hc3 i hi).2.1, fun h' => (hc3 i hi).2.2 (f4.ids i h' (hk3.lt i hi))⟩)
                exact hp.weak (mkS_weak (by try simp only [List.cons_append, List.nil_append]
                                            repeat (first | exact trivial | refine ⟨rfl, ?_⟩)))
              · rintro H4 ⟨ho, F4, j4, f4⟩
                have hv : o1 = none := by
                  cases o1 with
                  | none => rfl
                  | some v => cases ho
                show R' (.panic chC) _ H4
                rw [hR]
                exact Or.inr ⟨rfl, F4, hv, j4, r3.fr.trans f4⟩
          have g5 : GoS Try.prog 72 H0.length opr R' 5 #[true, false, true, false, false, false, false] (mkS [(17, .slice (ops.map kE) .none), (18, vint (ops.length : Int)), (19, vint (i : Int)), (7, .optr H0.length 0), (8, .fn (.func 40) [] [.optr H0.length 0]), (1, vint idx), (2, .fn (.func f) [] caps), (12, .optr H2.length 0), (41, cv), (43, .agg [vint k1, vint k2, vint k3])]) H3 := by
            subst hops
            refine zs1 1 rfl (go_one (by simp only [jA, jO, jN, seval, vint, ksE_cells, kE_cells, ksE_drop1, kE_drop1, hB3, hK] <;> with_reducible rfl) g7)
          have g3 : GoS Try.prog 72 H0.length opr R' 5 #[true, true, false, false, false, false, false] (mkS [(17, .slice (ops.map kE) .none), (18, vint (ops.length : Int)), (19, vint (i : Int)), (7, .optr H0.length 0), (8, .fn (.func 40) [] [.optr H0.length 0]), (1, vint idx), (2, .fn (.func f) [] caps), (12, .optr H2.length 0), (41, cv), (42, .fn (.func f) [] caps)]) H3 := by
            subst hops
            refine zs1 2 rfl (go_one (by simp only [jA, jO, jN, seval, y37, vint, ksE_cells, kE_cells, ksE_drop1, kE_drop1, hB3, hK] <;> with_reducible rfl) g7)
          have g4 : GoS Try.prog 72 H0.length opr R' 6 #[false, false, true, false, false, false, false] (mkS [(17, .slice (ops.map kE) .none), (18, vint (ops.length : Int)), (19, vint (i : Int)), (7, .optr H0.length 0), (8, .fn (.func 40) [] [.optr H0.length 0]), (1, vint idx), (2, .fn (.func f) [] caps), (12, .optr H2.length 0), (43, .agg [vint k1, vint k2, vint k3])]) H3 := by
            subst hops
            refine zs2 0 1 rfl rfl (go_one (by simp only [jA, jO, jN, seval, y3, y32, vint, ksE_cells, kE_cells, ksE_drop1, kE_drop1, hB3, hK] <;> with_reducible rfl) g5) (go_one (by simp only [jA, jO, jN, seval, vint, ksE_cells, kE_cells, ksE_drop1, kE_drop1, hB3, hK] <;> with_reducible rfl) g6)
          have g2 : GoS Try.prog 72 H0.length opr R' 6 #[false, true, false, false, false, false, false] (mkS [(17, .slice (ops.map kE) .none), (18, vint (ops.length : Int)), (19, vint (i : Int)), (7, .optr H0.length 0), (8, .fn (.func 40) [] [.optr H0.length 0]), (1, vint idx), (2, .fn (.func f) [] caps), (12, .optr H2.length 0), (42, .fn (.func f) [] caps)]) H3 := by
            subst hops
            refine zs2 0 2 rfl rfl (go_one (by simp only [jA, jO, jN, seval, y3, y32, vint, ksE_cells, kE_cells, ksE_drop1, kE_drop1, hB3, hK] <;> with_reducible rfl) g3) (go_one (by simp only [jA, jO, jN, seval, y37, vint, ksE_cells, kE_cells, ksE_drop1, kE_drop1, hB3, hK] <;> with_reducible rfl) g6)
          have g1 : GoS Try.prog 72 H0.length opr R' 6 #[true, false, false, false, false, false, false] (mkS [(17, .slice (ops.map kE) .none), (18, vint (ops.length : Int)), (19, vint (i : Int)), (7, .optr H0.length 0), (8, .fn (.func 40) [] [.optr H0.length 0]), (1, vint idx), (2, .fn (.func f) [] caps), (12, .optr H2.length 0), (41, cv)]) H3 := by
            subst hops
            refine zs2 1 2 rfl rfl (go_one (by simp only [jA, jO, jN, seval, vint, ksE_cells, kE_cells, ksE_drop1, kE_drop1, hB3, hK] <;> with_reducible rfl) g3) (go_one (by simp only [jA, jO, jN, seval, y37, vint, ksE_cells, kE_cells, ksE_drop1, kE_drop1, hB3, hK] <;> with_reducible rfl) g5)
          have g0 : GoS Try.prog 72 H0.length opr R' 7 #[false, false, false, false, false, false, false] (mkS [(17, .slice (ops.map kE) .none), (18, vint (ops.length : Int)), (19, vint (i : Int)), (7, .optr H0.length 0), (8, .fn (.func 40) [] [.optr H0.length 0]), (1, vint idx), (2, .fn (.func f) [] caps), (12, .optr H2.length 0)]) H3 := by
            subst hops
            refine zs3 0 1 2 rfl rfl rfl (go_one (by simp only [jA, jO, jN, seval, y3, y32, vint, ksE_cells, kE_cells, ksE_drop1, kE_drop1, hB3, hK] <;> with_reducible rfl) g1) (go_one (by simp only [jA, jO, jN, seval, vint, ksE_cells, kE_cells, ksE_drop1, kE_drop1, hB3, hK] <;> with_reducible rfl) g2) (go_one (by simp only [jA, jO, jN, seval, y37, vint, ksE_cells, kE_cells, ksE_drop1, kE_drop1, hB3, hK] <;> with_reducible rfl) g4)
          subst hops
          exact GoS.weak (T2 := (mkS [(17, .slice (ops.map kE) .none), (18, vint (ops.length : Int)), (19, vint (i : Int)), (7, .optr H0.length 0), (8, .fn (.func 40) [] [.optr H0.length 0]), (1, vint idx), (2, .fn (.func f) [] caps), (12, .optr H2.length 0)])) g0 (mkS_weak (by repeat (first | exact trivial | refine ⟨rfl, ?_⟩)))
        rcases hr with hr | ⟨rfl, F4, hv, j4, f4⟩
        rotate_left
        · rcases hcs with ⟨_, rfl, rfl⟩ | ⟨v, hv2, _⟩
          · exact Or.inr ⟨rfl, rfl, F4, j4, f4⟩
          · rw [hv] at hv2; cases hv2
        obtain ⟨rfl, v, F4, hv, hfit, r5⟩ := hr
        obtain hrun5 : runP step (progQ idx (ops.drop (i + 1)) (ys ++ [hdv v])) s1 = some (o, s') := by
          rcases hcs with ⟨hv2, _⟩ | ⟨v2, hv2, h⟩
          · rw [hv] at hv2; cases hv2
          · rw [hv] at hv2; injection hv2 with hv2; subst hv2; exact h
        refine awp_weak (mkS_weak hfit) ?_
        repeat (refine awp_seq ?_)
        refine awp_exit ?_
        simp only [thenQ, blockQ, reduceIte, Nat.reduceEqDiff, Nat.succ_ne_self, if_true, if_false]
        refine awp_sel [1, 2, 7, 8, 17, 18, 19] (by simp only [jN, seval, vint, ksE_cells, kE_cells, ksE_drop1, kE_drop1, gi, ge, gl, w1, Int.toNat_natCast, kE, t30, h10, q10, hO, hK] <;> with_reducible rfl) ?_
        repeat (refine awp_seq ?_)
        refine e_eval (by simp only [jA, jO, jN, seval, y3, vint, ksE_cells, kE_cells, ksE_drop1, kE_drop1, gi, ge, gl, w1, Int.toNat_natCast, kE, t30, h10, q10, hO, hK] <;> with_reducible rfl) (by decide) ?_
        try simp only [thenQ, blockQ]
        exact ⟨(i + 1, ys ++ [hdv v], s1, F4), by show ops.length - (i + 1) < ops.length - i; omega, ⟨rfl, rfl, by simp only [w1, seval, jN, upd, upd_apply, mkS_cons, mkS_nil, vint] <;> rfl, rfl, rfl, rfl, rfl, trivial⟩, by show i + 1 ≤ ops.length; omega, hq2 _, fun x hx => (List.mem_append.1 hx).elim (hrg2 x) (fun h => by rw [List.mem_singleton.1 h]; exact hdv_rng v), by simp; omega, hrun5, r5⟩
    ·
      have t30 : (decide (a = 4) || decide (a = 5)) = false := by simpa using ha
      simp only [progQ, if_neg ha] at hrun1
      have hid4 : a = 4 → 0 < idx := fun h => (ha (.inl h)).elim
      repeat (refine awp_seq ?_)
      refine e_eval (by simp only [jA, jO, jN, seval, y52, y53, vint, ksE_cells, kE_cells, ksE_drop1, kE_drop1, gi, ge, gl, w1, Int.toNat_natCast, kE, t30] <;> with_reducible rfl) (by decide) ?_
      repeat (refine awp_seq ?_)
      refine e_eval (by simp only [jA, jO, jN, seval, vint, ksE_cells, kE_cells, ksE_drop1, kE_drop1, gi, ge, gl, w1, Int.toNat_natCast, kE, t30] <;> with_reducible rfl) (by decide) ?_
      repeat (refine awp_seq ?_)
      refine g_eval (by simp only [jG, jO, jN, seval, y3, y52, vint, ksE_cells, kE_cells, ksE_drop1, kE_drop1, gi, ge, gl, w1, Int.toNat_natCast, kE, t30] <;> with_reducible rfl) (by decide) (by repeat (first | exact Fin.base _ | with_reducible apply Fin.keep | apply Fin.drop)) ?_
      repeat (refine awp_seq ?_)
      refine awp_cond_false rfl (by simp only [jN, seval, vint, ksE_cells, kE_cells, ksE_drop1, kE_drop1, gi, ge, gl, w1, Int.toNat_natCast, kE, t30] <;> with_reducible rfl) ?_
      repeat (refine awp_seq ?_)
      refine awp_skip ?_
      refine awp_abs (fun H2 => RunS J H0 F0 H0.length s F xs H2 ∧ H2[H1.length]? = some (.row [vint a, vint b, vint c])) ⟨r1.app hI.own _, by simp⟩ ?_
      rintro H2 ⟨r2, h10⟩
      have q10 := getL h10
      rcases Classical.em (a = 2 ∨ a = 3) with h23 | h23
      ·
        have hsome : (opKey (a, b, c) idx 0).isSome = true := by unfold opKey; rcases h23 with rfl | rfl <;> rfl
        have hp1 : (opnd inp idx (a, b, c)).1 = 0 := by rcases h23 with rfl | rfl <;> rfl
        rw [hp1] at hq1
        have hq2 : ∀ v : Int, chkQ inp idx (ops.drop (i + 1)) ((xs ++ [v]).length : Int) = 0 := fun v => by rw [← hq1]; congr 1; simp
        simp only [if_pos hsome] at hrun1
        obtain ⟨⟨k1, k2, k3⟩, hkk⟩ : ∃ k, k = keyD (opKey (a, b, c) idx 0) := ⟨_, rfl⟩
        rw [← hkk] at hrun1
        obtain ⟨o1, s1, hst, hcs⟩ := run_get hrun1
        have hop : PC Try.prog 41 [kE (a, b, c), vint idx, vint 0] (.tup [kE (k1, k2, k3), .bool true]) := by have := operandKey_c (a, b, c) idx 0 hid4; rw [← hkk, hsome] at this; exact this
        repeat (refine awp_seq ?_)
        refine awp_region ?_
        refine e_take 3 (by simp only [jA, jO, jN, seval, y52, vint, ksE_cells, kE_cells, ksE_drop1, kE_drop1, gi, ge, gl, w1, Int.toNat_natCast, kE, t30, h10, q10] <;> with_reducible rfl) (by decide) ?_
        refine aops_pure (by simp only [jC, jN, seval, vint, ksE_cells, kE_cells, ksE_drop1, kE_drop1, gi, ge, gl, w1, Int.toNat_natCast, kE, t30, h10, q10] <;> with_reducible rfl) (by simp only [jC, jN, seval, vint, ksE_cells, kE_cells, ksE_drop1, kE_drop1, gi, ge, gl, w1, Int.toNat_natCast, kE, t30, h10, q10]) (by decide) Trygo41 (hop _) ?_
        refine e_end (by simp only [jA, jO, jN, seval, y37, vint, ksE_cells, kE_cells, ksE_drop1, kE_drop1, gi, ge, gl, w1, Int.toNat_natCast, kE, t30, h10, q10] <;> with_reducible rfl) (by decide) ?_
        refine awp_sel [1, 2, 7, 8, 10, 12, 13, 17, 18, 19] (by simp only [jN, seval, vint, ksE_cells, kE_cells, ksE_drop1, kE_drop1, gi, ge, gl, w1, Int.toNat_natCast, kE, t30, h10, q10] <;> with_reducible rfl) ?_
        refine awp_abs (fun H3 => RunS J H0 F0 H0.length s F xs H3 ∧ H3[H1.length]? = some (.row [vint a, vint b, vint c]) ∧ H3[H2.length]? = some (.row [vint k1, vint k2, vint k3])) ⟨r2.app hI.own _, q10 _, by simp⟩ ?_
        rintro H3 ⟨r3, hO, hK⟩
        obtain ⟨cv, cid, hB3, hk3, hc3⟩ := r3.stk
        ·
          repeat (refine awp_seq ?_)
          refine e_eval (by simp only [jA, jO, jN, seval, vint, ksE_cells, kE_cells, ksE_drop1, kE_drop1, gi, ge, gl, w1, Int.toNat_natCast, kE, t30, h10, q10, hO, hK] <;> with_reducible rfl) (by decide) ?_
          repeat (refine awp_seq ?_)
          refine awp_cond_true rfl (by simp only [jN, seval, vint, ksE_cells, kE_cells, ksE_drop1, kE_drop1, gi, ge, gl, w1, Int.toNat_natCast, kE, t30, h10, q10, hO, hK] <;> with_reducible rfl) ?_
          repeat (refine awp_seq ?_)
          refine awp_gosX (fun e T H => (e = .normal ∧ ∃ v F4, o1 = some v ∧ Fits T [(17, .slice (ops.map kE) .none), (18, vint (ops.length : Int)), (19, vint (i : Int)), (7, .optr H0.length 0), (8, .fn (.func 40) [] [.optr H0.length 0]), (1, vint idx), (2, .fn (.func f) [] caps)] ∧ RunS J H0 F0 H0.length s1 F4 (xs ++ [hdv v]) H) ∨ (e = .panic chC ∧ ∃ F4, o1 = none ∧ J s1 F4 H ∧ FrS F0 F4 H0 H)) (by kernel_rfl) (fun opr R' hops hR => ?_) (fun e T' H5 hr => ?_)
          · have p31 : ∀ (v : QV) (F4 : FPl) (H4 : Heap), o1 = some v → RunS J H0 F0 H0.length s1 F4 xs H4 → H4[H0.length]? = some (.row [cv]) → RwOk vint 1 H4 cv xs cid → (∀ i ∈ cid, H0.length ≤ i ∧ i ≠ H0.length ∧ ¬ F4 i) → GoS Try.prog 72 H0.length opr R' 2 #[true, true, true, true, true, false, false] (mkS [(17, .slice (ops.map kE) .none), (18, vint (ops.length : Int)), (19, vint (i : Int)), (7, .optr H0.length 0), (8, .fn (.func 40) [] [.optr H0.length 0]), (1, vint idx), (2, .fn (.func f) [] caps), (12, .optr H2.length 0), (41, cv), (42, .fn (.func f) [] caps), (43, .agg [vint k1, vint k2, vint k3]), (45, .slice [vint (hdv v)] .full), (44, vint (hdv v))]) H4 := by
              subst hops
              intro v F4 H4 hov r4 hB4 hk4 hc4
              refine zs1 5 rfl ?_
              · refine aops_appRw (enc := vint) (sz := 1) (fun _ => rfl) (fun _ => rfl) (by decide) (xs := xs) (a := hdv v) (cid := cid) (by simp only [jC, jN, seval, vint]) rfl (by decide) (by decide) (by simp only [jC, jN, seval, vint] <;> first | done | rfl) (by simp only [jC, jN, seval, vint] <;> first | done | rfl) hk4 Tryte32 rfl (by show (_ + 1) * 8 ≤ _; omega) (by omega) (by rw [Tryte32]; rfl) Trytz3 rfl ?_
                intro cv5 cid5 H5 hk5 hi5 hl5 hs5
                refine aops_nil ?_
                have hcc : cv5.cells = [cv5] := by rcases hk5.cases2 with ⟨_, rfl, _⟩ | ⟨_, _, _, rfl, _⟩ <;> rfl
                have hcl : cv5.isCell = true := by rcases hk5.cases2 with ⟨_, rfl, _⟩ | ⟨_, _, _, rfl, _⟩ <;> rfl
                have hB5 : H5[H0.length]? = some (.row [cv]) := by rw [hs5 _ r4.lt (fun h => (hc4 _ h).2.1 rfl)]; exact hB4
                have nB5 : (H0.length = H5.length) = False := by have := len_of_get hB5; simp; omega
                have hpush := RunS.push hI.own r4 hc4 hk5 hi5 hl5 hs5
                refine GoS.weak (T2 := mkS [(17, .slice (ops.map kE) .none), (18, vint (ops.length : Int)), (19, vint (i : Int)), (7, .optr H0.length 0), (8, .fn (.func 40) [] [.optr H0.length 0]), (1, vint idx), (2, .fn (.func f) [] caps), (12, .optr H2.length 0), (41, cv), (42, .fn (.func f) [] caps), (43, .agg [vint k1, vint k2, vint k3]), (45, .slice [vint (hdv v)] .full), (44, vint (hdv v)), (46, cv5)]) (listed := #[true, true, true, true, true, true, false]) (f := 1) ?_ (mkS_weak (by repeat (first | exact trivial | refine ⟨rfl, ?_⟩)))
                refine zs1 6 rfl (go_one (m := [(17, .slice (ops.map kE) .none), (18, vint (ops.length : Int)), (19, vint (i : Int)), (7, .optr H0.length 0), (8, .fn (.func 40) [] [.optr H0.length 0]), (1, vint idx), (2, .fn (.func f) [] caps)]) (by simp only [jA, jO, jN, seval, y3, y32, vint, ksE_cells, kE_cells, ksE_drop1, kE_drop1, hB5, nB5, hcc, hcl] <;> with_reducible rfl) (gos_nil ?_))
                rw [hR]
                exact Or.inl ⟨rfl, v, F4, hov, by repeat (first | exact trivial | refine ⟨rfl, ?_⟩), hpush⟩
            have p30 : ∀ (v : QV) (F4 : FPl) (H4 : Heap), o1 = some v → RunS J H0 F0 H0.length s1 F4 xs H4 → H4[H0.length]? = some (.row [cv]) → RwOk vint 1 H4 cv xs cid → (∀ i ∈ cid, H0.length ≤ i ∧ i ≠ H0.length ∧ ¬ F4 i) → GoS Try.prog 72 H0.length opr R' 3 #[false, true, true, true, true, false, false] (mkS [(17, .slice (ops.map kE) .none), (18, vint (ops.length : Int)), (19, vint (i : Int)), (7, .optr H0.length 0), (8, .fn (.func 40) [] [.optr H0.length 0]), (1, vint idx), (2, .fn (.func f) [] caps), (12, .optr H2.length 0), (42, .fn (.func f) [] caps), (43, .agg [vint k1, vint k2, vint k3]), (45, .slice [vint (hdv v)] .full), (44, vint (hdv v))]) H4 := by
              subst hops
              intro v F4 H4 hov r4 hB4 hk4 hc4
              refine zs1 0 rfl (go_one (by simp only [jA, jO, jN, seval, y3, y32, vint, ksE_cells, kE_cells, ksE_drop1, kE_drop1, hB4] <;> with_reducible rfl) (p31 v F4 H4 hov r4 hB4 hk4 hc4))
            have p15 : ∀ (v : QV) (F4 : FPl) (H4 : Heap), o1 = some v → RunS J H0 F0 H0.length s1 F4 xs H4 → H4[H0.length]? = some (.row [cv]) → RwOk vint 1 H4 cv xs cid → (∀ i ∈ cid, H0.length ≤ i ∧ i ≠ H0.length ∧ ¬ F4 i) → GoS Try.prog 72 H0.length opr R' 3 #[true, true, true, true, false, false, false] (mkS [(17, .slice (ops.map kE) .none), (18, vint (ops.length : Int)), (19, vint (i : Int)), (7, .optr H0.length 0), (8, .fn (.func 40) [] [.optr H0.length 0]), (1, vint idx), (2, .fn (.func f) [] caps), (12, .optr H2.length 0), (41, cv), (42, .fn (.func f) [] caps), (43, .agg [vint k1, vint k2, vint k3]), (44, vint (hdv v))]) H4 := by
              subst hops
              intro v F4 H4 hov r4 hB4 hk4 hc4
              refine zs1 4 rfl (go_one (by simp only [jA, jO, jN, seval, y3, y32, vint, ksE_cells, kE_cells, ksE_drop1, kE_drop1, hB4] <;> with_reducible rfl) (p31 v F4 H4 hov r4 hB4 hk4 hc4))
            have p14 : ∀ (v : QV) (F4 : FPl) (H4 : Heap), o1 = some v → RunS J H0 F0 H0.length s1 F4 xs H4 → H4[H0.length]? = some (.row [cv]) → RwOk vint 1 H4 cv xs cid → (∀ i ∈ cid, H0.length ≤ i ∧ i ≠ H0.length ∧ ¬ F4 i) → GoS Try.prog 72 H0.length opr R' 4 #[false, true, true, true, false, false, false] (mkS [(17, .slice (ops.map kE) .none), (18, vint (ops.length : Int)), (19, vint (i : Int)), (7, .optr H0.length 0), (8, .fn (.func 40) [] [.optr H0.length 0]), (1, vint idx), (2, .fn (.func f) [] caps), (12, .optr H2.length 0), (42, .fn (.func f) [] caps), (43, .agg [vint k1, vint k2, vint k3]), (44, vint (hdv v))]) H4 := by
              subst hops
              intro v F4 H4 hov r4 hB4 hk4 hc4
              refine zs2 0 4 rfl rfl (go_one (by simp only [jA, jO, jN, seval, y3, y32, vint, ksE_cells, kE_cells, ksE_drop1, kE_drop1, hB4] <;> with_reducible rfl) (p15 v F4 H4 hov r4 hB4 hk4 hc4)) (go_one (by simp only [jA, jO, jN, seval, y3, y32, vint, ksE_cells, kE_cells, ksE_drop1, kE_drop1, hB4] <;> with_reducible rfl) (p30 v F4 H4 hov r4 hB4 hk4 hc4))
            have g7 : GoS Try.prog 72 H0.length opr R' 4 #[true, true, true, false, false, false, false] (mkS [(17, .slice (ops.map kE) .none), (18, vint (ops.length : Int)), (19, vint (i : Int)), (7, .optr H0.length 0), (8, .fn (.func 40) [] [.optr H0.length 0]), (1, vint idx), (2, .fn (.func f) [] caps), (12, .optr H2.length 0), (41, cv), (42, .fn (.func f) [] caps), (43, .agg [vint k1, vint k2, vint k3])]) H3 := by
              subst hops
              refine zs1 3 rfl ?_
              · refine aops_xc (by simp only [jC, jN, seval, vint] <;> rfl) (by simp only [jC, jN, seval, vint]) (by decide) hI.go (hI.call (k1, k2, k3) s F H3 o1 s1 hst r3.j) ?_ ?_
                · rintro r H4 ⟨ho, F4, j4, f4⟩
                  obtain ⟨v, hv⟩ : ∃ v, o1 = some v := by
                    cases o1 with
                    | none => cases ho
                    | some v => exact ⟨v, rfl⟩
                  rw [hv] at ho
                  injection ho with ho
                  subst ho
                  refine aops_nil ?_
                  have hp := p15 v F4 H4 hv (r3.got j4 f4) (f4.get hB3 r3.b.2).1 (hk3.fr fun i hi => f4.same i (hk3.lt i hi) (hc3 i hi).2.2) (fun i hi => ⟨(hc3 i hi).1, (hc3 i hi).2.1, fun h' => (hc3 i hi).2.2 (f4.ids i h' (hk3.lt i hi))⟩)
                  exact hp.weak (mkS_weak (by try simp only [List.cons_append, List.nil_append]
                                              repeat (first | exact trivial | refine ⟨rfl, ?_⟩)))
                · rintro H4 ⟨ho, F4, j4, f4⟩
                  have hv : o1 = none := by
                    cases o1 with
                    | none => rfl
                    | some v => cases ho
                  show R' (.panic chC) _ H4
                  rw [hR]
                  exact Or.inr ⟨rfl, F4, hv, j4, r3.fr.trans f4⟩
            have g6 : GoS Try.prog 72 H0.length opr R' 5 #[false, true, true, false, false, false, false] (mkS [(17, .slice (ops.map kE) .none), (18, vint (ops.length : Int)), (19, vint (i : Int)), (7, .optr H0.length 0), (8, .fn (.func 40) [] [.optr H0.length 0]), (1, vint idx), (2, .fn (.func f) [] caps), (12, .optr H2.length 0), (42, .fn (.func f) [] caps), (43, .agg [vint k1, vint k2, vint k3])]) H3 := by
              subst hops
              refine zs2 0 3 rfl rfl (go_one (by simp only [jA, jO, jN, seval, y3, y32, vint, ksE_cells, kE_cells, ksE_drop1, kE_drop1, hB3, hK] <;> with_reducible rfl) g7) ?_
              · refine aops_xc (by simp only [jC, jN, seval, vint] <;> rfl) (by simp only [jC, jN, seval, vint]) (by decide) hI.go (hI.call (k1, k2, k3) s F H3 o1 s1 hst r3.j) ?_ ?_
                · rintro r H4 ⟨ho, F4, j4, f4⟩
                  obtain ⟨v, hv⟩ : ∃ v, o1 = some v := by
                    cases o1 with
                    | none => cases ho
                    | some v => exact ⟨v, rfl⟩
                  rw [hv] at ho
                  injection ho with ho
                  subst ho
                  refine aops_nil ?_
                  have hp := p14 v F4 H4 hv (r3.got j4 f4) (f4.get hB3 r3.b.2).1 (hk3.fr fun i hi => f4.same i (hk3.lt i hi) (hc3 i hi).2.2) (fun i hi => ⟨(hc3 i hi).1, (hc3 i hi).2.1, fun h' => (hc3 i hi).2.2 (f4.ids i h' (hk3.lt i hi))⟩)
                  exact hp.weak (mkS_weak (by try simp only [List.cons_append, List.nil_append]
                                              repeat (first | exact trivial | refine ⟨rfl, ?_⟩)))
                · rintro H4 ⟨ho, F4, j4, f4⟩
                  have hv : o1 = none := by
                    cases o1 with
                    | none => rfl
                    | some v => cases ho
                  show R' (.panic chC) _ H4
                  rw [hR]
                  exact Or.inr ⟨rfl, F4, hv, j4, r3.fr.trans f4⟩
            have g5 : GoS Try.prog 72 H0.length opr R' 5 #[true, false, true, false, false, false, false] (mkS [(17, .slice (ops.map kE) .none), (18, vint (ops.length : Int)), (19, vint (i : Int)), (7, .optr H0.length 0), (8, .fn (.func 40) [] [.optr H0.length 0]), (1, vint idx), (2, .fn (.func f) [] caps), (12, .optr H2.length 0), (41, cv), (43, .agg [vint k1, vint k2, vint k3])]) H3 := by
              subst hops
              refine zs1 1 rfl (go_one (by simp only [jA, jO, jN, seval, vint, ksE_cells, kE_cells, ksE_drop1, kE_drop1, hB3, hK] <;> with_reducible rfl) g7)
            have g3 : GoS Try.prog 72 H0.length opr R' 5 #[true, true, false, false, false, false, false] (mkS [(17, .slice (ops.map kE) .none), (18, vint (ops.length : Int)), (19, vint (i : Int)), (7, .optr H0.length 0), (8, .fn (.func 40) [] [.optr H0.length 0]), (1, vint idx), (2, .fn (.func f) [] caps), (12, .optr H2.length 0), (41, cv), (42, .fn (.func f) [] caps)]) H3 := by
              subst hops
              refine zs1 2 rfl (go_one (by simp only [jA, jO, jN, seval, y37, vint, ksE_cells, kE_cells, ksE_drop1, kE_drop1, hB3, hK] <;> with_reducible rfl) g7)
            have g4 : GoS Try.prog 72 H0.length opr R' 6 #[false, false, true, false, false, false, false] (mkS [(17, .slice (ops.map kE) .none), (18, vint (ops.length : Int)), (19, vint (i : Int)), (7, .optr H0.length 0), (8, .fn (.func 40) [] [.optr H0.length 0]), (1, vint idx), (2, .fn (.func f) [] caps), (12, .optr H2.length 0), (43, .agg [vint k1, vint k2, vint k3])]) H3 := by
              subst hops
              refine zs2 0 1 rfl rfl (go_one (by simp only [jA, jO, jN, seval, y3, y32, vint, ksE_cells, kE_cells, ksE_drop1, kE_drop1, hB3, hK] <;> with_reducible rfl) g5) (go_one (by simp only [jA, jO, jN, seval, vint, ksE_cells, kE_cells, ksE_drop1, kE_drop1, hB3, hK] <;> with_reducible rfl) g6)
            have g2 : GoS Try.prog 72 H0.length opr R' 6 #[false, true, false, false, false, false, false] (mkS [(17, .slice (ops.map kE) .none), (18, vint (ops.length : Int)), (19, vint (i : Int)), (7, .optr H0.length 0), (8, .fn (.func 40) [] [.optr H0.length 0]), (1, vint idx), (2, .fn (.func f) [] caps), (12, .optr H2.length 0), (42, .fn (.func f) [] caps)]) H3 := by
              subst hops
              refine zs2 0 2 rfl rfl (go_one (by simp only [jA, jO, jN, seval, y3, y32, vint, ksE_cells, kE_cells, ksE_drop1, kE_drop1, hB3, hK] <;> with_reducible rfl) g3) (go_one (by simp only [jA, jO, jN, seval, y37, vint, ksE_cells, kE_cells, ksE_drop1, kE_drop1, hB3, hK] <;> with_reducible rfl) g6)
            have g1 : GoS Try.prog 72 H0.length opr R' 6 #[true, false, false, false, false, false, false] (mkS [(17, .slice (ops.map kE) .none), (18, vint (ops.length : Int)), (19, vint (i : Int)), (7, .optr H0.length 0), (8, .fn (.func 40) [] [.optr H0.length 0]), (1, vint idx), (2, .fn (.func f) [] caps), (12, .optr H2.length 0), (41, cv)]) H3 := by
              subst hops
              refine zs2 1 2 rfl rfl (go_one (by simp only [jA, jO, jN, seval, vint, ksE_cells, kE_cells, ksE_drop1, kE_drop1, hB3, hK] <;> with_reducible rfl) g3) (go_one (by simp only [jA, jO, jN, seval, y37, vint, ksE_cells, kE_cells, ksE_drop1, kE_drop1, hB3, hK] <;> with_reducible rfl) g5)
            have g0 : GoS Try.prog 72 H0.length opr R' 7 #[false, false, false, false, false, false, false] (mkS [(17, .slice (ops.map kE) .none), (18, vint (ops.length : Int)), (19, vint (i : Int)), (7, .optr H0.length 0), (8, .fn (.func 40) [] [.optr H0.length 0]), (1, vint idx), (2, .fn (.func f) [] caps), (12, .optr H2.length 0)]) H3 := by
              subst hops
              refine zs3 0 1 2 rfl rfl rfl (go_one (by simp only [jA, jO, jN, seval, y3, y32, vint, ksE_cells, kE_cells, ksE_drop1, kE_drop1, hB3, hK] <;> with_reducible rfl) g1) (go_one (by simp only [jA, jO, jN, seval, vint, ksE_cells, kE_cells, ksE_drop1, kE_drop1, hB3, hK] <;> with_reducible rfl) g2) (go_one (by simp only [jA, jO, jN, seval, y37, vint, ksE_cells, kE_cells, ksE_drop1, kE_drop1, hB3, hK] <;> with_reducible rfl) g4)
            subst hops
            exact GoS.weak (T2 := (mkS [(17, .slice (ops.map kE) .none), (18, vint (ops.length : Int)), (19, vint (i : Int)), (7, .optr H0.length 0), (8, .fn (.func 40) [] [.optr H0.length 0]), (1, vint idx), (2, .fn (.func f) [] caps), (12, .optr H2.length 0)])) g0 (mkS_weak (by repeat (first | exact trivial | refine ⟨rfl, ?_⟩)))
          rcases hr with hr | ⟨rfl, F4, hv, j4, f4⟩
          rotate_left
          · rcases hcs with ⟨_, rfl, rfl⟩ | ⟨v, hv2, _⟩
            · exact Or.inr ⟨rfl, rfl, F4, j4, f4⟩
            · rw [hv] at hv2; cases hv2
          obtain ⟨rfl, v, F4, hv, hfit, r5⟩ := hr
          obtain hrun5 : runP step (progQ idx (ops.drop (i + 1)) (xs ++ [hdv v])) s1 = some (o, s') := by
            rcases hcs with ⟨hv2, _⟩ | ⟨v2, hv2, h⟩
            · rw [hv] at hv2; cases hv2
            · rw [hv] at hv2; injection hv2 with hv2; subst hv2; exact h
          refine awp_weak (mkS_weak hfit) ?_
          repeat (refine awp_seq ?_)
          refine awp_exit ?_
          simp only [thenQ, blockQ, reduceIte, Nat.reduceEqDiff, Nat.succ_ne_self, if_true, if_false]
          repeat (refine awp_seq ?_)
          refine e_eval (by simp only [jA, jO, jN, seval, y3, vint, ksE_cells, kE_cells, ksE_drop1, kE_drop1, gi, ge, gl, w1, Int.toNat_natCast, kE, t30, h10, q10, hO, hK] <;> with_reducible rfl) (by decide) ?_
          try simp only [thenQ, blockQ]
          exact ⟨(i + 1, xs ++ [hdv v], s1, F4), by show ops.length - (i + 1) < ops.length - i; omega, ⟨rfl, rfl, by simp only [w1, seval, jN, upd, upd_apply, mkS_cons, mkS_nil, vint] <;> rfl, rfl, rfl, rfl, rfl, trivial⟩, by show i + 1 ≤ ops.length; omega, hq2 _, fun x hx => (List.mem_append.1 hx).elim (hrg x) (fun h => by rw [List.mem_singleton.1 h]; exact hdv_rng v), by simp; omega, hrun5, r5⟩
      ·
        have hnone : opKey (a, b, c) idx 0 = none := by
          unfold opKey
          rw [if_neg (fun h => h23 (.inl h)), if_neg (fun h => h23 (.inr h)), if_neg (fun h => ha (.inl h)), if_neg (fun h => ha (.inr h.1)), if_neg (fun h => ha (.inr h))]
        rw [hnone] at hrun1
        simp only [Option.isSome_none, Bool.false_eq_true, if_false] at hrun1
        obtain ⟨⟨k1, k2, k3⟩, hkk⟩ : ∃ k, k = keyD (opKey (a, b, c) idx 0) := ⟨_, rfl⟩
        have hop : PC Try.prog 41 [kE (a, b, c), vint idx, vint 0] (.tup [kE (k1, k2, k3), .bool false]) := by have := operandKey_c (a, b, c) idx 0 hid4; rw [← hkk, hnone] at this; exact this
        repeat (refine awp_seq ?_)
        refine awp_region ?_
        refine e_take 3 (by simp only [jA, jO, jN, seval, y52, vint, ksE_cells, kE_cells, ksE_drop1, kE_drop1, gi, ge, gl, w1, Int.toNat_natCast, kE, t30, h10, q10] <;> with_reducible rfl) (by decide) ?_
        refine aops_pure (by simp only [jC, jN, seval, vint, ksE_cells, kE_cells, ksE_drop1, kE_drop1, gi, ge, gl, w1, Int.toNat_natCast, kE, t30, h10, q10] <;> with_reducible rfl) (by simp only [jC, jN, seval, vint, ksE_cells, kE_cells, ksE_drop1, kE_drop1, gi, ge, gl, w1, Int.toNat_natCast, kE, t30, h10, q10]) (by decide) Trygo41 (hop _) ?_
        refine e_end (by simp only [jA, jO, jN, seval, y37, vint, ksE_cells, kE_cells, ksE_drop1, kE_drop1, gi, ge, gl, w1, Int.toNat_natCast, kE, t30, h10, q10] <;> with_reducible rfl) (by decide) ?_
        refine awp_sel [1, 2, 7, 8, 10, 12, 13, 17, 18, 19] (by simp only [jN, seval, vint, ksE_cells, kE_cells, ksE_drop1, kE_drop1, gi, ge, gl, w1, Int.toNat_natCast, kE, t30, h10, q10] <;> with_reducible rfl) ?_
        refine awp_abs (fun H3 => RunS J H0 F0 H0.length s F xs H3 ∧ H3[H1.length]? = some (.row [vint a, vint b, vint c]) ∧ H3[H2.length]? = some (.row [vint k1, vint k2, vint k3])) ⟨r2.app hI.own _, q10 _, by simp⟩ ?_
        rintro H3 ⟨r3, hO, hK⟩
        obtain ⟨cv, cid, hB3, hk3, hc3⟩ := r3.stk
        rcases Classical.em (a = 1) with h1 | h1
        ·
          have t49 : decide (a = 1) = true := decide_eq_true h1
          have hp1 : (opnd inp idx (a, b, c)).1 = 0 := by rw [h1]; rfl
          rw [hp1] at hq1
          have hq2 : ∀ v : Int, chkQ inp idx (ops.drop (i + 1)) ((xs ++ [v]).length : Int) = 0 := fun v => by rw [← hq1]; congr 1; simp
          rw [if_pos h1] at hrun1
          repeat (refine awp_seq ?_)
          refine e_eval (by simp only [jA, jO, jN, seval, vint, ksE_cells, kE_cells, ksE_drop1, kE_drop1, gi, ge, gl, w1, Int.toNat_natCast, kE, t30, h10, q10, hO, hK, t49] <;> with_reducible rfl) (by decide) ?_
          repeat (refine awp_seq ?_)
          refine awp_cond_false rfl (by simp only [jN, seval, vint, ksE_cells, kE_cells, ksE_drop1, kE_drop1, gi, ge, gl, w1, Int.toNat_natCast, kE, t30, h10, q10, hO, hK, t49] <;> with_reducible rfl) ?_
          repeat (refine awp_seq ?_)
          refine awp_skip ?_
          repeat (refine awp_seq ?_)
          refine e_eval (by simp only [jA, jO, jN, seval, y3, y52, vint, ksE_cells, kE_cells, ksE_drop1, kE_drop1, gi, ge, gl, w1, Int.toNat_natCast, kE, t30, h10, q10, hO, hK, t49] <;> with_reducible rfl) (by decide) ?_
          repeat (refine awp_seq ?_)
          refine awp_cond_true rfl (by simp only [jN, seval, vint, ksE_cells, kE_cells, ksE_drop1, kE_drop1, gi, ge, gl, w1, Int.toNat_natCast, kE, t30, h10, q10, hO, hK, t49] <;> with_reducible rfl) ?_
          obtain ⟨cvx, hBX⟩ : ∃ cv, H3[H0.length]? = some (.row [cv]) := ⟨_, hB3⟩
          repeat (refine awp_seq ?_)
          refine awp_drawB 0 (by kernel_rfl) ?_
          simp only [List.replicate_zero, List.append_nil]
          refine seg_pure 5 (bm := [0, 0, 2, 6, 14, 31, 63]) (by kernel_rfl) (by decide) (by kernel_rfl) (by kernel_rfl) ?_
          refine dp_take 3 (by simp only [jP, jO, jN, seval, y3, y32, y52, vint, ksE_cells, kE_cells, ksE_drop1, kE_drop1, hBX, hO] <;> with_reducible rfl) (by decide) ?_
          refine dp_keep (by simp only [jE, jN, seval, vint, ksE_cells, kE_cells, ksE_drop1, kE_drop1] <;> with_reducible rfl) (by simp only [jE, jN, seval, vint, ksE_cells, kE_cells, ksE_drop1, kE_drop1] <;> with_reducible rfl) (by simp only [jE, jN, seval, vint, ksE_cells, kE_cells, ksE_drop1, kE_drop1]) (by decide) Trygo27 (fun hc => reduce_c b _) ?_
          refine dp_end (by simp only [jP, jO, jN, seval, y3, y32, vint, ksE_cells, kE_cells, ksE_drop1, kE_drop1, hBX, hO] <;> with_reducible rfl) (by decide) (by repeat (first | exact Fin.base _ | with_reducible apply Fin.keep | apply Fin.drop)) ?_
          refine seg_op (k := 5) (bm := [0, 0, 2, 6, 14, 31, 63]) (by kernel_rfl) rfl (by kernel_rfl) (by kernel_rfl) ?_
          obtain ⟨cv, cid, hBx, hkx, hcx⟩ := r3.stk
          obtain rfl : cv = cvx := by rw [hBx] at hBX; injection hBX with hBX; injection hBX with hBX; injection hBX
          refine aops_appRw (enc := vint) (sz := 1) (fun _ => rfl) (fun _ => rfl) (by decide) (xs := xs) (a := redu b) (cid := cid) (by simp only [jC, jN, seval, vint]) rfl (by decide) (by decide) (by simp only [jC, jN, seval, vint] <;> first | done | rfl) (by simp only [jC, jN, seval, vint] <;> first | done | rfl) hkx Tryte32 rfl (by show (_ + 1) * 8 ≤ _; omega) (by omega) (by rw [Tryte32]; rfl) Trytz3 rfl ?_
          intro cv5 cid5 H5 hk5 hi5 hl5 hs5
          refine aops_nil ?_
          show GoAt _ _ _ _ _ _ _ _
          have hcc : cv5.cells = [cv5] := by rcases hk5.cases2 with ⟨_, rfl, _⟩ | ⟨_, _, _, rfl, _⟩ <;> rfl
          have hcl : cv5.isCell = true := by rcases hk5.cases2 with ⟨_, rfl, _⟩ | ⟨_, _, _, rfl, _⟩ <;> rfl
          have hB5 : H5[H0.length]? = some (.row [cv]) := by rw [hs5 _ r3.lt (fun h => (hcx _ h).2.1 rfl)]; exact hBx
          have nB5 : (H0.length = H5.length) = False := by have := len_of_get hB5; simp; omega
          have hpush := RunS.push hI.own r3 hcx hk5 hi5 hl5 hs5
          refine seg_op (k := 6) (bm := [0, 0, 2, 6, 14, 31, 63]) (by kernel_rfl) rfl (by kernel_rfl) (by kernel_rfl) ?_
          refine e_end (by simp only [jA, jO, jN, seval, y3, y32, vint, ksE_cells, kE_cells, ksE_drop1, kE_drop1, hB5, nB5, hcc, hcl] <;> with_reducible rfl) (by decide) ?_
          show GoAt _ _ _ _ _ _ _ _
          refine goat_end ?_
          refine awp_abs (fun H6 => RunS J H0 F0 H0.length s F (xs ++ [redu b]) H6) hpush ?_
          rintro H6 r6
          repeat (refine awp_seq ?_)
          refine awp_exit ?_
          simp only [thenQ, blockQ, reduceIte, Nat.reduceEqDiff, Nat.succ_ne_self, if_true, if_false]
          repeat (refine awp_seq ?_)
          refine e_eval (by simp only [jA, jO, jN, seval, y3, vint, ksE_cells, kE_cells, ksE_drop1, kE_drop1, gi, ge, gl, w1, Int.toNat_natCast, kE, t30, h10, q10, hO, hK, t49] <;> with_reducible rfl) (by decide) ?_
          try simp only [thenQ, blockQ]
          exact ⟨(i + 1, xs ++ [redu b], s, F), by show ops.length - (i + 1) < ops.length - i; omega, ⟨rfl, rfl, by simp only [w1, seval, jN, upd, upd_apply, mkS_cons, mkS_nil, vint] <;> rfl, rfl, rfl, rfl, rfl, trivial⟩, by show i + 1 ≤ ops.length; omega, hq2 _, fun x hx => (List.mem_append.1 hx).elim (hrg x) (fun h => by rw [List.mem_singleton.1 h]; exact redu_rng b), by simp; omega, hrun1, r6⟩
        ·
          have t49 : decide (a = 1) = false := decide_eq_false h1
          have hp1 : (opnd inp idx (a, b, c)).1 = 2 := by
            unfold opnd
            rw [if_neg h1, if_neg (fun h => h23 (.inl h)), if_neg (fun h => h23 (.inr h)), if_neg (fun h => ha (.inl h)), if_neg (fun h => ha (.inr h))]
          rw [hp1] at hq1 hpop
          obtain ⟨zs, y, rfl⟩ := snoc_of xs (by intro h; rw [h] at hpop; simp at hpop)
          obtain ⟨ys, x, rfl⟩ := snoc_of zs (by intro h; rw [h] at hpop; simp at hpop)
          have hyl : ys.length + 2 ≤ i := by simp at hxl; omega
          have hq2 : ∀ v : Int, chkQ inp idx (ops.drop (i + 1)) ((ys ++ [v]).length : Int) = 0 := fun v => by rw [← hq1]; congr 1; simp <;> omega
          have hrg2 : ∀ x ∈ ys, 0 ≤ x ∧ x < 1000003 := fun x hx => hrg x (by simp [hx])
          have hx := hrg x (by simp)
          have hy := hrg y (by simp)
          rw [if_neg h1, List.dropLast_concat, List.getLastD_concat, List.dropLast_concat, List.getLastD_concat] at hrun1
          repeat (refine awp_seq ?_)
          refine e_eval (by simp only [jA, jO, jN, seval, vint, ksE_cells, kE_cells, ksE_drop1, kE_drop1, gi, ge, gl, w1, Int.toNat_natCast, kE, t30, h10, q10, hO, hK, t49] <;> with_reducible rfl) (by decide) ?_
          repeat (refine awp_seq ?_)
          refine awp_cond_false rfl (by simp only [jN, seval, vint, ksE_cells, kE_cells, ksE_drop1, kE_drop1, gi, ge, gl, w1, Int.toNat_natCast, kE, t30, h10, q10, hO, hK, t49] <;> with_reducible rfl) ?_
          repeat (refine awp_seq ?_)
          refine awp_skip ?_
          repeat (refine awp_seq ?_)
          refine e_eval (by simp only [jA, jO, jN, seval, y3, y52, vint, ksE_cells, kE_cells, ksE_drop1, kE_drop1, gi, ge, gl, w1, Int.toNat_natCast, kE, t30, h10, q10, hO, hK, t49] <;> with_reducible rfl) (by decide) ?_
          repeat (refine awp_seq ?_)
          refine awp_cond_false rfl (by simp only [jN, seval, vint, ksE_cells, kE_cells, ksE_drop1, kE_drop1, gi, ge, gl, w1, Int.toNat_natCast, kE, t30, h10, q10, hO, hK, t49] <;> with_reducible rfl) ?_
          repeat (refine awp_seq ?_)
          refine awp_skip ?_
          repeat (refine awp_seq ?_)
          refine awp_region ?_
          refine e_take 1 (by simp only [jA, jO, jN, seval, vint, ksE_cells, kE_cells, ksE_drop1, kE_drop1, gi, ge, gl, w1, Int.toNat_natCast, kE, t30, h10, q10, hO, hK, t49] <;> with_reducible rfl) (by decide) ?_
          refine aops_acall (by simp only [jC, jN, seval, vint] <;> with_reducible rfl) (by simp only [jC, jN, seval, vint]) (by decide) Trygo40 (pop_c (v := y) hI.own r3 (by simp at hxl ⊢; omega)) ?_
          rintro _ H4 ⟨rfl, r4, hlH4, hsH4⟩
          have hO4 : H4[H1.length]? = some (.row [vint a, vint b, vint c]) := by rw [hsH4 _ (by have := r1.lt; omega)]; exact hO
          refine e_end (by simp only [jA, jO, jN, seval, vint, ksE_cells, kE_cells, ksE_drop1, kE_drop1, gi, ge, gl, w1, Int.toNat_natCast, kE, t30, h10, q10, hO, hK, t49] <;> with_reducible rfl) (by decide) ?_
          repeat (refine awp_seq ?_)
          refine awp_region ?_
          refine e_take 1 (by simp only [jA, jO, jN, seval, vint, ksE_cells, kE_cells, ksE_drop1, kE_drop1, gi, ge, gl, w1, Int.toNat_natCast, kE, t30, h10, q10, hO, hK, t49, hO4] <;> with_reducible rfl) (by decide) ?_
          refine aops_acall (by simp only [jC, jN, seval, vint] <;> with_reducible rfl) (by simp only [jC, jN, seval, vint]) (by decide) Trygo40 (pop_c (v := x) hI.own r4 (by simp at hxl ⊢; omega)) ?_
          rintro _ H7 ⟨rfl, r7, hlH7, hsH7⟩
          have hO7 : H7[H1.length]? = some (.row [vint a, vint b, vint c]) := by rw [hsH7 _ (by have := r1.lt; omega)]; exact hO4
          obtain ⟨cvx, cidx, hBX, _⟩ := r7.stk
          refine e_end (by simp only [jA, jO, jN, seval, vint, ksE_cells, kE_cells, ksE_drop1, kE_drop1, gi, ge, gl, w1, Int.toNat_natCast, kE, t30, h10, q10, hO, hK, t49, hO4] <;> with_reducible rfl) (by decide) ?_
          repeat (refine awp_seq ?_)
          refine awp_drawB 0 (by kernel_rfl) ?_
          simp only [List.replicate_zero, List.append_nil]
          refine seg_pure 7 (bm := [0, 0, 2, 0, 0, 30, 62, 127, 255]) (by kernel_rfl) (by decide) (by kernel_rfl) (by kernel_rfl) ?_
          refine dp_take 5 (by simp only [jP, jO, jN, seval, y3, y32, y52, vint, ksE_cells, kE_cells, ksE_drop1, kE_drop1, hBX, hO7] <;> with_reducible rfl) (by decide) ?_
          refine dp_keep (by simp only [jE, jN, seval, vint, ksE_cells, kE_cells, ksE_drop1, kE_drop1] <;> with_reducible rfl) (by simp only [jE, jN, seval, vint, ksE_cells, kE_cells, ksE_drop1, kE_drop1] <;> with_reducible rfl) (by simp only [jE, jN, seval, vint, ksE_cells, kE_cells, ksE_drop1, kE_drop1]) (by decide) Trygo42 (fun hc => binary_c a x y hx hy _) ?_
          refine dp_end (by simp only [jP, jO, jN, seval, y3, y32, vint, ksE_cells, kE_cells, ksE_drop1, kE_drop1, hBX, hO7] <;> with_reducible rfl) (by decide) (by repeat (first | exact Fin.base _ | with_reducible apply Fin.keep | apply Fin.drop)) ?_
          refine seg_op (k := 7) (bm := [0, 0, 2, 0, 0, 30, 62, 127, 255]) (by kernel_rfl) rfl (by kernel_rfl) (by kernel_rfl) ?_
          obtain ⟨cv, cid, hBx, hkx, hcx⟩ := r7.stk
          obtain rfl : cv = cvx := by rw [hBx] at hBX; injection hBX with hBX; injection hBX with hBX; injection hBX
          refine aops_appRw (enc := vint) (sz := 1) (fun _ => rfl) (fun _ => rfl) (by decide) (xs := ys) (a := binQ a x y) (cid := cid) (by simp only [jC, jN, seval, vint]) rfl (by decide) (by decide) (by simp only [jC, jN, seval, vint] <;> first | done | rfl) (by simp only [jC, jN, seval, vint] <;> first | done | rfl) hkx Tryte32 rfl (by show (_ + 1) * 8 ≤ _; omega) (by omega) (by rw [Tryte32]; rfl) Trytz3 rfl ?_
          intro cv5 cid5 H5 hk5 hi5 hl5 hs5
          refine aops_nil ?_
          show GoAt _ _ _ _ _ _ _ _
          have hcc : cv5.cells = [cv5] := by rcases hk5.cases2 with ⟨_, rfl, _⟩ | ⟨_, _, _, rfl, _⟩ <;> rfl
          have hcl : cv5.isCell = true := by rcases hk5.cases2 with ⟨_, rfl, _⟩ | ⟨_, _, _, rfl, _⟩ <;> rfl
          have hB5 : H5[H0.length]? = some (.row [cv]) := by rw [hs5 _ r7.lt (fun h => (hcx _ h).2.1 rfl)]; exact hBx
          have nB5 : (H0.length = H5.length) = False := by have := len_of_get hB5; simp; omega
          have hpush := RunS.push hI.own r7 hcx hk5 hi5 hl5 hs5
          refine seg_op (k := 8) (bm := [0, 0, 2, 0, 0, 30, 62, 127, 255]) (by kernel_rfl) rfl (by kernel_rfl) (by kernel_rfl) ?_
          refine e_end (by simp only [jA, jO, jN, seval, y3, y32, vint, ksE_cells, kE_cells, ksE_drop1, kE_drop1, hB5, nB5, hcc, hcl] <;> with_reducible rfl) (by decide) ?_
          show GoAt _ _ _ _ _ _ _ _
          refine goat_end ?_
          refine awp_abs (fun H6 => RunS J H0 F0 H0.length s F (ys ++ [binQ a x y]) H6) hpush ?_
          rintro H6 r6
          refine awp_sel [1, 2, 7, 8, 17, 18, 19] (by simp only [jN, seval, vint, ksE_cells, kE_cells, ksE_drop1, kE_drop1, gi, ge, gl, w1, Int.toNat_natCast, kE, t30, h10, q10, hO, hK, t49, hO4, hO7] <;> with_reducible rfl) ?_
          repeat (refine awp_seq ?_)
          refine e_eval (by simp only [jA, jO, jN, seval, y3, vint, ksE_cells, kE_cells, ksE_drop1, kE_drop1, gi, ge, gl, w1, Int.toNat_natCast, kE, t30, h10, q10, hO, hK, t49, hO4, hO7] <;> with_reducible rfl) (by decide) ?_
          try simp only [thenQ, blockQ]
          exact ⟨(i + 1, ys ++ [binQ a x y], s, F), by show ops.length - (i + 1) < ops.length - i; omega, ⟨rfl, rfl, by simp only [w1, seval, jN, upd, upd_apply, mkS_cons, mkS_nil, vint] <;> rfl, rfl, rfl, rfl, rfl, trivial⟩, by show i + 1 ≤ ops.length; omega, hq2 _, fun x hx => (List.mem_append.1 hx).elim (hrg2 x) (fun h => by rw [List.mem_singleton.1 h]; exact binQ_rng ‹_› ‹_›), by simp; omega, hrun1, r6⟩
  ·
    have gl : decide ((i : Int) < (ops.length : Int)) = false := decide_eq_false (by omega)
    have hil : i = ops.length := by omega
    subst hil
    rw [List.drop_length] at hq1 hrun1
    simp only [chkQ] at hq1
    have hx1 : (xs.length : Int) = 1 := by
      split at hq1
      · assumption
      · cases hq1
    obtain ⟨x, rfl⟩ : ∃ x, xs = [x] := List.length_eq_one_iff.1 (by omega)
    simp only [progQ, runP, List.headD_cons, Option.some.injEq, Prod.mk.injEq] at hrun1
    obtain ⟨rfl, rfl⟩ := hrun1
    obtain ⟨cv, cid, hB1, hk1, hc1⟩ := r1.stk
    obtain ⟨ic, c0, rest, rfl, rfl, hic, hcc, _⟩ := rw_pop (xs := []) hk1
    have hic2 : H1[ic]? = some (.row (PV.int .i64 x :: rest)) := hic
    repeat (refine awp_seq ?_)
    refine e_eval (by simp only [jA, jO, jN, seval, y3, vint, ksE_cells, kE_cells, ksE_drop1, kE_drop1, gl, hB1, hic2] <;> with_reducible rfl) (by decide) ?_
    repeat (refine awp_seq ?_)
    refine awp_cond_false rfl (by simp only [jN, seval, vint, ksE_cells, kE_cells, ksE_drop1, kE_drop1, gl, hB1, hic2] <;> with_reducible rfl) ?_
    repeat (refine awp_seq ?_)
    refine awp_exit ?_
    simp only [thenQ, blockQ, reduceIte, Nat.reduceEqDiff, Nat.succ_ne_self, if_true, if_false]
    repeat (refine awp_seq ?_)
    refine e_eval (by simp only [jA, jO, jN, seval, y3, y32, vint, ksE_cells, kE_cells, ksE_drop1, kE_drop1, gl, hB1, hic2] <;> with_reducible rfl) (by decide) ?_
    repeat (refine awp_seq ?_)
    refine awp_ret (Or.inl ⟨.inr rfl, _, rfl, ?_⟩)
    exact ⟨rfl, F, r1.j, r1.fr⟩
end Go.Abs
namespace Go.Abs
open Go.Proofs Go.Memo
def cpQ (qs : List (List QK)) (k : QK) : Prog := if k.1 = 1 ∧ k.2.2 = 0 ∧ 0 ≤ k.2.1 ∧ k.2.1 < qs.length then progQ k.2.1 (qs.getD k.2.1.toNat []) [] else .ret ⟨[], []⟩
theorem progQ_shape {σ : Type} {step : QK → σ → Option (Option QV × σ)} (idx : Int) : ∀ (ops : List QK) (xs : List Int) (s s' : σ) (v : QV), runP step (progQ idx ops xs) s = some (some v, s') → v = ⟨[v.nums.headD 0], []⟩
  | [], xs, s, s', v, h => by
    simp only [progQ, runP, Option.some.injEq, Prod.mk.injEq] at h
    rw [← h.1]; rfl
  | o :: os, xs, s, s', v, h => by
    simp only [progQ] at h
    split at h
    · obtain ⟨o1, s1, _, h2⟩ := run_get h
      rcases h2 with ⟨_, h2, _⟩ | ⟨v2, _, h2⟩
      · cases h2
      · exact progQ_shape idx os _ _ _ _ h2
    · split at h
      · obtain ⟨o1, s1, _, h2⟩ := run_get h
        rcases h2 with ⟨_, h2, _⟩ | ⟨v2, _, h2⟩
        · cases h2
        · exact progQ_shape idx os _ _ _ _ h2
      · split at h
        · exact progQ_shape idx os _ _ _ _ h
        · exact progQ_shape idx os _ _ _ _ h
structure ValP (inp : Int) (qs : List (List QK)) : Prop where
  len : qs.length ≤ 40
  each : ∀ (i : Nat) (h : i < qs.length), (qs[i]).length ≤ 20 ∧ chkQ inp i qs[i] 0 = 0
def envQ (qs : List (List QK)) (bv bq qi : Nat) : List (Nat × AObj) := [(bv, .row [.bool true]), (bq, .row [.msl qi 0 qs.length qs.length]), (qi, .row (qs.map ksE))]
theorem compile1_c {inp : Int} {qs : List (List QK)} (hP : ValP inp qs) (bv bq qi : Nat) : CompC Try.prog (cpQ qs) (.fn (.func 24) [] [.optr bv 0, .optr bq 0]) (envQ qs bv bq qi) := by
  refine ⟨24, _, rfl, Trygo24, fun σ J step g hg k s F H o s' hk hr hj he => ?_⟩
  obtain ⟨hO, f, caps, rfl, hgo, hc⟩ := hg
  have hv0 := he (bv, .row [.bool true]) (by simp [envQ])
  have hq0 := he (bq, .row [.msl qi 0 qs.length qs.length]) (by simp [envQ])
  have hz0 := he (qi, .row (qs.map ksE)) (by simp [envQ])
  simp only at hv0 hq0 hz0
  have hv1 := getL hv0
  have hq1 := getL hq0
  have hz1 := getL hz0
  obtain ⟨k1, k2, k3⟩ := k
  simp only [cpQ] at hr
  refine xcalls_of (N := 45) Try.func24 rfl rfl (by simp) fun hb' => ?_
  repeat (refine awp_seq ?_)
  refine e_eval (by simp only [jA, jO, jN, seval, y37, y41, y56, vint, ksE_cells, kE_cells, ksE_drop1, kE_drop1, hv1, hq1, hz1, hv0, hq0, hz0, kE, qvE] <;> with_reducible rfl) (by decide) ?_
  rcases Classical.em (k1 = 1 ∧ k3 = 0 ∧ 0 ≤ k2 ∧ k2 < qs.length) with hk4 | hk4
  ·
    obtain ⟨rfl, rfl, h2a, h2b⟩ := id hk4
    obtain ⟨x, rfl⟩ : ∃ x : Nat, k2 = (x : Int) := ⟨k2.toNat, by omega⟩
    have hx : x < qs.length := by omega
    rw [if_pos hk4, Int.toNat_natCast, List.getD_eq_getElem?_getD, List.getElem?_eq_getElem hx, Option.getD_some] at hr
    have t1 : decide ((x : Int) < 0) = false := decide_eq_false (by omega)
    have t2 : decide ((x : Int) ≥ (qs.length : Int)) = false := decide_eq_false (by omega)
    have gx := ix_nat hx
    have gq := get_enc ksE hx
    obtain ⟨h20, hch⟩ := hP.each x hx
    have hbox : (H ++ [AObj.row [vint 1, vint x, vint 0], .row [.fn (.func f) [] caps], .row [.slice [] .full, .str []]])[H.length + 1]? = some (.row [.fn (.func f) [] caps]) := by simp
    obtain ⟨F1, hF1⟩ : ∃ F1 : FPl, F1 = fun id => F id ∨ id = H.length + 1 := ⟨_, rfl⟩
    have hj1 : Jb J (H.length + 1) (.fn (.func f) [] caps) s F1 (H ++ [AObj.row [vint 1, vint x, vint 0], .row [.fn (.func f) [] caps], .row [.slice [] .full, .str []]]) := ⟨F, hO.app hj _, fun h => by have := hO.lt hj _ h; omega, hbox, hF1⟩
    have hI : GetI Try.prog (Jb J (H.length + 1) (.fn (.func f) [] caps)) step 26 [.optr (H.length + 1) 0] :=
      ⟨own_b hO _ _, Trygo26, fun k s F H o s' hs hj => compile11 hO hgo hc _ k s F H o s' hs hj⟩
    have fin : ∀ (F4 : FPl) (H4 : Heap), Jb J (H.length + 1) (.fn (.func f) [] caps) s' F4 H4 → FrS F1 F4 (H ++ [AObj.row [vint 1, vint x, vint 0], .row [.fn (.func f) [] caps], .row [.slice [] .full, .str []]]) H4 → ∃ F', J s' F' H4 ∧ FrS F F' H H4 ∧ ¬ F' (H.length + 2) := by
      intro F4 H4 j4 f4
      obtain ⟨F5, h1, h2, h3, h4⟩ := j4
      refine ⟨F5, h1, ⟨by have := f4.len; simp at this; omega, fun id hid hn => ?_, fun id h hid => ?_⟩, fun h => ?_⟩
      rotate_left 2
      · have := f4.ids _ (by rw [h4]; exact .inl h) (by simp)
        rw [hF1] at this
        rcases this with h | h
        · have := hO.lt hj _ h; omega
        · omega
      · rw [f4.same id (by simp; omega) (by rw [hF1]; rintro (h | h); exact hn h; omega), List.getElem?_append_left hid]
      · have := f4.ids id (by rw [h4]; exact .inl h) (by simp; omega)
        rw [hF1] at this
        rcases this with h | h
        · exact h
        · omega
    repeat (refine awp_seq ?_)
    refine g_eval (by simp only [jG, jO, jN, seval, y3, y4, y22, y37, y53, vint, ksE_cells, kE_cells, ksE_drop1, kE_drop1, hv1, hq1, hz1, hv0, hq0, hz0, kE, qvE, t1, t2] <;> with_reducible rfl) (by decide) (by repeat (first | exact Fin.base _ | with_reducible apply Fin.keep | apply Fin.drop)) ?_
    repeat (refine awp_seq ?_)
    refine awp_cond_false rfl (by simp only [jN, seval, vint, ksE_cells, kE_cells, ksE_drop1, kE_drop1, hv1, hq1, hz1, hv0, hq0, hz0, kE, qvE, t1, t2] <;> with_reducible rfl) ?_
    repeat (refine awp_seq ?_)
    refine awp_skip ?_
    refine awp_sel [3, 4, 5, 6] (by simp only [jN, seval, vint, ksE_cells, kE_cells, ksE_drop1, kE_drop1, hv1, hq1, hz1, hv0, hq0, hz0, kE, qvE, t1, t2] <;> with_reducible rfl) ?_
    repeat (refine awp_seq ?_)
    refine awp_drawB 0 (by kernel_rfl) ?_
    simp only [List.replicate_zero, List.append_nil]
    refine seg_draw 8 (bm := [0, 0, 2, 7, 15, 0, 32, 0, 255, 511]) (by kernel_rfl) (by decide) (by kernel_rfl) (by kernel_rfl) ?_
    refine d_end (bm := [0, 0, 2, 7, 15, 0, 32, 0, 255, 511]) (fresh := 0) (by kernel_rfl) (by simp only [jD, jO, jN, seval, y3, y22, y37, y52, y53, vint, ksE_cells, kE_cells, ksE_drop1, kE_drop1, hv1, hq1, hz1, hbox, gx, gq, Int.toNat_natCast, Nat.mul_one] <;> with_reducible rfl) (by decide) ?_
    refine seg_op (k := 8) (bm := [0, 0, 2, 7, 15, 0, 32, 0, 255, 511]) (by kernel_rfl) rfl (by kernel_rfl) (by kernel_rfl) ?_
    refine aops_xc (by simp only [jC, jN, seval, vint] <;> rfl) (by simp only [jC, jN, seval, vint]) (by decide) Trygo25 (run_c hI inp x qs[x] hch h20 s F1 _ o s' hr hj1) ?_ ?_
    rotate_left
    · rintro HP ⟨ho, F4, j4, f4⟩
      obtain ⟨F', h1, h2, _⟩ := fin F4 HP j4 f4
      exact Or.inr ⟨rfl, mn ho, F', h1, h2⟩
    rintro r H4 ⟨ho, F4, j4, f4⟩
    obtain ⟨v, rfl⟩ : ∃ v, o = some v := by
      cases o with
      | none => cases ho
      | some v => exact ⟨v, rfl⟩
    injection ho with ho
    subst ho
    have hsh := progQ_shape _ _ _ _ _ _ hr
    have hf4 := fin F4 H4 j4 f4
    have hz4 : H4[H.length + 2]? = some (.row [.slice [] .full, .str []]) := by
      rw [f4.same _ (by simp) (fun h => by
        rw [hF1] at h
        exact h.elim (fun h => by have := hO.lt hj _ h; omega) (fun h => by omega))]; simp
    have zs4 : ∀ o, (H4.set (H.length + 2) o)[H.length + 2]? = some o := fun o => List.getElem?_set_self (len_of_get hz4)
    have nz4 : (H.length + 2 = H4.length) = False := by have := len_of_get hz4; simp; omega
    refine aops_nil ?_
    show GoAt _ _ _ _ _ _ _ _
    refine seg_op (k := 9) (bm := [0, 0, 2, 7, 15, 0, 32, 0, 255, 511]) (by kernel_rfl) rfl (by kernel_rfl) (by kernel_rfl) ?_
    refine e_end (by simp only [jA, jO, jN, seval, vint, ksE_cells, kE_cells, ksE_drop1, kE_drop1] <;> with_reducible rfl) (by decide) ?_
    show GoAt _ _ _ _ _ _ _ _
    refine goat_end ?_
    repeat (refine awp_seq ?_)
    refine e_eval (by simp only [jA, jO, jN, seval, y3, y32, y41, vint, ksE_cells, kE_cells, ksE_drop1, kE_drop1, hv1, hq1, hz1, hv0, hq0, hz0, kE, qvE, t1, t2, hz4, nz4] <;> with_reducible rfl) (by decide) ?_
    repeat (refine awp_seq ?_)
    refine awp_ret (Or.inl ⟨.inr rfl, _, (ares_cell 6 41 rfl Tryti41 (by decide) (by simp only [jL, jN, seval, vint, ksE_cells, kE_cells, ksE_drop1, kE_drop1, hv1, hq1, hz1, hv0, hq0, hz0, kE, qvE, t1, t2, zs4] <;> with_reducible rfl)), ?_⟩)
    obtain ⟨F', j', f', n'⟩ := hf4
    refine ⟨by rw [hsh]; rfl, F', hO.fr j' fun id hid => List.getElem?_set_ne (fun (e : H.length + 2 = id) => n' (e ▸ hid)), f'.upd (by simp) fun id hid => List.getElem?_set_ne (by omega)⟩
  ·
    rw [if_neg hk4, runP] at hr
    injection hr with hr
    injection hr with h1 h2
    subst h1
    subst h2
    have t31 : (((!decide (k1 = 1)) || (!decide (k3 = 0))) || decide (k2 < 0) || decide (k2 ≥ (qs.length : Int))) = true := by
      simp only [Bool.or_eq_true, Bool.not_eq_true', decide_eq_false_iff_not, decide_eq_true_eq]
      omega
    repeat (refine awp_seq ?_)
    refine g_eval (by simp only [jG, jO, jN, seval, y3, y4, y22, y37, y53, vint, ksE_cells, kE_cells, ksE_drop1, kE_drop1, hv1, hq1, hz1, hv0, hq0, hz0, kE, qvE, t31] <;> with_reducible rfl) (by decide) (by repeat (first | exact Fin.base _ | with_reducible apply Fin.keep | apply Fin.drop)) ?_
    repeat (refine awp_seq ?_)
    refine awp_cond_true rfl (by simp only [jN, seval, vint, ksE_cells, kE_cells, ksE_drop1, kE_drop1, hv1, hq1, hz1, hv0, hq0, hz0, kE, qvE, t31] <;> with_reducible rfl) ?_
    refine awp_sel [6] (by simp only [jN, seval, vint, ksE_cells, kE_cells, ksE_drop1, kE_drop1, hv1, hq1, hz1, hv0, hq0, hz0, kE, qvE, t31] <;> with_reducible rfl) ?_
    repeat (refine awp_seq ?_)
    refine e_eval (by simp only [jA, jO, jN, seval, y41, vint, ksE_cells, kE_cells, ksE_drop1, kE_drop1, hv1, hq1, hz1, hv0, hq0, hz0, kE, qvE, t31] <;> with_reducible rfl) (by decide) ?_
    repeat (refine awp_seq ?_)
    refine awp_ret (Or.inl ⟨.inr rfl, _, (ares_cell 6 41 rfl Tryti41 (by decide) (by simp only [jL, jN, seval, vint, ksE_cells, kE_cells, ksE_drop1, kE_drop1, hv1, hq1, hz1, hv0, hq0, hz0, kE, qvE, t31] <;> with_reducible rfl)), ?_⟩)
    exact ⟨rfl, F, hO.app hj _, FrS.app _ _ _ (hO.lt hj)⟩
end Go.Abs
namespace Go.Abs
open Go.Proofs Go.Memo
abbrev GN (es : List GE) : Prop := (es.map (·.2.1)).Nodup
theorem gfind_shift : ∀ (es : List GE) (k : QK) (j : Nat), (gfind es k j).map (·.2) = (gfind es k 0).map (·.2)
  | [], _, _ => rfl
  | e :: es, k, j => by
    simp only [gfind]
    split
    · rfl
    · rw [gfind_shift es k (j + 1), gfind_shift es k (0 + 1)]
theorem gget_cons (e : GE) (es : List GE) (k : QK) : gget (e :: es) k = if k = e.2.1 then some e.2.2 else gget es k := by
  unfold gget
  simp only [gfind]
  split
  · rfl
  · have := gfind_shift es k (0 + 1)
    have h := congrArg (Option.map (·.2)) this
    simp only [Option.map_map] at h
    exact h
theorem gget_of_notin {es : List GE} {k : QK} (h : k ∉ es.map (·.2.1)) : gget es k = none := by
  induction es with
  | nil => rfl
  | cons e es ih =>
    simp only [List.map_cons, List.mem_cons, not_or] at h
    rw [gget_cons, if_neg h.1]; exact ih h.2
theorem gget_app (es : List GE) (e : GE) (k : QK) : gget (es ++ [e]) k = match gget es k with | some v => some v | none => if k = e.2.1 then some e.2.2 else none := by
  induction es with
  | nil => rw [List.nil_append, gget_cons]; rfl
  | cons x es ih =>
    rw [List.cons_append, gget_cons, gget_cons, ih]
    split <;> rfl
theorem gget_setAt : ∀ (es : List GE) (k : QK) (i b : Nat) (p v : PV) (j : Nat), gfind es k j = some (i, b, p) → ∀ q, gget (es.set (i - j) (b, k, v)) q = if q = k then some v else gget es q
  | [], k, i, b, p, v, j, h, q => by cases h
  | e :: es, k, i, b, p, v, j, h, q => by
    simp only [gfind] at h
    split at h
    · rename_i he
      cases h
      rw [Nat.sub_self, List.set_cons_zero, gget_cons, gget_cons]
      simp only
      by_cases hq : q = k
      · rw [if_pos hq, if_pos hq]
      · rw [if_neg hq, if_neg hq, if_neg (fun h => hq (h.trans he.symm))]
    · rename_i hne
      have h1 := (gfind_lt es k (j + 1) i b p h).1
      rw [show i - j = (i - (j + 1)) + 1 by omega, List.set_cons_succ, gget_cons, gget_cons, gget_setAt es k i b p v (j + 1) h q]
      by_cases hq : q = k
      · subst hq
        rw [if_neg hne, if_pos rfl, if_pos rfl]
      · rw [if_neg hq, if_neg hq]
theorem gget_set (es : List GE) (clk : Nat) (k : QK) (v : PV) (q : QK) : gget (gset es clk k v) q = if q = k then some v else gget es q := by
  unfold gset
  cases h : gfind es k 0 with
  | none =>
    have hn : gget es k = none := by unfold gget; rw [h]; rfl
    simp only
    rw [gget_app]
    by_cases hq : q = k
    · subst hq
      rw [hn]
    · cases gget es q <;> simp [hq]
  | some r =>
    obtain ⟨i, b, p⟩ := r
    have := gget_setAt es k i b p v 0 h q
    rw [Nat.sub_zero] at this
    exact this
theorem gn_set {es : List GE} (hn : GN es) (clk : Nat) (k : QK) (v : PV) : GN (gset es clk k v) := by
  unfold gset
  cases h : gfind es k 0 with
  | none =>
    have := gfind_none es k 0 h
    simp only
    rw [GN, List.map_append, List.nodup_append]
    refine ⟨hn, by simp, fun x hx y hy => ?_⟩
    simp at hy; subst hy
    rintro rfl
    exact this hx
  | some r =>
    obtain ⟨i, b, p⟩ := r
    have h1 := (gfind_lt es k 0 i b p h).2.2
    rw [Nat.sub_zero] at h1
    simp only
    rw [GN, map_set_same (·.2.1) es i (b, k, v) (b, k, p) h1 rfl]
    exact hn
theorem gn_del {es : List GE} (hn : GN es) (k : QK) : GN (gdel es k) := by
  unfold gdel
  split
  · rw [GN, map_eraseIdx']
    exact hn.sublist (List.eraseIdx_sublist _ _)
  · exact hn
theorem gget_del {es : List GE} (hn : GN es) (k q : QK) : gget (gdel es k) q = if q = k then none else gget es q := by
  have key : ∀ (es : List GE) (j i b : Nat) (p : PV), GN es → gfind es k j = some (i, b, p) → gget (es.eraseIdx (i - j)) q = if q = k then none else gget es q := by
    intro es
    induction es with
    | nil => intro j i b p _ h; cases h
    | cons e es ih =>
      intro j i b p hn h
      simp only [gfind] at h
      simp only [GN, List.map_cons, List.nodup_cons] at hn
      split at h
      · rename_i he
        cases h
        rw [Nat.sub_self, List.eraseIdx_cons_zero, gget_cons]
        by_cases hq : q = k
        · subst hq
          rw [if_pos rfl]
          exact gget_of_notin (by rw [he]; exact hn.1)
        · rw [if_neg hq, if_neg (fun h => hq (h.trans he.symm))]
      · rename_i hne
        have h1 := (gfind_lt es k (j + 1) i b p h).1
        rw [show i - j = (i - (j + 1)) + 1 by omega, List.eraseIdx_cons_succ, gget_cons, gget_cons, ih (j + 1) i b p hn.2 h]
        by_cases hq : q = k
        · subst hq
          rw [if_neg hne, if_pos rfl, if_pos rfl]
        · rw [if_neg hq, if_neg hq]
  unfold gdel
  cases h : gfind es k 0 with
  | none =>
    have hk : gget es k = none := by unfold gget; rw [h]; rfl
    by_cases hq : q = k
    · subst hq; rw [if_pos rfl]; exact hk
    · rw [if_neg hq]
  | some r =>
    obtain ⟨i, b, p⟩ := r
    have := key es 0 i b p hn h
    rw [Nat.sub_zero] at this
    exact this
structure Ids where
  d : Nat
  s : Nat
  m : Nat
  c : Nat
  a : Nat
  cf : PV
  stp : PV
structure DbR (ix : Ids) (loc : QK → Nat) (act : List QK) (st : St) (F : FPl) (H : Heap) : Prop where
  db : ∃ clock : Int, H[ix.d]? = some (.row [ix.cf, .optr ix.s 0, .mapp ix.m, .mapp ix.a, ix.stp, vint st.comps, vint clock])
  sto : H[ix.s]? = some (stRow st.now (st.lc 0) (st.lc 1) (st.lc 2) ix.c)
  cells : ∃ es clk, H[ix.c]? = some (.obj (.mapg es clk)) ∧ GN es ∧ ∀ k, (gget es k = none ∧ st.cell k = .zero) ∨ gget es k = some (cellE (st.cell k))
  res : ∃ es clk, H[ix.m]? = some (.obj (.mapg es clk)) ∧ GN es ∧ ∀ k, gget es k = (st.res k).map fun _ => .optr (loc k) 0
  recs : ∀ k r, st.res k = some r → (∃ tl lu, H[loc k]? = some (.row (recC r tl lu))) ∧ F (loc k) ∧ loc k ≠ ix.d ∧ loc k ≠ ix.s ∧ loc k ≠ ix.m ∧ loc k ≠ ix.c ∧ loc k ≠ ix.a ∧ r.val.nums.length ≤ lim ∧ r.deps.length ≤ lim ∧ r.D ≤ 2
  inj : ∀ k k' r r', st.res k = some r → st.res k' = some r' → loc k = loc k' → k = k'
  acts : ∃ es clk, H[ix.a]? = some (.obj (.mapg es clk)) ∧ GN es ∧ ∀ k, gget es k = if k ∈ act then some (vint 1) else none
  okc : ∀ k, (st.cell k).val.nums.length ≤ lim
  own : F ix.d ∧ F ix.s ∧ F ix.m ∧ F ix.c ∧ F ix.a
  lt : ∀ id, F id → id < H.length
  ne : ix.d ≠ ix.s ∧ ix.d ≠ ix.m ∧ ix.d ≠ ix.c ∧ ix.d ≠ ix.a ∧ ix.s ≠ ix.m ∧ ix.s ≠ ix.c ∧ ix.s ≠ ix.a ∧ ix.m ≠ ix.c ∧ ix.m ≠ ix.a ∧ ix.c ≠ ix.a
  clk : ∀ clock : Int, H[ix.d]? = some (.row [ix.cf, .optr ix.s 0, .mapp ix.m, .mapp ix.a, ix.stp, vint st.comps, vint clock]) → clock = wrap64 (st.clk : Int)
  lus : ∀ k r tl lu, st.res k = some r → H[loc k]? = some (.row (recC r tl lu)) → ∃ m : Nat, m ≤ st.clk ∧ lu = wrap64 (m : Int)
section
variable {ix : Ids} {loc : QK → Nat} {act : List QK} {st : St} {F : FPl} {H : Heap}
theorem DbR.fr {H' : Heap} (h : DbR ix loc act st F H) (he : ∀ id, F id → H'[id]? = H[id]?) : DbR ix loc act st F H' := by
  obtain ⟨o1, o2, o3, o4, o5⟩ := h.own
  refine ⟨by rw [he _ o1]; exact h.db, by rw [he _ o2]; exact h.sto, by rw [he _ o4]; exact h.cells, by rw [he _ o3]; exact h.res, fun k r hk => ?_, h.inj, by rw [he _ o5]; exact h.acts, h.okc, h.own, fun id hi => ?_, h.ne, fun c hc => ?_, fun k r tl lu hk hr => ?_⟩
  · obtain ⟨h1, h2, h3⟩ := h.recs k r hk
    exact ⟨by rw [he _ h2]; exact h1, h2, h3⟩
  · have := h.lt id hi
    have e := he id hi
    rcases Nat.lt_or_ge id H'.length with hl | hl
    · exact hl
    · rw [List.getElem?_eq_none hl, List.getElem?_eq_getElem this] at e; cases e
  · rw [he _ o1] at hc; exact h.clk c hc
  · rw [he _ (h.recs k r hk).2.1] at hr; exact h.lus k r tl lu hk hr
theorem DbR.mark (h : DbR ix loc act st F H) {es : List GE} {clk : Nat} (hm : H[ix.a]? = some (.obj (.mapg es clk))) (k : QK) : DbR ix loc (k :: act) st F (H.set ix.a (.obj (.mapg (gset es clk k (vint 1)) (gclk es clk k)))) := by
  obtain ⟨o1, o2, o3, o4, o5⟩ := h.own
  obtain ⟨n1, n2, n3, n4, n5, n6, n7, n8, n9, n10⟩ := h.ne
  have hs : ∀ id, id ≠ ix.a → (H.set ix.a (AObj.obj (.mapg (gset es clk k (vint 1)) (gclk es clk k))))[id]? = H[id]? := fun id hi => List.getElem?_set_ne (Ne.symm hi)
  obtain ⟨es', clk', e1, e2, e3⟩ := h.acts
  rw [hm] at e1; injection e1 with e1; injection e1 with e1; injection e1 with e1 e1'; subst e1; subst e1'
  refine ⟨by rw [hs _ n4]; exact h.db, by rw [hs _ n7]; exact h.sto, by rw [hs _ n10]; exact h.cells, by rw [hs _ n9]; exact h.res, fun q r hq => ?_, h.inj, ⟨_, _, List.getElem?_set_self (h.lt _ o5), gn_set e2 _ _ _, fun q => ?_⟩, h.okc, h.own, fun id hi => by rw [List.length_set]; exact h.lt id hi, h.ne, fun c hc => by rw [hs _ n4] at hc; exact h.clk c hc, fun q r tl lu hq hr => by rw [hs _ (h.recs q r hq).2.2.2.2.2.2.1] at hr; exact h.lus q r tl lu hq hr⟩
  · obtain ⟨h1, h2⟩ := h.recs q r hq
    exact ⟨by rw [hs _ h2.2.2.2.2.2.1]; exact h1, h2⟩
  · rw [gget_set, e3]
    by_cases hq : q = k
    · simp [hq]
    · simp [hq]
theorem DbR.unmark {k : QK} (h : DbR ix loc (k :: act) st F H) (hk : k ∉ act) {es : List GE} {clk : Nat} (hm : H[ix.a]? = some (.obj (.mapg es clk))) : DbR ix loc act st F (H.set ix.a (.obj (.mapg (gdel es k) clk))) := by
  obtain ⟨o1, o2, o3, o4, o5⟩ := h.own
  obtain ⟨n1, n2, n3, n4, n5, n6, n7, n8, n9, n10⟩ := h.ne
  have hs : ∀ id, id ≠ ix.a → (H.set ix.a (AObj.obj (.mapg (gdel es k) clk)))[id]? = H[id]? := fun id hi => List.getElem?_set_ne (Ne.symm hi)
  obtain ⟨es', clk', e1, e2, e3⟩ := h.acts
  rw [hm] at e1; injection e1 with e1; injection e1 with e1; injection e1 with e1 e1'; subst e1; subst e1'
  refine ⟨by rw [hs _ n4]; exact h.db, by rw [hs _ n7]; exact h.sto, by rw [hs _ n10]; exact h.cells, by rw [hs _ n9]; exact h.res, fun q r hq => ?_, h.inj, ⟨_, _, List.getElem?_set_self (h.lt _ o5), gn_del e2 _, fun q => ?_⟩, h.okc, h.own, fun id hi => by rw [List.length_set]; exact h.lt id hi, h.ne, fun c hc => by rw [hs _ n4] at hc; exact h.clk c hc, fun q r tl lu hq hr => by rw [hs _ (h.recs q r hq).2.2.2.2.2.2.1] at hr; exact h.lus q r tl lu hq hr⟩
  · obtain ⟨h1, h2⟩ := h.recs q r hq
    exact ⟨by rw [hs _ h2.2.2.2.2.2.1]; exact h1, h2⟩
  · rw [gget_del e2, e3]
    by_cases hq : q = k
    · subst hq; rw [if_pos rfl, if_neg hk]
    · simp [hq]
theorem DbR.dbrow (h : DbR ix loc act st F H) (stp : PV) (n clock : Int) (ck : Nat) (hle : st.clk ≤ ck) (hck : clock = wrap64 (ck : Int)) : DbR { ix with stp := stp } loc act { st with comps := n, clk := ck } F (H.set ix.d (.row [ix.cf, .optr ix.s 0, .mapp ix.m, .mapp ix.a, stp, vint n, vint clock])) := by
  obtain ⟨o1, o2, o3, o4, o5⟩ := h.own
  obtain ⟨n1, n2, n3, n4, n5, n6, n7, n8, n9, n10⟩ := h.ne
  have hs : ∀ id, id ≠ ix.d → ∀ o, (H.set ix.d o)[id]? = H[id]? := fun id hi o => List.getElem?_set_ne (Ne.symm hi)
  refine ⟨⟨clock, List.getElem?_set_self (h.lt _ o1)⟩, by rw [hs _ (Ne.symm n1)]; exact h.sto, by rw [hs _ (Ne.symm n3)]; exact h.cells, by rw [hs _ (Ne.symm n2)]; exact h.res, fun q r hq => ?_, h.inj, by rw [hs _ (Ne.symm n4)]; exact h.acts, h.okc, h.own, fun id hi => by rw [List.length_set]; exact h.lt id hi, h.ne, fun c hc => ?_, fun q r tl lu hq hr => ?_⟩
  · obtain ⟨h1, h2⟩ := h.recs q r hq
    exact ⟨by rw [hs _ h2.2.1]; exact h1, h2⟩
  · have hc : (H.set ix.d (AObj.row [ix.cf, .optr ix.s 0, .mapp ix.m, .mapp ix.a, stp, vint n, vint clock]))[ix.d]? = _ := hc
    rw [List.getElem?_set_self (h.lt _ o1)] at hc
    simp [vint] at hc
    rw [← hc]; exact hck
  · rw [hs _ (h.recs q r hq).2.2.1] at hr
    obtain ⟨m, h1, h2⟩ := h.lus q r tl lu hq hr
    exact ⟨m, Nat.le_trans h1 hle, h2⟩
theorem DbR.recrow (h : DbR ix loc act st F H) {k : QK} {r r' : Rec} (hk : st.res k = some r) (tl : Tail) (lu : Int) (h1 : r'.val = r.val) (h2 : r'.deps = r.deps) (h3 : r'.D = r.D) (hlu : ∃ m : Nat, m ≤ st.clk ∧ lu = wrap64 (m : Int)) : DbR ix loc act { st with res := setF st.res k (some r') } F (H.set (loc k) (.row (recC r' tl lu))) := by
  obtain ⟨⟨tl0, lu0, r1⟩, r2, r3, r4, r5, r6, r7, r8, r9, r10⟩ := h.recs k r hk
  have hs : ∀ id, id ≠ loc k → ∀ o, (H.set (loc k) o)[id]? = H[id]? := fun id hi o => List.getElem?_set_ne (Ne.symm hi)
  have hres : ∀ q r0, setF st.res k (some r') q = some r0 → ∃ r1, st.res q = some r1 ∧ r1.val = r0.val ∧ r1.deps = r0.deps ∧ r1.D = r0.D := by
    intro q r0 hq
    unfold setF at hq
    split at hq
    · rename_i e; cases hq; subst e; exact ⟨r, hk, h1.symm, h2.symm, h3.symm⟩
    · exact ⟨r0, hq, rfl, rfl, rfl⟩
  refine ⟨by rw [hs _ (Ne.symm r3)]; exact h.db, by rw [hs _ (Ne.symm r4)]; exact h.sto, by rw [hs _ (Ne.symm r6)]; exact h.cells, ?_, fun q r0 hq => ?_, fun q q' a b hq hq' e => ?_, by rw [hs _ (Ne.symm r7)]; exact h.acts, h.okc, h.own, fun id hi => by rw [List.length_set]; exact h.lt id hi, h.ne, fun c hc => by rw [hs _ (Ne.symm r3)] at hc; exact h.clk c hc, fun q r0 tl1 lu1 hq hr => ?_⟩
  · obtain ⟨es, clk, e1, e2, e3⟩ := h.res
    refine ⟨es, clk, by rw [hs _ (Ne.symm r5)]; exact e1, e2, fun q => ?_⟩
    rw [e3]
    simp only [setF]
    split
    · rename_i e; subst e; rw [hk]; rfl
    · rfl
  · obtain ⟨rr, q1, q2, q3, q4⟩ := hres q r0 hq
    obtain ⟨⟨tl1, lu1, p1⟩, p2, p3, p4, p5, p6, p7, p8, p9, p10⟩ := h.recs q rr q1
    refine ⟨?_, p2, p3, p4, p5, p6, p7, q2 ▸ p8, q3 ▸ p9, q4 ▸ p10⟩
    by_cases e : q = k
    · subst e
      have : r0 = r' := by simp [setF] at hq; exact hq.symm
      subst this
      exact ⟨tl, lu, List.getElem?_set_self (h.lt _ r2)⟩
    · have : r0 = rr := by simp [setF, e] at hq; rw [hq] at q1; cases q1; rfl
      subst this
      exact ⟨tl1, lu1, by rw [hs _ (fun e2 => e (h.inj q k r0 r q1 hk e2))]; exact p1⟩
  · obtain ⟨r1, q1, _⟩ := hres q a hq
    obtain ⟨r2, q2, _⟩ := hres q' b hq'
    exact h.inj q q' r1 r2 q1 q2 e
  · by_cases e : q = k
    · subst e
      rw [List.getElem?_set_self (h.lt _ r2)] at hr
      have : lu = lu1 := by
        simp only [recC, vint, Option.some.injEq, AObj.row.injEq, List.cons.injEq, PV.int.injEq, true_and, and_true] at hr
        exact hr.2.2.2.2.2.2
      rw [← this]; exact hlu
    · have hq' : st.res q = some r0 := by simpa [setF, e] using hq
      rw [hs _ (fun e2 => e (h.inj q k r0 r hq' hk e2))] at hr
      exact h.lus q r0 tl1 lu1 hq' hr
theorem DbR.put (h : DbR ix loc act st F H) {es : List GE} {clk : Nat} (hm : H[ix.m]? = some (.obj (.mapg es clk))) (k : QK) {r : Rec} {rr : Nat} {tl : Tail} {lu : Int} (hr : H[rr]? = some (.row (recC r tl lu))) (hn : ¬ F rr) (hv : r.val.nums.length ≤ lim) (hd : r.deps.length ≤ lim) (hD : r.D ≤ 2) (hlu : ∃ m : Nat, m ≤ st.clk ∧ lu = wrap64 (m : Int)) :
    DbR ix (fun q => if q = k then rr else loc q) act { st with res := setF st.res k (some r) } (fun id => F id ∨ id = rr) (H.set ix.m (.obj (.mapg (gset es clk k (.optr rr 0)) (gclk es clk k)))) := by
  obtain ⟨o1, o2, o3, o4, o5⟩ := h.own
  obtain ⟨n1, n2, n3, n4, n5, n6, n7, n8, n9, n10⟩ := h.ne
  have hs : ∀ id, id ≠ ix.m → ∀ o, (H.set ix.m o)[id]? = H[id]? := fun id hi o => List.getElem?_set_ne (Ne.symm hi)
  have hne : ∀ id, F id → rr ≠ id := fun id hi e => hn (e ▸ hi)
  obtain ⟨es', clk', e1, e2, e3⟩ := h.res
  rw [hm] at e1; injection e1 with e1; injection e1 with e1; injection e1 with e1 e1'; subst e1; subst e1'
  refine ⟨by rw [hs _ n2]; exact h.db, by rw [hs _ n5]; exact h.sto, by rw [hs _ (Ne.symm n8)]; exact h.cells, ⟨_, _, List.getElem?_set_self (h.lt _ o3), gn_set e2 _ _ _, fun q => ?_⟩, fun q r0 hq => ?_, fun q q' a b hq hq' e => ?_, by rw [hs _ (Ne.symm n9)]; exact h.acts, h.okc, ⟨.inl o1, .inl o2, .inl o3, .inl o4, .inl o5⟩, fun id hi => by rw [List.length_set]; exact hi.elim (h.lt id) (fun e => e ▸ len_of_get hr), h.ne, fun c hc => by rw [hs _ n2] at hc; exact h.clk c hc, fun q r0 tl1 lu1 hq hr1 => ?_⟩
  · rw [gget_set, e3]
    simp only [setF]
    by_cases hq : q = k
    · simp [hq]
    · simp [hq]
  · by_cases e : q = k
    · subst e
      have : r0 = r := by simp [setF] at hq; exact hq.symm
      subst this
      simp only [if_true]
      exact ⟨⟨tl, lu, by rw [hs _ (hne _ o3)]; exact hr⟩, .inr trivial, hne _ o1, hne _ o2, hne _ o3, hne _ o4, hne _ o5, hv, hd, hD⟩
    · have hq' : st.res q = some r0 := by simpa [setF, e] using hq
      simp only [if_neg e]
      obtain ⟨⟨tl1, lu1, p1⟩, p2, p3, p4, p5, p6⟩ := h.recs q r0 hq'
      exact ⟨⟨tl1, lu1, by rw [hs _ p5]; exact p1⟩, .inl p2, p3, p4, p5, p6⟩
  · by_cases e1 : q = k <;> by_cases e2 : q' = k
    · rw [e1, e2]
    · simp only [e1, e2, if_true, if_false] at e
      have hq2 : st.res q' = some b := by simpa [setF, e2] using hq'
      exact (hne _ (h.recs q' b hq2).2.1 e).elim
    · simp only [e1, e2, if_true, if_false] at e
      have hq2 : st.res q = some a := by simpa [setF, e1] using hq
      exact (hne _ (h.recs q a hq2).2.1 e.symm).elim
    · simp only [e1, e2, if_false] at e
      exact h.inj q q' a b (by simpa [setF, e1] using hq) (by simpa [setF, e2] using hq') e
  · by_cases e : q = k
    · subst e
      simp only [if_true] at hr1
      rw [hs _ (hne _ o3), hr] at hr1
      have hq0 : r0 = r := by simp [setF] at hq; exact hq.symm
      have : lu = lu1 := by
        simp only [recC, vint, Option.some.injEq, AObj.row.injEq, List.cons.injEq, PV.int.injEq, true_and, and_true] at hr1
        exact hr1.2.2.2.2.2.2
      rw [← this]; exact hlu
    · have hq' : st.res q = some r0 := by simpa [setF, e] using hq
      simp only [if_neg e] at hr1
      rw [hs _ (h.recs q r0 hq').2.2.2.2.1] at hr1
      exact h.lus q r0 tl1 lu1 hq' hr1
end
end Go.Abs
namespace Go.Abs
open Go.Proofs Go.Memo
structure Cx where
  ix : Ids
  cp : QK → Prog
  stpf : Int → Bool
  env : List (Nat × AObj)
  FX : FPl
  I : Bool → Heap → Prop
structure CxOk (cx : Cx) : Prop where
  comp : CompC Try.prog cx.cp cx.ix.cf cx.env
  istab : ∀ b H H', cx.I b H → (∀ id, cx.FX id → H'[id]? = H[id]?) → cx.I b H'
  ilt : ∀ b H, cx.I b H → ∀ id, cx.FX id → id < H.length
  stop : (cx.ix.stp = .nilfn ∧ ∀ n, cx.stpf n = false) ∨ ∃ f caps, cx.ix.stp = .fn (.func f) [] caps ∧ goFn Try.prog f = true ∧ ∀ loc act st F H, DbR cx.ix loc act st F H → cx.I false H → (∀ id, F id → ¬ cx.FX id) →
    ACalls Try.prog f caps H fun r H' => r = .bool (cx.stpf st.comps) ∧ cx.I (cx.stpf st.comps) H' ∧ FrS cx.FX cx.FX H H'
def WR (cx : Cx) (loc : QK → Nat) (act : List QK) (st : St) (b : Bool) (G : FPl) (H : Heap) : Prop :=
  ∃ F, DbR cx.ix loc act st F H ∧ cx.I b H ∧ (∀ id, F id → ¬ cx.FX id) ∧ (G = fun id => F id ∨ cx.FX id ∨ ∃ e ∈ cx.env, e.1 = id) ∧ ∀ e ∈ cx.env, H[e.1]? = some e.2 ∧ ¬ F e.1 ∧ ¬ cx.FX e.1
section
variable {cx : Cx} {loc : QK → Nat} {act : List QK} {st : St} {b : Bool} {G : FPl} {H : Heap} (hx : CxOk cx)
include hx
theorem WR.lt (h : WR cx loc act st b G H) : ∀ id, G id → id < H.length := by
  obtain ⟨F, h1, h2, h3, rfl, h4⟩ := h
  rintro id (hi | hi | ⟨e, he, rfl⟩)
  · exact h1.lt id hi
  · exact hx.ilt b H h2 id hi
  · exact len_of_get (h4 e he).1
theorem WR.fr {H' : Heap} (h : WR cx loc act st b G H) (hs : ∀ id, G id → H'[id]? = H[id]?) : WR cx loc act st b G H' := by
  obtain ⟨F, h1, h2, h3, rfl, h4⟩ := h
  exact ⟨F, h1.fr fun id hi => hs id (.inl hi), hx.istab b H H' h2 fun id hi => hs id (.inr (.inl hi)), h3, rfl, fun e hm => ⟨by rw [hs e.1 (.inr (.inr ⟨e, hm, rfl⟩))]; exact (h4 e hm).1, (h4 e hm).2⟩⟩
theorem WR.app (h : WR cx loc act st b G H) (L : Heap) : WR cx loc act st b G (H ++ L) :=
  h.fr hx fun id hi => List.getElem?_append_left (h.lt hx id hi)
end
def XW (cx : Cx) (f : FuncId) (args : List PV) (act : List QK) (loc : QK → Nat) (G : FPl) (H : Heap) {α : Type} (o : Option α) (st' : St) (val : α → (QK → Nat) → PV) : Prop :=
  XCalls Try.prog chC f args H (fun r H' => ∃ x loc' G', o = some x ∧ r = val x loc' ∧ WR cx loc' act st' false G' H' ∧ FrS G G' H H' ∧ ∀ q ∈ act, loc' q = loc q) (fun H' => o = none ∧ ∃ loc' act' G', WR cx loc' act' st' true G' H' ∧ FrS G G' H H')
structure UOk (u : List QK → QK → St → Out Rec) : Prop where
  keep : ∀ act k st o st', u act k st = some (o, st') → ∀ q ∈ act, st'.res q = st.res q
  res : ∀ act k st r st', u act k st = some (some r, st') → st'.res k = some r
  same : ∀ act k st o st', u act k st = some (o, st') → st'.now = st.now ∧ st'.lc = st.lc ∧ st'.cell = st.cell
def UpdC (cx : Cx) (u : List QK → QK → St → Out Rec) : Prop :=
  ∀ act k loc st G H o st', k.1 ≠ 0 → u act k st = some (o, st') → WR cx loc act st false G H → XW cx 32 [.optr cx.ix.d 0, kE k] act loc G H o st' fun _ loc' => .optr (loc' k) 0
def chk1 (u : QK → St → Out Rec) (v : Nat) (d : QK) (st : St) : Out Bool := if d.1 = 0 then some (some (decide (v < (st.cell d).c)), st) else
  match u d st with
  | none => none
  | some (none, st') => some (none, st')
  | some (some r, st') => some (some (decide (v < r.c)), st')
theorem chk_cons {u : QK → St → Out Rec} {v : Nat} {d : QK} {ds : List QK} {st st' : St} {o : Option Bool} (h : chk u v (d :: ds) st = some (o, st')) :
    ∃ o1 s1, chk1 u v d st = some (o1, s1) ∧ ((o1 = none ∧ o = none ∧ st' = s1) ∨ (o1 = some true ∧ o = some true ∧ st' = s1) ∨ (o1 = some false ∧ chk u v ds s1 = some (o, st'))) := by
  unfold chk at h
  unfold chk1
  split at h
  · rename_i h0
    rw [if_pos h0]
    split at h
    · rename_i hl
      injection h with h; injection h with h1 h2
      exact ⟨_, _, rfl, .inr (.inl ⟨by rw [decide_eq_true hl], h1.symm, h2.symm⟩)⟩
    · rename_i hl
      exact ⟨_, _, rfl, .inr (.inr ⟨by rw [decide_eq_false hl], h⟩)⟩
  · rename_i h0
    rw [if_neg h0]
    split at h
    · cases h
    · rename_i s1 h1
      injection h with h; injection h with h2 h3
      rw [h1]
      exact ⟨none, s1, rfl, .inl ⟨rfl, h2.symm, h3.symm⟩⟩
    · rename_i r s1 h1
      rw [h1]
      split at h
      · rename_i hl
        injection h with h; injection h with h2 h3
        exact ⟨_, s1, rfl, .inr (.inl ⟨by rw [decide_eq_true hl], h2.symm, h3.symm⟩)⟩
      · rename_i hl
        exact ⟨_, s1, rfl, .inr (.inr ⟨by rw [decide_eq_false hl], h⟩)⟩
theorem chk1_keep {u : List QK → QK → St → Out Rec} (hu : UOk u) {act : List QK} {v : Nat} {d : QK} {st st' : St} {o : Option Bool} (h : chk1 (u act) v d st = some (o, st')) : (∀ q ∈ act, st'.res q = st.res q) ∧ st'.now = st.now ∧ st'.lc = st.lc ∧ st'.cell = st.cell := by
  unfold chk1 at h
  split at h
  · injection h with h; injection h with h1 h2; subst h2; exact ⟨fun _ _ => rfl, rfl, rfl, rfl⟩
  · split at h
    · cases h
    · rename_i h1; injection h with h; injection h with h2 h3; subst h3; exact ⟨hu.keep _ _ _ _ _ h1, hu.same _ _ _ _ _ h1⟩
    · rename_i h1; injection h with h; injection h with h2 h3; subst h3; exact ⟨hu.keep _ _ _ _ _ h1, hu.same _ _ _ _ _ h1⟩
theorem chk_keep {u : List QK → QK → St → Out Rec} (hu : UOk u) {act : List QK} {v : Nat} : ∀ (ds : List QK) {st st' : St} {o : Option Bool}, chk (u act) v ds st = some (o, st') → (∀ q ∈ act, st'.res q = st.res q) ∧ st'.now = st.now ∧ st'.lc = st.lc ∧ st'.cell = st.cell
  | [], st, st', o, h => by
    unfold chk at h
    injection h with h; injection h with h1 h2; subst h2; exact ⟨fun _ _ => rfl, rfl, rfl, rfl⟩
  | d :: ds, st, st', o, h => by
    obtain ⟨o1, s1, h1, h2⟩ := chk_cons h
    obtain ⟨a1, a2, a3, a4⟩ := chk1_keep hu h1
    rcases h2 with ⟨_, _, rfl⟩ | ⟨_, _, rfl⟩ | ⟨_, h2⟩
    · exact ⟨a1, a2, a3, a4⟩
    · exact ⟨a1, a2, a3, a4⟩
    · obtain ⟨b1, b2, b3, b4⟩ := chk_keep hu ds h2
      exact ⟨fun q hq => (b1 q hq).trans (a1 q hq), b2.trans a2, b3.trans a3, b4.trans a4⟩
end Go.Abs
namespace Go.Abs
open Go.Proofs Go.Memo
theorem lim8 {n : Nat} (h : n ≤ lim) : n * 8 ≤ 2 ^ 47 := by unfold lim at h; omega
theorem changed_c {cx : Cx} (hx : CxOk cx) {u : List QK → QK → St → Out Rec} (hu : UOk u) (hU : UpdC cx u) (act : List QK) (loc : QK → Nat) (st : St) (G : FPl) (H : Heap) (q : QK) (v : Nat) (o : Option Bool) (st' : St) (hm : chk1 (u act) v q st = some (o, st')) (hW : WR cx loc act st false G H) : XW cx 61 [.optr cx.ix.d 0, kE q, vint (v : Int)] act loc G H o st' fun b _ => .bool b := by
  obtain ⟨F, D, hI, hdis, hG, henv⟩ := id hW
  obtain ⟨clock, hdb⟩ := D.db
  have hdL := getL hdb
  have hsto := D.sto
  obtain ⟨ces, cclk, hce, _, hcv⟩ := D.cells
  obtain ⟨k1, k2, k3⟩ := q
  unfold chk1 at hm
  refine xcalls_of (N := 34) Try.func61 rfl rfl (by simp) fun hb' => ?_
  repeat (refine awp_seq ?_)
  refine e_eval (by simp only [jA, jO, jN, seval, y37, vint, ksE_cells, kE_cells, ksE_drop1, kE_drop1, hdL, hdb, kE] <;> with_reducible rfl) (by decide) ?_
  rcases Classical.em (k1 = 0) with h0 | h0
  ·
    rw [if_pos h0] at hm
    injection hm with hm
    injection hm with h1 h2
    subst h1
    subst h2
    have t12 : decide (k1 = 0) = true := decide_eq_true h0
    have hgt : decide (((st.cell (k1, k2, k3)).c : Int) > (v : Int)) = decide (v < (st.cell (k1, k2, k3)).c) := by rw [decide_eq_decide]; omega
    repeat (refine awp_seq ?_)
    refine e_eval (by simp only [jA, jO, jN, seval, y3, y37, vint, ksE_cells, kE_cells, ksE_drop1, kE_drop1, hdL, hdb, kE, t12] <;> with_reducible rfl) (by decide) ?_
    repeat (refine awp_seq ?_)
    refine awp_cond_true rfl (by simp only [jN, seval, vint, ksE_cells, kE_cells, ksE_drop1, kE_drop1, hdL, hdb, kE, t12] <;> with_reducible rfl) ?_
    repeat (refine awp_seq ?_)
    refine x_draw 1 (n0 := H.length + 1) (by first | rfl | (simp only [List.length_append, List.length_cons, List.length_nil, Nat.reduceAdd, Nat.zero_add, hdL, hdb, kE, t12, qvE]; done)) (by kernel_rfl) ?_
    refine x1_take 5 (by first | rfl | (simp only [List.length_append, List.length_cons, List.length_nil, Nat.reduceAdd, Nat.zero_add, hdL, hdb, kE, t12, qvE]; done)) (by simp only [jP, jO, jN, seval, y37, y57, y62, vint, ksE_cells, kE_cells, ksE_drop1, kE_drop1, hdL, hdb, kE, t12, qvE] <;> with_reducible rfl) (by decide) (by decide) (by decide) ?_
    refine x1_keep (by first | rfl | (simp only [List.length_append, List.length_cons, List.length_nil, Nat.reduceAdd, Nat.zero_add, hdL, hdb, kE, t12, qvE]; done)) (by simp only [jE, jN, seval, vint, ksE_cells, kE_cells, ksE_drop1, kE_drop1, hdL, hdb, kE, t12, qvE] <;> with_reducible rfl) (by simp only [jE, jN, seval, vint, ksE_cells, kE_cells, ksE_drop1, kE_drop1, hdL, hdb, kE, t12, qvE] <;> with_reducible rfl) (by simp only [jE, jN, seval, vint, ksE_cells, kE_cells, ksE_drop1, kE_drop1, hdL, hdb, kE, t12, qvE]) (by decide) Trygo29 (fun hc L => inGet (getL (getL hsto _) _) (getL (getL hce _) _) (k1, k2, k3) _ (hcv _) (lim8 (D.okc _))) ?_
    refine x1_take 4 (by first | rfl | (simp only [List.length_append, List.length_cons, List.length_nil, Nat.reduceAdd, Nat.zero_add, hdL, hdb, kE, t12, qvE]; done)) (by simp only [jP, jO, jN, seval, vint, ksE_cells, kE_cells, ksE_drop1, kE_drop1, hdL, hdb, kE, t12, qvE] <;> with_reducible rfl) (by decide) (by decide) (by decide) ?_
    refine x_mid (by first | (simp only [LS, HS, List.append_assoc, List.cons_append, List.nil_append, hdL, hdb, kE, t12, qvE] <;> with_reducible rfl) | rfl) ?_
    refine x2_end (bm := [0, 1, 3, 7, 0, 31, 63, 127, 127, 127, 0, 1279, 3583, 8191]) (fresh := (H.length + 1)) (by kernel_rfl) (by simp only [jX, jO, jN, seval, y41, vint, ksE_cells, kE_cells, ksE_drop1, kE_drop1, hdL, hdb, kE, t12, qvE] <;> with_reducible rfl) (by decide) (by repeat (first | exact Fin.base _ | with_reducible apply Fin.keep | apply Fin.drop)) ?_
    refine awp_sel [2, 8] (by simp only [jN, seval, vint, ksE_cells, kE_cells, ksE_drop1, kE_drop1, hdL, hdb, kE, t12] <;> with_reducible rfl) ?_
    repeat (refine awp_seq ?_)
    refine e_eval (by simp only [jA, jO, jN, seval, y3, vint, ksE_cells, kE_cells, ksE_drop1, kE_drop1, hdL, hdb, kE, t12, hgt] <;> with_reducible rfl) (by decide) ?_
    repeat (refine awp_seq ?_)
    refine awp_ret (Or.inl ⟨.inr rfl, _, rfl, ?_⟩)
    refine ⟨_, loc, G, rfl, rfl, hW.app hx _, FrS.app _ _ _ (hW.lt hx), fun _ _ => rfl⟩
  ·
    rw [if_neg h0] at hm
    have t12 : decide (k1 = 0) = false := decide_eq_false h0
    obtain ⟨o1, hu1⟩ : ∃ o1, u act (k1, k2, k3) st = some (o1, st') ∧ o = o1.map fun r => decide (v < r.c) := by
      split at hm
      · cases hm
      · rename_i h1; injection hm with hm; injection hm with h2 h3; subst h2; subst h3; exact ⟨none, h1, rfl⟩
      · rename_i r s1 h1; injection hm with hm; injection hm with h2 h3; subst h2; subst h3; exact ⟨some r, h1, rfl⟩
    obtain ⟨hu1, ho1⟩ := hu1
    subst ho1
    repeat (refine awp_seq ?_)
    refine e_eval (by simp only [jA, jO, jN, seval, y3, y37, vint, ksE_cells, kE_cells, ksE_drop1, kE_drop1, hdL, hdb, kE, t12] <;> with_reducible rfl) (by decide) ?_
    repeat (refine awp_seq ?_)
    refine awp_cond_false rfl (by simp only [jN, seval, vint, ksE_cells, kE_cells, ksE_drop1, kE_drop1, hdL, hdb, kE, t12] <;> with_reducible rfl) ?_
    repeat (refine awp_seq ?_)
    refine awp_skip ?_
    repeat (refine awp_seq ?_)
    refine awp_region ?_
    refine e_take 2 (by simp only [jA, jO, jN, seval, y37, vint, ksE_cells, kE_cells, ksE_drop1, kE_drop1, hdL, hdb, kE, t12] <;> with_reducible rfl) (by decide) ?_
    refine aops_xc (by simp only [jC, jN, seval, vint, ksE_cells, kE_cells, ksE_drop1, kE_drop1, hdL, hdb, kE, t12] <;> rfl) (by simp only [jC, jN, seval, vint, ksE_cells, kE_cells, ksE_drop1, kE_drop1, hdL, hdb, kE, t12]) (by decide) Trygo32 (hU act (k1, k2, k3) loc st G _ o1 st' h0 hu1 (hW.app hx _)) ?_ (fun HP ⟨ho, loc', act', G', w', f'⟩ => Or.inr ⟨rfl, by rw [ho]; rfl, loc', act', G', w', f'.of_app⟩)
    rintro r H1 ⟨rec, loc2, G2, rfl, rfl, w2, f2, l2⟩
    obtain ⟨F2, D2, _⟩ := id w2
    obtain ⟨⟨tl2, lu2, r2⟩, _⟩ := D2.recs _ _ (hu.res _ _ _ _ _ hu1)
    simp only [recC] at r2
    have hgt : decide ((rec.c : Int) > (v : Int)) = decide (v < rec.c) := by rw [decide_eq_decide]; omega
    refine e_end (by simp only [jA, jO, jN, seval, y3, y84, vint, ksE_cells, kE_cells, ksE_drop1, kE_drop1, hdL, hdb, kE, t12, r2, hgt] <;> with_reducible rfl) (by decide) ?_
    repeat (refine awp_seq ?_)
    refine awp_ret (Or.inl ⟨.inr rfl, _, rfl, ?_⟩)
    refine ⟨_, loc2, G2, rfl, rfl, w2, f2.of_app, l2⟩
end Go.Abs
namespace Go.Abs
open Go.Proofs Go.Memo
def XWr (cx : Cx) (f : FuncId) (args : List PV) (act : List QK) (loc : QK → Nat) (G : FPl) (H : Heap) {α : Type} (o : Option α) (st' : St) (val : α → (QK → Nat) → PV → Prop) : Prop :=
  XCalls Try.prog chC f args H (fun r H' => ∃ x loc' G', o = some x ∧ val x loc' r ∧ WR cx loc' act st' false G' H' ∧ FrS G G' H H' ∧ ∀ q ∈ act, loc' q = loc q) (fun H' => o = none ∧ ∃ loc' act' G', WR cx loc' act' st' true G' H' ∧ FrS G G' H H')
structure Bx2 (d rr x2 x3 : Nat) (G : FPl) (H : Heap) : Prop where
  b2 : H[x2]? = some (.row [.optr d 0])
  b3 : H[x3]? = some (.row [.optr rr 0])
  n2 : ¬ G x2
  n3 : ¬ G x3
theorem Bx2.fr {d rr x2 x3 : Nat} {G G' : FPl} {H H' : Heap} (h : Bx2 d rr x2 x3 G H) (f : FrS G G' H H') : Bx2 d rr x2 x3 G' H' :=
  ⟨(f.get h.b2 h.n2).1, (f.get h.b3 h.n3).1, (f.get h.b2 h.n2).2, (f.get h.b3 h.n3).2⟩
theorem Bx2.app {d rr x2 x3 : Nat} {G : FPl} {H : Heap} (h : Bx2 d rr x2 x3 G H) (L : Heap) : Bx2 d rr x2 x3 G (H ++ L) := ⟨getL h.b2 L, getL h.b3 L, h.n2, h.n3⟩
theorem valid1_c {cx : Cx} (hx : CxOk cx) {u : List QK → QK → St → Out Rec} (hu : UOk u) (hU : UpdC cx u) (act : List QK) (loc : QK → Nat) (st : St) (G : FPl) (H : Heap) (k q : QK) (r : Rec) (hk : st.res k = some r) (x2 x3 : Nat) (hB : Bx2 cx.ix.d (loc k) x2 x3 G H) (o : Option Bool) (st' : St) (hm : chk1 (u act) r.v q st = some (o, st')) (hW : WR cx loc act st false G H) : XW cx 60 [kE q, .optr x2 0, .optr x3 0] act loc G H o st' fun b _ => .bool b := by
  obtain ⟨F, D, hI, hdis, hG, henv⟩ := id hW
  obtain ⟨⟨tl, lu, hrr⟩, _⟩ := D.recs k r hk
  have q2 := getL hB.b2
  have q3 := getL hB.b3
  have qr := getL hrr
  simp only [recC] at qr
  obtain ⟨q1, q2', q3'⟩ := q
  have qk : (H ++ [AObj.row [PV.int .i64 q1, .int .i64 q2', .int .i64 q3']])[H.length]? = some (.row [PV.int .i64 q1, .int .i64 q2', .int .i64 q3']) := by simp
  refine xcalls_of (N := 12) Try.func60 rfl rfl (by simp) fun hb' => ?_
  repeat (refine awp_seq ?_)
  refine e_eval (by simp only [jA, jO, jN, seval, y37, vint, ksE_cells, kE_cells, ksE_drop1, kE_drop1, kE] <;> with_reducible rfl) (by decide) ?_
  repeat (refine awp_seq ?_)
  refine awp_drawB 0 (by kernel_rfl) ?_
  simp only [List.replicate_zero, List.append_nil]
  refine seg_draw 6 (bm := [0, 0, 0, 4, 12, 28, 63, 127]) (by kernel_rfl) (by decide) (by kernel_rfl) (by kernel_rfl) ?_
  refine d_end (bm := [0, 0, 0, 4, 12, 28, 63, 127]) (fresh := 0) (by kernel_rfl) (by simp only [jD, jO, jN, seval, y3, y28, y37, y84, y85, vint, ksE_cells, kE_cells, ksE_drop1, kE_drop1, q2, q3, qr, qk] <;> with_reducible rfl) (by decide) ?_
  refine seg_op (k := 6) (bm := [0, 0, 0, 4, 12, 28, 63, 127]) (by kernel_rfl) rfl (by kernel_rfl) (by kernel_rfl) ?_
  refine aops_xc (by simp only [jC, jN, seval, vint] <;> rfl) (by simp only [jC, jN, seval, vint]) (by decide) Trygo61 (changed_c hx hu hU act loc st G _ (q1, q2', q3') r.v o st' hm (hW.app hx _)) ?_ (fun HP ⟨ho, loc', act', G', w', f'⟩ => Or.inr ⟨rfl, ho, loc', act', G', w', f'.of_app⟩)
  rintro rv H4 ⟨b, loc4, G4, rfl, rfl, w4, f4, l4⟩
  refine aops_nil ?_
  show GoAt _ _ _ _ _ _ _ _
  refine seg_op (k := 7) (bm := [0, 0, 0, 4, 12, 28, 63, 127]) (by kernel_rfl) rfl (by kernel_rfl) (by kernel_rfl) ?_
  refine e_end (by simp only [jA, jO, jN, seval, vint, ksE_cells, kE_cells, ksE_drop1, kE_drop1] <;> with_reducible rfl) (by decide) ?_
  show GoAt _ _ _ _ _ _ _ _
  refine goat_end ?_
  repeat (refine awp_seq ?_)
  refine awp_ret (Or.inl ⟨.inr rfl, _, rfl, ?_⟩)
  exact ⟨b, loc4, G4, rfl, rfl, w4, f4.of_app, l4⟩
theorem idx_c {cx : Cx} (hx : CxOk cx) {u : List QK → QK → St → Out Rec} (hu : UOk u) (hU : UpdC cx u) (act : List QK) (loc : QK → Nat) (st : St) (G : FPl) (H : Heap) (k : QK) (r : Rec) (hk : st.res k = some r) (hka : k ∈ act) (x2 x3 : Nat) (hB : Bx2 cx.ix.d (loc k) x2 x3 G H) (ds : List QK) (hl : ds.length ≤ lim) (o : Option Bool) (st' : St) (hm : chk (u act) r.v ds st = some (o, st')) (hW : WR cx loc act st false G H) : XWr cx 68 [.slice (ds.map kE) .none, .fn (.func 60) [] [.optr x2 0, .optr x3 0]] act loc G H o st' fun b _ rv => ∃ n : Int, rv = vint n ∧ decide (n ≥ 0) = b := by
  unfold lim at hl
  refine xcalls_of (N := 19) Try.func68 rfl rfl (by simp) fun hb' => ?_
  repeat (refine awp_seq ?_)
  refine e_eval (by simp only [jA, jO, jN, seval, vint, ksE_cells, kE_cells, ksE_drop1, kE_drop1] <;> with_reducible rfl) (by decide) ?_
  repeat (refine awp_seq ?_)
  refine e_eval (by simp only [jA, jO, jN, seval, y37, y82, vint, ksE_cells, kE_cells, ksE_drop1, kE_drop1] <;> with_reducible rfl) (by decide) ?_
  repeat (refine awp_seq ?_)
  refine awp_block ?_
  refine awp_loopX (σ := Nat × St × (QK → Nat) × FPl) (fun (z : Nat × St × (QK → Nat) × FPl) => [(0, .slice (ds.map kE) .none), (1, .fn (.func 60) [] [.optr x2 0, .optr x3 0]), (7, vint (ds.length : Int)), (8, vint (z.1 : Int))]) (fun (z : Nat × St × (QK → Nat) × FPl) =>  fun H1 => z.1 ≤ ds.length ∧ chk (u act) r.v (ds.drop z.1) z.2.1 = some (o, st') ∧ WR cx z.2.2.1 act z.2.1 false z.2.2.2 H1 ∧ FrS G z.2.2.2 H H1 ∧ (∀ q ∈ act, z.2.2.1 q = loc q) ∧ z.2.1.res k = some r ∧ Bx2 cx.ix.d (loc k) x2 x3 z.2.2.2 H1) (fun (z : Nat × St × (QK → Nat) × FPl) => ds.length - z.1) ((0, st, loc, G)) ⟨(by first | rfl | (simp only [jN, seval, vint, ksE_cells, kE_cells, ksE_drop1, kE_drop1] <;> first | done | with_reducible rfl)), (by first | rfl | (simp only [jN, seval, vint, ksE_cells, kE_cells, ksE_drop1, kE_drop1] <;> first | done | with_reducible rfl)), (by first | rfl | (simp only [jN, seval, vint, ksE_cells, kE_cells, ksE_drop1, kE_drop1] <;> first | done | with_reducible rfl)), (by first | rfl | (simp only [jN, seval, vint, ksE_cells, kE_cells, ksE_drop1, kE_drop1] <;> first | done | with_reducible rfl)), trivial⟩ (⟨Nat.zero_le _, hm, hW, FrS.refl _ _, fun _ _ => rfl, hk, hB⟩) ?_
  intro z H1 hg
  obtain ⟨i, st1, loc1, G1⟩ := z
  obtain ⟨hi0, hm1, hW1, hf1, hl1, hk1, hB1⟩ := hg
  simp only at hi0 hm1 hW1 hf1 hl1 hk1 hB1
  rcases Nat.lt_or_ge i ds.length with hlt | hge
  ·
    have gi := ix_nat hlt
    have ge := get_enc kE hlt
    have gl : decide ((i : Int) < (ds.length : Int)) = true := decide_eq_true (by omega)
    have w1 : IntKind.i64.wrap ((i : Int) + 1) = ((i + 1 : Nat) : Int) := by rw [wrap_id (by omega) (by omega)]; omega
    rw [List.drop_eq_getElem_cons hlt] at hm1
    obtain ⟨o1, s1, hc1, hcs⟩ := chk_cons hm1
    have hkeep := chk1_keep hu hc1
    have hlk : loc1 k = loc k := hl1 k hka
    repeat (refine awp_seq ?_)
    refine e_eval (by simp only [jA, jO, jN, seval, y3, vint, ksE_cells, kE_cells, ksE_drop1, kE_drop1, gi, ge, gl, w1, Int.toNat_natCast] <;> with_reducible rfl) (by decide) ?_
    repeat (refine awp_seq ?_)
    refine awp_cond_true rfl (by simp only [jN, seval, vint, ksE_cells, kE_cells, ksE_drop1, kE_drop1, gi, ge, gl, w1, Int.toNat_natCast] <;> with_reducible rfl) ?_
    repeat (refine awp_seq ?_)
    refine awp_skip ?_
    repeat (refine awp_seq ?_)
    refine awp_block ?_
    repeat (refine awp_seq ?_)
    refine e_eval (by simp only [jA, jO, jN, seval, vint, ksE_cells, kE_cells, ksE_drop1, kE_drop1, gi, ge, gl, w1, Int.toNat_natCast] <;> with_reducible rfl) (by decide) ?_
    repeat (refine awp_seq ?_)
    refine awp_region ?_
    refine e_take 5 (by simp only [jA, jO, jN, seval, y37, y82, vint, ksE_cells, kE_cells, ksE_drop1, kE_drop1, gi, ge, gl, w1, Int.toNat_natCast] <;> with_reducible rfl) (by decide) ?_
    refine aops_xc (by simp only [jC, jN, seval, vint, ksE_cells, kE_cells, ksE_drop1, kE_drop1, gi, ge, gl, w1, Int.toNat_natCast] <;> rfl) (by simp only [jC, jN, seval, vint, ksE_cells, kE_cells, ksE_drop1, kE_drop1, gi, ge, gl, w1, Int.toNat_natCast]) (by decide) Trygo60 (valid1_c hx hu hU act loc1 st1 G1 _ k ds[i] r hk1 x2 x3 (hlk ▸ hB1) o1 s1 hc1 hW1) ?_ (fun HP ⟨ho, loc', act', G', w', f'⟩ => Or.inr ⟨rfl, by rcases hcs with ⟨_, h, h2⟩ | ⟨h, _⟩ | ⟨h, _⟩ <;> first | exact ⟨h, loc', act', G', h2 ▸ w', hf1.trans f'⟩ | (rw [ho] at h; cases h)⟩)
    rintro rv H2 ⟨b, loc2, G2, rfl, rfl, w2, f2, l2⟩
    refine aops_nil ?_
    repeat (refine awp_seq ?_)
    refine awp_cond rfl (by simp only [jN, seval, vint, ksE_cells, kE_cells, ksE_drop1, kE_drop1, gi, ge, gl, w1, Int.toNat_natCast] <;> with_reducible rfl) (fun bt16 => ?_) (fun bt16 => ?_)
    ·
      subst bt16
      repeat (refine awp_seq ?_)
      refine e_eval (by simp only [jA, jO, jN, seval, vint, ksE_cells, kE_cells, ksE_drop1, kE_drop1, gi, ge, gl, w1, Int.toNat_natCast] <;> with_reducible rfl) (by decide) ?_
      repeat (refine awp_seq ?_)
      refine awp_ret (Or.inl ⟨.inr rfl, _, rfl, ?_⟩)
      rcases hcs with ⟨h, _⟩ | ⟨_, h, h2⟩ | ⟨h, _⟩
      · cases h
      · subst h2
        exact ⟨true, loc2, G2, h, ⟨(i : Int), rfl, decide_eq_true (by omega)⟩, w2, hf1.trans f2, fun q hq => (l2 q hq).trans (hl1 q hq)⟩
      · cases h
    ·
      subst bt16
      repeat (refine awp_seq ?_)
      refine awp_skip ?_
      repeat (refine awp_seq ?_)
      refine e_eval (by simp only [jA, jO, jN, seval, y3, vint, ksE_cells, kE_cells, ksE_drop1, kE_drop1, gi, ge, gl, w1, Int.toNat_natCast] <;> with_reducible rfl) (by decide) ?_
      try simp only [thenQ, blockQ]
      rcases hcs with ⟨h, _⟩ | ⟨h, _⟩ | ⟨_, h⟩
      · cases h
      · cases h
      · exact ⟨(i + 1, s1, loc2, G2), by show ds.length - (i + 1) < ds.length - i; omega, ⟨rfl, rfl, rfl, by simp only [w1, seval, jN, upd, upd_apply, mkS_cons, mkS_nil, vint] <;> rfl, trivial⟩, by show i + 1 ≤ ds.length; omega, h, w2, hf1.trans f2, fun q hq => (l2 q hq).trans (hl1 q hq), (hkeep.1 k hka).trans hk1, hB1.fr f2⟩
  ·
    have gl : decide ((i : Int) < (ds.length : Int)) = false := decide_eq_false (by omega)
    have hil : i = ds.length := by omega
    subst hil
    rw [List.drop_length, chk] at hm1
    injection hm1 with hm1
    injection hm1 with h1 h2
    subst h1
    subst h2
    repeat (refine awp_seq ?_)
    refine e_eval (by simp only [jA, jO, jN, seval, y3, vint, ksE_cells, kE_cells, ksE_drop1, kE_drop1, gl] <;> with_reducible rfl) (by decide) ?_
    repeat (refine awp_seq ?_)
    refine awp_cond_false rfl (by simp only [jN, seval, vint, ksE_cells, kE_cells, ksE_drop1, kE_drop1, gl] <;> with_reducible rfl) ?_
    repeat (refine awp_seq ?_)
    refine awp_exit ?_
    simp only [thenQ, blockQ, reduceIte, Nat.reduceEqDiff, Nat.succ_ne_self, if_true, if_false]
    repeat (refine awp_seq ?_)
    refine e_eval (by simp only [jA, jO, jN, seval, vint, ksE_cells, kE_cells, ksE_drop1, kE_drop1, gl] <;> with_reducible rfl) (by decide) ?_
    repeat (refine awp_seq ?_)
    refine awp_ret (Or.inl ⟨.inr rfl, _, rfl, ?_⟩)
    exact ⟨false, loc1, G1, rfl, ⟨-1, rfl, by decide⟩, hW1, hf1, hl1⟩
theorem contF_c {cx : Cx} (hx : CxOk cx) {u : List QK → QK → St → Out Rec} (hu : UOk u) (hU : UpdC cx u) (act : List QK) (loc : QK → Nat) (st : St) (G : FPl) (H : Heap) (k : QK) (r : Rec) (hk : st.res k = some r) (hka : k ∈ act) (x2 x3 : Nat) (hB : Bx2 cx.ix.d (loc k) x2 x3 G H) (ds : List QK) (hl : ds.length ≤ lim) (o : Option Bool) (st' : St) (hm : chk (u act) r.v ds st = some (o, st')) (hW : WR cx loc act st false G H) : XW cx 59 [.slice (ds.map kE) .none, .fn (.func 60) [] [.optr x2 0, .optr x3 0]] act loc G H o st' fun b _ => .bool b := by
  refine xcalls_of (N := 9) Try.func59 rfl rfl (by simp) fun hb' => ?_
  repeat (refine awp_seq ?_)
  refine e_eval (by simp only [jA, jO, jN, seval, vint, ksE_cells, kE_cells, ksE_drop1, kE_drop1] <;> with_reducible rfl) (by decide) ?_
  repeat (refine awp_seq ?_)
  refine awp_region ?_
  refine e_take 2 (by simp only [jA, jO, jN, seval, vint, ksE_cells, kE_cells, ksE_drop1, kE_drop1] <;> with_reducible rfl) (by decide) ?_
  refine aops_xc (by simp only [jC, jN, seval, vint, ksE_cells, kE_cells, ksE_drop1, kE_drop1] <;> rfl) (by simp only [jC, jN, seval, vint, ksE_cells, kE_cells, ksE_drop1, kE_drop1]) (by decide) Trygo68 (idx_c hx hu hU act loc st G _ k r hk hka x2 x3 hB ds hl o st' hm hW) ?_ (fun HP ⟨ho, loc', act', G', w', f'⟩ => Or.inr ⟨rfl, ho, loc', act', G', w', f'⟩)
  rintro rv H1 ⟨b, loc2, G2, ho, ⟨n, rfl, hn⟩, w2, f2, l2⟩
  refine e_end (by simp only [jA, jO, jN, seval, y3, vint, ksE_cells, kE_cells, ksE_drop1, kE_drop1] <;> with_reducible rfl) (by decide) ?_
  repeat (refine awp_seq ?_)
  refine awp_ret (Or.inl ⟨.inr rfl, _, rfl, ?_⟩)
  exact ⟨b, loc2, G2, ho, by rw [← hn]; rfl, w2, f2, l2⟩
end Go.Abs
namespace Go.Abs
open Go.Proofs Go.Memo
def valM (u : QK → St → Out Rec) (r : Rec) (st : St) : Out Bool := if r.v = st.now ∨ st.lc r.D ≤ r.v then some (some true, st) else
  match chk u r.v r.deps st with
  | none => none
  | some (none, st') => some (none, st')
  | some (some b, st') => some (some (!b), st')
theorem lc3 {l : Nat → Nat} {d : Nat} (hd : d ≤ 2) : ([(l 0 : Int), (l 1 : Int), (l 2 : Int)])[d]? = some (l d : Int) := by
  match d, hd with
  | 0, _ => rfl
  | 1, _ => rfl
  | 2, _ => rfl
theorem valid_c {cx : Cx} (hx : CxOk cx) {u : List QK → QK → St → Out Rec} (hu : UOk u) (hU : UpdC cx u) (act : List QK) (loc : QK → Nat) (st : St) (G : FPl) (H : Heap) (k : QK) (r : Rec) (hk : st.res k = some r) (hka : k ∈ act) (o : Option Bool) (st' : St) (hm : valM (u act) r st = some (o, st')) (hW : WR cx loc act st false G H) : XW cx 46 [.optr cx.ix.d 0, .optr (loc k) 0] act loc G H o st' fun b _ => .bool b := by
  obtain ⟨F, D, hI, hdis, hG, henv⟩ := id hW
  obtain ⟨clock, hdb⟩ := D.db
  have hdL := getL hdb
  have hsto := D.sto
  obtain ⟨⟨tl, lu, hrr⟩, _, _, _, _, _, _, _, hdl, hD2⟩ := D.recs k r hk
  have hrL := getL hrr
  simp only [recC] at hrL
  have hB : Bx2 cx.ix.d (loc k) H.length (H.length + 1) G (H ++ [AObj.row [PV.optr cx.ix.d 0], AObj.row [PV.optr (loc k) 0]]) := ⟨by simp, by simp, fun h => by have := hW.lt hx _ h; omega, fun h => by have := hW.lt hx _ h; omega⟩
  have t30 : (decide ((r.v : Int) = (st.now : Int)) || decide ((st.lc r.D : Int) ≤ (r.v : Int))) = decide (r.v = st.now ∨ st.lc r.D ≤ r.v) := by
    rw [Bool.eq_iff_iff]; simp only [Bool.or_eq_true, decide_eq_true_eq]; omega
  have hb2 := hB.b2
  have hb3 := hB.b3
  unfold valM at hm
  refine xcalls_of (N := 38) Try.func46 rfl rfl (by simp) fun hb' => ?_
  repeat (refine awp_seq ?_)
  refine e_eval (by simp only [jA, jO, jN, seval, y28, y85, vint, ksE_cells, kE_cells, ksE_drop1, kE_drop1, hdL, hdb, hrL, hb2, hb3] <;> with_reducible rfl) (by decide) ?_
  repeat (refine awp_seq ?_)
  refine dp_draw (by kernel_rfl) ?_
  refine dp_take 8 (by simp only [jP, jO, jN, seval, y3, y28, y57, y62, y84, y85, vint, ksE_cells, kE_cells, ksE_drop1, kE_drop1, hdL, hdb, hrL, hb2, hb3] <;> with_reducible rfl) (by decide) ?_
  refine dp_keep (by simp only [jE, jN, seval, vint, ksE_cells, kE_cells, ksE_drop1, kE_drop1, hdL, hdb, hrL, hb2, hb3] <;> with_reducible rfl) (by simp only [jE, jN, seval, vint, ksE_cells, kE_cells, ksE_drop1, kE_drop1, hdL, hdb, hrL, hb2, hb3] <;> with_reducible rfl) (by simp only [jE, jN, seval, vint, ksE_cells, kE_cells, ksE_drop1, kE_drop1, hdL, hdb, hrL, hb2, hb3]) (by decide) Trygo48 (fun hc => revision_c (getL hsto _)) ?_
  refine dp_take 10 (by simp only [jP, jO, jN, seval, y3, y28, y57, y62, y84, y85, vint, ksE_cells, kE_cells, ksE_drop1, kE_drop1, hdL, hdb, hrL, hb2, hb3] <;> with_reducible rfl) (by decide) ?_
  refine dp_keep (by simp only [jE, jN, seval, vint, ksE_cells, kE_cells, ksE_drop1, kE_drop1, hdL, hdb, hrL, hb2, hb3] <;> with_reducible rfl) (by simp only [jE, jN, seval, vint, ksE_cells, kE_cells, ksE_drop1, kE_drop1, hdL, hdb, hrL, hb2, hb3] <;> with_reducible rfl) (by simp only [jE, jN, seval, vint, ksE_cells, kE_cells, ksE_drop1, kE_drop1, hdL, hdb, hrL, hb2, hb3]) (by decide) Trygo58 (fun hc => lastChange_c (getL hsto _) r.D hD2 _ (lc3 hD2)) ?_
  refine dp_end (by simp only [jP, jO, jN, seval, y3, y84, y85, vint, ksE_cells, kE_cells, ksE_drop1, kE_drop1, hdL, hdb, hrL, hb2, hb3] <;> with_reducible rfl) (by decide) (by repeat (first | exact Fin.base _ | with_reducible apply Fin.keep | apply Fin.drop)) ?_
  repeat (refine awp_seq ?_)
  refine awp_cond rfl (by simp only [jN, seval, vint, ksE_cells, kE_cells, ksE_drop1, kE_drop1, hdL, hdb, hrL, hb2, hb3] <;> with_reducible rfl) (fun bt30 => ?_) (fun bt30 => ?_)
  ·
    rw [t30, decide_eq_true_eq] at bt30
    rw [if_pos bt30] at hm
    injection hm with hm
    injection hm with h1 h2
    subst h1
    subst h2
    refine awp_sel [] (by simp only [jN, seval, vint, ksE_cells, kE_cells, ksE_drop1, kE_drop1, hdL, hdb, hrL, hb2, hb3] <;> with_reducible rfl) ?_
    repeat (refine awp_seq ?_)
    refine e_eval (by simp only [jA, jO, jN, seval, vint, ksE_cells, kE_cells, ksE_drop1, kE_drop1, hdL, hdb, hrL, hb2, hb3] <;> with_reducible rfl) (by decide) ?_
    repeat (refine awp_seq ?_)
    refine awp_ret (Or.inl ⟨.inr rfl, _, rfl, ?_⟩)
    exact ⟨true, loc, G, rfl, rfl, hW.app hx _, FrS.app _ _ _ (hW.lt hx), fun _ _ => rfl⟩
  ·
    rw [t30, decide_eq_false_iff_not] at bt30
    rw [if_neg bt30] at hm
    obtain ⟨o1, hc1, ho1⟩ : ∃ o1, chk (u act) r.v r.deps st = some (o1, st') ∧ o = o1.map not := by
      split at hm
      · cases hm
      · rename_i h1; injection hm with hm; injection hm with h2 h3; subst h2; subst h3; exact ⟨none, h1, rfl⟩
      · rename_i b s1 h1; injection hm with hm; injection hm with h2 h3; subst h2; subst h3; exact ⟨some b, h1, rfl⟩
    subst ho1
    repeat (refine awp_seq ?_)
    refine awp_skip ?_
    refine awp_sel [2, 3] (by simp only [jN, seval, vint, ksE_cells, kE_cells, ksE_drop1, kE_drop1, hdL, hdb, hrL, hb2, hb3] <;> with_reducible rfl) ?_
    repeat (refine awp_seq ?_)
    refine awp_region ?_
    refine e_take 5 (by simp only [jA, jO, jN, seval, y37, y82, y84, y85, vint, ksE_cells, kE_cells, ksE_drop1, kE_drop1, hdL, hdb, hrL, hb2, hb3] <;> with_reducible rfl) (by decide) ?_
    refine aops_xc (by simp only [jC, jN, seval, vint, ksE_cells, kE_cells, ksE_drop1, kE_drop1, hdL, hdb, hrL, hb2, hb3] <;> rfl) (by simp only [jC, jN, seval, vint, ksE_cells, kE_cells, ksE_drop1, kE_drop1, hdL, hdb, hrL, hb2, hb3]) (by decide) Trygo59 (contF_c hx hu hU act loc st G _ k r hk hka _ _ hB r.deps hdl o1 st' hc1 (hW.app hx _)) ?_ (fun HP ⟨ho, loc', act', G', w', f'⟩ => Or.inr ⟨rfl, by rw [ho]; rfl, loc', act', G', w', f'.of_app⟩)
    rintro rv H1 ⟨b, loc2, G2, rfl, rfl, w2, f2, l2⟩
    refine e_end (by simp only [jA, jO, jN, seval, vint, ksE_cells, kE_cells, ksE_drop1, kE_drop1, hdL, hdb, hrL, hb2, hb3] <;> with_reducible rfl) (by decide) ?_
    repeat (refine awp_seq ?_)
    refine awp_ret (Or.inl ⟨.inr rfl, _, rfl, ?_⟩)
    exact ⟨!b, loc2, G2, rfl, rfl, w2, f2.of_app, l2⟩
end Go.Abs
namespace Go.Abs
open Go.Proofs Go.Memo
theorem FrS.set {F F' : FPl} {H H' : Heap} (a : FrS F F' H H') {i : Nat} (hi : F' i) (o : AObj) : FrS F F' H (H'.set i o) :=
  ⟨by rw [List.length_set]; exact a.len, fun id h1 h2 => by rw [List.getElem?_set_ne (by rintro rfl; exact h2 (a.ids _ hi h1))]; exact a.same id h1 h2, a.ids⟩
theorem FrS.set' {F F' : FPl} {H H' H'' : Heap} (a : FrS F F' H H') {i : Nat} (hi : F' i) (hs : ∀ id, id ≠ i → H''[id]? = H'[id]?) (hl : H''.length = H'.length) : FrS F F' H H'' :=
  ⟨by rw [hl]; exact a.len, fun id h1 h2 => by rw [hs id (by rintro rfl; exact h2 (a.ids _ hi h1))]; exact a.same id h1 h2, a.ids⟩
theorem FrS.new {F F' : FPl} {H H' : Heap} (a : FrS F F' H H') {i : Nat} (hi : H.length ≤ i) (o : AObj) : FrS F F' H (H'.set i o) :=
  a.upd (by simp) fun id hid => List.getElem?_set_ne (by omega)
theorem FrS.more {F F' : FPl} {H H' : Heap} (a : FrS F F' H H') {p : FPl} (hp : ∀ id, p id → F' id ∨ H.length ≤ id) : FrS F p H H' :=
  ⟨a.len, a.same, fun id h h1 => (hp id h).elim (fun h => a.ids id h h1) (fun h => by omega)⟩
theorem set_lt {H : Heap} {id i : Nat} {o : AObj} {x : AObj} (h : H[id]? = some x) (hne : id ≠ i) : (H.set i o)[id]? = some x := by rw [List.getElem?_set_ne (Ne.symm hne)]; exact h
def rrRow (now : Nat) (a : Acc) (tl : Tail) : AObj := .row [.slice [] .full, .str [], vint (now : Int), vint (now : Int), vint (a.D : Int), .slice (a.deps.map kE) tl, vint 0]
structure RecS (cx : Cx) (L : QK → Nat) (act : List QK) (rr x2 x6 now : Nat) (tl : Tail) (a : Acc) (st : St) (F : FPl) (H : Heap) : Prop where
  w : ∃ loc G, WR cx loc act st false G H ∧ (∀ q ∈ act, loc q = L q) ∧ ¬ G rr ∧ ¬ G x2 ∧ ¬ G x6 ∧ (∀ t, tl = .tok t → ¬ G t) ∧ F = fun id => G id ∨ id = rr ∨ id = x2 ∨ id = x6 ∨ tl = .tok id
  row : H[rr]? = some (rrRow now a tl)
  b2 : H[x2]? = some (.row [.optr cx.ix.d 0])
  b6 : H[x6]? = some (.row [.optr rr 0])
  ne : rr ≠ x2 ∧ rr ≠ x6 ∧ x2 ≠ x6
  tk : (a.deps = [] ∧ tl = .full) ∨ ∃ t, tl = .tok t ∧ H[t]? = some (.buf a.deps.length 3) ∧ t ≠ rr ∧ t ≠ x2 ∧ t ≠ x6
  d2 : a.D ≤ 2
  dl : a.deps.length ≤ lim
section
variable {cx : Cx} (hx : CxOk cx) {L : QK → Nat} {act : List QK} {rr x2 x6 now : Nat} {tl : Tail} {a : Acc} {st : St} {F : FPl} {H : Heap}
include hx
theorem RecS.lt (h : RecS cx L act rr x2 x6 now tl a st F H) : ∀ id, F id → id < H.length := by
  obtain ⟨loc, G, h1, h2, h3, h4, h5, h6, rfl⟩ := h.w
  rintro id (hi | rfl | rfl | rfl | hi)
  · exact h1.lt hx id hi
  · exact len_of_get h.row
  · exact len_of_get h.b2
  · exact len_of_get h.b6
  · rcases h.tk with ⟨_, e⟩ | ⟨t, e, ht, _⟩
    · rw [e] at hi; cases hi
    · rw [e] at hi; cases hi; exact len_of_get ht
theorem RecS.fr {H' : Heap} (h : RecS cx L act rr x2 x6 now tl a st F H) (hs : ∀ id, F id → H'[id]? = H[id]?) : RecS cx L act rr x2 x6 now tl a st F H' := by
  obtain ⟨loc, G, h1, h2, h3, h4, h5, h6, h7⟩ := h.w
  subst h7
  refine ⟨⟨loc, G, h1.fr hx (fun id hi => hs id (.inl hi)), h2, h3, h4, h5, h6, rfl⟩, by rw [hs _ (.inr (.inl rfl))]; exact h.row, by rw [hs _ (.inr (.inr (.inl rfl)))]; exact h.b2, by rw [hs _ (.inr (.inr (.inr (.inl rfl))))]; exact h.b6, h.ne, ?_, h.d2, h.dl⟩
  rcases h.tk with e | ⟨t, e, ht, hn⟩
  · exact .inl e
  · exact .inr ⟨t, e, by rw [hs _ (.inr (.inr (.inr (.inr e))))]; exact ht, hn⟩
theorem RecS.app (h : RecS cx L act rr x2 x6 now tl a st F H) (M : Heap) : RecS cx L act rr x2 x6 now tl a st F (H ++ M) :=
  h.fr hx fun id hi => List.getElem?_append_left (h.lt hx id hi)
omit hx in
theorem RecS.mem (h : RecS cx L act rr x2 x6 now tl a st F H) : F rr ∧ F x2 ∧ F x6 ∧ ∀ t, tl = .tok t → F t := by
  obtain ⟨loc, G, h1, h2, h3, h4, h5, h6, rfl⟩ := h.w
  exact ⟨.inr (.inl rfl), .inr (.inr (.inl rfl)), .inr (.inr (.inr (.inl rfl))), fun t e => .inr (.inr (.inr (.inr e)))⟩
omit hx in
theorem RecS.got {loc' : QK → Nat} {G G' : FPl} {st' : St} {H' : Heap} (h : RecS cx L act rr x2 x6 now tl a st F H) (hG : ¬ G rr ∧ ¬ G x2 ∧ ¬ G x6 ∧ ∀ t, tl = .tok t → ¬ G t) (hF : F = fun id => G id ∨ id = rr ∨ id = x2 ∨ id = x6 ∨ tl = .tok id)
    (hw : WR cx loc' act st' false G' H') (hl : ∀ q ∈ act, loc' q = L q) (f : FrS G G' H H') : ∃ F', RecS cx L act rr x2 x6 now tl a st' F' H' ∧ FrS F F' H H' ∧ ∀ id, F' id → G' id ∨ F id := by
  have g1 := f.get h.row hG.1
  have g2 := f.get h.b2 hG.2.1
  have g3 := f.get h.b6 hG.2.2.1
  refine ⟨fun id => G' id ∨ id = rr ∨ id = x2 ∨ id = x6 ∨ tl = .tok id, ⟨⟨loc', G', hw, hl, g1.2, g2.2, g3.2, fun t e hg => ?_, rfl⟩, g1.1, g2.1, g3.1, h.ne, ?_, h.d2, h.dl⟩, ⟨f.len, fun id h1 h2 => f.same id h1 fun hg => h2 (by rw [hF]; exact .inl hg), fun id hi hl => ?_⟩, fun id hi => hi.imp (fun h => h) fun h => by rw [hF]; exact .inr h⟩
  · rcases h.tk with ⟨_, e2⟩ | ⟨t2, e2, ht, _⟩
    · rw [e2] at e; cases e
    · rw [e2] at e; cases e
      exact hG.2.2.2 _ e2 (f.ids _ hg (len_of_get ht))
  · rcases h.tk with e | ⟨t, e, ht, hn⟩
    · exact .inl e
    · exact .inr ⟨t, e, (f.get ht (hG.2.2.2 t e)).1, hn⟩
  · rw [hF]
    exact hi.imp (fun hg => f.ids id hg hl) (fun h => h)
omit hx in
theorem FrS.sub {F G G' : FPl} {H H' : Heap} (f : FrS G G' H H') (hs : ∀ id, G id → F id) : FrS F G' H H' := ⟨f.len, fun id h1 h2 => f.same id h1 fun hg => h2 (hs id hg), fun id hi hl => hs id (f.ids id hi hl)⟩
theorem RecS.put (h : RecS cx L act rr x2 x6 now tl a st F H) {a' : Acc} {tl' : Tail} {H1 : Heap} {F' : FPl} (hF : F' = fun id => F id ∨ tl' = .tok id) (hs : ∀ id, F id → tl' ≠ .tok id → H1[id]? = H[id]?)
    (htl : tl = tl' ∨ tl = .full) (ht : (a'.deps = [] ∧ tl' = .full) ∨ ∃ t, tl' = .tok t ∧ H1[t]? = some (.buf a'.deps.length 3) ∧ (tl = .tok t ∨ ¬ F t)) (hd : a'.D ≤ 2) (hl : H.length ≤ H1.length) (hdl : a'.deps.length ≤ lim) :
    RecS cx L act rr x2 x6 now tl' a' st F' (H1.set rr (rrRow now a' tl')) := by
  have hlt := h.lt hx
  have hmem := h.mem
  obtain ⟨n1, n2, n3⟩ := h.ne
  have hnt : ∀ id, F id → (tl ≠ .tok id) → tl' ≠ .tok id := by
    intro id hi hn e
    rcases ht with ⟨_, e2⟩ | ⟨t, e2, _, h3⟩
    · rw [e2] at e; cases e
    · rw [e2] at e; cases e
      rcases h3 with h3 | h3
      · exact hn h3
      · exact h3 hi
  have hold : ∀ t, tl = .tok t → t ≠ rr ∧ t ≠ x2 ∧ t ≠ x6 := by
    intro t e
    rcases h.tk with ⟨_, e2⟩ | ⟨t2, e2, _, h3⟩
    · rw [e2] at e; cases e
    · rw [e2] at e; cases e; exact h3
  have ntok : ∀ id, (id = rr ∨ id = x2 ∨ id = x6) → tl ≠ .tok id := by
    rintro id (rfl | rfl | rfl) e <;> have := hold _ e <;> simp at this
  obtain ⟨loc, G, h1, h2, h3, h4, h5, h6, h7⟩ := h.w
  subst h7
  have hG : ∀ id, G id → (H1.set rr (rrRow now a' tl'))[id]? = H[id]? := fun id hi => by
    rw [List.getElem?_set_ne (by rintro rfl; exact h3 hi)]
    exact hs id (.inl hi) (hnt id (.inl hi) fun e => h6 id e hi)
  have hbx : ∀ id, (id = x2 ∨ id = x6) → ∀ o, H[id]? = some o → (H1.set rr (rrRow now a' tl'))[id]? = some o := by
    intro id hi o ho
    rw [List.getElem?_set_ne (by rcases hi with rfl | rfl <;> first | exact n1 | exact n2), hs id (by rcases hi with rfl | rfl <;> first | exact hmem.2.1 | exact hmem.2.2.1) (hnt id (by rcases hi with rfl | rfl <;> first | exact hmem.2.1 | exact hmem.2.2.1) (ntok id (.inr hi)))]
    exact ho
  have hrl : rr < H1.length := Nat.lt_of_lt_of_le (len_of_get h.row) hl
  refine ⟨⟨loc, G, h1.fr hx hG, h2, h3, h4, h5, fun t e hg => ?_, ?_⟩, List.getElem?_set_self hrl, hbx _ (.inl rfl) _ h.b2, hbx _ (.inr rfl) _ h.b6, h.ne, ?_, hd, hdl⟩
  · exact hnt t (.inl hg) (fun e2 => h6 t e2 hg) e
  · rw [hF]
    funext id
    apply propext
    constructor
    · rintro ((hi | hi | hi | hi | hi) | hi)
      · exact .inl hi
      · exact .inr (.inl hi)
      · exact .inr (.inr (.inl hi))
      · exact .inr (.inr (.inr (.inl hi)))
      · rcases htl with e | e
        · exact .inr (.inr (.inr (.inr (e ▸ hi))))
        · rw [e] at hi; cases hi
      · exact .inr (.inr (.inr (.inr hi)))
    · rintro (hi | hi | hi | hi | hi)
      · exact .inl (.inl hi)
      · exact .inl (.inr (.inl hi))
      · exact .inl (.inr (.inr (.inl hi)))
      · exact .inl (.inr (.inr (.inr (.inl hi))))
      · exact .inr hi
  · rcases ht with e | ⟨t, e, h8, h9⟩
    · exact .inl e
    · have hn : t ≠ rr ∧ t ≠ x2 ∧ t ≠ x6 := by
        rcases h9 with h9 | h9
        · exact hold t h9
        · exact ⟨fun q => h9 (q ▸ hmem.1), fun q => h9 (q ▸ hmem.2.1), fun q => h9 (q ▸ hmem.2.2.1)⟩
      exact .inr ⟨t, e, by rw [List.getElem?_set_ne (Ne.symm hn.1)]; exact h8, hn⟩
theorem RecS.dur (h : RecS cx L act rr x2 x6 now tl a st F H) {d : Nat} (hd : d ≤ 2) : RecS cx L act rr x2 x6 now tl ⟨a.deps, d⟩ st F (H.set rr (rrRow now ⟨a.deps, d⟩ tl)) := by
  refine h.put hx (a' := ⟨a.deps, d⟩) (tl' := tl) (H1 := H) (F' := F) ?_ (fun _ _ _ => rfl) (.inl rfl) ?_ hd (Nat.le_refl _) h.dl
  · funext id
    exact propext ⟨.inl, fun h1 => h1.elim (fun h => h) (h.mem.2.2.2 id)⟩
  · rcases h.tk with e | ⟨t, e, ht, _⟩
    · exact .inl e
    · exact .inr ⟨t, e, ht, .inl e⟩
theorem RecS.first (h : RecS cx L act rr x2 x6 now .full a st F H) (k : QK) (ha : a.deps = []) : RecS cx L act rr x2 x6 now (.tok H.length) ⟨[k], a.D⟩ st (fun id => F id ∨ id = H.length) ((H ++ [AObj.buf 1 3]).set rr (rrRow now ⟨[k], a.D⟩ (.tok H.length))) :=
  h.put hx (a' := ⟨[k], a.D⟩) (tl' := .tok H.length) (H1 := H ++ [AObj.buf 1 3]) (by funext id; refine propext ⟨fun h => h.imp (fun h => h) (fun e => by rw [e]), fun h => h.imp (fun h => h) (fun e => by injection e with e; exact e.symm)⟩)
    (fun id hi _ => List.getElem?_append_left (h.lt hx id hi)) (.inr rfl) (.inr ⟨H.length, rfl, by simp, .inr fun hf => by have := h.lt hx _ hf; omega⟩) h.d2 (by simp) (by show 1 ≤ lim; decide)
theorem RecS.next {t : Nat} (h : RecS cx L act rr x2 x6 now (.tok t) a st F H) (k : QK) (hk : a.deps.length < lim) : RecS cx L act rr x2 x6 now (.tok t) ⟨a.deps ++ [k], a.D⟩ st F ((H.set t (.buf (a.deps.length + 1) 3)).set rr (rrRow now ⟨a.deps ++ [k], a.D⟩ (.tok t))) := by
  have hm := h.mem.2.2.2 t rfl
  refine h.put hx (a' := ⟨a.deps ++ [k], a.D⟩) (tl' := .tok t) (H1 := H.set t (AObj.buf (a.deps.length + 1) 3)) (F' := F) ?_ (fun id hi hn => List.getElem?_set_ne (fun e => hn (by rw [e]))) (.inl rfl) (.inr ⟨t, rfl, by rw [List.getElem?_set_self (h.lt hx _ hm)]; simp, .inl rfl⟩) h.d2 (by simp) (by simp; omega)
  funext id
  exact propext ⟨.inl, fun h1 => h1.elim (fun h => h) (h.mem.2.2.2 id)⟩
def JG (cx : Cx) (L : QK → Nat) (act : List QK) (rr x2 x6 now : Nat) (s : (Acc × St) × Bool) (F : FPl) (H : Heap) : Prop :=
  (s.2 = false ∧ ∃ tl, RecS cx L act rr x2 x6 now tl s.1.1 s.1.2 F H) ∨ (s.2 = true ∧ ∃ loc act', WR cx loc act' s.1.2 true F H)
theorem own_JG (L : QK → Nat) (act : List QK) (rr x2 x6 now : Nat) : Own (JG cx L act rr x2 x6 now) :=
  ⟨fun {s F H H'} h hs => h.imp (fun ⟨e, tl, h1⟩ => ⟨e, tl, h1.fr hx hs⟩) (fun ⟨e, loc, act', h1⟩ => ⟨e, loc, act', h1.fr hx hs⟩),
   fun {s F H} h id hi => h.elim (fun ⟨_, tl, h1⟩ => h1.lt hx id hi) (fun ⟨_, loc, act', h1⟩ => h1.lt hx id hi)⟩
end
end Go.Abs
