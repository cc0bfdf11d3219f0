/- Part 6 of a proof of the law TopCanceled: Go data as trees, the walks of the functions that the law reaches, the plain laws. -/
import Derived.Test.YtndpndmhoheloaaGETopCanceled
import Derived.RangeFuncNested
import Derived.RangeFuncCalls
import Derived.RangeFuncLeaves
import Derived.TacticsIn
import Derived.OwnWalkIn
import Derived.Recover
set_option linter.unusedVariables false
set_option linter.unusedSimpArgs false
set_option maxRecDepth 4000
namespace Go.Abs
open Go.Proofs Go.Memo
def stepJ (u : QK → St → Out Rec) (k : QK) (s : (Acc × St) × Bool) : Option (Option QV × ((Acc × St) × Bool)) := if s.2 = true then none else
  match getStep u k s.1 with
  | none => none
  | some (none, s') => some (none, (s', true))
  | some (some v, s') => some (some v, (s', false))
theorem run_J {u : QK → St → Out Rec} : ∀ (p : Prog) (s s' : Acc × St) (o : Option QV), runP (getStep u) p s = some (o, s') → runP (stepJ u) p (s, false) = some (o, (s', o.isNone))
  | .ret v, s, s', o, h => by
    simp only [runP, Option.some.injEq, Prod.mk.injEq] at h ⊢
    obtain ⟨rfl, rfl⟩ := h
    exact ⟨rfl, rfl, rfl⟩
  | .get k c, s, s', o, h => by
    unfold runP at h ⊢
    simp only [stepJ, Bool.false_eq_true, if_false]
    split at h
    · cases h
    · rename_i s1 h1
      injection h with h; injection h with h2 h3; subst h2; subst h3
      rw [h1]; rfl
    · rename_i v s1 h1
      rw [h1]
      exact run_J (c v) s1 s' o h
theorem stepJ_inv {u : QK → St → Out Rec} {k : QK} {a : Acc} {st : St} {f : Bool} {o : Option QV} {s' : (Acc × St) × Bool} (h : stepJ u k ((a, st), f) = some (o, s')) : f = false ∧
    ((k.1 = 0 ∧ okV (st.cell k).val = true ∧ okA a = true ∧ o = some (st.cell k).val ∧ s' = ((a.add k (st.cell k).d, st), false)) ∨ (k.1 ≠ 0 ∧ ∃ o1 st1, u k st = some (o1, st1) ∧ ((o1 = none ∧ o = none ∧ s' = ((a, st1), true)) ∨ ∃ r, o1 = some r ∧ okV r.val = true ∧ okA a = true ∧ o = some r.val ∧ s' = ((a.add k r.D, st1), false)))) := by
  unfold stepJ at h
  split at h
  · cases h
  rename_i hf
  refine ⟨by simpa using hf, ?_⟩
  unfold getStep at h
  by_cases h0 : k.1 = 0
  · left
    simp only [if_pos h0] at h
    by_cases hok : (okV (st.cell k).val && okA a) = true
    · rw [if_pos hok] at h
      injection h with h; injection h with h1 h2
      rw [Bool.and_eq_true] at hok
      exact ⟨h0, hok.1, hok.2, h1.symm, h2.symm⟩
    · rw [if_neg hok] at h; cases h
  · right
    refine ⟨h0, ?_⟩
    simp only [if_neg h0] at h
    cases hu : u k st with
    | none => rw [hu] at h; cases h
    | some p =>
      obtain ⟨o1, st1⟩ := p
      rw [hu] at h
      refine ⟨o1, st1, rfl, ?_⟩
      cases o1 with
      | none =>
        left
        injection h with h; injection h with h1 h2
        exact ⟨rfl, h1.symm, h2.symm⟩
      | some r =>
        right
        simp only at h
        by_cases hok : (okV r.val && okA a) = true
        · rw [if_pos hok] at h
          injection h with h; injection h with h1 h2
          rw [Bool.and_eq_true] at hok
          exact ⟨r, rfl, hok.1, hok.2, h1.symm, h2.symm⟩
        · rw [if_neg hok] at h; cases h
theorem app_Kt (us : List QK) (u : QK) (fr t : Nat) (H : Heap) (tl2 : Tail) (hH : H[t]? = some (.buf us.length 3)) (hl : us.length < lim) : aappend ⟨true, 3, 24⟩ fr H (.slice (us.map kE) (.tok t)) (.slice [kE u] tl2) = some (.slice ((us ++ [u]).map kE) (.tok t), some (t, .buf (us.length + 1) 3)) := by
  have em : maxLen = 9223372036854775807 := by decide
  unfold lim at hl
  have := aappend_tok1 (i := ⟨true, 3, 24⟩) (fresh := fr) (H := H) (es := us.map kE) (x := kE u) (id := t) (n := us.length) (tl := tl2) hH (by simp) (by simp; omega) (by simp; omega) (fun e he => by obtain ⟨v, _, rfl⟩ := List.mem_map.1 he; rfl) rfl rfl (by decide)
  simpa using this
theorem app_K0 (u : QK) (fr : Nat) (H : Heap) (tl2 : Tail) : aappend ⟨true, 3, 24⟩ fr H (.slice [] .full) (.slice [kE u] tl2) = some (.slice [kE u] (.tok fr), some (fr, .buf 1 3)) :=
  aappend_all (i := ⟨true, 3, 24⟩) (by simp) (by show 1 * 24 ≤ 2 ^ 47; decide) (by show 1 ≤ maxLen; decide) (fun e he => by rw [List.mem_singleton.1 he]; exact ⟨rfl, rfl⟩) (by decide)
theorem rec1_c {cx : Cx} (hx : CxOk cx) {u : List QK → QK → St → Out Rec} (hu : UOk u) (hU : UpdC cx u) (L : QK → Nat) (act : List QK) (rr x2 x6 now : Nat) : GetC Try.prog (JG cx L act rr x2 x6 now) (stepJ (u act)) (.fn (.func 62) [] [.optr x2 0, .optr x6 0]) := by
  refine ⟨own_JG hx L act rr x2 x6 now, 62, _, rfl, Trygo62, fun k s F H o s' hs hj => ?_⟩
  obtain ⟨⟨a, st⟩, f⟩ := s
  obtain ⟨rfl, hcase⟩ := stepJ_inv hs
  obtain ⟨_, tl, hR⟩ := hj.resolve_right (fun h => by cases h.1)
  simp only at hR
  obtain ⟨m1, m2, m3, m4⟩ := hR.mem
  have r2 := getL hR.b2
  have r6 := getL hR.b6
  obtain ⟨loc, G, hW, hloc, nGr, nG2, nG6, nGt, hFG⟩ := hR.w
  obtain ⟨F0, D, hI, hdis, hG, henv⟩ := id hW
  obtain ⟨clock, hdb⟩ := D.db
  have hdL := getL hdb
  have hsto := D.sto
  obtain ⟨ces, cclk, hce, _, hcv⟩ := D.cells
  have hlt := hR.lt hx
  have bq : ∀ {i : Nat}, i < H.length → ∀ n, (H.length + n == i) = false := fun hi n => by simp; omega
  obtain ⟨o1, o2, o3, o4, o5⟩ := D.own
  have gd := bq (D.lt _ o1)
  have gs := bq (D.lt _ o2)
  have gc := bq (D.lt _ o4)
  have g2 := bq (hlt _ m2)
  obtain ⟨k1, k2, k3⟩ := k
  refine xcalls_of (N := 60) Try.func62 rfl rfl (by simp) fun hb' => ?_
  repeat (refine awp_seq ?_)
  refine e_eval (by simp only [jA, jO, jN, seval, y37, y41, vint, ksE_cells, kE_cells, ksE_drop1, kE_drop1, r2, r6, hdL, hdb, kE] <;> with_reducible rfl) (by decide) ?_
  repeat (refine awp_seq ?_)
  refine e_eval (by simp only [jA, jO, jN, seval, y41, vint, ksE_cells, kE_cells, ksE_drop1, kE_drop1, r2, r6, hdL, hdb, kE] <;> with_reducible rfl) (by decide) ?_
  repeat (refine awp_seq ?_)
  refine e_eval (by simp only [jA, jO, jN, seval, vint, ksE_cells, kE_cells, ksE_drop1, kE_drop1, r2, r6, hdL, hdb, kE] <;> with_reducible rfl) (by decide) ?_
  repeat (refine awp_seq ?_)
  refine e_eval (by simp only [jA, jO, jN, seval, y3, y37, vint, ksE_cells, kE_cells, ksE_drop1, kE_drop1, r2, r6, hdL, hdb, kE] <;> with_reducible rfl) (by decide) ?_
  repeat (refine awp_seq ?_)
  refine awp_joinX (σ := QV × Nat × St) (fun (z : QV × Nat × St) => [(1, .optr x2 0), (2, .optr x6 0), (3, .optr H.length 0), (4, .optr (H.length + 1) 0), (5, .optr (H.length + 2) 0), (6, vint (z.2.1 : Int))]) (fun (z : QV × Nat × St) =>  fun H5 => o = some z.1 ∧ s' = ((a.add (k1, k2, k3) z.2.1, z.2.2), false) ∧ okA a = true ∧ (∃ F5, RecS cx L act rr x2 x6 now tl a z.2.2 F5 H5 ∧ FrS F F5 H H5 ∧ ¬ F5 H.length ∧ ¬ F5 (H.length + 1) ∧ ¬ F5 (H.length + 2)) ∧ H5[H.length]? = some (.row [vint k1, vint k2, vint k3]) ∧ H5[H.length + 1]? = some (.row [.slice [] .full, .str []]) ∧ H5[H.length + 2]? = some (.row [.slice (z.1.nums.map vint) .none, .str z.1.text])) ?_ ?_
  · -- to the meeting
    repeat (refine awp_seq ?_)
    refine awp_cond rfl (by simp only [jN, seval, vint, ksE_cells, kE_cells, ksE_drop1, kE_drop1, r2, r6, hdL, hdb, kE] <;> with_reducible rfl) (fun bt10 => ?_) (fun bt10 => ?_)
    ·
      skip
      rcases hcase with ⟨h0, hov, hoa, rfl, rfl⟩ | ⟨h0, _⟩
      rotate_left
      · exact (h0 (of_decide_eq_true bt10)).elim
      simp only at h0
      ·
        repeat (refine awp_seq ?_)
        refine awp_draw 0 (by kernel_rfl) ?_
        refine d_take (bm := [0, 1, 3, 7, 0, 31, 63, 127, 127, 127, 255, 2047]) 5 (fresh := 0) (by kernel_rfl) (by simp only [jD, jO, jN, seval, y28, y37, y57, y62, vint, ksE_cells, kE_cells, ksE_drop1, kE_drop1, r2, r6, hdL, hdb, kE, qvE, gd, gs, gc, g2] <;> with_reducible rfl) (by decide) (by decide) ?_
        refine dops_keep (bm := [0, 1, 3, 7, 0, 31, 63, 127, 127, 127, 255, 2047]) ([cx.ix.s, cx.ix.c]) (by kernel_rfl) (by simp only [jC, jN, seval, vint, ksE_cells, kE_cells, ksE_drop1, kE_drop1, r2, r6, hdL, hdb, kE, qvE, gd, gs, gc, g2] <;> with_reducible rfl) (by simp only [jC, jN, seval, vint, ksE_cells, kE_cells, ksE_drop1, kE_drop1, r2, r6, hdL, hdb, kE, qvE, gd, gs, gc, g2]) (by decide) Trygo29 (fun H' hr => inGet (by rw [hr _ (by simp)]; exact getL hsto _) (by rw [hr _ (by simp)]; exact getL hce _) (k1, k2, k3) _ (hcv _) (lim8 (D.okc _))) (by simp only [jD, jO, jN, seval, vint, ksE_cells, kE_cells, ksE_drop1, kE_drop1, r2, r6, hdL, hdb, kE, qvE, gd, gs, gc, g2] <;> first | done | rfl) ?_
        refine d_end (bm := [0, 1, 3, 7, 0, 31, 63, 127, 127, 127, 255, 2047]) (fresh := 0) (by kernel_rfl) (by simp only [jD, jO, jN, seval, y41, vint, ksE_cells, kE_cells, ksE_drop1, kE_drop1, r2, r6, hdL, hdb, kE, qvE, gd, gs, gc, g2] <;> with_reducible rfl) (by decide) ?_
        exact ⟨((st.cell (k1, k2, k3)).val, (st.cell (k1, k2, k3)).d, st), by repeat (first | exact trivial | refine ⟨rfl, ?_⟩), rfl, rfl, hoa, ⟨F, hR.app hx _, FrS.app _ _ _ hlt, fun h => by have := hlt _ h; omega, fun h => by have := hlt _ h; omega, fun h => by have := hlt _ h; omega⟩, by simp, by simp, by simp⟩
    ·
      skip
      rcases hcase with ⟨h0, _⟩ | ⟨h0, o1, st1, hu1, hcs⟩
      · exact (of_decide_eq_false bt10 h0).elim
      simp only at h0
      ·
        repeat (refine awp_seq ?_)
        refine awp_region ?_
        refine e_take 2 (by simp only [jA, jO, jN, seval, y28, y37, vint, ksE_cells, kE_cells, ksE_drop1, kE_drop1, r2, r6, hdL, hdb, kE] <;> with_reducible rfl) (by decide) ?_
        refine aops_xc (by simp only [jC, jN, seval, vint, ksE_cells, kE_cells, ksE_drop1, kE_drop1, r2, r6, hdL, hdb, kE] <;> rfl) (by simp only [jC, jN, seval, vint, ksE_cells, kE_cells, ksE_drop1, kE_drop1, r2, r6, hdL, hdb, kE]) (by decide) Trygo32 (hU act (k1, k2, k3) loc st G _ o1 st1 h0 hu1 (hW.app hx _)) ?_ (fun HP ⟨ho, loc', act', G', w', f'⟩ => Or.inr ⟨rfl, by rcases hcs with ⟨_, h, h2⟩ | ⟨r, h, _⟩ <;> first | exact ⟨by rw [h]; rfl, G', .inr ⟨by rw [h2], loc', act', by rw [h2]; exact w'⟩, f'.of_app.sub fun id hi => by rw [hFG]; exact .inl hi⟩ | (rw [ho] at h; cases h)⟩)
        rintro rv H1 ⟨rec, loc2, G2, rfl, rfl, w2, f2, l2⟩
        obtain ⟨hov, hoa, rfl, rfl⟩ : okV rec.val = true ∧ okA a = true ∧ o = some rec.val ∧ s' = ((a.add (k1, k2, k3) rec.D, st1), false) := by
          rcases hcs with ⟨h, _⟩ | ⟨r, h, h1, h2, h3, h4⟩
          · cases h
          · injection h with h; subst h; exact ⟨h1, h2, h3, h4⟩
        obtain ⟨F2, D2, _, _, hG2, _⟩ := id w2
        obtain ⟨⟨tl2, lu2, rr2⟩, _⟩ := D2.recs _ _ (hu.res _ _ _ _ _ hu1)
        simp only [recC] at rr2
        have hnG : ∀ n, ¬ G (H.length + n) := fun n h => by have := hW.lt hx _ h; omega
        have e0 := (f2.get (id := H.length) (o := .row [vint k1, vint k2, vint k3]) (by simp) (hnG 0)).1
        have e1 := (f2.get (id := H.length + 1) (o := .row [.slice [] .full, .str []]) (by simp) (hnG 1)).1
        have e2 := (f2.get (id := H.length + 2) (o := .row [.slice [] .full, .str []]) (by simp) (hnG 2)).1
        obtain ⟨F5, hR5, f5, n5⟩ := hR.got ⟨nGr, nG2, nG6, nGt⟩ hFG w2 (fun q hq => (l2 q hq).trans (hloc q hq)) f2.of_app
        have hnF : ∀ n, n < 3 → ¬ F5 (H.length + n) := fun n hn h => (n5 _ h).elim (fun h => hnG n (f2.ids _ h (by simp; omega))) (fun h => by have := hlt _ h; omega)
        have hl2 : loc2 (k1, k2, k3) ≠ H.length + 2 := fun e => by
          have h1 := (D2.recs _ _ (hu.res _ _ _ _ _ hu1)).2.1
          have h2 : G2 (loc2 (k1, k2, k3)) := by rw [hG2]; exact .inl h1
          exact hnG 2 (f2.ids _ (e ▸ h2) (by simp))
        have hne6 : (H.length + 2 == loc2 (k1, k2, k3)) = false := by simpa using Ne.symm hl2
        have he2 : (H.length + 2 = H1.length) = False := by have := len_of_get e2; simp; omega
        refine e_end (by simp only [jA, jO, jN, seval, vint, ksE_cells, kE_cells, ksE_drop1, kE_drop1, r2, r6, hdL, hdb, kE, rr2, e0, e1, e2, he2] <;> with_reducible rfl) (by decide) ?_
        repeat (refine awp_seq ?_)
        refine awp_draw 0 (by kernel_rfl) ?_
        refine d_take (bm := [0, 1, 3, 7, 15, 0, 32, 96, 224, 31, 1023]) 4 (fresh := 0) (by kernel_rfl) (by simp only [jD, jO, jN, seval, y41, y84, vint, ksE_cells, kE_cells, ksE_drop1, kE_drop1, r2, r6, hdL, hdb, kE, rr2, e0, e1, e2, he2, hne6] <;> with_reducible rfl) (by decide) (by decide) ?_
        refine dops_keep (bm := [0, 1, 3, 7, 15, 0, 32, 96, 224, 31, 1023]) ([]) (by kernel_rfl) (by simp only [jC, jN, seval, vint, ksE_cells, kE_cells, ksE_drop1, kE_drop1, r2, r6, hdL, hdb, kE, rr2, e0, e1, e2, he2, hne6] <;> with_reducible rfl) (by simp only [jC, jN, seval, vint, ksE_cells, kE_cells, ksE_drop1, kE_drop1, r2, r6, hdL, hdb, kE, rr2, e0, e1, e2, he2, hne6]) (by decide) Trygo31 (fun H' _ => meClone rec.val.nums rec.val.text (lim8 (by simpa [okV] using hov)) H') (by simp only [jD, jO, jN, seval, vint, ksE_cells, kE_cells, ksE_drop1, kE_drop1, r2, r6, hdL, hdb, kE, rr2, e0, e1, e2, he2, hne6] <;> first | done | rfl) ?_
        refine d_end (bm := [0, 1, 3, 7, 15, 0, 32, 96, 224, 31, 1023]) (fresh := 0) (by kernel_rfl) (by simp only [jD, jO, jN, seval, y3, y41, y84, vint, ksE_cells, kE_cells, ksE_drop1, kE_drop1, r2, r6, hdL, hdb, kE, rr2, e0, e1, e2, he2, hne6] <;> with_reducible rfl) (by decide) ?_
        exact ⟨(rec.val, rec.D, st1), by repeat (first | exact trivial | refine ⟨rfl, ?_⟩), rfl, rfl, hoa, ⟨F5, hR5.fr hx fun id hi => List.getElem?_set_ne (by rintro rfl; exact hnF 2 (by omega) hi), f5.new (by omega) _, hnF 0 (by omega), hnF 1 (by omega), hnF 2 (by omega)⟩, set_lt e0 (by omega), set_lt e1 (by omega), List.getElem?_set_self (len_of_get e2)⟩
  · intro z H5 hg
    obtain ⟨v, dd, st5⟩ := z
    obtain ⟨ho, hs5, hoa, ⟨F5, hR5, f5, n0, n1, n2⟩, b3, b4, b5⟩ := hg
    simp only at ho hs5 hR5 b5
    have q2 := hR5.b2
    have q6 := hR5.b6
    have qr := hR5.row
    simp only [rrRow] at qr
    have hml : a.deps.length ≤ maxLen := by
      have em : maxLen = 9223372036854775807 := by decide
      have h1 : a.deps.length < lim := by simpa [okA] using hoa
      unfold lim at h1
      omega
    have q2L := getL q2
    have q6L := getL q6
    have qrL := getL qr
    have b3L := getL b3
    have b4L := getL b4
    have b5L := getL b5
    have hrl := len_of_get qr
    have nz : ∀ k, (rr = H5.length + k) = False := fun k => by simp; omega
    have nz0 : (rr = H5.length) = False := by simp; omega
    have nb1 : (H5.length == rr) = false := by simp; omega
    have nb2 : (rr == H5.length) = false := by simp; omega
    repeat (refine awp_seq ?_)
    refine dp_draw (by kernel_rfl) ?_
    refine dp_take 5 (by simp only [jP, jO, jN, seval, y37, y82, y84, y85, vint, ksE_cells, kE_cells, ksE_drop1, kE_drop1, r2, r6, hdL, hdb, kE, q2, q6, qr, b3, b4, b5, q2L, q6L, qrL, b3L, b4L, b5L, nz, nz0, nb1, nb2] <;> with_reducible rfl) (by decide) ?_
    refine dp_keep (by simp only [jE, jN, seval, vint, ksE_cells, kE_cells, ksE_drop1, kE_drop1, r2, r6, hdL, hdb, kE, q2, q6, qr, b3, b4, b5, q2L, q6L, qrL, b3L, b4L, b5L, nz, nz0, nb1, nb2] <;> with_reducible rfl) (by simp only [jE, jN, seval, vint, ksE_cells, kE_cells, ksE_drop1, kE_drop1, r2, r6, hdL, hdb, kE, q2, q6, qr, b3, b4, b5, q2L, q6L, qrL, b3L, b4L, b5L, nz, nz0, nb1, nb2] <;> with_reducible rfl) (by simp only [jE, jN, seval, vint, ksE_cells, kE_cells, ksE_drop1, kE_drop1, r2, r6, hdL, hdb, kE, q2, q6, qr, b3, b4, b5, q2L, q6L, qrL, b3L, b4L, b5L, nz, nz0, nb1, nb2]) (by decide) Trygo63 (fun hc => containsK a.deps (k1, k2, k3) hml _) ?_
    refine dp_end (by simp only [jP, jO, jN, seval, vint, ksE_cells, kE_cells, ksE_drop1, kE_drop1, r2, r6, hdL, hdb, kE, q2, q6, qr, b3, b4, b5, q2L, q6L, qrL, b3L, b4L, b5L, nz, nz0, nb1, nb2] <;> with_reducible rfl) (by decide) (by repeat (first | exact Fin.base _ | with_reducible apply Fin.keep | apply Fin.drop)) ?_
    repeat (refine awp_seq ?_)
    refine awp_cond rfl (by simp only [jN, seval, vint, ksE_cells, kE_cells, ksE_drop1, kE_drop1, r2, r6, hdL, hdb, kE, q2, q6, qr, b3, b4, b5, q2L, q6L, qrL, b3L, b4L, b5L, nz, nz0, nb1, nb2] <;> with_reducible rfl) (fun bt39 => ?_) (fun bt39 => ?_)
    ·
      have hnin : (k1, k2, k3) ∉ a.deps := by simpa using bt39
      rcases hR5.tk with ⟨hd0, rfl⟩ | ⟨t, rfl, ht, ht1, ht2, ht3⟩
      ·
        obtain ⟨deps, D⟩ := a
        simp only at hd0
        subst hd0
        have ha : ∀ fr HH, aappend ⟨true, 3, 24⟩ fr HH (.slice [] .full) (.slice [.agg [.int .i64 k1, .int .i64 k2, .int .i64 k3]] .full) = some (.slice [.agg [.int .i64 k1, .int .i64 k2, .int .i64 k3]] (.tok fr), some (fr, .buf 1 3)) := fun fr HH => app_K0 (k1, k2, k3) fr HH .full
        repeat (refine awp_seq ?_)
        refine x_draw 1 (n0 := H5.length) (by first | rfl | (simp only [List.length_append, List.length_cons, List.length_nil, Nat.reduceAdd, Nat.zero_add, r2, r6, hdL, hdb, kE, q2, q6, qr, b3, b4, b5, q2L, q6L, qrL, b3L, b4L, b5L, nz, nz0, nb1, nb2, ha]; done)) (by kernel_rfl) ?_
        refine x1_take 7 (by first | rfl | (simp only [List.length_append, List.length_cons, List.length_nil, Nat.reduceAdd, Nat.zero_add, r2, r6, hdL, hdb, kE, q2, q6, qr, b3, b4, b5, q2L, q6L, qrL, b3L, b4L, b5L, nz, nz0, nb1, nb2, ha]; done)) (by simp only [jP, jO, jN, seval, y37, y82, y84, y85, vint, ksE_cells, kE_cells, ksE_drop1, kE_drop1, r2, r6, hdL, hdb, kE, q2, q6, qr, b3, b4, b5, q2L, q6L, qrL, b3L, b4L, b5L, nz, nz0, nb1, nb2, ha] <;> with_reducible rfl) (by decide) (by decide) (by decide) ?_
        refine x_mid (by first | (simp only [LS, HS, List.append_assoc, List.cons_append, List.nil_append, r2, r6, hdL, hdb, kE, q2, q6, qr, b3, b4, b5, q2L, q6L, qrL, b3L, b4L, b5L, nz, nz0, nb1, nb2, ha] <;> with_reducible rfl) | rfl) ?_
        refine x2_end (bm := [0, 0, 2, 6, 14, 0, 32, 126, 255, 511, 1023]) (fresh := (H5.length)) (by kernel_rfl) (by simp only [jX, jO, jN, seval, y37, y82, y84, vint, ksE_cells, kE_cells, ksE_drop1, kE_drop1, r2, r6, hdL, hdb, kE, q2, q6, qr, b3, b4, b5, q2L, q6L, qrL, b3L, b4L, b5L, nz, nz0, nb1, nb2, ha] <;> with_reducible rfl) (by decide) (by repeat (first | exact Fin.base _ | with_reducible apply Fin.keep | apply Fin.drop)) ?_
        refine awp_sel [2, 4, 5, 6] (by simp only [jN, seval, vint, ksE_cells, kE_cells, ksE_drop1, kE_drop1, r2, r6, hdL, hdb, kE, q2, q6, qr, b3, b4, b5, q2L, q6L, qrL, b3L, b4L, b5L, nz, nz0, nb1, nb2, ha] <;> with_reducible rfl) ?_
        refine awp_abs (fun H6 => ∃ tl6 F6, RecS cx L act rr x2 x6 now tl6 ⟨[(k1, k2, k3)], D⟩ st5 F6 H6 ∧ FrS F F6 H H6 ∧ ¬ F6 (H.length + 1) ∧ ¬ F6 (H.length + 2) ∧ H6[H.length + 1]? = some (.row [.slice [] .full, .str []]) ∧ H6[H.length + 2]? = some (.row [.slice (v.nums.map vint) .none, .str v.text])) (⟨.tok H5.length, _, hR5.first hx (k1, k2, k3) rfl, ((f5.upd (by simp) fun id hid => List.getElem?_append_left (Nat.lt_of_lt_of_le hid f5.len)).more (fun id hi => hi.imp (fun h => h) (fun e => by rw [e]; exact f5.len))).set (.inl hR5.mem.1) _, fun h => h.elim n1 (fun e => by have := len_of_get b5; omega), fun h => h.elim n2 (fun e => by have := len_of_get b5; omega), set_lt (b4L _) (fun e => n1 (e ▸ hR5.mem.1)), set_lt (b5L _) (fun e => n2 (e ▸ hR5.mem.1))⟩) ?_
        rintro H6 ⟨tl6, F6, hR6, f6, n61, n62, c4, c5⟩
        have hadd : Acc.add ⟨[], D⟩ (k1, k2, k3) dd = ⟨[(k1, k2, k3)], min D dd⟩ := by simp [Acc.add]
        have gm : min ((D : Nat) : Int) (dd : Int) = ((min D dd : Nat) : Int) := by omega
        have s2 := hR6.b2
        have s6 := hR6.b6
        have srow := hR6.row
        simp only [rrRow] at srow
        have hrl6 := len_of_get srow
        obtain ⟨e61, e62, e63⟩ := hR6.ne
        have s2s : ∀ o, (H6.set rr o)[x2]? = some (.row [.optr cx.ix.d 0]) := fun o => set_lt s2 (Ne.symm e61)
        have s6s : ∀ o, (H6.set rr o)[x6]? = some (.row [.optr rr 0]) := fun o => set_lt s6 (Ne.symm e62)
        have srs : ∀ o, (H6.set rr o)[rr]? = some o := fun o => List.getElem?_set_self hrl6
        have c4s : ∀ o, (H6.set rr o)[H.length + 1]? = _ := fun o => set_lt c4 (fun e => n61 (e ▸ hR6.mem.1))
        have c5s : ∀ o, (H6.set rr o)[H.length + 2]? = _ := fun o => set_lt c5 (fun e => n62 (e ▸ hR6.mem.1))
        have mz : (rr = H6.length) = False := by simp; omega
        have mz1 : (H.length + 1 = H6.length) = False := by have := len_of_get c4; simp; omega
        have mz2 : ∀ o, ((H6.set rr o).length) = H6.length := fun o => by simp
        have mz3 : ∀ o o2, ((H6.set rr o).set (H.length + 1) o2)[H.length + 1]? = some o2 := fun o o2 => List.getElem?_set_self (by simp; exact len_of_get c4)
        ·
          repeat (refine awp_seq ?_)
          refine x_draw 0 (n0 := H6.length) (by first | rfl | (simp only [List.length_append, List.length_cons, List.length_nil, Nat.reduceAdd, Nat.zero_add, r2, r6, hdL, hdb, kE, q2, q6, qr, b3, b4, b5, q2L, q6L, qrL, b3L, b4L, b5L, nz, nz0, nb1, nb2, ha, s2, s6, srow, c4, c5, gm, s2s, s6s, srs, c4s, c5s, mz, mz1, mz2, mz3]; done)) (by kernel_rfl) ?_
          refine x1_take 9 (by first | rfl | (simp only [List.length_append, List.length_cons, List.length_nil, Nat.reduceAdd, Nat.zero_add, r2, r6, hdL, hdb, kE, q2, q6, qr, b3, b4, b5, q2L, q6L, qrL, b3L, b4L, b5L, nz, nz0, nb1, nb2, ha, s2, s6, srow, c4, c5, gm, s2s, s6s, srs, c4s, c5s, mz, mz1, mz2, mz3]; done)) (by simp only [jP, jO, jN, seval, y3, y84, y85, vint, ksE_cells, kE_cells, ksE_drop1, kE_drop1, r2, r6, hdL, hdb, kE, q2, q6, qr, b3, b4, b5, q2L, q6L, qrL, b3L, b4L, b5L, nz, nz0, nb1, nb2, ha, s2, s6, srow, c4, c5, gm, s2s, s6s, srs, c4s, c5s, mz, mz1, mz2, mz3] <;> with_reducible rfl) (by decide) (by decide) (by decide) ?_
          refine x_mid (by first | (simp only [LS, HS, List.append_assoc, List.cons_append, List.nil_append, r2, r6, hdL, hdb, kE, q2, q6, qr, b3, b4, b5, q2L, q6L, qrL, b3L, b4L, b5L, nz, nz0, nb1, nb2, ha, s2, s6, srow, c4, c5, gm, s2s, s6s, srs, c4s, c5s, mz, mz1, mz2, mz3] <;> with_reducible rfl) | rfl) ?_
          refine x2_end (bm := [0, 0, 2, 6, 14, 0, 62, 127, 255, 511]) (fresh := (H6.length)) (by kernel_rfl) (by simp only [jX, jO, jN, seval, y3, vint, ksE_cells, kE_cells, ksE_drop1, kE_drop1, r2, r6, hdL, hdb, kE, q2, q6, qr, b3, b4, b5, q2L, q6L, qrL, b3L, b4L, b5L, nz, nz0, nb1, nb2, ha, s2, s6, srow, c4, c5, gm, s2s, s6s, srs, c4s, c5s, mz, mz1, mz2, mz3] <;> with_reducible rfl) (by decide) (by repeat (first | exact Fin.base _ | with_reducible apply Fin.keep | apply Fin.drop)) ?_
          repeat (refine awp_seq ?_)
          refine e_eval (by simp only [jA, jO, jN, seval, y41, vint, ksE_cells, kE_cells, ksE_drop1, kE_drop1, r2, r6, hdL, hdb, kE, q2, q6, qr, b3, b4, b5, q2L, q6L, qrL, b3L, b4L, b5L, nz, nz0, nb1, nb2, ha, s2, s6, srow, c4, c5, gm, s2s, s6s, srs, c4s, c5s, mz, mz1, mz2, mz3] <;> with_reducible rfl) (by decide) ?_
          repeat (refine awp_seq ?_)
          refine awp_ret (Or.inl ⟨.inr rfl, _, (ares_cell 4 41 rfl Tryti41 (by decide) (by simp only [jL, jN, seval, vint, ksE_cells, kE_cells, ksE_drop1, kE_drop1, r2, r6, hdL, hdb, kE, q2, q6, qr, b3, b4, b5, q2L, q6L, qrL, b3L, b4L, b5L, nz, nz0, nb1, nb2, ha, s2, s6, srow, c4, c5, gm, s2s, s6s, srs, c4s, c5s, mz, mz1, mz2, mz3] <;> with_reducible rfl)), ?_⟩)
          rw [hs5, hadd]
          exact ⟨by rw [ho]; rfl, F6, .inl ⟨rfl, tl6, (hR6.dur hx (by show min _ dd ≤ 2; have := hR6.d2; simp only at this; omega)).fr hx fun id hid => List.getElem?_set_ne (fun (e : H.length + 1 = id) => n61 (e ▸ hid))⟩, (f6.set hR6.mem.1 _).new (by omega) _⟩
      ·
        have ha : ∀ fr, aappend ⟨true, 3, 24⟩ fr H5 (.slice (a.deps.map kE) (.tok t)) (.slice [.agg [.int .i64 k1, .int .i64 k2, .int .i64 k3]] .full) = some (.slice (a.deps.map kE ++ [.agg [.int .i64 k1, .int .i64 k2, .int .i64 k3]]) (.tok t), some (t, .buf (a.deps.length + 1) 3)) := fun fr => by have := app_Kt a.deps (k1, k2, k3) fr t H5 .full ht (by simpa [okA] using hoa); simpa [kE, vint] using this
        have htl := len_of_get ht
        have nt1 : (t == rr) = false := by simpa using ht1
        have nt2 : (rr == t) = false := by simpa using Ne.symm ht1
        have nt3 : (t = H5.length) = False := by simp; omega
        have nt4 : (rr = t) = False := by simpa using Ne.symm ht1
        have nt5 : (t = rr) = False := by simpa using ht1
        have nt6 : (t == x6) = false := by simpa using ht3
        have nt7 : (x6 == t) = false := by simpa using Ne.symm ht3
        have nt8 : ∀ o, (H5.set t o)[x6]? = some (.row [.optr rr 0]) := fun o => set_lt q6 (Ne.symm ht3)
        have nt9 : ∀ o, (H5.set t o)[rr]? = _ := fun o => set_lt qr (Ne.symm ht1)
        repeat (refine awp_seq ?_)
        refine awp_draw 0 (by kernel_rfl) ?_
        refine d_end (bm := [0, 0, 2, 6, 14, 0, 32, 126, 255, 511, 1023]) (fresh := (H5.length)) (by kernel_rfl) (by simp only [jD, jO, jN, seval, y37, y82, y84, y85, vint, ksE_cells, kE_cells, ksE_drop1, kE_drop1, r2, r6, hdL, hdb, kE, q2, q6, qr, b3, b4, b5, q2L, q6L, qrL, b3L, b4L, b5L, nz, nz0, nb1, nb2, ha, ht, nt1, nt2, nt3, nt4, nt5, nt6, nt7, nt8, nt9] <;> with_reducible rfl) (by decide) ?_
        refine awp_sel [2, 4, 5, 6] (by simp only [jN, seval, vint, ksE_cells, kE_cells, ksE_drop1, kE_drop1, r2, r6, hdL, hdb, kE, q2, q6, qr, b3, b4, b5, q2L, q6L, qrL, b3L, b4L, b5L, nz, nz0, nb1, nb2, ha, ht, nt1, nt2, nt3, nt4, nt5, nt6, nt7, nt8, nt9] <;> with_reducible rfl) ?_
        refine awp_abs (fun H6 => ∃ tl6 F6, RecS cx L act rr x2 x6 now tl6 ⟨a.deps ++ [(k1, k2, k3)], a.D⟩ st5 F6 H6 ∧ FrS F F6 H H6 ∧ ¬ F6 (H.length + 1) ∧ ¬ F6 (H.length + 2) ∧ H6[H.length + 1]? = some (.row [.slice [] .full, .str []]) ∧ H6[H.length + 2]? = some (.row [.slice (v.nums.map vint) .none, .str v.text])) (by have := hR5.next hx (k1, k2, k3) (by simpa [okA] using hoa); simp only [rrRow, List.map_append, List.map_cons, List.map_nil, kE, vint] at this; exact ⟨.tok t, _, this, (f5.set (hR5.mem.2.2.2 t rfl) _).set hR5.mem.1 _, n1, n2, set_lt (set_lt b4 (fun e => n1 (e ▸ hR5.mem.2.2.2 t rfl))) (fun e => n1 (e ▸ hR5.mem.1)), set_lt (set_lt b5 (fun e => n2 (e ▸ hR5.mem.2.2.2 t rfl))) (fun e => n2 (e ▸ hR5.mem.1))⟩) ?_
        rintro H6 ⟨tl6, F6, hR6, f6, n61, n62, c4, c5⟩
        have hadd : a.add (k1, k2, k3) dd = ⟨a.deps ++ [(k1, k2, k3)], min a.D dd⟩ := by simp [Acc.add, hnin]
        have gm : min ((a.D : Nat) : Int) (dd : Int) = ((min a.D dd : Nat) : Int) := by omega
        have s2 := hR6.b2
        have s6 := hR6.b6
        have srow := hR6.row
        simp only [rrRow] at srow
        have hrl6 := len_of_get srow
        obtain ⟨e61, e62, e63⟩ := hR6.ne
        have s2s : ∀ o, (H6.set rr o)[x2]? = some (.row [.optr cx.ix.d 0]) := fun o => set_lt s2 (Ne.symm e61)
        have s6s : ∀ o, (H6.set rr o)[x6]? = some (.row [.optr rr 0]) := fun o => set_lt s6 (Ne.symm e62)
        have srs : ∀ o, (H6.set rr o)[rr]? = some o := fun o => List.getElem?_set_self hrl6
        have c4s : ∀ o, (H6.set rr o)[H.length + 1]? = _ := fun o => set_lt c4 (fun e => n61 (e ▸ hR6.mem.1))
        have c5s : ∀ o, (H6.set rr o)[H.length + 2]? = _ := fun o => set_lt c5 (fun e => n62 (e ▸ hR6.mem.1))
        have mz : (rr = H6.length) = False := by simp; omega
        have mz1 : (H.length + 1 = H6.length) = False := by have := len_of_get c4; simp; omega
        have mz2 : ∀ o, ((H6.set rr o).length) = H6.length := fun o => by simp
        have mz3 : ∀ o o2, ((H6.set rr o).set (H.length + 1) o2)[H.length + 1]? = some o2 := fun o o2 => List.getElem?_set_self (by simp; exact len_of_get c4)
        ·
          repeat (refine awp_seq ?_)
          refine x_draw 0 (n0 := H6.length) (by first | rfl | (simp only [List.length_append, List.length_cons, List.length_nil, Nat.reduceAdd, Nat.zero_add, r2, r6, hdL, hdb, kE, q2, q6, qr, b3, b4, b5, q2L, q6L, qrL, b3L, b4L, b5L, nz, nz0, nb1, nb2, ha, ht, nt1, nt2, nt3, nt4, nt5, nt6, nt7, nt8, nt9, s2, s6, srow, c4, c5, gm, s2s, s6s, srs, c4s, c5s, mz, mz1, mz2, mz3]; done)) (by kernel_rfl) ?_
          refine x1_take 9 (by first | rfl | (simp only [List.length_append, List.length_cons, List.length_nil, Nat.reduceAdd, Nat.zero_add, r2, r6, hdL, hdb, kE, q2, q6, qr, b3, b4, b5, q2L, q6L, qrL, b3L, b4L, b5L, nz, nz0, nb1, nb2, ha, ht, nt1, nt2, nt3, nt4, nt5, nt6, nt7, nt8, nt9, s2, s6, srow, c4, c5, gm, s2s, s6s, srs, c4s, c5s, mz, mz1, mz2, mz3]; done)) (by simp only [jP, jO, jN, seval, y3, y84, y85, vint, ksE_cells, kE_cells, ksE_drop1, kE_drop1, r2, r6, hdL, hdb, kE, q2, q6, qr, b3, b4, b5, q2L, q6L, qrL, b3L, b4L, b5L, nz, nz0, nb1, nb2, ha, ht, nt1, nt2, nt3, nt4, nt5, nt6, nt7, nt8, nt9, s2, s6, srow, c4, c5, gm, s2s, s6s, srs, c4s, c5s, mz, mz1, mz2, mz3] <;> with_reducible rfl) (by decide) (by decide) (by decide) ?_
          refine x_mid (by first | (simp only [LS, HS, List.append_assoc, List.cons_append, List.nil_append, r2, r6, hdL, hdb, kE, q2, q6, qr, b3, b4, b5, q2L, q6L, qrL, b3L, b4L, b5L, nz, nz0, nb1, nb2, ha, ht, nt1, nt2, nt3, nt4, nt5, nt6, nt7, nt8, nt9, s2, s6, srow, c4, c5, gm, s2s, s6s, srs, c4s, c5s, mz, mz1, mz2, mz3] <;> with_reducible rfl) | rfl) ?_
          refine x2_end (bm := [0, 0, 2, 6, 14, 0, 62, 127, 255, 511]) (fresh := (H6.length)) (by kernel_rfl) (by simp only [jX, jO, jN, seval, y3, vint, ksE_cells, kE_cells, ksE_drop1, kE_drop1, r2, r6, hdL, hdb, kE, q2, q6, qr, b3, b4, b5, q2L, q6L, qrL, b3L, b4L, b5L, nz, nz0, nb1, nb2, ha, ht, nt1, nt2, nt3, nt4, nt5, nt6, nt7, nt8, nt9, s2, s6, srow, c4, c5, gm, s2s, s6s, srs, c4s, c5s, mz, mz1, mz2, mz3] <;> with_reducible rfl) (by decide) (by repeat (first | exact Fin.base _ | with_reducible apply Fin.keep | apply Fin.drop)) ?_
          repeat (refine awp_seq ?_)
          refine e_eval (by simp only [jA, jO, jN, seval, y41, vint, ksE_cells, kE_cells, ksE_drop1, kE_drop1, r2, r6, hdL, hdb, kE, q2, q6, qr, b3, b4, b5, q2L, q6L, qrL, b3L, b4L, b5L, nz, nz0, nb1, nb2, ha, ht, nt1, nt2, nt3, nt4, nt5, nt6, nt7, nt8, nt9, s2, s6, srow, c4, c5, gm, s2s, s6s, srs, c4s, c5s, mz, mz1, mz2, mz3] <;> with_reducible rfl) (by decide) ?_
          repeat (refine awp_seq ?_)
          refine awp_ret (Or.inl ⟨.inr rfl, _, (ares_cell 4 41 rfl Tryti41 (by decide) (by simp only [jL, jN, seval, vint, ksE_cells, kE_cells, ksE_drop1, kE_drop1, r2, r6, hdL, hdb, kE, q2, q6, qr, b3, b4, b5, q2L, q6L, qrL, b3L, b4L, b5L, nz, nz0, nb1, nb2, ha, ht, nt1, nt2, nt3, nt4, nt5, nt6, nt7, nt8, nt9, s2, s6, srow, c4, c5, gm, s2s, s6s, srs, c4s, c5s, mz, mz1, mz2, mz3] <;> with_reducible rfl)), ?_⟩)
          rw [hs5, hadd]
          exact ⟨by rw [ho]; rfl, F6, .inl ⟨rfl, tl6, (hR6.dur hx (by show min _ dd ≤ 2; have := hR6.d2; simp only at this; omega)).fr hx fun id hid => List.getElem?_set_ne (fun (e : H.length + 1 = id) => n61 (e ▸ hid))⟩, (f6.set hR6.mem.1 _).new (by omega) _⟩
    ·
      have hin : (k1, k2, k3) ∈ a.deps := by simpa using bt39
      repeat (refine awp_seq ?_)
      refine awp_skip ?_
      refine awp_abs (fun H6 => ∃ tl6 F6, RecS cx L act rr x2 x6 now tl6 ⟨a.deps, a.D⟩ st5 F6 H6 ∧ FrS F F6 H H6 ∧ ¬ F6 (H.length + 1) ∧ ¬ F6 (H.length + 2) ∧ H6[H.length + 1]? = some (.row [.slice [] .full, .str []]) ∧ H6[H.length + 2]? = some (.row [.slice (v.nums.map vint) .none, .str v.text])) (⟨tl, _, hR5, f5, n1, n2, b4, b5⟩) ?_
      rintro H6 ⟨tl6, F6, hR6, f6, n61, n62, c4, c5⟩
      have hadd : a.add (k1, k2, k3) dd = ⟨a.deps, min a.D dd⟩ := by simp [Acc.add, hin]
      have gm : min ((a.D : Nat) : Int) (dd : Int) = ((min a.D dd : Nat) : Int) := by omega
      have s2 := hR6.b2
      have s6 := hR6.b6
      have srow := hR6.row
      simp only [rrRow] at srow
      have hrl6 := len_of_get srow
      obtain ⟨e61, e62, e63⟩ := hR6.ne
      have s2s : ∀ o, (H6.set rr o)[x2]? = some (.row [.optr cx.ix.d 0]) := fun o => set_lt s2 (Ne.symm e61)
      have s6s : ∀ o, (H6.set rr o)[x6]? = some (.row [.optr rr 0]) := fun o => set_lt s6 (Ne.symm e62)
      have srs : ∀ o, (H6.set rr o)[rr]? = some o := fun o => List.getElem?_set_self hrl6
      have c4s : ∀ o, (H6.set rr o)[H.length + 1]? = _ := fun o => set_lt c4 (fun e => n61 (e ▸ hR6.mem.1))
      have c5s : ∀ o, (H6.set rr o)[H.length + 2]? = _ := fun o => set_lt c5 (fun e => n62 (e ▸ hR6.mem.1))
      have mz : (rr = H6.length) = False := by simp; omega
      have mz1 : (H.length + 1 = H6.length) = False := by have := len_of_get c4; simp; omega
      have mz2 : ∀ o, ((H6.set rr o).length) = H6.length := fun o => by simp
      have mz3 : ∀ o o2, ((H6.set rr o).set (H.length + 1) o2)[H.length + 1]? = some o2 := fun o o2 => List.getElem?_set_self (by simp; exact len_of_get c4)
      ·
        repeat (refine awp_seq ?_)
        refine x_draw 0 (n0 := H6.length) (by first | rfl | (simp only [List.length_append, List.length_cons, List.length_nil, Nat.reduceAdd, Nat.zero_add, r2, r6, hdL, hdb, kE, q2, q6, qr, b3, b4, b5, q2L, q6L, qrL, b3L, b4L, b5L, nz, nz0, nb1, nb2, s2, s6, srow, c4, c5, gm, s2s, s6s, srs, c4s, c5s, mz, mz1, mz2, mz3]; done)) (by kernel_rfl) ?_
        refine x1_take 9 (by first | rfl | (simp only [List.length_append, List.length_cons, List.length_nil, Nat.reduceAdd, Nat.zero_add, r2, r6, hdL, hdb, kE, q2, q6, qr, b3, b4, b5, q2L, q6L, qrL, b3L, b4L, b5L, nz, nz0, nb1, nb2, s2, s6, srow, c4, c5, gm, s2s, s6s, srs, c4s, c5s, mz, mz1, mz2, mz3]; done)) (by simp only [jP, jO, jN, seval, y3, y84, y85, vint, ksE_cells, kE_cells, ksE_drop1, kE_drop1, r2, r6, hdL, hdb, kE, q2, q6, qr, b3, b4, b5, q2L, q6L, qrL, b3L, b4L, b5L, nz, nz0, nb1, nb2, s2, s6, srow, c4, c5, gm, s2s, s6s, srs, c4s, c5s, mz, mz1, mz2, mz3] <;> with_reducible rfl) (by decide) (by decide) (by decide) ?_
        refine x_mid (by first | (simp only [LS, HS, List.append_assoc, List.cons_append, List.nil_append, r2, r6, hdL, hdb, kE, q2, q6, qr, b3, b4, b5, q2L, q6L, qrL, b3L, b4L, b5L, nz, nz0, nb1, nb2, s2, s6, srow, c4, c5, gm, s2s, s6s, srs, c4s, c5s, mz, mz1, mz2, mz3] <;> with_reducible rfl) | rfl) ?_
        refine x2_end (bm := [0, 0, 2, 6, 14, 0, 62, 127, 255, 511]) (fresh := (H6.length)) (by kernel_rfl) (by simp only [jX, jO, jN, seval, y3, vint, ksE_cells, kE_cells, ksE_drop1, kE_drop1, r2, r6, hdL, hdb, kE, q2, q6, qr, b3, b4, b5, q2L, q6L, qrL, b3L, b4L, b5L, nz, nz0, nb1, nb2, s2, s6, srow, c4, c5, gm, s2s, s6s, srs, c4s, c5s, mz, mz1, mz2, mz3] <;> with_reducible rfl) (by decide) (by repeat (first | exact Fin.base _ | with_reducible apply Fin.keep | apply Fin.drop)) ?_
        refine awp_sel [4, 5] (by simp only [jN, seval, vint, ksE_cells, kE_cells, ksE_drop1, kE_drop1, r2, r6, hdL, hdb, kE, q2, q6, qr, b3, b4, b5, q2L, q6L, qrL, b3L, b4L, b5L, nz, nz0, nb1, nb2, s2, s6, srow, c4, c5, gm, s2s, s6s, srs, c4s, c5s, mz, mz1, mz2, mz3] <;> with_reducible rfl) ?_
        repeat (refine awp_seq ?_)
        refine e_eval (by simp only [jA, jO, jN, seval, y41, vint, ksE_cells, kE_cells, ksE_drop1, kE_drop1, r2, r6, hdL, hdb, kE, q2, q6, qr, b3, b4, b5, q2L, q6L, qrL, b3L, b4L, b5L, nz, nz0, nb1, nb2, s2, s6, srow, c4, c5, gm, s2s, s6s, srs, c4s, c5s, mz, mz1, mz2, mz3] <;> with_reducible rfl) (by decide) ?_
        repeat (refine awp_seq ?_)
        refine awp_ret (Or.inl ⟨.inr rfl, _, (ares_cell 4 41 rfl Tryti41 (by decide) (by simp only [jL, jN, seval, vint, ksE_cells, kE_cells, ksE_drop1, kE_drop1, r2, r6, hdL, hdb, kE, q2, q6, qr, b3, b4, b5, q2L, q6L, qrL, b3L, b4L, b5L, nz, nz0, nb1, nb2, s2, s6, srow, c4, c5, gm, s2s, s6s, srs, c4s, c5s, mz, mz1, mz2, mz3] <;> with_reducible rfl)), ?_⟩)
        rw [hs5, hadd]
        exact ⟨by rw [ho]; rfl, F6, .inl ⟨rfl, tl6, (hR6.dur hx (by show min _ dd ≤ 2; have := hR6.d2; simp only at this; omega)).fr hx fun id hid => List.getElem?_set_ne (fun (e : H.length + 1 = id) => n61 (e ▸ hid))⟩, (f6.set hR6.mem.1 _).new (by omega) _⟩
end Go.Abs
namespace Go.Abs
open Go.Proofs Go.Memo
theorem wrap64_eq (n : Int) : IntKind.i64.wrap n = wrap64 n := by
  rw [Go.IntKind.wrap_i64]; rfl
section
variable {cx : Cx} (hx : CxOk cx) {loc L : QK → Nat} {act : List QK} {rr x2 x6 now : Nat} {tl : Tail} {a : Acc} {st : St} {b : Bool} {G F : FPl} {H : Heap}
include hx
omit hx in
theorem WR.stopped {H1 : Heap} {b' : Bool} (h : WR cx loc act st b G H) (f : FrS cx.FX cx.FX H H1) (hI : cx.I b' H1) : WR cx loc act st b' G H1 ∧ FrS G G H H1 := by
  obtain ⟨F, h1, h2, h3, rfl, h4⟩ := h
  refine ⟨⟨F, h1.fr fun id hi => f.same id (h1.lt id hi) (h3 id hi), hI, h3, rfl, fun e he => ⟨?_, (h4 e he).2⟩⟩, f.len, fun id h5 h6 => f.same id h5 fun h7 => h6 (.inr (.inl h7)), fun id hi _ => hi⟩
  rw [f.same e.1 (len_of_get (h4 e he).1) (h4 e he).2.2]; exact (h4 e he).1
theorem RecS.start (h : WR cx loc act st false G H) (b2 : H[x2]? = some (.row [.optr cx.ix.d 0])) (n2 : ¬ G x2) :
    RecS cx loc act H.length x2 (H.length + 1) st.now .full ⟨[], 2⟩ st (fun id => G id ∨ id = H.length ∨ id = x2 ∨ id = H.length + 1 ∨ Tail.full = .tok id) (H ++ [rrRow st.now ⟨[], 2⟩ .full, .row [.optr H.length 0]]) := by
  have hl := h.lt hx
  have h2 := len_of_get b2
  refine ⟨⟨loc, G, h.app hx _, fun _ _ => rfl, fun hg => ?_, n2, fun hg => ?_, (fun t e => by cases e), rfl⟩, by simp, getL b2 _, by simp, ⟨by omega, by omega, by omega⟩, .inl ⟨rfl, rfl⟩, Nat.le_refl _, Nat.zero_le _⟩
  · have := hl _ hg; omega
  · have := hl _ hg; omega
theorem RecS.finish (h : RecS cx L act rr x2 x6 now tl a st F H) {k : QK} {v : QV} {c : Nat} (hv : okV v = true) {H5 : Heap} (hs : ∀ id, id ≠ rr → H5[id]? = H[id]?) (hl5 : H5.length = H.length) (hr : H5[rr]? = some (.row (recC ⟨v, now, c, a.D, a.deps⟩ tl 0)))
    {es : List GE} {clk : Nat} (hm : H5[cx.ix.m]? = some (.obj (.mapg es clk))) (n clock : Int) (hck : clock = wrap64 (st.clk : Int)) :
    ∃ loc' G', WR cx loc' act { st with res := setF st.res k (some ⟨v, now, c, a.D, a.deps⟩), comps := n } false G' ((H5.set cx.ix.m (.obj (.mapg (gset es clk k (.optr rr 0)) (gclk es clk k)))).set cx.ix.d (.row [cx.ix.cf, .optr cx.ix.s 0, .mapp cx.ix.m, .mapp cx.ix.a, cx.ix.stp, vint n, vint clock])) ∧
      loc' k = rr ∧ (∀ q ∈ act, q ≠ k → loc' q = L q) ∧ ∀ id, G' id → F id := by
  obtain ⟨loc, G, ⟨F0, D, hI, hdis, hG, henv⟩, hL, nr, _, _, _, hF⟩ := h.w
  have nrF : ¬ F0 rr := fun hf => nr (by rw [hG]; exact .inl hf)
  have nrX : ¬ cx.FX rr := fun hf => nr (by rw [hG]; exact .inr (.inl hf))
  have nrE : ∀ e ∈ cx.env, e.1 ≠ rr := fun e he e2 => nr (by rw [hG]; exact .inr (.inr ⟨e, he, e2⟩))
  have D1 : DbR cx.ix loc act st F0 H5 := D.fr fun id hi => hs id fun e => nrF (e ▸ hi)
  have D2 := D1.put hm k hr nrF (by simpa [okV] using hv) h.dl h.d2 ⟨0, Nat.zero_le _, rfl⟩
  have D3 := D2.dbrow cx.ix.stp n clock st.clk (Nat.le_refl _) hck
  obtain ⟨o1, o2, o3, o4, o5⟩ := D.own
  have hset : ∀ id, id ≠ rr → ¬ F0 id → ∀ o o2, ((H5.set cx.ix.m o).set cx.ix.d o2)[id]? = H[id]? := fun id h1 h2 o o2 => by
    rw [List.getElem?_set_ne (by rintro rfl; exact h2 o1), List.getElem?_set_ne (by rintro rfl; exact h2 o3)]
    exact hs id h1
  refine ⟨_, _, ⟨_, D3, hx.istab _ _ _ hI fun id hi => hset id (fun e => nrX (e ▸ hi)) (fun hf => hdis id hf hi) _ _, ?_, rfl, fun e he => ⟨?_, ?_⟩⟩, if_pos rfl, fun q hq hn => (if_neg hn).trans (hL q hq), ?_⟩
  · rintro id (hi | rfl)
    · exact hdis id hi
    · exact nrX
  · rw [hset e.1 (nrE e he) (henv e he).2.1]; exact (henv e he).1
  · exact ⟨fun hf => hf.elim (henv e he).2.1 (nrE e he), (henv e he).2.2⟩
  · rintro id ((hi | rfl) | hi | hi)
    · rw [hF, hG]; exact .inl (.inl hi)
    · exact h.mem.1
    · rw [hF, hG]; exact .inl (.inr (.inl hi))
    · rw [hF, hG]; exact .inl (.inr (.inr hi))
end
end Go.Abs
set_option maxHeartbeats 1000000
namespace Go.Abs
open Go.Proofs Go.Memo
theorem qv_ext (a b : QV) (h1 : a.nums = b.nums) (h2 : a.text = b.text) : a = b := by
  cases a; cases b; cases h1; cases h2; rfl
theorem recompute_c {cx : Cx} (hx : CxOk cx) {u : List QK → QK → St → Out Rec} (hu : UOk u) (hU : UpdC cx u) (act : List QK) (k : QK) (hk : k.1 ≠ 0) (hka : k ∉ act) (loc : QK → Nat) (st : St) (G : FPl) (H : Heap) (o : Option Rec) (st' : St) (hm : recomp (u (k :: act)) cx.stpf cx.cp k st = some (o, st')) (hW : WR cx loc (k :: act) st false G H) : XCalls Try.prog chC 47 [.optr cx.ix.d 0, kE k] H (fun r H' => ∃ rec loc' G', o = some rec ∧ r = .optr (loc' k) 0 ∧ WR cx loc' (k :: act) st' false G' H' ∧ FrS G G' H H' ∧ ∀ q ∈ act, loc' q = loc q) (fun H' => o = none ∧ ∃ loc' act' G', WR cx loc' act' st' true G' H' ∧ FrS G G' H H') := by
  obtain ⟨F, D, hI, hdis, hG, henv⟩ := id hW
  obtain ⟨clock, hdb⟩ := D.db
  have hdL := getL hdb
  have hlt := hW.lt hx
  obtain ⟨k1, k2, k3⟩ := k
  unfold recomp at hm
  refine xcalls_of (N := 93) Try.func47 rfl rfl (by simp) fun hb' => ?_
  repeat (refine awp_seq ?_)
  refine e_eval (by simp only [jA, jO, jN, seval, y28, y37, vint, ksE_cells, kE_cells, ksE_drop1, kE_drop1, hdL, hdb, kE] <;> with_reducible rfl) (by decide) ?_
  repeat (refine awp_seq ?_)
  refine awp_joinX (σ := Unit) (fun (z : Unit) => [(2, .optr H.length 0), (3, .optr (H.length + 1) 0), (19, .bool (cx.stpf st.comps))]) (fun (z : Unit) =>  fun H1 => WR cx loc ((k1, k2, k3) :: act) st (cx.stpf st.comps) G H1 ∧ FrS G G H H1 ∧ H1[H.length]? = some (.row [.optr cx.ix.d 0]) ∧ H1[H.length + 1]? = some (.row [vint k1, vint k2, vint k3])) ?_ ?_
  · -- to the meeting
    rcases hx.stop with ⟨hs1, hs2⟩ | ⟨f, caps, hs1, hgo, hs⟩
    ·
      repeat (refine awp_seq ?_)
      refine awp_region ?_
      refine e_take 4 (by simp only [jA, jO, jN, seval, y26, y28, y62, vint, ksE_cells, kE_cells, ksE_drop1, kE_drop1, hdL, hdb, kE, hs1] <;> with_reducible rfl) (by decide) ?_
      refine aops_fncmp (op := .neq) rfl (.inr rfl) (by simp only [jC, jN, seval, vint]) (by decide) Try.underlying26 (f := .func 0) (pf := []) (pc := []) (v := true) (.inr ⟨by simp only [jC, jN, seval, vint, ksE_cells, kE_cells, ksE_drop1, kE_drop1, hs1] <;> rfl, rfl⟩) ?_
      refine e_take 5 (by simp only [jA, jO, jN, seval, y26, y28, y62, vint, ksE_cells, kE_cells, ksE_drop1, kE_drop1, hdL, hdb, kE, hs1] <;> with_reducible rfl) (by decide) ?_
      refine aops_skip (by simp only [jC, jN, seval, vint]) ?_
      refine e_end (by simp only [jA, jO, jN, seval, vint, ksE_cells, kE_cells, ksE_drop1, kE_drop1, hdL, hdb, kE, hs1] <;> with_reducible rfl) (by decide) ?_
      exact ⟨(), by rw [hs2]; repeat (first | exact trivial | refine ⟨rfl, ?_⟩), by rw [hs2]; exact hW.app hx _, FrS.app _ _ _ hlt, by simp, by simp⟩
    ·
      repeat (refine awp_seq ?_)
      refine awp_region ?_
      refine e_take 4 (by simp only [jA, jO, jN, seval, y26, y28, y62, vint, ksE_cells, kE_cells, ksE_drop1, kE_drop1, hdL, hdb, kE, hs1] <;> with_reducible rfl) (by decide) ?_
      refine aops_fncmp (op := .neq) rfl (.inr rfl) (by simp only [jC, jN, seval, vint]) (by decide) Try.underlying26 (v := false) (.inl ⟨by simp only [jC, jN, seval, vint, ksE_cells, kE_cells, ksE_drop1, kE_drop1, hs1] <;> rfl, rfl⟩) ?_
      refine e_take 5 (by simp only [jA, jO, jN, seval, y26, y28, y62, vint, ksE_cells, kE_cells, ksE_drop1, kE_drop1, hdL, hdb, kE, hs1] <;> with_reducible rfl) (by decide) ?_
      obtain ⟨FA, DA, hIA, hdA, hGA, heA⟩ := hW.app hx [AObj.row [PV.optr cx.ix.d 0], AObj.row [PV.int .i64 k1, .int .i64 k2, .int .i64 k3]]
      refine aops_acall (by simp only [jC, jN, seval, vint] <;> rfl) (by simp only [jC, jN, seval, vint]) (by decide) hgo (hs loc _ st FA _ DA hIA hdA) ?_
      rintro _ H1 ⟨rfl, hI1, f1⟩
      obtain ⟨W1, g1⟩ := (hW.app hx _).stopped f1 hI1
      have c2 : ¬ cx.FX H.length := fun h => by have := hx.ilt _ _ hI _ h; omega
      have c3 : ¬ cx.FX (H.length + 1) := fun h => by have := hx.ilt _ _ hI _ h; omega
      refine e_end (by simp only [jA, jO, jN, seval, vint, ksE_cells, kE_cells, ksE_drop1, kE_drop1, hdL, hdb, kE, hs1] <;> with_reducible rfl) (by decide) ?_
      exact ⟨(), by repeat (first | exact trivial | refine ⟨rfl, ?_⟩), W1, g1.of_app, (f1.get (by simp) c2).1, (f1.get (by simp) c3).1⟩
  · intro z H1 hg
    obtain ⟨W1, f1, b2, b3⟩ := hg
    cases hsb : cx.stpf st.comps with
    | true =>
      rw [if_pos hsb] at hm
      injection hm with hm
      injection hm with h1 h2
      subst h1
      subst h2
      rw [hsb] at W1
      repeat (refine awp_seq ?_)
      refine awp_cond_true rfl (by simp only [jN, seval, vint, ksE_cells, kE_cells, ksE_drop1, kE_drop1] <;> with_reducible rfl) ?_
      repeat (refine awp_seq ?_)
      refine awp_region ?_
      refine e_take 1 (by simp only [jA, jO, jN, seval, y79, vint, ksE_cells, kE_cells, ksE_drop1, kE_drop1] <;> with_reducible rfl) (by decide) ?_
      refine aops_iface1 (n := 12) rfl (by simp only [jC, jN, seval, vint]) (by decide) Try.underlying79 (by simp) (by simp only [jC, jN, seval, vint] <;> rfl) ?_
      refine aops_panic rfl (by simp only [jC, jN, seval, vint]) (by decide) (by simp only [jC, jN, seval, vint] <;> rfl) ?_
      exact Or.inr ⟨rfl, rfl, loc, _, G, W1, f1⟩
    | false => ?_
    rw [hsb] at W1
    rw [if_neg (by rw [hsb]; simp)] at hm
    obtain ⟨F1, D1, _⟩ := id W1
    have hsto := D1.sto
    have nG0 : ¬ G H.length := fun h => by have := hlt _ h; omega
    have nG1 : ¬ G (H.length + 1) := fun h => by have := hlt _ h; omega
    have b2L := getL b2
    obtain ⟨clock1, hdb1⟩ := D1.db
    have hd1L := getL hdb1
    repeat (refine awp_seq ?_)
    refine awp_cond_false rfl (by simp only [jN, seval, vint, ksE_cells, kE_cells, ksE_drop1, kE_drop1, hdL, hdb, kE, b2, b3, b2L, hdb1, hd1L, hsb] <;> with_reducible rfl) ?_
    repeat (refine awp_seq ?_)
    refine awp_skip ?_
    repeat (refine awp_seq ?_)
    refine awp_region ?_
    refine e_take 4 (by simp only [jA, jO, jN, seval, y28, y57, y62, vint, ksE_cells, kE_cells, ksE_drop1, kE_drop1, hdL, hdb, kE, b2, b3, b2L, hdb1, hd1L] <;> with_reducible rfl) (by decide) ?_
    refine aops_pure (by simp only [jC, jN, seval, vint, ksE_cells, kE_cells, ksE_drop1, kE_drop1, hdL, hdb, kE, b2, b3, b2L, hdb1, hd1L] <;> with_reducible rfl) (by simp only [jC, jN, seval, vint, ksE_cells, kE_cells, ksE_drop1, kE_drop1, hdL, hdb, kE, b2, b3, b2L, hdb1, hd1L]) (by decide) Trygo48 (revision_c hsto) ?_
    refine e_end (by simp only [jA, jO, jN, seval, vint, ksE_cells, kE_cells, ksE_drop1, kE_drop1, hdL, hdb, kE, b2, b3, b2L, hdb1, hd1L] <;> with_reducible rfl) (by decide) ?_
    repeat (refine awp_seq ?_)
    refine e_eval (by simp only [jA, jO, jN, seval, y84, y85, vint, ksE_cells, kE_cells, ksE_drop1, kE_drop1, hdL, hdb, kE, b2, b3, b2L, hdb1, hd1L] <;> with_reducible rfl) (by decide) ?_
    obtain ⟨F2, hF2⟩ : ∃ F2 : FPl, F2 = fun id => G id ∨ id = H1.length ∨ id = H.length ∨ id = H1.length + 1 ∨ Tail.full = .tok id := ⟨_, rfl⟩
    refine awp_abs (fun H2 => RecS cx loc ((k1, k2, k3) :: act) H1.length H.length (H1.length + 1) st.now .full ⟨[], 2⟩ st F2 H2 ∧ FrS G F2 H H2 ∧ H2[H.length + 1]? = some (.row [vint k1, vint k2, vint k3]) ∧ H1.length < H2.length ∧ ∀ e ∈ cx.env, H2[e.1]? = some e.2) ⟨by rw [hF2]; exact RecS.start hx W1 b2 nG0, ?_, by exact getL b3 _, by simp, fun e he => by obtain ⟨_, _, _, _, _, h6⟩ := W1; exact getL (h6 e he).1 _⟩ ?_
    · refine (f1.upd (by simp) fun id hid => List.getElem?_append_left (Nat.lt_of_lt_of_le hid f1.len)).more fun id hi => ?_
      rw [hF2] at hi
      have h0 := f1.len
      rcases hi with hi | hi | hi | hi | hi
      · exact .inl hi
      · exact .inr (by omega)
      · exact .inr (by omega)
      · exact .inr (by omega)
      · cases hi
    rintro H2 ⟨R2, f02, skey, hl12, henv2⟩
    have s2 := R2.b2
    have s6 := R2.b6
    have srow := R2.row
    simp only [rrRow, List.map_nil] at srow
    obtain ⟨loc2, G2, W2, _⟩ := R2.w
    obtain ⟨_, D2, _⟩ := W2
    obtain ⟨clock2, hdb2⟩ := D2.db
    obtain ⟨fc, cc, hcf, hfc, hcall⟩ := hx.comp
    obtain ⟨o1, a1, st1, hrun0, hcs⟩ : ∃ o1 a1 st1, runP (getStep (u ((k1, k2, k3) :: act))) (cx.cp (k1, k2, k3)) (⟨[], 2⟩, st) = some (o1, (a1, st1)) ∧ ((o1 = none ∧ o = none ∧ st' = st1) ∨ ∃ v, o1 = some v ∧ okV v = true ∧ o = some ⟨v, st.now, newC (st1.res (k1, k2, k3)) st.now a1.D v, a1.D, a1.deps⟩ ∧ st' = { st1 with res := setF st1.res (k1, k2, k3) (some ⟨v, st.now, newC (st1.res (k1, k2, k3)) st.now a1.D v, a1.D, a1.deps⟩), comps := wrap64 (st1.comps + 1) }) := by
      split at hm
      · cases hm
      · rename_i s h1
        injection hm with hm; injection hm with h2 h3
        exact ⟨none, s.1, s.2, h1, .inl ⟨rfl, h2.symm, h3.symm⟩⟩
      · rename_i v s h1
        split at hm
        · rename_i hv
          injection hm with hm; injection hm with h2 h3
          exact ⟨some v, s.1, s.2, h1, .inr ⟨v, rfl, hv, h2.symm, h3.symm⟩⟩
        · cases hm
    have hrun := run_J _ _ _ _ hrun0
    have hget := rec1_c hx hu hU loc ((k1, k2, k3) :: act) H1.length H.length (H1.length + 1) st.now
    have hvl : ∀ v, o1 = some v → v.nums.length * 8 ≤ 2 ^ 47 := fun v hv => by
      rcases hcs with ⟨h, _⟩ | ⟨v2, h, h2, _⟩
      · rw [hv] at h; cases h
      · rw [hv] at h; injection h with h; subst h; exact lim8 (by simpa [okV] using h2)
    ·
      repeat (refine awp_seq ?_)
      refine awp_gosX (fun e T Hz => (e = .normal ∧ ∃ v tl F4 H4, o1 = some v ∧ Fits T [(2, .optr H.length 0), (3, .optr (H.length + 1) 0), (6, .optr (H1.length + 1) 0)] ∧ RecS cx loc ((k1, k2, k3) :: act) H1.length H.length (H1.length + 1) st.now tl a1 st1 F4 H4 ∧ FrS F2 F4 H2 H4 ∧ Hz = H4.set H1.length (.row [.slice (v.nums.map vint) .none, .str v.text, vint (st.now : Int), vint (st.now : Int), vint (a1.D : Int), .slice (a1.deps.map kE) tl, vint 0])) ∨ (e = .panic chC ∧ ∃ F4, o1 = none ∧ JG cx loc ((k1, k2, k3) :: act) H1.length H.length (H1.length + 1) st.now ((a1, st1), o1.isNone) F4 Hz ∧ FrS F2 F4 H2 Hz)) (by kernel_rfl) (fun opr R' hops hR => ?_) (fun e T' H5 hr => ?_)
      · have p511 : ∀ (v : QV) (tl : Tail) (F4 : FPl) (H4 : Heap), o1 = some v → RecS cx loc ((k1, k2, k3) :: act) H1.length H.length (H1.length + 1) st.now tl a1 st1 F4 H4 → FrS F2 F4 H2 H4 → H4[H1.length + 1]? = some (.row [.optr H1.length 0]) → H4[H1.length]? = some (.row [.slice [] .full, .str [], vint (st.now : Int), vint (st.now : Int), vint (a1.D : Int), .slice (a1.deps.map kE) tl, vint 0]) → (H1.length = H4.length) = False → v.nums.length * 8 ≤ 2 ^ 47 → GoS Try.prog 93 H.length opr R' 3 #[true, true, true, true, true, true, true, true, true, false, false, false] (mkS [(2, .optr H.length 0), (3, .optr (H.length + 1) 0), (6, .optr (H1.length + 1) 0), (31, .optr H1.length 0), (32, .optr cx.ix.d 0), (33, .optr cx.ix.d 0), (34, .optr cx.ix.d 0), (35, .fn (.func fc) [] cc), (36, .agg [vint k1, vint k2, vint k3]), (37, .fn (.func 62) [] [.optr H.length 0, .optr (H1.length + 1) 0]), (38, qvE v), (39, .agg [.slice (v.nums.map vint) .none, .str v.text])]) H4 := by
          subst hops
          intro v tl F4 H4 hov R4 f4 d6 dr nz4 hvl
          refine zs1 9 rfl (go_one (m := [(2, .optr H.length 0), (3, .optr (H.length + 1) 0), (6, .optr (H1.length + 1) 0), (31, .optr H1.length 0), (32, .optr cx.ix.d 0), (33, .optr cx.ix.d 0), (34, .optr cx.ix.d 0), (35, .fn (.func fc) [] cc), (36, .agg [vint k1, vint k2, vint k3]), (37, .fn (.func 62) [] [.optr H.length 0, .optr (H1.length + 1) 0]), (38, qvE v), (39, .agg [.slice (v.nums.map vint) .none, .str v.text]), (40, .optr H1.length 0)]) (by simp only [jA, jO, jN, seval, vint, ksE_cells, kE_cells, ksE_drop1, kE_drop1, d6, dr, nz4] <;> with_reducible rfl) ?_)
          refine zs1 10 rfl (go_one (m := [(2, .optr H.length 0), (3, .optr (H.length + 1) 0), (6, .optr (H1.length + 1) 0), (31, .optr H1.length 0), (32, .optr cx.ix.d 0), (33, .optr cx.ix.d 0), (34, .optr cx.ix.d 0), (35, .fn (.func fc) [] cc), (36, .agg [vint k1, vint k2, vint k3]), (37, .fn (.func 62) [] [.optr H.length 0, .optr (H1.length + 1) 0]), (38, qvE v), (39, .agg [.slice (v.nums.map vint) .none, .str v.text]), (40, .optr H1.length 0), (41, .optr H1.length 0)]) (by simp only [jA, jO, jN, seval, y84, vint, ksE_cells, kE_cells, ksE_drop1, kE_drop1, d6, dr, nz4] <;> with_reducible rfl) ?_)
          refine zs1 11 rfl (go_one (m := [(2, .optr H.length 0), (3, .optr (H.length + 1) 0), (6, .optr (H1.length + 1) 0)]) (by simp only [jA, jO, jN, seval, y41, vint, ksE_cells, kE_cells, ksE_drop1, kE_drop1, d6, dr, nz4] <;> with_reducible rfl) (gos_nil ?_))
          rw [hR]
          exact Or.inl ⟨rfl, v, tl, F4, H4, hov, by repeat (first | exact trivial | refine ⟨rfl, ?_⟩), R4, f4, rfl⟩
        have p510 : ∀ (v : QV) (tl : Tail) (F4 : FPl) (H4 : Heap), o1 = some v → RecS cx loc ((k1, k2, k3) :: act) H1.length H.length (H1.length + 1) st.now tl a1 st1 F4 H4 → FrS F2 F4 H2 H4 → H4[H1.length + 1]? = some (.row [.optr H1.length 0]) → H4[H1.length]? = some (.row [.slice [] .full, .str [], vint (st.now : Int), vint (st.now : Int), vint (a1.D : Int), .slice (a1.deps.map kE) tl, vint 0]) → (H1.length = H4.length) = False → v.nums.length * 8 ≤ 2 ^ 47 → GoS Try.prog 93 H.length opr R' 4 #[false, true, true, true, true, true, true, true, true, false, false, false] (mkS [(2, .optr H.length 0), (3, .optr (H.length + 1) 0), (6, .optr (H1.length + 1) 0), (32, .optr cx.ix.d 0), (33, .optr cx.ix.d 0), (34, .optr cx.ix.d 0), (35, .fn (.func fc) [] cc), (36, .agg [vint k1, vint k2, vint k3]), (37, .fn (.func 62) [] [.optr H.length 0, .optr (H1.length + 1) 0]), (38, qvE v), (39, .agg [.slice (v.nums.map vint) .none, .str v.text])]) H4 := by
          subst hops
          intro v tl F4 H4 hov R4 f4 d6 dr nz4 hvl
          refine zs1 0 rfl (go_one (by simp only [jA, jO, jN, seval, y85, vint, ksE_cells, kE_cells, ksE_drop1, kE_drop1, d6, dr, nz4] <;> with_reducible rfl) (p511 v tl F4 H4 hov R4 f4 d6 dr nz4 hvl))
        have p255 : ∀ (v : QV) (tl : Tail) (F4 : FPl) (H4 : Heap), o1 = some v → RecS cx loc ((k1, k2, k3) :: act) H1.length H.length (H1.length + 1) st.now tl a1 st1 F4 H4 → FrS F2 F4 H2 H4 → H4[H1.length + 1]? = some (.row [.optr H1.length 0]) → H4[H1.length]? = some (.row [.slice [] .full, .str [], vint (st.now : Int), vint (st.now : Int), vint (a1.D : Int), .slice (a1.deps.map kE) tl, vint 0]) → (H1.length = H4.length) = False → v.nums.length * 8 ≤ 2 ^ 47 → GoS Try.prog 93 H.length opr R' 4 #[true, true, true, true, true, true, true, true, false, false, false, false] (mkS [(2, .optr H.length 0), (3, .optr (H.length + 1) 0), (6, .optr (H1.length + 1) 0), (31, .optr H1.length 0), (32, .optr cx.ix.d 0), (33, .optr cx.ix.d 0), (34, .optr cx.ix.d 0), (35, .fn (.func fc) [] cc), (36, .agg [vint k1, vint k2, vint k3]), (37, .fn (.func 62) [] [.optr H.length 0, .optr (H1.length + 1) 0]), (38, qvE v)]) H4 := by
          subst hops
          intro v tl F4 H4 hov R4 f4 d6 dr nz4 hvl
          refine zs1 8 rfl ?_
          · refine aops_pure (by simp only [jC, jN, seval, vint, ksE_cells, kE_cells, ksE_drop1, kE_drop1, qvE] <;> rfl) (by simp only [jC, jN, seval, vint]) (by decide) Trygo31 (meClone v.nums v.text hvl _) ?_
            refine aops_nil ?_
            exact (p511 v tl F4 H4 hov R4 f4 d6 dr nz4 hvl).weak (mkS_weak (by repeat (first | exact trivial | refine ⟨rfl, ?_⟩)))
        have p254 : ∀ (v : QV) (tl : Tail) (F4 : FPl) (H4 : Heap), o1 = some v → RecS cx loc ((k1, k2, k3) :: act) H1.length H.length (H1.length + 1) st.now tl a1 st1 F4 H4 → FrS F2 F4 H2 H4 → H4[H1.length + 1]? = some (.row [.optr H1.length 0]) → H4[H1.length]? = some (.row [.slice [] .full, .str [], vint (st.now : Int), vint (st.now : Int), vint (a1.D : Int), .slice (a1.deps.map kE) tl, vint 0]) → (H1.length = H4.length) = False → v.nums.length * 8 ≤ 2 ^ 47 → GoS Try.prog 93 H.length opr R' 5 #[false, true, true, true, true, true, true, true, false, false, false, false] (mkS [(2, .optr H.length 0), (3, .optr (H.length + 1) 0), (6, .optr (H1.length + 1) 0), (32, .optr cx.ix.d 0), (33, .optr cx.ix.d 0), (34, .optr cx.ix.d 0), (35, .fn (.func fc) [] cc), (36, .agg [vint k1, vint k2, vint k3]), (37, .fn (.func 62) [] [.optr H.length 0, .optr (H1.length + 1) 0]), (38, qvE v)]) H4 := by
          subst hops
          intro v tl F4 H4 hov R4 f4 d6 dr nz4 hvl
          refine zs2 0 8 rfl rfl (go_one (by simp only [jA, jO, jN, seval, y85, vint, ksE_cells, kE_cells, ksE_drop1, kE_drop1, d6, dr, nz4] <;> with_reducible rfl) (p255 v tl F4 H4 hov R4 f4 d6 dr nz4 hvl)) ?_
          · refine aops_pure (by simp only [jC, jN, seval, vint, ksE_cells, kE_cells, ksE_drop1, kE_drop1, qvE] <;> rfl) (by simp only [jC, jN, seval, vint]) (by decide) Trygo31 (meClone v.nums v.text hvl _) ?_
            refine aops_nil ?_
            exact (p510 v tl F4 H4 hov R4 f4 d6 dr nz4 hvl).weak (mkS_weak (by repeat (first | exact trivial | refine ⟨rfl, ?_⟩)))
        have g127 : GoS Try.prog 93 H.length opr R' 5 #[true, true, true, true, true, true, true, false, false, false, false, false] (mkS [(2, .optr H.length 0), (3, .optr (H.length + 1) 0), (6, .optr (H1.length + 1) 0), (31, .optr H1.length 0), (32, .optr cx.ix.d 0), (33, .optr cx.ix.d 0), (34, .optr cx.ix.d 0), (35, .fn (.func fc) [] cc), (36, .agg [vint k1, vint k2, vint k3]), (37, .fn (.func 62) [] [.optr H.length 0, .optr (H1.length + 1) 0])]) H2 := by
          subst hops
          refine zs1 7 rfl ?_
          · refine aops_xc (by simp only [jC, jN, seval, vint] <;> rfl) (by simp only [jC, jN, seval, vint]) (by decide) hfc (hcall _ _ _ _ hget (k1, k2, k3) _ F2 H2 o1 _ hk hrun (.inl ⟨rfl, .full, R2⟩) henv2) ?_ ?_
            · rintro rv H4 ⟨ho, F4, j4, f4⟩
              obtain ⟨v, hv⟩ : ∃ v, o1 = some v := by
                cases o1 with
                | none => cases ho
                | some v => exact ⟨v, rfl⟩
              rw [hv] at ho
              injection ho with ho
              subst ho
              obtain ⟨_, tl, R4⟩ := j4.resolve_right (fun h => by rw [hv] at h; cases h.1)
              simp only at R4
              have hrow := R4.row
              refine aops_nil ?_
              have hp := p255 v tl F4 H4 hv R4 f4 R4.b6 hrow (by have := len_of_get hrow; simp; omega) (hvl v hv)
              exact hp.weak (mkS_weak (by try simp only [List.cons_append, List.nil_append]
                                          repeat (first | exact trivial | refine ⟨rfl, ?_⟩)))
            · rintro H4 ⟨ho, F4, j4, f4⟩
              have hv : o1 = none := by
                cases o1 with
                | none => rfl
                | some v => cases ho
              show R' (.panic chC) _ H4
              rw [hR]
              exact Or.inr ⟨rfl, F4, hv, j4, f4⟩
        have g126 : GoS Try.prog 93 H.length opr R' 6 #[false, true, true, true, true, true, true, false, false, false, false, false] (mkS [(2, .optr H.length 0), (3, .optr (H.length + 1) 0), (6, .optr (H1.length + 1) 0), (32, .optr cx.ix.d 0), (33, .optr cx.ix.d 0), (34, .optr cx.ix.d 0), (35, .fn (.func fc) [] cc), (36, .agg [vint k1, vint k2, vint k3]), (37, .fn (.func 62) [] [.optr H.length 0, .optr (H1.length + 1) 0])]) H2 := by
          subst hops
          refine zs2 0 7 rfl rfl (go_one (by simp only [jA, jO, jN, seval, y85, vint, ksE_cells, kE_cells, ksE_drop1, kE_drop1, s2, s6, skey, srow, hdb2, hcf] <;> with_reducible rfl) g127) ?_
          · refine aops_xc (by simp only [jC, jN, seval, vint] <;> rfl) (by simp only [jC, jN, seval, vint]) (by decide) hfc (hcall _ _ _ _ hget (k1, k2, k3) _ F2 H2 o1 _ hk hrun (.inl ⟨rfl, .full, R2⟩) henv2) ?_ ?_
            · rintro rv H4 ⟨ho, F4, j4, f4⟩
              obtain ⟨v, hv⟩ : ∃ v, o1 = some v := by
                cases o1 with
                | none => cases ho
                | some v => exact ⟨v, rfl⟩
              rw [hv] at ho
              injection ho with ho
              subst ho
              obtain ⟨_, tl, R4⟩ := j4.resolve_right (fun h => by rw [hv] at h; cases h.1)
              simp only at R4
              have hrow := R4.row
              refine aops_nil ?_
              have hp := p254 v tl F4 H4 hv R4 f4 R4.b6 hrow (by have := len_of_get hrow; simp; omega) (hvl v hv)
              exact hp.weak (mkS_weak (by try simp only [List.cons_append, List.nil_append]
                                          repeat (first | exact trivial | refine ⟨rfl, ?_⟩)))
            · rintro H4 ⟨ho, F4, j4, f4⟩
              have hv : o1 = none := by
                cases o1 with
                | none => rfl
                | some v => cases ho
              show R' (.panic chC) _ H4
              rw [hR]
              exact Or.inr ⟨rfl, F4, hv, j4, f4⟩
        have g63 : GoS Try.prog 93 H.length opr R' 6 #[true, true, true, true, true, true, false, false, false, false, false, false] (mkS [(2, .optr H.length 0), (3, .optr (H.length + 1) 0), (6, .optr (H1.length + 1) 0), (31, .optr H1.length 0), (32, .optr cx.ix.d 0), (33, .optr cx.ix.d 0), (34, .optr cx.ix.d 0), (35, .fn (.func fc) [] cc), (36, .agg [vint k1, vint k2, vint k3])]) H2 := by
          subst hops
          refine zs1 6 rfl (go_one (by simp only [jA, jO, jN, seval, vint, ksE_cells, kE_cells, ksE_drop1, kE_drop1, s2, s6, skey, srow, hdb2, hcf] <;> with_reducible rfl) g127)
        have g62 : GoS Try.prog 93 H.length opr R' 7 #[false, true, true, true, true, true, false, false, false, false, false, false] (mkS [(2, .optr H.length 0), (3, .optr (H.length + 1) 0), (6, .optr (H1.length + 1) 0), (32, .optr cx.ix.d 0), (33, .optr cx.ix.d 0), (34, .optr cx.ix.d 0), (35, .fn (.func fc) [] cc), (36, .agg [vint k1, vint k2, vint k3])]) H2 := by
          subst hops
          refine zs2 0 6 rfl rfl (go_one (by simp only [jA, jO, jN, seval, y85, vint, ksE_cells, kE_cells, ksE_drop1, kE_drop1, s2, s6, skey, srow, hdb2, hcf] <;> with_reducible rfl) g63) (go_one (by simp only [jA, jO, jN, seval, vint, ksE_cells, kE_cells, ksE_drop1, kE_drop1, s2, s6, skey, srow, hdb2, hcf] <;> with_reducible rfl) g126)
        have g95 : GoS Try.prog 93 H.length opr R' 6 #[true, true, true, true, true, false, true, false, false, false, false, false] (mkS [(2, .optr H.length 0), (3, .optr (H.length + 1) 0), (6, .optr (H1.length + 1) 0), (31, .optr H1.length 0), (32, .optr cx.ix.d 0), (33, .optr cx.ix.d 0), (34, .optr cx.ix.d 0), (35, .fn (.func fc) [] cc), (37, .fn (.func 62) [] [.optr H.length 0, .optr (H1.length + 1) 0])]) H2 := by
          subst hops
          refine zs1 5 rfl (go_one (by simp only [jA, jO, jN, seval, y37, vint, ksE_cells, kE_cells, ksE_drop1, kE_drop1, s2, s6, skey, srow, hdb2, hcf] <;> with_reducible rfl) g127)
        have g94 : GoS Try.prog 93 H.length opr R' 7 #[false, true, true, true, true, false, true, false, false, false, false, false] (mkS [(2, .optr H.length 0), (3, .optr (H.length + 1) 0), (6, .optr (H1.length + 1) 0), (32, .optr cx.ix.d 0), (33, .optr cx.ix.d 0), (34, .optr cx.ix.d 0), (35, .fn (.func fc) [] cc), (37, .fn (.func 62) [] [.optr H.length 0, .optr (H1.length + 1) 0])]) H2 := by
          subst hops
          refine zs2 0 5 rfl rfl (go_one (by simp only [jA, jO, jN, seval, y85, vint, ksE_cells, kE_cells, ksE_drop1, kE_drop1, s2, s6, skey, srow, hdb2, hcf] <;> with_reducible rfl) g95) (go_one (by simp only [jA, jO, jN, seval, y37, vint, ksE_cells, kE_cells, ksE_drop1, kE_drop1, s2, s6, skey, srow, hdb2, hcf] <;> with_reducible rfl) g126)
        have g31 : GoS Try.prog 93 H.length opr R' 7 #[true, true, true, true, true, false, false, false, false, false, false, false] (mkS [(2, .optr H.length 0), (3, .optr (H.length + 1) 0), (6, .optr (H1.length + 1) 0), (31, .optr H1.length 0), (32, .optr cx.ix.d 0), (33, .optr cx.ix.d 0), (34, .optr cx.ix.d 0), (35, .fn (.func fc) [] cc)]) H2 := by
          subst hops
          refine zs2 5 6 rfl rfl (go_one (by simp only [jA, jO, jN, seval, y37, vint, ksE_cells, kE_cells, ksE_drop1, kE_drop1, s2, s6, skey, srow, hdb2, hcf] <;> with_reducible rfl) g63) (go_one (by simp only [jA, jO, jN, seval, vint, ksE_cells, kE_cells, ksE_drop1, kE_drop1, s2, s6, skey, srow, hdb2, hcf] <;> with_reducible rfl) g95)
        have g30 : GoS Try.prog 93 H.length opr R' 8 #[false, true, true, true, true, false, false, false, false, false, false, false] (mkS [(2, .optr H.length 0), (3, .optr (H.length + 1) 0), (6, .optr (H1.length + 1) 0), (32, .optr cx.ix.d 0), (33, .optr cx.ix.d 0), (34, .optr cx.ix.d 0), (35, .fn (.func fc) [] cc)]) H2 := by
          subst hops
          refine zs3 0 5 6 rfl rfl rfl (go_one (by simp only [jA, jO, jN, seval, y85, vint, ksE_cells, kE_cells, ksE_drop1, kE_drop1, s2, s6, skey, srow, hdb2, hcf] <;> with_reducible rfl) g31) (go_one (by simp only [jA, jO, jN, seval, y37, vint, ksE_cells, kE_cells, ksE_drop1, kE_drop1, s2, s6, skey, srow, hdb2, hcf] <;> with_reducible rfl) g62) (go_one (by simp only [jA, jO, jN, seval, vint, ksE_cells, kE_cells, ksE_drop1, kE_drop1, s2, s6, skey, srow, hdb2, hcf] <;> with_reducible rfl) g94)
        have g111 : GoS Try.prog 93 H.length opr R' 6 #[true, true, true, true, false, true, true, false, false, false, false, false] (mkS [(2, .optr H.length 0), (3, .optr (H.length + 1) 0), (6, .optr (H1.length + 1) 0), (31, .optr H1.length 0), (32, .optr cx.ix.d 0), (33, .optr cx.ix.d 0), (34, .optr cx.ix.d 0), (36, .agg [vint k1, vint k2, vint k3]), (37, .fn (.func 62) [] [.optr H.length 0, .optr (H1.length + 1) 0])]) H2 := by
          subst hops
          refine zs1 4 rfl (go_one (by simp only [jA, jO, jN, seval, y30, vint, ksE_cells, kE_cells, ksE_drop1, kE_drop1, s2, s6, skey, srow, hdb2, hcf] <;> with_reducible rfl) g127)
        have g110 : GoS Try.prog 93 H.length opr R' 7 #[false, true, true, true, false, true, true, false, false, false, false, false] (mkS [(2, .optr H.length 0), (3, .optr (H.length + 1) 0), (6, .optr (H1.length + 1) 0), (32, .optr cx.ix.d 0), (33, .optr cx.ix.d 0), (34, .optr cx.ix.d 0), (36, .agg [vint k1, vint k2, vint k3]), (37, .fn (.func 62) [] [.optr H.length 0, .optr (H1.length + 1) 0])]) H2 := by
          subst hops
          refine zs2 0 4 rfl rfl (go_one (by simp only [jA, jO, jN, seval, y85, vint, ksE_cells, kE_cells, ksE_drop1, kE_drop1, s2, s6, skey, srow, hdb2, hcf] <;> with_reducible rfl) g111) (go_one (by simp only [jA, jO, jN, seval, y30, vint, ksE_cells, kE_cells, ksE_drop1, kE_drop1, s2, s6, skey, srow, hdb2, hcf] <;> with_reducible rfl) g126)
        have g47 : GoS Try.prog 93 H.length opr R' 7 #[true, true, true, true, false, true, false, false, false, false, false, false] (mkS [(2, .optr H.length 0), (3, .optr (H.length + 1) 0), (6, .optr (H1.length + 1) 0), (31, .optr H1.length 0), (32, .optr cx.ix.d 0), (33, .optr cx.ix.d 0), (34, .optr cx.ix.d 0), (36, .agg [vint k1, vint k2, vint k3])]) H2 := by
          subst hops
          refine zs2 4 6 rfl rfl (go_one (by simp only [jA, jO, jN, seval, y30, vint, ksE_cells, kE_cells, ksE_drop1, kE_drop1, s2, s6, skey, srow, hdb2, hcf] <;> with_reducible rfl) g63) (go_one (by simp only [jA, jO, jN, seval, vint, ksE_cells, kE_cells, ksE_drop1, kE_drop1, s2, s6, skey, srow, hdb2, hcf] <;> with_reducible rfl) g111)
        have g46 : GoS Try.prog 93 H.length opr R' 8 #[false, true, true, true, false, true, false, false, false, false, false, false] (mkS [(2, .optr H.length 0), (3, .optr (H.length + 1) 0), (6, .optr (H1.length + 1) 0), (32, .optr cx.ix.d 0), (33, .optr cx.ix.d 0), (34, .optr cx.ix.d 0), (36, .agg [vint k1, vint k2, vint k3])]) H2 := by
          subst hops
          refine zs3 0 4 6 rfl rfl rfl (go_one (by simp only [jA, jO, jN, seval, y85, vint, ksE_cells, kE_cells, ksE_drop1, kE_drop1, s2, s6, skey, srow, hdb2, hcf] <;> with_reducible rfl) g47) (go_one (by simp only [jA, jO, jN, seval, y30, vint, ksE_cells, kE_cells, ksE_drop1, kE_drop1, s2, s6, skey, srow, hdb2, hcf] <;> with_reducible rfl) g62) (go_one (by simp only [jA, jO, jN, seval, vint, ksE_cells, kE_cells, ksE_drop1, kE_drop1, s2, s6, skey, srow, hdb2, hcf] <;> with_reducible rfl) g110)
        have g79 : GoS Try.prog 93 H.length opr R' 7 #[true, true, true, true, false, false, true, false, false, false, false, false] (mkS [(2, .optr H.length 0), (3, .optr (H.length + 1) 0), (6, .optr (H1.length + 1) 0), (31, .optr H1.length 0), (32, .optr cx.ix.d 0), (33, .optr cx.ix.d 0), (34, .optr cx.ix.d 0), (37, .fn (.func 62) [] [.optr H.length 0, .optr (H1.length + 1) 0])]) H2 := by
          subst hops
          refine zs2 4 5 rfl rfl (go_one (by simp only [jA, jO, jN, seval, y30, vint, ksE_cells, kE_cells, ksE_drop1, kE_drop1, s2, s6, skey, srow, hdb2, hcf] <;> with_reducible rfl) g95) (go_one (by simp only [jA, jO, jN, seval, y37, vint, ksE_cells, kE_cells, ksE_drop1, kE_drop1, s2, s6, skey, srow, hdb2, hcf] <;> with_reducible rfl) g111)
        have g78 : GoS Try.prog 93 H.length opr R' 8 #[false, true, true, true, false, false, true, false, false, false, false, false] (mkS [(2, .optr H.length 0), (3, .optr (H.length + 1) 0), (6, .optr (H1.length + 1) 0), (32, .optr cx.ix.d 0), (33, .optr cx.ix.d 0), (34, .optr cx.ix.d 0), (37, .fn (.func 62) [] [.optr H.length 0, .optr (H1.length + 1) 0])]) H2 := by
          subst hops
          refine zs3 0 4 5 rfl rfl rfl (go_one (by simp only [jA, jO, jN, seval, y85, vint, ksE_cells, kE_cells, ksE_drop1, kE_drop1, s2, s6, skey, srow, hdb2, hcf] <;> with_reducible rfl) g79) (go_one (by simp only [jA, jO, jN, seval, y30, vint, ksE_cells, kE_cells, ksE_drop1, kE_drop1, s2, s6, skey, srow, hdb2, hcf] <;> with_reducible rfl) g94) (go_one (by simp only [jA, jO, jN, seval, y37, vint, ksE_cells, kE_cells, ksE_drop1, kE_drop1, s2, s6, skey, srow, hdb2, hcf] <;> with_reducible rfl) g110)
        have g15 : GoS Try.prog 93 H.length opr R' 8 #[true, true, true, true, false, false, false, false, false, false, false, false] (mkS [(2, .optr H.length 0), (3, .optr (H.length + 1) 0), (6, .optr (H1.length + 1) 0), (31, .optr H1.length 0), (32, .optr cx.ix.d 0), (33, .optr cx.ix.d 0), (34, .optr cx.ix.d 0)]) H2 := by
          subst hops
          refine zs3 4 5 6 rfl rfl rfl (go_one (by simp only [jA, jO, jN, seval, y30, vint, ksE_cells, kE_cells, ksE_drop1, kE_drop1, s2, s6, skey, srow, hdb2, hcf] <;> with_reducible rfl) g31) (go_one (by simp only [jA, jO, jN, seval, y37, vint, ksE_cells, kE_cells, ksE_drop1, kE_drop1, s2, s6, skey, srow, hdb2, hcf] <;> with_reducible rfl) g47) (go_one (by simp only [jA, jO, jN, seval, vint, ksE_cells, kE_cells, ksE_drop1, kE_drop1, s2, s6, skey, srow, hdb2, hcf] <;> with_reducible rfl) g79)
        have g14 : GoS Try.prog 93 H.length opr R' 9 #[false, true, true, true, false, false, false, false, false, false, false, false] (mkS [(2, .optr H.length 0), (3, .optr (H.length + 1) 0), (6, .optr (H1.length + 1) 0), (32, .optr cx.ix.d 0), (33, .optr cx.ix.d 0), (34, .optr cx.ix.d 0)]) H2 := by
          subst hops
          refine zs4 0 4 5 6 rfl rfl rfl rfl (go_one (by simp only [jA, jO, jN, seval, y85, vint, ksE_cells, kE_cells, ksE_drop1, kE_drop1, s2, s6, skey, srow, hdb2, hcf] <;> with_reducible rfl) g15) (go_one (by simp only [jA, jO, jN, seval, y30, vint, ksE_cells, kE_cells, ksE_drop1, kE_drop1, s2, s6, skey, srow, hdb2, hcf] <;> with_reducible rfl) g30) (go_one (by simp only [jA, jO, jN, seval, y37, vint, ksE_cells, kE_cells, ksE_drop1, kE_drop1, s2, s6, skey, srow, hdb2, hcf] <;> with_reducible rfl) g46) (go_one (by simp only [jA, jO, jN, seval, vint, ksE_cells, kE_cells, ksE_drop1, kE_drop1, s2, s6, skey, srow, hdb2, hcf] <;> with_reducible rfl) g78)
        have g103 : GoS Try.prog 93 H.length opr R' 7 #[true, true, true, false, false, true, true, false, false, false, false, false] (mkS [(2, .optr H.length 0), (3, .optr (H.length + 1) 0), (6, .optr (H1.length + 1) 0), (31, .optr H1.length 0), (32, .optr cx.ix.d 0), (33, .optr cx.ix.d 0), (36, .agg [vint k1, vint k2, vint k3]), (37, .fn (.func 62) [] [.optr H.length 0, .optr (H1.length + 1) 0])]) H2 := by
          subst hops
          refine zs1 3 rfl (go_one (by simp only [jA, jO, jN, seval, y62, vint, ksE_cells, kE_cells, ksE_drop1, kE_drop1, s2, s6, skey, srow, hdb2, hcf] <;> with_reducible rfl) g111)
        have g102 : GoS Try.prog 93 H.length opr R' 8 #[false, true, true, false, false, true, true, false, false, false, false, false] (mkS [(2, .optr H.length 0), (3, .optr (H.length + 1) 0), (6, .optr (H1.length + 1) 0), (32, .optr cx.ix.d 0), (33, .optr cx.ix.d 0), (36, .agg [vint k1, vint k2, vint k3]), (37, .fn (.func 62) [] [.optr H.length 0, .optr (H1.length + 1) 0])]) H2 := by
          subst hops
          refine zs2 0 3 rfl rfl (go_one (by simp only [jA, jO, jN, seval, y85, vint, ksE_cells, kE_cells, ksE_drop1, kE_drop1, s2, s6, skey, srow, hdb2, hcf] <;> with_reducible rfl) g103) (go_one (by simp only [jA, jO, jN, seval, y62, vint, ksE_cells, kE_cells, ksE_drop1, kE_drop1, s2, s6, skey, srow, hdb2, hcf] <;> with_reducible rfl) g110)
        have g39 : GoS Try.prog 93 H.length opr R' 8 #[true, true, true, false, false, true, false, false, false, false, false, false] (mkS [(2, .optr H.length 0), (3, .optr (H.length + 1) 0), (6, .optr (H1.length + 1) 0), (31, .optr H1.length 0), (32, .optr cx.ix.d 0), (33, .optr cx.ix.d 0), (36, .agg [vint k1, vint k2, vint k3])]) H2 := by
          subst hops
          refine zs2 3 6 rfl rfl (go_one (by simp only [jA, jO, jN, seval, y62, vint, ksE_cells, kE_cells, ksE_drop1, kE_drop1, s2, s6, skey, srow, hdb2, hcf] <;> with_reducible rfl) g47) (go_one (by simp only [jA, jO, jN, seval, vint, ksE_cells, kE_cells, ksE_drop1, kE_drop1, s2, s6, skey, srow, hdb2, hcf] <;> with_reducible rfl) g103)
        have g38 : GoS Try.prog 93 H.length opr R' 9 #[false, true, true, false, false, true, false, false, false, false, false, false] (mkS [(2, .optr H.length 0), (3, .optr (H.length + 1) 0), (6, .optr (H1.length + 1) 0), (32, .optr cx.ix.d 0), (33, .optr cx.ix.d 0), (36, .agg [vint k1, vint k2, vint k3])]) H2 := by
          subst hops
          refine zs3 0 3 6 rfl rfl rfl (go_one (by simp only [jA, jO, jN, seval, y85, vint, ksE_cells, kE_cells, ksE_drop1, kE_drop1, s2, s6, skey, srow, hdb2, hcf] <;> with_reducible rfl) g39) (go_one (by simp only [jA, jO, jN, seval, y62, vint, ksE_cells, kE_cells, ksE_drop1, kE_drop1, s2, s6, skey, srow, hdb2, hcf] <;> with_reducible rfl) g46) (go_one (by simp only [jA, jO, jN, seval, vint, ksE_cells, kE_cells, ksE_drop1, kE_drop1, s2, s6, skey, srow, hdb2, hcf] <;> with_reducible rfl) g102)
        have g71 : GoS Try.prog 93 H.length opr R' 8 #[true, true, true, false, false, false, true, false, false, false, false, false] (mkS [(2, .optr H.length 0), (3, .optr (H.length + 1) 0), (6, .optr (H1.length + 1) 0), (31, .optr H1.length 0), (32, .optr cx.ix.d 0), (33, .optr cx.ix.d 0), (37, .fn (.func 62) [] [.optr H.length 0, .optr (H1.length + 1) 0])]) H2 := by
          subst hops
          refine zs2 3 5 rfl rfl (go_one (by simp only [jA, jO, jN, seval, y62, vint, ksE_cells, kE_cells, ksE_drop1, kE_drop1, s2, s6, skey, srow, hdb2, hcf] <;> with_reducible rfl) g79) (go_one (by simp only [jA, jO, jN, seval, y37, vint, ksE_cells, kE_cells, ksE_drop1, kE_drop1, s2, s6, skey, srow, hdb2, hcf] <;> with_reducible rfl) g103)
        have g70 : GoS Try.prog 93 H.length opr R' 9 #[false, true, true, false, false, false, true, false, false, false, false, false] (mkS [(2, .optr H.length 0), (3, .optr (H.length + 1) 0), (6, .optr (H1.length + 1) 0), (32, .optr cx.ix.d 0), (33, .optr cx.ix.d 0), (37, .fn (.func 62) [] [.optr H.length 0, .optr (H1.length + 1) 0])]) H2 := by
          subst hops
          refine zs3 0 3 5 rfl rfl rfl (go_one (by simp only [jA, jO, jN, seval, y85, vint, ksE_cells, kE_cells, ksE_drop1, kE_drop1, s2, s6, skey, srow, hdb2, hcf] <;> with_reducible rfl) g71) (go_one (by simp only [jA, jO, jN, seval, y62, vint, ksE_cells, kE_cells, ksE_drop1, kE_drop1, s2, s6, skey, srow, hdb2, hcf] <;> with_reducible rfl) g78) (go_one (by simp only [jA, jO, jN, seval, y37, vint, ksE_cells, kE_cells, ksE_drop1, kE_drop1, s2, s6, skey, srow, hdb2, hcf] <;> with_reducible rfl) g102)
        have g7 : GoS Try.prog 93 H.length opr R' 9 #[true, true, true, false, false, false, false, false, false, false, false, false] (mkS [(2, .optr H.length 0), (3, .optr (H.length + 1) 0), (6, .optr (H1.length + 1) 0), (31, .optr H1.length 0), (32, .optr cx.ix.d 0), (33, .optr cx.ix.d 0)]) H2 := by
          subst hops
          refine zs3 3 5 6 rfl rfl rfl (go_one (by simp only [jA, jO, jN, seval, y62, vint, ksE_cells, kE_cells, ksE_drop1, kE_drop1, s2, s6, skey, srow, hdb2, hcf] <;> with_reducible rfl) g15) (go_one (by simp only [jA, jO, jN, seval, y37, vint, ksE_cells, kE_cells, ksE_drop1, kE_drop1, s2, s6, skey, srow, hdb2, hcf] <;> with_reducible rfl) g39) (go_one (by simp only [jA, jO, jN, seval, vint, ksE_cells, kE_cells, ksE_drop1, kE_drop1, s2, s6, skey, srow, hdb2, hcf] <;> with_reducible rfl) g71)
        have g6 : GoS Try.prog 93 H.length opr R' 10 #[false, true, true, false, false, false, false, false, false, false, false, false] (mkS [(2, .optr H.length 0), (3, .optr (H.length + 1) 0), (6, .optr (H1.length + 1) 0), (32, .optr cx.ix.d 0), (33, .optr cx.ix.d 0)]) H2 := by
          subst hops
          refine zs4 0 3 5 6 rfl rfl rfl rfl (go_one (by simp only [jA, jO, jN, seval, y85, vint, ksE_cells, kE_cells, ksE_drop1, kE_drop1, s2, s6, skey, srow, hdb2, hcf] <;> with_reducible rfl) g7) (go_one (by simp only [jA, jO, jN, seval, y62, vint, ksE_cells, kE_cells, ksE_drop1, kE_drop1, s2, s6, skey, srow, hdb2, hcf] <;> with_reducible rfl) g14) (go_one (by simp only [jA, jO, jN, seval, y37, vint, ksE_cells, kE_cells, ksE_drop1, kE_drop1, s2, s6, skey, srow, hdb2, hcf] <;> with_reducible rfl) g38) (go_one (by simp only [jA, jO, jN, seval, vint, ksE_cells, kE_cells, ksE_drop1, kE_drop1, s2, s6, skey, srow, hdb2, hcf] <;> with_reducible rfl) g70)
        have g99 : GoS Try.prog 93 H.length opr R' 8 #[true, true, false, false, false, true, true, false, false, false, false, false] (mkS [(2, .optr H.length 0), (3, .optr (H.length + 1) 0), (6, .optr (H1.length + 1) 0), (31, .optr H1.length 0), (32, .optr cx.ix.d 0), (36, .agg [vint k1, vint k2, vint k3]), (37, .fn (.func 62) [] [.optr H.length 0, .optr (H1.length + 1) 0])]) H2 := by
          subst hops
          refine zs1 2 rfl (go_one (by simp only [jA, jO, jN, seval, vint, ksE_cells, kE_cells, ksE_drop1, kE_drop1, s2, s6, skey, srow, hdb2, hcf] <;> with_reducible rfl) g103)
        have g98 : GoS Try.prog 93 H.length opr R' 9 #[false, true, false, false, false, true, true, false, false, false, false, false] (mkS [(2, .optr H.length 0), (3, .optr (H.length + 1) 0), (6, .optr (H1.length + 1) 0), (32, .optr cx.ix.d 0), (36, .agg [vint k1, vint k2, vint k3]), (37, .fn (.func 62) [] [.optr H.length 0, .optr (H1.length + 1) 0])]) H2 := by
          subst hops
          refine zs2 0 2 rfl rfl (go_one (by simp only [jA, jO, jN, seval, y85, vint, ksE_cells, kE_cells, ksE_drop1, kE_drop1, s2, s6, skey, srow, hdb2, hcf] <;> with_reducible rfl) g99) (go_one (by simp only [jA, jO, jN, seval, vint, ksE_cells, kE_cells, ksE_drop1, kE_drop1, s2, s6, skey, srow, hdb2, hcf] <;> with_reducible rfl) g102)
        have g35 : GoS Try.prog 93 H.length opr R' 9 #[true, true, false, false, false, true, false, false, false, false, false, false] (mkS [(2, .optr H.length 0), (3, .optr (H.length + 1) 0), (6, .optr (H1.length + 1) 0), (31, .optr H1.length 0), (32, .optr cx.ix.d 0), (36, .agg [vint k1, vint k2, vint k3])]) H2 := by
          subst hops
          refine zs2 2 6 rfl rfl (go_one (by simp only [jA, jO, jN, seval, vint, ksE_cells, kE_cells, ksE_drop1, kE_drop1, s2, s6, skey, srow, hdb2, hcf] <;> with_reducible rfl) g39) (go_one (by simp only [jA, jO, jN, seval, vint, ksE_cells, kE_cells, ksE_drop1, kE_drop1, s2, s6, skey, srow, hdb2, hcf] <;> with_reducible rfl) g99)
        have g34 : GoS Try.prog 93 H.length opr R' 10 #[false, true, false, false, false, true, false, false, false, false, false, false] (mkS [(2, .optr H.length 0), (3, .optr (H.length + 1) 0), (6, .optr (H1.length + 1) 0), (32, .optr cx.ix.d 0), (36, .agg [vint k1, vint k2, vint k3])]) H2 := by
          subst hops
          refine zs3 0 2 6 rfl rfl rfl (go_one (by simp only [jA, jO, jN, seval, y85, vint, ksE_cells, kE_cells, ksE_drop1, kE_drop1, s2, s6, skey, srow, hdb2, hcf] <;> with_reducible rfl) g35) (go_one (by simp only [jA, jO, jN, seval, vint, ksE_cells, kE_cells, ksE_drop1, kE_drop1, s2, s6, skey, srow, hdb2, hcf] <;> with_reducible rfl) g38) (go_one (by simp only [jA, jO, jN, seval, vint, ksE_cells, kE_cells, ksE_drop1, kE_drop1, s2, s6, skey, srow, hdb2, hcf] <;> with_reducible rfl) g98)
        have g67 : GoS Try.prog 93 H.length opr R' 9 #[true, true, false, false, false, false, true, false, false, false, false, false] (mkS [(2, .optr H.length 0), (3, .optr (H.length + 1) 0), (6, .optr (H1.length + 1) 0), (31, .optr H1.length 0), (32, .optr cx.ix.d 0), (37, .fn (.func 62) [] [.optr H.length 0, .optr (H1.length + 1) 0])]) H2 := by
          subst hops
          refine zs2 2 5 rfl rfl (go_one (by simp only [jA, jO, jN, seval, vint, ksE_cells, kE_cells, ksE_drop1, kE_drop1, s2, s6, skey, srow, hdb2, hcf] <;> with_reducible rfl) g71) (go_one (by simp only [jA, jO, jN, seval, y37, vint, ksE_cells, kE_cells, ksE_drop1, kE_drop1, s2, s6, skey, srow, hdb2, hcf] <;> with_reducible rfl) g99)
        have g66 : GoS Try.prog 93 H.length opr R' 10 #[false, true, false, false, false, false, true, false, false, false, false, false] (mkS [(2, .optr H.length 0), (3, .optr (H.length + 1) 0), (6, .optr (H1.length + 1) 0), (32, .optr cx.ix.d 0), (37, .fn (.func 62) [] [.optr H.length 0, .optr (H1.length + 1) 0])]) H2 := by
          subst hops
          refine zs3 0 2 5 rfl rfl rfl (go_one (by simp only [jA, jO, jN, seval, y85, vint, ksE_cells, kE_cells, ksE_drop1, kE_drop1, s2, s6, skey, srow, hdb2, hcf] <;> with_reducible rfl) g67) (go_one (by simp only [jA, jO, jN, seval, vint, ksE_cells, kE_cells, ksE_drop1, kE_drop1, s2, s6, skey, srow, hdb2, hcf] <;> with_reducible rfl) g70) (go_one (by simp only [jA, jO, jN, seval, y37, vint, ksE_cells, kE_cells, ksE_drop1, kE_drop1, s2, s6, skey, srow, hdb2, hcf] <;> with_reducible rfl) g98)
        have g3 : GoS Try.prog 93 H.length opr R' 10 #[true, true, false, false, false, false, false, false, false, false, false, false] (mkS [(2, .optr H.length 0), (3, .optr (H.length + 1) 0), (6, .optr (H1.length + 1) 0), (31, .optr H1.length 0), (32, .optr cx.ix.d 0)]) H2 := by
          subst hops
          refine zs3 2 5 6 rfl rfl rfl (go_one (by simp only [jA, jO, jN, seval, vint, ksE_cells, kE_cells, ksE_drop1, kE_drop1, s2, s6, skey, srow, hdb2, hcf] <;> with_reducible rfl) g7) (go_one (by simp only [jA, jO, jN, seval, y37, vint, ksE_cells, kE_cells, ksE_drop1, kE_drop1, s2, s6, skey, srow, hdb2, hcf] <;> with_reducible rfl) g35) (go_one (by simp only [jA, jO, jN, seval, vint, ksE_cells, kE_cells, ksE_drop1, kE_drop1, s2, s6, skey, srow, hdb2, hcf] <;> with_reducible rfl) g67)
        have g2 : GoS Try.prog 93 H.length opr R' 11 #[false, true, false, false, false, false, false, false, false, false, false, false] (mkS [(2, .optr H.length 0), (3, .optr (H.length + 1) 0), (6, .optr (H1.length + 1) 0), (32, .optr cx.ix.d 0)]) H2 := by
          subst hops
          refine zs4 0 2 5 6 rfl rfl rfl rfl (go_one (by simp only [jA, jO, jN, seval, y85, vint, ksE_cells, kE_cells, ksE_drop1, kE_drop1, s2, s6, skey, srow, hdb2, hcf] <;> with_reducible rfl) g3) (go_one (by simp only [jA, jO, jN, seval, vint, ksE_cells, kE_cells, ksE_drop1, kE_drop1, s2, s6, skey, srow, hdb2, hcf] <;> with_reducible rfl) g6) (go_one (by simp only [jA, jO, jN, seval, y37, vint, ksE_cells, kE_cells, ksE_drop1, kE_drop1, s2, s6, skey, srow, hdb2, hcf] <;> with_reducible rfl) g34) (go_one (by simp only [jA, jO, jN, seval, vint, ksE_cells, kE_cells, ksE_drop1, kE_drop1, s2, s6, skey, srow, hdb2, hcf] <;> with_reducible rfl) g66)
        have g97 : GoS Try.prog 93 H.length opr R' 9 #[true, false, false, false, false, true, true, false, false, false, false, false] (mkS [(2, .optr H.length 0), (3, .optr (H.length + 1) 0), (6, .optr (H1.length + 1) 0), (31, .optr H1.length 0), (36, .agg [vint k1, vint k2, vint k3]), (37, .fn (.func 62) [] [.optr H.length 0, .optr (H1.length + 1) 0])]) H2 := by
          subst hops
          refine zs1 1 rfl (go_one (by simp only [jA, jO, jN, seval, y28, vint, ksE_cells, kE_cells, ksE_drop1, kE_drop1, s2, s6, skey, srow, hdb2, hcf] <;> with_reducible rfl) g99)
        have g96 : GoS Try.prog 93 H.length opr R' 10 #[false, false, false, false, false, true, true, false, false, false, false, false] (mkS [(2, .optr H.length 0), (3, .optr (H.length + 1) 0), (6, .optr (H1.length + 1) 0), (36, .agg [vint k1, vint k2, vint k3]), (37, .fn (.func 62) [] [.optr H.length 0, .optr (H1.length + 1) 0])]) H2 := by
          subst hops
          refine zs2 0 1 rfl rfl (go_one (by simp only [jA, jO, jN, seval, y85, vint, ksE_cells, kE_cells, ksE_drop1, kE_drop1, s2, s6, skey, srow, hdb2, hcf] <;> with_reducible rfl) g97) (go_one (by simp only [jA, jO, jN, seval, y28, vint, ksE_cells, kE_cells, ksE_drop1, kE_drop1, s2, s6, skey, srow, hdb2, hcf] <;> with_reducible rfl) g98)
        have g33 : GoS Try.prog 93 H.length opr R' 10 #[true, false, false, false, false, true, false, false, false, false, false, false] (mkS [(2, .optr H.length 0), (3, .optr (H.length + 1) 0), (6, .optr (H1.length + 1) 0), (31, .optr H1.length 0), (36, .agg [vint k1, vint k2, vint k3])]) H2 := by
          subst hops
          refine zs2 1 6 rfl rfl (go_one (by simp only [jA, jO, jN, seval, y28, vint, ksE_cells, kE_cells, ksE_drop1, kE_drop1, s2, s6, skey, srow, hdb2, hcf] <;> with_reducible rfl) g35) (go_one (by simp only [jA, jO, jN, seval, vint, ksE_cells, kE_cells, ksE_drop1, kE_drop1, s2, s6, skey, srow, hdb2, hcf] <;> with_reducible rfl) g97)
        have g32 : GoS Try.prog 93 H.length opr R' 11 #[false, false, false, false, false, true, false, false, false, false, false, false] (mkS [(2, .optr H.length 0), (3, .optr (H.length + 1) 0), (6, .optr (H1.length + 1) 0), (36, .agg [vint k1, vint k2, vint k3])]) H2 := by
          subst hops
          refine zs3 0 1 6 rfl rfl rfl (go_one (by simp only [jA, jO, jN, seval, y85, vint, ksE_cells, kE_cells, ksE_drop1, kE_drop1, s2, s6, skey, srow, hdb2, hcf] <;> with_reducible rfl) g33) (go_one (by simp only [jA, jO, jN, seval, y28, vint, ksE_cells, kE_cells, ksE_drop1, kE_drop1, s2, s6, skey, srow, hdb2, hcf] <;> with_reducible rfl) g34) (go_one (by simp only [jA, jO, jN, seval, vint, ksE_cells, kE_cells, ksE_drop1, kE_drop1, s2, s6, skey, srow, hdb2, hcf] <;> with_reducible rfl) g96)
        have g65 : GoS Try.prog 93 H.length opr R' 10 #[true, false, false, false, false, false, true, false, false, false, false, false] (mkS [(2, .optr H.length 0), (3, .optr (H.length + 1) 0), (6, .optr (H1.length + 1) 0), (31, .optr H1.length 0), (37, .fn (.func 62) [] [.optr H.length 0, .optr (H1.length + 1) 0])]) H2 := by
          subst hops
          refine zs2 1 5 rfl rfl (go_one (by simp only [jA, jO, jN, seval, y28, vint, ksE_cells, kE_cells, ksE_drop1, kE_drop1, s2, s6, skey, srow, hdb2, hcf] <;> with_reducible rfl) g67) (go_one (by simp only [jA, jO, jN, seval, y37, vint, ksE_cells, kE_cells, ksE_drop1, kE_drop1, s2, s6, skey, srow, hdb2, hcf] <;> with_reducible rfl) g97)
        have g64 : GoS Try.prog 93 H.length opr R' 11 #[false, false, false, false, false, false, true, false, false, false, false, false] (mkS [(2, .optr H.length 0), (3, .optr (H.length + 1) 0), (6, .optr (H1.length + 1) 0), (37, .fn (.func 62) [] [.optr H.length 0, .optr (H1.length + 1) 0])]) H2 := by
          subst hops
          refine zs3 0 1 5 rfl rfl rfl (go_one (by simp only [jA, jO, jN, seval, y85, vint, ksE_cells, kE_cells, ksE_drop1, kE_drop1, s2, s6, skey, srow, hdb2, hcf] <;> with_reducible rfl) g65) (go_one (by simp only [jA, jO, jN, seval, y28, vint, ksE_cells, kE_cells, ksE_drop1, kE_drop1, s2, s6, skey, srow, hdb2, hcf] <;> with_reducible rfl) g66) (go_one (by simp only [jA, jO, jN, seval, y37, vint, ksE_cells, kE_cells, ksE_drop1, kE_drop1, s2, s6, skey, srow, hdb2, hcf] <;> with_reducible rfl) g96)
        have g1 : GoS Try.prog 93 H.length opr R' 11 #[true, false, false, false, false, false, false, false, false, false, false, false] (mkS [(2, .optr H.length 0), (3, .optr (H.length + 1) 0), (6, .optr (H1.length + 1) 0), (31, .optr H1.length 0)]) H2 := by
          subst hops
          refine zs3 1 5 6 rfl rfl rfl (go_one (by simp only [jA, jO, jN, seval, y28, vint, ksE_cells, kE_cells, ksE_drop1, kE_drop1, s2, s6, skey, srow, hdb2, hcf] <;> with_reducible rfl) g3) (go_one (by simp only [jA, jO, jN, seval, y37, vint, ksE_cells, kE_cells, ksE_drop1, kE_drop1, s2, s6, skey, srow, hdb2, hcf] <;> with_reducible rfl) g33) (go_one (by simp only [jA, jO, jN, seval, vint, ksE_cells, kE_cells, ksE_drop1, kE_drop1, s2, s6, skey, srow, hdb2, hcf] <;> with_reducible rfl) g65)
        have g0 : GoS Try.prog 93 H.length opr R' 12 #[false, false, false, false, false, false, false, false, false, false, false, false] (mkS [(2, .optr H.length 0), (3, .optr (H.length + 1) 0), (6, .optr (H1.length + 1) 0)]) H2 := by
          subst hops
          refine zs4 0 1 5 6 rfl rfl rfl rfl (go_one (by simp only [jA, jO, jN, seval, y85, vint, ksE_cells, kE_cells, ksE_drop1, kE_drop1, s2, s6, skey, srow, hdb2, hcf] <;> with_reducible rfl) g1) (go_one (by simp only [jA, jO, jN, seval, y28, vint, ksE_cells, kE_cells, ksE_drop1, kE_drop1, s2, s6, skey, srow, hdb2, hcf] <;> with_reducible rfl) g2) (go_one (by simp only [jA, jO, jN, seval, y37, vint, ksE_cells, kE_cells, ksE_drop1, kE_drop1, s2, s6, skey, srow, hdb2, hcf] <;> with_reducible rfl) g32) (go_one (by simp only [jA, jO, jN, seval, vint, ksE_cells, kE_cells, ksE_drop1, kE_drop1, s2, s6, skey, srow, hdb2, hcf] <;> with_reducible rfl) g64)
        subst hops
        exact GoS.weak (T2 := (mkS [(2, .optr H.length 0), (3, .optr (H.length + 1) 0), (6, .optr (H1.length + 1) 0)])) g0 (mkS_weak (by repeat (first | exact trivial | refine ⟨rfl, ?_⟩)))
      rcases hr with hr | ⟨rfl, F4, hv, j4, f4⟩
      rotate_left
      · rcases hcs with ⟨_, rfl, rfl⟩ | ⟨v, hv2, _⟩
        · obtain ⟨_, loc', act', w'⟩ := j4.resolve_left (fun h => by rw [hv] at h; cases h.1)
          exact Or.inr ⟨rfl, rfl, loc', act', F4, w', f02.trans f4⟩
        · rw [hv] at hv2; cases hv2
      obtain ⟨rfl, v, tl, F4, H4, hv, hfit, R4, f4, rfl⟩ := hr
      obtain ⟨hov, rfl, rfl⟩ : okV v = true ∧ o = some ⟨v, st.now, newC (st1.res (k1, k2, k3)) st.now a1.D v, a1.D, a1.deps⟩ ∧ st' = { st1 with res := setF st1.res (k1, k2, k3) (some ⟨v, st.now, newC (st1.res (k1, k2, k3)) st.now a1.D v, a1.D, a1.deps⟩), comps := wrap64 (st1.comps + 1) } := by
        rcases hcs with ⟨hv2, _⟩ | ⟨v2, hv2, h1, h2, h3⟩
        · rw [hv] at hv2; cases hv2
        · rw [hv] at hv2; injection hv2 with hv2; subst hv2; exact ⟨h1, h2, h3⟩
      refine awp_weak (mkS_weak hfit) ?_
      refine awp_sel [2, 3, 6] (by simp only [jN, seval, vint, ksE_cells, kE_cells, ksE_drop1, kE_drop1, hdL, hdb, kE, b2, b3, b2L, hdb1, hd1L] <;> with_reducible rfl) ?_
      obtain ⟨loc1, G1, W4, hL4, nr4, n24, n64, nt4, hF4⟩ := R4.w
      obtain ⟨FD, D4, hI4, hdis4, hG4, henv4⟩ := id W4
      obtain ⟨es, clk, hm4, hgn, hgg⟩ := D4.res
      obtain ⟨clock4, hdb4⟩ := D4.db
      obtain ⟨o1', o2', o3, o4', o5'⟩ := D4.own
      have nrF : ∀ {id}, FD id → id ≠ H1.length := fun hf e => nr4 (by rw [hG4]; exact .inl (e ▸ hf))
      have hk1 := len_of_get b3
      have nk2 : ¬ F2 (H.length + 1) := fun h => by
        rw [hF2] at h
        rcases h with h | h | h | h | h
        · exact nG1 h
        · omega
        · omega
        · omega
        · cases h
      have skey4 := (f4.get skey nk2).1
      obtain ⟨ne2', ne6', _⟩ := R4.ne
      have ne2 := Ne.symm ne2'
      have ne6 := Ne.symm ne6'
      have nek : H.length + 1 ≠ H1.length := by omega
      have ned := nrF o1'
      have nem := nrF o3
      refine awp_abs (fun H5 => (∀ id, id ≠ H1.length → H5[id]? = H4[id]?) ∧ H5.length = H4.length ∧ H5[H1.length]? = some (.row [.slice (v.nums.map vint) .none, .str v.text, vint (st.now : Int), vint (st.now : Int), vint (a1.D : Int), .slice (a1.deps.map kE) tl, vint 0])) ⟨fun id h => List.getElem?_set_ne (Ne.symm h), by simp, List.getElem?_set_self (len_of_get R4.row)⟩ ?_
      rintro H5 ⟨h5s, h5l, h5r⟩
      have t2 := (h5s _ ne2).trans R4.b2
      have t6 := (h5s _ ne6).trans R4.b6
      have tk := (h5s _ nek).trans skey4
      have td := (h5s _ ned).trans hdb4
      have tm := (h5s _ nem).trans hm4
      rcases hold : st1.res (k1, k2, k3) with _ | old
      ·
        have gE : alook false .nilp (gget es (k1, k2, k3)) = .nilp := by rw [hgg, hold]; rfl
        have hnc : newC (st1.res (k1, k2, k3)) st.now a1.D v = st.now := by rw [hold]; rfl
        repeat (refine awp_seq ?_)
        refine dp_draw (by kernel_rfl) ?_
        refine dp_end (by simp only [jP, jO, jN, seval, y28, y37, y59, y62, y85, vint, ksE_cells, kE_cells, ksE_drop1, kE_drop1, hdL, hdb, kE, b2, b3, b2L, hdb1, hd1L, t2, t6, tk, td, tm, h5r, gE, alookup, kE] <;> with_reducible rfl) (by decide) (by repeat (first | exact Fin.base _ | with_reducible apply Fin.keep | apply Fin.drop)) ?_
        repeat (refine awp_seq ?_)
        refine dp_draw (by kernel_rfl) ?_
        refine dp_take 3 (by simp only [jP, jO, jN, seval, y85, vint, ksE_cells, kE_cells, ksE_drop1, kE_drop1, hdL, hdb, kE, b2, b3, b2L, hdb1, hd1L, t2, t6, tk, td, tm, h5r, gE, alookup, kE] <;> with_reducible rfl) (by decide) ?_
        refine dp_skip (r := .tup []) (by simp only [jE, jN, seval, vint, ksE_cells, kE_cells, ksE_drop1, kE_drop1, hdL, hdb, kE, b2, b3, b2L, hdb1, hd1L, t2, t6, tk, td, tm, h5r, gE, alookup, kE] <;> with_reducible rfl) ?_
        refine dp_skip (r := .tup []) (by simp only [jE, jN, seval, vint, ksE_cells, kE_cells, ksE_drop1, kE_drop1, hdL, hdb, kE, b2, b3, b2L, hdb1, hd1L, t2, t6, tk, td, tm, h5r, gE, alookup, kE] <;> with_reducible rfl) ?_
        refine dp_skip (r := .tup []) (by simp only [jE, jN, seval, vint, ksE_cells, kE_cells, ksE_drop1, kE_drop1, hdL, hdb, kE, b2, b3, b2L, hdb1, hd1L, t2, t6, tk, td, tm, h5r, gE, alookup, kE] <;> with_reducible rfl) ?_
        refine dp_skip (r := .tup []) (by simp only [jE, jN, seval, vint, ksE_cells, kE_cells, ksE_drop1, kE_drop1, hdL, hdb, kE, b2, b3, b2L, hdb1, hd1L, t2, t6, tk, td, tm, h5r, gE, alookup, kE] <;> with_reducible rfl) ?_
        refine dp_skip (r := .tup []) (by simp only [jE, jN, seval, vint, ksE_cells, kE_cells, ksE_drop1, kE_drop1, hdL, hdb, kE, b2, b3, b2L, hdb1, hd1L, t2, t6, tk, td, tm, h5r, gE, alookup, kE] <;> with_reducible rfl) ?_
        refine dp_skip (r := .tup []) (by simp only [jE, jN, seval, vint, ksE_cells, kE_cells, ksE_drop1, kE_drop1, hdL, hdb, kE, b2, b3, b2L, hdb1, hd1L, t2, t6, tk, td, tm, h5r, gE, alookup, kE] <;> with_reducible rfl) ?_
        refine dp_skip (r := .tup []) (by simp only [jE, jN, seval, vint, ksE_cells, kE_cells, ksE_drop1, kE_drop1, hdL, hdb, kE, b2, b3, b2L, hdb1, hd1L, t2, t6, tk, td, tm, h5r, gE, alookup, kE] <;> with_reducible rfl) ?_
        refine dp_skip (r := .tup []) (by simp only [jE, jN, seval, vint, ksE_cells, kE_cells, ksE_drop1, kE_drop1, hdL, hdb, kE, b2, b3, b2L, hdb1, hd1L, t2, t6, tk, td, tm, h5r, gE, alookup, kE] <;> with_reducible rfl) ?_
        refine dp_skip (r := .tup []) (by simp only [jE, jN, seval, vint, ksE_cells, kE_cells, ksE_drop1, kE_drop1, hdL, hdb, kE, b2, b3, b2L, hdb1, hd1L, t2, t6, tk, td, tm, h5r, gE, alookup, kE] <;> with_reducible rfl) ?_
        refine dp_take 2 (by simp only [jP, jO, jN, seval, vint, ksE_cells, kE_cells, ksE_drop1, kE_drop1, hdL, hdb, kE, b2, b3, b2L, hdb1, hd1L, t2, t6, tk, td, tm, h5r, gE, alookup, kE] <;> with_reducible rfl) (by decide) ?_
        refine dp_skip (r := .tup []) (by simp only [jE, jN, seval, vint, ksE_cells, kE_cells, ksE_drop1, kE_drop1, hdL, hdb, kE, b2, b3, b2L, hdb1, hd1L, t2, t6, tk, td, tm, h5r, gE, alookup, kE] <;> with_reducible rfl) ?_
        refine dp_skip (r := .tup []) (by simp only [jE, jN, seval, vint, ksE_cells, kE_cells, ksE_drop1, kE_drop1, hdL, hdb, kE, b2, b3, b2L, hdb1, hd1L, t2, t6, tk, td, tm, h5r, gE, alookup, kE] <;> with_reducible rfl) ?_
        refine dp_skip (r := .tup []) (by simp only [jE, jN, seval, vint, ksE_cells, kE_cells, ksE_drop1, kE_drop1, hdL, hdb, kE, b2, b3, b2L, hdb1, hd1L, t2, t6, tk, td, tm, h5r, gE, alookup, kE] <;> with_reducible rfl) ?_
        refine dp_skip (r := .tup []) (by simp only [jE, jN, seval, vint, ksE_cells, kE_cells, ksE_drop1, kE_drop1, hdL, hdb, kE, b2, b3, b2L, hdb1, hd1L, t2, t6, tk, td, tm, h5r, gE, alookup, kE] <;> with_reducible rfl) ?_
        refine dp_skip (r := .tup []) (by simp only [jE, jN, seval, vint, ksE_cells, kE_cells, ksE_drop1, kE_drop1, hdL, hdb, kE, b2, b3, b2L, hdb1, hd1L, t2, t6, tk, td, tm, h5r, gE, alookup, kE] <;> with_reducible rfl) ?_
        refine dp_skip (r := .tup []) (by simp only [jE, jN, seval, vint, ksE_cells, kE_cells, ksE_drop1, kE_drop1, hdL, hdb, kE, b2, b3, b2L, hdb1, hd1L, t2, t6, tk, td, tm, h5r, gE, alookup, kE] <;> with_reducible rfl) ?_
        refine dp_skip (r := .tup []) (by simp only [jE, jN, seval, vint, ksE_cells, kE_cells, ksE_drop1, kE_drop1, hdL, hdb, kE, b2, b3, b2L, hdb1, hd1L, t2, t6, tk, td, tm, h5r, gE, alookup, kE] <;> with_reducible rfl) ?_
        refine dp_skip (r := .tup []) (by simp only [jE, jN, seval, vint, ksE_cells, kE_cells, ksE_drop1, kE_drop1, hdL, hdb, kE, b2, b3, b2L, hdb1, hd1L, t2, t6, tk, td, tm, h5r, gE, alookup, kE] <;> with_reducible rfl) ?_
        refine dp_skip (r := .tup []) (by simp only [jE, jN, seval, vint, ksE_cells, kE_cells, ksE_drop1, kE_drop1, hdL, hdb, kE, b2, b3, b2L, hdb1, hd1L, t2, t6, tk, td, tm, h5r, gE, alookup, kE] <;> with_reducible rfl) ?_
        refine dp_end (by simp only [jP, jO, jN, seval, vint, ksE_cells, kE_cells, ksE_drop1, kE_drop1, hdL, hdb, kE, b2, b3, b2L, hdb1, hd1L, t2, t6, tk, td, tm, h5r, gE, alookup, kE] <;> with_reducible rfl) (by decide) (by repeat (first | exact Fin.base _ | with_reducible apply Fin.keep | apply Fin.drop)) ?_
        repeat (refine awp_seq ?_)
        refine awp_cond_false rfl (by simp only [jN, seval, vint, ksE_cells, kE_cells, ksE_drop1, kE_drop1, hdL, hdb, kE, b2, b3, b2L, hdb1, hd1L, t2, t6, tk, td, tm, h5r, gE, alookup, kE] <;> with_reducible rfl) ?_
        repeat (refine awp_seq ?_)
        refine awp_skip ?_
        refine awp_sel [2, 3, 6] (by simp only [jN, seval, vint, ksE_cells, kE_cells, ksE_drop1, kE_drop1, hdL, hdb, kE, b2, b3, b2L, hdb1, hd1L, t2, t6, tk, td, tm, h5r, gE, alookup, kE] <;> with_reducible rfl) ?_
        refine awp_abs (fun H6 => (∀ id, id ≠ H1.length → H6[id]? = H4[id]?) ∧ H6.length = H4.length ∧ H6[H1.length]? = some (.row (recC ⟨v, st.now, newC (st1.res (k1, k2, k3)) st.now a1.D v, a1.D, a1.deps⟩ tl 0))) (by rw [hnc]; exact ⟨h5s, h5l, h5r⟩) ?_
        rintro H6 ⟨h6s, h6l, h6r⟩
        have u2 := (h6s _ ne2).trans R4.b2
        have u6 := (h6s _ ne6).trans R4.b6
        have uk := (h6s _ nek).trans skey4
        have ud := (h6s _ ned).trans hdb4
        have um := (h6s _ nem).trans hm4
        have vm : (cx.ix.m = H6.length) = False := by have := len_of_get um; simp; omega
        have vd : (cx.ix.d = H6.length) = False := by have := len_of_get ud; simp; omega
        have w2 : ∀ o, (H6.set cx.ix.m o)[H.length]? = _ := fun o => set_lt u2 (fun e => n24 (by rw [hG4]; exact .inl (e ▸ o3)))
        have w6 : ∀ o, (H6.set cx.ix.m o)[H1.length + 1]? = _ := fun o => set_lt u6 (fun e => n64 (by rw [hG4]; exact .inl (e ▸ o3)))
        have wd : ∀ o, (H6.set cx.ix.m o)[cx.ix.d]? = _ := fun o => set_lt ud D4.ne.2.1
        have w6d : ∀ o o2, ((H6.set cx.ix.m o).set cx.ix.d o2)[H1.length + 1]? = _ := fun o o2 => set_lt (w6 o) (fun e => n64 (by rw [hG4]; exact .inl (e ▸ o1')))
        have wl : ∀ o, (H6.set cx.ix.m o).length = H6.length := fun o => by simp
        ·
          repeat (refine awp_seq ?_)
          refine x_draw 0 (n0 := H6.length) (by first | rfl | (simp only [List.length_append, List.length_cons, List.length_nil, Nat.reduceAdd, Nat.zero_add, hdL, hdb, kE, b2, b3, b2L, hdb1, hd1L, t2, t6, tk, td, tm, h5r, gE, alookup, kE, amapset, Option.isSome_some, u2, u6, uk, ud, um, vm, vd, w2, w6, wd, w6d, wl, wrap64_eq]; done)) (by kernel_rfl) ?_
          refine x1_take 6 (by first | rfl | (simp only [List.length_append, List.length_cons, List.length_nil, Nat.reduceAdd, Nat.zero_add, hdL, hdb, kE, b2, b3, b2L, hdb1, hd1L, t2, t6, tk, td, tm, h5r, gE, alookup, kE, amapset, Option.isSome_some, u2, u6, uk, ud, um, vm, vd, w2, w6, wd, w6d, wl, wrap64_eq]; done)) (by simp only [jP, jO, jN, seval, y28, y37, y59, y62, y85, vint, ksE_cells, kE_cells, ksE_drop1, kE_drop1, hdL, hdb, kE, b2, b3, b2L, hdb1, hd1L, t2, t6, tk, td, tm, h5r, gE, alookup, kE, amapset, Option.isSome_some, u2, u6, uk, ud, um, vm, vd, w2, w6, wd, w6d, wl, wrap64_eq] <;> with_reducible rfl) (by decide) (by decide) (by decide) ?_
          refine x_mid (by first | (simp only [LS, HS, List.append_assoc, List.cons_append, List.nil_append, hdL, hdb, kE, b2, b3, b2L, hdb1, hd1L, t2, t6, tk, td, tm, h5r, gE, alookup, kE, amapset, Option.isSome_some, u2, u6, uk, ud, um, vm, vd, w2, w6, wd, w6d, wl, wrap64_eq] <;> with_reducible rfl) | rfl) ?_
          refine x2_end (bm := [0, 1, 3, 7, 0, 0, 63]) (fresh := (H6.length)) (by kernel_rfl) (by simp only [jX, jO, jN, seval, y59, y85, vint, ksE_cells, kE_cells, ksE_drop1, kE_drop1, hdL, hdb, kE, b2, b3, b2L, hdb1, hd1L, t2, t6, tk, td, tm, h5r, gE, alookup, kE, amapset, Option.isSome_some, u2, u6, uk, ud, um, vm, vd, w2, w6, wd, w6d, wl, wrap64_eq] <;> with_reducible rfl) (by decide) (by repeat (first | exact Fin.base _ | with_reducible apply Fin.keep | apply Fin.drop)) ?_
          repeat (refine awp_seq ?_)
          refine e_eval (by simp only [jA, jO, jN, seval, y3, y28, y62, vint, ksE_cells, kE_cells, ksE_drop1, kE_drop1, hdL, hdb, kE, b2, b3, b2L, hdb1, hd1L, t2, t6, tk, td, tm, h5r, gE, alookup, kE, amapset, Option.isSome_some, u2, u6, uk, ud, um, vm, vd, w2, w6, wd, w6d, wl, wrap64_eq] <;> with_reducible rfl) (by decide) ?_
          repeat (refine awp_seq ?_)
          refine e_eval (by simp only [jA, jO, jN, seval, y85, vint, ksE_cells, kE_cells, ksE_drop1, kE_drop1, hdL, hdb, kE, b2, b3, b2L, hdb1, hd1L, t2, t6, tk, td, tm, h5r, gE, alookup, kE, amapset, Option.isSome_some, u2, u6, uk, ud, um, vm, vd, w2, w6, wd, w6d, wl, wrap64_eq] <;> with_reducible rfl) (by decide) ?_
          repeat (refine awp_seq ?_)
          refine awp_ret (Or.inl ⟨.inr rfl, _, rfl, ?_⟩)
          obtain ⟨loc', G', w', e1, e2, e3⟩ := R4.finish hx (k := (k1, k2, k3)) hov h6s h6l h6r um (wrap64 (st1.comps + 1)) clock4 (D4.clk _ hdb4)
          rw [hold] at w'
          exact ⟨_, loc', G', rfl, by rw [e1]; rfl, w', ((((f02.trans f4).set' R4.mem.1 h6s h6l).set (by rw [hF4, hG4]; exact .inl (.inl o3)) _).set (by rw [hF4, hG4]; exact .inl (.inl o1')) _).more fun id hi => .inl (e3 id hi), fun q hq => e2 q (List.mem_cons_of_mem _ hq) (fun e => hka (e ▸ hq))⟩
      ·
        have gE : alook false .nilp (gget es (k1, k2, k3)) = .optr (loc1 (k1, k2, k3)) 0 := by rw [hgg, hold]; rfl
        obtain ⟨⟨tlo, luo, ho4⟩, hFo, _, _, _, _, _, hol, _⟩ := D4.recs _ old hold
        have to := (h5s _ (nrF hFo)).trans ho4
        simp only [recC] at to
        have hD : decide ((old.D : Int) ≤ (a1.D : Int)) = decide (old.D ≤ a1.D) := by rw [decide_eq_decide]; omega
        have hml : old.val.nums.length ≤ maxLen := by
          have em : maxLen = 9223372036854775807 := by decide
          unfold lim at hol
          omega
        have nr5 : (H1.length = H5.length) = False := by have := len_of_get h5r; simp; omega
        repeat (refine awp_seq ?_)
        refine dp_draw (by kernel_rfl) ?_
        refine dp_end (by simp only [jP, jO, jN, seval, y28, y37, y59, y62, y85, vint, ksE_cells, kE_cells, ksE_drop1, kE_drop1, hdL, hdb, kE, b2, b3, b2L, hdb1, hd1L, t2, t6, tk, td, tm, h5r, gE, to, hD, nr5, alookup, kE] <;> with_reducible rfl) (by decide) (by repeat (first | exact Fin.base _ | with_reducible apply Fin.keep | apply Fin.drop)) ?_
        repeat (refine awp_seq ?_)
        refine dp_draw (by kernel_rfl) ?_
        refine dp_take 22 (by simp only [jP, jO, jN, seval, y3, y41, y84, y85, vint, ksE_cells, kE_cells, ksE_drop1, kE_drop1, hdL, hdb, kE, b2, b3, b2L, hdb1, hd1L, t2, t6, tk, td, tm, h5r, gE, to, hD, nr5, alookup, kE] <;> with_reducible rfl) (by decide) ?_
        refine dp_keep (by simp only [jE, jN, seval, vint, ksE_cells, kE_cells, ksE_drop1, kE_drop1, hdL, hdb, kE, b2, b3, b2L, hdb1, hd1L, t2, t6, tk, td, tm, h5r, gE, to, hD, nr5, alookup, kE] <;> with_reducible rfl) (by simp only [jE, jN, seval, vint, ksE_cells, kE_cells, ksE_drop1, kE_drop1, hdL, hdb, kE, b2, b3, b2L, hdb1, hd1L, t2, t6, tk, td, tm, h5r, gE, to, hD, nr5, alookup, kE] <;> with_reducible rfl) (by simp only [jE, jN, seval, vint, ksE_cells, kE_cells, ksE_drop1, kE_drop1, hdL, hdb, kE, b2, b3, b2L, hdb1, hd1L, t2, t6, tk, td, tm, h5r, gE, to, hD, nr5, alookup, kE]) (by decide) Trygo43 (fun hc => inEqual old.val.nums v.nums old.val.text v.text hml _) ?_
        refine dp_end (by simp only [jP, jO, jN, seval, vint, ksE_cells, kE_cells, ksE_drop1, kE_drop1, hdL, hdb, kE, b2, b3, b2L, hdb1, hd1L, t2, t6, tk, td, tm, h5r, gE, to, hD, nr5, alookup, kE] <;> with_reducible rfl) (by decide) (by repeat (first | exact Fin.base _ | with_reducible apply Fin.keep | apply Fin.drop)) ?_
        repeat (refine awp_seq ?_)
        refine awp_cond rfl (by simp only [jN, seval, vint, ksE_cells, kE_cells, ksE_drop1, kE_drop1, hdL, hdb, kE, b2, b3, b2L, hdb1, hd1L, t2, t6, tk, td, tm, h5r, gE, to, hD, nr5, alookup, kE] <;> with_reducible rfl) (fun bt71 => ?_) (fun bt71 => ?_)
        ·
          have hc : old.D ≤ a1.D ∧ old.val = v := by
            simp only [Bool.and_eq_true, decide_eq_true_eq] at bt71
            obtain ⟨h1, h2, h3⟩ := bt71
            refine ⟨h1, ?_⟩
            exact qv_ext _ _ (by simpa using h3) (by simpa using h2)
          have hnc : newC (st1.res (k1, k2, k3)) st.now a1.D v = old.c := by rw [hold, newC, if_pos hc]
          refine awp_sel [2, 3, 6, 7] (by simp only [jN, seval, vint, ksE_cells, kE_cells, ksE_drop1, kE_drop1, hdL, hdb, kE, b2, b3, b2L, hdb1, hd1L, t2, t6, tk, td, tm, h5r, gE, to, hD, nr5, alookup, kE] <;> with_reducible rfl) ?_
          repeat (refine awp_seq ?_)
          refine x_draw 0 (n0 := H5.length) (by first | rfl | (simp only [List.length_append, List.length_cons, List.length_nil, Nat.reduceAdd, Nat.zero_add, hdL, hdb, kE, b2, b3, b2L, hdb1, hd1L, t2, t6, tk, td, tm, h5r, gE, to, hD, nr5, alookup, kE]; done)) (by kernel_rfl) ?_
          refine x1_take 7 (by first | rfl | (simp only [List.length_append, List.length_cons, List.length_nil, Nat.reduceAdd, Nat.zero_add, hdL, hdb, kE, b2, b3, b2L, hdb1, hd1L, t2, t6, tk, td, tm, h5r, gE, to, hD, nr5, alookup, kE]; done)) (by simp only [jP, jO, jN, seval, y3, y84, y85, vint, ksE_cells, kE_cells, ksE_drop1, kE_drop1, hdL, hdb, kE, b2, b3, b2L, hdb1, hd1L, t2, t6, tk, td, tm, h5r, gE, to, hD, nr5, alookup, kE] <;> with_reducible rfl) (by decide) (by decide) (by decide) ?_
          refine x_mid (by first | (simp only [LS, HS, List.append_assoc, List.cons_append, List.nil_append, hdL, hdb, kE, b2, b3, b2L, hdb1, hd1L, t2, t6, tk, td, tm, h5r, gE, to, hD, nr5, alookup, kE] <;> with_reducible rfl) | rfl) ?_
          refine x2_end (bm := [0, 0, 2, 6, 14, 31, 63, 127]) (fresh := (H5.length)) (by kernel_rfl) (by simp only [jX, jO, jN, seval, y3, vint, ksE_cells, kE_cells, ksE_drop1, kE_drop1, hdL, hdb, kE, b2, b3, b2L, hdb1, hd1L, t2, t6, tk, td, tm, h5r, gE, to, hD, nr5, alookup, kE] <;> with_reducible rfl) (by decide) (by repeat (first | exact Fin.base _ | with_reducible apply Fin.keep | apply Fin.drop)) ?_
          refine awp_abs (fun H6 => (∀ id, id ≠ H1.length → H6[id]? = H4[id]?) ∧ H6.length = H4.length ∧ H6[H1.length]? = some (.row (recC ⟨v, st.now, newC (st1.res (k1, k2, k3)) st.now a1.D v, a1.D, a1.deps⟩ tl 0))) (by rw [hnc]; exact ⟨fun id h => (List.getElem?_set_ne (Ne.symm h)).trans (h5s id h), by simp [h5l], List.getElem?_set_self (len_of_get h5r)⟩) ?_
          rintro H6 ⟨h6s, h6l, h6r⟩
          have u2 := (h6s _ ne2).trans R4.b2
          have u6 := (h6s _ ne6).trans R4.b6
          have uk := (h6s _ nek).trans skey4
          have ud := (h6s _ ned).trans hdb4
          have um := (h6s _ nem).trans hm4
          have vm : (cx.ix.m = H6.length) = False := by have := len_of_get um; simp; omega
          have vd : (cx.ix.d = H6.length) = False := by have := len_of_get ud; simp; omega
          have w2 : ∀ o, (H6.set cx.ix.m o)[H.length]? = _ := fun o => set_lt u2 (fun e => n24 (by rw [hG4]; exact .inl (e ▸ o3)))
          have w6 : ∀ o, (H6.set cx.ix.m o)[H1.length + 1]? = _ := fun o => set_lt u6 (fun e => n64 (by rw [hG4]; exact .inl (e ▸ o3)))
          have wd : ∀ o, (H6.set cx.ix.m o)[cx.ix.d]? = _ := fun o => set_lt ud D4.ne.2.1
          have w6d : ∀ o o2, ((H6.set cx.ix.m o).set cx.ix.d o2)[H1.length + 1]? = _ := fun o o2 => set_lt (w6 o) (fun e => n64 (by rw [hG4]; exact .inl (e ▸ o1')))
          have wl : ∀ o, (H6.set cx.ix.m o).length = H6.length := fun o => by simp
          ·
            repeat (refine awp_seq ?_)
            refine x_draw 0 (n0 := H6.length) (by first | rfl | (simp only [List.length_append, List.length_cons, List.length_nil, Nat.reduceAdd, Nat.zero_add, hdL, hdb, kE, b2, b3, b2L, hdb1, hd1L, t2, t6, tk, td, tm, h5r, gE, to, hD, nr5, alookup, kE, amapset, Option.isSome_some, u2, u6, uk, ud, um, vm, vd, w2, w6, wd, w6d, wl, wrap64_eq]; done)) (by kernel_rfl) ?_
            refine x1_take 6 (by first | rfl | (simp only [List.length_append, List.length_cons, List.length_nil, Nat.reduceAdd, Nat.zero_add, hdL, hdb, kE, b2, b3, b2L, hdb1, hd1L, t2, t6, tk, td, tm, h5r, gE, to, hD, nr5, alookup, kE, amapset, Option.isSome_some, u2, u6, uk, ud, um, vm, vd, w2, w6, wd, w6d, wl, wrap64_eq]; done)) (by simp only [jP, jO, jN, seval, y28, y37, y59, y62, y85, vint, ksE_cells, kE_cells, ksE_drop1, kE_drop1, hdL, hdb, kE, b2, b3, b2L, hdb1, hd1L, t2, t6, tk, td, tm, h5r, gE, to, hD, nr5, alookup, kE, amapset, Option.isSome_some, u2, u6, uk, ud, um, vm, vd, w2, w6, wd, w6d, wl, wrap64_eq] <;> with_reducible rfl) (by decide) (by decide) (by decide) ?_
            refine x_mid (by first | (simp only [LS, HS, List.append_assoc, List.cons_append, List.nil_append, hdL, hdb, kE, b2, b3, b2L, hdb1, hd1L, t2, t6, tk, td, tm, h5r, gE, to, hD, nr5, alookup, kE, amapset, Option.isSome_some, u2, u6, uk, ud, um, vm, vd, w2, w6, wd, w6d, wl, wrap64_eq] <;> with_reducible rfl) | rfl) ?_
            refine x2_end (bm := [0, 1, 3, 7, 0, 0, 63]) (fresh := (H6.length)) (by kernel_rfl) (by simp only [jX, jO, jN, seval, y59, y85, vint, ksE_cells, kE_cells, ksE_drop1, kE_drop1, hdL, hdb, kE, b2, b3, b2L, hdb1, hd1L, t2, t6, tk, td, tm, h5r, gE, to, hD, nr5, alookup, kE, amapset, Option.isSome_some, u2, u6, uk, ud, um, vm, vd, w2, w6, wd, w6d, wl, wrap64_eq] <;> with_reducible rfl) (by decide) (by repeat (first | exact Fin.base _ | with_reducible apply Fin.keep | apply Fin.drop)) ?_
            repeat (refine awp_seq ?_)
            refine e_eval (by simp only [jA, jO, jN, seval, y3, y28, y62, vint, ksE_cells, kE_cells, ksE_drop1, kE_drop1, hdL, hdb, kE, b2, b3, b2L, hdb1, hd1L, t2, t6, tk, td, tm, h5r, gE, to, hD, nr5, alookup, kE, amapset, Option.isSome_some, u2, u6, uk, ud, um, vm, vd, w2, w6, wd, w6d, wl, wrap64_eq] <;> with_reducible rfl) (by decide) ?_
            refine awp_sel [6] (by simp only [jN, seval, vint, ksE_cells, kE_cells, ksE_drop1, kE_drop1, hdL, hdb, kE, b2, b3, b2L, hdb1, hd1L, t2, t6, tk, td, tm, h5r, gE, to, hD, nr5, alookup, kE, amapset, Option.isSome_some, u2, u6, uk, ud, um, vm, vd, w2, w6, wd, w6d, wl, wrap64_eq] <;> with_reducible rfl) ?_
            repeat (refine awp_seq ?_)
            refine e_eval (by simp only [jA, jO, jN, seval, y85, vint, ksE_cells, kE_cells, ksE_drop1, kE_drop1, hdL, hdb, kE, b2, b3, b2L, hdb1, hd1L, t2, t6, tk, td, tm, h5r, gE, to, hD, nr5, alookup, kE, amapset, Option.isSome_some, u2, u6, uk, ud, um, vm, vd, w2, w6, wd, w6d, wl, wrap64_eq] <;> with_reducible rfl) (by decide) ?_
            repeat (refine awp_seq ?_)
            refine awp_ret (Or.inl ⟨.inr rfl, _, rfl, ?_⟩)
            obtain ⟨loc', G', w', e1, e2, e3⟩ := R4.finish hx (k := (k1, k2, k3)) hov h6s h6l h6r um (wrap64 (st1.comps + 1)) clock4 (D4.clk _ hdb4)
            rw [hold] at w'
            exact ⟨_, loc', G', rfl, by rw [e1]; rfl, w', ((((f02.trans f4).set' R4.mem.1 h6s h6l).set (by rw [hF4, hG4]; exact .inl (.inl o3)) _).set (by rw [hF4, hG4]; exact .inl (.inl o1')) _).more fun id hi => .inl (e3 id hi), fun q hq => e2 q (List.mem_cons_of_mem _ hq) (fun e => hka (e ▸ hq))⟩
        ·
          have hc : ¬ (old.D ≤ a1.D ∧ old.val = v) := by
            rintro ⟨h1, h2⟩
            rw [← h2] at bt71
            simp [h1] at bt71
          have hnc : newC (st1.res (k1, k2, k3)) st.now a1.D v = st.now := by rw [hold, newC, if_neg hc]
          repeat (refine awp_seq ?_)
          refine awp_skip ?_
          refine awp_sel [2, 3, 6] (by simp only [jN, seval, vint, ksE_cells, kE_cells, ksE_drop1, kE_drop1, hdL, hdb, kE, b2, b3, b2L, hdb1, hd1L, t2, t6, tk, td, tm, h5r, gE, to, hD, nr5, alookup, kE] <;> with_reducible rfl) ?_
          refine awp_abs (fun H6 => (∀ id, id ≠ H1.length → H6[id]? = H4[id]?) ∧ H6.length = H4.length ∧ H6[H1.length]? = some (.row (recC ⟨v, st.now, newC (st1.res (k1, k2, k3)) st.now a1.D v, a1.D, a1.deps⟩ tl 0))) (by rw [hnc]; exact ⟨h5s, h5l, h5r⟩) ?_
          rintro H6 ⟨h6s, h6l, h6r⟩
          have u2 := (h6s _ ne2).trans R4.b2
          have u6 := (h6s _ ne6).trans R4.b6
          have uk := (h6s _ nek).trans skey4
          have ud := (h6s _ ned).trans hdb4
          have um := (h6s _ nem).trans hm4
          have vm : (cx.ix.m = H6.length) = False := by have := len_of_get um; simp; omega
          have vd : (cx.ix.d = H6.length) = False := by have := len_of_get ud; simp; omega
          have w2 : ∀ o, (H6.set cx.ix.m o)[H.length]? = _ := fun o => set_lt u2 (fun e => n24 (by rw [hG4]; exact .inl (e ▸ o3)))
          have w6 : ∀ o, (H6.set cx.ix.m o)[H1.length + 1]? = _ := fun o => set_lt u6 (fun e => n64 (by rw [hG4]; exact .inl (e ▸ o3)))
          have wd : ∀ o, (H6.set cx.ix.m o)[cx.ix.d]? = _ := fun o => set_lt ud D4.ne.2.1
          have w6d : ∀ o o2, ((H6.set cx.ix.m o).set cx.ix.d o2)[H1.length + 1]? = _ := fun o o2 => set_lt (w6 o) (fun e => n64 (by rw [hG4]; exact .inl (e ▸ o1')))
          have wl : ∀ o, (H6.set cx.ix.m o).length = H6.length := fun o => by simp
          ·
            repeat (refine awp_seq ?_)
            refine x_draw 0 (n0 := H6.length) (by first | rfl | (simp only [List.length_append, List.length_cons, List.length_nil, Nat.reduceAdd, Nat.zero_add, hdL, hdb, kE, b2, b3, b2L, hdb1, hd1L, t2, t6, tk, td, tm, h5r, gE, to, hD, nr5, alookup, kE, amapset, Option.isSome_some, u2, u6, uk, ud, um, vm, vd, w2, w6, wd, w6d, wl, wrap64_eq]; done)) (by kernel_rfl) ?_
            refine x1_take 6 (by first | rfl | (simp only [List.length_append, List.length_cons, List.length_nil, Nat.reduceAdd, Nat.zero_add, hdL, hdb, kE, b2, b3, b2L, hdb1, hd1L, t2, t6, tk, td, tm, h5r, gE, to, hD, nr5, alookup, kE, amapset, Option.isSome_some, u2, u6, uk, ud, um, vm, vd, w2, w6, wd, w6d, wl, wrap64_eq]; done)) (by simp only [jP, jO, jN, seval, y28, y37, y59, y62, y85, vint, ksE_cells, kE_cells, ksE_drop1, kE_drop1, hdL, hdb, kE, b2, b3, b2L, hdb1, hd1L, t2, t6, tk, td, tm, h5r, gE, to, hD, nr5, alookup, kE, amapset, Option.isSome_some, u2, u6, uk, ud, um, vm, vd, w2, w6, wd, w6d, wl, wrap64_eq] <;> with_reducible rfl) (by decide) (by decide) (by decide) ?_
            refine x_mid (by first | (simp only [LS, HS, List.append_assoc, List.cons_append, List.nil_append, hdL, hdb, kE, b2, b3, b2L, hdb1, hd1L, t2, t6, tk, td, tm, h5r, gE, to, hD, nr5, alookup, kE, amapset, Option.isSome_some, u2, u6, uk, ud, um, vm, vd, w2, w6, wd, w6d, wl, wrap64_eq] <;> with_reducible rfl) | rfl) ?_
            refine x2_end (bm := [0, 1, 3, 7, 0, 0, 63]) (fresh := (H6.length)) (by kernel_rfl) (by simp only [jX, jO, jN, seval, y59, y85, vint, ksE_cells, kE_cells, ksE_drop1, kE_drop1, hdL, hdb, kE, b2, b3, b2L, hdb1, hd1L, t2, t6, tk, td, tm, h5r, gE, to, hD, nr5, alookup, kE, amapset, Option.isSome_some, u2, u6, uk, ud, um, vm, vd, w2, w6, wd, w6d, wl, wrap64_eq] <;> with_reducible rfl) (by decide) (by repeat (first | exact Fin.base _ | with_reducible apply Fin.keep | apply Fin.drop)) ?_
            repeat (refine awp_seq ?_)
            refine e_eval (by simp only [jA, jO, jN, seval, y3, y28, y62, vint, ksE_cells, kE_cells, ksE_drop1, kE_drop1, hdL, hdb, kE, b2, b3, b2L, hdb1, hd1L, t2, t6, tk, td, tm, h5r, gE, to, hD, nr5, alookup, kE, amapset, Option.isSome_some, u2, u6, uk, ud, um, vm, vd, w2, w6, wd, w6d, wl, wrap64_eq] <;> with_reducible rfl) (by decide) ?_
            repeat (refine awp_seq ?_)
            refine e_eval (by simp only [jA, jO, jN, seval, y85, vint, ksE_cells, kE_cells, ksE_drop1, kE_drop1, hdL, hdb, kE, b2, b3, b2L, hdb1, hd1L, t2, t6, tk, td, tm, h5r, gE, to, hD, nr5, alookup, kE, amapset, Option.isSome_some, u2, u6, uk, ud, um, vm, vd, w2, w6, wd, w6d, wl, wrap64_eq] <;> with_reducible rfl) (by decide) ?_
            repeat (refine awp_seq ?_)
            refine awp_ret (Or.inl ⟨.inr rfl, _, rfl, ?_⟩)
            obtain ⟨loc', G', w', e1, e2, e3⟩ := R4.finish hx (k := (k1, k2, k3)) hov h6s h6l h6r um (wrap64 (st1.comps + 1)) clock4 (D4.clk _ hdb4)
            rw [hold] at w'
            exact ⟨_, loc', G', rfl, by rw [e1]; rfl, w', ((((f02.trans f4).set' R4.mem.1 h6s h6l).set (by rw [hF4, hG4]; exact .inl (.inl o3)) _).set (by rw [hF4, hG4]; exact .inl (.inl o1')) _).more fun id hi => .inl (e3 id hi), fun q hq => e2 q (List.mem_cons_of_mem _ hq) (fun e => hka (e ▸ hq))⟩
end Go.Abs
namespace Go.Abs
open Go.Proofs Go.Memo
theorem run_keep {u : QK → St → Out Rec} {act : List QK} (h : ∀ k st o st', u k st = some (o, st') → (∀ q ∈ act, st'.res q = st.res q) ∧ st'.now = st.now ∧ st'.lc = st.lc ∧ st'.cell = st.cell) :
    ∀ (p : Prog) (s s' : Acc × St) (o : Option QV), runP (getStep u) p s = some (o, s') → (∀ q ∈ act, s'.2.res q = s.2.res q) ∧ s'.2.now = s.2.now ∧ s'.2.lc = s.2.lc ∧ s'.2.cell = s.2.cell
  | .ret v, s, s', o, e => by
    simp only [runP] at e
    injection e with e; injection e with e1 e2; subst e2; exact ⟨fun _ _ => rfl, rfl, rfl, rfl⟩
  | .get k c, s, s', o, e => by
    have hs : ∀ (o1 : Option QV) (s1 : Acc × St), getStep u k s = some (o1, s1) → (∀ q ∈ act, s1.2.res q = s.2.res q) ∧ s1.2.now = s.2.now ∧ s1.2.lc = s.2.lc ∧ s1.2.cell = s.2.cell := by
      intro o1 s1 e1
      unfold getStep at e1
      split at e1
      · split at e1
        · injection e1 with e1; injection e1 with e2 e3; subst e3; exact ⟨fun _ _ => rfl, rfl, rfl, rfl⟩
        · cases e1
      · split at e1
        · cases e1
        · rename_i st1 h1; injection e1 with e1; injection e1 with e2 e3; subst e3; exact h _ _ _ _ h1
        · rename_i r st1 h1
          split at e1
          · injection e1 with e1; injection e1 with e2 e3; subst e3; exact h _ _ _ _ h1
          · cases e1
    simp only [runP] at e
    split at e
    · cases e
    · rename_i s1 h1; injection e with e; injection e with e2 e3; subst e3; exact hs _ _ h1
    · rename_i v s1 h1
      obtain ⟨a1, a2, a3, a4⟩ := hs _ _ h1
      obtain ⟨b1, b2, b3, b4⟩ := run_keep h (c v) s1 s' o e
      exact ⟨fun q hq => (b1 q hq).trans (a1 q hq), b2.trans a2, b3.trans a3, b4.trans a4⟩
theorem recomp_keep {u : QK → St → Out Rec} {act : List QK} {k : QK} (h : ∀ q st o st', u q st = some (o, st') → (∀ q ∈ k :: act, st'.res q = st.res q) ∧ st'.now = st.now ∧ st'.lc = st.lc ∧ st'.cell = st.cell) (hk : k ∉ act)
    {stp : Int → Bool} {cp : QK → Prog} {st st' : St} {o : Option Rec} (e : recomp u stp cp k st = some (o, st')) : (∀ q ∈ act, st'.res q = st.res q) ∧ st'.now = st.now ∧ st'.lc = st.lc ∧ st'.cell = st.cell ∧ ∀ r, o = some r → st'.res k = some r ∧ r.v = st'.now := by
  unfold recomp at e
  split at e
  · injection e with e; injection e with e1 e2; subst e2; subst e1; exact ⟨fun _ _ => rfl, rfl, rfl, rfl, fun r h => by cases h⟩
  · split at e
    · cases e
    · rename_i s h1
      injection e with e; injection e with e1 e2; subst e1; subst e2
      obtain ⟨a1, a2, a3, a4⟩ := run_keep h _ _ _ _ h1
      exact ⟨fun q hq => a1 q (List.mem_cons_of_mem _ hq), a2, a3, a4, fun r h => by cases h⟩
    · rename_i v s h1
      split at e
      · injection e with e; injection e with e1 e2
        obtain ⟨a1, a2, a3, a4⟩ := run_keep h _ _ _ _ h1
        subst e1; subst e2
        refine ⟨fun q hq => ?_, a2, a3, a4, fun r h => ?_⟩
        · simp only [setF]
          rw [if_neg (fun h : q = k => hk (h ▸ hq))]
          exact a1 q (List.mem_cons_of_mem _ hq)
        · injection h with h; subst h
          exact ⟨by simp [setF], a2.symm⟩
      · cases e
theorem updF_eq (u : QK → St → Out Rec) (stp : Int → Bool) (cp : QK → Prog) (k : QK) (st : St) : updF u stp cp k st = match st.res k with
    | none => recomp u stp cp k st
    | some r => match valM u r st with
      | none => none
      | some (none, st') => some (none, st')
      | some (some true, st') => Memo.keep k r st'
      | some (some false, st') => recomp u stp cp k st' := by
  unfold updF
  cases st.res k with
  | none => rfl
  | some r =>
    simp only [valM]
    split
    · rfl
    · cases chk u r.v r.deps st with
      | none => rfl
      | some x =>
        obtain ⟨o, s⟩ := x
        cases o with
        | none => rfl
        | some b => cases b <;> rfl
theorem valM_keep {u : List QK → QK → St → Out Rec} (hu : UOk u) {act : List QK} {r : Rec} {st st' : St} {o : Option Bool} (e : valM (u act) r st = some (o, st')) : (∀ q ∈ act, st'.res q = st.res q) ∧ st'.now = st.now ∧ st'.lc = st.lc ∧ st'.cell = st.cell := by
  unfold valM at e
  split at e
  · injection e with e; injection e with e1 e2; subst e2; exact ⟨fun _ _ => rfl, rfl, rfl, rfl⟩
  · split at e
    · cases e
    · rename_i h1; injection e with e; injection e with e2 e3; subst e3; exact chk_keep hu _ h1
    · rename_i h1; injection e with e; injection e with e2 e3; subst e3; exact chk_keep hu _ h1
theorem updF_keep {u : List QK → QK → St → Out Rec} (hu : UOk u) {act : List QK} {k : QK} (hk : k ∉ act) {stp : Int → Bool} {cp : QK → Prog} {st st' : St} {o : Option Rec} (e : updF (u (k :: act)) stp cp k st = some (o, st')) :
    (∀ q ∈ act, st'.res q = st.res q) ∧ (∀ r, o = some r → st'.res k = some r) ∧ st'.now = st.now ∧ st'.lc = st.lc ∧ st'.cell = st.cell := by
  have H : ∀ q st o st', u (k :: act) q st = some (o, st') → (∀ q ∈ k :: act, st'.res q = st.res q) ∧ st'.now = st.now ∧ st'.lc = st.lc ∧ st'.cell = st.cell := fun q st o st' h => ⟨hu.keep _ _ _ _ _ h, hu.same _ _ _ _ _ h⟩
  rw [updF_eq] at e
  split at e
  · obtain ⟨a1, a2, a3, a4, a5⟩ := recomp_keep H hk e
    exact ⟨a1, fun r h => (a5 r h).1, a2, a3, a4⟩
  · rename_i r0 hr
    split at e
    · cases e
    · rename_i h1
      injection e with e; injection e with e1 e2; subst e1; subst e2
      obtain ⟨a1, a2⟩ := valM_keep hu h1
      exact ⟨fun q hq => a1 q (List.mem_cons_of_mem _ hq), fun r h => by (cases h), a2⟩
    · rename_i s1 h1
      obtain ⟨a1, a2⟩ := valM_keep hu h1
      unfold Memo.keep at e
      injection e with e; injection e with e1 e2; subst e1; subst e2
      refine ⟨fun q hq => ?_, fun r h => ?_, a2⟩
      · simp only [setF]
        rw [if_neg (fun h : q = k => hk (h ▸ hq))]
        exact a1 q (List.mem_cons_of_mem _ hq)
      · injection h with h; subst h; simp [setF]
    · rename_i s1 h1
      obtain ⟨a1, a2, a3, a4⟩ := valM_keep hu h1
      obtain ⟨b1, b2, b3, b4, b5⟩ := recomp_keep H hk e
      exact ⟨fun q hq => (b1 q hq).trans (a1 q (List.mem_cons_of_mem _ hq)), fun r h => (b5 r h).1, b2.trans a2, b3.trans a3, b4.trans a4⟩
theorem upd_UOk (stp : Int → Bool) (cp : QK → Prog) : ∀ n, UOk fun act k st => Memo.upd stp cp n act k st
  | 0 => ⟨fun _ _ _ _ _ h => by (simp [Memo.upd] at h), fun _ _ _ _ _ h => by (simp [Memo.upd] at h), fun _ _ _ _ _ h => by (simp [Memo.upd] at h)⟩
  | n + 1 => by
    have ih := upd_UOk stp cp n
    have A : ∀ act k st o st', Memo.upd stp cp (n + 1) act k st = some (o, st') → (∀ q ∈ act, st'.res q = st.res q) ∧ (∀ r, o = some r → st'.res k = some r) ∧ st'.now = st.now ∧ st'.lc = st.lc ∧ st'.cell = st.cell := by
      intro act k st o st' h
      rw [Memo.upd] at h
      split at h
      · cases h
      · rename_i hk
        obtain ⟨⟨o1, s1⟩, h9, e⟩ := Option.map_eq_some_iff.1 h
        simp only [Prod.mk.injEq] at e
        obtain ⟨rfl, rfl⟩ := e
        have := updF_keep (u := fun act k st => Memo.upd stp cp n act k st) ih hk h9
        cases o1 with
        | none => exact this
        | some r => exact this
    exact ⟨fun act k st o st' h => (A act k st o st' h).1, fun act k st r st' h => (A act k st _ st' h).2.1 r rfl, fun act k st o st' h => (A act k st o st' h).2.2⟩
section
variable {cx : Cx} (hx : CxOk cx) {loc : QK → Nat} {act act' : List QK} {st st' : St} {b : Bool} {G : FPl} {H H' : Heap}
include hx
theorem WR.upd (h : WR cx loc act st b G H) (hl : H'.length = H.length) (hD : ∀ F, DbR cx.ix loc act st F H → DbR cx.ix loc act' st' F H' ∧ ∀ id, ¬ F id → H'[id]? = H[id]?) : WR cx loc act' st' b G H' ∧ FrS G G H H' := by
  obtain ⟨F, h1, h2, h3, rfl, h4⟩ := h
  obtain ⟨d1, d2⟩ := hD F h1
  refine ⟨⟨F, d1, hx.istab b H H' h2 fun id hi => d2 id fun hf => h3 id hf hi, h3, rfl, fun e he => ⟨?_, (h4 e he).2⟩⟩, by rw [hl]; exact Nat.le_refl _, fun id _ hn => d2 id fun hf => hn (.inl hf), fun id hi _ => hi⟩
  rw [d2 e.1 (h4 e he).2.1]; exact (h4 e he).1
end
theorem setF_setF (f : QK → Option Rec) (k : QK) (r r' : Option Rec) : setF (setF f k r) k r' = setF f k r' := by
  funext q; simp only [setF]; split <;> rfl
theorem setF_same {f : QK → Option Rec} {k : QK} {r : Option Rec} (h : f k = r) : setF f k r = f := by
  funext q; simp only [setF]; split
  · rename_i e; rw [e, h]
  · rfl
theorem awp_join2 {P : Program} {N nb : Nat} {Q Q0 : Post} {x c y : Code} {T : Slots} {H : Heap} {σ : Type} (rep : σ → List (Nat × PV)) (I : σ → Heap → Prop)
    (hx : AWP P N nb x (thenQ (AWP P N nb c (thenQ (fun T' H' => ∃ s, Fits T' (rep s) ∧ I s H') Q)) (thenQ (fun T' H' => ∃ s, Fits T' (rep s) ∧ I s H') Q)) T H)
    (hy : ∀ s H', I s H' → AWP P N nb y Q0 (mkS (rep s)) H') : AWP P N nb x (thenQ (AWP P N nb c (thenQ (AWP P N nb y Q0) Q)) (thenQ (AWP P N nb y Q0) Q)) T H := by
  have hm : ∀ e T' H', thenQ (fun T' H' => ∃ s, Fits T' (rep s) ∧ I s H') Q e T' H' → thenQ (AWP P N nb y Q0) Q e T' H' := by
    intro e T' H' he
    cases e with
    | normal =>
      obtain ⟨s, h1, h2⟩ := he
      exact awp_weak (mkS_weak h1) (hy s H' h2)
    | _ => exact he
  refine hx.mono fun e T' H' he => ?_
  cases e with
  | normal => exact AWP.mono he hm
  | _ => exact he
theorem DbR.done {ix : Ids} {loc : QK → Nat} {act : List QK} {st : St} {F : FPl} {H : Heap} {k : QK} (D : DbR ix loc (k :: act) st F H) (hk : k ∉ act) {rec : Rec} (hr : st.res k = some rec) (n : Nat) (tl : Tail) (lu clock : Int) (hr0 : H[loc k]? = some (.row (recC rec tl lu))) (hck : clock = wrap64 ((st.clk + 1 : Nat) : Int)) {aes : List GE} {aclk : Nat} (ha : H[ix.a]? = some (.obj (.mapg aes aclk))) :
    DbR ix loc act { st with res := setF st.res k (some { rec with v := n }), clk := st.clk + 1 } F ((((H.set (loc k) (.row (recC { rec with v := n } tl lu))).set ix.d (.row [ix.cf, .optr ix.s 0, .mapp ix.m, .mapp ix.a, ix.stp, vint st.comps, vint clock])).set (loc k) (.row (recC { rec with v := n } tl clock))).set ix.a (.obj (.mapg (gdel aes k) aclk))) ∧
    ∀ id, ¬ F id → ((((H.set (loc k) (.row (recC { rec with v := n } tl lu))).set ix.d (.row [ix.cf, .optr ix.s 0, .mapp ix.m, .mapp ix.a, ix.stp, vint st.comps, vint clock])).set (loc k) (.row (recC { rec with v := n } tl clock))).set ix.a (.obj (.mapg (gdel aes k) aclk)))[id]? = H[id]? := by
  obtain ⟨_, r2, r3, r4, r5, r6, r7, _⟩ := D.recs k rec hr
  obtain ⟨o1, o2, o3, o4, o5⟩ := D.own
  obtain ⟨n1, n2, n3, n4, _⟩ := D.ne
  have D1 := D.recrow hr (r' := { rec with v := n }) tl lu rfl rfl rfl (D.lus k rec tl lu hr hr0)
  have D2 := D1.dbrow ix.stp st.comps clock (st.clk + 1) (Nat.le_succ _) hck
  have D3 := D2.recrow (k := k) (r := { rec with v := n }) (r' := { rec with v := n }) (by simp [setF]) tl clock rfl rfl rfl ⟨st.clk + 1, Nat.le_refl _, hck⟩
  have D4 := D3.unmark hk (es := aes) (clk := aclk) (set_lt (set_lt (set_lt ha (Ne.symm r7)) (Ne.symm n4)) (Ne.symm r7))
  refine ⟨?_, fun id hn => ?_⟩
  · simp only [setF_setF] at D4
    exact D4
  · rw [List.getElem?_set_ne (by rintro rfl; exact hn o5), List.getElem?_set_ne (by rintro rfl; exact hn r2), List.getElem?_set_ne (by rintro rfl; exact hn o1), List.getElem?_set_ne (by rintro rfl; exact hn r2)]
end Go.Abs
namespace Go.Memo
open Go.Abs
def Prog.dep : Nat → Prog → Prop
  | _, .ret _ => True
  | 0, .get _ _ => False
  | n + 1, .get _ c => ∀ v, (c v).dep n
section
variable (cp : QK → Prog) (Ks : List QK)
def fr (st : St) (q : QK) : Bool := match st.res q with
  | some r => decide (r.v = st.now)
  | none => false
def Ph (st : St) : Nat := (Ks.filter fun q => !fr st q).length
def DL (st : St) : Prop := ∀ q r, st.res q = some r → q ∈ Ks ∧ r.deps.length ≤ 20 ∧ ∀ d ∈ r.deps, d.1 = 0 ∨ d ∈ Ks
structure ClkOk : Prop where
  prog : ∀ k ∈ Ks, (cp k).bel (fun d => d.1 = 0 ∨ d ∈ Ks) ∧ (cp k).dep 20
def ce {α : Type} (o : Option α) (a b : Nat) : Nat := match o with
  | some _ => a
  | none => b
structure Cst (st st' : St) (c : Nat) : Prop where
  now : st'.now = st.now
  dl : DL Ks st'
  mono : ∀ q, fr st q = true → fr st' q = true
  clk : st'.clk + 41 * Ph Ks st' ≤ st.clk + 41 * Ph Ks st + c
variable {cp Ks}
theorem filt_le {α : Type} {P Q : α → Bool} : ∀ (l : List α), (∀ x ∈ l, Q x = true → P x = true) → (l.filter Q).length ≤ (l.filter P).length
  | [], _ => Nat.le_refl _
  | x :: l, h => by
    have ih := filt_le l fun y hy => h y (List.mem_cons_of_mem _ hy)
    have hx := h x (by simp)
    simp only [List.filter_cons]
    cases hq : Q x <;> cases hp : P x <;> simp_all <;> omega
theorem filt_lt {α : Type} {P Q : α → Bool} {k : α} : ∀ (l : List α), (∀ x ∈ l, Q x = true → P x = true) → k ∈ l → P k = true → Q k = false → (l.filter Q).length + 1 ≤ (l.filter P).length
  | [], _, hk, _, _ => by cases hk
  | x :: l, h, hk, h1, h2 => by
    have ih := filt_le l fun y hy => h y (List.mem_cons_of_mem _ hy)
    have hx := h x (by simp)
    rcases List.mem_cons.1 hk with rfl | hk
    · simp only [List.filter_cons, h1, h2, if_true, List.length_cons, Bool.false_eq_true, if_false]; omega
    · have ih2 := filt_lt l (fun y hy => h y (List.mem_cons_of_mem _ hy)) hk h1 h2
      simp only [List.filter_cons]
      cases hq : Q x <;> cases hp : P x <;> simp_all <;> omega
theorem ph_le {st st' : St} (h : ∀ q, fr st q = true → fr st' q = true) : Ph Ks st' ≤ Ph Ks st := filt_le _ fun q _ hq => by
  cases hf : fr st q with
  | false => rfl
  | true => rw [h q hf] at hq; cases hq
theorem ph_lt {st st' : St} (h : ∀ q, fr st q = true → fr st' q = true) {k : QK} (hk : k ∈ Ks) (h1 : fr st k = false) (h2 : fr st' k = true) : Ph Ks st' + 1 ≤ Ph Ks st := filt_lt _ (fun q _ hq => by
  cases hf : fr st q with
  | false => rfl
  | true => rw [h q hf] at hq; cases hq) hk (by rw [h1]; rfl) (by rw [h2]; rfl)
theorem Cst.refl {st : St} (h : DL Ks st) (c : Nat) : Cst Ks st st c := ⟨rfl, h, fun _ h => h, by omega⟩
theorem Cst.trans {s1 s2 s3 : St} {a b c : Nat} (h : Cst Ks s1 s2 a) (k : Cst Ks s2 s3 b) (hc : a + b ≤ c) : Cst Ks s1 s3 c :=
  ⟨k.now.trans h.now, k.dl, fun q hq => k.mono q (h.mono q hq), by have := h.clk; have := k.clk; omega⟩
theorem Cst.up {s1 s2 : St} {a c : Nat} (h : Cst Ks s1 s2 a) (hc : a ≤ c) : Cst Ks s1 s2 c := ⟨h.now, h.dl, h.mono, by have := h.clk; omega⟩
def USp (Ks : List QK) (n : Nat) (u : QK → St → Out Rec) : Prop := ∀ k st o st', k ∈ Ks → DL Ks st → u k st = some (o, st') → Cst Ks st st' (ce o 1 (41 * n))
theorem run_cst {n : Nat} {u : QK → St → Out Rec} (hu : USp Ks n u) : ∀ (m : Nat) (p : Prog) (s s' : Acc × St) (o : Option QV), p.dep m → p.bel (fun d => d.1 = 0 ∨ d ∈ Ks) → DL Ks s.2 → (∀ d ∈ s.1.deps, d.1 = 0 ∨ d ∈ Ks) → runP (getStep u) p s = some (o, s') →
    Cst Ks s.2 s'.2 (ce o m (m + 41 * n)) ∧ s'.1.deps.length ≤ s.1.deps.length + m ∧ ∀ d ∈ s'.1.deps, d.1 = 0 ∨ d ∈ Ks
  | m, .ret v, s, s', o, _, _, hd, ha, h => by
    simp only [runP] at h
    injection h with h; injection h with h1 h2; subst h2
    exact ⟨.refl hd _, by omega, ha⟩
  | 0, .get k c, s, s', o, hdp, _, _, _, _ => hdp.elim
  | m + 1, .get k c, s, s', o, hdp, hb, hd, ha, h => by
    have step : ∀ (o1 : Option QV) (s1 : Acc × St), getStep u k s = some (o1, s1) → Cst Ks s.2 s1.2 (ce o1 1 (41 * n)) ∧ s1.1.deps.length ≤ s.1.deps.length + 1 ∧ ∀ d ∈ s1.1.deps, d.1 = 0 ∨ d ∈ Ks := by
      intro o1 s1 e1
      have hadd : ∀ d, (s.1.add k d).deps.length ≤ s.1.deps.length + 1 ∧ ∀ q ∈ (s.1.add k d).deps, q.1 = 0 ∨ q ∈ Ks := fun d => by
        unfold Acc.add
        simp only
        split
        · exact ⟨by omega, ha⟩
        · refine ⟨by simp, fun q hq => ?_⟩
          rcases List.mem_append.1 hq with hq | hq
          · exact ha q hq
          · rw [List.mem_singleton] at hq; subst hq; exact hb.1
      unfold getStep at e1
      split at e1
      · split at e1
        · injection e1 with e1; injection e1 with e2 e3; subst e3; subst e2
          exact ⟨.refl hd _, hadd _⟩
        · cases e1
      · rename_i h0
        have hk : k ∈ Ks := hb.1.resolve_left h0
        split at e1
        · cases e1
        · rename_i st1 h1
          injection e1 with e1; injection e1 with e2 e3; subst e3; subst e2
          exact ⟨hu k _ _ _ hk hd h1, by show s.1.deps.length ≤ _; omega, ha⟩
        · rename_i r st1 h1
          split at e1
          · injection e1 with e1; injection e1 with e2 e3; subst e3; subst e2
            exact ⟨hu k _ _ _ hk hd h1, hadd _⟩
          · cases e1
    simp only [runP] at h
    split at h
    · cases h
    · rename_i s1 h1
      injection h with h; injection h with h2 h3; subst h3; subst h2
      obtain ⟨a1, a2, a3⟩ := step _ _ h1
      exact ⟨a1.up (by simp only [ce]; omega), by omega, a3⟩
    · rename_i v s1 h1
      obtain ⟨a1, a2, a3⟩ := step _ _ h1
      obtain ⟨b1, b2, b3⟩ := run_cst hu m (c v) s1 s' o (hdp v) (hb.2 v) a1.dl a3 h
      refine ⟨a1.trans b1 ?_, by omega, b3⟩
      cases o <;> simp only [ce] <;> omega
theorem chk_cst {n : Nat} {u : QK → St → Out Rec} (hu : USp Ks n u) (v : Nat) : ∀ (ds : List QK) (st st' : St) (o : Option Bool), (∀ d ∈ ds, d.1 = 0 ∨ d ∈ Ks) → DL Ks st → chk u v ds st = some (o, st') → Cst Ks st st' (ce o ds.length (ds.length + 41 * n))
  | [], st, st', o, _, hd, h => by
    simp only [chk] at h
    injection h with h; injection h with h1 h2; subst h2; exact .refl hd _
  | d :: ds, st, st', o, ha, hd, h => by
    have hs := fun x hx => ha x (List.mem_cons_of_mem _ hx)
    unfold chk at h
    split at h
    · split at h
      · injection h with h; injection h with h1 h2; subst h2; exact .refl hd _
      · refine (chk_cst hu v ds st st' o hs hd h).up ?_
        cases o <;> simp only [ce, List.length_cons] <;> omega
    · rename_i h0
      have hk : d ∈ Ks := (ha d (by simp)).resolve_left h0
      split at h
      · cases h
      · rename_i st1 h1
        injection h with h; injection h with h2 h3; subst h3; subst h2
        exact (hu d _ _ _ hk hd h1).up (by simp only [ce]; omega)
      · rename_i r st1 h1
        have a := hu d _ _ _ hk hd h1
        split at h
        · injection h with h; injection h with h2 h3; subst h3; subst h2
          exact a.up (by simp only [ce, List.length_cons]; omega)
        · refine a.trans (chk_cst hu v ds st1 st' o hs a.dl h) ?_
          cases o <;> simp only [ce, List.length_cons] <;> omega
theorem fr_put {st : St} {k q : QK} {r : Rec} {n : Int} (hr : r.v = st.now) (hq : fr st q = true) : fr { st with res := setF st.res k (some r), comps := n } q = true := by
  unfold fr at hq ⊢
  simp only [setF]
  by_cases e : q = k
  · simp [e, hr]
  · simp only [if_neg e]; exact hq
theorem dl_put {st : St} (h : DL Ks st) {k : QK} (hk : k ∈ Ks) {r : Rec} (h1 : r.deps.length ≤ 20) (h2 : ∀ d ∈ r.deps, d.1 = 0 ∨ d ∈ Ks) (n : Int) : DL Ks { st with res := setF st.res k (some r), comps := n } := by
  intro q r0 hq
  simp only [setF] at hq
  split at hq
  · rename_i e; subst e; injection hq with hq; subst hq; exact ⟨hk, h1, h2⟩
  · exact h q r0 hq
theorem fr_self {st : St} {k : QK} {r : Rec} {n : Int} (hr : r.v = st.now) : fr { st with res := setF st.res k (some r), comps := n } k = true := by simp [fr, setF, hr]
def RcOk (Ks : List QK) (st st' : St) (n : Nat) (o : Option Rec) : Prop := match o with
  | some _ => Cst Ks st st' 0 ∧ st'.clk + 41 * Ph Ks st' + 41 ≤ st.clk + 41 * Ph Ks st + 20
  | none => Cst Ks st st' (20 + 41 * n)
theorem recomp_cst (hC : ClkOk cp Ks) {n : Nat} {u : QK → St → Out Rec} (hu : USp Ks n u) {k : QK} (hk : k ∈ Ks) {stp : Int → Bool} {st st' : St} {o : Option Rec} (hd : DL Ks st) (hf : ∀ (s1 : Acc × St) (v : QV), runP (getStep u) (cp k) (⟨[], 2⟩, st) = some (some v, s1) → fr s1.2 k = false)
    (h : recomp u stp cp k st = some (o, st')) : RcOk Ks st st' n o := by
  unfold recomp at h
  split at h
  · injection h with h; injection h with h1 h2; subst h2; subst h1; exact .refl hd _
  · have hr := run_cst hu 20 (cp k) (⟨[], 2⟩, st)
    split at h
    · cases h
    · rename_i s h1
      injection h with h; injection h with h2 h3; subst h3; subst h2
      exact (hr _ _ (hC.prog k hk).2 (hC.prog k hk).1 hd (fun _ h => by cases h) h1).1
    · rename_i v s h1
      obtain ⟨a1, a2, a3⟩ := hr _ _ (hC.prog k hk).2 (hC.prog k hk).1 hd (fun _ h => by cases h) h1
      have hfk := hf _ _ h1
      split at h
      · injection h with h; injection h with h2 h3; subst h2
        have hv : st.now = s.2.now := a1.now.symm
        have hm : ∀ q, fr s.2 q = true → fr st' q = true := fun q hq => by rw [← h3]; exact fr_put (k := k) (r := ⟨v, st.now, newC (s.2.res k) st.now s.1.D v, s.1.D, s.1.deps⟩) (n := wrap64 (s.2.comps + 1)) hv hq
        have hself : fr st' k = true := by rw [← h3]; exact fr_self hv
        have hlt := ph_lt (Ks := Ks) hm hk hfk hself
        have hdl : DL Ks st' := by rw [← h3]; exact dl_put a1.dl hk (r := ⟨v, st.now, newC (s.2.res k) st.now s.1.D v, s.1.D, s.1.deps⟩) (by simpa using a2) a3 (wrap64 (s.2.comps + 1))
        have hcl : st'.clk = s.2.clk := by rw [← h3]
        have hnw : st'.now = s.2.now := by rw [← h3]
        have hck := a1.clk
        simp only [ce] at hck
        exact ⟨⟨hnw.trans a1.now, hdl, fun q hq => hm q (a1.mono q hq), by omega⟩, by omega⟩
      · cases h
theorem bump_cst {st st' : St} {o : Option Rec} {a c : Nat} (h : Cst Ks st st' a) (hc : ∀ r, o = some r → a + 1 ≤ c) (hn : o = none → a ≤ c) : Cst Ks st (bump o st') c := by
  cases o with
  | none => exact h.up (hn rfl)
  | some r =>
    refine ⟨h.now, h.dl, h.mono, ?_⟩
    have h1 := h.clk
    have h2 := hc r rfl
    show st'.clk + 1 + 41 * Ph Ks st' ≤ _
    omega
theorem keep_cst {st : St} (hd : DL Ks st) {k : QK} (hk : k ∈ Ks) {r : Rec} (hr : st.res k = some r) : Cst Ks st { st with res := setF st.res k (some { r with v := st.now }) } 0 ∧ (r.v ≠ st.now → st.clk + 41 * Ph Ks { st with res := setF st.res k (some { r with v := st.now }) } + 41 ≤ st.clk + 41 * Ph Ks st) := by
  have hm : ∀ q, fr st q = true → fr { st with res := setF st.res k (some { r with v := st.now }) } q = true := fun q hq => fr_put (k := k) (r := { r with v := st.now }) (n := st.comps) rfl hq
  obtain ⟨_, h1, h2⟩ := hd k r hr
  refine ⟨⟨rfl, dl_put hd hk (r := { r with v := st.now }) h1 h2 st.comps, hm, ?_⟩, fun hv => ?_⟩
  · have := ph_le (Ks := Ks) hm
    show st.clk + _ ≤ _; omega
  · have := ph_lt (Ks := Ks) hm hk (by simp [fr, hr, hv]) (fr_self (st := st) (k := k) (r := { r with v := st.now }) (n := st.comps) rfl)
    omega
theorem upd_cst (hC : ClkOk cp Ks) (stp : Int → Bool) : ∀ (n : Nat) (act : List QK), USp Ks n fun k st => upd stp cp n act k st
  | 0, act, k, st, o, st', _, _, h => by simp [upd] at h
  | n + 1, act, k, st, o, st', hk, hd, h => by
    simp only [upd] at h
    split at h
    · cases h
    · rename_i hka
      obtain ⟨⟨o1, s1⟩, h9, e⟩ := Option.map_eq_some_iff.1 h
      simp only [Prod.mk.injEq] at e
      obtain ⟨rfl, rfl⟩ := e
      have hu := upd_cst hC stp n (k :: act)
      have hO := upd_UOk stp cp n
      have hK : ∀ q st o st', upd stp cp n (k :: act) q st = some (o, st') → (∀ q ∈ k :: act, st'.res q = st.res q) ∧ st'.now = st.now ∧ st'.lc = st.lc ∧ st'.cell = st.cell := fun q st o st' h => ⟨hO.keep _ _ _ _ _ h, hO.same _ _ _ _ _ h⟩
      have hrec : ∀ (s0 : St) (o2 : Option Rec) (s2 : St), DL Ks s0 → fr s0 k = false → recomp (upd stp cp n (k :: act)) stp cp k s0 = some (o2, s2) → RcOk Ks s0 s2 n o2 := fun s0 o2 s2 hd0 hf0 h0 => recomp_cst hC hu hk hd0 (fun s1 v h1 => by
        obtain ⟨a1, a2, _⟩ := run_keep hK _ _ _ _ h1
        have := a1 k (by simp)
        unfold fr at hf0 ⊢
        simp only at this a2
        rw [this, a2]; exact hf0) h0
      unfold updF at h9
      split at h9
      · rename_i hr
        have := hrec st o1 s1 hd (by simp [fr, hr]) h9
        cases o1 with
        | none => exact bump_cst (o := none) this (fun r e => by cases e) (fun _ => by simp only [ce]; omega)
        | some r => exact bump_cst (o := some r) this.1 (fun _ _ => by simp only [ce]; omega) (fun e => by cases e)
      · rename_i r hr
        split at h9
        · simp only [keep] at h9
          injection h9 with h9; injection h9 with h1 h2; subst h1; subst h2
          exact bump_cst (o := some _) (keep_cst hd hk hr).1 (fun _ _ => by simp only [ce]; omega) (fun e => by cases e)
        · rename_i hv
          have hvn : r.v ≠ st.now := fun e => hv (.inl e)
          have hf : fr st k = false := by simp [fr, hr, hvn]
          obtain ⟨_, hdl, hds⟩ := hd k r hr
          split at h9
          · cases h9
          · rename_i s2 h1
            injection h9 with h9; injection h9 with h2 h3; subst h2; subst h3
            have a := chk_cst hu r.v r.deps st s2 none hds hd h1
            exact bump_cst (o := none) a (fun r e => by cases e) (fun _ => by simp only [ce]; omega)
          · rename_i s2 h1
            have a := chk_cst hu r.v r.deps st s2 (some true) hds hd h1
            obtain ⟨b1, b2, _⟩ := chk_keep hO _ h1
            have hres := b1 k (by simp)
            have hf2 : fr s2 k = false := by unfold fr at hf ⊢; rw [hres, b2]; exact hf
            have := hrec s2 o1 s1 a.dl hf2 h9
            have hc := a.clk
            simp only [ce] at hc
            cases o1 with
            | none => exact bump_cst (o := none) (a.trans this (Nat.le_refl _)) (fun r e => by cases e) (fun _ => by simp only [ce]; omega)
            | some r0 =>
              refine bump_cst (o := some r0) (a := 0) ⟨this.1.now.trans a.now, this.1.dl, fun q hq => this.1.mono q (a.mono q hq), by have := this.2; omega⟩ (fun _ _ => by simp only [ce]; omega) (fun e => by cases e)
          · rename_i s2 h1
            have a := chk_cst hu r.v r.deps st s2 (some false) hds hd h1
            obtain ⟨b1, b2, _⟩ := chk_keep hO _ h1
            have hres := (b1 k (by simp)).trans hr
            have hc := a.clk
            simp only [ce] at hc
            simp only [keep] at h9
            injection h9 with h9; injection h9 with h2 h3; subst h2; subst h3
            obtain ⟨k1, k2⟩ := keep_cst a.dl hk hres
            have := k2 (by rw [b2]; exact hvn)
            refine bump_cst (o := some _) (a := 0) ⟨k1.now.trans a.now, k1.dl, fun q hq => k1.mono q (a.mono q hq), by show s2.clk + _ ≤ _; omega⟩ (fun _ _ => by simp only [ce]; omega) (fun e => by cases e)
end
end Go.Memo
namespace Go.Abs
open Go.Proofs Go.Memo
def rkQ (k : QK) : Nat := k.2.1.toNat
def BelQ (idx : Int) (d : QK) : Prop := d.1 = 0 ∨ (d.1 = 1 ∧ d.2.2 = 0 ∧ 0 ≤ d.2.1 ∧ d.2.1 < idx)
theorem earl_iff {idx q : Int} (h : earl idx q = true) : 0 ≤ q ∧ q < idx := by simpa [earl] using h
theorem getLastD_rng : ∀ (xs : List Int), (∀ x ∈ xs, 0 ≤ x ∧ x < 1000003) → 0 ≤ xs.getLastD 0 ∧ xs.getLastD 0 < 1000003
  | [], _ => by simp
  | [x], h => by simpa using h x (by simp)
  | x :: y :: xs, h => by
    have := getLastD_rng (y :: xs) fun z hz => h z (List.mem_cons_of_mem _ hz)
    simpa [List.getLastD] using this
theorem opKey_bel {inp idx : Int} {o : QK} {n : Int} (hn : 0 ≤ n) (h : (opnd inp idx o).2 = true) (hs : (opKey o idx n).isSome = true) : BelQ idx (keyD (opKey o idx n)) := by
  obtain ⟨a, b, c⟩ := o
  unfold opKey at hs ⊢
  unfold opnd at h
  simp only at h hs ⊢
  by_cases h2 : a = 2
  · subst h2; exact .inl rfl
  rw [if_neg h2] at hs h ⊢
  by_cases h3 : a = 3
  · subst h3
    rw [if_neg (by decide), if_pos rfl] at h
    rw [if_pos rfl]
    simp only [Bool.and_eq_true] at h
    obtain ⟨h4, h5⟩ := earl_iff h.2
    exact .inr ⟨rfl, rfl, h4, h5⟩
  rw [if_neg h3] at hs h ⊢
  by_cases h4 : a = 4
  · subst h4
    rw [if_neg (by decide), if_pos rfl] at h
    rw [if_pos rfl]
    simp only [Bool.and_eq_true, decide_eq_true_eq] at h
    have hi : 0 < idx := h.2
    exact .inr ⟨rfl, rfl, Int.tmod_nonneg _ hn, Int.tmod_lt_of_pos _ hi⟩
  rw [if_neg h4] at hs h ⊢
  by_cases h5 : a = 5
  · subst h5
    rw [if_neg (by decide), if_pos rfl] at h
    simp only [Bool.and_eq_true] at h
    by_cases hz : n = 0
    · rw [if_neg (by simp [hz]), if_pos rfl]
      obtain ⟨h6, h7⟩ := earl_iff h.2
      exact .inr ⟨rfl, rfl, h6, h7⟩
    · rw [if_pos ⟨rfl, hz⟩]
      obtain ⟨h6, h7⟩ := earl_iff h.1
      exact .inr ⟨rfl, rfl, h6, h7⟩
  rw [if_neg (by simp [h5]), if_neg h5] at hs
  cases hs
theorem chkQ_cons {inp idx : Int} {o : QK} {os : List QK} {d : Int} (h : chkQ inp idx (o :: os) d = 0) : (opnd inp idx o).2 = true ∧ (opnd inp idx o).1 ≤ d ∧ chkQ inp idx os (d + (1 - (opnd inp idx o).1)) = 0 := by
  rw [chkQ] at h
  split at h
  · omega
  split at h
  · omega
  · rename_i h1 h2
    refine ⟨?_, by omega, h⟩
    cases h3 : (opnd inp idx o).2 with
    | true => rfl
    | false => exact absurd (.inl h3) h2
theorem dl_rng {xs : List Int} (h : ∀ x ∈ xs, 0 ≤ x ∧ x < 1000003) : ∀ x ∈ xs.dropLast, 0 ≤ x ∧ x < 1000003 := fun x hx => h x (List.dropLast_subset _ hx)
theorem cat_rng {xs : List Int} (h : ∀ x ∈ xs, 0 ≤ x ∧ x < 1000003) {v : Int} (hv : 0 ≤ v ∧ v < 1000003) : ∀ x ∈ xs ++ [v], 0 ≤ x ∧ x < 1000003 := fun x hx => by
  rcases List.mem_append.1 hx with hx | hx
  · exact h x hx
  · rw [List.mem_singleton.1 hx]; exact hv
theorem progQ_bel {inp idx : Int} : ∀ (os : List QK) (xs : List Int), (∀ x ∈ xs, 0 ≤ x ∧ x < 1000003) → (∀ o ∈ os, (opnd inp idx o).2 = true) → (progQ idx os xs).bel (BelQ idx)
  | [], xs, _, _ => trivial
  | o :: os, xs, hx, hc => by
    have h1 := hc o (by simp)
    have h3 : ∀ o ∈ os, (opnd inp idx o).2 = true := fun o ho => hc o (List.mem_cons_of_mem _ ho)
    simp only [progQ]
    split
    · rename_i ha
      exact ⟨opKey_bel (getLastD_rng xs hx).1 h1 (opKey_some ha), fun v => progQ_bel os _ (cat_rng (dl_rng hx) (hdv_rng v)) h3⟩
    · split
      · rename_i hs
        exact ⟨opKey_bel (Int.le_refl 0) h1 hs, fun v => progQ_bel os _ (cat_rng hx (hdv_rng v)) h3⟩
      · split
        · exact progQ_bel os _ (cat_rng hx (redu_rng _)) h3
        · exact progQ_bel os _ (cat_rng (dl_rng (dl_rng hx)) (binQ_rng (getLastD_rng _ (dl_rng hx)) (getLastD_rng _ hx))) h3
theorem chkQ_all {inp idx : Int} : ∀ (os : List QK) (d : Int), chkQ inp idx os d = 0 → ∀ o ∈ os, (opnd inp idx o).2 = true
  | [], _, _, _, h => by cases h
  | o :: os, d, h, p, hp => by
    obtain ⟨h1, _, h3⟩ := chkQ_cons h
    rcases List.mem_cons.1 hp with rfl | hp
    · exact h1
    · exact chkQ_all os _ h3 p hp
theorem dep_up : ∀ (p : Prog) (n : Nat), p.dep n → p.dep (n + 1)
  | .ret v, n, _ => trivial
  | .get k c, 0, h => h.elim
  | .get k c, n + 1, h => fun v => dep_up (c v) n (h v)
theorem progQ_dep (idx : Int) : ∀ (os : List QK) (xs : List Int) (n : Nat), os.length ≤ n → (progQ idx os xs).dep n
  | [], xs, n, _ => by cases n <;> trivial
  | o :: os, xs, 0, h => by simp at h
  | o :: os, xs, n + 1, h => by
    have h' : os.length ≤ n := by simpa using h
    simp only [progQ]
    split
    · exact fun v => progQ_dep idx os _ n h'
    · split
      · exact fun v => progQ_dep idx os _ n h'
      · split
        · exact dep_up _ n (progQ_dep idx os _ n h')
        · exact dep_up _ n (progQ_dep idx os _ n h')
theorem progQ_den (idx : Int) {e e' : QK → QV} (h : ∀ d, BelQ idx d → hdv (e d) = hdv (e' d)) {inp : Int} : ∀ (os : List QK) (xs : List Int), (∀ x ∈ xs, 0 ≤ x ∧ x < 1000003) → (∀ o ∈ os, (opnd inp idx o).2 = true) → (progQ idx os xs).den e = (progQ idx os xs).den e'
  | [], xs, _, _ => rfl
  | o :: os, xs, hx, hc => by
    have h1 := hc o (by simp)
    have h3 : ∀ o ∈ os, (opnd inp idx o).2 = true := fun o ho => hc o (List.mem_cons_of_mem _ ho)
    simp only [progQ]
    split
    · rename_i ha
      simp only [Prog.den]
      rw [h _ (opKey_bel (getLastD_rng xs hx).1 h1 (opKey_some ha))]
      exact progQ_den idx h os _ (cat_rng (dl_rng hx) (hdv_rng _)) h3
    · split
      · rename_i hs
        simp only [Prog.den]
        rw [h _ (opKey_bel (Int.le_refl 0) h1 hs)]
        exact progQ_den idx h os _ (cat_rng hx (hdv_rng _)) h3
      · split
        · exact progQ_den idx h os _ (cat_rng hx (redu_rng _)) h3
        · exact progQ_den idx h os _ (cat_rng (dl_rng (dl_rng hx)) (binQ_rng (getLastD_rng _ (dl_rng hx)) (getLastD_rng _ hx))) h3
theorem progQ_len (idx : Int) (e : QK → QV) : ∀ (os : List QK) (xs : List Int), ((progQ idx os xs).den e).nums.length = 1
  | [], xs => rfl
  | o :: os, xs => by
    simp only [progQ]
    split
    · exact progQ_len idx e os _
    · split
      · exact progQ_len idx e os _
      · split
        · exact progQ_len idx e os _
        · exact progQ_len idx e os _
theorem progQ_reads (idx : Int) (e : QK → QV) : ∀ (os : List QK) (xs : List Int), ((progQ idx os xs).reads e).length ≤ os.length
  | [], xs => by simp [progQ, Prog.reads]
  | o :: os, xs => by
    simp only [progQ]
    split
    · simp only [Prog.reads, List.length_cons]; have := progQ_reads idx e os; exact Nat.succ_le_succ (this _)
    · split
      · simp only [Prog.reads, List.length_cons]; exact Nat.succ_le_succ (progQ_reads idx e os _)
      · split
        · exact Nat.le_trans (progQ_reads idx e os _) (by simp)
        · exact Nat.le_trans (progQ_reads idx e os _) (by simp)
end Go.Abs
namespace Go.Abs
open Go.Proofs Go.Memo
def KsQ (n : Nat) : List QK := (List.range n).map fun i : Nat => (1, (i : Int), 0)
theorem ksQ_mem {n : Nat} {k : QK} : k ∈ KsQ n ↔ k.1 = 1 ∧ k.2.2 = 0 ∧ 0 ≤ k.2.1 ∧ k.2.1 < n := by
  obtain ⟨a, b, c⟩ := k
  simp only [KsQ, List.mem_map, List.mem_range, Prod.mk.injEq]
  constructor
  · rintro ⟨i, hi, rfl, rfl, rfl⟩; exact ⟨rfl, rfl, by omega, by omega⟩
  · rintro ⟨rfl, rfl, h1, h2⟩; exact ⟨b.toNat, by omega, rfl, by omega, rfl⟩
theorem ksQ_len (n : Nat) : (KsQ n).length = n := by simp [KsQ]
theorem bel_mono {p q : QK → Prop} (h : ∀ d, p d → q d) : ∀ (P : Prog), P.bel p → P.bel q
  | .ret _, _ => trivial
  | .get k c, hp => ⟨h _ hp.1, fun v => bel_mono h (c v) (hp.2 v)⟩
section
variable {inp : Int} {qs : List (List QK)} (hP : ValP inp qs)
include hP
theorem cp_at {k : QK} (hc : k.1 = 1 ∧ k.2.2 = 0 ∧ 0 ≤ k.2.1 ∧ k.2.1 < qs.length) : ∃ h : k.2.1.toNat < qs.length, cpQ qs k = progQ k.2.1 (qs[k.2.1.toNat]) [] ∧ (qs[k.2.1.toNat]).length ≤ 20 ∧ ∀ o ∈ qs[k.2.1.toNat], (opnd inp k.2.1 o).2 = true := by
  have h : k.2.1.toNat < qs.length := by omega
  refine ⟨h, ?_, (hP.each _ h).1, ?_⟩
  · unfold cpQ
    rw [if_pos hc, List.getD_eq_getElem?_getD, List.getElem?_eq_getElem h]; rfl
  · have := chkQ_all _ _ (hP.each _ h).2
    rw [show ((k.2.1.toNat : Nat) : Int) = k.2.1 by omega] at this
    exact this
omit hP in
theorem cp_no {k : QK} (hc : ¬ (k.1 = 1 ∧ k.2.2 = 0 ∧ 0 ≤ k.2.1 ∧ k.2.1 < qs.length)) : cpQ qs k = .ret ⟨[], []⟩ := by unfold cpQ; rw [if_neg hc]
theorem cp_bel (k : QK) : (cpQ qs k).bel (BelQ k.2.1) := by
  by_cases hc : k.1 = 1 ∧ k.2.2 = 0 ∧ 0 ≤ k.2.1 ∧ k.2.1 < qs.length
  · obtain ⟨h, h1, h2, h3⟩ := cp_at hP hc
    rw [h1]; exact progQ_bel _ _ (by simp) h3
  · rw [cp_no hc]; trivial
theorem rankQ : Ranked (cpQ qs) rkQ := ⟨fun k hk => bel_mono (fun d hd => hd.imp id fun h => by unfold rkQ; omega) _ (cp_bel hP k)⟩
theorem clkQ : ClkOk (cpQ qs) (KsQ qs.length) := ⟨fun k hk => by
  obtain ⟨h, h1, h2, h3⟩ := cp_at hP (ksQ_mem.1 hk)
  refine ⟨bel_mono (fun d hd => hd.imp id fun h => ksQ_mem.2 ⟨h.1, h.2.1, h.2.2.1, ?_⟩) _ (cp_bel hP k), by rw [h1]; exact progQ_dep _ _ _ _ h2⟩
  have := (ksQ_mem.1 hk).2.2.2
  omega⟩
def GoodQ (i : QK → QV) : Prop := ∀ q, (i q).nums.length ≤ 1
theorem sem_len (i : QK → QV) (hg : GoodQ i) (k : QK) : (sem (cpQ qs) rkQ i k).nums.length ≤ 1 := by
  by_cases h0 : k.1 = 0
  · rw [sem_in _ h0]; exact hg k
  · rw [sem_q (rankQ hP) i h0]
    by_cases hc : k.1 = 1 ∧ k.2.2 = 0 ∧ 0 ≤ k.2.1 ∧ k.2.1 < qs.length
    · obtain ⟨h, h1, h2, h3⟩ := cp_at hP hc
      rw [h1, progQ_len]; omega
    · rw [cp_no hc]; exact Nat.zero_le _
theorem bndQ : Bnd (cpQ qs) rkQ GoodQ := ⟨rankQ hP, fun i hg k => by
  have := sem_len hP i hg k
  show decide (_ ≤ lim) = true
  exact decide_eq_true (Nat.le_trans this (by unfold lim; omega)), fun i hg k hk => by
  by_cases hc : k.1 = 1 ∧ k.2.2 = 0 ∧ 0 ≤ k.2.1 ∧ k.2.1 < qs.length
  · obtain ⟨h, h1, h2, h3⟩ := cp_at hP hc
    rw [h1]; exact Nat.le_trans (progQ_reads _ _ _ _) (Nat.le_trans h2 (by unfold lim; omega))
  · rw [cp_no hc]; exact Nat.zero_le _⟩
theorem sem_heads {i1 i2 : QK → QV} (hi : ∀ q : QK, q.1 = 0 → hdv (i1 q) = hdv (i2 q)) : ∀ (n : Nat) (k : QK), k.1 ≠ 0 → rkQ k < n → sem (cpQ qs) rkQ i1 k = sem (cpQ qs) rkQ i2 k
  | 0, _, _, h => absurd h (Nat.not_lt_zero _)
  | n + 1, k, hk, h => by
    rw [sem_q (rankQ hP) i1 hk, sem_q (rankQ hP) i2 hk]
    by_cases hc : k.1 = 1 ∧ k.2.2 = 0 ∧ 0 ≤ k.2.1 ∧ k.2.1 < qs.length
    · obtain ⟨hl, h1, h2, h3⟩ := cp_at hP hc
      rw [h1]
      refine progQ_den _ (fun d hd => ?_) _ _ (by simp) h3
      rcases hd with h0 | hd
      · rw [sem_in _ h0, sem_in _ h0]; exact hi d h0
      · rw [sem_heads hi n d (by omega) (by unfold rkQ at h ⊢; omega)]
    · rw [cp_no hc]; rfl
end
end Go.Abs
namespace Go.Abs
open Go.Proofs Go.Memo
theorem update1_c {cx : Cx} (hx : CxOk cx) {u : List QK → QK → St → Out Rec} (hu : UOk u) (hU : UpdC cx u) (act : List QK) (k : QK) (hk : k.1 ≠ 0) (hka : k ∉ act) (loc : QK → Nat) (st : St) (G : FPl) (H : Heap) (o : Option Rec) (st' : St) (hm : updF (u (k :: act)) cx.stpf cx.cp k st = some (o, st')) (hW : WR cx loc act st false G H) : XW cx 32 [.optr cx.ix.d 0, kE k] act loc G H o (bump o st') fun _ loc' => .optr (loc' k) 0 := by
  obtain ⟨k1, k2, k3⟩ := k
  rw [updF_eq] at hm
  refine xcalls_of (N := 65) Try.func32 rfl rfl (by simp) fun hb' => ?_
  repeat (refine awp_seq ?_)
  refine e_eval (by simp only [jA, jO, jN, seval, y37, vint, ksE_cells, kE_cells, ksE_drop1, kE_drop1, kE] <;> with_reducible rfl) (by decide) ?_
  refine awp_abs (fun H1 => WR cx loc act st false G H1 ∧ FrS G G H H1 ∧ H1[H.length]? = some (.row [vint k1, vint k2, vint k3])) ⟨hW.app hx _, FrS.app _ _ _ (hW.lt hx), by simp⟩ ?_
  rintro H1 ⟨W1, f1, b1⟩
  obtain ⟨F1, D1, _⟩ := id W1
  obtain ⟨clock1, hd1⟩ := D1.db
  obtain ⟨aes, aclk, ha1, hagn, hagg⟩ := D1.acts
  have b1L := getL b1
  have gA : alook false (.int .i64 0) (gget aes (k1, k2, k3)) = .int .i64 0 := by rw [hagg, if_neg hka]; rfl
  have va1 : (cx.ix.a = H1.length) = False := by have := len_of_get ha1; simp; omega
  ·
    repeat (refine awp_seq ?_)
    refine dp_draw (by kernel_rfl) ?_
    refine dp_end (by simp only [jP, jO, jN, seval, y3, y37, y60, y62, vint, ksE_cells, kE_cells, ksE_drop1, kE_drop1, kE, b1, b1L, hd1, ha1, gA, alookup, amapset, Option.isSome_some, va1] <;> with_reducible rfl) (by decide) (by repeat (first | exact Fin.base _ | with_reducible apply Fin.keep | apply Fin.drop)) ?_
    repeat (refine awp_seq ?_)
    refine awp_cond_false rfl (by simp only [jN, seval, vint, ksE_cells, kE_cells, ksE_drop1, kE_drop1, kE, b1, b1L, hd1, ha1, gA, alookup, amapset, Option.isSome_some, va1] <;> with_reducible rfl) ?_
    repeat (refine awp_seq ?_)
    refine awp_skip ?_
    repeat (refine awp_seq ?_)
    refine x_draw 0 (n0 := H1.length) (by first | rfl | (simp only [List.length_append, List.length_cons, List.length_nil, Nat.reduceAdd, Nat.zero_add, kE, b1, b1L, hd1, ha1, gA, alookup, amapset, Option.isSome_some, va1]; done)) (by kernel_rfl) ?_
    refine x1_take 5 (by first | rfl | (simp only [List.length_append, List.length_cons, List.length_nil, Nat.reduceAdd, Nat.zero_add, kE, b1, b1L, hd1, ha1, gA, alookup, amapset, Option.isSome_some, va1]; done)) (by simp only [jP, jO, jN, seval, y3, y37, y60, y62, vint, ksE_cells, kE_cells, ksE_drop1, kE_drop1, kE, b1, b1L, hd1, ha1, gA, alookup, amapset, Option.isSome_some, va1] <;> with_reducible rfl) (by decide) (by decide) (by decide) ?_
    refine x_mid (by first | (simp only [LS, HS, List.append_assoc, List.cons_append, List.nil_append, kE, b1, b1L, hd1, ha1, gA, alookup, amapset, Option.isSome_some, va1] <;> with_reducible rfl) | rfl) ?_
    refine x2_end (bm := [0, 1, 3, 7, 0, 31]) (fresh := (H1.length)) (by kernel_rfl) (by simp only [jX, jO, jN, seval, y3, y60, vint, ksE_cells, kE_cells, ksE_drop1, kE_drop1, kE, b1, b1L, hd1, ha1, gA, alookup, amapset, Option.isSome_some, va1] <;> with_reducible rfl) (by decide) (by repeat (first | exact Fin.base _ | with_reducible apply Fin.keep | apply Fin.drop)) ?_
    refine awp_abs (fun H2 => WR cx loc ((k1, k2, k3) :: act) st false G H2 ∧ FrS G G H H2 ∧ H2[H.length]? = some (.row [vint k1, vint k2, vint k3])) ?_ ?_
    · obtain ⟨w2, f2⟩ := W1.upd hx (act' := (k1, k2, k3) :: act) (st' := st) (H' := H1.set cx.ix.a (.obj (.mapg (gset aes aclk (k1, k2, k3) (vint 1)) (gclk aes aclk (k1, k2, k3))))) (by simp) fun F D => ⟨D.mark ha1 _, fun id hn => List.getElem?_set_ne (by rintro rfl; exact hn D.own.2.2.2.2)⟩
      exact ⟨w2, f1.trans f2, set_lt b1 (by rintro e; have := hW.lt hx cx.ix.a (by obtain ⟨F, D, _, _, rfl, _⟩ := hW; exact .inl D.own.2.2.2.2); omega)⟩
    rintro H2 ⟨W2, f2, b2⟩
    have nbG : ¬ G H.length := fun h => by have := hW.lt hx _ h; omega
    obtain ⟨F2, D2, _⟩ := id W2
    obtain ⟨clock2, hd2⟩ := D2.db
    obtain ⟨es, clk, hm2, hgn, hgg⟩ := D2.res
    have b2L := getL b2
    ·
      repeat (refine awp_seq ?_)
      refine dp_draw (by kernel_rfl) ?_
      refine dp_end (by simp only [jP, jO, jN, seval, y37, y59, y62, y85, vint, ksE_cells, kE_cells, ksE_drop1, kE_drop1, kE, b1, b1L, hd1, ha1, gA, alookup, amapset, Option.isSome_some, va1, b2, b2L, hd2, hm2, alookup] <;> with_reducible rfl) (by decide) (by repeat (first | exact Fin.base _ | with_reducible apply Fin.keep | apply Fin.drop)) ?_
      refine awp_sel [0, 3, 5] (by simp only [jN, seval, vint, ksE_cells, kE_cells, ksE_drop1, kE_drop1, kE, b1, b1L, hd1, ha1, gA, alookup, amapset, Option.isSome_some, va1, b2, b2L, hd2, hm2, alookup] <;> with_reducible rfl) ?_
      repeat (refine awp_seq ?_)
      refine awp_join2 (σ := Rec × St × (QK → Nat) × FPl) (fun (z : Rec × St × (QK → Nat) × FPl) => [(0, .optr cx.ix.d 0), (3, .optr H.length 0), (5, .optr (z.2.2.1 (k1, k2, k3)) 0)]) (fun (z : Rec × St × (QK → Nat) × FPl) =>  fun H5 => z.2.1.res (k1, k2, k3) = some z.1 ∧ WR cx z.2.2.1 ((k1, k2, k3) :: act) z.2.1 false z.2.2.2 H5 ∧ FrS G z.2.2.2 H H5 ∧ (∀ q ∈ act, z.2.2.1 q = loc q) ∧ (H5[H.length]? = some (.row [vint k1, vint k2, vint k3]) ∧ ¬ z.2.2.2 H.length) ∧ o = some { z.1 with v := z.2.1.now } ∧ st' = { z.2.1 with res := setF z.2.1.res (k1, k2, k3) (some { z.1 with v := z.2.1.now }) }) ?_ ?_
      · -- to the meeting
        rcases hold : st.res (k1, k2, k3) with _ | old
        ·
          rw [hold] at hm
          simp only at hm
          have gE : alook false .nilp (gget es (k1, k2, k3)) = .nilp := by rw [hgg, hold]; rfl
          repeat (refine awp_seq ?_)
          refine awp_region ?_
          refine e_take 5 (by simp only [jA, jO, jN, seval, y85, vint, ksE_cells, kE_cells, ksE_drop1, kE_drop1, kE, b1, b1L, hd1, ha1, gA, alookup, amapset, Option.isSome_some, va1, b2, b2L, hd2, hm2, alookup, gE] <;> with_reducible rfl) (by decide) ?_
          refine aops_skip (by simp only [jC, jN, seval, vint]) ?_
          refine e_end (by simp only [jA, jO, jN, seval, vint, ksE_cells, kE_cells, ksE_drop1, kE_drop1, kE, b1, b1L, hd1, ha1, gA, alookup, amapset, Option.isSome_some, va1, b2, b2L, hd2, hm2, alookup, gE] <;> with_reducible rfl) (by decide) ?_
          repeat (refine awp_seq ?_)
          refine awp_cond_true rfl (by simp only [jN, seval, vint, ksE_cells, kE_cells, ksE_drop1, kE_drop1, kE, b1, b1L, hd1, ha1, gA, alookup, amapset, Option.isSome_some, va1, b2, b2L, hd2, hm2, alookup, gE] <;> with_reducible rfl) ?_
          repeat (refine awp_seq ?_)
          refine awp_region ?_
          refine e_take 2 (by simp only [jA, jO, jN, seval, y37, vint, ksE_cells, kE_cells, ksE_drop1, kE_drop1, kE, b1, b1L, hd1, ha1, gA, alookup, amapset, Option.isSome_some, va1, b2, b2L, hd2, hm2, alookup, gE] <;> with_reducible rfl) (by decide) ?_
          refine aops_xc (by simp only [jC, jN, seval, vint, ksE_cells, kE_cells, ksE_drop1, kE_drop1, kE, b1, b1L, hd1, ha1, gA, alookup, amapset, Option.isSome_some, va1, b2, b2L, hd2, hm2, alookup, gE] <;> rfl) (by simp only [jC, jN, seval, vint, ksE_cells, kE_cells, ksE_drop1, kE_drop1, kE, b1, b1L, hd1, ha1, gA, alookup, amapset, Option.isSome_some, va1, b2, b2L, hd2, hm2, alookup, gE]) (by decide) Trygo47 (recompute_c hx hu hU act (k1, k2, k3) hk hka loc st G H2 o st' hm W2) ?_ (fun HP ⟨ho, loc', act', G', w', f'⟩ => by subst ho; exact Or.inr ⟨rfl, rfl, loc', act', G', w', f2.trans f'⟩)
          rintro rv H1 ⟨rec, loc2, G2, rfl, rfl, w2, g2, l2⟩
          obtain ⟨_, hnow, _, _, hrc⟩ := recomp_keep (u := u ((k1, k2, k3) :: act)) (fun q s o1 s1 h => ⟨hu.keep _ _ _ _ _ h, hu.same _ _ _ _ _ h⟩) hka hm
          obtain ⟨hrk, hrv⟩ := hrc _ rfl
          refine e_end (by simp only [jA, jO, jN, seval, vint, ksE_cells, kE_cells, ksE_drop1, kE_drop1, kE, b1, b1L, hd1, ha1, gA, alookup, amapset, Option.isSome_some, va1, b2, b2L, hd2, hm2, alookup, gE] <;> with_reducible rfl) (by decide) ?_
          exact ⟨(rec, st', loc2, G2), by repeat (first | exact trivial | refine ⟨rfl, ?_⟩), hrk, w2, f2.trans g2, l2, g2.get b2 nbG, by rw [← hrv], by rw [← hrv, setF_same hrk]⟩
        ·
          rw [hold] at hm
          simp only at hm
          have gE : alook false .nilp (gget es (k1, k2, k3)) = .optr (loc (k1, k2, k3)) 0 := by rw [hgg, hold]; rfl
          obtain ⟨o1, st1, hv1⟩ : ∃ o1 st1, valM (u ((k1, k2, k3) :: act)) old st = some (o1, st1) := by
            cases hv : valM (u ((k1, k2, k3) :: act)) old st with
            | none => rw [hv] at hm; cases hm
            | some x => exact ⟨x.1, x.2, rfl⟩
          rw [hv1] at hm
          obtain ⟨vk1, vk2, vk3, vk4⟩ := valM_keep hu hv1
          repeat (refine awp_seq ?_)
          refine awp_region ?_
          refine e_take 5 (by simp only [jA, jO, jN, seval, y85, vint, ksE_cells, kE_cells, ksE_drop1, kE_drop1, kE, b1, b1L, hd1, ha1, gA, alookup, amapset, Option.isSome_some, va1, b2, b2L, hd2, hm2, alookup, gE] <;> with_reducible rfl) (by decide) ?_
          refine aops_xc (by simp only [jC, jN, seval, vint, ksE_cells, kE_cells, ksE_drop1, kE_drop1, kE, b1, b1L, hd1, ha1, gA, alookup, amapset, Option.isSome_some, va1, b2, b2L, hd2, hm2, alookup, gE] <;> rfl) (by simp only [jC, jN, seval, vint, ksE_cells, kE_cells, ksE_drop1, kE_drop1, kE, b1, b1L, hd1, ha1, gA, alookup, amapset, Option.isSome_some, va1, b2, b2L, hd2, hm2, alookup, gE]) (by decide) Trygo46 (valid_c hx hu hU ((k1, k2, k3) :: act) loc st G H2 (k1, k2, k3) old hold (by simp) o1 st1 hv1 W2) ?_ (fun HP ⟨ho, loc', act', G', w', f'⟩ => by rw [ho] at hm; injection hm with hm; injection hm with h1 h2; subst h1; subst h2; exact Or.inr ⟨rfl, rfl, loc', act', G', w', f2.trans f'⟩)
          rintro rv H2 ⟨b, loc2, G2, ho1, rfl, w2, g2, l2⟩
          rw [ho1] at hm
          obtain ⟨b2', nb2'⟩ := g2.get b2 nbG
          refine e_end (by simp only [jA, jO, jN, seval, vint, ksE_cells, kE_cells, ksE_drop1, kE_drop1, kE, b1, b1L, hd1, ha1, gA, alookup, amapset, Option.isSome_some, va1, b2, b2L, hd2, hm2, alookup, gE, b2'] <;> with_reducible rfl) (by decide) ?_
          repeat (refine awp_seq ?_)
          refine awp_cond rfl (by simp only [jN, seval, vint, ksE_cells, kE_cells, ksE_drop1, kE_drop1, kE, b1, b1L, hd1, ha1, gA, alookup, amapset, Option.isSome_some, va1, b2, b2L, hd2, hm2, alookup, gE, b2'] <;> with_reducible rfl) (fun bt33 => ?_) (fun bt33 => ?_)
          ·
            have hb : b = false := by simpa using bt33
            rw [hb] at hm
            simp only at hm
            repeat (refine awp_seq ?_)
            refine awp_region ?_
            refine e_take 2 (by simp only [jA, jO, jN, seval, y37, vint, ksE_cells, kE_cells, ksE_drop1, kE_drop1, kE, b1, b1L, hd1, ha1, gA, alookup, amapset, Option.isSome_some, va1, b2, b2L, hd2, hm2, alookup, gE, b2'] <;> with_reducible rfl) (by decide) ?_
            refine aops_xc (by simp only [jC, jN, seval, vint, ksE_cells, kE_cells, ksE_drop1, kE_drop1, kE, b1, b1L, hd1, ha1, gA, alookup, amapset, Option.isSome_some, va1, b2, b2L, hd2, hm2, alookup, gE, b2'] <;> rfl) (by simp only [jC, jN, seval, vint, ksE_cells, kE_cells, ksE_drop1, kE_drop1, kE, b1, b1L, hd1, ha1, gA, alookup, amapset, Option.isSome_some, va1, b2, b2L, hd2, hm2, alookup, gE, b2']) (by decide) Trygo47 (recompute_c hx hu hU act (k1, k2, k3) hk hka loc2 st1 G2 _ o st' hm w2) ?_ (fun HP ⟨ho, loc', act', G', w', f'⟩ => by subst ho; exact Or.inr ⟨rfl, rfl, loc', act', G', w', (f2.trans g2).trans f'⟩)
            rintro rv H3 ⟨rec, loc3, G3, rfl, rfl, w3, g3, l3⟩
            obtain ⟨_, hnow, _, _, hrc⟩ := recomp_keep (u := u ((k1, k2, k3) :: act)) (fun q s o1 s1 h => ⟨hu.keep _ _ _ _ _ h, hu.same _ _ _ _ _ h⟩) hka hm
            obtain ⟨hrk, hrv⟩ := hrc _ rfl
            refine e_end (by simp only [jA, jO, jN, seval, vint, ksE_cells, kE_cells, ksE_drop1, kE_drop1, kE, b1, b1L, hd1, ha1, gA, alookup, amapset, Option.isSome_some, va1, b2, b2L, hd2, hm2, alookup, gE, b2'] <;> with_reducible rfl) (by decide) ?_
            exact ⟨(rec, st', loc3, G3), by repeat (first | exact trivial | refine ⟨rfl, ?_⟩), hrk, w3, (f2.trans g2).trans g3, fun q hq => (l3 q hq).trans (l2 q (List.mem_cons_of_mem _ hq)), g3.get b2' nb2', by rw [← hrv], by rw [← hrv, setF_same hrk]⟩
          ·
            have hb : b = true := by simpa using bt33
            rw [hb] at hm
            simp only [Memo.keep] at hm
            injection hm with hm
            injection hm with hm1 hm2
            subst hm1
            subst hm2
            repeat (refine awp_seq ?_)
            refine awp_skip ?_
            exact ⟨(old, st1, loc2, G2), ⟨rfl, rfl, congrArg (PV.optr · 0) (l2 (k1, k2, k3) (by simp)).symm, trivial⟩, (vk1 _ (by simp)).trans hold, w2, f2.trans g2, fun q hq => l2 q (List.mem_cons_of_mem _ hq), ⟨b2', nb2'⟩, rfl, rfl⟩
      · intro z H5 hg
        obtain ⟨rec, st5, loc5, G5⟩ := z
        obtain ⟨hr, W5, f5, l5, ⟨b5, nb5⟩, ho, hst⟩ := hg
        simp only at hr W5 f5 l5 ho hst nb5
        obtain ⟨F5, D5, _, _, hG5, _⟩ := id W5
        obtain ⟨clock5, hd5⟩ := D5.db
        have hsto5 := D5.sto
        obtain ⟨aes5, aclk5, ha5, _⟩ := D5.acts
        obtain ⟨⟨tl, lu, hr5⟩, r2, r3, r4, r5, r6, r7, _⟩ := D5.recs _ _ hr
        have hr5' := hr5
        simp only [recC] at hr5
        have hck : IntKind.i64.wrap (clock5 + 1) = wrap64 ((st5.clk + 1 : Nat) : Int) := by rw [D5.clk _ hd5, wrap64_eq]; unfold wrap64; omega
        obtain ⟨o1, o2, o3, o4, o5⟩ := D5.own
        obtain ⟨n1, n2, n3, n4, n5, n6, n7, n8, n9, n10⟩ := D5.ne
        have v1 : (loc5 (k1, k2, k3) = H5.length) = False := by have := D5.lt _ r2; simp; omega
        have v2 : (cx.ix.d = H5.length) = False := by have := D5.lt _ o1; simp; omega
        have nb : ∀ id, F5 id → H.length ≠ id := fun id hf e => nb5 (by rw [hG5]; exact .inl (e ▸ hf))
        have c1 : ∀ o, (H5.set (loc5 (k1, k2, k3)) o)[cx.ix.d]? = _ := fun o => set_lt hd5 (Ne.symm r3)
        have c2 : ∀ o o2, ((H5.set (loc5 (k1, k2, k3)) o).set cx.ix.d o2)[cx.ix.d]? = some o2 := fun o o2 => List.getElem?_set_self (by simpa using D5.lt _ o1)
        have c3 : ∀ o o2, ((H5.set (loc5 (k1, k2, k3)) o).set cx.ix.d o2)[loc5 (k1, k2, k3)]? = some o := fun o o2 => set_lt (List.getElem?_set_self (D5.lt _ r2)) r3
        have c4 : ∀ o o2 o3, (((H5.set (loc5 (k1, k2, k3)) o).set cx.ix.d o2).set (loc5 (k1, k2, k3)) o3)[cx.ix.d]? = some o2 := fun o o2 o3 => set_lt (c2 o o2) (Ne.symm r3)
        have c5 : ∀ o o2 o3, (((H5.set (loc5 (k1, k2, k3)) o).set cx.ix.d o2).set (loc5 (k1, k2, k3)) o3)[H.length]? = _ := fun o o2 o3 => set_lt (set_lt (set_lt b5 (nb _ r2)) (nb _ o1)) (nb _ r2)
        have c6 : ∀ o o2, ((H5.set (loc5 (k1, k2, k3)) o).set cx.ix.d o2)[H.length]? = _ := fun o o2 => set_lt (set_lt b5 (nb _ r2)) (nb _ o1)
        have c7 : ∀ o o2 o3, (((H5.set (loc5 (k1, k2, k3)) o).set cx.ix.d o2).set (loc5 (k1, k2, k3)) o3)[cx.ix.a]? = _ := fun o o2 o3 => set_lt (set_lt (set_lt ha5 (Ne.symm r7)) (Ne.symm n4)) (Ne.symm r7)
        repeat (refine awp_seq ?_)
        refine awp_region ?_
        refine e_take 5 (by simp only [jA, jO, jN, seval, y57, y62, vint, ksE_cells, kE_cells, ksE_drop1, kE_drop1, kE, b1, b1L, hd1, ha1, gA, alookup, amapset, Option.isSome_some, va1, b2, b2L, hd2, hm2, alookup, v1, v2, List.length_set, b5, hd5, hr5, ha5, c1, c2, c3, c4, c5, c6, c7, Option.isSome_some] <;> with_reducible rfl) (by decide) ?_
        refine aops_pure (by simp only [jC, jN, seval, vint, ksE_cells, kE_cells, ksE_drop1, kE_drop1, kE, b1, b1L, hd1, ha1, gA, alookup, amapset, Option.isSome_some, va1, b2, b2L, hd2, hm2, alookup, v1, v2, List.length_set, b5, hd5, hr5, ha5, c1, c2, c3, c4, c5, c6, c7, Option.isSome_some] <;> with_reducible rfl) (by simp only [jC, jN, seval, vint, ksE_cells, kE_cells, ksE_drop1, kE_drop1, kE, b1, b1L, hd1, ha1, gA, alookup, amapset, Option.isSome_some, va1, b2, b2L, hd2, hm2, alookup, v1, v2, List.length_set, b5, hd5, hr5, ha5, c1, c2, c3, c4, c5, c6, c7, Option.isSome_some]) (by decide) Trygo48 (revision_c hsto5) ?_
        refine e_end (by simp only [jA, jO, jN, seval, y3, y84, vint, ksE_cells, kE_cells, ksE_drop1, kE_drop1, kE, b1, b1L, hd1, ha1, gA, alookup, amapset, Option.isSome_some, va1, b2, b2L, hd2, hm2, alookup, v1, v2, List.length_set, b5, hd5, hr5, ha5, c1, c2, c3, c4, c5, c6, c7, Option.isSome_some] <;> with_reducible rfl) (by decide) ?_
        repeat (refine awp_seq ?_)
        refine e_eval (by simp only [jA, jO, jN, seval, y3, y62, vint, ksE_cells, kE_cells, ksE_drop1, kE_drop1, kE, b1, b1L, hd1, ha1, gA, alookup, amapset, Option.isSome_some, va1, b2, b2L, hd2, hm2, alookup, v1, v2, List.length_set, b5, hd5, hr5, ha5, c1, c2, c3, c4, c5, c6, c7, Option.isSome_some] <;> with_reducible rfl) (by decide) ?_
        refine awp_sel [0, 3, 5] (by simp only [jN, seval, vint, ksE_cells, kE_cells, ksE_drop1, kE_drop1, kE, b1, b1L, hd1, ha1, gA, alookup, amapset, Option.isSome_some, va1, b2, b2L, hd2, hm2, alookup, v1, v2, List.length_set, b5, hd5, hr5, ha5, c1, c2, c3, c4, c5, c6, c7, Option.isSome_some] <;> with_reducible rfl) ?_
        repeat (refine awp_seq ?_)
        refine e_eval (by simp only [jA, jO, jN, seval, y3, y62, y84, vint, ksE_cells, kE_cells, ksE_drop1, kE_drop1, kE, b1, b1L, hd1, ha1, gA, alookup, amapset, Option.isSome_some, va1, b2, b2L, hd2, hm2, alookup, v1, v2, List.length_set, b5, hd5, hr5, ha5, c1, c2, c3, c4, c5, c6, c7, Option.isSome_some] <;> with_reducible rfl) (by decide) ?_
        repeat (refine awp_seq ?_)
        refine awp_drawB 0 (by kernel_rfl) ?_
        refine seg_pure 5 (bm := [0, 1, 3, 7, 0, 31]) (by kernel_rfl) (by decide) (by kernel_rfl) (by kernel_rfl) ?_
        refine dp_end (by simp only [jP, jO, jN, seval, y3, y37, y60, y62, vint, ksE_cells, kE_cells, ksE_drop1, kE_drop1, amapset, vint, hd5, b5, c1, c2, c3, c4, c5, c6, c7, Option.isSome_some] <;> with_reducible rfl) (by decide) (by repeat (first | exact Fin.base _ | with_reducible apply Fin.keep | apply Fin.drop)) ?_
        refine seg_op (k := 5) (bm := [0, 1, 3, 7, 0, 31]) (by kernel_rfl) rfl (by kernel_rfl) (by kernel_rfl) ?_
        refine aops_del rfl (by simp only [jC, jN, seval, vint, ksE_cells, kE_cells, ksE_drop1, kE_drop1, amapset, vint, hd5, b5, c1, c2, c3, c4, c5, c6, c7, Option.isSome_some]) (by decide) (by simp [Trytg60]) (by simp only [jC, jN, seval, vint, ksE_cells, kE_cells, ksE_drop1, kE_drop1, amapset, vint, hd5, b5, c1, c2, c3, c4, c5, c6, c7, Option.isSome_some] <;> with_reducible rfl) (by simp only [jC, jN, seval, vint, ksE_cells, kE_cells, ksE_drop1, kE_drop1, amapset, vint, hd5, b5, c1, c2, c3, c4, c5, c6, c7, Option.isSome_some] <;> with_reducible rfl) (c7 _ _ _) ?_
        refine aops_nil ?_
        show GoAt _ _ _ _ _ _ _ _
        refine goat_end ?_
        repeat (refine awp_seq ?_)
        refine e_eval (by simp only [jA, jO, jN, seval, vint, ksE_cells, kE_cells, ksE_drop1, kE_drop1, kE, b1, b1L, hd1, ha1, gA, alookup, amapset, Option.isSome_some, va1, b2, b2L, hd2, hm2, alookup, v1, v2, List.length_set, b5, hd5, hr5, ha5, c1, c2, c3, c4, c5, c6, c7, Option.isSome_some] <;> with_reducible rfl) (by decide) ?_
        repeat (refine awp_seq ?_)
        refine awp_ret (Or.inl ⟨.inr rfl, _, rfl, ?_⟩)
        obtain ⟨w6, f6⟩ := W5.upd hx (act' := act) (st' := { st5 with res := setF st5.res (k1, k2, k3) (some { rec with v := st5.now }), clk := st5.clk + 1 }) (H' := _) (by simp) fun F D => D.done hka hr st5.now tl lu _ hr5' hck ha5
        rw [ho, hst]
        exact ⟨_, loc5, G5, rfl, rfl, w6, f5.trans f6, l5⟩
theorem upd_C {cx : Cx} (hx : CxOk cx) : ∀ n, UpdC cx fun act k st => Memo.upd cx.stpf cx.cp n act k st
  | 0 => fun _ _ _ _ _ _ _ _ _ h => by (simp [Memo.upd] at h)
  | n + 1 => fun act k loc st G H o st' hk h hW => by
    simp only [Memo.upd] at h
    split at h
    · cases h
    · rename_i hka
      obtain ⟨⟨o1, s1⟩, h9, e⟩ := Option.map_eq_some_iff.1 h
      simp only [Prod.mk.injEq] at e
      obtain ⟨rfl, rfl⟩ := e
      exact update1_c hx (upd_UOk cx.stpf cx.cp n) (upd_C hx n) act k hk hka loc st G H o1 s1 h9 hW
end Go.Abs
namespace Go.Abs
open Go.RowKit
def plainA (a : Act) : Act := { a with defers := [] }
section
variable {P : Program} {N n : Nat} {F : Fence} {K : Exit → Act → World → Prop} {ops : Array Oper}
variable {ds : List Deferred} {C : Env → Prop} {T : Slots} {H : Heap}
end
end Go.Abs
namespace Go.Abs
def addD (ds : List Deferred) (a : Act) : Act := { a with defers := a.defers ++ ds }
theorem addD_eval (ds : List Deferred) (a : Act) : (addD ds a).eval = a.eval := by funext x; cases x <;> rfl
theorem addD_put (ds : List Deferred) (a : Act) (d : Option Nat) (v : Value) : (addD ds a).put d v = addD ds (a.put d v) := by cases d <;> rfl
theorem addD_plain {a : Act} {ds : List Deferred} (h : a.defers = ds) : addD ds (plainA a) = a := by subst h; rfl
theorem letsOut_addD {Q : Exit → Act → World → Prop} {ds : List Deferred} (h : LetsOut Q) : LetsOut (fun e a' w' => ∃ a0, a' = addD ds a0 ∧ Q e a0 w') := by
  obtain ⟨a, w, h⟩ := h
  exact ⟨_, w, a, rfl, h⟩
theorem upon_addD {P : Program} {o : Oper} {a : Act} {next next' : Act → World → Prop} {Q : Exit → Act → World → Prop} {ds : List Deferred} (hn : ∀ a w, next a w → next' (addD ds a) w) {r : Result Next} (h : o.upon P a next Q r) : o.upon P (addD ds a) next' (fun e a' w' => ∃ a0, a' = addD ds a0 ∧ Q e a0 w') r := by
  unfold Oper.upon at h ⊢
  split at h
  · rw [addD_put]; exact hn _ _ h
  · rw [addD_put]; exact hn _ _ h
  · have := hn _ _ h
    rw [← addD_put] at this
    exact this
  · refine Calls.mono h ?_
    intro e w' he
    cases e with
    | returned v => simp only at he ⊢; rw [addD_put]; exact hn _ _ he
    | panicked chain => exact ⟨a, rfl, he⟩
    | outgrown => exact letsOut_addD he
  · refine Rows.mono h ?_
    intro v w' he
    rw [addD_put]; exact hn _ _ he
  · exact ⟨a, rfl, h⟩
  · exact h.elim
theorem wpList_addD {P : Program} {ops : Array Oper} {Q : Exit → Act → World → Prop} (ds : List Deferred) : ∀ (l : List Oper) (a : Act) (w : World), wpList P ops Q l a w → wpList P ops (fun e a' w' => ∃ a0, a' = addD ds a0 ∧ Q e a0 w') l (addD ds a) w
  | [], a, w, h => ⟨a, rfl, h⟩
  | o :: l, a, w, h => by
    unfold wpList at h ⊢
    show if Region.wanted o (yielded ops a.tmps) then _ else _
    split at h
    · rename_i hw
      rw [if_pos hw]
      rcases h with h | ⟨h1, h2⟩
      · refine .inl ?_
        unfold Oper.wp at h ⊢
        rw [addD_eval]
        exact upon_addD (fun a w => wpList_addD ds l a w) h
      · refine .inr ⟨?_, letsOut_addD h2⟩
        unfold Oper.asks at h1 ⊢
        rw [addD_eval]
        exact h1
    · rename_i hw
      rw [if_neg hw, addD_put]
      exact wpList_addD ds l _ _ h
theorem trel_enter' {V : View} {N : Nat} {vargs : Array Value} {args : List PV} (hrl : RL V vargs args) (hl : args.length ≤ N) : TRel V N { tmps := vargs ++ Array.replicate (N - vargs.size) undef, defers := [] } (enter args) := by
  refine ⟨by simp [hrl.1]; omega, rfl, fun i hi => ?_⟩
  rw [Array.getD_eq_getD_getElem?, Array.getElem?_append]
  unfold enter
  by_cases hia : i < args.length
  · rw [if_pos (by rw [hrl.1]; exact hia), ← Array.getD_eq_getD_getElem?, List.getD_eq_getElem?_getD, List.getElem?_eq_getElem hia]
    exact hrl.2 i hia
  · rw [List.getD_eq_getElem?_getD, List.getElem?_eq_none (by omega)]
    exact .junk _
abbrev DF := Option (FuncId × List PV)
def DRel (V : View) (ds : List Deferred) : DF → Prop
  | none => ds = []
  | some (f, pcs) => ∃ cap, ds = [{ target := .fn (.func f) cap, args := #[] }] ∧ RL V cap pcs
theorem DRel.mono {V V' : View} {ds : List Deferred} {d : DF} (h : V.le V') (r : DRel V ds d) : DRel V' ds d := by
  cases d with
  | none => exact r
  | some x => obtain ⟨cap, h1, h2⟩ := r; exact ⟨cap, h1, h2.1, fun i hi => (h2.2 i hi).mono h⟩
abbrev PostD := Exit → DF → Slots → Heap → Prop
def liftD (N nb : Nat) (E : Env) (Q : PostD) : Exit → Act → World → Prop := fun e a' w' => ∃ E' T' d', E'.w = w' ∧ E.leN nb E' ∧ E'.Ok ∧ TRel E'.view N (plainA a') T' ∧ DRel E'.view a'.defers d' ∧ Q e d' T' E'.H
def AWPD (P : Program) (N nb : Nat) (c : Code) (Q : PostD) (d : DF) (T : Slots) (H : Heap) : Prop :=
  ∀ (E : Env) (a : Act), E.Ok → E.H = H → TRel E.view N (plainA a) T → DRel E.view a.defers d → c.wp P (liftD N nb E Q) a E.w
theorem liftD_mono {N nb : Nat} {E E1 : Env} (h : E.leN nb E1) {Q Q' : PostD} (hq : ∀ e d T H, Q e d T H → Q' e d T H) {e : Exit} {a : Act} {w : World} (hl : liftD N nb E1 Q e a w) : liftD N nb E Q' e a w := by
  obtain ⟨E', T', d', h1, h2, h3, h4, h5, h6⟩ := hl
  exact ⟨E', T', d', h1, h.trans h2, h3, h4, h5, hq _ _ _ _ h6⟩
def thenD (next : DF → Slots → Heap → Prop) (Q : PostD) : PostD
  | .normal, d, T, H => next d T H
  | e, d, T, H => Q e d T H
section
variable {P : Program} {N nb : Nat} {Q : PostD} {d : DF} {T : Slots} {H : Heap}
theorem awpd_seq {x y : Code} (h : AWPD P N nb x (thenD (AWPD P N nb y Q) Q) d T H) : AWPD P N nb (.seq x y) Q d T H := by
  intro E a ho hH ht hd
  refine wp_seq (wp_mono (h E a ho hH ht hd) ?_)
  intro e a' w' hl
  obtain ⟨E', T', d', rfl, h2, h3, h4, h5, h6⟩ := hl
  cases e with
  | normal => exact wp_mono (h6 E' a' h3 rfl h4 h5) fun e a w hl => liftD_mono h2 (fun _ _ _ _ q => q) hl
  | _ => exact ⟨E', T', d', rfl, h2, h3, h4, h5, h6⟩
theorem awpd_awp {c : Code} (h : AWP P N nb c (fun e T H => Q e none T H) T H) : AWPD P N nb c Q none T H := by
  intro E a ho hH ht hd
  have hd : a.defers = [] := hd
  have ha : plainA a = a := by cases a; simp only [plainA] at *; rw [hd]
  rw [ha] at ht
  refine wp_mono (h E a ho hH ht) ?_
  rintro e a' w' ⟨E', T', h1, h2, h3, h4, h5⟩
  have hd' : a'.defers = [] := h4.defers
  have ha' : plainA a' = a' := by cases a'; simp only [plainA] at *; rw [hd']
  exact ⟨E', T', none, h1, h2, h3, by rw [ha']; exact h4, hd', h5⟩
theorem awpd_reg {id : Nat} {ops : Array Oper} (hn : nb ≤ H.length) (h : AOps P N H.length ops (fun e T H => Q e d T H) ops.toList T H) : AWPD P N nb (.region id ops false) Q d T H := by
  intro E a ho hH ht hd
  have hw := wpList_addD a.defers _ _ _ (h E (plainA a) ho hH ht)
  rw [addD_plain rfl] at hw
  refine wp_mono (wp_region_list hw) ?_
  rintro e a' w' ⟨a0, rfl, E', T', h1, h2, h3, h4, h5⟩
  have hle : E.le E' := (hH ▸ h2 : E.leN E.H.length E').le
  have hz : a0.defers = [] := h4.defers
  have e1 : plainA (addD a.defers a0) = a0 := by cases a0; simp only [plainA, addD] at *; rw [hz]
  have e2 : (addD a.defers a0).defers = a.defers := by simp [addD, hz]
  exact ⟨E', T', d, h1, hle.leN nb, h3, by rw [e1]; exact h4, by rw [e2]; exact hd.mono hle.view, h5⟩
theorem awpd_ret (h : Q .ret d T H) : AWPD P N nb .ret Q d T H := fun E a ho hH ht hd => wp_ret ⟨E, T, d, rfl, .refl nb E, ho, ht, hd, hH ▸ h⟩
theorem awpd_defer {id t : Nat} {o1 o2 : Oper} {f : FuncId} {caps : Array Operand} (h1 : o1.op = .makeFunc (.func f) #[] caps) (hd1 : o1.dst = some t) (hg1 : o1.guard = none) (hg2 : o2.guard = none) (h2 : o2.op = .defer ⟨.value (.tmp t), #[], #[]⟩) (hd2 : o2.dst = none) (ht : t < N) (hok : caps.toList.all (okOpnd N) = true) {pcs : List PV} (hpcs : (caps.toList.map fun x => (aev T x).drop1) = pcs)
    (hq : Q .normal (some (f, pcs)) (upd T t .junk) H) : AWPD P N nb (.region id #[o1, o2] false) Q none T H := by
  subst hpcs
  intro E a ho hH htr hd
  have hd : a.defers = [] := hd
  have ha : plainA a = a := by cases a; simp only [plainA] at *; rw [hd]
  have htr2 := htr
  rw [ha] at htr2
  refine wp_region_list (wpList_plain hg1 fun K hK => ?_)
  have r1 : (execOp a.eval o1).run P E.w = .ok (.value (.func (.func f) #[] (caps.map a.eval))) E.w := by
    unfold execOp
    rw [h1]
    simp only [Instr.makeFunc, Sem.run_bind, Sem.run_pure, Result.andThen_ok, Array.map_empty]
  unfold Oper.wp
  rw [r1, Oper.upon_value]
  refine hK _ _ (wpList_plain hg2 fun K2 hK2 => ?_)
  have ev : (a.put o1.dst (.func (.func f) #[] (caps.map a.eval))).eval (.tmp t) = .func (.func f) #[] (caps.map a.eval) := by
    rw [hd1]
    have hs : t < a.tmps.size := by rw [htr2.size]; exact ht
    simp [Act.put, Act.eval, Array.getD_eq_getD_getElem?, Array.getElem?_setIfInBounds_self_of_lt hs]
  have r2 : (execOp (a.put o1.dst (.func (.func f) #[] (caps.map a.eval))).eval o2).run P E.w = .ok (.defer { target := .fn (.func f) (caps.map a.eval), args := #[] }) E.w := by
    unfold execOp
    rw [h2]
    simp only [resolve, ev, Deferred.ofValue, Sem.run_bind, Sem.run_pure, Result.andThen_ok, Array.map_empty, Array.append_empty]
  unfold Oper.wp
  rw [r2, Oper.upon_defer]
  refine hK2 _ _ (wpList_nil ?_)
  refine ⟨E, upd T t .junk, _, rfl, .refl nb E, ho, ?_, ?_, hH ▸ hq⟩
  · have := htr2.put (some t) (v := .func (.func f) #[] (caps.map a.eval)) (p := .junk) (.junk _)
    refine ⟨?_, rfl, ?_⟩
    · rw [hd1, hd2]; exact this.size
    · rw [hd1, hd2]; exact this.rel
  · refine ⟨caps.map a.eval, ?_, ?_⟩
    · rw [hd1, hd2]; simp [Act.put, hd]
    · exact rl_map htr2 caps hok
end
def DACalls (P : Program) (f : FuncId) (args : List PV) (u : FrameMode) (H : Heap) (R : FrameMode → Heap → Prop) : Prop :=
  ∀ (E : Env) (vargs : Array Value), E.Ok → E.H = H → RL E.view vargs args → CallsD P f vargs u E.w fun e u' w' => ∃ (E' : Env) (v : Value), e = .returned v ∧ E'.w = w' ∧ E.le E' ∧ E'.Ok ∧ R u' E'.H
theorem DACalls.mono {P : Program} {f : FuncId} {args : List PV} {u : FrameMode} {H : Heap} {R R' : FrameMode → Heap → Prop} (h : DACalls P f args u H R) (hr : ∀ u H, R u H → R' u H) : DACalls P f args u H R' :=
  fun E vargs ho hH hl => (h E vargs ho hH hl).mono fun e u' w' ⟨E', v, h1, h2, h3, h4, h5⟩ => ⟨E', v, h1, h2, h3, h4, hr _ _ h5⟩
def EndD (P : Program) (N : Nat) (rs : List ResultVar) (R : PV → Heap → Prop) : PostD := fun e d T H => match d with
  | none => (e = .normal ∨ e = .ret) ∧ ∃ r, aresults P N T H rs = some r ∧ R r H
  | some (f, pcs) => goFn P f = true ∧ ∃ u, (((e = .normal ∨ e = .ret) ∧ u = .returning) ∨ ∃ ch, e = .panic ch ∧ u = .panicking ch) ∧ DACalls P f pcs u H fun u' H' => settle u' = .returning ∧ ∃ r, aresults P N T H' rs = some r ∧ R r H'
theorem acalls_ofD {P : Program} {N : Nat} {f : FuncId} {fn : Func} {c : Code} {args : List PV} {H : Heap} {R : PV → Heap → Prop} (hf : P.funcs[f]? = some fn) (hb : fn.body = some c) (hN : fn.ntmps = N) (hl : args.length ≤ N)
    (h : HBel H.length H → AWPD P N H.length c (EndD P N fn.results.toList R) none (enter args) H) : ACalls P f args H R := by
  intro E vargs ho hH hrl
  refine calls_of_wp_defers hf hb (wp_mono (h (by have := ho.hbel; rw [hH] at this; exact this) E _ ho hH (by rw [hN]; exact trel_enter' hrl hl) rfl) ?_)
  rintro e a w ⟨E', T', d, rfl, h2, h3, h4, h5, h6⟩
  have hle : E.le E' := (hH ▸ h2 : E.leN E.H.length E').le
  have hres : ∀ (E2 : Env), E'.le E2 → E2.Ok → ∀ r, aresults P N T' E2.H fn.results.toList = some r → R r E2.H → ∃ v, (results fn a.tmps).run P E2.w = .ok v E2.w ∧ ∃ (E'' : Env) (v' : Value) (r : PV), Ending.returned v = .returned v' ∧ E''.w = E2.w ∧ E.le E'' ∧ E''.Ok ∧ VRel E''.view v' r ∧ R r E''.H := by
    intro E2 hl2 ho2 r hr hR
    obtain ⟨val, h7, h8⟩ := aresults_sound (P := P) (fn := fn) (a := plainA a) ho2 (h4.mono hl2.view) hr
    exact ⟨val, h7, E2, val, r, rfl, rfl, hle.trans hl2, ho2, h8, hR⟩
  cases d with
  | none =>
    obtain ⟨he, r, hr, hR⟩ := h6
    have hd : a.defers = [] := h5
    have hq := hres E' (.refl E') h3 r hr hR
    rcases he with rfl | rfl
    · show Leaves P fn a.tmps _ a.defers .returning _
      rw [hd]; exact hq
    · show Leaves P fn a.tmps _ a.defers .returning _
      rw [hd]; exact hq
  | some x =>
    obtain ⟨g, pcs⟩ := x
    obtain ⟨hgo, u, hu, hc⟩ := h6
    obtain ⟨cap, hd, hrc⟩ := h5
    have hL : u ≠ .run → Leaves P fn a.tmps (fun e w' => ∃ (E' : Env) (v : Value) (r : PV), e = .returned v ∧ E'.w = w' ∧ E.le E' ∧ E'.Ok ∧ VRel E'.view v r ∧ R r E'.H) a.defers u E'.w := by
      intro hne
      rw [hd]
      refine leaves_cons (f := g) (args := cap) hne (by simp only [invoke, run_callFunc hgo, Array.empty_append]) ((hc E' cap h3 rfl hrc).mono ?_)
      rintro e2 u' w' ⟨E2, v, rfl, rfl, hl2, ho2, hs, r, hr, hR⟩
      simp only
      rw [hs]
      exact hres E2 hl2 ho2 r hr hR
    rcases hu with ⟨he, rfl⟩ | ⟨ch, rfl, rfl⟩
    · rcases he with rfl | rfl
      · exact hL (by simp)
      · exact hL (by simp)
    · exact hL (by simp)
abbrev PostS := Exit → Slots → FrameMode → Heap → Prop
def AWPS (P : Program) (N nb : Nat) (c : Code) (Q : PostS) (T : Slots) (u : FrameMode) (H : Heap) : Prop :=
  ∀ (E : Env) (a : Act) (c₀ : Frame) (cs : List Frame), c₀.mode = u → E.Ok → E.H = H → TRel E.view N a T → c.wpS P (fun e a' cs' w' => ∃ u', cs' = { c₀ with mode := u' } :: cs ∧ lift N nb E (fun e T H => Q e T u' H) e a' w') a (c₀ :: cs) E.w
def thenS (next : Slots → FrameMode → Heap → Prop) (Q : PostS) : PostS
  | .normal, T, u, H => next T u H
  | e, T, u, H => Q e T u H
section
variable {P : Program} {N nb : Nat} {Q : PostS} {T : Slots} {u : FrameMode} {H : Heap}
theorem frame_same {c₀ : Frame} (h : c₀.mode = u) : c₀ = { c₀ with mode := u } := by subst h; rfl
theorem awps_awp {c : Code} (h : AWP P N nb c (fun e T H => Q e T u H) T H) : AWPS P N nb c Q T u H := by
  intro E a c₀ cs hu ho hH ht
  refine wpS_of_wp (wp_mono (h E a ho hH ht) ?_)
  intro e a' w' hl
  exact ⟨u, by rw [← frame_same hu], hl⟩
theorem wpS_mono {c : Code} {Q Q' : Exit → Act → List Frame → World → Prop} {a : Act} {cs : List Frame} {w : World} (h : c.wpS P Q a cs w) (hq : ∀ e a cs w, Q e a cs w → Q' e a cs w) : c.wpS P Q' a cs w :=
  fun b k hb hr => let ⟨e, a', cs', w', q, r⟩ := h b k hb hr; ⟨e, a', cs', w', hq _ _ _ _ q, r⟩
theorem awps_seq {x y : Code} (h : AWPS P N nb x (thenS (fun T u H => AWPS P N nb y Q T u H) Q) T u H) : AWPS P N nb (.seq x y) Q T u H := by
  intro E a c₀ cs hu ho hH ht
  refine wpS_seq (wpS_mono (h E a c₀ cs hu ho hH ht) ?_)
  rintro e a' cs' w' ⟨u', rfl, E', T', h1, h2, h3, h4, h5⟩
  cases e with
  | normal =>
    subst h1
    have := h5 E' a' { c₀ with mode := u' } cs rfl h3 rfl h4
    refine wpS_mono this ?_
    rintro e2 a2 cs2 w2 ⟨u2, rfl, hl⟩
    exact ⟨u2, rfl, lift_mono h2 (fun _ _ _ q => q) hl⟩
  | _ => exact ⟨u', rfl, E', T', h1, h2, h3, h4, h5⟩
def recOf : FrameMode → PV × FrameMode
  | .panicking [{ v := .iface t x, recovered := false, goexit := false }] => (.ifc (some (t, x)), .panicking [{ v := .iface t x, recovered := true }])
  | u => (.ifc none, u)
theorem awps_recover {id t x : Nat} {o1 o2 : Oper} (hu : u = .returning ∨ ∃ tt xx, u = .panicking [{ v := .iface tt xx, recovered := false }]) (h1 : o1.op = .call ⟨.builtin .recover, #[], #[]⟩) (hd1 : o1.dst = some t) (hg1 : o1.guard = none) (h2 : o2.op = .assign (.tmp t)) (hd2 : o2.dst = some x) (hg2 : o2.guard = none) (ht : t < N)
    (h : Q .normal (upd (upd T t (recOf u).1) x (recOf u).1) (recOf u).2 H) : AWPS P N nb (.region id #[o1, o2] false) Q T u H := by
  intro E a c₀ cs hm ho hH htr
  refine wpS_region ?_
  have r1 : (execOp a.eval o1).run P E.w = .ok .recover E.w := by
    unfold execOp
    rw [h1]
    rfl
  have w1 : Region.wanted o1 (yielded #[o1, o2] a.tmps) = true := by simp [Region.wanted, hg1]
  have hs : t < a.tmps.size := by rw [htr.size]; exact ht
  have key : ∀ (val : Value) (u' : FrameMode), VRel E.view val (recOf u).1 → u' = (recOf u).2 → wpOpsS P #[o1, o2] (fun e a' cs' w' => ∃ u', cs' = { c₀ with mode := u' } :: cs ∧ lift N nb E (fun e T H => Q e T u' H) e a' w') [1] (a.put o1.dst val) ({ c₀ with mode := u' } :: cs) E.w := by
    intro val u' hv hu'
    have ev : (a.put o1.dst val).eval (.tmp t) = val := by
      rw [hd1]
      simp [Act.put, Act.eval, Array.getD_eq_getD_getElem?, Array.getElem?_setIfInBounds_self_of_lt hs]
    have w2 : Region.wanted o2 (yielded #[o1, o2] (a.put o1.dst val).tmps) = true := by simp [Region.wanted, hg2]
    have r2 : (execOp (a.put o1.dst val).eval o2).run P E.w = .ok (.value val) E.w := by
      unfold execOp
      rw [h2]
      simp only [ev, Sem.run_pure]
    simp only [wpOpsS]
    have e1 : (#[o1, o2] : Array Oper)[1]? = some o2 := rfl
    rw [e1]
    simp only [w2, if_true]
    rw [r2]
    show ∃ u', _ ∧ _
    refine ⟨u', rfl, E, _, rfl, .refl nb E, ho, (htr.put (some t) hv).put (some x) hv |> fun h => by rw [hd1, hd2]; exact h, ?_⟩
    rw [hu', hH]
    exact h
  have hr : List.range (#[o1, o2] : Array Oper).size = [0, 1] := rfl
  rw [hr]
  rw [wpOpsS]
  have e0 : (#[o1, o2] : Array Oper)[0]? = some o1 := rfl
  have e1 : (#[o1, o2] : Array Oper)[1]? = some o2 := rfl
  rw [e0]
  simp only [w1, if_true]
  rw [r1]
  rcases hu with rfl | ⟨tt, xx, rfl⟩
  · have hrd : recoverD (c₀ :: cs) = none := by simp only [recoverD, hm]
    simp only [hrd]
    have := key .nilIface .returning .nili rfl
    rw [← frame_same hm] at this
    exact this
  · have hrd : recoverD (c₀ :: cs) = some (.iface tt xx, { c₀ with mode := .panicking [{ v := .iface tt xx, recovered := true }] } :: cs) := by simp only [recoverD, hm]
    simp only [hrd]
    exact key (.iface tt xx) _ (.ifc _ _) rfl
theorem dacalls_of {f : FuncId} {fn : Func} {c : Code} {args : List PV} {R : FrameMode → Heap → Prop} (hf : P.funcs[f]? = some fn) (hb : fn.body = some c) (hN : fn.ntmps = N) (hl : args.length ≤ N) (hr : fn.results = #[])
    (h : HBel H.length H → AWPS P N H.length c (fun e T u' H' => (e = .normal ∨ e = .ret) ∧ R u' H') (enter args) u H) : DACalls P f args u H R := by
  intro E vargs ho hH hrl
  refine callsD_of_wpS hf hb fun c₀ cs hm => ?_
  refine wpS_mono (h (by have := ho.hbel; rw [hH] at this; exact this) E _ c₀ cs hm ho hH (by rw [hN]; exact trel_enter' hrl hl)) ?_
  rintro e a' cs' w' ⟨u', rfl, E', T', rfl, h2, h3, h4, he, h5⟩
  have hle : E.le E' := (hH ▸ h2 : E.leN E.H.length E').le
  have hres : ∃ v, (results fn a'.tmps).run P E'.w = .ok v E'.w := by
    obtain ⟨val, h7, h8⟩ := aresults_sound (P := P) (N := N) (fn := fn) (v := .tup []) h3 h4 (by rw [hr]; rfl)
    exact ⟨val, h7⟩
  obtain ⟨v, hv⟩ := hres
  rcases he with rfl | rfl
  · exact ⟨h4.defers, u', rfl, v, hv, E', v, rfl, rfl, hle, h3, h5⟩
  · exact ⟨h4.defers, u', rfl, v, hv, E', v, rfl, rfl, hle, h3, h5⟩
end
theorem aops_tassert {P : Program} {N nb : Nat} {ops : Array Oper} {Q : Post} {T : Slots} {H : Heap} {o : Oper} {l : List Oper} {t xt : TypeId} {x : Operand} {n : Int} (hop : o.op = .typeAssert x xt t true) (hw : awanted ops.toList T N o = some true) (hok : okOp N o.op = true) {d : TypeDesc} (hu : P.underlying t = some d) (hd : ∀ m, d ≠ .interface m)
    (hx : aev T x = .ifc (some (t, .agg #[.int .i64 n]))) (h : AOps P N nb ops Q l (updO T o.dst (.tup [.agg [.int .i64 n], .bool true])) H) : AOps P N nb ops Q (o :: l) T H := by
  refine aops_done hw (fun E A ho hH ht => ?_) h
  have hall : ∀ x ∈ o.op.operands.toList, okOpnd N x = true := fun x hx => List.all_eq_true.1 hok x hx
  rw [hop] at hall
  have rx := vrel_eval ht x (hall x (by simp [Op.operands]))
  rw [hx] at rx
  have ex : A.eval x = .iface t (.agg #[.int .i64 n]) := by
    generalize A.eval x = y at rx
    cases rx; rfl
  refine ⟨E, .tuple #[.agg #[.int .i64 n], .bool true], .inl ?_, .refl E, ho, hH, ?_⟩
  · unfold execOp
    rw [hop]
    simp only [Instr.typeAssert, Sem.run_bind, run_under hu, Result.andThen_ok, ex]
    cases d with
    | interface m => exact (hd m rfl).elim
    | _ => simp only [if_true, Sem.run_pure, Result.andThen_ok]
  · refine .tup _ _ rfl fun i hi => ?_
    rcases Nat.lt_or_ge i 1 with h0 | h0
    · obtain rfl : i = 0 := by omega
      refine .agg _ _ rfl fun j hj => ?_
      obtain rfl : j = 0 := by simp at hj; omega
      exact .int _ _
    · obtain rfl : i = 1 := by simp at hi; omega
      exact .bool _
theorem guard_if {P : Program} {w : World} (op : BinOp) (t : TypeId) (x : Operand) (y : TypeId) (v : Value) : (eqGuard op t x (.const .nilIface) (.iface y v) .nilIface).run P w = .ok () w := by
  cases op <;> rfl
theorem guard_ni {P : Program} {w : World} (op : BinOp) (t : TypeId) (x : Operand) : (eqGuard op t x (.const .nilIface) .nilIface .nilIface).run P w = .ok () w := by
  cases op <;> simp [eqGuard] <;> rfl
theorem aops_ifcmp {P : Program} {N nb : Nat} {ops : Array Oper} {Q : Post} {T : Slots} {H : Heap} {o : Oper} {l : List Oper} {t y : TypeId} {x : Operand} (hop : o.op = .binOp .neq t x (.const .nilIface) y) (hw : awanted ops.toList T N o = some true) (hok : okOpnd N x = true) {ms : Array (String × TypeId)} (hu : P.underlying t = some (.interface ms))
    {v : Option (TypeId × Value)} (hx : aev T x = .ifc v) (h : AOps P N nb ops Q l (updO T o.dst (.bool v.isSome)) H) : AOps P N nb ops Q (o :: l) T H := by
  refine aops_done hw (fun E A ho hH ht => ?_) h
  have rx := vrel_eval ht x hok
  have hc : A.eval (.const .nilIface) = .nilIface := rfl
  refine ⟨E, .bool v.isSome, .inl ?_, .refl E, ho, hH, .bool _⟩
  unfold execOp
  rw [hop]
  rw [hx] at rx
  cases v with
  | some tv =>
    obtain ⟨tt, v⟩ := tv
    have hv : A.eval x = .iface tt v := by
      generalize A.eval x = y at rx
      cases rx; rfl
    have he : ∀ w, (Op.equal t (.iface tt v) .nilIface).run P w = .ok false w := fun w => by
      have key : ∀ d, (Op.equalIn (d + 1) t (.iface tt v) .nilIface).run P w = .ok false w := by
        intro d; simp only [Op.equalIn, Sem.run_bind, run_under hu, Result.andThen_ok, Sem.run_pure]
      exact key 9999
    simp only [Sem.run_bind, hv, hc, guard_if, Result.andThen_ok, binOp, he, Sem.run_pure]
    rfl
  | none =>
    have hv : A.eval x = .nilIface := by
      generalize A.eval x = y at rx
      cases rx; rfl
    have he : ∀ w, (Op.equal t .nilIface .nilIface).run P w = .ok true w := fun w => by
      have key : ∀ d, (Op.equalIn (d + 1) t .nilIface .nilIface).run P w = .ok true w := by
        intro d; simp only [Op.equalIn, Sem.run_bind, run_under hu, Result.andThen_ok, Sem.run_pure]
      exact key 9999
    simp only [Sem.run_bind, hv, hc, guard_ni, Result.andThen_ok, binOp, he, Sem.run_pure]
    rfl
end Go.Abs
namespace Go.Abs
open Go.Proofs Go.Memo
theorem DbR.actclr {ix : Ids} {loc : QK → Nat} {act : List QK} {st : St} {F : FPl} {H : Heap} (h : DbR ix loc act st F H) (clk : Nat) : DbR ix loc [] st F (H.set ix.a (.obj (.mapg [] clk))) := by
  obtain ⟨o1, o2, o3, o4, o5⟩ := h.own
  obtain ⟨n1, n2, n3, n4, n5, n6, n7, n8, n9, n10⟩ := h.ne
  have hs : ∀ id, id ≠ ix.a → (H.set ix.a (AObj.obj (.mapg [] clk)))[id]? = H[id]? := fun id hi => List.getElem?_set_ne (Ne.symm hi)
  refine ⟨by rw [hs _ n4]; exact h.db, by rw [hs _ n7]; exact h.sto, by rw [hs _ n10]; exact h.cells, by rw [hs _ n9]; exact h.res, fun q r hq => ?_, h.inj, ⟨[], clk, List.getElem?_set_self (h.lt _ o5), ?_, fun q => ?_⟩, h.okc, h.own, fun id hi => by rw [List.length_set]; exact h.lt id hi, h.ne, fun c hc => by rw [hs _ n4] at hc; exact h.clk c hc, fun q r tl lu hq hr => by rw [hs _ (h.recs q r hq).2.2.2.2.2.2.1] at hr; exact h.lus q r tl lu hq hr⟩
  · obtain ⟨h1, h2⟩ := h.recs q r hq
    exact ⟨by rw [hs _ h2.2.2.2.2.2.1]; exact h1, h2⟩
  · exact List.Pairwise.nil
  · simp [gget, gfind]
theorem nfF : (ofConst .nilFunc = .nilfn) ∧ (PV.cells .nilfn = [.nilfn]) ∧ (PV.isCell .nilfn = true) ∧ (ofConst .nilIface = .ifc none) ∧ (∀ f a b, PV.cells (.fn f a b) = [.fn f a b]) ∧ (∀ f a b, PV.isCell (.fn f a b) = true) ∧ (PV.drop1 .nilfn = .nilfn) ∧ (∀ f a b, PV.drop1 (.fn f a b) = .fn f a b) :=
  ⟨rfl, rfl, rfl, rfl, fun _ _ _ => rfl, fun _ _ _ => rfl, rfl, fun _ _ _ => rfl⟩
def Cx.off (cx : Cx) : Cx := { cx with ix := { cx.ix with stp := .nilfn }, stpf := fun _ => false }
theorem CxOk.off {cx : Cx} (hx : CxOk cx) : CxOk cx.off := ⟨hx.comp, hx.istab, hx.ilt, .inl ⟨rfl, fun _ => rfl⟩⟩
section
variable {cx : Cx} (hx : CxOk cx) {loc : QK → Nat} {act : List QK} {st : St} {b : Bool} {G : FPl} {H : Heap}
include hx
theorem WR.stp {cx' : Cx} (h : WR cx loc act st b G H) (stp : PV) (hc : cx'.ix = { cx.ix with stp := stp }) (he : cx'.env = cx.env) (hF : cx'.FX = cx.FX) (hI : cx'.I = cx.I) {H' : Heap} {clock : Int} (hd : H[cx.ix.d]? = some (.row [cx.ix.cf, .optr cx.ix.s 0, .mapp cx.ix.m, .mapp cx.ix.a, cx.ix.stp, vint st.comps, vint clock]))
    (hH : H' = H.set cx.ix.d (.row [cx.ix.cf, .optr cx.ix.s 0, .mapp cx.ix.m, .mapp cx.ix.a, stp, vint st.comps, vint clock])) : WR cx' loc act st b G H' ∧ FrS G G H H' := by
  obtain ⟨F, h1, h2, h3, rfl, h4⟩ := h
  subst hH
  have d1 := h1.dbrow stp st.comps clock st.clk (Nat.le_refl _) (h1.clk clock hd)
  obtain ⟨o1, _⟩ := h1.own
  have hs : ∀ id, ¬ F id → (H.set cx.ix.d (AObj.row [cx.ix.cf, .optr cx.ix.s 0, .mapp cx.ix.m, .mapp cx.ix.a, stp, vint st.comps, vint clock]))[id]? = H[id]? := fun id hf => List.getElem?_set_ne (by rintro rfl; exact hf o1)
  refine ⟨⟨F, by rw [hc]; exact d1, by rw [hI]; exact hx.istab b H _ h2 fun id hi => hs id fun hf => h3 id hf hi, by rw [hF]; exact h3, by rw [hF, he], fun e hm => ?_⟩, by simp, fun id _ hn => hs id fun hf => hn (.inl hf), fun id hi _ => hi⟩
  rw [he] at hm
  refine ⟨by rw [hs e.1 (h4 e hm).2.1]; exact (h4 e hm).1, (h4 e hm).2.1, by rw [hF]; exact (h4 e hm).2.2⟩
theorem WR.clr (h : WR cx loc act st b G H) {clk : Nat} {es : List GE} (ha : H[cx.ix.a]? = some (.obj (.mapg es clk))) : WR cx loc [] st b G (H.set cx.ix.a (.obj (.mapg [] clk))) ∧ FrS G G H (H.set cx.ix.a (.obj (.mapg [] clk))) :=
  h.upd hx (by simp) fun F D => ⟨D.actclr clk, fun id hn => List.getElem?_set_ne (by rintro rfl; exact hn D.own.2.2.2.2)⟩
end
end Go.Abs
namespace Go.Abs
open Go.Proofs Go.Memo
theorem f30_c {cx : Cx} (hx : CxOk cx) (ch : Bool) (u : FrameMode) (hu : (u = .returning ∧ ch = false) ∨ (u = .panicking chC ∧ ch = true)) (loc : QK → Nat) (act : List QK) (st : St) (b : Bool) (G : FPl) (H : Heap) (x3 x6 x7 : Nat) (v1 v2 e0 : PV)
    (h3 : H[x3]? = some (.row [.optr cx.ix.d 0])) (h6 : H[x6]? = some (.row [v1, v2])) (h7 : H[x7]? = some (.row [e0])) (hne : x3 ≠ x6 ∧ x3 ≠ x7 ∧ x6 ≠ x7) (hn : ¬ G x3 ∧ ¬ G x6 ∧ ¬ G x7) (hW : WR cx loc act st b G H) :
    DACalls Try.prog 30 [.optr x3 0, .optr x6 0, .optr x7 0] u H (fun u' H' => settle u' = .returning ∧ WR cx.off loc [] st b G H' ∧ FrS (fun id => G id ∨ id = x6 ∨ id = x7) G H H' ∧ (if ch = true then H'[x6]? = some (.row [.slice [] .full, .str []]) ∧ H'[x7]? = some (.row [vint 12]) else H'[x6]? = some (.row [v1, v2]) ∧ H'[x7]? = some (.row [e0]))) := by
  obtain ⟨F, D, hI, hdis, hG, henv⟩ := id hW
  obtain ⟨clock, hd⟩ := D.db
  obtain ⟨aes, aclk, ha, _, _⟩ := D.acts
  have h3L := getL h3
  have nGd : ∀ id, ¬ G id → id ≠ cx.ix.d := fun id hid e => hid (by rw [hG]; exact .inl (e ▸ D.own.1))
  have nGa : ∀ id, ¬ G id → id ≠ cx.ix.a := fun id hid e => hid (by rw [hG]; exact .inl (e ▸ D.own.2.2.2.2))
  have hc3 : ∀ o, (H.set cx.ix.d o)[x3]? = _ := fun o => set_lt h3 (nGd _ hn.1)
  have hdc : ∀ o, (H.set cx.ix.d o)[cx.ix.d]? = some o := fun o => List.getElem?_set_self (D.lt _ D.own.1)
  have hac : ∀ {o}, (H.set cx.ix.d o)[cx.ix.a]? = _ := fun {o} => set_lt ha (Ne.symm D.ne.2.2.2.1)
  have vd : (cx.ix.d = H.length) = False := by have := D.lt _ D.own.1; simp; omega
  refine dacalls_of (N := 27) Try.func30 rfl rfl (by simp) rfl fun hb' => ?_
  refine awps_seq ?_
  refine awps_awp ?_
  ·
    repeat (refine awp_seq ?_)
    refine e_eval (by simp only [jA, jO, jN, seval, y26, y28, y62, vint, ksE_cells, kE_cells, ksE_drop1, kE_drop1, nfF, h3, hd, vd] <;> with_reducible rfl) (by decide) ?_
    refine awps_seq ?_
    refine awps_awp ?_
    ·
      repeat (refine awp_seq ?_)
      refine awp_region ?_
      refine e_take 4 (by simp only [jA, jO, jN, seval, y3, y28, y60, y62, vint, ksE_cells, kE_cells, ksE_drop1, kE_drop1, nfF, h3, hd, vd, h3, hc3, hdc, hac] <;> with_reducible rfl) (by decide) ?_
      refine aops_clr rfl (by simp only [jC, jN, seval, vint, ksE_cells, kE_cells, ksE_drop1, kE_drop1, h3, hc3, hdc, hac]) (by decide) Try.underlying60 (by simp only [jC, jN, seval, vint, ksE_cells, kE_cells, ksE_drop1, kE_drop1, h3, hc3, hdc, hac] <;> rfl) hac ?_
      refine aops_nil ?_
      refine awps_seq ?_
      refine awps_recover (by rcases hu with ⟨rfl, _⟩ | ⟨rfl, _⟩; exact .inl rfl; exact .inr ⟨_, _, rfl⟩) rfl rfl rfl rfl rfl rfl (by decide) ?_
      refine awps_awp ?_
      refine awp_abs (fun H2 => WR cx.off loc [] st b G H2 ∧ FrS G G H H2 ∧ H2[x6]? = some (.row [v1, v2]) ∧ H2[x7]? = some (.row [e0])) ?_ ?_
      · obtain ⟨w1, f1⟩ := hW.stp hx (cx' := cx.off) .nilfn rfl rfl rfl rfl hd rfl
        obtain ⟨w2, f2⟩ := w1.clr hx.off (clk := aclk) (es := aes) hac
        exact ⟨w2, f1.trans f2, set_lt (set_lt h6 (nGd _ hn.2.1)) (nGa _ hn.2.1), set_lt (set_lt h7 (nGd _ hn.2.2)) (nGa _ hn.2.2)⟩
      rintro H2 ⟨W2, f2, g6, g7⟩
      rcases hu with ⟨rfl, rfl⟩ | ⟨rfl, rfl⟩
      ·
        repeat (refine awp_seq ?_)
        refine awp_region ?_
        refine e_take 1 (by simp only [jA, jO, jN, seval, vint, ksE_cells, kE_cells, ksE_drop1, kE_drop1, nfF, h3, hd, vd, h3, hc3, hdc, hac, recOf] <;> with_reducible rfl) (by decide) ?_
        refine aops_ifcmp rfl (by simp only [jC, jN, seval, vint, ksE_cells, kE_cells, ksE_drop1, kE_drop1, recOf, chC]) (by decide) Try.underlying20 (by simp only [jC, jN, seval, vint, ksE_cells, kE_cells, ksE_drop1, kE_drop1, recOf, chC] <;> rfl) ?_
        refine aops_nil ?_
        repeat (refine awp_seq ?_)
        refine awp_cond_false rfl (by simp only [jN, seval, vint, ksE_cells, kE_cells, ksE_drop1, kE_drop1, nfF, h3, hd, vd, h3, hc3, hdc, hac, recOf] <;> with_reducible rfl) ?_
        repeat (refine awp_seq ?_)
        refine awp_skip ?_
        exact ⟨.inl rfl, rfl, W2, f2.sub fun id h => .inl h, g6, g7⟩
      ·
        have l6 := len_of_get g6
        have l7 := len_of_get g7
        have g6L := getL g6
        have g7L := getL g7
        have v6 : ∀ o, (x6 = (H2 ++ [o]).length) = False := fun o => by simp; omega
        have v7 : ∀ o, (x7 = (H2 ++ [o]).length) = False := fun o => by simp; omega
        have e67 : (x6 = x7) = False := by simp; exact hne.2.2
        repeat (refine awp_seq ?_)
        refine awp_region ?_
        refine e_take 1 (by simp only [jA, jO, jN, seval, vint, ksE_cells, kE_cells, ksE_drop1, kE_drop1, nfF, h3, hd, vd, h3, hc3, hdc, hac, recOf, chC, g6, g7, g6L, g7L] <;> with_reducible rfl) (by decide) ?_
        refine aops_ifcmp rfl (by simp only [jC, jN, seval, vint, ksE_cells, kE_cells, ksE_drop1, kE_drop1, recOf, chC]) (by decide) Try.underlying20 (by simp only [jC, jN, seval, vint, ksE_cells, kE_cells, ksE_drop1, kE_drop1, recOf, chC] <;> rfl) ?_
        refine aops_nil ?_
        repeat (refine awp_seq ?_)
        refine awp_cond_true rfl (by simp only [jN, seval, vint, ksE_cells, kE_cells, ksE_drop1, kE_drop1, nfF, h3, hd, vd, h3, hc3, hdc, hac, recOf, chC, g6, g7, g6L, g7L] <;> with_reducible rfl) ?_
        repeat (refine awp_seq ?_)
        refine awp_region ?_
        refine e_take 1 (by simp only [jA, jO, jN, seval, vint, ksE_cells, kE_cells, ksE_drop1, kE_drop1, nfF, h3, hd, vd, h3, hc3, hdc, hac, recOf, chC, g6, g7, g6L, g7L] <;> with_reducible rfl) (by decide) ?_
        refine aops_tassert rfl (by simp only [jC, jN, seval, vint, ksE_cells, kE_cells, ksE_drop1, kE_drop1, recOf, chC]) (by decide) Try.underlying79 (by simp) (by simp only [jC, jN, seval, vint, ksE_cells, kE_cells, ksE_drop1, kE_drop1, recOf, chC] <;> rfl) ?_
        refine e_end (by simp only [jA, jO, jN, seval, y79, vint, ksE_cells, kE_cells, ksE_drop1, kE_drop1, nfF, h3, hd, vd, h3, hc3, hdc, hac, recOf, chC, g6, g7, g6L, g7L] <;> with_reducible rfl) (by decide) ?_
        refine awp_sel [1, 2, 3, 4, 5] (by simp only [jN, seval, vint, ksE_cells, kE_cells, ksE_drop1, kE_drop1, nfF, h3, hd, vd, h3, hc3, hdc, hac, recOf, chC, g6, g7, g6L, g7L] <;> with_reducible rfl) ?_
        repeat (refine awp_seq ?_)
        refine e_eval (by simp only [jA, jO, jN, seval, vint, ksE_cells, kE_cells, ksE_drop1, kE_drop1, nfF, h3, hd, vd, h3, hc3, hdc, hac, recOf, chC, g6, g7, g6L, g7L] <;> with_reducible rfl) (by decide) ?_
        repeat (refine awp_seq ?_)
        refine awp_cond_false rfl (by simp only [jN, seval, vint, ksE_cells, kE_cells, ksE_drop1, kE_drop1, nfF, h3, hd, vd, h3, hc3, hdc, hac, recOf, chC, g6, g7, g6L, g7L] <;> with_reducible rfl) ?_
        repeat (refine awp_seq ?_)
        refine awp_skip ?_
        refine awp_abs (fun H3 => H3.length = H2.length + 1 ∧ (∀ id, id < H2.length → H3[id]? = H2[id]?) ∧ H3[H2.length]? = some (.row [.int .i64 12])) ⟨by simp, fun id hid => by simp [List.getElem?_append_left hid], by simp⟩ ?_
        rintro H3 ⟨h3n, h3s, h3t⟩
        have k6 := (h3s _ l6).trans g6
        have k7 := (h3s _ l7).trans g7
        have v6 : (x6 = H3.length) = False := by simp; omega
        have v7 : (x7 = H3.length) = False := by simp; omega
        have w6 : decide (H3.length ≤ x6) = false := by simp; omega
        have w7 : decide (H3.length ≤ x7) = false := by simp; omega
        have q6 : (x6 = H2.length) = False := by simp; omega
        have q7 : (x7 = H2.length) = False := by simp; omega
        have p6 : (H2.length = x6) = False := by simp; omega
        have p7 : (H2.length = x7) = False := by simp; omega
        have u6 : (x6 == H2.length) = false := by simp; omega
        have u7 : (x7 == H2.length) = false := by simp; omega
        have u67 : (x7 == x6) = false := by simp; exact Ne.symm hne.2.2
        have m6 : ∀ o, (H3.set x6 o)[x7]? = _ := fun o => set_lt k7 (Ne.symm hne.2.2)
        have m4 : ∀ o, (H3.set x6 o)[H2.length]? = _ := fun o => set_lt h3t (by omega)
        ·
          repeat (refine awp_seq ?_)
          refine awp_draw 0 (by kernel_rfl) ?_
          refine d_end (bm := [0, 0, 2, 1, 15]) (fresh := (H3.length)) (by kernel_rfl) (by simp only [jD, jO, jN, seval, y38, y41, y79, vint, ksE_cells, kE_cells, ksE_drop1, kE_drop1, nfF, h3, hd, vd, h3, hc3, hdc, hac, recOf, chC, g6, g7, g6L, g7L, k6, k7, v6, v7, w6, w7, u6, u7, u67, Bool.not_false, q6, q7, p6, p7, m6, m4, h3t, List.length_set] <;> with_reducible rfl) (by decide) ?_
          have hl2 := f2.len
          have hs : ∀ id, id < H2.length → id ≠ x6 → id ≠ x7 → ∀ o o2, ((H3.set x6 o).set x7 o2)[id]? = H2[id]? := fun id h1 h2 h3 o o2 => by
            rw [List.getElem?_set_ne (Ne.symm h3), List.getElem?_set_ne (Ne.symm h2)]; exact h3s id h1
          refine ⟨.inl rfl, rfl, W2.fr hx.off (fun id hi => hs id (W2.lt hx.off id hi) (fun e => hn.2.1 (e ▸ hi)) (fun e => hn.2.2 (e ▸ hi)) _ _), ⟨by simp; omega, fun id h1 h2 => ?_, fun id h _ => .inl h⟩, ?_, ?_⟩
          · have : ¬ G id ∧ id ≠ x6 ∧ id ≠ x7 := ⟨fun h => h2 (.inl h), fun h => h2 (.inr (.inl h)), fun h => h2 (.inr (.inr h))⟩
            exact (hs id (by omega) this.2.1 this.2.2 _ _).trans (f2.same id h1 this.1)
          · rw [List.getElem?_set_ne (Ne.symm hne.2.2), List.getElem?_set_self (by omega)]
          · rw [List.getElem?_set_self (by simp; omega)]
end Go.Abs
namespace Go.Abs
open Go.Proofs Go.Memo
def ansV : Option Rec → PV
  | some r => qvE r.val
  | none => qvE ⟨[], []⟩
def ansE : Option Rec → Int
  | some _ => 0
  | none => 12
theorem stpF {cx : Cx} (hx : CxOk cx) : cx.ix.stp.cells = [cx.ix.stp] ∧ cx.ix.stp.isCell = true ∧ cx.ix.stp.drop1 = cx.ix.stp := by
  rcases hx.stop with ⟨h, _⟩ | ⟨f, caps, h, _⟩
  · rw [h]; exact ⟨rfl, rfl, rfl⟩
  · rw [h]; exact ⟨rfl, rfl, rfl⟩
theorem getUntil_c {cx : Cx} (hx : CxOk cx) (n : Nat) (k : QK) (hk : k.1 ≠ 0) (loc : QK → Nat) (st : St) (G : FPl) (H : Heap) (o : Option Rec) (st' : St) (hm : Memo.upd cx.stpf cx.cp n [] k st = some (o, st')) (hl : ∀ r, o = some r → r.val.nums.length ≤ lim) (hW : WR cx.off loc [] st false G H) :
    ACalls Try.prog 12 [.optr cx.ix.d 0, kE k, cx.ix.stp] H (fun r H' => ∃ loc' G', r = .tup [ansV o, vint (ansE o)] ∧ WR cx.off loc' [] st' o.isNone G' H' ∧ FrS G G' H H') := by
  obtain ⟨k1, k2, k3⟩ := k
  obtain ⟨sc, sj, sd⟩ := stpF hx
  have t10 : decide (k1 = 0) = false := decide_eq_false hk
  refine acalls_ofD (N := 34) Try.func12 rfl rfl (by simp) fun hb' => ?_
  refine awpd_seq ?_
  refine awpd_awp ?_
  ·
    repeat (refine awp_seq ?_)
    refine e_eval (by simp only [jA, jO, jN, seval, y28, y37, y38, y41, vint, ksE_cells, kE_cells, ksE_drop1, kE_drop1, nfF, kE, sd] <;> with_reducible rfl) (by decide) ?_
    refine awpd_seq ?_
    refine awpd_awp ?_
    refine awp_abs (fun H1 => WR cx.off loc [] st false G H1 ∧ FrS G G H H1 ∧ H1[H.length]? = some (.row [.optr cx.ix.d 0]) ∧ H1[H.length + 1]? = some (.row [vint k1, vint k2, vint k3]) ∧ H1[H.length + 2]? = some (.row [.slice [] .full, .str []]) ∧ H1[H.length + 3]? = some (.row [vint 0])) ⟨hW.app hx.off _, FrS.app _ _ _ (hW.lt hx.off), by simp, by simp, by simp, by simp⟩ ?_
    rintro H1 ⟨W1, f1, b3, b4, b6, b7⟩
    obtain ⟨F1, D1, _, _, hG1, _⟩ := id W1
    obtain ⟨clock1, hd1⟩ := D1.db
    have hd1 : H1[cx.ix.d]? = some (.row [cx.ix.cf, .optr cx.ix.s 0, .mapp cx.ix.m, .mapp cx.ix.a, .nilfn, vint st.comps, vint clock1]) := hd1
    have v1 : (cx.ix.d = H1.length) = False := by have := len_of_get hd1; simp; omega
    have nG : ∀ id, H.length ≤ id → ¬ G id := fun id hid h => by have := hW.lt hx.off _ h; omega
    have nd : ∀ id, H.length ≤ id → id ≠ cx.ix.d := fun id hid e => nG id hid (by rw [hG1]; exact .inl (e ▸ D1.own.1))
    ·
      repeat (refine awp_seq ?_)
      refine e_eval (by simp only [jA, jO, jN, seval, y3, y37, vint, ksE_cells, kE_cells, ksE_drop1, kE_drop1, nfF, kE, sd, b3, b4, b6, b7, hd1, t10, sc, sj, sd, v1] <;> with_reducible rfl) (by decide) ?_
      repeat (refine awp_seq ?_)
      refine awp_cond_false rfl (by simp only [jN, seval, vint, ksE_cells, kE_cells, ksE_drop1, kE_drop1, nfF, kE, sd, b3, b4, b6, b7, hd1, t10, sc, sj, sd, v1] <;> with_reducible rfl) ?_
      repeat (refine awp_seq ?_)
      refine awp_skip ?_
      refine awpd_seq ?_
      refine awpd_awp ?_
      ·
        repeat (refine awp_seq ?_)
        refine e_eval (by simp only [jA, jO, jN, seval, y26, y28, y62, vint, ksE_cells, kE_cells, ksE_drop1, kE_drop1, nfF, kE, sd, b3, b4, b6, b7, hd1, t10, sc, sj, sd, v1] <;> with_reducible rfl) (by decide) ?_
        refine awpd_seq ?_
        refine awpd_defer (pcs := [.optr H.length 0, .optr (H.length + 2) 0, .optr (H.length + 3) 0]) rfl rfl rfl rfl rfl rfl (by decide) (by decide) (by simp only [List.map_cons, List.map_nil, jN, seval, vint, ksE_cells, kE_cells, ksE_drop1, kE_drop1]; try rfl) ?_
        obtain ⟨W2, f2⟩ := W1.stp hx.off (cx' := cx) cx.ix.stp rfl rfl rfl rfl hd1 rfl
        refine awpd_seq ?_
        refine awpd_reg (by have := f1.len; simp; omega) ?_
        have d3 : ∀ o, (H1.set cx.ix.d o)[H.length]? = _ := fun o => set_lt b3 (nd _ (by omega))
        have d4 : ∀ o, (H1.set cx.ix.d o)[H.length + 1]? = _ := fun o => set_lt b4 (nd _ (by omega))
        have d6 : ∀ o, (H1.set cx.ix.d o)[H.length + 2]? = _ := fun o => set_lt b6 (nd _ (by omega))
        have d7 : ∀ o, (H1.set cx.ix.d o)[H.length + 3]? = _ := fun o => set_lt b7 (nd _ (by omega))
        ·
          refine e_take 2 (by simp only [jA, jO, jN, seval, y28, y37, vint, ksE_cells, kE_cells, ksE_drop1, kE_drop1, nfF, kE, sd, b3, b4, b6, b7, hd1, t10, sc, sj, sd, v1, d3, d4] <;> with_reducible rfl) (by decide) ?_
          refine aops_xc (by simp only [jC, jN, seval, vint, ksE_cells, kE_cells, ksE_drop1, kE_drop1, nfF, kE, sd, b3, b4, b6, b7, hd1, t10, sc, sj, sd, v1, d3, d4] <;> rfl) (by simp only [jC, jN, seval, vint, ksE_cells, kE_cells, ksE_drop1, kE_drop1, nfF, kE, sd, b3, b4, b6, b7, hd1, t10, sc, sj, sd, v1, d3, d4]) (by decide) Trygo32 (upd_C hx n [] (k1, k2, k3) loc st G _ o st' hk hm W2) ?_ (fun HP ⟨ho, loc', act', G', w', f'⟩ => ?_)
          rotate_left
          · subst ho
            obtain ⟨p3, q3⟩ := f'.get (d3 _) (nG _ (by omega))
            obtain ⟨p6, q6⟩ := f'.get (d6 _) (nG _ (by omega))
            obtain ⟨p7, q7⟩ := f'.get (d7 _) (nG _ (by omega))
            refine ⟨Trygo30, .panicking chC, .inr ⟨_, rfl, rfl⟩, (f30_c hx true (.panicking chC) (.inr ⟨rfl, rfl⟩) loc' act' st' true G' HP H.length (H.length + 2) (H.length + 3) _ _ _ p3 p6 p7 (by omega) ⟨q3, q6, q7⟩ w').mono ?_⟩
            rintro u' H' ⟨hset, w2, g2, hcell⟩
            obtain ⟨hr6, hr7⟩ := hcell
            refine ⟨hset, _, (ares_two (.cell 6 41) (.cell 7 38) rfl (ares_cell1 Tryti41 (by decide) (by simp only [jL, jN, seval, vint, ksE_cells, kE_cells, ksE_drop1, kE_drop1, nfF, hr6, hr7] <;> with_reducible rfl)) (ares_cell1 Tryti38 (by decide) (by simp only [jL, jN, seval, vint, ksE_cells, kE_cells, ksE_drop1, kE_drop1, nfF, hr6, hr7] <;> with_reducible rfl))), _, _, rfl, w2, (((f1.trans f2).trans f').more fun id hi => ?_).trans g2⟩
            rcases hi with hi | rfl | rfl
            · exact .inl hi
            · exact .inr (by omega)
            · exact .inr (by omega)
          rintro rv H5 ⟨rec, loc', G5, ho, rfl, w5, f5, _⟩
          subst ho
          obtain ⟨p3, q3⟩ := f5.get (d3 _) (nG _ (by omega))
          obtain ⟨p6, q6⟩ := f5.get (d6 _) (nG _ (by omega))
          obtain ⟨p7, q7⟩ := f5.get (d7 _) (nG _ (by omega))
          obtain ⟨F5, D5, _, _, hG5, _⟩ := id w5
          obtain ⟨⟨tl5, lu5, r5⟩, r5F, _⟩ := D5.recs _ _ ((upd_UOk cx.stpf cx.cp n).res _ _ _ _ _ hm)
          simp only [recC] at r5
          have m7 : ∀ o, (H5.set (H.length + 2) o)[H.length + 3]? = _ := fun o => set_lt p7 (by omega)
          have v6 : (H.length + 2 = H5.length) = False := by have := len_of_get p6; simp; omega
          have v7 : (H.length + 3 = H5.length) = False := by have := len_of_get p7; simp; omega
          refine e_take 3 (by simp only [jA, jO, jN, seval, y41, y84, vint, ksE_cells, kE_cells, ksE_drop1, kE_drop1, nfF, kE, sd, b3, b4, b6, b7, hd1, t10, sc, sj, sd, v1, d3, d4, r5, p6, p7, m7, v6, v7, List.length_set] <;> with_reducible rfl) (by decide) ?_
          refine aops_pure (by simp only [jC, jN, seval, vint, ksE_cells, kE_cells, ksE_drop1, kE_drop1, nfF, kE, sd, b3, b4, b6, b7, hd1, t10, sc, sj, sd, v1, d3, d4, r5, p6, p7, m7, v6, v7, List.length_set] <;> with_reducible rfl) (by simp only [jC, jN, seval, vint, ksE_cells, kE_cells, ksE_drop1, kE_drop1, nfF, kE, sd, b3, b4, b6, b7, hd1, t10, sc, sj, sd, v1, d3, d4, r5, p6, p7, m7, v6, v7, List.length_set]) (by decide) Trygo31 (meClone rec.val.nums rec.val.text (lim8 (hl rec rfl)) _) ?_
          refine e_end (by simp only [jA, jO, jN, seval, y38, y41, vint, ksE_cells, kE_cells, ksE_drop1, kE_drop1, nfF, kE, sd, b3, b4, b6, b7, hd1, t10, sc, sj, sd, v1, d3, d4, r5, p6, p7, m7, v6, v7, List.length_set] <;> with_reducible rfl) (by decide) ?_
          repeat (refine awp_seq ?_)
          refine awpd_ret ?_
          have s3 : ∀ o o2, ((H5.set (H.length + 2) o).set (H.length + 3) o2)[H.length]? = _ := fun o o2 => set_lt (set_lt p3 (by omega)) (by omega)
          have s6 : ∀ o o2, ((H5.set (H.length + 2) o).set (H.length + 3) o2)[H.length + 2]? = some o := fun o o2 => set_lt (List.getElem?_set_self (len_of_get p6)) (by omega)
          have s7 : ∀ o o2, ((H5.set (H.length + 2) o).set (H.length + 3) o2)[H.length + 3]? = some o2 := fun o o2 => List.getElem?_set_self (by simpa using len_of_get p7)
          refine ⟨Trygo30, .returning, .inl ⟨.inr rfl, rfl⟩, (f30_c hx false .returning (.inl ⟨rfl, rfl⟩) loc' [] st' false G5 _ H.length (H.length + 2) (H.length + 3) _ _ _ (s3 _ _) (s6 _ _) (s7 _ _) (by omega) ⟨q3, q6, q7⟩ (w5.fr hx fun id hi => ?_)).mono ?_⟩
          · rw [List.getElem?_set_ne (by rintro rfl; exact q7 hi), List.getElem?_set_ne (by rintro rfl; exact q6 hi)]
          rintro u' H' ⟨hset, w2, g2, hcell⟩
          obtain ⟨hr6, hr7⟩ := hcell
          refine ⟨hset, _, (ares_two (.cell 6 41) (.cell 7 38) rfl (ares_cell1 Tryti41 (by decide) (by simp only [jL, jN, seval, vint, ksE_cells, kE_cells, ksE_drop1, kE_drop1, nfF, hr6, hr7] <;> with_reducible rfl)) (ares_cell1 Tryti38 (by decide) (by simp only [jL, jN, seval, vint, ksE_cells, kE_cells, ksE_drop1, kE_drop1, nfF, hr6, hr7] <;> with_reducible rfl))), _, _, rfl, w2, (((((f1.trans f2).trans f5).new (by omega) _).new (by omega) _).more fun id hi => ?_).trans g2⟩
          rcases hi with hi | rfl | rfl
          · exact .inl hi
          · exact .inr (by omega)
          · exact .inr (by omega)
end Go.Abs
