/- Part 5 of a proof of the law GreentreeReference: Go data as trees, the walks of the functions that the law reaches, the plain laws. -/
import Derived.Test.YtllfdppfagffiaaGDGreentreeReference
import GoSem.ClaimJoined
import Derived.ChangeArms
import Derived.Carry
import Derived.SizedLaws
import Derived.JoinedCond
import Derived.Deep.CondSized
import Derived.JoinedOf
import Derived.KernelRfl
set_option linter.unusedVariables false
set_option linter.unusedSimpArgs false
namespace Go.Abs
/-! Trees of a good arena. -/
def ArV (ns : List Gn) : Prop := ∀ i, i < ns.length → ∀ c ∈ (ns.getD i .zero).ch, 0 ≤ c ∧ c < i
theorem validG_ArV {ns : List Gn} (h : validG 100 ns = 0) : ArV ns := by
  unfold validG at h
  split at h
  · cases h
  · split at h
    · rename_i hv
      intro i hi c hc
      have h1 := List.all_eq_true.1 hv i (List.mem_range.2 hi)
      unfold nodeOk at h1
      simp only [Bool.and_eq_true] at h1
      have h2 := List.all_eq_true.1 h1.1 c hc
      simpa using h2
    · cases h
theorem validG_cases (ns : List Gn) : validG 100 ns = 0 ∨ validG 100 ns = 2 ∨ validG 100 ns = 3 := by
  unfold validG
  split
  · simp
  · split <;> simp
theorem sizN_eq (ns : List Gn) (k : Nat) (i : Int) : sizN ns (k + 1) i = 1 + ((ns.getD i.toNat .zero).ch.map fun c => sizN ns k c).sum := rfl
theorem treN_eq (ns : List Gn) (k : Nat) (i : Int) : treN ns (k + 1) i = .mk (ns.getD i.toNat .zero).kind (ns.getD i.toNat .zero).text ((ns.getD i.toNat .zero).ch.map fun c => treN ns k c) := rfl
theorem bldN_eq (ns : List Gn) (k : Nat) (i l : Int) : bldN ns (k + 1) i l = (.mk (ns.getD i.toNat .zero).kind (ns.getD i.toNat .zero).text (bldL ((ns.getD i.toNat .zero).ch.map fun c => bldN ns k c) ([], l - 1)).1, (bldL ((ns.getD i.toNat .zero).ch.map fun c => bldN ns k c) ([], l - 1)).2) := rfl
theorem sizN_fuel {ns : List Gn} (hv : ArV ns) : ∀ (k : Nat) (m : Nat) (c : Int), 0 ≤ c → c < k → c < m → c < ns.length → sizN ns k c = sizN ns m c
  | 0, m, c, h0, h1, _, _ => by omega
  | k + 1, 0, c, h0, _, h2, _ => by omega
  | k + 1, m + 1, c, h0, h1, h2, h3 => by
    rw [sizN_eq, sizN_eq]
    congr 2
    refine List.map_congr_left fun d hd => ?_
    have hcl : c.toNat < ns.length := by omega
    have := hv c.toNat hcl d hd
    exact sizN_fuel hv k m d this.1 (by omega) (by omega) (by omega)
theorem stSizes_sum : ∀ (l : List St), stSizes l = (l.map St.size).sum
  | [] => rfl
  | a :: l => by rw [stSizes, List.map_cons, List.sum_cons, stSizes_sum l]
theorem treN_size (ns : List Gn) : ∀ (k : Nat) (i : Int), (treN ns k i).size = sizN ns k i
  | 0, i => by simp [treN, sizN, St.zero, St.size, stSizes]
  | k + 1, i => by
    rw [treN_eq, sizN_eq]
    simp only [St.size, stSizes_sum, List.map_map]
    congr 2
    exact List.map_congr_left fun c _ => treN_size ns k c
theorem sizN_pos (ns : List Gn) (k : Nat) (i : Int) : 1 ≤ sizN ns k i := by
  cases k with
  | zero => exact Nat.le_refl _
  | succ k => rw [sizN_eq]; omega
theorem sum_mem {α : Type} (f : α → Nat) {l : List α} {a : α} (h : a ∈ l) : f a ≤ (l.map f).sum := by
  induction l with
  | nil => cases h
  | cons b l ih =>
    rw [List.map_cons, List.sum_cons]
    rcases List.mem_cons.1 h with rfl | h
    · omega
    · have := ih h; omega
theorem sum_len {α : Type} (f : α → Nat) (l : List α) (h : ∀ a ∈ l, 1 ≤ f a) : l.length ≤ (l.map f).sum := by
  induction l with
  | nil => simp
  | cons b l ih =>
    rw [List.map_cons, List.sum_cons, List.length_cons]
    have := ih (fun a ha => h a (List.mem_cons_of_mem _ ha))
    have := h b (List.mem_cons_self ..)
    omega
theorem sizN_ch {ns : List Gn} {k : Nat} {i : Int} {n : Gn} (hn : ns.getD i.toNat .zero = n) (h : sizN ns (k + 1) i ≤ 4000) : n.ch.length < 4000 ∧ ∀ c ∈ n.ch, sizN ns k c ≤ 4000 := by
  rw [sizN_eq, hn] at h
  have h1 := sum_len (fun c => sizN ns k c) n.ch (fun c _ => sizN_pos ns k c)
  refine ⟨by omega, fun c hc => ?_⟩
  have := sum_mem (fun c => sizN ns k c) hc
  omega
theorem bldL_take {f : Int → Int → St × Int} {cs : List Int} {j : Nat} (hj : j < cs.length) (s : List St × Int) : bldL ((cs.take (j + 1)).map f) s =
    if (bldL ((cs.take j).map f) s).2 ≥ 0 then ((bldL ((cs.take j).map f) s).1 ++ [(f cs[j] (bldL ((cs.take j).map f) s).2).1], (f cs[j] (bldL ((cs.take j).map f) s).2).2) else bldL ((cs.take j).map f) s := by
  rw [List.take_succ_eq_append_getElem hj, List.map_append, List.map_singleton, bldL_snoc]
theorem capL_take {sz cs : List Int} {j : Nat} (hj : j < cs.length) (s : Int) : capL sz (cs.take (j + 1)) s = min (capL sz (cs.take j) s + sz.getD cs[j].toNat 0) 4001 := by
  unfold capL
  rw [List.take_succ_eq_append_getElem hj, List.foldl_append]; rfl
/-- The sizes of the places so far. -/
structure SzOk (ns : List Gn) (i : Nat) (sz : List Int) : Prop where
  len : sz.length = ns.length
  el : ∀ j, j < i → sz.getD j 0 = min (sizN ns (j + 1) (j : Nat) : Int) 4001
theorem SzOk.step {ns : List Gn} (hv : ArV ns) {i : Nat} (hi : i < ns.length) {sz : List Int} (h : SzOk ns i sz) {n : Gn} (hn : ns.getD i .zero = n) {s : Int} (hs : s = capL sz n.ch 1) : SzOk ns (i + 1) (sz.set i s) := by
  refine ⟨by rw [List.length_set]; exact h.len, fun j hj => ?_⟩
  have hl := h.len
  by_cases e : j = i
  · subst e
    rw [List.getD_eq_getElem?_getD, List.getElem?_set_self (by omega), Option.getD_some, hs]
    have key := capL_sum (fun c => sizN ns j c) sz n.ch 1 (fun c hc => by
      have hc2 := hv j hi c (by rw [hn]; exact hc)
      have h1 := h.el c.toNat (by omega)
      rw [h1]
      have hcc : ((c.toNat : Nat) : Int) = c := by omega
      rw [hcc, sizN_fuel hv (c.toNat + 1) j c hc2.1 (by omega) (by omega) (by omega)])
    rw [sizN_eq, show ((j : Nat) : Int).toNat = j from rfl, hn]
    have e1 : min ((1 : Nat) : Int) 4001 = 1 := by decide
    rw [e1] at key
    simpa using key
  · rw [List.getD_eq_getElem?_getD, List.getElem?_set_ne (Ne.symm e), ← List.getD_eq_getElem?_getD]
    exact h.el j (by omega)
/-- What 'Tree' answers. -/
def treR (ns : List Gn) (i : Int) : St × Int :=
  if validG 100 ns = 0 then (if i < 0 ∨ i ≥ ns.length then (.zero, 5) else if (bldN ns (i.toNat + 1) i 4000).2 < 0 then (.zero, 2) else ((bldN ns (i.toNat + 1) i 4000).1, 0)) else (.zero, validG 100 ns)
theorem treR_bad {ns : List Gn} {i : Int} (h : validG 100 ns ≠ 0) : treR ns i = (.zero, validG 100 ns) := if_neg h
theorem treR_out {ns : List Gn} {i : Int} (h : validG 100 ns = 0) (hi : i < 0 ∨ i ≥ ns.length) : treR ns i = (.zero, 5) := by unfold treR; rw [if_pos h, if_pos hi]
theorem treR_in {ns : List Gn} {i : Int} (h : validG 100 ns = 0) (hi : ¬ (i < 0 ∨ i ≥ ns.length)) : treR ns i = if (bldN ns (i.toNat + 1) i 4000).2 < 0 then (.zero, 2) else ((bldN ns (i.toNat + 1) i 4000).1, 0) := by unfold treR; rw [if_pos h, if_neg hi]
theorem treR_big {ns : List Gn} {i : Int} (h : validG 100 ns = 0) (hi : ¬ (i < 0 ∨ i ≥ ns.length)) (hs : sizN ns (i.toNat + 1) i > 4000) : treR ns i = (.zero, 2) := by
  rw [treR_in h hi, if_pos]
  have := (bldN_spec ns (i.toNat + 1) i 4000 (by omega)).2.2.2 (by omega)
  omega
theorem treR_ok {ns : List Gn} {i : Int} (h : validG 100 ns = 0) (hi : ¬ (i < 0 ∨ i ≥ ns.length)) (hs : sizN ns (i.toNat + 1) i ≤ 4000) : treR ns i = (treN ns (i.toNat + 1) i, 0) := by
  have := (bldN_spec ns (i.toNat + 1) i 4000 (by omega)).2.2.1 (by omega)
  rw [treR_in h hi, this, if_neg]
  simp only; omega
end Go.Abs
set_option maxRecDepth 4000
namespace Go.Abs
open Go.Proofs

theorem bld_k (ns : List Gn) (hW : ∀ n ∈ ns, n.W) (hv : ArV ns) : ∀ (k : Nat) (i l : Int) (il : Nat), 0 ≤ i → i < k → i < ns.length → 0 ≤ l → l ≤ 4000 → ∀ H : Heap, il < H.length → ACalls Try.prog 24 [(Ga.mk ns).enc, vint i, .optr il 0] (gH H il (.row [vint l])) fun r' H' => r' = (bldN ns k i l).1.enc ∧ H' = gH H il (.row [vint (bldN ns k i l).2])
  | 0, i, l, il, h0, h1, _, _, _, _, _ => by omega
  | k + 1, i, l, il, hi0, hik, hil, hl0, hl1, H, hiH => by
    have MH := gH_rules hiH
    have em : maxLen = 9223372036854775807 := by decide
    obtain ⟨g5, _⟩ := wd_get (ns := ns) hi0 hil
    have g7 : ((0 : Int) ≤ i ∧ i < ns.length) = True := by simp; omega
    have hvi := hv i.toNat (by omega)
    obtain ⟨n, hn⟩ : ∃ n, ns.getD i.toNat .zero = n := ⟨_, rfl⟩
    have hnW : n.W := by rw [← hn, List.getD_eq_getElem?_getD, List.getElem?_eq_getElem (by omega)]; exact hW _ (List.getElem_mem _)
    rw [hn] at g5 hvi
    rw [bldN_eq, hn]
    have w1 : IntKind.i64.wrap (l - 1) = l - 1 := wrap_id (by omega) (by omega)
    refine muts_of (N := 48) Try.func24 rfl rfl (by simp) (St.bel _ _) (by simp only [gH_len]) (fun hb => by rw [gH_len] at hb ⊢; exact gH_bel hb hiH (obel_row_cons (.int _ _) (obel_row_nil _))) fun hb' => ?_
    rw [gH_len]
    rw [gH_len] at hb'
    repeat (refine awp_seq ?_)
    refine e_eval (by simp only [jA, jO, jN, seval, y24, y27, vint, qF, MH, List.append_assoc, List.cons_append, List.nil_append] <;> with_reducible rfl) (by decide) ?_
    repeat (refine awp_seq ?_)
    refine e_eval (by simp only [jA, jO, jN, seval, y3, vint, qF, MH, List.append_assoc, List.cons_append, List.nil_append, w1] <;> with_reducible rfl) (by decide) ?_
    repeat (refine awp_seq ?_)
    refine e_eval (by simp only [jA, jO, jN, seval, y22, y24, y48, vint, qF, MH, List.append_assoc, List.cons_append, List.nil_append, g5, g7] <;> with_reducible rfl) (by decide) ?_
    repeat (refine awp_seq ?_)
    refine e_eval (by simp only [jA, jO, jN, seval, y3, y9, y27, y48, vint, qF, MH, List.append_assoc, List.cons_append, List.nil_append] <;> with_reducible rfl) (by decide) ?_
    refine awp_sel [2, 3, 6, 7, 8] (by simp only [jN, seval, vint, qF, MH, List.append_assoc, List.cons_append, List.nil_append] <;> with_reducible rfl) ?_
    repeat (refine awp_seq ?_)
    refine e_eval (by simp only [jA, jO, jN, seval, y3, y46, y48, vint, qF, MH, List.append_assoc, List.cons_append, List.nil_append] <;> with_reducible rfl) (by decide) ?_
    repeat (refine awp_seq ?_)
    refine awp_retok_row (H.length + 3) 2 3 (by simp only [jD, jO, jN, seval, vint, qF, MH] <;> with_reducible rfl) rfl ?_
    refine awp_forS (σ := List St × Int) (n.ch.length) (fun (q : List St × Int) => [(2, .optr il 0), (3, .optr H.length 0), (6, .optr (H.length + 1) 0), (8, .optr (H.length + 3) 0), (27, .slice (n.ch.map vint) .none)]) [2, 3, 6, 8, 27] ([]) (fun (q : List St × Int) => gH H il (.row [vint q.2]) ++ [.row [.slice (ns.map Gn.enc) .none], .row [.int .i64 0, .str [], .slice [] .full], .row n.enc.cells, .row [.int .i64 n.kind, .str n.text, .slice (q.1.map St.enc) (.tok (H.length + 4))], .buf q.1.length 3]) (fun (j : Nat) (q : List St × Int) => q = bldL ((n.ch.take j).map fun c => bldN ns k c) ([], l - 1) ∧ -1 ≤ q.2 ∧ (q.1.length : Int) + q.2 ≤ 4000) (([], l - 1)) ([]) rfl rfl rfl rfl rfl rfl rfl rfl rfl (by decide) (by decide) (by decide) (fun _ => rfl) (hnW.max_ch) ⟨(by first | rfl | (simp only [jN, seval, vint, qF, MH, List.append_assoc, List.cons_append, List.nil_append] <;> first | done | with_reducible rfl)), (by first | rfl | (simp only [jN, seval, vint, qF, MH, List.append_assoc, List.cons_append, List.nil_append] <;> first | done | with_reducible rfl)), (by first | rfl | (simp only [jN, seval, vint, qF, MH, List.append_assoc, List.cons_append, List.nil_append] <;> first | done | with_reducible rfl)), (by first | rfl | (simp only [jN, seval, vint, qF, MH, List.append_assoc, List.cons_append, List.nil_append] <;> first | done | with_reducible rfl)), (by first | rfl | (simp only [jN, seval, vint, qF, MH, List.append_assoc, List.cons_append, List.nil_append] <;> first | done | with_reducible rfl)), (by first | rfl | (simp only [jN, seval, vint, qF, MH, List.append_assoc, List.cons_append, List.nil_append] <;> first | done | with_reducible rfl)), (by first | rfl | (simp only [jN, seval, vint, qF, MH, List.append_assoc, List.cons_append, List.nil_append] <;> first | done | with_reducible rfl)), trivial⟩ (by first | rfl | (simp only [jN, seval, vint, qF, MH, List.append_assoc, List.cons_append, List.nil_append] <;> first | done | with_reducible rfl)) (⟨by simp [bldL], by simp; omega, by simp; omega⟩) (fun j q hg => by simp only [List.nil_append, List.length_append, gH_len]; omega) ?_ ?_ ?_
    · intro j q hg
      refine ⟨?_, by repeat (first | exact BelL.nil | refine BelL.cons (by first | exact Bel.optr _ _ (by simp only [List.length_append, List.length_cons, List.length_nil, gH_len]; omega) | exact bel_St_tok _ (by simp only [List.length_append, List.length_cons, List.length_nil, gH_len]; omega) | exact bel_ints0 _ _ | exact bel_St _ _ | exact St.bel _ _ | exact bel_Gn _ _ | exact Gn.bel _ _ | exact Ga.bel _ _ | exact bel_Gn_tok _ (by simp) | exact bel_St_tok _ (by simp) | exact bel_int_tok _ (by simp) | exact bel_nil0 _ | exact bel_nil1 _ | exact Bel.int _ _ | exact Bel.bool _ | exact Bel.str _ | exact Bel.nilp | exact Bel.nilfn | exact Bel.optr _ _ (by simp) | exact bel_nil0 _ | exact bel_nil1 _ | exact bel_fn0 _ _ | assumption) ?_)⟩
      simp only [List.nil_append, GnS]
      refine hbel_app' (gH_bel hb' hiH (obel_row_cons (.int _ _) (obel_row_nil _))) (by simp [gH_len]) ?_
      repeat (first | exact hbel_nil _ | exact trivial | exact obel_row_nil _ | (refine HBel.cons ?_ ?_) | (refine obel_row_cons (by first | exact Bel.optr _ _ (by simp only [List.length_append, List.length_cons, List.length_nil, gH_len]; omega) | exact bel_St_tok _ (by simp only [List.length_append, List.length_cons, List.length_nil, gH_len]; omega) | exact bel_ints0 _ _ | exact bel_St _ _ | exact St.bel _ _ | exact bel_Gn _ _ | exact Gn.bel _ _ | exact Ga.bel _ _ | exact bel_Gn_tok _ (by simp) | exact bel_St_tok _ (by simp) | exact bel_int_tok _ (by simp) | exact bel_nil0 _ | exact bel_nil1 _ | exact Bel.int _ _ | exact Bel.bool _ | exact Bel.str _ | exact Bel.nilp | exact Bel.nilfn | exact Bel.optr _ _ (by simp) | exact bel_nil0 _ | exact bel_nil1 _ | exact bel_fn0 _ _ | assumption) ?_))
    · intro j q hj hg
      have g1 := ix_nat hj
      have g2 := get_enc vint hj
      have htk := bldL_take (f := fun c => bldN ns k c) hj ([], l - 1)
      rw [← hg.1] at htk
      have hci := hvi n.ch[j] (List.getElem_mem hj)
      obtain ⟨c, hce⟩ : ∃ c, n.ch[j] = c := ⟨_, rfl⟩
      rw [hce] at g2 htk hci
      have hap := fun u : St => app_St (us := q.1) (u := u) (id := H.length + 4) (tl := .full) (by omega)
      repeat (refine awp_seq ?_)
      refine e_eval (by simp only [jA, jO, jN, seval, y3, y46, vint, qF, MH, List.append_assoc, List.cons_append, List.nil_append, g1, g2, Int.toNat_natCast] <;> with_reducible rfl) (by decide) ?_
      repeat (refine awp_seq ?_)
      refine e_eval (by simp only [jA, jO, jN, seval, y3, vint, qF, MH, List.append_assoc, List.cons_append, List.nil_append, g1, g2, Int.toNat_natCast] <;> with_reducible rfl) (by decide) ?_
      repeat (refine awp_seq ?_)
      refine awp_cond rfl (by simp only [jN, seval, vint, qF, MH, List.append_assoc, List.cons_append, List.nil_append, g1, g2, Int.toNat_natCast] <;> with_reducible rfl) (fun bt36 => ?_) (fun bt36 => ?_)
      ·
        have hq0 : q.2 ≥ 0 := by simpa using bt36
        rw [if_pos hq0] at htk
        have hsp := bldN_spec ns k c q.2 hq0
        repeat (refine awp_seq ?_)
        refine x_draw 0 (n0 := H.length + 5) (by first | rfl | (simp only [List.length_append, List.length_cons, List.length_nil, Nat.reduceAdd, Nat.zero_add, MH, List.append_assoc, List.cons_append, List.nil_append, g1, g2, Int.toNat_natCast, hap]; done)) (by kernel_rfl) ?_
        refine x_mid (by first | (simp only [LS, HS, List.append_assoc, List.cons_append, List.nil_append, MH, List.append_assoc, List.cons_append, List.nil_append, g1, g2, Int.toNat_natCast, hap] <;> with_reducible rfl) | rfl) ?_
        refine x2_take 5 (bm := [0, 1, 0, 0, 0, 28, 60, 127, 255, 511]) (fresh := (H.length + 5)) (by kernel_rfl) (by simp only [jX, jO, jN, seval, y24, y25, y27, vint, qF, MH, List.append_assoc, List.cons_append, List.nil_append, g1, g2, Int.toNat_natCast, hap] <;> with_reducible rfl) (by decide) (by decide) ?_
        refine x2_fx (bm := [0, 1, 0, 0, 0, 28, 60, 127, 255, 511]) [il] il (.row [vint (bldN ns k c q.2).2]) (by kernel_rfl) (by simp only [jE, jN, seval, vint, qF, MH, List.append_assoc, List.cons_append, List.nil_append, g1, g2, Int.toNat_natCast, hap] <;> with_reducible rfl) (by simp only [jE, jN, seval, vint, qF, MH, List.append_assoc, List.cons_append, List.nil_append, g1, g2, Int.toNat_natCast, hap] <;> with_reducible rfl) (by simp only [jE, jN, seval, vint, qF, MH, List.append_assoc, List.cons_append, List.nil_append, g1, g2, Int.toNat_natCast, hap]) (by decide) Trygo24 (fun H' hr _ => gH_set (fun H hH => bld_k ns hW hv k c q.2 il hci.1 (by omega) (by omega) hq0 (by omega) H hH) H' (by have := hr il (by simp); simp only [MH] at this; exact this)) (by simp) (by simp only [jX, jO, jN, seval, vint, qF, MH, List.append_assoc, List.cons_append, List.nil_append, g1, g2, Int.toNat_natCast, hap] <;> first | done | rfl) (by simp only [jX, jO, jN, seval, vint, qF, MH, List.append_assoc, List.cons_append, List.nil_append, g1, g2, Int.toNat_natCast, hap] <;> first | done | rfl) (by simp only [jX, jO, jN, seval, vint, qF, MH, List.append_assoc, List.cons_append, List.nil_append, g1, g2, Int.toNat_natCast, hap] <;> with_reducible rfl) ?_
        refine x2_end (bm := [0, 1, 0, 0, 0, 28, 60, 127, 255, 511]) (fresh := (H.length + 5)) (by kernel_rfl) (by simp only [jX, jO, jN, seval, y25, y27, vint, qF, MH, List.append_assoc, List.cons_append, List.nil_append, g1, g2, Int.toNat_natCast, hap] <;> with_reducible rfl) (by decide) (by repeat (first | exact Fin.base _ | with_reducible apply Fin.keep | apply Fin.drop)) ?_
        exact ⟨⟨rfl, rfl, trivial⟩, (q.1 ++ [(bldN ns k c q.2).1], (bldN ns k c q.2).2), _, ⟨rfl, rfl, rfl, rfl, rfl, trivial⟩, by simp only [jN, seval, vint, qF, MH, List.length_append, List.length_singleton, List.append_assoc, List.cons_append, List.nil_append] <;> rfl, htk.symm, hsp.1, by simp only [List.length_append, List.length_singleton]; push_cast; omega⟩
      ·
        have hq0 : ¬ q.2 ≥ 0 := by simpa using bt36
        rw [if_neg hq0] at htk
        repeat (refine awp_seq ?_)
        refine awp_skip ?_
        exact ⟨⟨rfl, rfl, trivial⟩, q, _, ⟨rfl, rfl, rfl, rfl, rfl, trivial⟩, by simp only [jN, seval, vint, qF, MH, List.append_assoc, List.cons_append, List.nil_append] <;> rfl, htk.symm, hg.2⟩
    · intro q hg
      rw [List.take_length] at hg
      rw [← hg.1]
      repeat (refine awp_seq ?_)
      refine e_eval (by simp only [jA, jO, jN, seval, y27, vint, qF, MH, List.append_assoc, List.cons_append, List.nil_append] <;> with_reducible rfl) (by decide) ?_
      repeat (refine awp_seq ?_)
      refine awp_ret ⟨.inr rfl, _, _, (ares_cell 6 27 rfl Tryti27 (by decide) (by simp only [jL, jN, seval, vint, qF, MH, List.append_assoc, List.cons_append, List.nil_append] <;> with_reducible rfl)), ?_, rfl⟩
      first | exact St.enc_drop1 _ | (simp only [jN, seval, vint, qF] <;> rfl)

end Go.Abs
set_option maxRecDepth 4000
namespace Go.Abs
open Go.Proofs

theorem gTree (ns : List Gn) (hns : NsW ns) (hl : ns.length ≤ 60) (i : Int) : PC Try.prog 10 [(Ga.mk ns).enc, vint i] (.tup [(treR ns i).1.enc, vint (treR ns i).2]) := by
  have em : maxLen = 9223372036854775807 := by decide
  refine pc_of (N := 32) Try.func10 rfl rfl (by simp) (by simp [St.bel, Gn.bel, Ga.bel, bel_St, bel_Gn, bel_ints0, Bel.int]) (.tup _ (by simp [St.bel, Bel.int])) ?_
  repeat (refine awp_seq ?_)
  refine e_eval (by simp only [jA, jO, jN, seval, y24, y27, vint, qF] <;> with_reducible rfl) (by decide) ?_
  repeat (refine awp_seq ?_)
  refine awp_region ?_
  refine e_take 1 (by simp only [jA, jO, jN, seval, y24, vint, qF] <;> with_reducible rfl) (by decide) ?_
  refine aops_pure (by simp only [jC, jN, seval, vint, qF] <;> with_reducible rfl) (by simp only [jC, jN, seval, vint, qF]) (by decide) Trygo8 (gvalidate ns (by omega) (fun _ => hns) _) ?_
  refine e_end (by simp only [jA, jO, jN, seval, vint, qF] <;> with_reducible rfl) (by decide) ?_
  repeat (refine awp_seq ?_)
  refine e_eval (by simp only [jA, jO, jN, seval, y31, vint, qF] <;> with_reducible rfl) (by decide) ?_
  repeat (refine awp_seq ?_)
  refine awp_cond rfl (by simp only [jN, seval, vint, qF] <;> with_reducible rfl) (fun bt12 => ?_) (fun bt12 => ?_)
  ·
    rw [treR_bad (by simpa using bt12)]
    have hz : St.zero.enc = .agg [.int .i64 0, .str [], .slice [] .none] := by rw [St.enc_eq]; rfl
    repeat (refine awp_seq ?_)
    refine e_eval (by simp only [jA, jO, jN, seval, y27, vint, qF] <;> with_reducible rfl) (by decide) ?_
    repeat (refine awp_seq ?_)
    refine awp_ret ⟨.inr rfl, _, (ares_two (.cell 4 27) (.tmp 5) rfl (ares_cell1 Tryti27 (by decide) (by simp only [jL, jN, seval, vint, qF] <;> with_reducible rfl)) (ares_tmp1 (by decide))), ?_⟩
    simp only [jN, seval, vint, qF, hz]
  ·
    have hv0 : validG 100 ns = 0 := by simpa using bt12
    have hv := validG_ArV hv0
    have hz : St.zero.enc = .agg [.int .i64 0, .str [], .slice [] .none] := by rw [St.enc_eq]; rfl
    repeat (refine awp_seq ?_)
    refine awp_skip ?_
    repeat (refine awp_seq ?_)
    refine g_eval (by simp only [jG, jO, jN, seval, y3, y22, y24, y48, vint, qF] <;> with_reducible rfl) (by decide) (by repeat (first | exact Fin.base _ | with_reducible apply Fin.keep | apply Fin.drop)) ?_
    repeat (refine awp_seq ?_)
    refine awp_cond rfl (by simp only [jN, seval, vint, qF] <;> with_reducible rfl) (fun bt23 => ?_) (fun bt23 => ?_)
    ·
      rw [treR_out hv0 (by simp only [Bool.or_eq_true, decide_eq_true_eq] at bt23; omega)]
      refine awp_sel [4] (by simp only [jN, seval, vint, qF] <;> with_reducible rfl) ?_
      repeat (refine awp_seq ?_)
      refine e_eval (by simp only [jA, jO, jN, seval, y27, vint, qF] <;> with_reducible rfl) (by decide) ?_
      repeat (refine awp_seq ?_)
      refine awp_ret ⟨.inr rfl, _, (ares_two (.cell 4 27) (.tmp 5) rfl (ares_cell1 Tryti27 (by decide) (by simp only [jL, jN, seval, vint, qF] <;> with_reducible rfl)) (ares_tmp1 (by decide))), ?_⟩
      simp only [jN, seval, vint, qF, hz]
    ·
      have hin : ¬ (i < 0 ∨ i ≥ ns.length) := by simp only [Bool.or_eq_false_iff, decide_eq_false_iff_not] at bt23; omega
      rw [treR_in hv0 hin]
      repeat (refine awp_seq ?_)
      refine awp_skip ?_
      refine awp_sel [1, 2, 4] (by simp only [jN, seval, vint, qF] <;> with_reducible rfl) ?_
      repeat (refine awp_seq ?_)
      refine e_eval (by simp only [jA, jO, jN, seval, y3, vint, qF] <;> with_reducible rfl) (by decide) ?_
      repeat (refine awp_seq ?_)
      refine awp_region ?_
      refine e_take 2 (by simp only [jA, jO, jN, seval, y24, vint, qF] <;> with_reducible rfl) (by decide) ?_
      refine aops_acall (by simp only [jC, jN, seval, vint, qF] <;> with_reducible rfl) (by simp only [jC, jN, seval, vint, qF]) (by decide) Trygo24 (gH_set (fun H hH => bld_k ns hns.el hv (i.toNat + 1) i 4000 2 (by omega) (by omega) (by omega) (by omega) (by omega) H hH) _ rfl) ?_
      rintro _ _ ⟨rfl, rfl⟩
      refine e_end (by simp only [jA, jO, jN, seval, y27, vint, qF] <;> with_reducible rfl) (by decide) ?_
      repeat (refine awp_seq ?_)
      refine e_eval (by simp only [jA, jO, jN, seval, y3, vint, qF] <;> with_reducible rfl) (by decide) ?_
      repeat (refine awp_seq ?_)
      refine awp_cond rfl (by simp only [jN, seval, vint, qF] <;> with_reducible rfl) (fun bt29 => ?_) (fun bt29 => ?_)
      ·
        rw [if_pos (by simpa using bt29)]
        repeat (refine awp_seq ?_)
        refine e_eval (by simp only [jA, jO, jN, seval, y27, vint, qF] <;> with_reducible rfl) (by decide) ?_
        repeat (refine awp_seq ?_)
        refine awp_ret ⟨.inr rfl, _, (ares_two (.cell 4 27) (.tmp 5) rfl (ares_cell1 Tryti27 (by decide) (by simp only [jL, jN, seval, vint, qF] <;> with_reducible rfl)) (ares_tmp1 (by decide))), ?_⟩
        simp only [jN, seval, vint, qF, hz]
      ·
        rw [if_neg (by simpa using bt29)]
        repeat (refine awp_seq ?_)
        refine awp_skip ?_
        repeat (refine awp_seq ?_)
        refine e_eval (by simp only [jA, jO, jN, seval, y27, vint, qF] <;> with_reducible rfl) (by decide) ?_
        repeat (refine awp_seq ?_)
        refine awp_ret ⟨.inr rfl, _, (ares_two (.cell 4 27) (.tmp 5) rfl (ares_cell1 Tryti27 (by decide) (by simp only [jL, jN, seval, vint, qF] <;> with_reducible rfl)) (ares_tmp1 (by decide))), ?_⟩
        simp only [jN, seval, vint, qF, St.enc_drop1]

theorem arTree_k (ns : List Gn) (hW : ∀ n ∈ ns, n.W) (hv : ArV ns) : ∀ (k : Nat) (i : Int), 0 ≤ i → i < k → i < ns.length → sizN ns k i ≤ 4000 → PC Try.prog 16 [(Ga.mk ns).enc, vint i] (treN ns k i).enc
  | 0, i, h0, h1, _, _ => by omega
  | k + 1, i, hi0, hik, hil, hsz => by
    have em : maxLen = 9223372036854775807 := by decide
    obtain ⟨g5, _⟩ := wd_get (ns := ns) hi0 hil
    have g7 : ((0 : Int) ≤ i ∧ i < ns.length) = True := by simp; omega
    have hvi := hv i.toNat (by omega)
    obtain ⟨n, hn⟩ : ∃ n, ns.getD i.toNat .zero = n := ⟨_, rfl⟩
    have hnW : n.W := by rw [← hn, List.getD_eq_getElem?_getD, List.getElem?_eq_getElem (by omega)]; exact hW _ (List.getElem_mem _)
    rw [hn] at g5 hvi
    obtain ⟨hcl, hcs⟩ := sizN_ch hn hsz
    rw [treN_eq, hn]
    refine pc_of (N := 36) Try.func16 rfl rfl (by simp) (by simp [St.bel, Gn.bel, Ga.bel, bel_St, bel_Gn, bel_ints0, Bel.int]) (St.bel _ _) ?_
    repeat (refine awp_seq ?_)
    refine e_eval (by simp only [jA, jO, jN, seval, y24, y27, vint, qF] <;> with_reducible rfl) (by decide) ?_
    repeat (refine awp_seq ?_)
    refine e_eval (by simp only [jA, jO, jN, seval, y22, y24, y48, vint, qF, g5, g7] <;> with_reducible rfl) (by decide) ?_
    repeat (refine awp_seq ?_)
    refine e_eval (by simp only [jA, jO, jN, seval, y3, y9, y27, y48, vint, qF] <;> with_reducible rfl) (by decide) ?_
    repeat (refine awp_seq ?_)
    refine e_eval (by simp only [jA, jO, jN, seval, y3, y46, y48, vint, qF] <;> with_reducible rfl) (by decide) ?_
    repeat (refine awp_seq ?_)
    refine awp_retok_row 3 2 3 rfl rfl ?_
    refine awp_forS (σ := List St) (n.ch.length) (fun (q : List St) => [(2, .optr 0 0), (4, .optr 1 0), (6, .optr 3 0), (20, .slice (n.ch.map vint) .none)]) [2, 4, 6, 20] ([]) (fun (q : List St) => [.row [.slice (ns.map Gn.enc) .none], .row [.int .i64 0, .str [], .slice [] .full], .row n.enc.cells, .row [.int .i64 n.kind, .str n.text, .slice (q.map St.enc) (.tok 4)], .buf q.length 3]) (fun (j : Nat) (q : List St) => q = (n.ch.take j).map fun c => treN ns k c) ([]) ([]) rfl rfl rfl rfl rfl rfl rfl rfl rfl (by decide) (by decide) (by decide) (fun _ => rfl) (hnW.max_ch) ⟨(by first | rfl | (simp only [jN, seval, vint, qF] <;> first | done | with_reducible rfl)), (by first | rfl | (simp only [jN, seval, vint, qF] <;> first | done | with_reducible rfl)), (by first | rfl | (simp only [jN, seval, vint, qF] <;> first | done | with_reducible rfl)), (by first | rfl | (simp only [jN, seval, vint, qF] <;> first | done | with_reducible rfl)), (by first | rfl | (simp only [jN, seval, vint, qF] <;> first | done | with_reducible rfl)), (by first | rfl | (simp only [jN, seval, vint, qF] <;> first | done | with_reducible rfl)), trivial⟩ (by first | rfl | (simp only [jN, seval, vint, qF] <;> first | done | with_reducible rfl)) (by simp) (fun _ _ _ => by first | exact Nat.zero_le _ | (simp only [List.length_append]; omega)) ?_ ?_ ?_
    · intro j q hg
      refine ⟨?_, by repeat (first | exact BelL.nil | refine BelL.cons (by first | exact bel_ints0 _ _ | exact bel_St _ _ | exact St.bel _ _ | exact bel_Gn _ _ | exact Gn.bel _ _ | exact Ga.bel _ _ | exact bel_Gn_tok _ (by simp) | exact bel_St_tok _ (by simp) | exact bel_int_tok _ (by simp) | exact bel_nil0 _ | exact bel_nil1 _ | exact Bel.int _ _ | exact Bel.bool _ | exact Bel.str _ | exact Bel.nilp | exact Bel.nilfn | exact Bel.optr _ _ (by simp) | exact bel_nil0 _ | exact bel_nil1 _ | exact bel_fn0 _ _ | assumption) ?_)⟩
      simp only [List.nil_append, GnS]
      repeat (first | exact hbel_nil _ | exact trivial | exact obel_row_nil _ | (refine HBel.cons ?_ ?_) | (refine obel_row_cons (by first | exact bel_ints0 _ _ | exact bel_St _ _ | exact St.bel _ _ | exact bel_Gn _ _ | exact Gn.bel _ _ | exact Ga.bel _ _ | exact bel_Gn_tok _ (by simp) | exact bel_St_tok _ (by simp) | exact bel_int_tok _ (by simp) | exact bel_nil0 _ | exact bel_nil1 _ | exact Bel.int _ _ | exact Bel.bool _ | exact Bel.str _ | exact Bel.nilp | exact Bel.nilfn | exact Bel.optr _ _ (by simp) | exact bel_nil0 _ | exact bel_nil1 _ | exact bel_fn0 _ _ | assumption) ?_))
    · intro j q hj hg
      have g1 := ix_nat hj
      have g2 := get_enc vint hj
      have htk := map_take_succ (fun c => treN ns k c) hj
      rw [← hg] at htk
      have hci := hvi n.ch[j] (List.getElem_mem hj)
      have hcz := hcs n.ch[j] (List.getElem_mem hj)
      have hql : q.length ≤ n.ch.length := by rw [hg, List.length_map, List.length_take]; omega
      obtain ⟨c, hce⟩ : ∃ c, n.ch[j] = c := ⟨_, rfl⟩
      rw [hce] at g2 htk hci hcz
      have hap := app_St (us := q) (u := treN ns k c) (id := 4) (tl := .full) (by omega)
      repeat (refine awp_seq ?_)
      refine e_eval (by simp only [jA, jO, jN, seval, y3, y46, vint, qF, g1, g2, Int.toNat_natCast] <;> with_reducible rfl) (by decide) ?_
      repeat (refine awp_seq ?_)
      refine x_draw 0 rfl (by kernel_rfl) ?_
      refine x1_take 4 rfl (by simp only [jP, jO, jN, seval, y24, y25, y27, vint, qF, g1, g2, Int.toNat_natCast, hap] <;> with_reducible rfl) (by decide) (by decide) (by decide) ?_
      refine x1_keep rfl (by simp only [jE, jN, seval, vint, qF, g1, g2, Int.toNat_natCast, hap] <;> with_reducible rfl) (by simp only [jE, jN, seval, vint, qF, g1, g2, Int.toNat_natCast, hap] <;> with_reducible rfl) (by simp only [jE, jN, seval, vint, qF, g1, g2, Int.toNat_natCast, hap]) (by decide) Trygo16 (fun hc L => arTree_k ns hW hv k c hci.1 (by omega) (by omega) hcz _) ?_
      refine x1_take 1 rfl (by simp only [jP, jO, jN, seval, y25, y27, vint, qF, g1, g2, Int.toNat_natCast, hap] <;> with_reducible rfl) (by decide) (by decide) (by decide) ?_
      refine x_mid (by first | (simp only [LS, HS, List.append_assoc, List.cons_append, List.nil_append, g1, g2, Int.toNat_natCast, hap] <;> with_reducible rfl) | rfl) ?_
      refine x2_end (bm := [0, 1, 0, 0, 12, 28, 63, 127, 255]) (fresh := 0) (by kernel_rfl) (by simp only [jX, jO, jN, seval, y25, y27, vint, qF, g1, g2, Int.toNat_natCast, hap] <;> with_reducible rfl) (by decide) (by repeat (first | exact Fin.base _ | with_reducible apply Fin.keep | apply Fin.drop)) ?_
      exact ⟨⟨rfl, rfl, trivial⟩, q ++ [treN ns k c], _, ⟨rfl, rfl, rfl, rfl, trivial⟩, by simp only [jN, seval, vint, qF, List.length_append, List.length_singleton] <;> rfl, htk.symm⟩
    · intro q hg
      rw [List.take_length] at hg
      rw [← hg]
      repeat (refine awp_seq ?_)
      refine e_eval (by simp only [jA, jO, jN, seval, y27, vint, qF] <;> with_reducible rfl) (by decide) ?_
      repeat (refine awp_seq ?_)
      refine awp_ret ⟨.inr rfl, _, (ares_cell 4 27 rfl Tryti27 (by decide) (by simp only [jL, jN, seval, vint, qF] <;> with_reducible rfl)), ?_⟩
      first | exact St.enc_drop1 _ | (simp only [jN, seval, vint, qF] <;> rfl)

theorem sameA (ns : List Gn) (hl : ns.length ≤ 4000) (hW : ∀ n ∈ ns, n.W) : PC Try.prog 11 [(Ga.mk ns).enc, (Ga.mk ns).enc] (.bool true) := by
  have em : maxLen = 9223372036854775807 := by decide
  refine pc_of (N := 56) Try.func11 rfl rfl (by simp) (by simp [St.bel, Gn.bel, Ga.bel, bel_St, bel_Gn, bel_ints0, Bel.int]) (.bool _) ?_
  repeat (refine awp_seq ?_)
  refine e_eval (by simp only [jA, jO, jN, seval, y24, vint, qF, decide_true, Bool.not_true, Bool.or_false, Bool.or_self] <;> with_reducible rfl) (by decide) ?_
  repeat (refine awp_seq ?_)
  refine e_eval (by simp only [jA, jO, jN, seval, y3, y22, y24, y48, vint, qF, decide_true, Bool.not_true, Bool.or_false, Bool.or_self] <;> with_reducible rfl) (by decide) ?_
  repeat (refine awp_seq ?_)
  refine awp_cond_false rfl (by simp only [jN, seval, vint, qF, decide_true, Bool.not_true, Bool.or_false, Bool.or_self] <;> with_reducible rfl) ?_
  repeat (refine awp_seq ?_)
  refine awp_skip ?_
  repeat (refine awp_seq ?_)
  refine e_eval (by simp only [jA, jO, jN, seval, y22, y24, y48, vint, qF, decide_true, Bool.not_true, Bool.or_false, Bool.or_self] <;> with_reducible rfl) (by decide) ?_
  repeat (refine awp_seq ?_)
  refine awp_forS (σ := Unit) (ns.length) (fun (u_ : Unit) => [(3, .optr 1 0), (16, .slice (ns.map Gn.enc) .none)]) [3, 16] ([]) (fun (u_ : Unit) => [.row [.slice (ns.map Gn.enc) .none], .row [.slice (ns.map Gn.enc) .none]]) (fun (i : Nat) (u_ : Unit) => True) (()) ([]) rfl rfl rfl rfl rfl rfl rfl rfl rfl (by decide) (by decide) (by decide) (fun _ => rfl) (by omega) ⟨(by first | rfl | (simp only [jN, seval, vint, qF, decide_true, Bool.not_true, Bool.or_false, Bool.or_self] <;> first | done | with_reducible rfl)), (by first | rfl | (simp only [jN, seval, vint, qF, decide_true, Bool.not_true, Bool.or_false, Bool.or_self] <;> first | done | with_reducible rfl)), (by first | rfl | (simp only [jN, seval, vint, qF, decide_true, Bool.not_true, Bool.or_false, Bool.or_self] <;> first | done | with_reducible rfl)), (by first | rfl | (simp only [jN, seval, vint, qF, decide_true, Bool.not_true, Bool.or_false, Bool.or_self] <;> first | done | with_reducible rfl)), trivial⟩ (by first | rfl | (simp only [jN, seval, vint, qF, decide_true, Bool.not_true, Bool.or_false, Bool.or_self] <;> first | done | with_reducible rfl)) (by simp) (fun _ _ _ => by first | exact Nat.zero_le _ | (simp only [List.length_append]; omega)) ?_ ?_ ?_
  · intro i u_ hg
    refine ⟨?_, by repeat (first | exact BelL.nil | refine BelL.cons (by first | exact bel_ints0 _ _ | exact bel_St _ _ | exact St.bel _ _ | exact bel_Gn _ _ | exact Gn.bel _ _ | exact Ga.bel _ _ | exact bel_Gn_tok _ (by simp) | exact bel_St_tok _ (by simp) | exact bel_int_tok _ (by simp) | exact bel_nil0 _ | exact bel_nil1 _ | exact Bel.int _ _ | exact Bel.bool _ | exact Bel.str _ | exact Bel.nilp | exact Bel.nilfn | exact Bel.optr _ _ (by simp) | exact bel_nil0 _ | exact bel_nil1 _ | exact bel_fn0 _ _ | assumption) ?_)⟩
    simp only [List.nil_append, GnS]
    repeat (first | exact hbel_nil _ | exact trivial | exact obel_row_nil _ | (refine HBel.cons ?_ ?_) | (refine obel_row_cons (by first | exact bel_ints0 _ _ | exact bel_St _ _ | exact St.bel _ _ | exact bel_Gn _ _ | exact Gn.bel _ _ | exact Ga.bel _ _ | exact bel_Gn_tok _ (by simp) | exact bel_St_tok _ (by simp) | exact bel_int_tok _ (by simp) | exact bel_nil0 _ | exact bel_nil1 _ | exact Bel.int _ _ | exact Bel.bool _ | exact Bel.str _ | exact Bel.nilp | exact Bel.nilfn | exact Bel.optr _ _ (by simp) | exact bel_nil0 _ | exact bel_nil1 _ | exact bel_fn0 _ _ | assumption) ?_))
  · intro i u_ hi hg
    have g1 := ix_nat hi
    have g2 := get_enc Gn.enc hi
    have hmW := hW ns[i] (List.getElem_mem hi)
    obtain ⟨m, hme⟩ : ∃ m, ns[i] = m := ⟨_, rfl⟩
    rw [hme] at g2 hmW
    have hx := equalL m.ch m.ch hmW.max_ch
    rw [decide_eq_true rfl] at hx
    repeat (refine awp_seq ?_)
    refine e_eval (by simp only [jA, jO, jN, seval, y22, y48, vint, qF, decide_true, Bool.not_true, Bool.or_false, Bool.or_self, g1, g2, Int.toNat_natCast] <;> with_reducible rfl) (by decide) ?_
    repeat (refine awp_seq ?_)
    refine e_eval (by simp only [jA, jO, jN, seval, y22, y24, y48, vint, qF, decide_true, Bool.not_true, Bool.or_false, Bool.or_self, g1, g2, Int.toNat_natCast] <;> with_reducible rfl) (by decide) ?_
    repeat (refine awp_seq ?_)
    refine awp_region ?_
    refine aops_gstart ?_
    refine g_take 24 (by simp only [jG, jO, jN, seval, y3, y9, y46, y48, vint, qF, decide_true, Bool.not_true, Bool.or_false, Bool.or_self, g1, g2, Int.toNat_natCast] <;> with_reducible rfl) (by decide) ?_
    refine aops_gpure (by simp only [jE, jN, seval, vint, qF, decide_true, Bool.not_true, Bool.or_false, Bool.or_self, g1, g2, Int.toNat_natCast] <;> with_reducible rfl) (by simp only [jE, jN, seval, vint, qF, decide_true, Bool.not_true, Bool.or_false, Bool.or_self, g1, g2, Int.toNat_natCast] <;> with_reducible rfl) (by simp only [jE, jN, seval, vint, qF, decide_true, Bool.not_true, Bool.or_false, Bool.or_self, g1, g2, Int.toNat_natCast]) (by decide) Trygo25 (fun hc => hx _) ?_
    refine g_end (by simp only [jG, jO, jN, seval, vint, qF, decide_true, Bool.not_true, Bool.or_false, Bool.or_self, g1, g2, Int.toNat_natCast] <;> with_reducible rfl) (by decide) (by repeat (first | exact Fin.base _ | with_reducible apply Fin.keep | apply Fin.drop)) ?_
    repeat (refine awp_seq ?_)
    refine awp_cond_false rfl (by simp only [jN, seval, vint, qF, decide_true, Bool.not_true, Bool.or_false, Bool.or_self, g1, g2, Int.toNat_natCast] <;> with_reducible rfl) ?_
    repeat (refine awp_seq ?_)
    refine awp_skip ?_
    exact ⟨⟨rfl, rfl, trivial⟩, (), _, ⟨rfl, rfl, trivial⟩, by simp only [jN, seval, vint, qF] <;> rfl, trivial⟩
  · intro u_ hg
    repeat (refine awp_seq ?_)
    refine e_eval (by simp only [jA, jO, jN, seval, vint, qF, decide_true, Bool.not_true, Bool.or_false, Bool.or_self] <;> with_reducible rfl) (by decide) ?_
    repeat (refine awp_seq ?_)
    refine awp_ret ⟨.inr rfl, _, rfl, ?_⟩
    simp only [jN, seval, vint, qF]

theorem sameT : ∀ (k : Nat) (t : St), t.size ≤ k → k ≤ 4096 → PC Try.prog 12 [t.enc, t.enc] (.bool true)
  | 0, t, h, _ => by cases t; simp [St.size] at h
  | k + 1, t, h, hk => by
    have em : maxLen = 9223372036854775807 := by decide
    have hcl := ch_le t
    refine pc_of (N := 46) Try.func12 rfl rfl (by simp) (by simp [St.bel, Gn.bel, Ga.bel, bel_St, bel_Gn, bel_ints0, Bel.int]) (.bool _) ?_
    repeat (refine awp_seq ?_)
    refine e_eval (by simp only [jA, jO, jN, seval, y27, vint, qF, decide_true, Bool.not_true, Bool.or_false, Bool.or_self] <;> with_reducible rfl) (by decide) ?_
    repeat (refine awp_seq ?_)
    refine g_eval (by simp only [jG, jO, jN, seval, y3, y9, y25, y27, vint, qF, decide_true, Bool.not_true, Bool.or_false, Bool.or_self] <;> with_reducible rfl) (by decide) (by repeat (first | exact Fin.base _ | with_reducible apply Fin.keep | apply Fin.drop)) ?_
    repeat (refine awp_seq ?_)
    refine awp_cond_false rfl (by simp only [jN, seval, vint, qF, decide_true, Bool.not_true, Bool.or_false, Bool.or_self] <;> with_reducible rfl) ?_
    repeat (refine awp_seq ?_)
    refine awp_skip ?_
    refine awp_sel [2, 3] (by simp only [jN, seval, vint, qF, decide_true, Bool.not_true, Bool.or_false, Bool.or_self] <;> with_reducible rfl) ?_
    repeat (refine awp_seq ?_)
    refine e_eval (by simp only [jA, jO, jN, seval, y25, y27, vint, qF, decide_true, Bool.not_true, Bool.or_false, Bool.or_self] <;> with_reducible rfl) (by decide) ?_
    repeat (refine awp_seq ?_)
    refine awp_forS (σ := Unit) (t.ch.length) (fun (u_ : Unit) => [(2, .optr 0 0), (3, .optr 1 0)]) [2, 3] ([]) (fun (u_ : Unit) => [.row t.enc.cells, .row t.enc.cells]) (fun (i : Nat) (u_ : Unit) => True) (()) ([]) rfl rfl rfl rfl rfl rfl rfl rfl rfl (by decide) (by decide) (by decide) (fun _ => rfl) (by omega) ⟨(by first | rfl | (simp only [jN, seval, vint, qF, decide_true, Bool.not_true, Bool.or_false, Bool.or_self] <;> first | done | with_reducible rfl)), (by first | rfl | (simp only [jN, seval, vint, qF, decide_true, Bool.not_true, Bool.or_false, Bool.or_self] <;> first | done | with_reducible rfl)), (by first | rfl | (simp only [jN, seval, vint, qF, decide_true, Bool.not_true, Bool.or_false, Bool.or_self] <;> first | done | with_reducible rfl)), (by first | rfl | (simp only [jN, seval, vint, qF, decide_true, Bool.not_true, Bool.or_false, Bool.or_self] <;> first | done | with_reducible rfl)), trivial⟩ (by first | rfl | (simp only [jN, seval, vint, qF, decide_true, Bool.not_true, Bool.or_false, Bool.or_self] <;> first | done | with_reducible rfl)) (by simp) (fun _ _ _ => by first | exact Nat.zero_le _ | (simp only [List.length_append]; omega)) ?_ ?_ ?_
    · intro i u_ hg
      refine ⟨?_, by repeat (first | exact BelL.nil | refine BelL.cons (by first | exact bel_ints0 _ _ | exact bel_St _ _ | exact St.bel _ _ | exact bel_Gn _ _ | exact Gn.bel _ _ | exact Ga.bel _ _ | exact bel_Gn_tok _ (by simp) | exact bel_St_tok _ (by simp) | exact bel_int_tok _ (by simp) | exact bel_nil0 _ | exact bel_nil1 _ | exact Bel.int _ _ | exact Bel.bool _ | exact Bel.str _ | exact Bel.nilp | exact Bel.nilfn | exact Bel.optr _ _ (by simp) | exact bel_nil0 _ | exact bel_nil1 _ | exact bel_fn0 _ _ | assumption) ?_)⟩
      simp only [List.nil_append, StS]
      repeat (first | exact hbel_nil _ | exact trivial | exact obel_row_nil _ | (refine HBel.cons ?_ ?_) | (refine obel_row_cons (by first | exact bel_ints0 _ _ | exact bel_St _ _ | exact St.bel _ _ | exact bel_Gn _ _ | exact Gn.bel _ _ | exact Ga.bel _ _ | exact bel_Gn_tok _ (by simp) | exact bel_St_tok _ (by simp) | exact bel_int_tok _ (by simp) | exact bel_nil0 _ | exact bel_nil1 _ | exact Bel.int _ _ | exact Bel.bool _ | exact Bel.str _ | exact Bel.nilp | exact Bel.nilfn | exact Bel.optr _ _ (by simp) | exact bel_nil0 _ | exact bel_nil1 _ | exact bel_fn0 _ _ | assumption) ?_))
    · intro i u_ hi hg
      have g1 := ix_nat hi
      have g2 := get_enc St.enc hi
      have hsz := St.size_ch (List.getElem_mem hi)
      obtain ⟨m, hme⟩ : ∃ m, t.ch[i] = m := ⟨_, rfl⟩
      rw [hme] at g2 hsz
      repeat (refine awp_seq ?_)
      refine e_eval (by simp only [jA, jO, jN, seval, vint, qF, decide_true, Bool.not_true, Bool.or_false, Bool.or_self, g1, g2, Int.toNat_natCast] <;> with_reducible rfl) (by decide) ?_
      repeat (refine awp_seq ?_)
      refine dp_draw (by kernel_rfl) ?_
      refine dp_take 10 (by simp only [jP, jO, jN, seval, y25, y27, vint, qF, decide_true, Bool.not_true, Bool.or_false, Bool.or_self, g1, g2, Int.toNat_natCast] <;> with_reducible rfl) (by decide) ?_
      refine dp_keep (by simp only [jE, jN, seval, vint, qF, decide_true, Bool.not_true, Bool.or_false, Bool.or_self, g1, g2, Int.toNat_natCast] <;> with_reducible rfl) (by simp only [jE, jN, seval, vint, qF, decide_true, Bool.not_true, Bool.or_false, Bool.or_self, g1, g2, Int.toNat_natCast] <;> with_reducible rfl) (by simp only [jE, jN, seval, vint, qF, decide_true, Bool.not_true, Bool.or_false, Bool.or_self, g1, g2, Int.toNat_natCast]) (by decide) Trygo12 (fun hc => sameT k m (by omega) (by omega) _) ?_
      refine dp_end (by simp only [jP, jO, jN, seval, vint, qF, decide_true, Bool.not_true, Bool.or_false, Bool.or_self, g1, g2, Int.toNat_natCast] <;> with_reducible rfl) (by decide) (by repeat (first | exact Fin.base _ | with_reducible apply Fin.keep | apply Fin.drop)) ?_
      repeat (refine awp_seq ?_)
      refine awp_cond_false rfl (by simp only [jN, seval, vint, qF, decide_true, Bool.not_true, Bool.or_false, Bool.or_self, g1, g2, Int.toNat_natCast] <;> with_reducible rfl) ?_
      repeat (refine awp_seq ?_)
      refine awp_skip ?_
      exact ⟨⟨rfl, rfl, trivial⟩, (), _, ⟨rfl, rfl, trivial⟩, by simp only [jN, seval, vint, qF] <;> rfl, trivial⟩
    · intro u_ hg
      repeat (refine awp_seq ?_)
      refine e_eval (by simp only [jA, jO, jN, seval, vint, qF, decide_true, Bool.not_true, Bool.or_false, Bool.or_self] <;> with_reducible rfl) (by decide) ?_
      repeat (refine awp_seq ?_)
      refine awp_ret ⟨.inr rfl, _, rfl, ?_⟩
      simp only [jN, seval, vint, qF]

def pairT : St := .mk 17 [] [.mk 103 [97] [], .mk 103 [97] []]

theorem pair_c : PC Try.prog 17 [] pairT.enc := by
  refine pc_of (N := 7) Try.func17 rfl rfl (by simp) (by simp [St.bel, Gn.bel, Ga.bel, bel_St, bel_Gn, bel_ints0, Bel.int]) (St.bel _ _) ?_
  repeat (refine awp_seq ?_)
  refine e_eval (by simp only [jA, jO, jN, seval, y27, vint, qF] <;> with_reducible rfl) (by decide) ?_
  repeat (refine awp_seq ?_)
  refine e_eval (by simp only [jA, jO, jN, seval, y27, vint, qF] <;> with_reducible rfl) (by decide) ?_
  repeat (refine awp_seq ?_)
  refine e_eval (by simp only [jA, jO, jN, seval, y25, y27, vint, qF] <;> with_reducible rfl) (by decide) ?_
  repeat (refine awp_seq ?_)
  refine awp_ret ⟨.inr rfl, _, (ares_cell 0 27 rfl Tryti27 (by decide) (by simp only [jL, jN, seval, vint, qF] <;> with_reducible rfl)), ?_⟩
  simp only [jN, seval, vint, qF]
  try (rw [St.enc_eq]; rfl)

end Go.Abs
set_option maxRecDepth 4000
namespace Go.Abs
open Go.Proofs

theorem zrowI (n : Nat) : (List.replicate n [PV.int IntKind.i64 0]).flatten = (List.replicate n (0 : Int)).map vint := by
  induction n with
  | zero => rfl
  | succ n ih => rw [List.replicate_succ, List.flatten_cons, ih, List.replicate_succ]; rfl
theorem obel_ints (n : Nat) (l : List Int) : OBel n (.row (l.map vint)) := by
  intro x hx; obtain ⟨v, _, rfl⟩ := List.mem_map.1 hx; exact .int _ _

theorem arSz (ns : List Gn) (hW : ∀ n ∈ ns, n.W) (hv : ArV ns) (hl : ns.length ≤ 60) (x : Int) (h0 : 0 ≤ x) (hx : x < ns.length) : PC Try.prog 15 [(Ga.mk ns).enc, vint x] (vint (min (sizN ns (x.toNat + 1) x : Int) 4001)) := by
  have em : maxLen = 9223372036854775807 := by decide
  have ma : ((0 : Int) ≤ (ns.length : Int)) = True := by simp
  have mb : ((ns.length : Int) ≤ ns.length) = True := by simp
  have mc : ((ns.length : Int) * 8 ≤ 140737488355328) = True := eq_true (by omega)
  have md : ((ns.length : Int) ≤ maxLen) = True := eq_true (by omega)
  refine pc_of (N := 51) Try.func15 rfl rfl (by simp) (by simp [St.bel, Gn.bel, Ga.bel, bel_St, bel_Gn, bel_ints0, Bel.int]) (.int _ _) ?_
  repeat (refine awp_seq ?_)
  refine e_eval (by simp only [jA, jO, jN, seval, y24, vint, qF] <;> with_reducible rfl) (by decide) ?_
  repeat (refine awp_seq ?_)
  refine awp_region ?_
  refine e_take 3 (by simp only [jA, jO, jN, seval, y22, y24, y48, vint, qF] <;> with_reducible rfl) (by decide) ?_
  refine aops_op true (v := .msl 1 0 ns.length ns.length) (e := some (1, .row ((List.replicate ns.length (0 : Int)).map vint))) (H' := [.row [.slice (ns.map Gn.enc) .none], .row ((List.replicate ns.length (0 : Int)).map vint)]) (by simp only [jC, jN, seval, vint, qF] <;> rfl) (by decide) (by simp only [jA, jO, jN, seval, y3, y46, vint, qF, ma, mb, mc, md, zrowI, Int.toNat_natCast] <;> with_reducible rfl) (by simp only [jA, jO, jN, seval, vint, qF] <;> rfl) ?_
  refine e_end (by simp only [jA, jO, jN, seval, vint, qF] <;> with_reducible rfl) (by decide) ?_
  repeat (refine awp_seq ?_)
  refine e_eval (by simp only [jA, jO, jN, seval, y22, y24, y48, vint, qF] <;> with_reducible rfl) (by decide) ?_
  repeat (refine awp_seq ?_)
  refine awp_forS (σ := List Int) (ns.length) (fun (sz : List Int) => [(1, vint x), (2, .optr 0 0), (5, .msl 1 0 ns.length ns.length), (15, .slice (ns.map Gn.enc) .none)]) [1, 2, 5, 15] ([]) (fun (sz : List Int) => [.row [.slice (ns.map Gn.enc) .none], .row (sz.map vint)]) (fun (i : Nat) (sz : List Int) => SzOk ns i sz) ((List.replicate ns.length 0)) ([]) rfl rfl rfl rfl rfl rfl rfl rfl rfl (by decide) (by decide) (by decide) (fun _ => rfl) (by omega) ⟨(by first | rfl | (simp only [jN, seval, vint, qF] <;> first | done | with_reducible rfl)), (by first | rfl | (simp only [jN, seval, vint, qF] <;> first | done | with_reducible rfl)), (by first | rfl | (simp only [jN, seval, vint, qF] <;> first | done | with_reducible rfl)), (by first | rfl | (simp only [jN, seval, vint, qF] <;> first | done | with_reducible rfl)), (by first | rfl | (simp only [jN, seval, vint, qF] <;> first | done | with_reducible rfl)), (by first | rfl | (simp only [jN, seval, vint, qF] <;> first | done | with_reducible rfl)), trivial⟩ (by first | rfl | (simp only [jN, seval, vint, qF] <;> first | done | with_reducible rfl)) (⟨by simp, fun j h => by omega⟩) (fun _ _ _ => by first | exact Nat.zero_le _ | (simp only [List.length_append]; omega)) ?_ ?_ ?_
  · intro i sz hg
    refine ⟨?_, by repeat (first | exact BelL.nil | refine BelL.cons (by first | exact .msl _ _ _ _ (by simp) | exact bel_ints0 _ _ | exact bel_St _ _ | exact St.bel _ _ | exact bel_Gn _ _ | exact Gn.bel _ _ | exact Ga.bel _ _ | exact bel_Gn_tok _ (by simp) | exact bel_St_tok _ (by simp) | exact bel_int_tok _ (by simp) | exact bel_nil0 _ | exact bel_nil1 _ | exact Bel.int _ _ | exact Bel.bool _ | exact Bel.str _ | exact Bel.nilp | exact Bel.nilfn | exact Bel.optr _ _ (by simp) | exact bel_nil0 _ | exact bel_nil1 _ | exact bel_fn0 _ _ | assumption) ?_)⟩
    simp only [List.nil_append]
    repeat (first | exact hbel_nil _ | exact obel_ints _ _ | exact trivial | exact obel_row_nil _ | (refine HBel.cons ?_ ?_) | (refine obel_row_cons (by first | exact .msl _ _ _ _ (by simp) | exact bel_ints0 _ _ | exact bel_St _ _ | exact St.bel _ _ | exact bel_Gn _ _ | exact Gn.bel _ _ | exact Ga.bel _ _ | exact bel_Gn_tok _ (by simp) | exact bel_St_tok _ (by simp) | exact bel_int_tok _ (by simp) | exact bel_nil0 _ | exact bel_nil1 _ | exact Bel.int _ _ | exact Bel.bool _ | exact Bel.str _ | exact Bel.nilp | exact Bel.nilfn | exact Bel.optr _ _ (by simp) | exact bel_nil0 _ | exact bel_nil1 _ | exact bel_fn0 _ _ | assumption) ?_))
  · intro i sz hi hg
    have g1 := ix_nat hi
    have g2 := get_enc Gn.enc hi
    have hgd : ns.getD i .zero = ns[i] := by rw [List.getD_eq_getElem?_getD, List.getElem?_eq_getElem hi]; rfl
    have hvi := hv i hi
    have hst := fun s => hg.step hv hi rfl (s := s)
    have hnW := hW ns[i] (List.getElem_mem hi)
    rw [hgd] at hvi hst
    obtain ⟨n, hne⟩ : ∃ n, ns[i] = n := ⟨_, rfl⟩
    rw [hne] at g2 hvi hst hnW
    have hszl := hg.len
    have ln : (i + 1 ≤ ns.length) = True := eq_true (by omega)
    have g8 : ((0 : Int) ≤ i ∧ (i : Int) < ns.length) = True := by simp; omega
    have s1 : ∀ v, (sz.map vint).set i (.int .i64 v) = (sz.set i v).map vint := fun v => by rw [List.map_set]
    repeat (refine awp_seq ?_)
    refine e_eval (by simp only [jA, jO, jN, seval, y22, y48, vint, qF, g1, g2, g8, ln, s1, hszl, List.length_map, List.length_set, Int.toNat_natCast, Nat.zero_add, Nat.mul_one] <;> with_reducible rfl) (by decide) ?_
    repeat (refine awp_seq ?_)
    refine e_eval (by simp only [jA, jO, jN, seval, y3, y46, vint, qF, g1, g2, g8, ln, s1, hszl, List.length_map, List.length_set, Int.toNat_natCast, Nat.zero_add, Nat.mul_one] <;> with_reducible rfl) (by decide) ?_
    repeat (refine awp_seq ?_)
    refine e_eval (by simp only [jA, jO, jN, seval, y3, y46, y48, vint, qF, g1, g2, g8, ln, s1, hszl, List.length_map, List.length_set, Int.toNat_natCast, Nat.zero_add, Nat.mul_one] <;> with_reducible rfl) (by decide) ?_
    repeat (refine awp_seq ?_)
    refine awp_forS (σ := Int) (n.ch.length) (fun (s : Int) => [(1, vint x), (2, .optr 0 0), (5, .msl 1 0 ns.length ns.length), (6, vint (i : Int)), (15, .slice (ns.map Gn.enc) .none), (16, vint (ns.length : Int)), (17, vint (i : Int)), (26, .slice (n.ch.map vint) .none)]) [1, 2, 5, 6, 15, 16, 17, 26] ([]) (fun (s : Int) => [.row [.slice (ns.map Gn.enc) .none], .row ((sz.set i s).map vint), .row n.enc.cells]) (fun (j : Nat) (s : Int) => s = capL sz (n.ch.take j) 1 ∧ 0 ≤ s ∧ s ≤ 4001) (1) (_) rfl rfl rfl rfl rfl rfl rfl rfl rfl (by decide) (by decide) (by decide) (fun _ => rfl) (hnW.max_ch) ⟨(by first | rfl | (simp only [jN, seval, vint, qF, g1, g2, g8, ln, s1, hszl, List.length_map, List.length_set, Int.toNat_natCast, Nat.zero_add, Nat.mul_one] <;> first | done | with_reducible rfl)), (by first | rfl | (simp only [jN, seval, vint, qF, g1, g2, g8, ln, s1, hszl, List.length_map, List.length_set, Int.toNat_natCast, Nat.zero_add, Nat.mul_one] <;> first | done | with_reducible rfl)), (by first | rfl | (simp only [jN, seval, vint, qF, g1, g2, g8, ln, s1, hszl, List.length_map, List.length_set, Int.toNat_natCast, Nat.zero_add, Nat.mul_one] <;> first | done | with_reducible rfl)), (by first | rfl | (simp only [jN, seval, vint, qF, g1, g2, g8, ln, s1, hszl, List.length_map, List.length_set, Int.toNat_natCast, Nat.zero_add, Nat.mul_one] <;> first | done | with_reducible rfl)), (by first | rfl | (simp only [jN, seval, vint, qF, g1, g2, g8, ln, s1, hszl, List.length_map, List.length_set, Int.toNat_natCast, Nat.zero_add, Nat.mul_one] <;> first | done | with_reducible rfl)), (by first | rfl | (simp only [jN, seval, vint, qF, g1, g2, g8, ln, s1, hszl, List.length_map, List.length_set, Int.toNat_natCast, Nat.zero_add, Nat.mul_one] <;> first | done | with_reducible rfl)), (by first | rfl | (simp only [jN, seval, vint, qF, g1, g2, g8, ln, s1, hszl, List.length_map, List.length_set, Int.toNat_natCast, Nat.zero_add, Nat.mul_one] <;> first | done | with_reducible rfl)), (by first | rfl | (simp only [jN, seval, vint, qF, g1, g2, g8, ln, s1, hszl, List.length_map, List.length_set, Int.toNat_natCast, Nat.zero_add, Nat.mul_one] <;> first | done | with_reducible rfl)), (by first | rfl | (simp only [jN, seval, vint, qF, g1, g2, g8, ln, s1, hszl, List.length_map, List.length_set, Int.toNat_natCast, Nat.zero_add, Nat.mul_one] <;> first | done | with_reducible rfl)), (by first | rfl | (simp only [jN, seval, vint, qF, g1, g2, g8, ln, s1, hszl, List.length_map, List.length_set, Int.toNat_natCast, Nat.zero_add, Nat.mul_one] <;> first | done | with_reducible rfl)), trivial⟩ (by first | rfl | (simp only [jN, seval, vint, qF, g1, g2, g8, ln, s1, hszl, List.length_map, List.length_set, Int.toNat_natCast, Nat.zero_add, Nat.mul_one] <;> first | done | with_reducible rfl)) (⟨by simp [capL], by omega, by omega⟩) (fun _ _ _ => by first | exact Nat.zero_le _ | (simp only [List.length_append]; omega)) ?_ ?_ ?_
    · intro j s hq
      refine ⟨?_, by repeat (first | exact BelL.nil | refine BelL.cons (by first | exact .msl _ _ _ _ (by simp) | exact bel_ints0 _ _ | exact bel_St _ _ | exact St.bel _ _ | exact bel_Gn _ _ | exact Gn.bel _ _ | exact Ga.bel _ _ | exact bel_Gn_tok _ (by simp) | exact bel_St_tok _ (by simp) | exact bel_int_tok _ (by simp) | exact bel_nil0 _ | exact bel_nil1 _ | exact Bel.int _ _ | exact Bel.bool _ | exact Bel.str _ | exact Bel.nilp | exact Bel.nilfn | exact Bel.optr _ _ (by simp) | exact bel_nil0 _ | exact bel_nil1 _ | exact bel_fn0 _ _ | assumption) ?_)⟩
      simp only [List.nil_append, GnS]
      repeat (first | exact hbel_nil _ | exact obel_ints _ _ | exact trivial | exact obel_row_nil _ | (refine HBel.cons ?_ ?_) | (refine obel_row_cons (by first | exact .msl _ _ _ _ (by simp) | exact bel_ints0 _ _ | exact bel_St _ _ | exact St.bel _ _ | exact bel_Gn _ _ | exact Gn.bel _ _ | exact Ga.bel _ _ | exact bel_Gn_tok _ (by simp) | exact bel_St_tok _ (by simp) | exact bel_int_tok _ (by simp) | exact bel_nil0 _ | exact bel_nil1 _ | exact Bel.int _ _ | exact Bel.bool _ | exact Bel.str _ | exact Bel.nilp | exact Bel.nilfn | exact Bel.optr _ _ (by simp) | exact bel_nil0 _ | exact bel_nil1 _ | exact bel_fn0 _ _ | assumption) ?_))
    · intro j s hj hq
      have k1 := ix_nat hj
      have k2 := get_enc vint hj
      have htk := capL_take (sz := sz) hj 1
      rw [← hq.1] at htk
      have hci := hvi n.ch[j] (List.getElem_mem hj)
      obtain ⟨c, hce⟩ : ∃ c, n.ch[j] = c := ⟨_, rfl⟩
      rw [hce] at k2 htk hci
      have hec := hg.el c.toNat (by omega)
      obtain ⟨v, hve⟩ : ∃ v, sz.getD c.toNat 0 = v := ⟨_, rfl⟩
      rw [hve] at htk hec
      have gc : ((sz.set i s).map vint)[c.toNat]? = some (.int .i64 v) := by
        rw [List.getElem?_map, List.getElem?_set_ne (by omega), ← hve, List.getD_eq_getElem?_getD, List.getElem?_eq_getElem (by omega)]; rfl
      have gi : ((sz.set i s).map vint)[i]? = some (.int .i64 s) := by
        rw [List.getElem?_map, List.getElem?_set_self (by omega)]; rfl
      have k7 : ((0 : Int) ≤ c ∧ c < ns.length) = True := by simp; omega
      have s2 : ∀ v, ((sz.set i s).map vint).set i (.int .i64 v) = (sz.set i v).map vint := fun v => by
        rw [show (PV.int IntKind.i64 v) = vint v from rfl, ← List.map_set, List.set_set]
      have w1 : IntKind.i64.wrap (s + v) = s + v := wrap_id (by omega) (by omega)
      repeat (refine awp_seq ?_)
      refine e_eval (by simp only [jA, jO, jN, seval, y3, y46, vint, qF, g1, g2, g8, ln, s1, hszl, List.length_map, List.length_set, Int.toNat_natCast, Nat.zero_add, Nat.mul_one, k1, k2, gc, gi, k7, s2, w1] <;> with_reducible rfl) (by decide) ?_
      repeat (refine awp_seq ?_)
      refine x_draw 0 rfl (by kernel_rfl) ?_
      refine x1_take 13 rfl (by simp only [jP, jO, jN, seval, y3, y46, vint, qF, g1, g2, g8, ln, s1, hszl, List.length_map, List.length_set, Int.toNat_natCast, Nat.zero_add, Nat.mul_one, k1, k2, gc, gi, k7, s2, w1] <;> with_reducible rfl) (by decide) (by decide) (by decide) ?_
      refine x_mid (by first | (simp only [LS, HS, List.append_assoc, List.cons_append, List.nil_append, g1, g2, g8, ln, s1, hszl, List.length_map, List.length_set, Int.toNat_natCast, Nat.zero_add, Nat.mul_one, k1, k2, gc, gi, k7, s2, w1] <;> with_reducible rfl) | rfl) ?_
      refine x2_end (bm := [0, 0, 0, 0, 12, 28, 0, 0, 192, 448, 1020, 2044, 4095, 8191]) (fresh := 0) (by kernel_rfl) (by simp only [jX, jO, jN, seval, y3, vint, qF, g1, g2, g8, ln, s1, hszl, List.length_map, List.length_set, Int.toNat_natCast, Nat.zero_add, Nat.mul_one, k1, k2, gc, gi, k7, s2, w1] <;> with_reducible rfl) (by decide) (by repeat (first | exact Fin.base _ | with_reducible apply Fin.keep | apply Fin.drop)) ?_
      exact ⟨⟨rfl, rfl, trivial⟩, min (s + v) 4001, _, ⟨rfl, rfl, rfl, rfl, rfl, rfl, rfl, rfl, trivial⟩, by simp only [jN, seval, vint, qF] <;> rfl, htk.symm, by omega, by omega⟩
    · intro s hq
      rw [List.take_length] at hq
      exact ⟨⟨rfl, rfl, trivial⟩, sz.set i s, _, ⟨rfl, rfl, rfl, rfl, trivial⟩, by simp only [jN, seval, vint, qF] <;> rfl, hst s hq.1⟩
  · intro sz hg
    have hel := hg.el x.toNat (by omega)
    have hszl := hg.len
    have hxx : ((x.toNat : Nat) : Int) = x := by omega
    rw [hxx] at hel
    have gx : (sz.map vint)[x.toNat]? = some (.int .i64 (min (sizN ns (x.toNat + 1) x : Int) 4001)) := by
      rw [List.getElem?_map, ← hel, List.getD_eq_getElem?_getD, List.getElem?_eq_getElem (by omega)]; rfl
    have g9 : ((0 : Int) ≤ x ∧ x < ns.length) = True := by simp; omega
    repeat (refine awp_seq ?_)
    refine e_eval (by simp only [jA, jO, jN, seval, y3, y46, vint, qF, gx, g9, Nat.zero_add, Nat.mul_one] <;> with_reducible rfl) (by decide) ?_
    repeat (refine awp_seq ?_)
    refine awp_ret ⟨.inr rfl, _, rfl, ?_⟩
    simp only [jN, seval, vint, qF]

end Go.Abs
set_option maxRecDepth 4000
namespace Go.Abs
open Go.Proofs

theorem pairT_W : pairT.W := by simp [pairT, St.W_iff]
theorem nsW_nil : NsW [] := ⟨by simp, by simp⟩
def exNs : List Gn := [⟨103, 1, [97], []⟩, ⟨17, 2, [], [0, 0]⟩]
theorem exNs_W : NsW exNs := ⟨by decide, by simp [exNs, Gn.W]⟩
theorem leafT_ins (ns : List Gn) : insT (.mk 103 [97] []) ns = insN 103 [97] (ns, [], 1) := by rw [insT_eq]; rfl
theorem insT_ex : insT pairT [] = (exNs, 1) := by
  rw [insT_eq]
  simp only [pairT, St.kind, St.text, St.ch, List.map_cons, List.map_nil, insL, leafT_ins]
  rfl
theorem trV_ex : trV 100 pairT = true := by
  have h : trV 100 (.mk 103 [97] []) = true := by rw [trV_eq]; rfl
  rw [trV_eq]
  simp only [pairT, St.kind, St.text, St.ch, List.all_cons, List.all_nil, h]
  rfl
theorem insR_ex : insR [] pairT = (exNs, 1, 0) := by
  unfold insR
  rw [if_pos (by rfl), if_pos trV_ex, insT_ex]
theorem treR_ex : treR exNs 1 = (pairT, 0) := by rfl
theorem St_zero_enc : St.zero.enc = .agg [.int .i64 0, .str [], .slice [] .none] := by rw [St.enc_eq]; rfl
theorem sameT0 : PC Try.prog 12 [St.zero.enc, .agg [.int .i64 0, .str [], .slice [] .none]] (.bool true) := by
  have := sameT 1 St.zero (by decide) (by decide)
  rw [show [St.zero.enc, St.zero.enc] = [St.zero.enc, .agg [.int .i64 0, .str [], .slice [] .none]] from by rw [St_zero_enc]] at this
  exact this

theorem greenEx : PC Try.prog 4 [] (.bool true) := by
  have hI := gInsert [] pairT nsW_nil (by decide) pairT_W (by decide)
  rw [insR_ex] at hI
  have hT := gTree exNs exNs_W (by decide) 1
  rw [treR_ex] at hT
  have hl : exNs.length = 2 := rfl
  refine pc_of (N := 40) Try.func4 rfl rfl (by simp) (by simp [St.bel, Gn.bel, Ga.bel, bel_St, bel_Gn, bel_ints0, Bel.int]) (.bool _) ?_
  repeat (refine awp_seq ?_)
  refine e_eval (by simp only [jA, jO, jN, seval, vint, qF] <;> with_reducible rfl) (by decide) ?_
  repeat (refine awp_seq ?_)
  refine awp_region ?_
  refine e_take 1 (by simp only [jA, jO, jN, seval, y24, vint, qF] <;> with_reducible rfl) (by decide) ?_
  refine aops_pure (by simp only [jC, jN, seval, vint, qF] <;> with_reducible rfl) (by simp only [jC, jN, seval, vint, qF]) (by decide) Trygo17 (pair_c _) ?_
  refine aops_pure (by simp only [jC, jN, seval, vint, qF] <;> with_reducible rfl) (by simp only [jC, jN, seval, vint, qF]) (by decide) Trygo9 (hI _) ?_
  refine e_end (by simp only [jA, jO, jN, seval, y24, vint, qF] <;> with_reducible rfl) (by decide) ?_
  repeat (refine awp_seq ?_)
  refine awp_region ?_
  refine e_take 2 (by simp only [jA, jO, jN, seval, y24, vint, qF] <;> with_reducible rfl) (by decide) ?_
  refine aops_pure (by simp only [jC, jN, seval, vint, qF] <;> with_reducible rfl) (by simp only [jC, jN, seval, vint, qF]) (by decide) Trygo10 (hT _) ?_
  refine e_end (by simp only [jA, jO, jN, seval, y27, vint, qF] <;> with_reducible rfl) (by decide) ?_
  refine awp_sel [1, 2, 3, 4, 5] (by simp only [jN, seval, vint, qF] <;> with_reducible rfl) ?_
  repeat (refine awp_seq ?_)
  refine dp_draw (by kernel_rfl) ?_
  refine dp_take 18 (by simp only [jP, jO, jN, seval, y3, y22, y24, y27, y31, y48, vint, qF, hl] <;> with_reducible rfl) (by decide) ?_
  refine dp_keep (by simp only [jE, jN, seval, vint, qF, hl] <;> with_reducible rfl) (by simp only [jE, jN, seval, vint, qF, hl] <;> with_reducible rfl) (by simp only [jE, jN, seval, vint, qF, hl]) (by decide) Trygo17 (fun hc => pair_c _) ?_
  refine dp_keep (by simp only [jE, jN, seval, vint, qF, hl] <;> with_reducible rfl) (by simp only [jE, jN, seval, vint, qF, hl] <;> with_reducible rfl) (by simp only [jE, jN, seval, vint, qF, hl]) (by decide) Trygo12 (fun hc => sameT _ pairT (Nat.le_refl _) (by decide) _) ?_
  refine dp_end (by simp only [jP, jO, jN, seval, vint, qF, hl] <;> with_reducible rfl) (by decide) (by repeat (first | exact Fin.base _ | with_reducible apply Fin.keep | apply Fin.drop)) ?_
  repeat (refine awp_seq ?_)
  refine awp_ret ⟨.inr rfl, _, rfl, ?_⟩
  simp only [jN, seval, vint, qF]

theorem law_green (ms : List Gn) (t : St) (x : Int) (hW : ∀ n ∈ ms, n.W) (hw : t.W) : PC Try.prog 3 [(Ga.mk ms).enc, t.enc, vint x] (.bool true) := by
  have em : maxLen = 9223372036854775807 := by decide
  have hmin : min (ms.length : Int) 60 = ((min ms.length 60 : Nat) : Int) := by omega
  obtain ⟨m, hm⟩ : ∃ m, min ms.length 60 = m := ⟨_, rfl⟩
  rw [hm] at hmin
  have h3 : ((0 : Int) ≤ m ∧ (m : Int) ≤ ms.length) = True := by simp; omega
  obtain ⟨ns, hns⟩ : ∃ ns, ms.take m = ns := ⟨_, rfl⟩
  have hl : ns.length ≤ 60 := by rw [← hns, List.length_take]; omega
  have hW2 : ∀ n ∈ ns, n.W := fun n h => hW n (by rw [← hns] at h; exact List.mem_of_mem_take h)
  have hN : NsW ns := ⟨by omega, hW2⟩
  have hbd := tszT_bd t 60 (by omega)
  have hin0 := fun (h : (x < 0 ∨ x ≥ ns.length)) => h
  refine pc_of (N := 145) Try.func3 rfl rfl (by simp) (by simp [St.bel, Gn.bel, Ga.bel, bel_St, bel_Gn, bel_ints0, Bel.int]) (.bool _) ?_
  repeat (refine awp_seq ?_)
  refine e_eval (by simp only [jA, jO, jN, seval, y24, y27, vint, qF] <;> with_reducible rfl) (by decide) ?_
  repeat (refine awp_seq ?_)
  refine awp_region ?_
  refine aops_pure (by simp only [jC, jN, seval, vint, qF] <;> with_reducible rfl) (by simp only [jC, jN, seval, vint, qF]) (by decide) Trygo4 (greenEx _) ?_
  refine e_end (by simp only [jA, jO, jN, seval, vint, qF] <;> with_reducible rfl) (by decide) ?_
  repeat (refine awp_seq ?_)
  refine awp_cond_false rfl (by simp only [jN, seval, vint, qF] <;> with_reducible rfl) ?_
  repeat (refine awp_seq ?_)
  refine awp_skip ?_
  repeat (refine awp_seq ?_)
  refine e_eval (by simp only [jA, jO, jN, seval, y3, y22, y24, y48, vint, qF, hmin, h3, all4, tk_map, hns, and_false, ite_false, ↓reduceIte, List.drop_zero, Int.toNat_natCast] <;> with_reducible rfl) (by decide) ?_
  rcases Classical.em (tszT t 60 > 60) with hc | hc
  ·
    have h60 : (60 < tszT t 60) = True := eq_true hc
    repeat (refine awp_seq ?_)
    refine awp_region ?_
    refine aops_gstart ?_
    refine g_take 1 (by simp only [jG, jO, jN, seval, y27, vint, qF, h60, GT.gt, decide_true] <;> with_reducible rfl) (by decide) ?_
    refine aops_gpure (by simp only [jE, jN, seval, vint, qF, h60, GT.gt, decide_true] <;> with_reducible rfl) (by simp only [jE, jN, seval, vint, qF, h60, GT.gt, decide_true] <;> with_reducible rfl) (by simp only [jE, jN, seval, vint, qF, h60, GT.gt, decide_true]) (by decide) Trygo5 (fun hc => tsz_k _ t (Nat.le_refl _) hw 60 (by omega) (by omega) _) ?_
    refine g_take 3 (by simp only [jG, jO, jN, seval, y3, y27, vint, qF, h60, GT.gt, decide_true] <;> with_reducible rfl) (by decide) ?_
    refine aops_gskip (r := .tup []) (by simp only [jE, jN, seval, vint, qF, h60, GT.gt, decide_true] <;> with_reducible rfl) ?_
    refine aops_gskip (r := .tup []) (by simp only [jE, jN, seval, vint, qF, h60, GT.gt, decide_true] <;> with_reducible rfl) ?_
    refine g_end (by simp only [jG, jO, jN, seval, vint, qF, h60, GT.gt, decide_true] <;> with_reducible rfl) (by decide) (by repeat (first | exact Fin.base _ | with_reducible apply Fin.keep | apply Fin.drop)) ?_
    repeat (refine awp_seq ?_)
    refine awp_cond_true rfl (by simp only [jN, seval, vint, qF, h60, GT.gt, decide_true] <;> with_reducible rfl) ?_
    refine awp_sel [] (by simp only [jN, seval, vint, qF, h60, GT.gt, decide_true] <;> with_reducible rfl) ?_
    repeat (refine awp_seq ?_)
    refine e_eval (by simp only [jA, jO, jN, seval, vint, qF, h60, GT.gt, decide_true] <;> with_reducible rfl) (by decide) ?_
    repeat (refine awp_seq ?_)
    refine awp_ret ⟨.inr rfl, _, rfl, ?_⟩
    simp only [jN, seval, vint, qF]
  ·
    have hs : t.size ≤ 60 := by omega
    have hdb := dptT_bd t
    have h60 : (60 < tszT t 60) = False := eq_false hc
    have h61 : (60 < dptT t) = False := by simp; omega
    repeat (refine awp_seq ?_)
    refine awp_region ?_
    refine aops_gstart ?_
    refine g_take 1 (by simp only [jG, jO, jN, seval, y27, vint, qF, h60, h61, GT.gt, decide_false] <;> with_reducible rfl) (by decide) ?_
    refine aops_gpure (by simp only [jE, jN, seval, vint, qF, h60, h61, GT.gt, decide_false] <;> with_reducible rfl) (by simp only [jE, jN, seval, vint, qF, h60, h61, GT.gt, decide_false] <;> with_reducible rfl) (by simp only [jE, jN, seval, vint, qF, h60, h61, GT.gt, decide_false]) (by decide) Trygo5 (fun hc => tsz_k _ t (Nat.le_refl _) hw 60 (by omega) (by omega) _) ?_
    refine g_take 3 (by simp only [jG, jO, jN, seval, y3, y27, vint, qF, h60, h61, GT.gt, decide_false] <;> with_reducible rfl) (by decide) ?_
    refine aops_gpure (by simp only [jE, jN, seval, vint, qF, h60, h61, GT.gt, decide_false] <;> with_reducible rfl) (by simp only [jE, jN, seval, vint, qF, h60, h61, GT.gt, decide_false] <;> with_reducible rfl) (by simp only [jE, jN, seval, vint, qF, h60, h61, GT.gt, decide_false]) (by decide) Trygo6 (fun hc => dpt_k _ t (Nat.le_refl _) (by omega) hw _) ?_
    refine g_end (by simp only [jG, jO, jN, seval, y3, vint, qF, h60, h61, GT.gt, decide_false] <;> with_reducible rfl) (by decide) (by repeat (first | exact Fin.base _ | with_reducible apply Fin.keep | apply Fin.drop)) ?_
    repeat (refine awp_seq ?_)
    refine awp_cond_false rfl (by simp only [jN, seval, vint, qF, h60, h61, GT.gt, decide_false] <;> with_reducible rfl) ?_
    repeat (refine awp_seq ?_)
    refine awp_skip ?_
    refine awp_sel [2, 3, 4] (by simp only [jN, seval, vint, qF, h60, h61, GT.gt, decide_false] <;> with_reducible rfl) ?_
    repeat (refine awp_seq ?_)
    refine awp_region ?_
    refine e_take 1 (by simp only [jA, jO, jN, seval, y24, vint, qF, h60, h61, GT.gt, decide_false] <;> with_reducible rfl) (by decide) ?_
    refine aops_pure (by simp only [jC, jN, seval, vint, qF, h60, h61, GT.gt, decide_false] <;> with_reducible rfl) (by simp only [jC, jN, seval, vint, qF, h60, h61, GT.gt, decide_false]) (by decide) Trygo7 (arenaError ns (by omega) (fun _ => hN) _) ?_
    refine e_end (by simp only [jA, jO, jN, seval, vint, qF, h60, h61, GT.gt, decide_false] <;> with_reducible rfl) (by decide) ?_
    repeat (refine awp_seq ?_)
    refine awp_region ?_
    refine e_take 1 (by simp only [jA, jO, jN, seval, y24, vint, qF, h60, h61, GT.gt, decide_false] <;> with_reducible rfl) (by decide) ?_
    refine aops_pure (by simp only [jC, jN, seval, vint, qF, h60, h61, GT.gt, decide_false] <;> with_reducible rfl) (by simp only [jC, jN, seval, vint, qF, h60, h61, GT.gt, decide_false]) (by decide) Trygo8 (gvalidate ns (by omega) (fun _ => hN) _) ?_
    refine e_end (by simp only [jA, jO, jN, seval, y31, vint, qF, h60, h61, GT.gt, decide_false] <;> with_reducible rfl) (by decide) ?_
    repeat (refine awp_seq ?_)
    refine awp_cond_false rfl (by simp only [jN, seval, vint, qF, h60, h61, GT.gt, decide_false] <;> with_reducible rfl) ?_
    repeat (refine awp_seq ?_)
    refine awp_skip ?_
    repeat (refine awp_seq ?_)
    refine awp_region ?_
    refine e_take 2 (by simp only [jA, jO, jN, seval, y24, y27, vint, qF, h60, h61, GT.gt, decide_false] <;> with_reducible rfl) (by decide) ?_
    refine aops_pure (by simp only [jC, jN, seval, vint, qF, h60, h61, GT.gt, decide_false] <;> with_reducible rfl) (by simp only [jC, jN, seval, vint, qF, h60, h61, GT.gt, decide_false]) (by decide) Trygo9 (gInsert ns t hN hl hw hs _) ?_
    refine e_end (by simp only [jA, jO, jN, seval, y24, vint, qF, h60, h61, GT.gt, decide_false] <;> with_reducible rfl) (by decide) ?_
    refine awp_sel [2, 3, 4, 7, 8, 9, 10] (by simp only [jN, seval, vint, qF, h60, h61, GT.gt, decide_false] <;> with_reducible rfl) ?_
    repeat (refine awp_seq ?_)
    refine awp_region ?_
    refine e_take 2 (by simp only [jA, jO, jN, seval, y24, vint, qF, h60, h61, GT.gt, decide_false] <;> with_reducible rfl) (by decide) ?_
    refine aops_pure (by simp only [jC, jN, seval, vint, qF, h60, h61, GT.gt, decide_false] <;> with_reducible rfl) (by simp only [jC, jN, seval, vint, qF, h60, h61, GT.gt, decide_false]) (by decide) Trygo10 (gTree ns hN hl x _) ?_
    refine e_end (by simp only [jA, jO, jN, seval, y27, vint, qF, h60, h61, GT.gt, decide_false] <;> with_reducible rfl) (by decide) ?_
    repeat (refine awp_seq ?_)
    refine e_eval (by simp only [jA, jO, jN, seval, y31, vint, qF, h60, h61, GT.gt, decide_false] <;> with_reducible rfl) (by decide) ?_
    repeat (refine awp_seq ?_)
    refine awp_cond rfl (by simp only [jN, seval, vint, qF, h60, h61, GT.gt, decide_false] <;> with_reducible rfl) (fun bt53 => ?_) (fun bt53 => ?_)
    ·
      have hv : validG 100 ns ≠ 0 := by simpa using bt53
      have e1 : insR ns t = ([], 0, validG 100 ns) := by unfold insR; rw [if_neg hv]
      have e2 := treR_bad (i := x) hv
      rw [e1, e2]
      repeat (refine awp_seq ?_)
      refine awp_region ?_
      refine aops_gstart ?_
      refine g_take 2 (by simp only [jG, jO, jN, seval, y24, vint, qF, h60, h61, GT.gt, decide_false] <;> with_reducible rfl) (by decide) ?_
      refine aops_gpure (by simp only [jE, jN, seval, vint, qF, h60, h61, GT.gt, decide_false] <;> with_reducible rfl) (by simp only [jE, jN, seval, vint, qF, h60, h61, GT.gt, decide_false] <;> with_reducible rfl) (by simp only [jE, jN, seval, vint, qF, h60, h61, GT.gt, decide_false]) (by decide) Trygo11 (fun hc => sameA [] (by decide) (by simp) _) ?_
      refine g_take 12 (by simp only [jG, jO, jN, seval, y3, y27, y31, vint, qF, h60, h61, GT.gt, decide_false] <;> with_reducible rfl) (by decide) ?_
      refine aops_gpure (by simp only [jE, jN, seval, vint, qF, h60, h61, GT.gt, decide_false] <;> with_reducible rfl) (by simp only [jE, jN, seval, vint, qF, h60, h61, GT.gt, decide_false] <;> with_reducible rfl) (by simp only [jE, jN, seval, vint, qF, h60, h61, GT.gt, decide_false]) (by decide) Trygo12 (fun hc => sameT0 _) ?_
      refine g_end (by simp only [jG, jO, jN, seval, y31, vint, qF, h60, h61, GT.gt, decide_false] <;> with_reducible rfl) (by decide) (by repeat (first | exact Fin.base _ | with_reducible apply Fin.keep | apply Fin.drop)) ?_
      repeat (refine awp_seq ?_)
      refine awp_ret ⟨.inr rfl, _, rfl, ?_⟩
      simp only [jN, seval, vint, qF]
    ·
      have hv : validG 100 ns = 0 := by simpa using bt53
      have hAv := validG_ArV hv
      repeat (refine awp_seq ?_)
      refine awp_skip ?_
      repeat (refine awp_seq ?_)
      refine awp_region ?_
      refine e_take 1 (by simp only [jA, jO, jN, seval, y27, vint, qF, h60, h61, GT.gt, decide_false] <;> with_reducible rfl) (by decide) ?_
      refine aops_pure (by simp only [jC, jN, seval, vint, qF, h60, h61, GT.gt, decide_false] <;> with_reducible rfl) (by simp only [jC, jN, seval, vint, qF, h60, h61, GT.gt, decide_false]) (by decide) Trygo13 (trv_k _ t (Nat.le_refl _) hw _) ?_
      refine aops_nil ?_
      repeat (refine awp_seq ?_)
      refine awp_cond rfl (by simp only [jN, seval, vint, qF, h60, h61, GT.gt, decide_false] <;> with_reducible rfl) (fun bt77 => ?_) (fun bt77 => ?_)
      ·
        have e1 : insR ns t = ((insT t ns).1, (insT t ns).2, 0) := by unfold insR; rw [if_pos hv, if_pos bt77]
        rw [e1]
        repeat (refine awp_seq ?_)
        refine awp_region ?_
        refine e_take 2 (by simp only [jA, jO, jN, seval, y24, y27, vint, qF, h60, h61, GT.gt, decide_false] <;> with_reducible rfl) (by decide) ?_
        refine aops_pure (by simp only [jC, jN, seval, vint, qF, h60, h61, GT.gt, decide_false] <;> with_reducible rfl) (by simp only [jC, jN, seval, vint, qF, h60, h61, GT.gt, decide_false]) (by decide) Trygo14 (arIns_k _ t (Nat.le_refl _) hw ns hW2 (by omega) _) ?_
        refine e_end (by simp only [jA, jO, jN, seval, y24, vint, qF, h60, h61, GT.gt, decide_false] <;> with_reducible rfl) (by decide) ?_
        refine awp_sel [2, 3, 8, 9, 10, 11, 12, 13, 14] (by simp only [jN, seval, vint, qF, h60, h61, GT.gt, decide_false] <;> with_reducible rfl) ?_
        repeat (refine awp_seq ?_)
        refine awp_region ?_
        refine aops_gstart ?_
        refine g_take 2 (by simp only [jG, jO, jN, seval, y24, vint, qF, h60, h61, GT.gt, decide_false] <;> with_reducible rfl) (by decide) ?_
        refine aops_gpure (by simp only [jE, jN, seval, vint, qF, h60, h61, GT.gt, decide_false] <;> with_reducible rfl) (by simp only [jE, jN, seval, vint, qF, h60, h61, GT.gt, decide_false] <;> with_reducible rfl) (by simp only [jE, jN, seval, vint, qF, h60, h61, GT.gt, decide_false]) (by decide) Trygo11 (fun hc => sameA (insT t ns).1 (by have := insT_len t ns; omega) (insT_W hw hW2) _) ?_
        refine g_end (by simp only [jG, jO, jN, seval, y3, y31, vint, qF, h60, h61, GT.gt, decide_false] <;> with_reducible rfl) (by decide) (by repeat (first | exact Fin.base _ | with_reducible apply Fin.keep | apply Fin.drop)) ?_
        repeat (refine awp_seq ?_)
        refine awp_cond_false rfl (by simp only [jN, seval, vint, qF, h60, h61, GT.gt, decide_false] <;> with_reducible rfl) ?_
        repeat (refine awp_seq ?_)
        refine awp_skip ?_
        repeat (refine awp_seq ?_)
        refine g_eval (by simp only [jG, jO, jN, seval, y3, y22, y24, y48, vint, qF, h60, h61, GT.gt, decide_false] <;> with_reducible rfl) (by decide) (by repeat (first | exact Fin.base _ | with_reducible apply Fin.keep | apply Fin.drop)) ?_
        repeat (refine awp_seq ?_)
        refine awp_cond rfl (by simp only [jN, seval, vint, qF, h60, h61, GT.gt, decide_false] <;> with_reducible rfl) (fun bt117 => ?_) (fun bt117 => ?_)
        ·
          have hx : x < 0 ∨ x ≥ ns.length := by simp only [Bool.or_eq_true, decide_eq_true_eq] at bt117; omega
          rw [treR_out hv hx]
          refine awp_sel [11, 12] (by simp only [jN, seval, vint, qF, h60, h61, GT.gt, decide_false] <;> with_reducible rfl) ?_
          repeat (refine awp_seq ?_)
          refine awp_region ?_
          refine aops_gstart ?_
          refine g_take 2 (by simp only [jG, jO, jN, seval, y27, vint, qF, h60, h61, GT.gt, decide_false] <;> with_reducible rfl) (by decide) ?_
          refine aops_gpure (by simp only [jE, jN, seval, vint, qF, h60, h61, GT.gt, decide_false] <;> with_reducible rfl) (by simp only [jE, jN, seval, vint, qF, h60, h61, GT.gt, decide_false] <;> with_reducible rfl) (by simp only [jE, jN, seval, vint, qF, h60, h61, GT.gt, decide_false]) (by decide) Trygo12 (fun hc => sameT0 _) ?_
          refine g_end (by simp only [jG, jO, jN, seval, y31, vint, qF, h60, h61, GT.gt, decide_false] <;> with_reducible rfl) (by decide) (by repeat (first | exact Fin.base _ | with_reducible apply Fin.keep | apply Fin.drop)) ?_
          repeat (refine awp_seq ?_)
          refine awp_ret ⟨.inr rfl, _, rfl, ?_⟩
          simp only [jN, seval, vint, qF]
        ·
          have hx : ¬ (x < 0 ∨ x ≥ ns.length) := by simp only [Bool.or_eq_false_iff, decide_eq_false_iff_not] at bt117; omega
          repeat (refine awp_seq ?_)
          refine awp_skip ?_
          refine awp_sel [2, 3, 11, 12] (by simp only [jN, seval, vint, qF, h60, h61, GT.gt, decide_false] <;> with_reducible rfl) ?_
          repeat (refine awp_seq ?_)
          refine awp_region ?_
          refine e_take 2 (by simp only [jA, jO, jN, seval, y24, vint, qF, h60, h61, GT.gt, decide_false] <;> with_reducible rfl) (by decide) ?_
          refine aops_pure (by simp only [jC, jN, seval, vint, qF, h60, h61, GT.gt, decide_false] <;> with_reducible rfl) (by simp only [jC, jN, seval, vint, qF, h60, h61, GT.gt, decide_false]) (by decide) Trygo15 (arSz ns hW2 hAv hl x (by omega) (by omega) _) ?_
          refine e_end (by simp only [jA, jO, jN, seval, y3, vint, qF, h60, h61, GT.gt, decide_false] <;> with_reducible rfl) (by decide) ?_
          repeat (refine awp_seq ?_)
          refine awp_cond rfl (by simp only [jN, seval, vint, qF, h60, h61, GT.gt, decide_false] <;> with_reducible rfl) (fun bt128 => ?_) (fun bt128 => ?_)
          ·
            have hz : sizN ns (x.toNat + 1) x > 4000 := by simp only [decide_eq_true_eq] at bt128; omega
            rw [treR_big hv hx hz]
            repeat (refine awp_seq ?_)
            refine awp_region ?_
            refine aops_gstart ?_
            refine g_take 2 (by simp only [jG, jO, jN, seval, y27, vint, qF, h60, h61, GT.gt, decide_false] <;> with_reducible rfl) (by decide) ?_
            refine aops_gpure (by simp only [jE, jN, seval, vint, qF, h60, h61, GT.gt, decide_false] <;> with_reducible rfl) (by simp only [jE, jN, seval, vint, qF, h60, h61, GT.gt, decide_false] <;> with_reducible rfl) (by simp only [jE, jN, seval, vint, qF, h60, h61, GT.gt, decide_false]) (by decide) Trygo12 (fun hc => sameT0 _) ?_
            refine g_end (by simp only [jG, jO, jN, seval, y31, vint, qF, h60, h61, GT.gt, decide_false] <;> with_reducible rfl) (by decide) (by repeat (first | exact Fin.base _ | with_reducible apply Fin.keep | apply Fin.drop)) ?_
            repeat (refine awp_seq ?_)
            refine awp_ret ⟨.inr rfl, _, rfl, ?_⟩
            simp only [jN, seval, vint, qF]
          ·
            have hz : sizN ns (x.toNat + 1) x ≤ 4000 := by simp only [decide_eq_false_iff_not] at bt128; omega
            rw [treR_ok hv hx hz]
            repeat (refine awp_seq ?_)
            refine awp_skip ?_
            repeat (refine awp_seq ?_)
            refine dp_draw (by kernel_rfl) ?_
            refine dp_take 6 (by simp only [jP, jO, jN, seval, y24, y27, y31, vint, qF, h60, h61, GT.gt, decide_false] <;> with_reducible rfl) (by decide) ?_
            refine dp_keep (by simp only [jE, jN, seval, vint, qF, h60, h61, GT.gt, decide_false] <;> with_reducible rfl) (by simp only [jE, jN, seval, vint, qF, h60, h61, GT.gt, decide_false] <;> with_reducible rfl) (by simp only [jE, jN, seval, vint, qF, h60, h61, GT.gt, decide_false]) (by decide) Trygo16 (fun hc => arTree_k ns hW2 hAv (x.toNat + 1) x (by omega) (by omega) (by omega) hz _) ?_
            refine dp_keep (by simp only [jE, jN, seval, vint, qF, h60, h61, GT.gt, decide_false] <;> with_reducible rfl) (by simp only [jE, jN, seval, vint, qF, h60, h61, GT.gt, decide_false] <;> with_reducible rfl) (by simp only [jE, jN, seval, vint, qF, h60, h61, GT.gt, decide_false]) (by decide) Trygo12 (fun hc => sameT _ (treN ns (x.toNat + 1) x) (Nat.le_refl _) (by rw [treN_size]; omega) _) ?_
            refine dp_end (by simp only [jP, jO, jN, seval, vint, qF, h60, h61, GT.gt, decide_false] <;> with_reducible rfl) (by decide) (by repeat (first | exact Fin.base _ | with_reducible apply Fin.keep | apply Fin.drop)) ?_
            repeat (refine awp_seq ?_)
            refine awp_ret ⟨.inr rfl, _, rfl, ?_⟩
            simp only [jN, seval, vint, qF]
      ·
        have e1 : insR ns t = ([], 0, 3) := by unfold insR; rw [if_pos hv, if_neg (by rw [bt77]; simp)]
        rw [e1]
        repeat (refine awp_seq ?_)
        refine awp_region ?_
        refine aops_gstart ?_
        refine g_take 2 (by simp only [jG, jO, jN, seval, y24, vint, qF, h60, h61, GT.gt, decide_false] <;> with_reducible rfl) (by decide) ?_
        refine aops_gpure (by simp only [jE, jN, seval, vint, qF, h60, h61, GT.gt, decide_false] <;> with_reducible rfl) (by simp only [jE, jN, seval, vint, qF, h60, h61, GT.gt, decide_false] <;> with_reducible rfl) (by simp only [jE, jN, seval, vint, qF, h60, h61, GT.gt, decide_false]) (by decide) Trygo11 (fun hc => sameA [] (by decide) (by simp) _) ?_
        refine g_end (by simp only [jG, jO, jN, seval, y3, y31, vint, qF, h60, h61, GT.gt, decide_false] <;> with_reducible rfl) (by decide) (by repeat (first | exact Fin.base _ | with_reducible apply Fin.keep | apply Fin.drop)) ?_
        repeat (refine awp_seq ?_)
        refine awp_cond_false rfl (by simp only [jN, seval, vint, qF, h60, h61, GT.gt, decide_false] <;> with_reducible rfl) ?_
        repeat (refine awp_seq ?_)
        refine awp_skip ?_
        refine awp_sel [2, 3, 11, 12] (by simp only [jN, seval, vint, qF, h60, h61, GT.gt, decide_false] <;> with_reducible rfl) ?_
        repeat (refine awp_seq ?_)
        refine g_eval (by simp only [jG, jO, jN, seval, y3, y22, y24, y48, vint, qF, h60, h61, GT.gt, decide_false] <;> with_reducible rfl) (by decide) (by repeat (first | exact Fin.base _ | with_reducible apply Fin.keep | apply Fin.drop)) ?_
        repeat (refine awp_seq ?_)
        refine awp_cond rfl (by simp only [jN, seval, vint, qF, h60, h61, GT.gt, decide_false] <;> with_reducible rfl) (fun bt117 => ?_) (fun bt117 => ?_)
        ·
          have hx : x < 0 ∨ x ≥ ns.length := by simp only [Bool.or_eq_true, decide_eq_true_eq] at bt117; omega
          rw [treR_out hv hx]
          repeat (refine awp_seq ?_)
          refine awp_region ?_
          refine aops_gstart ?_
          refine g_take 2 (by simp only [jG, jO, jN, seval, y27, vint, qF, h60, h61, GT.gt, decide_false] <;> with_reducible rfl) (by decide) ?_
          refine aops_gpure (by simp only [jE, jN, seval, vint, qF, h60, h61, GT.gt, decide_false] <;> with_reducible rfl) (by simp only [jE, jN, seval, vint, qF, h60, h61, GT.gt, decide_false] <;> with_reducible rfl) (by simp only [jE, jN, seval, vint, qF, h60, h61, GT.gt, decide_false]) (by decide) Trygo12 (fun hc => sameT0 _) ?_
          refine g_end (by simp only [jG, jO, jN, seval, y31, vint, qF, h60, h61, GT.gt, decide_false] <;> with_reducible rfl) (by decide) (by repeat (first | exact Fin.base _ | with_reducible apply Fin.keep | apply Fin.drop)) ?_
          repeat (refine awp_seq ?_)
          refine awp_ret ⟨.inr rfl, _, rfl, ?_⟩
          simp only [jN, seval, vint, qF]
        ·
          have hx : ¬ (x < 0 ∨ x ≥ ns.length) := by simp only [Bool.or_eq_false_iff, decide_eq_false_iff_not] at bt117; omega
          repeat (refine awp_seq ?_)
          refine awp_skip ?_
          repeat (refine awp_seq ?_)
          refine awp_region ?_
          refine e_take 2 (by simp only [jA, jO, jN, seval, y24, vint, qF, h60, h61, GT.gt, decide_false] <;> with_reducible rfl) (by decide) ?_
          refine aops_pure (by simp only [jC, jN, seval, vint, qF, h60, h61, GT.gt, decide_false] <;> with_reducible rfl) (by simp only [jC, jN, seval, vint, qF, h60, h61, GT.gt, decide_false]) (by decide) Trygo15 (arSz ns hW2 hAv hl x (by omega) (by omega) _) ?_
          refine e_end (by simp only [jA, jO, jN, seval, y3, vint, qF, h60, h61, GT.gt, decide_false] <;> with_reducible rfl) (by decide) ?_
          repeat (refine awp_seq ?_)
          refine awp_cond rfl (by simp only [jN, seval, vint, qF, h60, h61, GT.gt, decide_false] <;> with_reducible rfl) (fun bt128 => ?_) (fun bt128 => ?_)
          ·
            have hz : sizN ns (x.toNat + 1) x > 4000 := by simp only [decide_eq_true_eq] at bt128; omega
            rw [treR_big hv hx hz]
            repeat (refine awp_seq ?_)
            refine awp_region ?_
            refine aops_gstart ?_
            refine g_take 2 (by simp only [jG, jO, jN, seval, y27, vint, qF, h60, h61, GT.gt, decide_false] <;> with_reducible rfl) (by decide) ?_
            refine aops_gpure (by simp only [jE, jN, seval, vint, qF, h60, h61, GT.gt, decide_false] <;> with_reducible rfl) (by simp only [jE, jN, seval, vint, qF, h60, h61, GT.gt, decide_false] <;> with_reducible rfl) (by simp only [jE, jN, seval, vint, qF, h60, h61, GT.gt, decide_false]) (by decide) Trygo12 (fun hc => sameT0 _) ?_
            refine g_end (by simp only [jG, jO, jN, seval, y31, vint, qF, h60, h61, GT.gt, decide_false] <;> with_reducible rfl) (by decide) (by repeat (first | exact Fin.base _ | with_reducible apply Fin.keep | apply Fin.drop)) ?_
            repeat (refine awp_seq ?_)
            refine awp_ret ⟨.inr rfl, _, rfl, ?_⟩
            simp only [jN, seval, vint, qF]
          ·
            have hz : sizN ns (x.toNat + 1) x ≤ 4000 := by simp only [decide_eq_false_iff_not] at bt128; omega
            rw [treR_ok hv hx hz]
            repeat (refine awp_seq ?_)
            refine awp_skip ?_
            repeat (refine awp_seq ?_)
            refine dp_draw (by kernel_rfl) ?_
            refine dp_take 6 (by simp only [jP, jO, jN, seval, y24, y27, y31, vint, qF, h60, h61, GT.gt, decide_false] <;> with_reducible rfl) (by decide) ?_
            refine dp_keep (by simp only [jE, jN, seval, vint, qF, h60, h61, GT.gt, decide_false] <;> with_reducible rfl) (by simp only [jE, jN, seval, vint, qF, h60, h61, GT.gt, decide_false] <;> with_reducible rfl) (by simp only [jE, jN, seval, vint, qF, h60, h61, GT.gt, decide_false]) (by decide) Trygo16 (fun hc => arTree_k ns hW2 hAv (x.toNat + 1) x (by omega) (by omega) (by omega) hz _) ?_
            refine dp_keep (by simp only [jE, jN, seval, vint, qF, h60, h61, GT.gt, decide_false] <;> with_reducible rfl) (by simp only [jE, jN, seval, vint, qF, h60, h61, GT.gt, decide_false] <;> with_reducible rfl) (by simp only [jE, jN, seval, vint, qF, h60, h61, GT.gt, decide_false]) (by decide) Trygo12 (fun hc => sameT _ (treN ns (x.toNat + 1) x) (Nat.le_refl _) (by rw [treN_size]; omega) _) ?_
            refine dp_end (by simp only [jP, jO, jN, seval, vint, qF, h60, h61, GT.gt, decide_false] <;> with_reducible rfl) (by decide) (by repeat (first | exact Fin.base _ | with_reducible apply Fin.keep | apply Fin.drop)) ?_
            repeat (refine awp_seq ?_)
            refine awp_ret ⟨.inr rfl, _, rfl, ?_⟩
            simp only [jN, seval, vint, qF]

end Go.Abs
namespace Go.Abs

/-! From a reading of the arguments to the trees, and back. -/

/-- A world as it is handed to a call: all that lies in it stays. -/
def env0 (W : World) : Env := { w := W, κ := fun _ => .fixed, ρ := fun _ => 0, tb := fun _ => none, H := [] }
theorem env0_ok (W : World) : (env0 W).Ok := by
  constructor
  · intro id cs h; simp [env0] at h
  · intro id n sz b h; simp [env0] at h
  · intro id id' cs cs' h; simp [env0] at h
  · intro id id' n sz n' sz' b h; simp [env0] at h
theorem env0_cell (W : World) (a : Addr) : (env0 W).view.cell a = W.cell? a := rfl

theorem calls_of_pc {P : Program} {f : FuncId} {args : List PV} {b : Bool} (h : PC P f args (.bool b)) (W : World) (vargs : Array Value) (hr : RL (env0 W).view vargs args) :
    Calls P f vargs W fun e w' => e = .returned (.bool b) ∧ Go.RowKit.Below W.heap.size W w' := by
  refine (h [] (env0 W) vargs (env0_ok W) rfl hr).mono ?_
  rintro e w' ⟨E', v, r, rfl, rfl, hle, hok, hv, rfl, _⟩
  refine ⟨by rw [hv.bool_inv], hle.os, hle.tape, hle.output, hle.size, fun k hk => (hle.other k hk ?_ ?_).2⟩
  · rintro ⟨id, cs, h, _⟩; simp [env0] at h
  · rintro ⟨id, n, sz, h, _⟩; simp [env0] at h

def RLl (V : View) (cs : List Value) (ps : List PV) : Prop := cs.length = ps.length ∧ ∀ i (h : i < ps.length), VRel V (cs.getD i undef) ps[i]

theorem RLl.nil {V : View} : RLl V [] [] := ⟨rfl, fun i h => by cases h⟩
theorem RLl.cons {V : View} {c : Value} {cs : List Value} {p : PV} {ps : List PV} (h : VRel V c p) (hs : RLl V cs ps) : RLl V (c :: cs) (p :: ps) := by
  refine ⟨by simp [hs.1], fun i hi => ?_⟩
  cases i with
  | zero => exact h
  | succ i => exact hs.2 i (by simpa using hi)
theorem RLl.app {V : View} {c1 c2 : List Value} {p1 p2 : List PV} (h1 : RLl V c1 p1) (h2 : RLl V c2 p2) : RLl V (c1 ++ c2) (p1 ++ p2) := by
  refine ⟨by simp [h1.1, h2.1], fun i hi => ?_⟩
  by_cases h : i < p1.length
  · have := h1.2 i h
    simp only [List.getD_eq_getElem?_getD] at this ⊢
    rw [List.getElem?_append_left (by rw [h1.1]; exact h), List.getElem_append_left h]; exact this
  · have := h2.2 (i - p1.length) (by simp at hi; omega)
    simp only [List.getD_eq_getElem?_getD] at this ⊢
    rw [List.getElem?_append_right (by rw [h1.1]; omega), List.getElem_append_right (by omega), h1.1]; exact this
theorem RLl.agg {V : View} {arr : Array Value} {ps : List PV} (h : RLl V arr.toList ps) : VRel V (.agg arr) (.agg ps) := by
  refine .agg _ _ (by have := h.1; simpa using this) fun i hi => ?_
  have := h.2 i hi
  rw [List.getD_eq_getElem?_getD, Array.getElem?_toList] at this
  rw [Array.getD_eq_getD_getElem?]; exact this
theorem RLl.one {V : View} {v : Value} {p : PV} (h : RLl V [v] [p]) : VRel V v p := h.2 0 (by simp)

theorem exists_list {α : Type} {n : Nat} {p : Nat → α → Prop} (h : ∀ i, i < n → ∃ a, p i a) : ∃ xs : List α, xs.length = n ∧ ∀ i (hi : i < xs.length), p i xs[i] := by
  induction n with
  | zero => exact ⟨[], rfl, fun i hi => by cases hi⟩
  | succ n ih =>
    obtain ⟨xs, h1, h2⟩ := ih fun i hi => h i (by omega)
    obtain ⟨a, ha⟩ := h n (by omega)
    refine ⟨xs ++ [a], by simp [h1], fun i hi => ?_⟩
    by_cases hlt : i < xs.length
    · rw [List.getElem_append_left hlt]; exact h2 i hlt
    · rw [List.getElem_append_right (by omega)]
      simp at hi
      obtain rfl : i = n := by omega
      simpa using ha

/-- A list and the data of a slice. -/
def SlD {α : Type} {H : Type} (D : α → DataW H → Prop) (xs : List α) (d : DataW H) : Prop :=
  (xs = [] ∧ d = .nil) ∨ ∃ els sp, d = .slice els sp ∧ xs.length = els.length ∧ ∀ i (h1 : i < xs.length) (h2 : i < els.length), D xs[i] els[i]

section
variable {H : Type} {enc : TypeId × Value → H} {P : Program} {W : World} {spare : Nat → Bool} {held : Bool}

theorem rd_slice {α : Type} (en : α → PV) (D : α → DataW H → Prop) {t e : TypeId} {fuel : Nat} {cs : List Value} {x : DataW H × List MemPlace} (ht : P.underlying t = some (.slice e)) (hsz : ∀ a, (en a).cells.length = P.cellsOf e)
    (h : DataW.trod enc P W 0 spare held fuel t cs = some x) (ih : ∀ n cs' x', n < fuel → DataW.trod enc P W 0 spare held n e cs' = some x' → ∃ a, RLl (env0 W).view cs' (en a).cells ∧ D a x'.1) :
    ∃ (xs : List α) (v : Value), cs = [v] ∧ VRel (env0 W).view v (.slice (xs.map en) .none) ∧ SlD D xs x.1 := by
  rcases DataW.trod_slice ht h with ⟨rfl, rfl⟩ | ⟨a, len, cap, elems, rest, n, rfl, rfl, rfl, hb, hl, hm, hlen, hel, _, _⟩
  · exact ⟨[], _, rfl, .nils .none trivial, .inl ⟨rfl, rfl⟩⟩
  · obtain ⟨ys, hys, hp⟩ := exists_list (α := α × List Value) (n := len) (p := fun i y => W.cells? 0 (a.add (i * P.cellsOf e)) (P.cellsOf e) = some y.2 ∧ RLl (env0 W).view y.2 (en y.1).cells ∧ ∀ h : i < elems.length, D y.1 elems[i].1) (fun i hi => by
      have := hel i hi
      rw [List.getElem?_eq_getElem (by omega)] at this
      obtain ⟨cs', h1, h2⟩ := Option.bind_eq_some_iff.1 this
      obtain ⟨y, h3, h4⟩ := ih n cs' _ (by omega) h2
      exact ⟨(y, cs'), h1, h3, fun _ => h4⟩)
    refine ⟨ys.map (·.1), _, rfl, ?_, .inr ⟨_, _, rfl, by simp [hys, hlen], fun i h1 h2 => ?_⟩⟩
    · have hget : ∀ i (hi : i < ys.length), ys[i]? = some ys[i] := fun i hi => List.getElem?_eq_getElem hi
      refine .slice a len cap (P.cellsOf e) _ .none (fun i j => match ys[i]? with | some y => y.2.getD j undef | none => undef) (by simp [hys]) hl hm ?_ ?_ ?_ trivial
      · intro i hi; simp only [List.getElem_map]; exact hsz _
      · intro i j hi hj
        have hi' : i < ys.length := by omega
        obtain ⟨h1, h2, _⟩ := hp i hi'
        obtain ⟨_, h4, h5⟩ := World.cells?_some h1
        have := h5 j hj
        rw [hget i hi']
        simp only
        rw [env0_cell, ← add_add, this, List.getD_eq_getElem?_getD, List.getElem?_eq_getElem (by omega)]; rfl
      · intro i j hi hj
        have hi' : i < ys.length := by simpa using hi
        simp only [List.getElem_map] at hj ⊢
        rw [hget i hi']
        exact (hp i hi').2.1.2 j hj
    · simp only [List.getElem_map]
      exact (hp i (by simpa using h1)).2.2 _

/-- The field of a structure. -/
theorem rd_fields {t : TypeId} {fs : Array Field} {fuel : Nat} {cs : List Value} {x : DataW H × List MemPlace} (ht : P.underlying t = some (.struct fs)) (h : DataW.trod enc P W 0 spare held fuel t cs = some x) :
    ∃ (ds : List (DataW H)) (n : Nat), fuel = n + 1 ∧ x.1 = .agg ds ∧ cs.length = P.cellsOf t ∧ ds.length = fs.size ∧ ∀ (i : Nat) (f : Field), fs[i]? = some f → ∃ d ps, ds[i]? = some d ∧ DataW.trod enc P W 0 spare held n f.type ((cs.drop f.offset).take (P.cellsOf f.type)) = some (d, ps) := by
  obtain ⟨xs, n, h1, rfl, h3, h4, h5⟩ := DataW.trod_struct ht h
  refine ⟨xs.map (·.1), n, h1, rfl, h3, by simpa using h4, fun i f hf => ?_⟩
  have hi : i < xs.length := by
    rw [h4]
    rcases Nat.lt_or_ge i fs.size with hl | hl
    · exact hl
    · rw [Array.getElem?_eq_none hl] at hf; cases hf
  have := h5 i f hf
  rw [List.getElem?_eq_getElem hi] at this
  exact ⟨xs[i].1, xs[i].2, by simp [hi], this⟩

theorem rd_int {t : TypeId} {k : IntKind} {fuel : Nat} {cs : List Value} {x : DataW H × List MemPlace} (ht : P.underlying t = some (.int k)) (h : DataW.trod enc P W 0 spare held fuel t cs = some x) : ∃ n, RLl (env0 W).view cs [.int k n] ∧ x.1 = .lit (.int k n) ∧ (Lit.int k n).wf = true ∧ cs = [.int k n] := by
  obtain ⟨n, rfl, rfl, h3⟩ := DataW.trod_int ht h
  exact ⟨n, .cons (.int _ _) .nil, rfl, h3, rfl⟩
theorem rd_bool {t : TypeId} {fuel : Nat} {cs : List Value} {x : DataW H × List MemPlace} (ht : P.underlying t = some .bool) (h : DataW.trod enc P W 0 spare held fuel t cs = some x) : ∃ b, RLl (env0 W).view cs [.bool b] ∧ x.1 = .lit (.bool b) := by
  obtain ⟨n, rfl, rfl⟩ := DataW.trod_bool ht h
  exact ⟨n, .cons (.bool _) .nil, rfl⟩
theorem rd_string {t : TypeId} {fuel : Nat} {cs : List Value} {x : DataW H × List MemPlace} (ht : P.underlying t = some .string) (h : DataW.trod enc P W 0 spare held fuel t cs = some x) : ∃ s : List UInt8, RLl (env0 W).view cs [.str s] ∧ x.1 = .lit (.string s) ∧ s.length ≤ maxLen := by
  obtain ⟨s, rfl, rfl, h3⟩ := DataW.trod_string ht h
  exact ⟨s.data.toList, .cons (.str _) .nil, rfl, by simpa using h3⟩
end

/-- The data of a type. -/
inductive TyD {H : Type} : Ty → DataW H → Prop
  | nil (k i : Int) : TyD (.mk k i []) (.agg [.lit (.int .i64 k), .lit (.int .i64 i), .nil])
  | slice (k i : Int) (xs : List Ty) (es sp : List (DataW H)) (hl : xs.length = es.length) (h : ∀ j (h1 : j < xs.length) (h2 : j < es.length), TyD xs[j] es[j]) : TyD (.mk k i xs) (.agg [.lit (.int .i64 k), .lit (.int .i64 i), .slice es sp])
theorem TyD.of {H : Type} {k i : Int} {xs : List Ty} {d : DataW H} (h : SlD TyD xs d) : TyD (.mk k i xs) (.agg [.lit (.int .i64 k), .lit (.int .i64 i), d]) := by
  rcases h with ⟨rfl, rfl⟩ | ⟨es, sp, rfl, h1, h2⟩
  · exact .nil k i
  · exact .slice k i xs es sp h1 h2

/-- The facts on a program's type 'api.Type' that a reading looks at. -/
structure TyAt (P : Program) (T S : TypeId) : Prop where
  st : ∃ f0 f1 f2 : Field, P.underlying T = some (.struct #[f0, f1, f2]) ∧ P.underlying f0.type = some (.int .i64) ∧ P.underlying f1.type = some (.int .i64) ∧ f2.type = S ∧ f0.offset = 0 ∧ f1.offset = 1 ∧ f2.offset = 2 ∧ P.cellsOf f0.type = 1 ∧ P.cellsOf f1.type = 1
  sl : P.underlying S = some (.slice T)
  c : P.cellsOf T = 3
  cs : P.cellsOf S = 1
  by40 : P.bytesOf T = 40

section
variable {H : Type} {enc : TypeId × Value → H} {P : Program} {W : World} {spare : Nat → Bool} {held : Bool} {T S : TypeId}

theorem rd_ty (F : TyAt P T S) : ∀ (fuel : Nat) (cs : List Value) (x : DataW H × List MemPlace), DataW.trod enc P W 0 spare held fuel T cs = some x → ∃ t : Ty, RLl (env0 W).view cs t.enc.cells ∧ TyD t x.1 := by
  intro fuel
  induction fuel using Nat.strongRecOn with
  | _ fuel ih =>
  intro cs x h
  obtain ⟨f0, f1, f2, hst, u0, u1, e2, o0, o1, o2, c0, c1⟩ := F.st
  obtain ⟨ds, n, rfl, hx, hlen, hdl, hf⟩ := rd_fields hst h
  rw [F.c] at hlen
  match cs, hlen with
  | [v0, v1, v2], _ =>
  obtain ⟨d0, p0, g0, r0⟩ := hf 0 f0 rfl
  obtain ⟨d1, p1, g1, r1⟩ := hf 1 f1 rfl
  obtain ⟨d2, p2, g2, r2⟩ := hf 2 f2 rfl
  rw [o0, c0] at r0
  rw [o1, c1] at r1
  rw [o2, e2, F.cs] at r2
  obtain ⟨k, q0, rfl, w0, _⟩ := rd_int u0 r0
  obtain ⟨i, q1, rfl, w1, _⟩ := rd_int u1 r1
  obtain ⟨xs, v, hv, hr, hd⟩ := rd_slice Ty.enc TyD F.sl (fun a => by rw [F.c, Ty.enc_len]) r2 (fun m cs' x' hm h' => ih m (by omega) cs' x' h')
  simp only [List.drop_succ_cons, List.drop_zero, List.take_succ_cons, List.take_zero, List.cons.injEq, and_true] at hv
  subst hv
  refine ⟨.mk k i xs, ?_, ?_⟩
  · rw [Ty.enc_cells]
    exact .cons q0.one (.cons q1.one (.cons hr .nil))
  · rw [hx]
    have : ds = [.lit (.int .i64 k), .lit (.int .i64 i), d2] := by
      match ds, hdl with
      | [a, b, c], _ =>
        simp at g0 g1 g2
        rw [g0, g1, g2]
    rw [this]
    exact .of hd

/-- No list of arguments is longer than the row's own bound bears. -/
theorem ty_weights (F : TyAt P T S) {t : Ty} {d : DataW H} (h : TyD t d) (hw : (d.weights P T).all (· ≤ reachBytes) = true) : t.W := by
  obtain ⟨f0, f1, f2, hst, u0, u1, e2, _⟩ := F.st
  induction h with
  | nil k i => exact .mk (by simp) (by simp)
  | slice k i xs es sp hl h ih =>
    simp only [DataW.weights, hst, DataW.weightsEach, List.map_cons, List.map_nil, e2, F.sl, F.by40, List.nil_append, List.append_nil, List.all_cons, List.all_append, Bool.and_eq_true, decide_eq_true_eq] at hw
    have hb : reachBytes = 140737488351232 := rfl
    refine .mk (by rw [hl]; have := hw.1; omega) fun u hu => ?_
    obtain ⟨j, hj, rfl⟩ := List.mem_iff_getElem.1 hu
    refine ih j hj (by omega) ?_
    have h2 := hw.2.1
    rw [List.all_eq_true] at h2 ⊢
    intro x hx
    refine h2 x ?_
    have hmem : ∀ (l : List (DataW H)) (e : DataW H), e ∈ l → x ∈ e.weights P T → x ∈ DataW.weightsAll P T l := by
      intro l
      induction l with
      | nil => intro e he; cases he
      | cons a l ihl =>
        intro e he hx
        simp only [DataW.weightsAll, List.mem_append]
        rcases List.mem_cons.1 he with rfl | he
        · exact .inl hx
        · exact .inr (ihl e he hx)
    exact hmem es _ (List.getElem_mem _) hx

theorem weights_mem {l : List (DataW H)} {e : TypeId} {d : DataW H} (hd : d ∈ l) (h : (DataW.weightsAll P e l).all (· ≤ reachBytes) = true) : (d.weights P e).all (· ≤ reachBytes) = true := by
  rw [List.all_eq_true] at h ⊢
  intro x hx
  refine h x ?_
  clear h
  induction l with
  | nil => cases hd
  | cons a l ih =>
    simp only [DataW.weightsAll, List.mem_append]
    rcases List.mem_cons.1 hd with rfl | hd
    · exact .inl hx
    · exact .inr (ih hd)

/-- A slice's elements and its length. -/
theorem sl_weights {α : Type} {D : α → DataW H → Prop} {Sl E : TypeId} (hs : P.underlying Sl = some (.slice E)) {xs : List α} {d : DataW H} (h : SlD D xs d) (hw : (d.weights P Sl).all (· ≤ reachBytes) = true) :
    xs.length * P.bytesOf E ≤ reachBytes ∧ ∀ a ∈ xs, ∃ d', D a d' ∧ (d'.weights P E).all (· ≤ reachBytes) = true := by
  rcases h with ⟨rfl, rfl⟩ | ⟨els, sp, rfl, h1, h2⟩
  · simp
  · simp only [DataW.weights, hs, List.all_cons, List.all_append, Bool.and_eq_true, decide_eq_true_eq] at hw
    refine ⟨?_, fun a ha => ?_⟩
    · rw [h1]
      refine Nat.le_trans (Nat.mul_le_mul_right _ (Nat.le_add_right _ _)) hw.1
    · obtain ⟨j, hj, rfl⟩ := List.mem_iff_getElem.1 ha
      exact ⟨_, h2 j hj (by omega), weights_mem (List.getElem_mem _) hw.2.1⟩
end
end Go.Abs
namespace Go.Abs
theorem RLl.rl {V : View} {arr : Array Value} {ps : List PV} (h : RLl V arr.toList ps) : RL V arr ps := by
  refine ⟨by have := h.1; simpa using this, fun i hi => ?_⟩
  have := h.2 i hi
  rw [List.getD_eq_getElem?_getD, Array.getElem?_toList] at this
  rw [Array.getD_eq_getD_getElem?]; exact this
theorem Ty.enc_agg (t : Ty) : PV.agg t.enc.cells = t.enc := by rw [Ty.enc_cells, Ty.enc_eq]
end Go.Abs
namespace Go.Abs
/-! The plain laws of chapter 'scheme'. -/
def mapT (g : Ty → Ty × Bool) : Ty → Ty
  | .mk k i us => if (g (.mk k i us)).2 then (g (.mk k i us)).1 else .mk k i (us.map fun u => mapT g u)
theorem mapT_eq (g : Ty → Ty × Bool) (t : Ty) : mapT g t = if (g t).2 then (g t).1 else .mk t.kind t.id (t.args.map (mapT g)) := by
  cases t; rw [mapT]; rfl
/-- What Apply's function value answers. -/
def appG (ps : List Int) (xs : List Ty) (u : Ty) : Ty × Bool :=
  if (!decide (u.kind = 2) || decide (idxI (fun x => decide (u.id = x)) ps < 0) || decide (idxI (fun x => decide (u.id = x)) ps ≥ xs.length)) = true then (u, false) else (xs.getD (idxI (fun x => decide (u.id = x)) ps).toNat (.mk 0 0 []), true)
def insG (ps : List Int) (v : Int) (u : Ty) : Ty × Bool :=
  if (!decide (u.kind = 2) || decide (idxI (fun x => decide (u.id = x)) ps < 0)) = true then (u, false) else (.mk 1 (IntKind.i64.wrap (v + idxI (fun x => decide (u.id = x)) ps)) [], true)
def cpar (p : Int) : Ty → Bool
  | .mk k i xs => (decide (k = 2) && decide (i = p)) || (xs.map fun a => cpar p a).any id
theorem cpar_eq (p : Int) (t : Ty) : cpar p t = ((decide (t.kind = 2) && decide (t.id = p)) || t.args.any (cpar p)) := by
  cases t; rw [cpar, List.any_map]; rfl
def mS0 (ps : List Int) : MSt := (List.replicate ps.length (.mk 0 0 []), List.replicate ps.length false)
theorem mS0_ok (ps : List Int) : MOk ps.length (mS0 ps) := ⟨by simp [mS0], by simp [mS0], fun a ha => by rw [List.eq_of_mem_replicate ha]; exact .mk (by simp) (by simp)⟩
/-- What Match answers. -/
def matchP (ps : List Int) (t p : Ty) : List Ty × Bool := if (matchT ps t p (mS0 ps)).1 = true then ((matchT ps t p (mS0 ps)).2.1, true) else ([], false)

theorem idxI_neg {ps : List Int} {n : Int} (h : n ∉ ps) : idxI (fun x => decide (n = x)) ps = -1 :=
  idxI_none (by rw [List.any_eq_false]; intro x hx; simp; rintro rfl; exact h hx)
theorem abs_map (ps : List Int) (g : Ty → Ty × Bool) (hg : ∀ u, ¬ (u.kind = 2 ∧ u.id ∈ ps) → (g u).2 = false) : ∀ t, (∀ p ∈ ps, cpar p t = false) → mapT g t = t
  | .mk k i us, h => by
    have h0 : ¬ (k = 2 ∧ i ∈ ps) := by
      rintro ⟨rfl, hi⟩
      have := h i hi
      rw [cpar_eq] at this
      simp [Ty.kind, Ty.id] at this
    rw [mapT, if_neg (by rw [hg (.mk k i us) h0]; simp)]
    congr 1
    have : ∀ u ∈ us, mapT g u = u := fun u hu => abs_map ps g hg u fun p hp => by
      have := h p hp
      rw [cpar_eq, Bool.or_eq_false_iff, List.any_eq_false] at this
      simpa using this.2 u hu
    rw [List.map_congr_left this, List.map_id'']
    intro x; rfl
theorem app_abs (ps : List Int) (xs : List Ty) (t : Ty) (h : (ps.any fun p => cpar p t) = false) : mapT (appG ps xs) t = t :=
  abs_map ps _ (fun u hu => by
    unfold appG
    rw [if_pos]
    by_cases hk : u.kind = 2
    · rw [idxI_neg fun hi => hu ⟨hk, hi⟩]; simp
    · simp [hk]) t (fun p hp => by rw [List.any_eq_false] at h; simpa using h p hp)
theorem ins_abs (ps : List Int) (v : Int) (t : Ty) (h : (ps.any fun p => cpar p t) = false) : mapT (insG ps v) t = t :=
  abs_map ps _ (fun u hu => by
    unfold insG
    rw [if_pos]
    by_cases hk : u.kind = 2
    · rw [idxI_neg fun hi => hu ⟨hk, hi⟩]; simp
    · simp [hk]) t (fun p hp => by rw [List.any_eq_false] at h; simpa using h p hp)

/-- The bound places of a state are those of a list. -/
def Agr (s : MSt) (xs : List Ty) : Prop := ∀ i, s.2.getD i false = true → xs.getD i .zero = s.1.getD i .zero

theorem getD_set {α : Type} (l : List α) (i j : Nat) (a d : α) (hi : i < l.length) : (l.set i a).getD j d = if j = i then a else l.getD j d := by
  simp only [List.getD_eq_getElem?_getD]
  by_cases h : j = i
  · subst h; rw [if_pos rfl, List.getElem?_set_self hi]; rfl
  · rw [if_neg h, List.getElem?_set_ne (Ne.symm h)]

/-- One state after another. -/
def MLe (s s' : MSt) : Prop := ∀ i, s.2.getD i false = true → s'.2.getD i false = true ∧ s'.1.getD i .zero = s.1.getD i .zero
theorem MLe.refl (s : MSt) : MLe s s := fun i h => ⟨h, rfl⟩
theorem MLe.trans {a b c : MSt} (h : MLe a b) (k : MLe b c) : MLe a c := fun i hi => ⟨(k i (h i hi).1).1, (k i (h i hi).1).2.trans (h i hi).2⟩
theorem Agr.mono {s s' : MSt} {xs : List Ty} (h : MLe s s') (k : Agr s' xs) : Agr s xs := fun i hi => (k i (h i hi).1).trans (h i hi).2

theorem matchL_le : ∀ (l : List (Ty × (Ty → MSt → Bool × MSt))) (s : MSt) {n : Nat}, MOk n s → (∀ x ∈ l, ∀ s, MOk n s → MOk n (x.2 x.1 s).2 ∧ MLe s (x.2 x.1 s).2) → MLe s (matchL l s).2
  | [], s, n, _, _ => .refl _
  | (a, f) :: r, s, n, hs, hl => by
    have h1 := hl _ (List.mem_cons_self ..) s hs
    unfold matchL
    split
    · exact h1.2.trans (matchL_le r _ h1.1 fun x hx => hl x (List.mem_cons_of_mem _ hx))
    · exact h1.2

theorem matchT_le (ps : List Int) : ∀ (p t : Ty) (s : MSt), t.W → MOk ps.length s → MLe s (matchT ps t p s).2
  | .mk pk pi us, t, s, hw, hs => by
    rw [matchT]
    split
    · rename_i hc
      rw [Bool.and_eq_true, decide_eq_true_eq, decide_eq_true_eq] at hc
      have hlt := idxI_lt hc.2
      have hk : (idxI (fun x => decide (pi = x)) ps).toNat < ps.length := by omega
      split
      · exact .refl _
      · rename_i hb
        intro i hi
        simp only [getD_set _ _ _ _ _ (show (idxI (fun x => decide (pi = x)) ps).toNat < s.1.length by rw [hs.l1]; exact hk), getD_set _ _ _ _ _ (show (idxI (fun x => decide (pi = x)) ps).toNat < s.2.length by rw [hs.l2]; exact hk)]
        have hne : i ≠ (idxI (fun x => decide (pi = x)) ps).toNat := by rintro rfl; exact hb hi
        rw [if_neg hne, if_neg hne]
        exact ⟨hi, rfl⟩
    · split
      · exact .refl _
      · refine matchL_le _ _ hs ?_
        rintro ⟨a, f⟩ hx s hs
        have hx1 := List.of_mem_zip hx
        obtain ⟨u, hu, rfl⟩ := List.mem_map.1 hx1.2
        exact ⟨matchT_ok ps u a s (hw.arg hx1.1) hs, matchT_le ps u a s (hw.arg hx1.1) hs⟩

/-- What a list of arguments that agrees with the state makes of the pattern. -/
theorem matchL_apply (ps : List Int) (xs : List Ty) (hn : xs.length = ps.length) : ∀ (ts us : List Ty) (s : MSt), ts.length = us.length → MOk ps.length s → (∀ t ∈ ts, t.W) →
    (∀ u ∈ us, ∀ (t : Ty) (s : MSt), t.W → MOk ps.length s → (matchT ps t u s).1 = true → Agr (matchT ps t u s).2 xs → mapT (appG ps xs) u = t) →
    (matchL (ts.zip (us.map fun u => fun a s => matchT ps a u s)) s).1 = true → Agr (matchL (ts.zip (us.map fun u => fun a s => matchT ps a u s)) s).2 xs → us.map (mapT (appG ps xs)) = ts
  | [], [], s, _, _, _, _, _, _ => rfl
  | t :: ts, u :: us, s, hl, hs, hw, ih, h1, h2 => by
    simp only [List.map_cons, List.zip_cons_cons, matchL] at h1 h2
    split at h1
    · rename_i hm
      rw [if_pos hm] at h2
      have hw1 := hw t (List.mem_cons_self ..)
      have hok := matchT_ok ps u t s hw1 hs
      have hle : MLe (matchT ps t u s).2 (matchL (ts.zip (us.map fun u => fun a s => matchT ps a u s)) (matchT ps t u s).2).2 := by
        refine matchL_le _ _ hok ?_
        rintro ⟨a, f⟩ hx s hs
        have hx1 := List.of_mem_zip hx
        obtain ⟨u, hu, rfl⟩ := List.mem_map.1 hx1.2
        have hwa := hw a (List.mem_cons_of_mem _ hx1.1)
        exact ⟨matchT_ok ps u a s hwa hs, matchT_le ps u a s hwa hs⟩
      rw [List.map_cons, ih u (List.mem_cons_self ..) t s hw1 hs hm (h2.mono hle),
        matchL_apply ps xs hn ts us _ (by simpa using hl) hok (fun t ht => hw t (List.mem_cons_of_mem _ ht)) (fun u hu => ih u (List.mem_cons_of_mem _ hu)) h1 h2]
    · cases h1

theorem matchT_apply (ps : List Int) (xs : List Ty) (hn : xs.length = ps.length) : ∀ (p t : Ty) (s : MSt), t.W → MOk ps.length s → (matchT ps t p s).1 = true → Agr (matchT ps t p s).2 xs → mapT (appG ps xs) p = t
  | .mk pk pi us, t, s, hw, hs, h1, h2 => by
    rw [matchT] at h1 h2
    rw [mapT]
    by_cases hc : (decide (pk = 2) && decide (idxI (fun x => decide (pi = x)) ps ≥ 0)) = true
    · rw [if_pos hc] at h1 h2
      rw [Bool.and_eq_true, decide_eq_true_eq, decide_eq_true_eq] at hc
      have hlt := idxI_lt hc.2
      have hk : (idxI (fun x => decide (pi = x)) ps).toNat < ps.length := by omega
      have hg : appG ps xs (.mk pk pi us) = (xs.getD (idxI (fun x => decide (pi = x)) ps).toNat .zero, true) := by
        unfold appG
        rw [if_neg]
        · rfl
        · intro hh
          rw [Bool.or_eq_true, Bool.or_eq_true] at hh
          rcases hh with (hh | hh) | hh
          · simp [Ty.kind, hc.1] at hh
          · have : idxI (fun x => decide (pi = x)) ps < 0 := of_decide_eq_true hh
            omega
          · have : idxI (fun x => decide (pi = x)) ps ≥ xs.length := of_decide_eq_true hh
            omega
      rw [hg, if_pos rfl]
      split at h1
      · rename_i hb
        rw [if_pos hb] at h2
        rw [h2 _ hb]
        exact (Ty.eqb_iff _ _).1 h1
      · rename_i hb
        rw [if_neg hb] at h2
        have := h2 (idxI (fun x => decide (pi = x)) ps).toNat (by rw [getD_set _ _ _ _ _ (by rw [hs.l2]; exact hk), if_pos rfl])
        rw [this, getD_set _ _ _ _ _ (by rw [hs.l1]; exact hk), if_pos rfl]
    · rw [if_neg hc] at h1 h2
      have hg : (appG ps xs (.mk pk pi us)).2 = false := by
        unfold appG
        rw [if_pos]
        simp only [Ty.kind, Ty.id]
        rw [Bool.or_eq_true, Bool.or_eq_true]
        by_cases hk : pk = 2
        · exact .inl (.inr (decide_eq_true (Int.not_le.1 fun q => hc (by rw [Bool.and_eq_true, decide_eq_true_eq, decide_eq_true_eq]; exact ⟨hk, q⟩))))
        · exact .inl (.inl (by simp [hk]))
      rw [hg, if_neg (by simp)]
      split at h1
      · cases h1
      · rename_i hd
        rw [if_neg hd] at h2
        simp at hd
        obtain ⟨⟨e1, e2⟩, e3⟩ := hd
        have := matchL_apply ps xs hn t.args us s (by omega) hs (fun t ht => hw.arg ht) (fun u hu t s => matchT_apply ps xs hn u t s) h1 h2
        rw [this, ← e1, ← e2]
        exact Ty.eta t

/-- Matching what Apply made. -/
structure MRt (ps : List Int) (xs : List Ty) (s : MSt) : Prop where
  agr : Agr s xs
  zero : ∀ i, s.2.getD i false = false → s.1.getD i .zero = .zero

theorem matchL_round (ps : List Int) (xs : List Ty) (hn : ps.length ≤ xs.length) (hW : ∀ x ∈ xs, x.W) : ∀ (us : List Ty) (s : MSt), MOk ps.length s → MRt ps xs s → (∀ t ∈ us.map (mapT (appG ps xs)), t.W) →
    (∀ u ∈ us, ∀ (s : MSt), (mapT (appG ps xs) u).W → MOk ps.length s → MRt ps xs s → (matchT ps (mapT (appG ps xs) u) u s).1 = true ∧ MRt ps xs (matchT ps (mapT (appG ps xs) u) u s).2) →
    (matchL ((us.map (mapT (appG ps xs))).zip (us.map fun u => fun a s => matchT ps a u s)) s).1 = true ∧ MRt ps xs (matchL ((us.map (mapT (appG ps xs))).zip (us.map fun u => fun a s => matchT ps a u s)) s).2
  | [], s, _, h, _, _ => ⟨rfl, h⟩
  | u :: us, s, hs, h, hw, ih => by
    have hw1 := hw _ (by simp : mapT (appG ps xs) u ∈ (u :: us).map (mapT (appG ps xs)))
    obtain ⟨h1, h2⟩ := ih u (List.mem_cons_self ..) s hw1 hs h
    simp only [List.map_cons, List.zip_cons_cons, matchL, h1, if_true]
    exact matchL_round ps xs hn hW us _ (matchT_ok ps u _ s hw1 hs) h2 (fun t ht => hw t (by rw [List.map_cons]; exact List.mem_cons_of_mem _ ht)) fun u hu => ih u (List.mem_cons_of_mem _ hu)

theorem matchT_round (ps : List Int) (xs : List Ty) (hn : ps.length ≤ xs.length) (hW : ∀ x ∈ xs, x.W) : ∀ (p : Ty) (s : MSt), (mapT (appG ps xs) p).W → MOk ps.length s → MRt ps xs s →
    (matchT ps (mapT (appG ps xs) p) p s).1 = true ∧ MRt ps xs (matchT ps (mapT (appG ps xs) p) p s).2
  | .mk pk pi us, s, hw, hs, h => by
    by_cases hc : (decide (pk = 2) && decide (idxI (fun x => decide (pi = x)) ps ≥ 0)) = true
    · have hc' := hc
      rw [Bool.and_eq_true, decide_eq_true_eq, decide_eq_true_eq] at hc
      have hlt := idxI_lt hc.2
      have hk : (idxI (fun x => decide (pi = x)) ps).toNat < ps.length := by omega
      have hg : appG ps xs (.mk pk pi us) = (xs.getD (idxI (fun x => decide (pi = x)) ps).toNat .zero, true) := by
        unfold appG
        rw [if_neg]
        · rfl
        · intro hh
          rw [Bool.or_eq_true, Bool.or_eq_true] at hh
          rcases hh with (hh | hh) | hh
          · simp [Ty.kind, hc.1] at hh
          · have : idxI (fun x => decide (pi = x)) ps < 0 := of_decide_eq_true hh
            omega
          · have : idxI (fun x => decide (pi = x)) ps ≥ xs.length := of_decide_eq_true hh
            omega
      have hmap : mapT (appG ps xs) (.mk pk pi us) = xs.getD (idxI (fun x => decide (pi = x)) ps).toNat .zero := by rw [mapT, hg, if_pos rfl]
      rw [hmap, matchT, if_pos hc']
      split
      · rename_i hb
        exact ⟨(Ty.eqb_iff _ _).2 (h.agr _ hb).symm, h⟩
      · rename_i hb
        refine ⟨rfl, ?_, ?_⟩
        · intro i hi
          simp only [getD_set _ _ _ _ _ (show (idxI (fun x => decide (pi = x)) ps).toNat < s.1.length by rw [hs.l1]; exact hk)]
          rw [getD_set _ _ _ _ _ (by rw [hs.l2]; exact hk)] at hi
          split
          · rename_i e; rw [e]
          · rename_i e; rw [if_neg e] at hi; exact h.agr i hi
        · intro i hi
          simp only [getD_set _ _ _ _ _ (show (idxI (fun x => decide (pi = x)) ps).toNat < s.1.length by rw [hs.l1]; exact hk)]
          rw [getD_set _ _ _ _ _ (by rw [hs.l2]; exact hk)] at hi
          split
          · rename_i e; rw [if_pos e] at hi; cases hi
          · rename_i e; rw [if_neg e] at hi; exact h.zero i hi
    · have hg : (appG ps xs (.mk pk pi us)).2 = false := by
        unfold appG
        rw [if_pos]
        simp only [Ty.kind, Ty.id]
        rw [Bool.or_eq_true, Bool.or_eq_true]
        by_cases hk : pk = 2
        · exact .inl (.inr (decide_eq_true (Int.not_le.1 fun q => hc (by rw [Bool.and_eq_true, decide_eq_true_eq, decide_eq_true_eq]; exact ⟨hk, q⟩))))
        · exact .inl (.inl (by simp [hk]))
      have hmap : mapT (appG ps xs) (.mk pk pi us) = .mk pk pi (us.map (mapT (appG ps xs))) := by rw [mapT, hg, if_neg (by simp)]
      rw [hmap] at hw ⊢
      rw [matchT, if_neg hc, if_neg (by simp [Ty.kind, Ty.id, Ty.args])]
      exact matchL_round ps xs hn hW us s hs h (fun t ht => hw.arg ht) fun u hu s => matchT_round ps xs hn hW u s

theorem mapT_W {g : Ty → Ty × Bool} (hg : ∀ u, (g u).2 = true → (g u).1.W) : ∀ t, t.W → (mapT g t).W
  | .mk k i us, h => by
    rw [mapT]
    split
    · rename_i hb; exact hg _ hb
    · refine .mk (by rw [List.length_map]; exact h.len) fun v hv => ?_
      obtain ⟨u, hu, rfl⟩ := List.mem_map.1 hv
      exact mapT_W hg u (h.arg hu)
theorem app_W {ps : List Int} {xs : List Ty} (hw : ∀ x ∈ xs, x.W) {t : Ty} (ht : t.W) : (mapT (appG ps xs) t).W :=
  mapT_W (fun u hu => by
    unfold appG at hu ⊢
    split at hu
    · cases hu
    · rename_i hc
      rw [if_neg hc]
      simp only
      rw [List.getD_eq_getElem?_getD]
      cases hq : xs[(idxI (fun x => decide (u.id = x)) ps).toNat]? with
      | none => exact .mk (by simp) (by simp)
      | some a => exact hw a (List.mem_of_getElem? hq)) t ht

theorem ins_W {ps : List Int} {v : Int} {t : Ty} (ht : t.W) : (mapT (insG ps v) t).W :=
  mapT_W (fun u hu => by
    unfold insG at hu ⊢
    split at hu
    · cases hu
    · rename_i hc
      rw [if_neg hc]
      exact .mk (by simp) (by simp)) t ht

/-- Match, then Apply. -/
theorem match_apply (ps : List Int) (t p : Ty) (hw : t.W) (h : (matchP ps t p).2 = true) : (matchP ps t p).1.length = ps.length ∧ mapT (appG ps (matchP ps t p).1) p = t := by
  unfold matchP at h ⊢
  split at h
  · rename_i hm
    rw [if_pos hm]
    have hok := matchT_ok ps p t (mS0 ps) hw (mS0_ok ps)
    exact ⟨hok.l1, matchT_apply ps _ hok.l1 p t (mS0 ps) hw (mS0_ok ps) hm fun i _ => rfl⟩
  · cases h
theorem match_none (ps : List Int) (t p : Ty) (h : (matchP ps t p).2 = false) : (matchP ps t p).1 = [] := by
  unfold matchP at h ⊢
  split at h
  · cases h
  · rename_i hm; rw [if_neg hm]
theorem matchP_W (ps : List Int) (t p : Ty) (hw : t.W) : ∀ a ∈ (matchP ps t p).1, a.W := by
  unfold matchP
  split
  · exact (matchT_ok ps p t (mS0 ps) hw (mS0_ok ps)).w
  · simp
/-- Apply, then Match. -/
theorem apply_match (ps : List Int) (xs : List Ty) (p : Ty) (hn : ps.length ≤ xs.length) (hW : ∀ x ∈ xs, x.W) (hp : p.W) :
    (matchP ps (mapT (appG ps xs) p) p).2 = true ∧ (matchP ps (mapT (appG ps xs) p) p).1.length = ps.length ∧
    ∀ i (h : i < (matchP ps (mapT (appG ps xs) p) p).1.length), ((matchP ps (mapT (appG ps xs) p) p).1[i]).kind ≠ 0 → (matchP ps (mapT (appG ps xs) p) p).1[i] = xs.getD i .zero := by
  have hw := app_W (ps := ps) hW hp
  have h0 : MRt ps xs (mS0 ps) := by
    refine ⟨fun i hi => ?_, fun i _ => ?_⟩
    · simp only [mS0, List.getD_eq_getElem?_getD] at hi
      rw [List.getElem?_replicate] at hi
      split at hi <;> cases hi
    · simp only [mS0, List.getD_eq_getElem?_getD]
      rw [List.getElem?_replicate]
      split <;> rfl
  obtain ⟨h1, h2⟩ := matchT_round ps xs hn hW p (mS0 ps) hw (mS0_ok ps) h0
  have hok := matchT_ok ps p _ (mS0 ps) hw (mS0_ok ps)
  simp only [matchP, h1, if_true]
  refine ⟨trivial, hok.l1, fun i hi hne => ?_⟩
  have hget : (matchT ps (mapT (appG ps xs) p) p (mS0 ps)).2.1.getD i .zero = (matchT ps (mapT (appG ps xs) p) p (mS0 ps)).2.1[i] := by
    rw [List.getD_eq_getElem?_getD, List.getElem?_eq_getElem hi, Option.getD_some]
  cases hb : (matchT ps (mapT (appG ps xs) p) p (mS0 ps)).2.2.getD i false with
  | true => rw [← hget]; exact (h2.agr i hb).symm
  | false => rw [← hget, h2.zero i hb] at hne; exact (hne rfl).elim
end Go.Abs
namespace Go.Abs
/-! The chapter 'types': bindings, sizes, variables. -/
structure Bd where
  v : Int
  t : Ty
def Bd.enc (b : Bd) : PV := .agg [.int .i64 b.v, .int .i64 b.t.kind, .int .i64 b.t.id, .slice (b.t.args.map Ty.enc) .none]
theorem Bd.enc_len (b : Bd) : b.enc.cells.length = 4 := rfl
theorem Bd.bel (n : Nat) (b : Bd) : Bel n b.enc := .agg _ (by
  intro c hc
  simp at hc
  rcases hc with rfl | rfl | rfl | rfl
  · exact .int _ _
  · exact .int _ _
  · exact .int _ _
  · exact bel_slice_ty _ _)
theorem bel_Bd (n : Nat) (us : List Bd) : Bel n (.slice (us.map Bd.enc) .none) := .slice _ _ (fun e he c hc => by
  obtain ⟨b, _, rfl⟩ := List.mem_map.1 he
  have := Bd.bel n b
  unfold Bd.enc at this hc
  cases this with | agg _ h => exact h c hc) (by simp)
/-- Rules for bindings. -/
theorem BdS : (∀ b : Bd, b.enc.cells = [.int .i64 b.v, .int .i64 b.t.kind, .int .i64 b.t.id, .slice (b.t.args.map Ty.enc) .none]) ∧ (∀ b : Bd, b.enc.isJunk = false) ∧ (∀ b : Bd, b.enc.drop1 = b.enc) ∧ (∀ (b : Bd) (n : Nat), b.enc.fits ⟨true, 4, n⟩ = true) ∧
    (∀ (v : Int) (t : Ty), PV.agg [.int .i64 v, .int .i64 t.kind, .int .i64 t.id, .slice (t.args.map Ty.enc) .none] = (Bd.mk v t).enc) ∧ (∀ (v : Int) (t : Ty), (Bd.mk v t).v = v) ∧ (∀ (v : Int) (t : Ty), (Bd.mk v t).t = t) ∧ (∀ b : Bd, Bd.mk b.v b.t = b) ∧
    (∀ (v k i : Int), PV.agg [.int .i64 v, .int .i64 k, .int .i64 i, .slice [] .none] = (Bd.mk v (Ty.mk k i [])).enc) :=
  ⟨fun _ => rfl, fun _ => rfl, fun _ => rfl, fun _ _ => rfl, fun _ _ => rfl, fun _ _ => rfl, fun _ _ => rfl, fun _ => rfl, fun _ _ _ => rfl⟩

def subG (s : List Bd) (u : Ty) : Ty × Bool :=
  if (!decide (u.kind = 1)) = true then (u, false)
  else if decide (idxI (fun b : Bd => decide (b.v = u.id)) s < 0) = true then (u, false)
  else ((s.getD (idxI (fun b : Bd => decide (b.v = u.id)) s).toNat ⟨0, .mk 0 0 []⟩).t, true)

theorem sub_W {s : List Bd} (hs : ∀ b ∈ s, b.t.W) {t : Ty} (ht : t.W) : (mapT (subG s) t).W :=
  mapT_W (fun u hu => by
    unfold subG at hu ⊢
    split at hu
    · cases hu
    · rename_i h1
      split at hu
      · cases hu
      · rename_i h2
        rw [if_neg h1, if_neg h2]
        simp only
        rw [List.getD_eq_getElem?_getD]
        cases hq : s[(idxI (fun b : Bd => decide (b.v = u.id)) s).toNat]? with
        | none => exact .mk (by simp) (by simp)
        | some a => exact hs a (List.mem_of_getElem? hq)) t ht

/-- Sizes and depths as 'measure' counts them. -/
def measL : List (Int → Int × Int) → Int → Int × Int → Int × Int
  | [], _, s => s
  | f :: fs, L, s => if decide (s.1 > L) = true then s else measL fs L (s.1 + (f (L - s.1)).1, max s.2 (f (L - s.1)).2)
def measT : Ty → Int → Int × Int
  | .mk _ _ us, L => ((measL (us.map fun u L => measT u L) L (1, 0)).1, (measL (us.map fun u L => measT u L) L (1, 0)).2 + 1)
theorem measT_eq (t : Ty) (L : Int) : measT t L = ((measL (t.args.map measT) L (1, 0)).1, (measL (t.args.map measT) L (1, 0)).2 + 1) := by
  cases t; rw [measT]; rfl
theorem measL_bd : ∀ (fs : List (Int → Int × Int)) (L : Int) (s : Int × Int), 0 ≤ L → (∀ f ∈ fs, ∀ M, 0 ≤ M → M < L → 1 ≤ (f M).1 ∧ (f M).1 ≤ M + 1 ∧ 1 ≤ (f M).2 ∧ (f M).2 ≤ M + 1) → 1 ≤ s.1 → s.1 ≤ L + 1 → 0 ≤ s.2 → s.2 ≤ L →
    1 ≤ (measL fs L s).1 ∧ (measL fs L s).1 ≤ L + 1 ∧ 0 ≤ (measL fs L s).2 ∧ (measL fs L s).2 ≤ L
  | [], L, s, hL, _, h1, h2, h3, h4 => ⟨h1, h2, h3, h4⟩
  | f :: fs, L, s, hL, hf, h1, h2, h3, h4 => by
    unfold measL
    split
    · exact ⟨h1, h2, h3, h4⟩
    · rename_i hs
      have hs' : s.1 ≤ L := by have : ¬ s.1 > L := fun q => hs (decide_eq_true q); omega
      obtain ⟨q1, q2, q3, q4⟩ := hf f (List.mem_cons_self ..) (L - s.1) (by omega) (by omega)
      exact measL_bd fs L _ hL (fun g hg => hf g (List.mem_cons_of_mem _ hg)) (by simp only; omega) (by simp only; omega) (by simp only; omega) (by simp only; omega)
theorem measT_bd : ∀ (t : Ty) (L : Int), 0 ≤ L → 1 ≤ (measT t L).1 ∧ (measT t L).1 ≤ L + 1 ∧ 1 ≤ (measT t L).2 ∧ (measT t L).2 ≤ L + 1
  | .mk k i us, L, hL => by
    have := measL_bd (us.map fun u L => measT u L) L (1, 0) hL (fun f hf M h0 _ => by
      obtain ⟨u, hu, rfl⟩ := List.mem_map.1 hf
      exact measT_bd u M h0) (by simp) (by simp; omega) (by simp) (by simp; omega)
    rw [measT]
    simp only
    omega

def nwf (t : Ty) : Bool :=
  if decide (t.kind = 0) || decide (t.kind = 3) || decide (t.kind = 4) || decide (t.kind = 5) || decide (t.kind = 6) then decide (t.id = 0) && decide ((t.args.length : Int) = 0)
  else if decide (t.kind = 1) || decide (t.kind = 2) then decide (t.id ≥ 0) && decide ((t.args.length : Int) = 0)
  else if decide (t.kind = 7) then decide (t.id ≥ 0)
  else if decide (t.kind = 8) then (decide (t.id = 0) || decide (t.id = 1)) && decide ((t.args.length : Int) = 1)
  else if decide (t.kind = 9) then decide (t.id = 0) && decide ((t.args.length : Int) > 0)
  else if decide (t.kind = 10) then decide (t.id ≥ 0) && decide ((t.args.length : Int) = 1)
  else false
def wfT : Ty → Bool
  | .mk k i us => nwf (.mk k i us) && !((us.map fun u => wfT u).any (fun b => !b))
theorem wfT_eq (t : Ty) : wfT t = (nwf t && !(t.args.any fun u => !wfT u)) := by
  cases t; rw [wfT, List.any_map]; rfl
/-- What Validate answers. -/
def valT (t : Ty) : Int := if (decide ((measT t 100).1 > 100) || decide ((measT t 100).2 > 12)) = true then 2 else if (!wfT t) = true then 3 else 0

/-- The free variables, in order of first occurrence. -/
def afvL : List (List Int → List Int) → List Int → List Int
  | [], vs => vs
  | f :: fs, vs => afvL fs (f vs)
def afv : Ty → List Int → List Int
  | .mk k i us, vs => afvL (us.map fun u vs => afv u vs) (if (decide (k = 1) && !vs.any (fun x => decide (i = x))) = true then vs ++ [i] else vs)
theorem afv_eq (t : Ty) (vs : List Int) : afv t vs = afvL (t.args.map afv) (if (decide (t.kind = 1) && !vs.any (fun x => decide (t.id = x))) = true then vs ++ [t.id] else vs) := by
  cases t; rw [afv]; rfl
theorem afv_len : ∀ (t : Ty) (vs : List Int), vs.length ≤ (afv t vs).length ∧ (afv t vs).length ≤ vs.length + t.size
  | .mk k i us, vs => by
    have key : ∀ (us : List Ty), (∀ u ∈ us, ∀ vs : List Int, vs.length ≤ (afv u vs).length ∧ (afv u vs).length ≤ vs.length + u.size) → ∀ vs : List Int, vs.length ≤ (afvL (us.map fun u vs => afv u vs) vs).length ∧ (afvL (us.map fun u vs => afv u vs) vs).length ≤ vs.length + Ty.sizes us := by
      intro us
      induction us with
      | nil => intro _ vs; simp [afvL, Ty.sizes]
      | cons u us ih =>
        intro h vs
        have h1 := h u (List.mem_cons_self ..) vs
        have h2 := ih (fun u hu => h u (List.mem_cons_of_mem _ hu)) (afv u vs)
        simp only [List.map_cons, afvL, Ty.sizes]
        omega
    rw [afv]
    have := key us (fun u hu vs => afv_len u vs) (if (decide (k = 1) && !vs.any (fun x => decide (i = x))) = true then vs ++ [i] else vs)
    have hs : (Ty.mk k i us).size = 1 + Ty.sizes us := by simp [Ty.size]
    rw [hs]
    split at this
    · rename_i hq; rw [if_pos hq]; simp at this ⊢; omega
    · rename_i hq; rw [if_neg hq]; omega
end Go.Abs
namespace Go.Abs
theorem measL_nil (L : Int) (s : Int × Int) : measL [] L s = s := rfl
theorem measL_cons (f : Int → Int × Int) (fs : List (Int → Int × Int)) (L : Int) (s : Int × Int) : measL (f :: fs) L s = if decide (s.1 > L) = true then s else measL fs L (s.1 + (f (L - s.1)).1, max s.2 (f (L - s.1)).2) := rfl
theorem afvL_nil (vs : List Int) : afvL [] vs = vs := rfl
theorem afvL_cons (f : List Int → List Int) (fs : List (List Int → List Int)) (vs : List Int) : afvL (f :: fs) vs = afvL fs (f vs) := rfl
end Go.Abs
namespace Go.Abs
/-! Reading bindings. -/
def BdD {H : Type} (b : Bd) (d : DataW H) : Prop := ∃ d1, d = .agg [.lit (.int .i64 b.v), d1] ∧ TyD b.t d1
structure BdAt (P : Program) (B T : TypeId) : Prop where
  st : ∃ f0 f1 : Field, P.underlying B = some (.struct #[f0, f1]) ∧ P.underlying f0.type = some (.int .i64) ∧ f1.type = T ∧ f0.offset = 0 ∧ f1.offset = 1 ∧ P.cellsOf f0.type = 1
  c : P.cellsOf B = 4
section
variable {H : Type} {enc : TypeId × Value → H} {P : Program} {W : World} {spare : Nat → Bool} {held : Bool} {B T S : TypeId}
theorem rd_bd (F : TyAt P T S) (G : BdAt P B T) (fuel : Nat) (cs : List Value) (x : DataW H × List MemPlace) (h : DataW.trod enc P W 0 spare held fuel B cs = some x) : ∃ b : Bd, RLl (env0 W).view cs b.enc.cells ∧ BdD b x.1 := by
  obtain ⟨f0, f1, hst, u0, e1, o0, o1, c0⟩ := G.st
  obtain ⟨ds, n, rfl, hx, hlen, hdl, hf⟩ := rd_fields hst h
  rw [G.c] at hlen
  match cs, hlen with
  | [v0, v1, v2, v3], _ =>
  obtain ⟨d0, p0, g0, r0⟩ := hf 0 f0 rfl
  obtain ⟨d1, p1, g1, r1⟩ := hf 1 f1 rfl
  rw [o0, c0] at r0
  rw [o1, e1, F.c] at r1
  obtain ⟨k, q0, rfl, w0, _⟩ := rd_int u0 r0
  obtain ⟨t, q1, w1⟩ := rd_ty F _ _ _ r1
  refine ⟨⟨k, t⟩, ?_, d1, ?_, w1⟩
  · have := RLl.app q0 q1
    rw [Ty.enc_cells] at this
    exact this
  · rw [hx]
    match ds, hdl with
    | [a, b], _ =>
      simp at g0 g1
      rw [g0, g1]
theorem bd_weights (F : TyAt P T S) (G : BdAt P B T) {b : Bd} {d : DataW H} (h : BdD b d) (hw : (d.weights P B).all (· ≤ reachBytes) = true) : b.t.W := by
  obtain ⟨d1, rfl, h1⟩ := h
  obtain ⟨f0, f1, hst, u0, e1, _⟩ := G.st
  simp only [DataW.weights, hst, DataW.weightsEach, List.map_cons, List.map_nil, e1, List.nil_append, List.append_nil] at hw
  exact ty_weights F h1 hw
end
end Go.Abs
set_option maxRecDepth 4000
namespace Go.Abs
open Go.Proofs
inductive StD {H : Type} : St → DataW H → Prop
  | nil (kind : Int) (text : List UInt8)   : StD (.mk kind text []) (.agg [.lit (.int .i64 kind), .lit (.string text), .nil])
  | slice (kind : Int) (text : List UInt8) (ch : List St)  (es sp : List (DataW H))  (hl : ch.length = es.length) (h : ∀ j (h1 : j < ch.length) (h2 : j < es.length), StD ch[j] es[j]) : StD (.mk kind text ch) (.agg [.lit (.int .i64 kind), .lit (.string text), .slice es sp])
theorem StD.of {H : Type} {kind : Int} {text : List UInt8} {ch : List St}  {d : DataW H}  (h : SlD StD ch d) : StD (.mk kind text ch) (.agg [.lit (.int .i64 kind), .lit (.string text), d]) := by
  rcases h with ⟨rfl, rfl⟩ | ⟨es, sp, rfl, h1, h2⟩
  · exact .nil _ _
  · exact .slice _ _ _ es sp h1 h2
section
variable {H : Type} {enc : TypeId × Value → H} {W : World} {spare : Nat → Bool} {held : Bool}
theorem rd_St : ∀ (fuel : Nat) (cs : List Value) (x : DataW H × List MemPlace), DataW.trod enc Try.prog W 0 spare held fuel 27 cs = some x → ∃ t : St, RLl (env0 W).view cs t.enc.cells ∧ StD t x.1 := by
  intro fuel
  induction fuel using Nat.strongRecOn with
  | _ fuel ih =>
  intro cs x h
  obtain ⟨ds, n, rfl, hx, hlen, hdl, hf⟩ := rd_fields Try.underlying27 h
  rw [show Try.prog.cellsOf 27 = 3 from by kernel_rfl] at hlen
  match cs, hlen with
  | [v0, v1, v2], _ =>
  obtain ⟨d0, p0, g0, r0⟩ := hf 0 _ rfl
  have r0 : DataW.trod enc Try.prog W 0 spare held n 3 [v0] = some (d0, p0) := by
    have e : Try.prog.cellsOf 3 = 1 := by kernel_rfl
    have r0 : DataW.trod enc Try.prog W 0 spare held n 3 (List.take (Try.prog.cellsOf 3) (List.drop 0 [v0, v1, v2])) = some (d0, p0) := r0
    rw [e] at r0
    exact r0
  obtain ⟨a0, q0, rfl, _, _⟩ := rd_int Try.underlying3 r0
  obtain ⟨d1, p1, g1, r1⟩ := hf 1 _ rfl
  have r1 : DataW.trod enc Try.prog W 0 spare held n 9 [v1] = some (d1, p1) := by
    have e : Try.prog.cellsOf 9 = 1 := by kernel_rfl
    have r1 : DataW.trod enc Try.prog W 0 spare held n 9 (List.take (Try.prog.cellsOf 9) (List.drop 1 [v0, v1, v2])) = some (d1, p1) := r1
    rw [e] at r1
    exact r1
  obtain ⟨a1, q1, rfl, l1⟩ := rd_string Try.underlying9 r1
  obtain ⟨d2, p2, g2, r2⟩ := hf 2 _ rfl
  have r2 : DataW.trod enc Try.prog W 0 spare held n 25 [v2] = some (d2, p2) := by
    have e : Try.prog.cellsOf 25 = 1 := by kernel_rfl
    have r2 : DataW.trod enc Try.prog W 0 spare held n 25 (List.take (Try.prog.cellsOf 25) (List.drop 2 [v0, v1, v2])) = some (d2, p2) := r2
    rw [e] at r2
    exact r2
  obtain ⟨a2, w2, hv2, hr2, hd2⟩ := rd_slice St.enc StD Try.underlying25 (by intro a; rw [St.enc_len]; kernel_rfl) r2 (fun m cs' x' hm h' => ih m (by omega) cs' x' h')
  obtain rfl : v2 = w2 := by simpa using hv2
  have q2 : RLl (env0 W).view [v2] [_] := .cons hr2 .nil
  refine ⟨St.mk a0 a1 a2, ?_, ?_⟩
  · rw [St.enc_cells]
    exact (RLl.app q0 (RLl.app q1 q2))
  · rw [hx]
    have e : ds = [.lit (.int .i64 a0), .lit (.string a1), d2] := by
      match ds, hdl with
      | [e0, e1, e2], _ =>
        simp at g0 g1 g2
        rw [g0, g1, g2]
    rw [e]
    exact .of hd2
theorem St_weights {t : St} {d : DataW H} (h : StD t d) (hw : (d.weights Try.prog 27).all (· ≤ reachBytes) = true) : t.W := by
  have hb : reachBytes = 140737488351232 := rfl
  have hfl : ∀ (c : DataW H), True := fun _ => trivial
  induction h with
  | nil kind text   =>
    simp only [DataW.weights, Try.underlying27, DataW.weightsEach, List.map_cons, List.map_nil, List.nil_append, List.append_nil, List.all_append, List.all_cons, List.all_nil, Bool.and_eq_true, Bool.and_true, decide_eq_true_eq, Try.underlying25] at hw
    have s1 := hw
    exact .mk (by have := s1; simp only [hb] at this; omega) (by simp) (by simp)
  | slice kind text ch  es sp  hl h ih =>
    simp only [DataW.weights, Try.underlying27, DataW.weightsEach, List.map_cons, List.map_nil, List.nil_append, List.append_nil, List.all_append, List.all_cons, List.all_nil, Bool.and_eq_true, Bool.and_true, decide_eq_true_eq, Try.underlying25] at hw
    obtain ⟨s1, ⟨z2, zz2⟩⟩ := hw
    exact .mk (by have := s1; simp only [hb] at this; omega) (by
        have e : Try.prog.bytesOf 27 = 48 := by kernel_rfl
        rw [e] at z2; rw [hl]; omega) (fun u hu => by
        obtain ⟨j, hj, rfl⟩ := List.mem_iff_getElem.1 hu
        exact ih j hj (by omega) (weights_mem (List.getElem_mem _) zz2.1))
end
def GnD {H : Type} (t : Gn) (d : DataW H) : Prop := ∃ d3, d = .agg [.lit (.int .i64 t.kind), .lit (.int .i64 t.width), .lit (.string t.text), d3] ∧ t.text.length ≤ maxLen ∧ SlD (fun n d => d = .lit (.int .i64 n)) t.ch d3
section
variable {H : Type} {enc : TypeId × Value → H} {W : World} {spare : Nat → Bool} {held : Bool}
theorem rd_Gn (fuel : Nat) (cs : List Value) (x : DataW H × List MemPlace) (h : DataW.trod enc Try.prog W 0 spare held fuel 48 cs = some x) : ∃ t : Gn, RLl (env0 W).view cs t.enc.cells ∧ GnD t x.1 := by
  obtain ⟨ds, n, rfl, hx, hlen, hdl, hf⟩ := rd_fields Try.underlying48 h
  rw [show Try.prog.cellsOf 48 = 4 from by kernel_rfl] at hlen
  match cs, hlen with
  | [v0, v1, v2, v3], _ =>
  obtain ⟨d0, p0, g0, r0⟩ := hf 0 _ rfl
  have r0 : DataW.trod enc Try.prog W 0 spare held n 3 [v0] = some (d0, p0) := by
    have e : Try.prog.cellsOf 3 = 1 := by kernel_rfl
    have r0 : DataW.trod enc Try.prog W 0 spare held n 3 (List.take (Try.prog.cellsOf 3) (List.drop 0 [v0, v1, v2, v3])) = some (d0, p0) := r0
    rw [e] at r0
    exact r0
  obtain ⟨a0, q0, rfl, _, _⟩ := rd_int Try.underlying3 r0
  obtain ⟨d1, p1, g1, r1⟩ := hf 1 _ rfl
  have r1 : DataW.trod enc Try.prog W 0 spare held n 3 [v1] = some (d1, p1) := by
    have e : Try.prog.cellsOf 3 = 1 := by kernel_rfl
    have r1 : DataW.trod enc Try.prog W 0 spare held n 3 (List.take (Try.prog.cellsOf 3) (List.drop 1 [v0, v1, v2, v3])) = some (d1, p1) := r1
    rw [e] at r1
    exact r1
  obtain ⟨a1, q1, rfl, _, _⟩ := rd_int Try.underlying3 r1
  obtain ⟨d2, p2, g2, r2⟩ := hf 2 _ rfl
  have r2 : DataW.trod enc Try.prog W 0 spare held n 9 [v2] = some (d2, p2) := by
    have e : Try.prog.cellsOf 9 = 1 := by kernel_rfl
    have r2 : DataW.trod enc Try.prog W 0 spare held n 9 (List.take (Try.prog.cellsOf 9) (List.drop 2 [v0, v1, v2, v3])) = some (d2, p2) := r2
    rw [e] at r2
    exact r2
  obtain ⟨a2, q2, rfl, l2⟩ := rd_string Try.underlying9 r2
  obtain ⟨d3, p3, g3, r3⟩ := hf 3 _ rfl
  have r3 : DataW.trod enc Try.prog W 0 spare held n 46 [v3] = some (d3, p3) := by
    have e : Try.prog.cellsOf 46 = 1 := by kernel_rfl
    have r3 : DataW.trod enc Try.prog W 0 spare held n 46 (List.take (Try.prog.cellsOf 46) (List.drop 3 [v0, v1, v2, v3])) = some (d3, p3) := r3
    rw [e] at r3
    exact r3
  obtain ⟨a3, w3, hv3, hr3, hd3⟩ := rd_slice vint (fun n d => d = .lit (.int .i64 n)) Try.underlying46 (by intro a; kernel_rfl) r3 (fun m cs' x' hm h' => by obtain ⟨n, q, e, _, _⟩ := rd_int Try.underlying3 h'; exact ⟨n, q, e⟩)
  obtain rfl : v3 = w3 := by simpa using hv3
  have q3 : RLl (env0 W).view [v3] [_] := .cons hr3 .nil
  refine ⟨Gn.mk a0 a1 a2 a3, ?_, ?_⟩
  · rw [Gn.enc_cells]
    exact (RLl.app q0 (RLl.app q1 (RLl.app q2 q3)))
  · rw [hx]
    have e : ds = [.lit (.int .i64 a0), .lit (.int .i64 a1), .lit (.string a2), d3] := by
      match ds, hdl with
      | [e0, e1, e2, e3], _ =>
        simp at g0 g1 g2 g3
        rw [g0, g1, g2, g3]
    rw [e]
    exact ⟨_, rfl, l2, hd3⟩
theorem Gn_weights {t : Gn} {d : DataW H} (h : GnD t d) (hw : (d.weights Try.prog 48).all (· ≤ reachBytes) = true) : t.W := by
  have hb : reachBytes = 140737488351232 := rfl
  have hfl : ∀ (c : DataW H), True := fun _ => trivial
  obtain ⟨d3, rfl, k2, k3⟩ := h
  simp only [DataW.weights, Try.underlying48, DataW.weightsEach, List.map_cons, List.map_nil, List.nil_append, List.append_nil, List.all_append, List.all_cons, List.all_nil, Bool.and_eq_true, Bool.and_true, decide_eq_true_eq] at hw
  obtain ⟨s2, z3⟩ := hw
  have m3 := sl_weights Try.underlying46 k3 z3
  exact ⟨(by have := s2; simp only [hb] at this; omega), (by
      have e : Try.prog.bytesOf 3 = 8 := by kernel_rfl
      have := m3.1; rw [e] at this; omega)⟩
end
def GaD {H : Type} (t : Ga) (d : DataW H) : Prop := ∃ d0, d = .agg [d0] ∧ SlD GnD t.nodes d0
section
variable {H : Type} {enc : TypeId × Value → H} {W : World} {spare : Nat → Bool} {held : Bool}
theorem rd_Ga (fuel : Nat) (cs : List Value) (x : DataW H × List MemPlace) (h : DataW.trod enc Try.prog W 0 spare held fuel 24 cs = some x) : ∃ t : Ga, RLl (env0 W).view cs t.enc.cells ∧ GaD t x.1 := by
  obtain ⟨ds, n, rfl, hx, hlen, hdl, hf⟩ := rd_fields Try.underlying24 h
  rw [show Try.prog.cellsOf 24 = 1 from by kernel_rfl] at hlen
  match cs, hlen with
  | [v0], _ =>
  obtain ⟨d0, p0, g0, r0⟩ := hf 0 _ rfl
  have r0 : DataW.trod enc Try.prog W 0 spare held n 22 [v0] = some (d0, p0) := by
    have e : Try.prog.cellsOf 22 = 1 := by kernel_rfl
    have r0 : DataW.trod enc Try.prog W 0 spare held n 22 (List.take (Try.prog.cellsOf 22) (List.drop 0 [v0])) = some (d0, p0) := r0
    rw [e] at r0
    exact r0
  obtain ⟨a0, w0, hv0, hr0, hd0⟩ := rd_slice Gn.enc GnD Try.underlying22 (by intro a; rw [Gn.enc_len]; kernel_rfl) r0 (fun m cs' x' hm h' => rd_Gn m cs' x' h')
  obtain rfl : v0 = w0 := by simpa using hv0
  have q0 : RLl (env0 W).view [v0] [_] := .cons hr0 .nil
  refine ⟨Ga.mk a0, ?_, ?_⟩
  · rw [Ga.enc_cells]
    exact q0
  · rw [hx]
    have e : ds = [d0] := by
      match ds, hdl with
      | [e0], _ =>
        simp at g0
        rw [g0]
    rw [e]
    exact ⟨_, rfl, hd0⟩
theorem Ga_weights {t : Ga} {d : DataW H} (h : GaD t d) (hw : (d.weights Try.prog 24).all (· ≤ reachBytes) = true) : t.W := by
  have hb : reachBytes = 140737488351232 := rfl
  have hfl : ∀ (c : DataW H), True := fun _ => trivial
  obtain ⟨d0, rfl, k0⟩ := h
  simp only [DataW.weights, Try.underlying24, DataW.weightsEach, List.map_cons, List.map_nil, List.nil_append, List.append_nil, List.all_append, List.all_cons, List.all_nil, Bool.and_eq_true, Bool.and_true, decide_eq_true_eq] at hw
  have z0 := hw
  have m0 := sl_weights Try.underlying22 k0 z0
  exact ⟨(by
      have e : Try.prog.bytesOf 48 = 56 := by kernel_rfl
      have := m0.1; rw [e] at this; omega), (fun u hu => by
      obtain ⟨e, h1, h2⟩ := m0.2 u hu
      exact Gn_weights h1 h2)⟩
end
end Go.Abs
namespace Go.Abs
theorem strip (r : List (List Char)) : stripLifts liftWords ("cut".toList :: r) = ([], "cut".toList :: r) := by
  simp only [liftWords]
  repeat (rw [stripLifts, if_neg (by decide)])
  rfl
theorem mayEnter_of {P : Program} {r : List (List Char)} (h : behindMainWord (wordsSigns P.initOrder.toList) = "cut".toList :: r) (h1 : P.laysLater = false) (h2 : P.bearsReflect = false) (h3 : P.doorFits [] = true) : P.mayEnter = true := by
  unfold Program.mayEnter
  rw [h]
  simp only [strip, h1, h2, h3]
  rfl
theorem headLifts_of {P : Program} {r : List (List Char)} (h : behindMainWord (wordsSigns P.initOrder.toList) = "cut".toList :: r) : P.headLifts = [] := by
  unfold Program.headLifts
  rw [h, strip]
  rfl
theorem liftsFinal_of {P : Program} {r : List (List Char)} (h : behindMainWord (wordsSigns P.initOrder.toList) = "cut".toList :: r) : P.liftsFinal = false := by
  unfold Program.liftsFinal
  rw [headLifts_of h, h]
  rfl
theorem make_of {P : Program} {r : List (List Char)} (h : behindMainWord (wordsSigns P.initOrder.toList) = "cut".toList :: r) : P.make = some .cut := by
  unfold Program.make
  rw [h]
  rfl
def sg (l : List Nat) : List Char := l.map Char.ofNat
theorem words_cons (c : Char) (r : List Char) (h : (c == Char.ofNat 32) = false) : wordsSigns (c :: r) = match wordsSigns r with | w :: ws => (c :: w) :: ws | [] => [[c]] := by
  rw [wordsSigns]
  · rfl
  · intro e
    subst e
    simp at h
theorem words_word : ∀ (w r : List Char), w.all (fun c => !(c == Char.ofNat 32)) = true → wordsSigns (w ++ Char.ofNat 32 :: r) = w :: wordsSigns r
  | [], r, _ => by rfl
  | c :: w, r, h => by
    simp only [List.all_cons, Bool.and_eq_true, Bool.not_eq_true'] at h
    rw [List.cons_append, words_cons c _ h.1, words_word w r h.2]
/-- The head of a cut: 'harness', a sum, 'cut'. -/
theorem behind_of {P : Program} {a b c r : List Char} (hio : P.initOrder = String.ofList (a ++ Char.ofNat 32 :: (b ++ Char.ofNat 32 :: (c ++ Char.ofNat 32 :: r)))) (ha : a.all (fun c => !(c == Char.ofNat 32)) = true) (hb : b.all (fun c => !(c == Char.ofNat 32)) = true) (hc : c.all (fun c => !(c == Char.ofNat 32)) = true)
    (h : ((a == "harness".toList || a == "ownmain".toList) && isSumSigns b) = true) (hc2 : c = "cut".toList) : behindMainWord (wordsSigns P.initOrder.toList) = "cut".toList :: wordsSigns r := by
  rw [hio, String.toList_ofList, words_word _ _ ha, words_word _ _ hb, words_word _ _ hc]
  simp only [behindMainWord]
  rw [if_pos h, hc2]
end Go.Abs
