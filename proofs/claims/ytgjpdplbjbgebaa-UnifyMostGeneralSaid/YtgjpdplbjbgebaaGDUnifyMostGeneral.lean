/- Part 4 of a proof of the law UnifyMostGeneral: Go data as trees, the walks of the functions that the law reaches, the plain laws. -/
import Derived.Test.YtgjpdplbjbgebaaGCUnifyMostGeneral
import Derived.Lib.Join
import Derived.Below
import Derived.Laws.StructEq
import Derived.Laws.RangeString
import Derived.Lib.OthersKept
import Derived.Lib.DecodeN
import Derived.Laws.IdiomStrings
import Derived.Maps.RangeRun
import Derived.Shelf.SlSortCmp.InsertionK
set_option linter.unusedVariables false
set_option linter.unusedSimpArgs false
namespace Go.Abs
theorem wrap_id' {n : Int} (h0 : -9223372036854775808 ≤ n) (h : n ≤ 9223372036854775807) : IntKind.i64.wrap n = n := by
  simp [IntKind.wrap, IntKind.bits, IntKind.signed]
  omega
section
variable {P : Program} {N nb : Nat} {ops : Array Oper} {Q : Post}
/-- The capacity of a slice that is full. -/
theorem aops_cap {o : Oper} {l : List Oper} {T : Slots} {H : Heap} {x : Operand} {t : TypeId} {es : List PV} (hop : o.op = .call ⟨.builtin .cap, #[x], #[t]⟩) (hx : aev T x = .slice es .full) (hw : awanted ops.toList T N o = some true) (hok : okOpnd N x = true)
    (hte : (telem P t).isSome = true) (h : AOps P N nb ops Q l (updO T o.dst (.int .i64 es.length)) H) : AOps P N nb ops Q (o :: l) T H := by
  refine aops_done hw (fun E a ho hH ht => ?_) h
  have hr := vrel_eval ht x hok
  rw [hx] at hr
  obtain ⟨e, hu⟩ := telem_isSome hte
  obtain ⟨ad, hval⟩ : ∃ ad, a.eval x = .slice ad es.length es.length := by
    generalize a.eval x = y at hr
    cases hr with
    | nils _ _ => exact ⟨none, rfl⟩
    | slice ad len cap sz _ _ vs hlen hcap hmax hsz hc hr ht =>
      have : cap = len := ht
      subst this; subst hlen; exact ⟨some ad, rfl⟩
  refine ⟨E, .int .i64 es.length, .inl ?_, .refl E, ho, hH, .int _ _⟩
  unfold execOp
  rw [hop]
  simp only
  refine (run_builtin (c := ⟨.builtin .cap, #[x], #[t]⟩) (a := a) (E := E) (P := P) (xs := [x]) (ts := [t]) (ty := o.type) rfl rfl rfl (s := Builtin.cap_ #[t] o.type #[a.eval x]) rfl).trans ?_
  simp only [Builtin.cap_, List.getElem?_toArray, List.getElem?_cons_zero, Sem.run_bind, run_under hu, Result.andThen_ok, hval, Sem.run_pure, goInt]
theorem wanted_none {o : Oper} {y : Nat → Option Bool} (h : o.guard = none) : Region.wanted o y = true := by unfold Region.wanted; rw [h]
/-- An empty slice's room: append of a made slice, cut to nothing. -/
theorem aops_grow {o1 o2 o3 o4 : Oper} {l : List Oper} {T : Slots} {H : Heap} {x y s : Nat} {d1 d2 d3 d4 : Nat} {t u : TypeId} {ei : TypeId × TI} {z : PV} {n : Int} (id : Nat) (hid : H[id]? = some .unborn)
    (g1 : o1.guard = none) (g2 : o2.guard = none) (g3 : o3.guard = none) (g4 : o4.guard = none)
    (p1 : o1.op = .call ⟨.builtin .append, #[.tmp x, .tmp y], #[t, u]⟩) (p2 : o2.op = .move (.tmp s)) (p3 : o3.op = .call ⟨.builtin .len, #[.tmp d2], #[t]⟩) (p4 : o4.op = .slice t (.tmp d1) none (some (.tmp d3)) none)
    (e1 : o1.dst = some d1) (e2 : o2.dst = some d2) (e3 : o3.dst = some d3) (e4 : o4.dst = some d4)
    (hd : d1 ≠ d2 ∧ d1 ≠ d3 ∧ d2 ≠ d3 ∧ s ≠ d1 ∧ x < N ∧ y < N ∧ s < N ∧ d1 < N ∧ d2 < N ∧ d3 < N)
    (hx : T x = .slice [] .full) (hy : T y = .int .i64 n) (hs : T s = .slice [] .full) (hn : 0 < n) (hnb : n * ei.2.bytes ≤ 2 ^ 47) (hnm : n ≤ maxLen)
    (hte : telem P t = some ei) (htu : tint P u = some .i64) (hz : tzero P ei.1 = some z) (hzf : z.fits ei.2 = true) (hsz : 0 < ei.2.sz)
    (h : AOps P N nb ops Q l (upd (upd (upd (upd T d1 .junk) d2 (.slice [] .full)) d3 (.int .i64 0)) d4 (.slice [] (.tok id))) (H.set id (.buf 0 ei.2.sz))) : AOps P N nb ops Q (o1 :: o2 :: o3 :: o4 :: l) T H := by
  obtain ⟨q1, q2, q3, q4, q5, q6, q7, q8, q9, q10⟩ := hd
  obtain ⟨e, i⟩ := ei
  obtain ⟨h1, h2⟩ := telem_some hte
  obtain ⟨dd, f, h3, h4, rfl⟩ := tinfo_some h2
  obtain ⟨f', zv, h5, h6, rfl⟩ := tzero_some hz
  simp only at h5 hzf hnb hsz h
  rw [h4] at h5; cases h5
  obtain ⟨hzs, hzj⟩ := PV.fits_spec hzf
  simp only at hzs
  have hue : P.underlying u = some (.int .i64) := by
    unfold tint at htu
    split at htu
    · rename_i k hq; cases htu; exact hq
    · cases htu
  intro E a ho hH ht
  subst hH
  obtain ⟨zc1, zc2⟩ := (vrel_ofConst E.view zv).not_junk_cells hzj
  have hzv : zv.cells.size = f.size := zc1.trans hzs
  have full : ∀ v, VRel E.view v (.slice [] .full) → ∃ ad, v = .slice ad 0 0 := fun v hv => by
    cases hv with
    | nils _ _ => exact ⟨none, rfl⟩
    | slice ad len cap sz _ _ vs hlen hcap hmax hsz' hc hr ht =>
      have : cap = len := ht
      subst this; simp at hlen; subst hlen; exact ⟨some ad, rfl⟩
  have rx := ht.rel x q5
  have rs := ht.rel s q7
  have ry := ht.rel y q6
  rw [hx] at rx; rw [hs] at rs; rw [hy] at ry
  obtain ⟨adx, vx⟩ := full _ rx
  obtain ⟨ads, vs⟩ := full _ rs
  have vy := ry.int_inv
  have vx' : a.eval (.tmp x) = .slice adx 0 0 := vx
  have vy' : a.eval (.tmp y) = .int .i64 n := vy
  obtain ⟨m, rfl⟩ : ∃ m : Nat, n = m := ⟨n.toNat, by omega⟩
  have em : maxLen = 9223372036854775807 := by decide
  have hw : IntKind.i64.wrap (m : Int) = m := wrap_id' (by omega) (by omega)
  obtain ⟨c, hc6, hc7, hc8⟩ := run_choose_cap (P := P) (w := E.w) m 0 e
  have hcm : c ≤ maxLen := by
    have := hc8 (by have e2 : maxLen = 2 ^ 63 - 1 := rfl; omega)
    have e2 : maxLen = 2 ^ 63 - 1 := rfl
    omega
  let arr : Array Value := #[] ++ Builtin.zeroCells zv.cells m ++ Builtin.zeroCells zv.cells (c - m)
  have harr : arr.size = c * f.size := by
    have h0 : (#[] : Array Value).size = 0 := rfl
    simp only [arr, Array.size_append, zeroCells_size, hzv, h0, Nat.zero_add]
    rw [← Nat.add_mul]; congr 1; omega
  have hd' := ho.drew
  have hid' : E.drew.H[id]? = some .unborn ∨ ∃ n0, E.drew.H[id]? = some (.buf n0 f.size) ∧ n0 < 0 := .inl hid
  have hle' := Env.newBuf_le (E := E.drew) hd' (n := 0) (sz := f.size) hid' arr e 0
  have hok' := Env.Ok.newBuf (E := E.drew) hd' (n := 0) (sz := f.size) hid' arr e 0
  have hlen := tok_len (E := E.drew) (n := 0) hid'
  have hle := E.drew_le.trans hle'
  generalize hE' : E.drew.newBuf id 0 f.size arr e 0 = E' at hle' hok' hle
  have hH' : E'.H = E.H.set id (.buf 0 f.size) := by rw [← hE']; rfl
  have run1 : (execOp a.eval o1).run P E.w = .ok (.value (.slice (some ⟨E.w.heap.size, 0, none⟩) m c)) E'.w := by
    unfold execOp
    rw [p1]
    simp only
    refine (run_builtin (c := ⟨.builtin .append, #[.tmp x, .tmp y], #[t, u]⟩) (a := a) (E := E) (P := P) (xs := [.tmp x, .tmp y]) (ts := [t, u]) (ty := o1.type) rfl rfl rfl (s := Builtin.append_ #[t, u] o1.type #[a.eval (.tmp x), a.eval (.tmp y)]) rfl).trans ?_
    have hc6' : (choose (.appendCap m 0 e)).run P E.w = .ok c E.drew.w := hc6
    have n0 : ¬ (m : Int) < 0 := by omega
    have n1 : ¬ (m : Int) * f.bytes > 2 ^ 48 := by omega
    have n2 : ¬ m ≤ 0 := by omega
    have n3 : ¬ ((m : Nat) : Int) > IntKind.i64.max := by
      have e1 : IntKind.i64.max = 9223372036854775807 := by decide
      have e2 : maxLen = 9223372036854775807 := by decide
      rw [e1]; omega
    have n4 : ¬ Builtin.nextslicecap m 0 * f.bytes > 2 ^ 48 := by
      have := nextslicecap_le m 0 (by omega)
      have := Nat.mul_le_mul_right f.bytes this
      rw [Nat.mul_assoc] at this
      have hb : m * f.bytes ≤ 2 ^ 47 := by exact_mod_cast hnb
      omega
    have n5 : ¬ m * f.size = 0 := by
      intro h0
      rcases Nat.mul_eq_zero.1 h0 with h0 | h0 <;> omega
    have hfirst : (Builtin.firstCells f.size 0 (.slice adx 0 0)).run P E.drew.w = .ok #[] E.drew.w := by
      cases adx <;> simp only [Builtin.firstCells, Nat.zero_mul, loadCells, loadCellsFrom, Sem.run_pure]
    have hai : (asInt (.int .i64 (m : Int))).run P E.w = .ok (m : Int) E.w := rfl
    simp only [Builtin.append_, List.getElem?_toArray, List.getElem?_cons_zero, List.getElem?_cons_succ, Sem.run_bind, run_under h1, run_size h4, run_under hue, Result.andThen_ok, Sem.run_pure, vx', vy', hai, hw, n0, n1, n2, n3, n4, n5, if_true, if_false, run_tinfo h4,
      Int.toNat_natCast, Nat.zero_add, Bool.not_true, Bool.false_eq_true, run_zero h4 h6, hc6', run_ask, hfirst, Go.newRow, run_newObj, false_and]
    rw [← hE']
    rfl
  have hb : E'.tb id = some E.w.heap.size := by rw [← hE']; simp [Env.newBuf, Env.drew]
  have hk : E'.κ E.w.heap.size = .buf 0 arr.size := by rw [← hE']; simp only [Env.newBuf]; exact if_pos rfl
  have rel0 : VRel E'.view (.slice (some ⟨E.w.heap.size, 0, none⟩) 0 c) (.slice [] (.tok id)) := by
    refine .slice _ 0 c f.size [] _ (fun _ _ => undef) rfl (Nat.zero_le _) hcm (fun i h => absurd h (by simp)) (fun i j h => absurd h (by omega)) (fun i j h => absurd h (by simp)) ⟨⟨.buf 0 f.size, by rw [hH']; exact List.getElem?_set_self hlen, by simp⟩, fun t' ht' => ?_⟩
    have hg : E'.H[id]? = some (.buf 0 f.size) := by rw [hH']; exact List.getElem?_set_self hlen
    simp only [Env.view, hg, hb, hk, Option.bind_some, Option.some.injEq] at ht'
    subst ht'
    refine ⟨Nat.le_refl _, fun _ => .inr ⟨E.w.heap.size, 0, arr.size, 0, rfl, rfl, by simp, by rw [harr]; simp⟩⟩
  refine wpList_cons (wanted_none g1) ?_
  unfold Oper.wp
  rw [run1]
  show wpList P ops _ _ (a.put o1.dst _) E'.w
  rw [e1]
  have ht1 : TRel E'.view N (a.put (some d1) (.slice (some ⟨E.w.heap.size, 0, none⟩) m c)) (upd T d1 .junk) := (ht.mono hle.view).put (some d1) (.junk _)
  obtain ⟨E2, v2, r2, le2, ok2, hH2, rel2⟩ := aop_sound (o := o2) (P := P) hok' ht1 (by rw [p2]; simp [okOp, Op.operands, okOpnd, q7]) (mt := false) (fresh := 0) (v := .slice [] .full) (eff := none) (by rw [p2]; simp only [aop, aev, upd, if_neg q4, hs]) (by intro ob h; cases h)
  have ht2 := ((ht1.mono le2.view).put (some d2) rel2)
  obtain ⟨E3, v3, r3, le3, ok3, hH3, rel3⟩ := aop_sound (o := o3) (P := P) ok2 ht2 (by rw [p3]; simp [okOp, Op.operands, Call.operands, okOpnd, q9]) (mt := false) (fresh := 0) (v := .int .i64 0) (eff := none) (by rw [p3]; simp [aop, abuiltin, aev, updO, upd, hte]) (by intro ob h; cases h)
  have ht3 := ((ht2.mono le3.view).put (some d3) rel3)
  have key : ∀ (o : Oper) (E1 E2 : Env) (a : Act) (v : Value) (d : Nat) (l : List Oper) (Q2 : Exit → Act → World → Prop), o.guard = none → o.dst = some d → ((execOp a.eval o).run P E1.w = .ok (.value v) E2.w ∨ ((execOp a.eval o).run P E1.w = .ok .skip E2.w ∧ v = undef)) → wpList P ops Q2 l (a.put (some d) v) E2.w → wpList P ops Q2 (o :: l) a E1.w := by
    intro o E1 E2 a v d l Q2 hg hd hr hn
    refine wpList_cons (wanted_none hg) ?_
    unfold Oper.wp
    rcases hr with hr | ⟨hr, rfl⟩
    · rw [hr]; show wpList P ops _ _ (a.put o.dst _) _; rw [hd]; exact hn
    · rw [hr]; show wpList P ops _ _ (a.put o.dst _) _; rw [hd]; exact hn
  refine key o2 E' E2 _ v2 d2 _ _ g2 e2 r2 ?_
  refine key o3 E2 E3 _ v3 d3 _ _ g3 e3 r3 ?_
  have hv3 : v3 = .int .i64 0 := rel3.int_inv
  have hsz3 := ht3.size
  have gd1 : ∀ (b : Act) (d : Nat) (v : Value), d < b.tmps.size → (b.put (some d) v).tmps.getD d undef = v := fun b d v h => by
    simp only [Act.put]
    rw [Array.getD_eq_getD_getElem?, Array.getElem?_setIfInBounds_self_of_lt h]; rfl
  have gd2 : ∀ (b : Act) (d d' : Nat) (v : Value), d ≠ d' → (b.put (some d) v).tmps.getD d' undef = b.tmps.getD d' undef := fun b d d' v h => by
    simp only [Act.put]
    rw [Array.getD_eq_getD_getElem?, Array.getElem?_setIfInBounds_ne h, ← Array.getD_eq_getD_getElem?]
  have run4 : (execOp (Act.eval (((a.put (some d1) (.slice (some ⟨E.w.heap.size, 0, none⟩) m c)).put (some d2) v2).put (some d3) v3)) o4).run P E3.w = .ok (.value (.slice (some ⟨E.w.heap.size, 0, none⟩) 0 c)) E3.w := by
    unfold execOp
    rw [p4]
    have f1 : (((a.put (some d1) (.slice (some ⟨E.w.heap.size, 0, none⟩) m c)).put (some d2) v2).put (some d3) v3).eval (.tmp d1) = .slice (some ⟨E.w.heap.size, 0, none⟩) m c := by
      show Array.getD _ d1 undef = _
      rw [gd2 _ _ _ _ (Ne.symm q2), gd2 _ _ _ _ (Ne.symm q1), gd1 _ _ _ (by rw [ht.size]; exact q8)]
    have f2 : (((a.put (some d1) (.slice (some ⟨E.w.heap.size, 0, none⟩) m c)).put (some d2) v2).put (some d3) v3).eval (.tmp d3) = .int .i64 0 := by
      show Array.getD _ d3 undef = _
      rw [gd1 _ _ _ (by rw [ht2.size]; exact q10), hv3]
    simp only [Option.map_none, Option.map_some, f1, f2]
    have hb0 : (Instr.sliceBounds true m c none (some (.int .i64 0)) none).run P E3.w = .ok (0, 0, c) E3.w := by
      simp [Instr.sliceBounds, Instr.sliceBound, asInt, asIntOf, Sem.run_bind]
    simp only [Instr.sliceAt, Instr.slice, Sem.run_bind, run_under h1, Result.andThen_ok, hb0, run_size h4, Sem.run_pure, Nat.sub_zero, Nat.sub_self]
    have ha0 : ∀ ad : Addr, ad.add 0 = ad := add_zero'
    split <;> simp [ha0]
  refine key o4 E3 E3 _ _ d4 _ _ g4 e4 (.inl run4) ?_
  have ht4 := ht3.put (some d4) ((rel0.mono le2.view).mono le3.view)
  have hfin := h E3 _ ok3 (by rw [hH3, hH2]; exact hH') ht4
  exact wpList_mono (fun e a w hl => lift_mono (((hle.trans le2).trans le3).leN nb) (fun _ _ _ q => q) hl) l _ _ hfin
end
end Go.Abs
namespace Go.Abs
section
variable {P : Program} {N nb : Nat} {ops : Array Oper} {Q : Post}
/-- An append to an empty slice without room: what it makes is taken as a row that may change. -/
theorem aops_appendM {o : Oper} {l : List Oper} {T : Slots} {H : Heap} {x y : Operand} {t u : TypeId} {ei : TypeId × TI} {z : PV} {xs : List PV} {tl : Tail} (id : Nat) (hid : H[id]? = some .unborn) (hw : awanted ops.toList T N o = some true)
    (hop : o.op = .call ⟨.builtin .append, #[x, y], #[t, u]⟩) (okx : okOpnd N x = true) (oky : okOpnd N y = true) (hx : aev T x = .slice [] .full) (hy : aev T y = .slice xs tl) (hne : xs ≠ [])
    (hb : xs.length * ei.2.bytes ≤ 2 ^ 47) (hm : xs.length ≤ maxLen) (hxs : ∀ e ∈ xs, e.cells.length = ei.2.sz) (hsz : 0 < ei.2.sz)
    (hte : telem P t = some ei) (htu : (telem P u).isSome = true) (hz : tzero P ei.1 = some z) (hzf : z.fits ei.2 = true)
    (h : ∀ (c : Nat) (rest : List PV), xs.length ≤ c → c ≤ maxLen → rest = (List.replicate (c - xs.length) z.cells).flatten → AOps P N nb ops Q l (updO T o.dst (.msl id 0 xs.length c)) (H.set id (.row (flatE xs ++ rest)))) : AOps P N nb ops Q (o :: l) T H := by
  intro E a ho hH ht
  subst hH
  obtain ⟨e, i⟩ := ei
  obtain ⟨h1, h2⟩ := telem_some hte
  obtain ⟨dd, f, h3, h4, rfl⟩ := tinfo_some h2
  obtain ⟨f', zv, h5, h6, rfl⟩ := tzero_some hz
  simp only at h5 hzf hb hxs hsz
  rw [h4] at h5; cases h5
  obtain ⟨hzs, hzj⟩ := PV.fits_spec hzf
  simp only at hzs
  obtain ⟨zc1, zc2⟩ := (vrel_ofConst E.view zv).not_junk_cells hzj
  have hzv : zv.cells.size = f.size := zc1.trans hzs
  obtain ⟨eu, hue⟩ := telem_isSome htu
  have hvx := vrel_eval ht x okx
  have hvy := vrel_eval ht y oky
  rw [hx] at hvx; rw [hy] at hvy
  obtain ⟨adx, vx⟩ : ∃ ad, a.eval x = .slice ad 0 0 := by
    generalize a.eval x = w at hvx
    cases hvx with
    | nils _ _ => exact ⟨none, rfl⟩
    | slice ad len cap sz _ _ vs hlen hcap hmax hsz' hc hr ht =>
      have : cap = len := ht
      subst this; simp at hlen; subst hlen; exact ⟨some ad, rfl⟩
  have em : maxLen = 9223372036854775807 := by decide
  have hxl : 0 < xs.length := List.length_pos_iff.2 hne
  obtain ⟨c, hc6, hc7, hc8⟩ := run_choose_cap (P := P) (w := E.w) xs.length 0 e
  have hcm : c ≤ maxLen := by
    have := hc8 (by have e2 : maxLen = 2 ^ 63 - 1 := rfl; omega)
    have e2 : maxLen = 2 ^ 63 - 1 := rfl
    omega
  have hd := ho.drew
  obtain ⟨arrx, r1, r2, ady, capy, vy, hcy1, hcy2, _⟩ := run_first (P := P) (E := E.drew) hvy hxs
  have hxsz : arrx.size = xs.length * f.size := by rw [r2.1, flatE_length xs hxs]
  have hzl := rl_zero (V := E.view) zv hzj (c - xs.length)
  have hzl2 : RL E.view (Builtin.zeroCells zv.cells (c - xs.length)) ((List.replicate (c - xs.length) (ofConst zv).cells).flatten) := by
    have := hzl
    rw [flatE_replicate] at this
    exact this
  let arr : Array Value := #[] ++ arrx ++ Builtin.zeroCells zv.cells (c - xs.length)
  have hrl : RL E.drew.view arr (flatE xs ++ (List.replicate (c - xs.length) (ofConst zv).cells).flatten) := by
    have := rl_append (V := E.drew.view) (a1 := arrx) (c1 := flatE xs) r2 hzl2
    simpa [arr] using this
  have hle' := Env.newRow_le (E := E.drew) hd (id := id) hid arr e (flatE xs ++ (List.replicate (c - xs.length) (ofConst zv).cells).flatten)
  have hok' := Env.Ok.newRow (E := E.drew) hd (id := id) hid arr e (flatE xs ++ (List.replicate (c - xs.length) (ofConst zv).cells).flatten) hrl.1 hrl.2
  have hlen := len_of_get hid
  have run1 : (execOp a.eval o).run P E.w = .ok (.value (.slice (some ⟨E.w.heap.size, 0, none⟩) xs.length c)) (E.drew.newRow id arr e (flatE xs ++ (List.replicate (c - xs.length) (ofConst zv).cells).flatten)).w := by
    unfold execOp
    rw [hop]
    simp only
    refine (run_builtin (c := ⟨.builtin .append, #[x, y], #[t, u]⟩) (a := a) (E := E) (P := P) (xs := [x, y]) (ts := [t, u]) (ty := o.type) rfl rfl rfl (s := Builtin.append_ #[t, u] o.type #[a.eval x, a.eval y]) rfl).trans ?_
    have hc6' : (choose (.appendCap xs.length 0 e)).run P E.w = .ok c E.drew.w := hc6
    have n2 : ¬ xs.length ≤ 0 := by omega
    have n3 : ¬ ((xs.length : Nat) : Int) > IntKind.i64.max := by
      have e1 : IntKind.i64.max = 9223372036854775807 := by decide
      rw [e1]; omega
    have n4 : ¬ Builtin.nextslicecap xs.length 0 * f.bytes > 2 ^ 48 := by
      have := nextslicecap_le xs.length 0 (by omega)
      have := Nat.mul_le_mul_right f.bytes this
      rw [Nat.mul_assoc] at this
      omega
    have hfirst : (Builtin.firstCells f.size 0 (.slice adx 0 0)).run P E.drew.w = .ok #[] E.drew.w := by
      cases adx <;> simp only [Builtin.firstCells, Nat.zero_mul, loadCells, loadCellsFrom, Sem.run_pure]
    have r1' : (Builtin.firstCells f.size xs.length (.slice ady xs.length capy)).run P E.drew.w = .ok arrx E.drew.w := by rw [← vy]; exact r1
    simp only [Builtin.append_, List.getElem?_toArray, List.getElem?_cons_zero, List.getElem?_cons_succ, Sem.run_bind, run_under h1, run_size h4, run_under hue, Result.andThen_ok, Sem.run_pure, vx, vy, Builtin.lenOf, n2, n3, n4, if_true, if_false, run_tinfo h4,
      Nat.zero_add, Bool.not_false, Bool.false_eq_true, run_zero h4 h6, hc6', run_ask, hfirst, r1', Go.newRow, run_newObj, false_and]
    rfl
  have hv : VRel (E.drew.newRow id arr e (flatE xs ++ (List.replicate (c - xs.length) (ofConst zv).cells).flatten)).view (.slice (some ⟨E.w.heap.size, 0, none⟩) xs.length c) (.msl id 0 xs.length c) := by
    have := VRel.msl (V := (E.drew.newRow id arr e (flatE xs ++ (List.replicate (c - xs.length) (ofConst zv).cells).flatten)).view) id 0 xs.length c
      ⟨.row _, by simp only [Env.newRow]; exact List.getElem?_set_self (len_of_get hid), by simp⟩ hcm
    simpa [Env.view, Env.newRow, Env.drew] using this
  refine wpList_cons (awanted_sound ht hw) ?_
  unfold Oper.wp
  rw [run1]
  show wpList P ops _ _ (a.put o.dst _) _
  have hn := h c _ hc7 hcm rfl _ _ hok' rfl ((ht.mono (E.drew_le.trans hle').view).put o.dst hv)
  exact wpList_mono (fun e a w hl => lift_mono ((E.drew_le.trans hle').leN nb) (fun _ _ _ q => q) hl) l _ _ hn
end
end Go.Abs
namespace Go.Abs
/-! A mutable row of a call's own, held by a box, that from here on grows as a plain slice. -/

/-- The box 'ib' holds the slice over the row 'id'. -/
def Env.grw (E : Env) (H1 : Heap) (ib id k cp sz : Nat) (es : List PV) : Env :=
  { E with κ := fun b => if b = E.ρ id then .buf (k * sz) (cp * sz) else E.κ b, ρ := fun i => if i = H1.length then E.ρ ib else E.ρ i,
           tb := fun i => if i = H1.length + 1 then some (E.ρ id) else E.tb i, H := H1 ++ [.row [.slice (es.take k) (.tok (H1.length + 1))], .buf k sz] }

section
variable {E : Env} (ho : E.Ok) {H1 L : Heap} (hE : E.H = H1 ++ L) {ib id k cp sz : Nat} {es : List PV}
  (hib : H1.length ≤ ib) (hid : H1.length ≤ id) (hne : ib ≠ id) (hbox : E.H[ib]? = some (.row [.msl id 0 k cp])) (hrow : E.H[id]? = some (.row (flatE es))) (hk : k ≤ es.length) (hcp : es.length = cp)
  (hes : ∀ e ∈ es, e.cells.length = sz) (hb : ∀ e ∈ es, ∀ x ∈ e.cells, Bel H1.length x)

include ho hrow in
theorem Env.grw_cell (a : Addr) (v : Value) (h : E.view.cell a = some v) : (E.grw H1 ib id k cp sz es).view.cell a = some v := by
  obtain ⟨_, _, _, _, _, h4⟩ := ho.rows id _ hrow
  simp only [Env.view] at h ⊢
  split at h
  · rename_i hs
    have hne : a.block ≠ E.ρ id := by rintro e; rw [e, h4] at hs; cases hs
    have : ((E.grw H1 ib id k cp sz es).κ a.block).stable a.off = true := by
      simp only [Env.grw, if_neg hne]; exact hs
    rw [if_pos this]; exact h
  · cases h

include hE in
theorem Env.grw_get {i : Nat} (hi : i < H1.length) : (E.grw H1 ib id k cp sz es).H[i]? = E.H[i]? := by
  show (H1 ++ _)[i]? = _
  rw [cut_get hE hi, List.getElem?_append_left hi]

include ho hE hrow in
theorem Env.grw_tok {i : Nat} (hi : i < H1.length) {t : TokI} (h : (E.grw H1 ib id k cp sz es).view.tok i = some t) : E.view.tok i = some t := by
  have e1 := Env.grw_get (ib := ib) (id := id) (k := k) (cp := cp) (sz := sz) (es := es) hE hi
  obtain ⟨_, _, _, _, _, h4⟩ := ho.rows id _ hrow
  have e2 : (E.grw H1 ib id k cp sz es).tb i = E.tb i := by simp only [Env.grw]; rw [if_neg (by omega)]
  simp only [Env.view, e1, e2] at h ⊢
  split at h
  · rename_i n s hx
    rw [← h]
    cases htb : E.tb i with
    | none => rfl
    | some b =>
      obtain ⟨arr, elem, pos, _, h6⟩ := ho.bufs i n s b hx htb
      have hne : b ≠ E.ρ id := by rintro e; rw [e, h4] at h6; cases h6
      simp only [Option.bind_some]
      rw [show (E.grw H1 ib id k cp sz es).κ b = E.κ b by simp only [Env.grw, if_neg hne]]
  · cases h

include ho hE hrow in
theorem Env.grw_rel {v : Value} {p : PV} (h : VRel E.view v p) (hp : Bel H1.length p) : VRel (E.grw H1 ib id k cp sz es).view v p := by
  refine VRel.cut (V := E.view) (V' := (E.grw H1 ib id k cp sz es).view) (n := H1.length) (Env.grw_cell ho hrow) (fun i hi hb => ⟨?_, ?_, fun t ht => Env.grw_tok ho hE hrow hi ht⟩) h hp
  · obtain ⟨o, h1, h2⟩ := hb
    exact ⟨o, by rw [Env.grw_get hE hi]; exact h1, h2⟩
  · show (if i = H1.length then _ else _) = _
    rw [if_neg (by omega)]; rfl

include ho hE hbox hrow in
theorem Env.grw_leN {n : Nat} (hn : n ≤ H1.length) : E.leN n (E.grw H1 ib id k cp sz es) := by
  refine ⟨rfl, rfl, rfl, Nat.le_refl _, fun b hb h1 => ⟨?_, rfl⟩, Env.grw_cell ho hrow, fun i hi hb => ⟨?_, ?_, fun t' ht => ⟨t', Env.grw_tok ho hE hrow (by omega) ht, .inl rfl⟩⟩, fun b hb hx => ?_⟩
  · simp only [Env.grw]
    rw [if_neg]
    rintro rfl
    exact h1 (.inl ⟨id, _, hrow, rfl⟩)
  · obtain ⟨o, h1, h2⟩ := hb
    exact ⟨o, by rw [Env.grw_get hE (by omega)]; exact h1, h2⟩
  · show (if i = H1.length then _ else _) = _
    rw [if_neg (by omega)]; rfl
  · have hobj : ∀ i ky, (E.grw H1 ib id k cp sz es).H[i]? = some (.obj ky) → E.H[i]? = some (.obj ky) ∧ (E.grw H1 ib id k cp sz es).ρ i = E.ρ i := by
      intro i ky h1
      by_cases hi : i < H1.length
      · rw [Env.grw_get hE hi] at h1
        refine ⟨h1, ?_⟩
        show (if i = H1.length then _ else _) = _
        rw [if_neg (by omega)]
      · exfalso
        have : (E.grw H1 ib id k cp sz es).H[i]? = ([.row [.slice (es.take k) (.tok (H1.length + 1))], .buf k sz] : Heap)[i - H1.length]? := by
          show (H1 ++ _)[i]? = _
          rw [List.getElem?_append_right (by omega)]
        rw [this] at h1
        match hd : i - H1.length, h1 with
        | 0, h1 => cases h1
        | 1, h1 => cases h1
        | j + 2, h1 => cases h1
    rcases hx with ⟨i, cs, h1, h2⟩ | ⟨i, m, s, h1, h2⟩ | hx
    rotate_left 2
    · exact .inr (.inr (Env.ownsObj_of hobj hx))
    · left
      by_cases hi : i < H1.length
      · rw [Env.grw_get hE hi] at h1
        refine ⟨i, cs, h1, ?_⟩
        rw [← h2]; show _ = (if i = H1.length then _ else _)
        rw [if_neg (by omega)]
      · by_cases he : i = H1.length
        · subst he
          refine ⟨ib, _, hbox, ?_⟩
          rw [← h2]; show _ = (if H1.length = H1.length then _ else _)
          rw [if_pos rfl]
        · exfalso
          have : (E.grw H1 ib id k cp sz es).H[i]? = ([.row [.slice (es.take k) (.tok (H1.length + 1))], .buf k sz] : Heap)[i - H1.length]? := by
            show (H1 ++ _)[i]? = _
            rw [List.getElem?_append_right (by omega)]
          rw [this] at h1
          match hd : i - H1.length, h1 with
          | 0, _ => omega
          | 1, h1 => cases h1
          | j + 2, h1 => cases h1
    · by_cases hi : i < H1.length
      · right; left
        rw [Env.grw_get hE hi] at h1
        refine ⟨i, m, s, h1, ?_⟩
        rw [← h2]; show _ = (if i = H1.length + 1 then _ else _)
        rw [if_neg (by omega)]
      · left
        have : (E.grw H1 ib id k cp sz es).H[i]? = ([.row [.slice (es.take k) (.tok (H1.length + 1))], .buf k sz] : Heap)[i - H1.length]? := by
          show (H1 ++ _)[i]? = _
          rw [List.getElem?_append_right (by omega)]
        rw [this] at h1
        match hd : i - H1.length, h1 with
        | 0, h1 => cases h1
        | 1, _ =>
          have e : i = H1.length + 1 := by omega
          have h2 : (if i = H1.length + 1 then some (E.ρ id) else E.tb i) = some b := h2
          rw [if_pos e] at h2
          exact ⟨id, _, hrow, by cases h2; rfl⟩
        | j + 2, h1 => cases h1

include ho hE hrow hk hcp hes hb in
theorem Env.grw_msl {v : Value} (h : VRel E.view v (.msl id 0 k cp)) : VRel (E.grw H1 ib id k cp sz es).view v (.slice (es.take k) (.tok (H1.length + 1))) := by
  obtain ⟨arr, elem, h1, h2, h3, h4⟩ := ho.rows id _ hrow
  cases h with
  | msl _ _ _ _ hbn hm =>
    have hlenf := flatE_length es hes
    have hκ : (E.grw H1 ib id k cp sz es).κ (E.ρ id) = .buf (k * sz) (cp * sz) := by simp only [Env.grw, if_pos]
    let vs : Nat → Nat → Value := fun i j => arr.getD (i * sz + j) undef
    have hbound : ∀ i j, i < k → j < sz → i * sz + j < k * sz := by
      intro i j hi hj
      have : (i + 1) * sz ≤ k * sz := Nat.mul_le_mul_right _ (by omega)
      rw [Nat.add_mul] at this; omega
    have hks : k * sz ≤ es.length * sz := Nat.mul_le_mul_right _ hk
    have hcell2 : ∀ i j, i < k → j < sz → (E.grw H1 ib id k cp sz es).view.cell ⟨E.ρ id, i * sz + j, none⟩ = some (vs i j) := by
      intro i j hi hj
      have hbd := hbound i j hi hj
      simp only [Env.view, hκ, Kind.stable, decide_eq_true_eq, if_pos hbd]
      show E.w.cell? _ = _
      rw [cell_row h1]
      show _ = some (arr.getD _ undef)
      rw [Array.getD_eq_getD_getElem?, Array.getElem?_eq_getElem (by omega)]; rfl
    have hadd : ∀ n, (⟨E.ρ id, 0, none⟩ : Addr).add n = ⟨E.ρ id, n, none⟩ := by
      intro n; unfold Addr.add; split
      · rename_i e; subst e; rfl
      · simp
    have hget1 : (E.grw H1 ib id k cp sz es).H[H1.length + 1]? = some (.buf k sz) := by
      show (H1 ++ _)[H1.length + 1]? = _
      rw [List.getElem?_append_right (by omega), Nat.add_sub_cancel_left]; rfl
    have htake : (es.take k).length = k := by rw [List.length_take]; omega
    refine .slice ⟨E.ρ id, 0, none⟩ k cp sz (es.take k) _ vs htake (by omega) hm ?_ ?_ ?_ ⟨⟨_, hget1, by simp⟩, fun t ht => ?_⟩
    · intro i hi
      rw [List.getElem_take]
      exact hes _ (List.getElem_mem _)
    · intro i j hi hj
      rw [hadd]; exact hcell2 i j hi hj
    · intro i j hi hj
      rw [List.length_take] at hi
      have hi' : i < es.length := by omega
      have hik : i < k := by omega
      have hjs : j < sz := by rw [List.getElem_take] at hj; rwa [hes _ (List.getElem_mem _)] at hj
      have hlt := hbound i j hik hjs
      have hlt' : i * sz + j < (flatE es).length := by rw [hlenf]; omega
      have hget := flatE_get es hes i j hi' hjs
      have hr := h3 (i * sz + j) hlt'
      rw [List.getElem?_eq_getElem hlt', List.getElem?_eq_getElem (by rw [hes _ (List.getElem_mem _)]; exact hjs)] at hget
      have hget' := Option.some.inj hget
      have hr2 := Env.grw_rel (ib := ib) (id := id) (k := k) (cp := cp) (sz := sz) (es := es) ho hE hrow hr (by
        rw [hget']; exact hb _ (List.getElem_mem _) _ (List.getElem_mem _))
      rw [hget'] at hr2
      simp only [List.getElem_take]
      exact hr2
    · simp only [Env.view, hget1] at ht
      have e2 : (E.grw H1 ib id k cp sz es).tb (H1.length + 1) = some (E.ρ id) := by simp only [Env.grw, if_pos]
      rw [e2] at ht
      simp only [Option.bind_some, hκ, Option.some.injEq] at ht
      subst ht
      exact ⟨by simp, fun _ => .inr ⟨_, _, _, 0, rfl, rfl, by simp, by simp⟩⟩

include ho hE hib hid hne hbox hrow hk hcp hes hb in
theorem Env.Ok.grw (hb1 : HBel H1.length H1) : (E.grw H1 ib id k cp sz es).Ok := by
  have hg : ∀ {i : Nat} {o : AObj}, i < H1.length → (E.grw H1 ib id k cp sz es).H[i]? = some o → E.H[i]? = some o := fun hi h => by rw [← Env.grw_get hE hi]; exact h
  have hρ : ∀ i, i < H1.length → (E.grw H1 ib id k cp sz es).ρ i = E.ρ i := fun i hi => by show (if i = H1.length then _ else _) = _; rw [if_neg (by omega)]
  have hρ0 : (E.grw H1 ib id k cp sz es).ρ H1.length = E.ρ ib := by show (if H1.length = H1.length then _ else _) = _; rw [if_pos rfl]
  have htb : ∀ i, i < H1.length → (E.grw H1 ib id k cp sz es).tb i = E.tb i := fun i hi => by show (if i = H1.length + 1 then _ else _) = _; rw [if_neg (by omega)]
  have htb1 : (E.grw H1 ib id k cp sz es).tb (H1.length + 1) = some (E.ρ id) := by show (if H1.length + 1 = H1.length + 1 then _ else _) = _; rw [if_pos rfl]
  have hκ : ∀ b, b ≠ E.ρ id → (E.grw H1 ib id k cp sz es).κ b = E.κ b := fun b hb => by simp only [Env.grw, if_neg hb]
  have hout : ∀ i o, ¬ i < H1.length → (E.grw H1 ib id k cp sz es).H[i]? = some o → (i = H1.length ∧ o = .row [.slice (es.take k) (.tok (H1.length + 1))]) ∨ (i = H1.length + 1 ∧ o = .buf k sz) := by
    intro i o hi h
    have : (E.grw H1 ib id k cp sz es).H[i]? = ([.row [.slice (es.take k) (.tok (H1.length + 1))], .buf k sz] : Heap)[i - H1.length]? := by
      show (H1 ++ _)[i]? = _
      rw [List.getElem?_append_right (by omega)]
    rw [this] at h
    match hd : i - H1.length, h with
    | 0, h => cases h; exact .inl ⟨by omega, rfl⟩
    | 1, h => cases h; exact .inr ⟨by omega, rfl⟩
    | j + 2, h => cases h
  obtain ⟨arrI, elemI, i1, i2, i3, i4⟩ := ho.rows id _ hrow
  obtain ⟨arrB, elemB, b1, b2, b3, b4⟩ := ho.rows ib _ hbox
  have hbi : E.ρ ib ≠ E.ρ id := fun e => hne (ho.injr ib id _ _ hbox hrow e)
  refine ⟨?_, ?_, ?_, ?_, ho.globs_of (Env.grw_cell ho hrow) (by intro i b vs hi; by_cases hl : i < H1.length; exact hg hl hi; rcases hout i _ hl hi with ⟨_, e⟩ | ⟨_, e⟩ <;> cases e), ⟨fun i ky hi => ?_, fun i i' ky ky' h1 h2 e => ?_⟩⟩
  rotate_left 4
  · have hl : i < H1.length := by
      by_cases hl : i < H1.length
      · exact hl
      · rcases hout i _ hl hi with ⟨_, e⟩ | ⟨_, e⟩ <;> cases e
    obtain ⟨⟨o, a1, a2⟩, a3⟩ := ho.objs.at_ i ky (hg hl hi)
    have hi1 : H1[i]? = some (.obj ky) := by rw [← cut_get hE hl]; exact hg hl hi
    have hni : E.ρ i ≠ E.ρ id := fun e => by rw [e, i1] at a1; cases a1; exact a2.cells
    rw [hρ i hl, hκ _ hni]
    exact ⟨⟨o, a1, a2.cut (fun v p hv hp => Env.grw_rel ho hE hrow hv hp) (hb1 _ (List.mem_of_getElem? hi1))⟩, a3⟩
  · have hlt : ∀ j kj, (E.grw H1 ib id k cp sz es).H[j]? = some (.obj kj) → j < H1.length := by
      intro j kj hj
      by_cases hl : j < H1.length
      · exact hl
      · rcases hout j _ hl hj with ⟨_, e⟩ | ⟨_, e⟩ <;> cases e
    have l1 := hlt _ _ h1
    have l2 := hlt _ _ h2
    rw [hρ i l1, hρ i' l2] at e
    exact ho.objs.inj i i' ky ky' (hg l1 h1) (hg l2 h2) e
  · intro i cs hi
    by_cases hl : i < H1.length
    · have hi1 : H1[i]? = some (.row cs) := by rw [← cut_get hE hl]; exact hg hl hi
      obtain ⟨arr, elem, h1, h2, h3, h4⟩ := ho.rows i cs (hg hl hi)
      have hm : AObj.row cs ∈ H1 := List.mem_of_getElem? hi1
      have hni : E.ρ i ≠ E.ρ id := fun e => by have := ho.injr i id _ _ (hg hl hi) hrow e; omega
      rw [hρ i hl]
      exact ⟨arr, elem, h1, h2, fun j hj => Env.grw_rel ho hE hrow (h3 j hj) (hb1 _ hm _ (List.getElem_mem hj)), by rw [hκ _ hni]; exact h4⟩
    · rcases hout i _ hl hi with ⟨rfl, e⟩ | ⟨_, e⟩
      · cases e
        rw [hρ0]
        refine ⟨arrB, elemB, b1, by simpa using b2, fun j hj => ?_, by rw [hκ _ hbi]; exact b4⟩
        have hj0 : j = 0 := by simp at hj; omega
        subst hj0
        exact Env.grw_msl ho hE hrow hk hcp hes hb (b3 0 (by simp))
      · cases e
  · intro i n s b hi hb'
    by_cases hl : i < H1.length
    · rw [htb i hl] at hb'
      obtain ⟨arr, elem, pos, h1, h2⟩ := ho.bufs i n s b (hg hl hi) hb'
      have hni : b ≠ E.ρ id := by rintro e; rw [e, i4] at h2; cases h2
      exact ⟨arr, elem, pos, h1, by rw [hκ _ hni]; exact h2⟩
    · rcases hout i _ hl hi with ⟨_, e⟩ | ⟨rfl, e⟩
      · cases e
      · cases e
        rw [htb1] at hb'
        cases hb'
        refine ⟨arrI, elemI, k * sz, i1, ?_⟩
        rw [i2, flatE_length es hes, hcp]
        simp only [Env.grw, if_pos]
  · intro i i' cs cs' h1 h2 e
    by_cases hl : i < H1.length
    · by_cases hl' : i' < H1.length
      · rw [hρ i hl, hρ i' hl'] at e
        exact ho.injr i i' cs cs' (hg hl h1) (hg hl' h2) e
      · rcases hout i' _ hl' h2 with ⟨rfl, _⟩ | ⟨_, e'⟩
        · rw [hρ i hl, hρ0] at e
          have := ho.injr i ib _ _ (hg hl h1) hbox e
          omega
        · cases e'
    · rcases hout i _ hl h1 with ⟨rfl, _⟩ | ⟨_, e'⟩
      · by_cases hl' : i' < H1.length
        · rw [hρ i' hl', hρ0] at e
          have := ho.injr ib i' _ _ hbox (hg hl' h2) e
          omega
        · rcases hout i' _ hl' h2 with ⟨rfl, _⟩ | ⟨_, e'⟩
          · rfl
          · cases e'
      · cases e'
  · intro i i' n s n' s' b h1 h2 e e'
    by_cases hl : i < H1.length
    · by_cases hl' : i' < H1.length
      · rw [htb i hl] at e
        rw [htb i' hl'] at e'
        exact ho.injb i i' n s n' s' b (hg hl h1) (hg hl' h2) e e'
      · rcases hout i' _ hl' h2 with ⟨_, q⟩ | ⟨rfl, _⟩
        · cases q
        · rw [htb i hl] at e
          rw [htb1] at e'
          cases e'
          obtain ⟨_, _, _, _, h6⟩ := ho.bufs i n s _ (hg hl h1) e
          rw [i4] at h6; cases h6
    · rcases hout i _ hl h1 with ⟨_, q⟩ | ⟨rfl, _⟩
      · cases q
      · rw [htb1] at e
        cases e
        by_cases hl' : i' < H1.length
        · rw [htb i' hl'] at e'
          obtain ⟨_, _, _, _, h6⟩ := ho.bufs i' n' s' _ (hg hl' h2) e'
          rw [i4] at h6; cases h6
        · rcases hout i' _ hl' h2 with ⟨_, q⟩ | ⟨rfl, _⟩
          · cases q
          · rfl
end

section
variable {P : Program} {N nb : Nat} {Q : Post}
/-- The slots that are kept: the box under its new name, and what lies below. -/
def GrwL (T : Slots) (ib n : Nat) : List (Nat × PV) → Prop
  | [] => True
  | (d, v) :: l => ((T d = v ∧ Bel n v) ∨ (T d = .optr ib 0 ∧ v = .optr n 0)) ∧ GrwL T ib n l

theorem awp_grw {c : Code} {T : Slots} {H : Heap} (l : List (Nat × PV)) {H1 L : Heap} (ib id k cp sz : Nat) (es : List PV) (hl : GrwL T ib H1.length l) (hH : H = H1 ++ L) (hn : nb ≤ H1.length) (hb1 : HBel H1.length H1)
    (hib : H1.length ≤ ib) (hid : H1.length ≤ id) (hne : ib ≠ id) (hbox : H[ib]? = some (.row [.msl id 0 k cp])) (hrow : H[id]? = some (.row (flatE es))) (hk : k ≤ es.length) (hcp : es.length = cp)
    (hes : ∀ e ∈ es, e.cells.length = sz) (hb : ∀ e ∈ es, ∀ x ∈ e.cells, Bel H1.length x)
    (h : AWP P N nb c Q (mkS l) (H1 ++ [.row [.slice (es.take k) (.tok (H1.length + 1))], .buf k sz])) : AWP P N nb c Q T H := by
  intro E a ho hE ht
  have hE' : E.H = H1 ++ L := hE.trans hH
  rw [← hE] at hbox hrow
  have hbx : ∀ {v : Value}, VRel E.view v (.optr ib 0) → VRel (E.grw H1 ib id k cp sz es).view v (.optr H1.length 0) := by
    intro v hv
    cases hv with
    | optr _ _ h =>
      have e : (E.grw H1 ib id k cp sz es).view.rho H1.length = E.view.rho ib := by show (if H1.length = H1.length then _ else _) = _; rw [if_pos rfl]; rfl
      rw [← e]
      refine .optr _ _ ⟨.row [.slice (es.take k) (.tok (H1.length + 1))], ?_, by simp⟩
      show (H1 ++ _)[H1.length]? = _
      rw [List.getElem?_append_right (Nat.le_refl _), Nat.sub_self]; rfl
  refine wp_mono (h (E.grw H1 ib id k cp sz es) a (ho.grw hE' hib hid hne hbox hrow hk hcp hes hb hb1) rfl ⟨ht.size, ht.defers, ?_⟩) fun e a w hl => lift_mono (Env.grw_leN ho hE' hbox hrow hn) (fun _ _ _ q => q) hl
  intro i hi
  have hT := ht.rel i hi
  clear h hi
  induction l with
  | nil => exact .junk _
  | cons x l ih =>
    obtain ⟨d, v⟩ := x
    simp only [mkS, upd]
    split
    · rename_i e
      subst e
      rcases hl.1 with ⟨h1, h2⟩ | ⟨h1, rfl⟩
      · rw [← h1] at h2 ⊢; exact Env.grw_rel ho hE' hrow hT h2
      · rw [h1] at hT; exact hbx hT
    · exact ih hl.2
end
end Go.Abs
namespace Go.Abs
/-! Loads of a struct from a box that keep what is known of its slices' room. -/
theorem sound_loadK {P : Program} {E : Env} {N : Nat} {a : Act} {T : Nat → PV} (ho : E.Ok) (ht : TRel E.view N a T) {t : TypeId} {x : Operand} (hx : okOpnd N x = true) {i : TI} (hi : tinfo P t = some i) (hagg : i.agg = true)
    {id off : Nat} {cs : List PV} (hT : aev T x = .optr id off) (hcs : E.H[id]? = some (.row cs)) (hl : off + i.sz ≤ cs.length) :
    ∃ val, (Instr.loadAt t (a.eval x)).run P E.w = .ok val E.w ∧ VRel E.view val (.agg ((cs.drop off).take i.sz)) := by
  have hr := vrel_eval ht x hx
  rw [hT] at hr
  obtain ⟨hv, hb⟩ := hr.optr_inv
  rw [hv]
  have hc : Cells E ⟨E.ρ id, off, none⟩ (cs.drop off) := .row hcs
  obtain ⟨h1, h2⟩ := hc.loadVar (P := P) ho hi
  obtain ⟨arr, e1, e2⟩ := h1 hagg (by simp; omega)
  exact ⟨_, by simpa [Instr.loadAt, Instr.sureAddr, Env.view] using e1, e2⟩
theorem sound_fill1 {P : Program} {E : Env} {N : Nat} {a : Act} {T : Nat → PV} (ht : TRel E.view N a T) (fl : List (Nat × TI)) (f : Nat) (x : Operand) (arr : Array Value) (cs : List PV) (h : RL E.view arr cs) (hok : okOpnd N x = true) {off : Nat} {i : TI} (hf : fl[f]? = some (off, i))
    (hc1 : (aev T x).isJunk = false) (hc2 : (aev T x).cells.length = i.sz) (hc3 : off + i.sz ≤ cs.length) :
    ∃ arr', Instr.fill ((fl.map fun x => (x.1, x.2.sz)).toArray[·]?) arr [(f, a.eval x)] = some arr' ∧ RL E.view arr' (splice cs off (aev T x).cells) := by
  have hr := vrel_eval ht x hok
  obtain ⟨c1, c2⟩ := hr.not_junk_cells hc1
  have h' := foldl_splice (V := E.view) (a.eval x).cells.toList (aev T x).cells off 0 arr cs h (by simp [c1]) (fun j hj => by
    have := c2 j (by simpa using hj)
    rw [Array.getD_eq_getD_getElem?] at this
    rw [List.getD_eq_getElem?_getD, Array.getElem?_toList]
    exact this)
  rw [Nat.add_zero] at h'
  refine ⟨_, ?_, h'⟩
  simp only [Instr.fill]
  simp only [List.getElem?_toArray, List.getElem?_map, hf, Option.map_some]
  rw [if_neg]
  · congr 1
    rw [← Array.foldl_toList, Array.toList_zipIdx]
  · have c3 : (a.eval x).cells.size = i.sz := c1.trans hc2
    have c4 := h.1
    rw [c3, c4]; simp; omega
theorem sound_buildK {P : Program} {E : Env} {N : Nat} {a : Act} {T : Nat → PV} (ht : TRel E.view N a T) {t : TypeId} {f : Nat} {x : Operand} (hok : okOpnd N x = true) {fl : List (Nat × TI)} (hfl : tflds P t = some fl) {z : PV} (hz : tzero P t = some z) (hj : z.isJunk = false) {off : Nat} {i : TI} (hf : fl[f]? = some (off, i))
    (hc1 : (aev T x).isJunk = false) (hc2 : (aev T x).cells.length = i.sz) (hc3 : off + i.sz ≤ z.cells.length) :
    ∃ val, (Instr.build t #[(f, a.eval x)]).run P E.w = .ok val E.w ∧ VRel E.view val (.agg (splice z.cells off (aev T x).cells)) := by
  obtain ⟨fs, h1, h2⟩ := tflds_some hfl
  obtain ⟨f', v, h3, h4, rfl⟩ := tzero_some hz
  have hr := run_places (P := P) (w := E.w) fs.toList fl h2
  obtain ⟨c1, c2⟩ := (vrel_ofConst E.view v).not_junk_cells hj
  obtain ⟨arr', e1, e2⟩ := sound_fill1 (P := P) ht fl f x v.cells (ofConst v).cells ⟨c1, c2⟩ hok hf hc1 hc2 hc3
  refine ⟨.agg arr', ?_, .agg _ _ e2.1 e2.2⟩
  simp only [Instr.build, Sem.run_bind, run_zero h3 h4, Result.andThen_ok, run_under h1, Array.mapM_eq_mapM_toList, Sem.run_map, hr]
  simp only [e1, Sem.run_pure]
section
variable {P : Program} {N nb : Nat} {ops : Array Oper} {Q : Post}
theorem aops_buildK {o : Oper} {l : List Oper} {T : Slots} {H : Heap} {x : Operand} {t : TypeId} {f : Nat} {fl : List (Nat × TI)} {z v : PV} {off : Nat} {i : TI} (hop : o.op = .build t #[(f, x)]) (hok : okOpnd N x = true) (hfl : tflds P t = some fl) (hz : tzero P t = some z) (hj : z.isJunk = false) (hf : fl[f]? = some (off, i))
    (hc1 : (aev T x).isJunk = false) (hc2 : (aev T x).cells.length = i.sz) (hc3 : off + i.sz ≤ z.cells.length) (hv : .agg (splice z.cells off (aev T x).cells) = v) (hw : awanted ops.toList T N o = some true) (h : AOps P N nb ops Q l (updO T o.dst v) H) : AOps P N nb ops Q (o :: l) T H := by
  subst hv
  refine aops_done hw (fun E a ho hH ht => ?_) h
  subst hH
  obtain ⟨val, h1, h2⟩ := sound_buildK (P := P) ht hok hfl hz hj hf hc1 hc2 hc3
  refine ⟨E, val, .inl ?_, .refl E, ho, rfl, h2⟩
  unfold execOp
  rw [hop]
  simp only [List.map_toArray, List.map_cons, List.map_nil, Sem.run_bind, h1, Result.andThen_ok, Sem.run_pure]
end
section
variable {P : Program} {N nb : Nat} {ops : Array Oper} {Q : Post}
theorem aops_loadK {o : Oper} {l : List Oper} {T : Slots} {H : Heap} {x : Operand} {t : TypeId} {i : TI} {id off : Nat} {cs : List PV} (hop : o.op = .load t x) (hx : aev T x = .optr id off) (hcs : H[id]? = some (.row cs)) (hi : tinfo P t = some i) (hagg : i.agg = true)
    (hl : off + i.sz ≤ cs.length) (hw : awanted ops.toList T N o = some true) (hok : okOpnd N x = true) (h : AOps P N nb ops Q l (updO T o.dst (.agg ((cs.drop off).take i.sz))) H) : AOps P N nb ops Q (o :: l) T H := by
  refine aops_done hw (fun E a ho hH ht => ?_) h
  subst hH
  obtain ⟨val, h1, h2⟩ := sound_loadK (P := P) ho ht hok hi hagg hx hcs hl
  refine ⟨E, val, .inl ?_, .refl E, ho, rfl, h2⟩
  unfold execOp
  rw [hop]
  simp only [Sem.run_bind, h1, Result.andThen_ok, Sem.run_pure]
theorem acalls_ofK {f : FuncId} {fn : Func} {c : Code} {args : List PV} {R : PV → Heap → Prop} {H : Heap} {x : Nat} {t : TypeId} {i : TI} (hf : P.funcs[f]? = some fn) (hb : fn.body = some c) (hN : fn.ntmps = N) (hl : args.length ≤ N) (hrs : fn.results.toList = [.cell x t]) (hxN : x < N) (hi : tinfo P t = some i) (hagg : i.agg = true)
    (h : HBel H.length H → AWP P N H.length c (fun e T H => (e = .normal ∨ e = .ret) ∧ ∃ id off cs, T x = .optr id off ∧ H[id]? = some (.row cs) ∧ off + i.sz ≤ cs.length ∧ R (.agg ((cs.drop off).take i.sz)) H) (enter args) H) : ACalls P f args H R := by
  intro E vargs ho hH hrl
  refine calls_of_wp hf hb (wp_mono (h (by have := ho.hbel; rw [hH] at this; exact this) E _ ho hH ⟨by simp [hrl.1, hN]; omega, rfl, fun i hi => ?_⟩) ?_)
  · rw [Array.getD_eq_getD_getElem?, Array.getElem?_append]
    unfold enter
    by_cases hia : i < args.length
    · rw [if_pos (by rw [hrl.1]; exact hia), ← Array.getD_eq_getD_getElem?, List.getD_eq_getElem?_getD, List.getElem?_eq_getElem hia]
      exact hrl.2 i hia
    · rw [List.getD_eq_getElem?_getD, List.getElem?_eq_none (by omega)]
      exact .junk _
  · rintro e a w ⟨E', T', rfl, h2, h3, h4, he, id, off, cs, hT, hcs, hlen, hR⟩
    obtain ⟨val, h5, h6⟩ : ∃ val, (results fn a.tmps).run P E'.w = .ok val E'.w ∧ VRel E'.view val (.agg ((cs.drop off).take i.sz)) := by
      obtain ⟨val, k1, k2⟩ := sound_loadK (P := P) h3 h4 (x := .tmp x) (by simpa [okOpnd] using hxN) hi hagg (by simpa [aev] using hT) hcs hlen
      refine ⟨val, ?_, k2⟩
      have hr := h4.rel x hxN
      rw [hT] at hr
      have hp := hr.optr_inv.1
      simp only [Act.eval, Instr.loadAt, hp, Instr.sureAddr, Sem.run_bind, Sem.run_pure, Result.andThen_ok] at k1
      rw [results_eq, Array.mapM_eq_mapM_toList, hrs]
      simp only [List.mapM_cons, List.mapM_nil, resF, hp, asAddr, Sem.run_bind, Sem.run_map, k1, Sem.run_pure, Result.andThen_ok]
      rfl
    rcases he with rfl | rfl
    · exact ⟨h4.defers, val, h5, E', val, _, rfl, rfl, (hH ▸ h2 : E.leN E.H.length E').le, h3, h6, hR⟩
    · exact ⟨h4.defers, val, h5, E', val, _, rfl, rfl, (hH ▸ h2 : E.leN E.H.length E').le, h3, h6, hR⟩
end
end Go.Abs
namespace Go.Abs
open Go.RowKit
/-! Calls of the library whose contracts say that the old blocks stay as they are. -/
section
variable {P : Program} {f : FuncId} {args : List PV} {H : Heap} {r : PV}
theorem below_cell {w w' : World} (h : Below w.heap.size w w') (a : Addr) (v : Value) (hc : w.cell? a = some v) : w'.cell? a = some v := by
  have hlt : a.block < w.heap.size := by
    rcases Nat.lt_or_ge a.block w.heap.size with q | q
    · exact q
    · unfold World.cell? at hc
      rw [Array.getElem?_eq_none q] at hc
      simp at hc
  unfold World.cell? at hc ⊢
  rw [h.block _ hlt]; exact hc
theorem acalls_below (h : ∀ (E : Env) (vargs : Array Value), E.Ok → E.H = H → RL E.view vargs args → ∃ v, VRel E.view v r ∧ Calls P f vargs E.w fun e w' => e = .returned v ∧ Below E.w.heap.size E.w w') : ACalls P f args H fun r' H' => r' = r ∧ H' = H := by
  intro E vargs ho hH hrl
  obtain ⟨v, hv, hc⟩ := h E vargs ho hH hrl
  refine hc.mono fun e w' ⟨he, hb⟩ => ?_
  let E' : Env := { E with w := w' }
  have hview : E.view.le E'.view := by
    refine ⟨fun a v hc => ?_, fun id h => h, fun id _ => rfl, fun id t' _ ht => ⟨t', ht, .inl rfl⟩⟩
    simp only [Env.view, E'] at hc ⊢
    split at hc
    · rename_i hs
      rw [if_pos hs]; exact below_cell hb _ _ hc
    · cases hc
  refine ⟨E', v, r, he, rfl, ⟨hb.os, hb.tape, hb.output, hb.size, fun b hlt _ => ⟨rfl, hb.block b hlt⟩, hview, fun b _ => id⟩, ?_, hv.mono hview, rfl, hH⟩
  refine ⟨?_, ?_, ho.injr, ho.injb, ho.globs_of hview.cell fun _ _ _ h => h, ho.objs.of hview fun id k hi => ⟨hi, rfl, hb.block _ (ho.objs.lt hi), rfl⟩⟩
  · intro id cs hi
    obtain ⟨arr, elem, h1, h2, h3, h4⟩ := ho.rows id cs hi
    exact ⟨arr, elem, (hb.block _ (ho.rowBlock hi)).trans h1, h2, fun i hl => (h3 i hl).mono hview, h4⟩
  · intro id n sz b hi hb'
    obtain ⟨arr, elem, pos, h1, h2⟩ := ho.bufs id n sz b hi hb'
    exact ⟨arr, elem, pos, (hb.block _ (ho.bufBlock hi hb')).trans h1, h2⟩
/-- strings.Join at a slice that a call has grown. -/
theorem acalls_join (hnone : ∀ (a : Option Addr) (c : Nat) (sep : ByteArray) (w : World), Calls P f #[.slice a 0 c, .string sep] w fun e w' => e = .returned (.string ⟨#[]⟩) ∧ w' = w)
    (hjoin : ∀ (bk o c : Nat) (xs : List ByteArray) (sep : ByteArray) (w : World), (∀ (j : Nat) x, xs[j]? = some x → w.cell? ⟨bk, o + j, none⟩ = some (.string x)) → bk < w.heap.size → xs.length ≤ 140737488355328 → xs.length ≤ c → (Lib.join (xs.map (·.data.toList)) sep.data.toList).length ≤ 140737488355328 →
      Calls P f #[.slice (some ⟨bk, o, none⟩) xs.length c, .string sep] w fun e w' => e = .returned (.string ⟨(Lib.join (xs.map (·.data.toList)) sep.data.toList).toArray⟩) ∧ Below w.heap.size w w')
    {xs : List (List UInt8)} {sep : List UInt8} {id sz : Nat} (hid : H[id]? = some (.buf xs.length sz)) (hN : xs.length ≤ 140737488355328) (hlen : (Lib.join xs sep).length ≤ 140737488355328) :
    ACalls P f [.slice (xs.map PV.str) (.tok id), .str sep] H fun r' H' => r' = .str (Lib.join xs sep) ∧ H' = H := by
  refine acalls_below fun E vargs ho hH hrl => ?_
  obtain ⟨hsz, hr⟩ := hrl
  have h0 := hr 0 (by simp)
  have h1 := hr 1 (by simp)
  simp only [List.getElem_cons_zero, List.getElem_cons_succ] at h0 h1
  obtain ⟨v0, v1, rfl⟩ : ∃ v0 v1, vargs = #[v0, v1] := by
    have : vargs.size = 2 := by simpa using hsz
    exact ⟨vargs[0], vargs[1], by apply Array.ext <;> simp [this]; intro i hi hi2; match i, hi2 with | 0, _ => rfl | 1, _ => rfl⟩
  simp only [Array.getD_eq_getD_getElem?, List.getElem?_toArray, List.getElem?_cons_zero, List.getElem?_cons_succ, Option.getD_some] at h0 h1
  cases h1 with
  | str s =>
  by_cases hxs : xs = []
  · subst hxs
    obtain ⟨a, c, rfl⟩ : ∃ a c, v0 = .slice a 0 c := by
      cases h0 with
      | nils _ _ => exact ⟨_, _, rfl⟩
      | slice a len cap sz _ _ vs hl => simp at hl; subst hl; exact ⟨_, _, rfl⟩
    exact ⟨.string ⟨#[]⟩, VRel.str ⟨#[]⟩, (hnone a c s E.w).mono fun e w' ⟨h1, h2⟩ => ⟨h1, h2 ▸ Below.refl _ _⟩⟩
  · generalize hes : xs.map PV.str = es at h0
    cases h0 with
    | nils _ _ => exact absurd (by simpa using hes) hxs
    | slice a len cap sz2 _ _ vs hl hcap hmax hsz2 hc hr2 ht =>
      subst hes
      rw [List.length_map] at hl
      subst hl
      have hpos : 0 < xs.length := List.length_pos_iff.2 hxs
      have hsz1 : sz2 = 1 := by
        have := hsz2 0 (by simpa using hpos)
        simp only [List.getElem_map] at this
        exact this.symm
      subst hsz1
      obtain ⟨hborn, ht⟩ := ht
      have htok : E.view.tok id = some ⟨xs.length, sz, (E.tb id).bind fun b => match E.κ b with | .buf pos cend => some (b, pos, cend) | _ => none⟩ := by
        simp only [Env.view, hH, hid]
        rfl
      obtain ⟨_, ht⟩ := ht _ htok
      obtain ⟨bk, o, rfl⟩ : ∃ bk o, a = ⟨bk, o, none⟩ := by
        rcases ht rfl with ⟨_, h⟩ | ⟨b, pos, cend, off, _, h, _⟩
        · obtain ⟨b, off, h⟩ := h hpos
          exact ⟨b, off, by cases h; rfl⟩
        · exact ⟨b, off, by cases h; rfl⟩
      let ys : List ByteArray := xs.map fun l => ⟨l.toArray⟩
      have hyx : ys.map (·.data.toList) = xs := by simp [ys, Function.comp_def]
      have hylen : ys.length = xs.length := by simp [ys]
      have hadd : ∀ n, (⟨bk, o, none⟩ : Addr).add n = ⟨bk, o + n, none⟩ := by
        intro n; unfold Addr.add; split
        · rename_i e; subst e; rfl
        · rfl
      have hcell : ∀ j (hj : j < xs.length), E.w.cell? ⟨bk, o + j, none⟩ = some (.string ⟨xs[j].toArray⟩) := by
        intro j hj
        have h1 := hc j 0 hj (by omega)
        have h2 := hr2 j 0 (by simpa using hj) (by simp [PV.cells])
        simp only [List.getElem_map] at h2
        have h2 : VRel E.view (vs j 0) (.str xs[j]) := h2
        rw [hadd, Nat.mul_one, Nat.add_zero] at h1
        obtain ⟨s', hs'⟩ : ∃ s' : ByteArray, vs j 0 = .string s' ∧ s'.data.toList = xs[j] := by
          generalize vs j 0 = q at h2
          generalize hxj : xs[j] = l at h2
          cases h2 with
          | str s' => exact ⟨s', rfl, rfl⟩
        rw [hs'.1] at h1
        rw [← hs'.2]
        simp only [Env.view] at h1
        split at h1
        · rw [h1]
        · cases h1
      have hbk : bk < E.w.heap.size := by
        have := hcell 0 hpos
        rcases Nat.lt_or_ge bk E.w.heap.size with q | q
        · exact q
        · unfold World.cell? at this
          rw [Array.getElem?_eq_none q] at this
          simp at this
      have key := hjoin bk o cap ys s E.w (fun j x hx => by
        have hj : j < xs.length := by
          rcases Nat.lt_or_ge j ys.length with q | q
          · omega
          · rw [List.getElem?_eq_none q] at hx; cases hx
        rw [hcell j hj]
        rw [List.getElem?_eq_getElem (by omega)] at hx
        simp only [ys, List.getElem_map, Option.some.injEq] at hx
        rw [hx]) hbk (by omega) (by omega) (by rw [hyx]; exact hlen)
      rw [hyx, hylen] at key
      exact ⟨_, VRel.str ⟨(Lib.join xs s.data.toList).toArray⟩, key⟩
end
end Go.Abs
namespace Go.Abs
open Go.RowKit
/-! Constants of the program: blocks that stay as they are, told by objects at the heap's start. -/
def Pre (G H : Heap) : Prop := ∀ (k : Nat) (o : AObj), G[k]? = some o → H[k]? = some o
theorem Pre.refl (G : Heap) : Pre G G := fun _ _ h => h
theorem Pre.app {G H : Heap} (h : Pre G H) (L : Heap) : Pre G (H ++ L) := fun k o hk => by
  have := h k o hk
  rw [List.getElem?_append_left (len_of_get this)]; exact this
/-- A call that leaves every heap that begins so as it is. -/
def PG (G : Heap) (P : Program) (f : FuncId) (args : List PV) (r : PV) : Prop := ∀ H, Pre G H → ACalls P f args H fun r' H' => r' = r ∧ H' = H
theorem PC.pg {G : Heap} {P : Program} {f : FuncId} {args : List PV} {r : PV} (h : PC P f args r) : PG G P f args r := fun H _ => h H
section
variable {P : Program} {N : Nat}
theorem pg_of {G : Heap} {f : FuncId} {fn : Func} {c : Code} {args : List PV} {r : PV} (hf : P.funcs[f]? = some fn) (hb : fn.body = some c) (hN : fn.ntmps = N) (hl : args.length ≤ N) (hr : Bel 0 r)
    (h : ∀ H, Pre G H → HBel H.length H → AWP P N H.length c (fun e T H' => (e = .normal ∨ e = .ret) ∧ ∃ r' L, aresults P N T H' fn.results.toList = some r' ∧ r'.drop1 = r ∧ H' = H ++ L) (enter args) H) : PG G P f args r :=
  fun H hG => keeps_of hf hb hN hl (hr.mono (Nat.zero_le _)) fun hb' => h H hG hb'
/-- What a constant's object tells of the world. -/
theorem glob_cell {E : Env} (ho : E.Ok) {id b : Nat} {vs : List Value} (hid : E.H[id]? = some (.glob b vs)) {i : Nat} (h : i < vs.length) : E.w.cell? ⟨b, i, none⟩ = some vs[i] := by
  have := ho.globs id b vs hid i h
  simp only [Env.view] at this
  split at this
  · exact this
  · cases this
end
end Go.Abs
namespace Go.Abs
/-! Comparison of structs of an integer and a string. -/
structure ISAt (P : Program) (t : TypeId) where
  f0 : Field
  f1 : Field
  ut : P.underlying t = some (.struct #[f0, f1])
  held : P.stoodInHeld t = false
  n0 : f0.name ≠ "_"
  n1 : f1.name ≠ "_"
  o0 : f0.offset = 0
  o1 : f1.offset = 1
  u0 : P.underlying f0.type = some (.int .i64)
  u1 : P.underlying f1.type = some .string
  a0 : ∀ w, (isAgg f0.type).run P w = .ok false w
  a1 : ∀ w, (isAgg f1.type).run P w = .ok false w
  gu : P.eqGuardType P.depth t = false
theorem run_eqIS {P : Program} {t : TypeId} (F : ISAt P t) (w : World) (a b : Int) (s s' : ByteArray) :
    (Op.equal t (.agg #[.int .i64 a, .string s]) (.agg #[.int .i64 b, .string s'])).run P w = .ok ((a == b) && (s.toList == s'.toList)) w := by
  have hf : P.fieldsOf t = #[F.f0, F.f1] := by unfold Program.fieldsOf; rw [F.ut]
  have p0 : ∀ (x : Value) (y : Value) w, (part F.f0.type #[x, y] F.f0.offset).run P w = .ok x w := fun x y w => by
    simp only [part, Sem.run_bind, F.a0, Result.andThen_ok, F.o0]; rfl
  have p1 : ∀ (x : Value) (y : Value) w, (part F.f1.type #[x, y] F.f1.offset).run P w = .ok y w := fun x y w => by
    simp only [part, Sem.run_bind, F.a1, Result.andThen_ok, F.o1]; rfl
  show (Op.equalIn (9999 + 1) t _ _).run P w = _
  rw [run_equalIn_struct w 9999 t _ _ (by rw [hf]; exact F.ut) F.held, hf]
  show (Op.eqFields 9999 _ _ [F.f0, F.f1]).run P w = _
  simp only [Op.eqFields, if_pos F.n0, if_pos F.n1, Sem.run_bind, p0, p1, Result.andThen_ok, run_equalIn_int w 9998 _ _ _ _ _ F.u0, run_equalIn_string w 9998 _ _ _ F.u1, Sem.run_ite, Sem.run_pure]
  cases h1 : (a == b) <;> cases h2 : (s.toList == s'.toList) <;> simp
theorem guard_is {P : Program} {t : TypeId} (F : ISAt P t) {w : World} (op : BinOp) (x y : Operand) (u v : Array Value) : (eqGuard op t x y (.agg u) (.agg v)).run P w = .ok () w := by
  unfold eqGuard
  simp only [Sem.run_bind, run_program, Result.andThen_ok, F.gu, Bool.not_false, if_true, Sem.run_ite, Sem.run_pure]
  split <;> rfl
theorem aops_neqIS {P : Program} {N nb : Nat} {ops : Array Oper} {Q : Post} {o : Oper} {l : List Oper} {T : Slots} {H : Heap} {t y' : TypeId} {x y : Operand} {a b : Int} {s s' : List UInt8} (F : ISAt P t)
    (hop : o.op = .binOp .neq t x y y') (hx : aev T x = .agg [.int .i64 a, .str s]) (hy : aev T y = .agg [.int .i64 b, .str s']) (hw : awanted ops.toList T N o = some true) (okx : okOpnd N x = true) (oky : okOpnd N y = true)
    (h : AOps P N nb ops Q l (updO T o.dst (.bool (!(decide (a = b) && decide (s = s'))))) H) : AOps P N nb ops Q (o :: l) T H := by
  refine aops_done hw (fun E A ho hH ht => ?_) h
  have rx := vrel_eval ht x okx
  have ry := vrel_eval ht y oky
  rw [hx] at rx; rw [hy] at ry
  have inv : ∀ {v : Value} {n : Int} {q : List UInt8}, VRel E.view v (.agg [.int .i64 n, .str q]) → ∃ z : ByteArray, v = .agg #[.int .i64 n, .string z] ∧ z.data.toList = q := by
    intro v n q hv
    cases hv with
    | agg arr _ hl hr =>
      have h0 := hr 0 (by simp)
      have h1 := hr 1 (by simp)
      simp only [List.getElem_cons_zero, List.getElem_cons_succ] at h0 h1
      have hs : arr.size = 2 := by simpa using hl
      rw [Array.getD_eq_getD_getElem?, Array.getElem?_eq_getElem (by omega)] at h0 h1
      simp only [Option.getD_some] at h0 h1
      generalize hg0 : arr[0] = g0 at h0
      generalize hg1 : arr[1] = g1 at h1
      cases h0 with
      | int =>
        cases h1 with
        | str z =>
          refine ⟨z, ?_, rfl⟩
          congr 1
          apply Array.ext
          · simp [hs]
          · intro i hi hi2
            match i, hi2 with
            | 0, _ => exact hg0
            | 1, _ => exact hg1
  obtain ⟨z, hvx, hz⟩ := inv rx
  obtain ⟨z', hvy, hz'⟩ := inv ry
  have hb : ((a == b) && (z.toList == z'.toList)) = (decide (a = b) && decide (s = s')) := by
    have e : ∀ (q : ByteArray), q.toList = q.data.toList := fun q => by rw [ByteArray.toList_eq]
    rw [e, e, hz, hz', Bool.eq_iff_iff]
    simp
  refine ⟨E, .bool (!(decide (a = b) && decide (s = s'))), .inl ?_, .refl E, ho, hH, .bool _⟩
  unfold execOp
  rw [hop]
  simp only [Sem.run_bind, hvx, hvy, guard_is F, Result.andThen_ok, binOp, run_eqIS F, Sem.run_pure, hb]
end Go.Abs
namespace Go.Abs
/-! An operation on values, in a region that draws: what it answers, from what its operands are. -/
theorem dp_val {P : Program} {N : Nat} {ops : Array Oper} {Q : Post} {k : Nat} {o : Oper} {l : List Oper} {T : Slots} {G : Nat → Bool} {H : Heap} {v : PV} (hc : gcond ops.toList T G N o = some true) (hg : o.op.operands.toList.all (gOk true G) = true)
    (hv : ∀ (E : Env) (a : Act), E.Ok → (∀ x ∈ o.op.operands.toList, okOpnd N x = true → VRel E.view (a.eval x) (aev T x)) → ∃ val, (execOp a.eval o).run P E.w = .ok (.value val) E.w ∧ VRel E.view val v)
    (h : DP P N ops Q (k + 1) l (msk (.tup []) (updO T o.dst v) (ugO G o.dst true)) H) : DP P N ops Q k (o :: l) (msk (.tup []) T G) H := by
  intro prev hn
  rw [msk_put_true] at h
  refine ⟨v, [], [], ?_, by simp, fun p hp => .inr ⟨by simp, by simp⟩, h _ (hn.app _ _)⟩
  intro T' H' hT hHd hlen E a ho hE ht
  refine .inr ⟨awanted_sound ht (wanted_agree hT ((gcond_sound hc).1 rfl _)), fun next Q hnx => ?_⟩
  obtain ⟨val, h1, h2⟩ := hv E a ho fun x hx hok => by
    have := vrel_eval ht x hok
    rwa [aev_agree hT x hx, aev_msk (List.all_eq_true.1 hg x hx)] at this
  unfold Oper.wp
  rw [h1]
  exact hnx E val (.refl E) ho hE h2
theorem inv_IS {V : View} {v : Value} {n : Int} {q : List UInt8} (hv : VRel V v (.agg [.int .i64 n, .str q])) : ∃ z : ByteArray, v = .agg #[.int .i64 n, .string z] ∧ z.data.toList = q := by
  cases hv with
  | agg arr _ hl hr =>
    have h0 := hr 0 (by simp)
    have h1 := hr 1 (by simp)
    simp only [List.getElem_cons_zero, List.getElem_cons_succ] at h0 h1
    have hs : arr.size = 2 := by simpa using hl
    rw [Array.getD_eq_getD_getElem?, Array.getElem?_eq_getElem (by omega)] at h0 h1
    simp only [Option.getD_some] at h0 h1
    generalize hg0 : arr[0] = g0 at h0
    generalize hg1 : arr[1] = g1 at h1
    cases h0 with
    | int =>
      cases h1 with
      | str z =>
        refine ⟨z, ?_, rfl⟩
        congr 1
        apply Array.ext
        · simp [hs]
        · intro i hi hi2
          match i, hi2 with
          | 0, _ => exact hg0
          | 1, _ => exact hg1
theorem dp_neqIS {P : Program} {N : Nat} {ops : Array Oper} {Q : Post} {k : Nat} {o : Oper} {l : List Oper} {T : Slots} {G : Nat → Bool} {H : Heap} {t y' : TypeId} {x y : Operand} {a b : Int} {s s' : List UInt8} (F : ISAt P t)
    (hop : o.op = .binOp .neq t x y y') (hx : aev T x = .agg [.int .i64 a, .str s]) (hy : aev T y = .agg [.int .i64 b, .str s']) (hc : gcond ops.toList T G N o = some true) (hg : o.op.operands.toList.all (gOk true G) = true) (okx : okOpnd N x = true) (oky : okOpnd N y = true)
    (h : DP P N ops Q (k + 1) l (msk (.tup []) (updO T o.dst (.bool (!(decide (a = b) && decide (s = s'))))) (ugO G o.dst true)) H) : DP P N ops Q k (o :: l) (msk (.tup []) T G) H := by
  refine dp_val hc hg (fun E A ho he => ?_) h
  have rx := he x (by rw [hop]; simp [Op.operands]) okx
  have ry := he y (by rw [hop]; simp [Op.operands]) oky
  rw [hx] at rx; rw [hy] at ry
  obtain ⟨z, hvx, hz⟩ := inv_IS rx
  obtain ⟨z', hvy, hz'⟩ := inv_IS ry
  have hb : ((a == b) && (z.toList == z'.toList)) = (decide (a = b) && decide (s = s')) := by
    have e : ∀ (q : ByteArray), q.toList = q.data.toList := fun q => by rw [ByteArray.toList_eq]
    rw [e, e, hz, hz', Bool.eq_iff_iff]
    simp
  refine ⟨.bool (!(decide (a = b) && decide (s = s'))), ?_, .bool _⟩
  unfold execOp
  rw [hop]
  simp only [Sem.run_bind, hvx, hvy, guard_is F, Result.andThen_ok, binOp, run_eqIS F, Sem.run_pure, hb]
end Go.Abs
namespace Go.Abs
open Go.Lib (iterAt_size iterAt_other iterAt_heap run_next_any_at run_next_end_at)
/-! A string's iterator. -/

section
variable {P : Program} {N nb : Nat} {ops : Array Oper} {Q : Post}
/-- Some operation that makes an object. -/
theorem aops_newObj {o : Oper} {l : List Oper} {T : Slots} {H : Heap} {ob : Obj} {k : OKind} {v : PV} (hw : awanted ops.toList T N o = some true) (hr : ∀ V, OR V k ob)
    (hrun : ∀ (E : Env) (a : Act), E.Ok → E.H = H → TRel E.view N a T → ∃ val, (execOp a.eval o).run P E.w = .ok (.value val) (E.w.alloc ob) ∧ ∀ V : View, V.born H.length → V.rho H.length = E.w.heap.size → VRel V val v)
    (h : AOps P N nb ops Q l (updO T o.dst v) (H ++ [.obj k])) : AOps P N nb ops Q (o :: l) T H := by
  refine aops_done hw (fun E a ho hH ht => ?_) h
  obtain ⟨val, h1, h2⟩ := hrun E a ho hH ht
  have hun : E.ext.H[E.H.length]? = some .unborn := by simp [Env.ext]
  have hl := E.ext_le.trans (Env.newObj_le ho.ext hun ob k)
  have hH' : (E.ext.newObj E.H.length ob k).H = H ++ [.obj k] := by
    simp only [Env.newObj, Env.ext]
    rw [List.set_append_right _ _ (Nat.le_refl _)]; simp [hH]
  refine ⟨E.ext.newObj E.H.length ob k, val, .inl ?_, hl, ho.ext.newObj hun ob k (hr _), hH', ?_⟩
  · rw [h1]; rfl
  · refine h2 _ ?_ ?_
    · refine ⟨.obj k, ?_, by simp⟩
      rw [hH']; simp
    · show (if H.length = E.H.length then _ else _) = _
      rw [if_pos (by rw [hH])]; rfl
/-- Some operation that turns an object. -/
theorem aops_setObj {o : Oper} {l : List Oper} {T : Slots} {H : Heap} {id : Nat} {k0 k : OKind} {v : PV} (hid : H[id]? = some (.obj k0)) (hw : awanted ops.toList T N o = some true)
    (hrun : ∀ (E : Env) (a : Act), E.Ok → E.H = H → TRel E.view N a T → ∀ ob, E.w.heap[E.ρ id]? = some ob → OR E.view k0 ob → ∃ val w', (execOp a.eval o).run P E.w = .ok (.value val) w' ∧ World.Turned E.w w' (E.ρ id) ∧ (∃ ob', w'.heap[E.ρ id]? = some ob' ∧ OR E.view k ob') ∧ VRel E.view val v)
    (h : AOps P N nb ops Q l (updO T o.dst v) (H.set id (.obj k))) : AOps P N nb ops Q (o :: l) T H := by
  refine aops_done hw (fun E a ho hH ht => ?_) h
  have hi : E.H[id]? = some (.obj k0) := by rw [hH]; exact hid
  obtain ⟨⟨ob, b1, b2⟩, _⟩ := ho.objs.at_ id k0 hi
  obtain ⟨val, w', h1, h2, h3, h4⟩ := hrun E a ho hH ht ob b1 b2
  exact ⟨E.setObj id w' k, val, .inl h1, Env.setObj_le ho hi h2 k, ho.setObj hi h2 k h3, by simp only [Env.setObj, hH], h4.mono (Env.setObj_view ho hi h2 k)⟩

theorem aops_range {o : Oper} {l : List Oper} {T : Slots} {H : Heap} {x : Operand} {t : TypeId} {s : List UInt8} (hop : o.op = .range t x) (hx : aev T x = .str s) (ht : P.underlying t = some .string) (okx : okOpnd N x = true) (hw : awanted ops.toList T N o = some true)
    (h : AOps P N nb ops Q l (updO T o.dst (.optr H.length 0)) (H ++ [.obj (.iter s 0)])) : AOps P N nb ops Q (o :: l) T H := by
  intro E a ho hH htr
  have hv := vrel_eval htr x okx
  rw [hx] at hv
  generalize he : a.eval x = w at hv
  cases hv with
  | str z =>
    refine aops_newObj (ob := .stringIter z 0) (k := .iter z.data.toList 0) hw (fun V => ⟨z, rfl, rfl⟩) (fun E' a' ho' hH' ht' => ?_) h E a ho hH htr
    have hv' := vrel_eval ht' x okx
    rw [hx] at hv'
    generalize he' : a'.eval x = w' at hv'
    generalize hq : z.data.toList = q at hv'
    cases hv' with
    | str z' =>
      have : z' = z := by
        obtain ⟨⟨l1⟩⟩ := z; obtain ⟨⟨l2⟩⟩ := z'
        simp at hq; rw [hq]
      subst this
      refine ⟨.pointer (some ⟨E'.w.heap.size, 0, none⟩), ?_, fun V h1 h2 => ?_⟩
      · unfold execOp
        rw [hop]
        simp only [Sem.run_bind, he', run_range_string _ _ _ ht, Result.andThen_ok, Sem.run_pure, World.iter]
      · rw [← h2]; exact .optr _ _ h1

def decL (s : List UInt8) : Nat × Nat := Go.Lib.decodeN s.length (s.getD 0 0).toNat (s.getD 1 0).toNat (s.getD 2 0).toNat (s.getD 3 0).toNat
theorem get!_getD (z : ByteArray) (i : Nat) : z.get! i = z.data.toList.getD i 0 := by
  show z.data[i]! = _
  rw [getElem!_def, List.getD_eq_getElem?_getD, Array.getElem?_toList]
  cases z.data[i]? <;> rfl
theorem decL_at (z : ByteArray) (pos : Nat) : Utf8.decode z pos = decL (z.data.toList.drop pos) := by
  rw [Go.Lib.decode_at]
  unfold decL
  have hsz : z.size = z.data.toList.length := rfl
  rw [List.length_drop, hsz]
  have e : ∀ k, (z.data.toList.drop pos).getD k 0 = z.get! (pos + k) := fun k => by
    rw [get!_getD, List.getD_eq_getElem?_getD, List.getElem?_drop, ← List.getD_eq_getElem?_getD]
  rw [e, e, e, e]; rfl
theorem aops_nextS {o : Oper} {l : List Oper} {T : Slots} {H : Heap} {x : Operand} {id pos : Nat} {s : List UInt8} (hid : H[id]? = some (.obj (.iter s pos))) (hop : o.op = .next x true) (hx : aev T x = .optr id 0) (okx : okOpnd N x = true) (hlt : pos < s.length)
    (hw : awanted ops.toList T N o = some true)
    (h : AOps P N nb ops Q l (updO T o.dst (.tup [.bool true, .int .i64 pos, .int .i32 (decL (s.drop pos)).1])) (H.set id (.obj (.iter s (pos + (decL (s.drop pos)).2))))) : AOps P N nb ops Q (o :: l) T H := by
  refine aops_setObj hid hw (fun E a ho hH ht ob b1 b2 => ?_) h
  obtain ⟨z, rfl, hz⟩ := b2
  have hv := vrel_eval ht x okx
  rw [hx] at hv
  generalize he : a.eval x = w at hv
  generalize hp : PV.optr id 0 = p at hv
  cases hv <;> cases hp
  have hsz : pos < z.size := by rw [← hz] at hlt; exact hlt
  refine ⟨.tuple #[.bool true, .int .i64 pos, .int .i32 (decL (s.drop pos)).1], E.w.iterAt (E.ρ id) z (pos + (decL (s.drop pos)).2), ?_, ⟨rfl, rfl, rfl, iterAt_size _ _ _ _, fun b hb => iterAt_other _ _ _ _ _ hb⟩, ⟨_, iterAt_heap _ _ _ _ _ b1, z, rfl, hz⟩, ?_⟩
  · unfold execOp
    rw [hop]
    simp only [Sem.run_bind, he]
    rw [show (E.view.rho id) = E.ρ id from rfl, run_next_any_at _ _ _ _ _ b1 hsz, decL_at, hz]
    simp only [Result.andThen_ok, Sem.run_pure]
  · refine .tup _ _ rfl fun i hi => ?_
    match i, hi with
    | 0, _ => exact .bool _
    | 1, _ => exact .int _ _
    | 2, _ => exact .int _ _
theorem aops_nextE {o : Oper} {l : List Oper} {T : Slots} {H : Heap} {x : Operand} {id pos : Nat} {s : List UInt8} (hid : H[id]? = some (.obj (.iter s pos))) (hop : o.op = .next x true) (hx : aev T x = .optr id 0) (okx : okOpnd N x = true) (hlt : ¬ pos < s.length)
    (hw : awanted ops.toList T N o = some true)
    (h : AOps P N nb ops Q l (updO T o.dst (.tup [.bool false])) (H.set id (.obj (.iter s pos)))) : AOps P N nb ops Q (o :: l) T H := by
  refine aops_setObj hid hw (fun E a ho hH ht ob b1 b2 => ?_) h
  obtain ⟨z, rfl, hz⟩ := b2
  have hv := vrel_eval ht x okx
  rw [hx] at hv
  generalize he : a.eval x = w at hv
  generalize hp : PV.optr id 0 = p at hv
  cases hv <;> cases hp
  have hsz : ¬ pos < z.size := by rw [← hz] at hlt; exact hlt
  refine ⟨.tuple #[.bool false], E.w, ?_, ⟨rfl, rfl, rfl, rfl, fun b hb => rfl⟩, ⟨_, b1, z, rfl, hz⟩, ?_⟩
  · unfold execOp
    rw [hop]
    simp only [Sem.run_bind, he]
    rw [show (E.view.rho id) = E.ρ id from rfl, run_next_end_at _ _ _ _ _ b1 hsz]
    simp only [Result.andThen_ok, Sem.run_pure]
  · refine .tup _ _ rfl fun i hi => ?_
    match i, hi with
    | 0, _ => exact .bool _
end
end Go.Abs
namespace Go.Abs
/-! An append of one element to a slice whose elements may still change. -/
section
variable {P : Program} {N nb : Nat} {ops : Array Oper} {Q : Post}
/-- No room: a new block. -/
theorem aops_appNew {o : Oper} {l : List Oper} {T : Slots} {H : Heap} {x y : Operand} {t u : TypeId} {ei : TypeId × TI} {z e1 : PV} {tl : Tail} {n : Nat} {oc : List PV} (hw : awanted ops.toList T N o = some true)
    (hop : o.op = .call ⟨.builtin .append, #[x, y], #[t, u]⟩) (okx : okOpnd N x = true) (oky : okOpnd N y = true) (hy : aev T y = .slice [e1] tl)
    (hb : (n + 1) * ei.2.bytes ≤ 2 ^ 47) (hm : n + 1 ≤ maxLen) (hxs : e1.cells.length = ei.2.sz)
    (hte : telem P t = some ei) (htu : (telem P u).isSome = true) (hz : tzero P ei.1 = some z) (hzf : z.fits ei.2 = true)
    (hold : ∀ (E : Env) (v : Value), E.Ok → E.H = H → VRel E.view v (aev T x) → ∃ ad, v = .slice ad n n ∧ ∃ arrs, (Builtin.firstCells ei.2.sz n (.slice ad n n)).run P E.w = .ok arrs E.w ∧ RL E.view arrs oc)
    (h : ∀ (c : Nat) (rest : List PV), n + 1 ≤ c → c ≤ maxLen → rest = (List.replicate (c - (n + 1)) z.cells).flatten → AOps P N nb ops Q l (updO T o.dst (.msl H.length 0 (n + 1) c)) (H ++ [.row (oc ++ e1.cells ++ rest)])) : AOps P N nb ops Q (o :: l) T H := by
  intro E a ho hH ht
  subst hH
  obtain ⟨e, i⟩ := ei
  obtain ⟨h1, h2⟩ := telem_some hte
  obtain ⟨dd, f, h3, h4, rfl⟩ := tinfo_some h2
  obtain ⟨f', zv, h5, h6, rfl⟩ := tzero_some hz
  simp only at h5 hzf hb hxs hold
  rw [h4] at h5; cases h5
  obtain ⟨hzs, hzj⟩ := PV.fits_spec hzf
  simp only at hzs
  obtain ⟨zc1, zc2⟩ := (vrel_ofConst E.view zv).not_junk_cells hzj
  obtain ⟨eu, hue⟩ := telem_isSome htu
  have hvx := vrel_eval ht x okx
  have hvy := vrel_eval ht y oky
  rw [hy] at hvy
  have hd := ho.drew
  obtain ⟨adx, vx, arrs, s1, s2⟩ := hold E.drew _ hd rfl hvx
  have hxs' : ∀ q ∈ [e1], q.cells.length = f.size := fun q hq => by rw [List.mem_singleton.1 hq]; exact hxs
  have em : maxLen = 9223372036854775807 := by decide
  obtain ⟨c, hc6, hc7, hc8⟩ := run_choose_cap (P := P) (w := E.w) (n + 1) n e
  have hcm : c ≤ maxLen := by
    have := hc8 (by have e2 : maxLen = 2 ^ 63 - 1 := rfl; omega)
    have e2 : maxLen = 2 ^ 63 - 1 := rfl
    omega
  obtain ⟨arrx, r1, r2, ady, capy, vy, hcy1, hcy2, _⟩ := run_first (P := P) (E := E.drew) hvy hxs'
  have hzl2 : RL E.drew.view (Builtin.zeroCells zv.cells (c - (n + 1))) ((List.replicate (c - (n + 1)) (ofConst zv).cells).flatten) := by
    have := rl_zero (V := E.drew.view) zv hzj (c - (n + 1))
    rw [flatE_replicate] at this
    exact this
  have hfe : flatE [e1] = e1.cells := by simp [flatE]
  rw [hfe] at r2
  let arr : Array Value := arrs ++ arrx ++ Builtin.zeroCells zv.cells (c - (n + 1))
  have hrl : RL E.drew.view arr (oc ++ e1.cells ++ (List.replicate (c - (n + 1)) (ofConst zv).cells).flatten) := rl_append (rl_append s2 r2) hzl2
  have hun : E.drew.ext.H[E.H.length]? = some .unborn := by simp [Env.ext, Env.drew]
  have hle' := E.drew.ext_le.trans (Env.newRow_le (E := E.drew.ext) hd.ext (id := E.H.length) hun arr e (oc ++ e1.cells ++ (List.replicate (c - (n + 1)) (ofConst zv).cells).flatten))
  have hok' := Env.Ok.newRow (E := E.drew.ext) hd.ext (id := E.H.length) hun arr e (oc ++ e1.cells ++ (List.replicate (c - (n + 1)) (ofConst zv).cells).flatten) hrl.1 (fun i hl => (hrl.2 i hl).mono E.drew.ext_view_le)
  have hH' : (E.drew.ext.newRow E.H.length arr e (oc ++ e1.cells ++ (List.replicate (c - (n + 1)) (ofConst zv).cells).flatten)).H = E.H ++ [.row (oc ++ e1.cells ++ (List.replicate (c - (n + 1)) (ofConst zv).cells).flatten)] := by
    simp only [Env.newRow, Env.ext, Env.drew]
    rw [List.set_append_right _ _ (Nat.le_refl _)]; simp
  have run1 : (execOp a.eval o).run P E.w = .ok (.value (.slice (some ⟨E.w.heap.size, 0, none⟩) (n + 1) c)) (E.drew.ext.newRow E.H.length arr e (oc ++ e1.cells ++ (List.replicate (c - (n + 1)) (ofConst zv).cells).flatten)).w := by
    unfold execOp
    rw [hop]
    simp only
    refine (run_builtin (c := ⟨.builtin .append, #[x, y], #[t, u]⟩) (a := a) (E := E) (P := P) (xs := [x, y]) (ts := [t, u]) (ty := o.type) rfl rfl rfl (s := Builtin.append_ #[t, u] o.type #[a.eval x, a.eval y]) rfl).trans ?_
    have hc6' : (choose (.appendCap (n + 1) n e)).run P E.w = .ok c E.drew.w := hc6
    have n2 : ¬ n + 1 ≤ n := by omega
    have n3 : ¬ ((n + 1 : Nat) : Int) > IntKind.i64.max := by
      have e1 : IntKind.i64.max = 9223372036854775807 := by decide
      rw [e1]; omega
    have n4 : ¬ Builtin.nextslicecap (n + 1) n * f.bytes > 2 ^ 48 := by
      have := nextslicecap_le (n + 1) n (by omega)
      have := Nat.mul_le_mul_right f.bytes this
      rw [Nat.mul_assoc] at this
      omega
    have r1' : (Builtin.firstCells f.size 1 (.slice ady 1 capy)).run P E.drew.w = .ok arrx E.drew.w := by have := r1; rw [vy] at this; exact this
    have vy' : a.eval y = .slice ady 1 capy := vy
    simp only [Builtin.append_, List.getElem?_toArray, List.getElem?_cons_zero, List.getElem?_cons_succ, Sem.run_bind, run_under h1, run_size h4, run_under hue, Result.andThen_ok, Sem.run_pure, vx, vy', Builtin.lenOf, n2, n3, n4, if_true, if_false, run_tinfo h4,
      Bool.not_false, Bool.false_eq_true, run_zero h4 h6, hc6', run_ask, s1, r1', Go.newRow, run_newObj, false_and]
    rfl
  have hv : VRel (E.drew.ext.newRow E.H.length arr e (oc ++ e1.cells ++ (List.replicate (c - (n + 1)) (ofConst zv).cells).flatten)).view (.slice (some ⟨E.w.heap.size, 0, none⟩) (n + 1) c) (.msl E.H.length 0 (n + 1) c) := by
    have := VRel.msl (V := (E.drew.ext.newRow E.H.length arr e (oc ++ e1.cells ++ (List.replicate (c - (n + 1)) (ofConst zv).cells).flatten)).view) E.H.length 0 (n + 1) c
      ⟨.row _, by rw [hH', List.getElem?_append_right (Nat.le_refl _), Nat.sub_self]; rfl, by simp⟩ hcm
    simpa [Env.view, Env.newRow, Env.drew, Env.ext] using this
  refine wpList_cons (awanted_sound ht hw) ?_
  unfold Oper.wp
  rw [run1]
  show wpList P ops _ _ (a.put o.dst _) _
  have hle := E.drew_le.trans hle'
  have hn := h c _ hc7 hcm rfl _ _ hok' hH' ((ht.mono hle.view).put o.dst hv)
  exact wpList_mono (fun e a w hl => lift_mono (hle.leN nb) (fun _ _ _ q => q) hl) l _ _ hn
/-- Room: in place. -/
theorem aops_appIn {o : Oper} {l : List Oper} {T : Slots} {H : Heap} {x y : Operand} {t u : TypeId} {ei : TypeId × TI} {e1 : PV} {tl : Tail} {id n c : Nat} {cs : List PV} (hid : H[id]? = some (.row cs)) (hw : awanted ops.toList T N o = some true)
    (hop : o.op = .call ⟨.builtin .append, #[x, y], #[t, u]⟩) (okx : okOpnd N x = true) (oky : okOpnd N y = true) (hx : aev T x = .msl id 0 n c) (hy : aev T y = .slice [e1] tl) (hn : n + 1 ≤ c) (hcs : cs.length = c * ei.2.sz)
    (hxs : e1.cells.length = ei.2.sz) (hcell : e1.cells.all PV.isCell = true)
    (hte : telem P t = some ei) (htu : (telem P u).isSome = true)
    (h : AOps P N nb ops Q l (updO T o.dst (.msl id 0 (n + 1) c)) (H.set id (.row (splice cs (n * ei.2.sz) e1.cells)))) : AOps P N nb ops Q (o :: l) T H := by
  refine aops_done hw (fun E a ho hH ht => ?_) h
  subst hH
  obtain ⟨e, i⟩ := ei
  obtain ⟨h1, h2⟩ := telem_some hte
  obtain ⟨dd, f, h3, h4, rfl⟩ := tinfo_some h2
  simp only at hxs hcs ⊢
  obtain ⟨eu, hue⟩ := telem_isSome htu
  have hvx := vrel_eval ht x okx
  have hvy := vrel_eval ht y oky
  rw [hx] at hvx
  rw [hy] at hvy
  have hxs' : ∀ q ∈ [e1], q.cells.length = f.size := fun q hq => by rw [List.mem_singleton.1 hq]; exact hxs
  obtain ⟨arrx, r1, r2, ady, capy, vy, hcy1, hcy2, _⟩ := run_first (P := P) (E := E) hvy hxs'
  have hfe : flatE [e1] = e1.cells := by simp [flatE]
  rw [hfe] at r2
  have vx : a.eval x = .slice (some ⟨E.ρ id, 0, none⟩) n c ∧ c ≤ maxLen ∧ E.view.born id := by
    generalize a.eval x = w at hvx
    cases hvx with
    | msl _ _ _ _ hbn hm => exact ⟨rfl, hm, hbn⟩
  obtain ⟨vx, hcm, hbn⟩ := vx
  obtain ⟨E', e1', e2, e3, e4⟩ := storeRow (P := P) (id := id) (off := n * f.size) arrx.toList e1.cells 0 E cs ho hid (by rw [Array.length_toList]; exact r2.1) (fun j hj => by
    have := r2.2 j hj
    rw [Array.getD_eq_getD_getElem?] at this
    rw [List.getD_eq_getElem?_getD, Array.getElem?_toList]; exact this) hcell (by
      rw [Array.length_toList, r2.1, hxs, hcs]
      have : (n + 1) * f.size ≤ c * f.size := Nat.mul_le_mul_right _ hn
      rw [Nat.add_mul] at this; omega)
  refine ⟨E', .slice (some ⟨E.ρ id, 0, none⟩) (n + 1) c, .inl ?_, e2, e3, by rw [e4, Nat.add_zero], ?_⟩
  · unfold execOp
    rw [hop]
    simp only
    refine (run_builtin (c := ⟨.builtin .append, #[x, y], #[t, u]⟩) (a := a) (E := E) (P := P) (xs := [x, y]) (ts := [t, u]) (ty := o.type) rfl rfl rfl (s := Builtin.append_ #[t, u] o.type #[a.eval x, a.eval y]) rfl).trans ?_
    have r1' : (Builtin.firstCells f.size 1 (.slice ady 1 capy)).run P E.w = .ok arrx E.w := by have := r1; rw [vy] at this; exact this
    have vy' : a.eval y = .slice ady 1 capy := vy
    have hadd : (⟨E.ρ id, 0, none⟩ : Addr).add (n * f.size) = ⟨E.ρ id, n * f.size, none⟩ := by rw [add_plain, Nat.zero_add]
    simp only [Builtin.append_, List.getElem?_toArray, List.getElem?_cons_zero, List.getElem?_cons_succ, Sem.run_bind, run_under h1, run_size h4, run_under hue, Result.andThen_ok, Sem.run_pure, vx, vy', Builtin.lenOf, hn, if_true, if_false,
      Bool.not_false, Bool.false_eq_true, r1', hadd, e1']
  · have := VRel.msl (V := E'.view) id 0 (n + 1) c (e2.view.born id hbn) hcm
    rw [e2.view.rho id hbn] at this
    exact this
theorem first_nil {E : Env} {v : Value} {sz : Nat} (hv : VRel E.view v (.slice [] .full)) : ∃ ad, v = .slice ad 0 0 ∧ ∃ arrs, (Builtin.firstCells sz 0 (.slice ad 0 0)).run P E.w = .ok arrs E.w ∧ RL E.view arrs [] := by
  obtain ⟨ad, rfl⟩ : ∃ ad, v = .slice ad 0 0 := by
    cases hv with
    | nils _ _ => exact ⟨none, rfl⟩
    | slice ad len cap sz _ _ vs hlen hcap hmax hsz' hc hr ht =>
      have : cap = len := ht
      subst this; simp at hlen; subst hlen; exact ⟨some ad, rfl⟩
  refine ⟨ad, rfl, #[], ?_, rfl, fun i hi => by cases hi⟩
  cases ad <;> simp only [Builtin.firstCells, Nat.zero_mul, loadCells, loadCellsFrom, Sem.run_pure]
theorem first_msl {E : Env} {v : Value} {id n sz : Nat} {cs : List PV} (ho : E.Ok) (hid : E.H[id]? = some (.row cs)) (hcs : cs.length = n * sz) (hv : VRel E.view v (.msl id 0 n n)) : ∃ ad, v = .slice ad n n ∧ ∃ arrs, (Builtin.firstCells sz n (.slice ad n n)).run P E.w = .ok arrs E.w ∧ RL E.view arrs cs := by
  cases hv with
  | msl _ _ _ _ hbn hm =>
    obtain ⟨arr, elem, h1, h2, h3, h4⟩ := ho.rows id cs hid
    refine ⟨_, rfl, _, run_loadCells E.w ⟨E.ρ id, 0, none⟩ (n * sz) (fun k => arr.getD k undef) (fun k hk => ?_), ⟨by simp [hcs], fun i hi => ?_⟩⟩
    · rw [add_plain, Nat.zero_add, cell_row h1, Array.getD_eq_getD_getElem?, Array.getElem?_eq_getElem (by omega)]; rfl
    · rw [Array.getD_eq_getD_getElem?]
      have hi' : i < n * sz := by omega
      simp only [List.getElem?_toArray, List.getElem?_map, List.getElem?_range hi', Option.map_some, Option.getD_some]
      exact h3 i hi
end
end Go.Abs
namespace Go.Abs
/-! A string's bytes as a slice; operations on values in a guarded region; comparison of structs of two integers. -/
def u8v (b : UInt8) : PV := .int .u8 b.toNat
theorem aops_toBytes {P : Program} {N nb : Nat} {ops : Array Oper} {Q : Post} {o : Oper} {l : List Oper} {T : Slots} {H : Heap} {x : Operand} {t u e : TypeId} {s : List UInt8} (hop : o.op = .convert t u x) (hx : aev T x = .str s) (okx : okOpnd N x = true)
    (ht : P.underlying t = some .string) (hu : P.underlying u = some (.slice e)) (he : P.underlying e = some (.int .u8)) (hs : s.length ≤ maxLen) (hw : awanted ops.toList T N o = some true)
    (h : AOps P N nb ops Q l (updO T o.dst (.slice (s.map u8v) .none)) H) : AOps P N nb ops Q (o :: l) T H := by
  refine aops_done hw (fun E a ho hH htr => ?_) h
  have hv := vrel_eval htr x okx
  rw [hx] at hv
  generalize hq : a.eval x = w at hv
  cases hv with
  | str z =>
    have hd := ho.drew
    have hlen : z.data.toList.length = z.size := rfl
    have em : maxLen = 9223372036854775807 := by decide
    obtain ⟨c, hc6, hc7, hc8⟩ := run_choose_cap (P := P) (w := E.w) z.size 0 e
    have hcg : c = grownCap E.w z.size 0 e := by
      have h2 : (choose (.appendCap z.size 0 e)).run P E.w = .ok (grownCap E.w z.size 0 e) E.w.drew := by
        simp only [choose, Sem.run, Question.forced, Bool.false_eq_true, if_false, Question.cut, grownCap]; rfl
      rw [hc6] at h2; cases h2; rfl
    have hcm : c ≤ maxLen := by
      have := hc8 (by have e2 : maxLen = 2 ^ 63 - 1 := rfl; omega)
      have e2 : maxLen = 2 ^ 63 - 1 := rfl
      omega
    have hrun := run_bytes_of_string (P := P) E.w t u e z ht hu he
    rw [← hcg] at hrun
    refine ⟨E.drew.newFixed (.cells (bytesRow z c) e ((bytesRow z c).size, (bytesRow z c).size + 1)), .slice (some ⟨E.w.heap.size, 0, none⟩) z.size c, .inl ?_, E.drew_le.trans (Env.newFixed_le hd _), hd.newFixed _, hH, ?_⟩
    · unfold execOp
      rw [hop]
      simp only [Sem.run_bind, hq, hrun, Result.andThen_ok, Sem.run_pure]
      rfl
    · refine .slice _ _ _ 1 _ _ (fun i _ => .int .u8 (z.data.toList.getD i 0).toNat) (by simp) hc7 hcm ?_ ?_ ?_ trivial
      · intro i hi
        simp only [List.getElem_map]; rfl
      · intro i j hi hj
        have hj0 : j = 0 := by omega
        subst hj0
        rw [add_plain, Nat.mul_one, Nat.add_zero, Nat.zero_add]
        refine Env.cell_of ?_ ?_
        · show Kind.stable (if E.w.heap.size = E.w.heap.size then .fixed else _) _ = true
          rw [if_pos rfl]; rfl
        · show World.cell? (World.alloc E.w.drew _) _ = _
          unfold World.cell?
          have := heap_alloc_new E.w.drew (.cells (bytesRow z c) e ((bytesRow z c).size, (bytesRow z c).size + 1))
          rw [show E.w.drew.heap.size = E.w.heap.size from rfl] at this
          rw [this]
          have hi' : i < z.data.size := hi
          simp [bytesRow, Array.getElem?_append, hi, Array.getElem?_eq_getElem hi', List.getD_eq_getElem?_getD]
      · intro i j hi hj
        simp only [List.getElem_map] at hj ⊢
        have hi' : i < z.data.toList.length := by simpa using hi
        have hj0 : j = 0 := by
          have : j < 1 := hj
          omega
        subst hj0
        rw [List.getD_eq_getElem?_getD, List.getElem?_eq_getElem hi']
        exact VRel.int _ _
theorem aops_gval {P : Program} {N nb : Nat} {ops : Array Oper} {Q : Post} {o : Oper} {l : List Oper} {T : Slots} {G : Nat → Bool} {H : Heap} {v : PV} (hc : gcond ops.toList T G N o = some true) (hg : o.op.operands.toList.all (gOk true G) = true)
    (hv : ∀ (E : Env) (a : Act), E.Ok → (∀ x ∈ o.op.operands.toList, okOpnd N x = true → VRel E.view (a.eval x) (aev T x)) → ∃ val, (execOp a.eval o).run P E.w = .ok (.value val) E.w ∧ VRel E.view val v)
    (h : AOps P N nb ops Q l (msk (.tup []) (updO T o.dst v) (ugO G o.dst true)) H) : AOps P N nb ops Q (o :: l) (msk (.tup []) T G) H := by
  rw [msk_put_true] at h
  refine aops_done ((gcond_sound hc).1 rfl _) (fun E a ho hE ht => ?_) h
  obtain ⟨val, h1, h2⟩ := hv E a ho fun x hx hok => by
    have := vrel_eval ht x hok
    rwa [aev_msk (List.all_eq_true.1 hg x hx)] at this
  exact ⟨E, val, .inl h1, .refl E, ho, hE, h2⟩
structure IIAt (P : Program) (t : TypeId) where
  f0 : Field
  f1 : Field
  ut : P.underlying t = some (.struct #[f0, f1])
  held : P.stoodInHeld t = false
  n0 : f0.name ≠ "_"
  n1 : f1.name ≠ "_"
  o0 : f0.offset = 0
  o1 : f1.offset = 1
  u0 : P.underlying f0.type = some (.int .i64)
  u1 : P.underlying f1.type = some (.int .i64)
  a0 : ∀ w, (isAgg f0.type).run P w = .ok false w
  a1 : ∀ w, (isAgg f1.type).run P w = .ok false w
  gu : P.eqGuardType P.depth t = false
theorem run_eqII {P : Program} {t : TypeId} (F : IIAt P t) (w : World) (a b c d : Int) :
    (Op.equal t (.agg #[.int .i64 a, .int .i64 b]) (.agg #[.int .i64 c, .int .i64 d])).run P w = .ok ((a == c) && (b == d)) w := by
  have hf : P.fieldsOf t = #[F.f0, F.f1] := by unfold Program.fieldsOf; rw [F.ut]
  have p0 : ∀ (x : Value) (y : Value) w, (part F.f0.type #[x, y] F.f0.offset).run P w = .ok x w := fun x y w => by
    simp only [part, Sem.run_bind, F.a0, Result.andThen_ok, F.o0]; rfl
  have p1 : ∀ (x : Value) (y : Value) w, (part F.f1.type #[x, y] F.f1.offset).run P w = .ok y w := fun x y w => by
    simp only [part, Sem.run_bind, F.a1, Result.andThen_ok, F.o1]; rfl
  show (Op.equalIn (9999 + 1) t _ _).run P w = _
  rw [run_equalIn_struct w 9999 t _ _ (by rw [hf]; exact F.ut) F.held, hf]
  show (Op.eqFields 9999 _ _ [F.f0, F.f1]).run P w = _
  simp only [Op.eqFields, if_pos F.n0, if_pos F.n1, Sem.run_bind, p0, p1, Result.andThen_ok, run_equalIn_int w 9998 _ _ _ _ _ F.u0, run_equalIn_int w 9998 _ _ _ _ _ F.u1, Sem.run_ite, Sem.run_pure]
  cases h1 : (a == c) <;> cases h2 : (b == d) <;> simp
theorem guard_ii {P : Program} {t : TypeId} (F : IIAt P t) {w : World} (op : BinOp) (x y : Operand) (u v : Array Value) : (eqGuard op t x y (.agg u) (.agg v)).run P w = .ok () w := by
  unfold eqGuard
  simp only [Sem.run_bind, run_program, Result.andThen_ok, F.gu, Bool.not_false, if_true, Sem.run_ite, Sem.run_pure]
  split <;> rfl
theorem inv_II {V : View} {v : Value} {n m : Int} (hv : VRel V v (.agg [.int .i64 n, .int .i64 m])) : v = .agg #[.int .i64 n, .int .i64 m] := by
  cases hv with
  | agg arr _ hl hr =>
    have h0 := hr 0 (by simp)
    have h1 := hr 1 (by simp)
    simp only [List.getElem_cons_zero, List.getElem_cons_succ] at h0 h1
    have hs : arr.size = 2 := by simpa using hl
    rw [Array.getD_eq_getD_getElem?, Array.getElem?_eq_getElem (by omega)] at h0 h1
    simp only [Option.getD_some] at h0 h1
    generalize hg0 : arr[0] = g0 at h0
    generalize hg1 : arr[1] = g1 at h1
    cases h0 with
    | int =>
      cases h1 with
      | int =>
        congr 1
        apply Array.ext
        · simp [hs]
        · intro i hi hi2
          match i, hi2 with
          | 0, _ => exact hg0
          | 1, _ => exact hg1
section
variable {P : Program} {N nb : Nat} {ops : Array Oper} {Q : Post} {o : Oper} {l : List Oper} {T : Slots} {G : Nat → Bool} {H : Heap} {t y' : TypeId} {x y : Operand} {a b c d : Int}
theorem aops_neqII (F : IIAt P t) (hop : o.op = .binOp .neq t x y y') (hx : aev T x = .agg [.int .i64 a, .int .i64 b]) (hy : aev T y = .agg [.int .i64 c, .int .i64 d]) (hc : gcond ops.toList T G N o = some true) (hg : o.op.operands.toList.all (gOk true G) = true) (okx : okOpnd N x = true) (oky : okOpnd N y = true)
    (h : AOps P N nb ops Q l (msk (.tup []) (updO T o.dst (.bool (!(decide (a = c) && decide (b = d))))) (ugO G o.dst true)) H) : AOps P N nb ops Q (o :: l) (msk (.tup []) T G) H := by
  refine aops_gval hc hg (fun E A ho he => ?_) h
  have rx := he x (by rw [hop]; simp [Op.operands]) okx
  have ry := he y (by rw [hop]; simp [Op.operands]) oky
  rw [hx] at rx; rw [hy] at ry
  have hvx := inv_II rx
  have hvy := inv_II ry
  have hb : ((a == c) && (b == d)) = (decide (a = c) && decide (b = d)) := by rw [Bool.eq_iff_iff]; simp
  refine ⟨.bool (!(decide (a = c) && decide (b = d))), ?_, .bool _⟩
  unfold execOp
  rw [hop]
  simp only [Sem.run_bind, hvx, hvy, guard_ii F, Result.andThen_ok, binOp, run_eqII F, Sem.run_pure, hb]
theorem aops_eqlII (F : IIAt P t) (hop : o.op = .binOp .eql t x y y') (hx : aev T x = .agg [.int .i64 a, .int .i64 b]) (hy : aev T y = .agg [.int .i64 c, .int .i64 d]) (hc : gcond ops.toList T G N o = some true) (hg : o.op.operands.toList.all (gOk true G) = true) (okx : okOpnd N x = true) (oky : okOpnd N y = true)
    (h : AOps P N nb ops Q l (msk (.tup []) (updO T o.dst (.bool (decide (a = c) && decide (b = d)))) (ugO G o.dst true)) H) : AOps P N nb ops Q (o :: l) (msk (.tup []) T G) H := by
  refine aops_gval hc hg (fun E A ho he => ?_) h
  have rx := he x (by rw [hop]; simp [Op.operands]) okx
  have ry := he y (by rw [hop]; simp [Op.operands]) oky
  rw [hx] at rx; rw [hy] at ry
  have hvx := inv_II rx
  have hvy := inv_II ry
  have hb : ((a == c) && (b == d)) = (decide (a = c) && decide (b = d)) := by rw [Bool.eq_iff_iff]; simp
  refine ⟨.bool (decide (a = c) && decide (b = d)), ?_, .bool _⟩
  unfold execOp
  rw [hop]
  simp only [Sem.run_bind, hvx, hvy, guard_ii F, Result.andThen_ok, binOp, run_eqII F, Sem.run_pure, hb]
end
end Go.Abs
namespace Go.Abs
open Go.ChangeMaps (setBlock)
/-! Loops over a map from ints. -/
section
variable {P : Program} {N nb : Nat} {ops : Array Oper} {Q : Post}
/-- An operation whose answer hangs on the world. -/
theorem aops_anyv {T : Slots} {H : Heap} {o : Oper} {l : List Oper} {R : PV → Heap → Prop} (hw : awanted ops.toList T N o = some true)
    (hd : ∀ (E : Env) (a : Act), E.Ok → E.H = H → TRel E.view N a T → ∃ (E' : Env) (val : Value) (v : PV), R v E'.H ∧ (execOp a.eval o).run P E.w = .ok (.value val) E'.w ∧ E.le E' ∧ E'.Ok ∧ VRel E'.view val v)
    (h : ∀ v H', R v H' → AOps P N nb ops Q l (updO T o.dst v) H') : AOps P N nb ops Q (o :: l) T H := by
  intro E a ho hH ht
  obtain ⟨E', val, v, h0, h1, h2, h3, h5⟩ := hd E a ho hH ht
  refine wpList_cons (awanted_sound ht hw) ?_
  have hn := wpList_mono (fun e a w hl => lift_mono (h2.leN nb) (fun _ _ _ q => q) hl) l _ _ (h v E'.H h0 E' (a.put o.dst val) h3 rfl ((ht.mono h2.view).put o.dst h5))
  unfold Oper.wp
  rw [h1]; exact hn
theorem MRel.length {V : View} : ∀ {ms : List MapEntry} {es : List (Int × PV)}, MRel V ms es → ms.length = es.length
  | [], [], _ => rfl
  | m :: ms, e :: es, h => by rw [List.length_cons, List.length_cons, MRel.length h.2.2]
  | [], _ :: _, h => h.elim
  | _ :: _, [], h => h.elim
theorem MRel.get {V : View} : ∀ {ms : List MapEntry} {es : List (Int × PV)}, MRel V ms es → ∀ (i : Nat) (h : i < ms.length) (h' : i < es.length), ms[i].key = .int .i64 es[i].1 ∧ VRel V ms[i].val es[i].2
  | m :: ms, e :: es, h, 0, _, _ => ⟨h.1, h.2.1⟩
  | m :: ms, e :: es, h, i + 1, h1, h2 => MRel.get h.2.2 i _ _
  | [], [], _, i, h, _ => absurd h (Nat.not_lt_zero _)
  | [], _ :: _, h, _, _, _ => h.elim
  | _ :: _, [], h, _, _, _ => h.elim
theorem aops_rangeM {o : Oper} {l : List Oper} {T : Slots} {H : Heap} {x : Operand} {t k e : TypeId} {im : Nat} {es : List (Int × PV)} (hid : H[im]? = some (.obj (.mapo es))) (hop : o.op = .range t x) (hx : aev T x = .mapp im) (ht : P.underlying t = some (.map k e)) (okx : okOpnd N x = true) (hw : awanted ops.toList T N o = some true)
    (h : AOps P N nb ops Q l (updO T o.dst (.optr H.length 0)) (H ++ [.obj (.miter im es.length [])])) : AOps P N nb ops Q (o :: l) T H := by
  refine aops_done hw (fun E a ho hH htr => ?_) h
  have hi : E.H[im]? = some (.obj (.mapo es)) := by rw [hH]; exact hid
  obtain ⟨⟨ob, b1, b2⟩, _⟩ := ho.objs.at_ im _ hi
  obtain ⟨ms, c, rfl, hm, hc, hb, _⟩ := b2
  have hv := vrel_eval htr x okx
  rw [hx] at hv
  have hr := run_range_map (P := P) E.w t k e (E.ρ im) ms.toArray c ht b1
  have hun : E.ext.H[E.H.length]? = some .unborn := by simp [Env.ext]
  have hbn : E.ext.view.born im := ⟨.obj (.mapo es), by simp only [Env.ext]; rw [List.getElem?_append_left (len_of_get hi)]; exact hi, by simp⟩
  have hor : OR E.ext.view (.miter im es.length []) (.mapIter (some (E.ρ im)) c #[] c) := ⟨hbn, by rw [hc, hm.length]; rfl⟩
  have hl := E.ext_le.trans (Env.newObj_le ho.ext hun (.mapIter (some (E.ρ im)) c #[] c) (.miter im es.length []))
  have hH' : (E.ext.newObj E.H.length (.mapIter (some (E.ρ im)) c #[] c) (.miter im es.length [])).H = H ++ [.obj (.miter im es.length [])] := by
    simp only [Env.newObj, Env.ext]
    rw [List.set_append_right _ _ (Nat.le_refl _)]; simp [hH]
  refine ⟨E.ext.newObj E.H.length (.mapIter (some (E.ρ im)) c #[] c) (.miter im es.length []), .pointer (some ⟨E.w.heap.size, 0, none⟩), .inl ?_, hl, ho.ext.newObj hun _ _ hor, hH', ?_⟩
  · generalize he : a.eval x = w at hv
    generalize hp : PV.mapp im = p at hv
    cases hv <;> cases hp
    unfold execOp
    rw [hop]
    simp only [Sem.run_bind, he]
    rw [show (E.view.rho im) = E.ρ im from rfl, hr]
    rfl
  · have := VRel.optr (V := (E.ext.newObj E.H.length (.mapIter (some (E.ρ im)) c #[] c) (.miter im es.length [])).view) H.length 0 ⟨.obj (.miter im es.length []), by rw [hH']; simp, by simp⟩
    have e1 : (E.ext.newObj E.H.length (.mapIter (some (E.ρ im)) c #[] c) (.miter im es.length [])).view.rho H.length = E.w.heap.size := by
      show (if H.length = E.H.length then _ else _) = _
      rw [if_pos (by rw [hH])]; rfl
    rw [e1] at this
    exact this
def mrest (es : List (Int × PV)) : Option Nat → List PV
  | none => []
  | some i => [.int .i64 (es.getD i (0, .junk)).1, (es.getD i (0, .junk)).2]
def mchoice (n : Nat) (seen : List Nat) : Option Nat → Prop
  | none => ∀ i < n, i ∈ seen
  | some i => i < n ∧ i ∉ seen
theorem mem_leftOf {ms : List MapEntry} {seen : List Nat} (hb : ms.map (·.born) = List.range ms.length) {e : MapEntry} (he : e ∈ (leftOf ms.toArray seen.toArray).toList) : ∃ (i : Nat) (h : i < ms.length), ms[i] = e ∧ e.born = i ∧ i ∉ seen := by
  obtain ⟨h1, h2⟩ := mem_left he
  obtain ⟨i, hi, rfl⟩ := List.mem_iff_getElem.1 h1
  have hi' : i < ms.length := hi
  have hbi : ms[i].born = i := by
    have := congrArg (fun l => l[i]?) hb
    simp only [List.getElem?_map, List.getElem?_eq_getElem hi', Option.map_some, List.getElem?_range hi', Option.some.injEq] at this
    exact this
  refine ⟨i, hi', rfl, hbi, fun hc => ?_⟩
  have h2 : seen.toArray.contains ms[i].born = false := h2
  rw [hbi] at h2
  simp at h2
  exact h2 hc
theorem aops_nextM {o : Oper} {l : List Oper} {T : Slots} {H : Heap} {x : Operand} {im it : Nat} {es : List (Int × PV)} {seen : List Nat} (hit : H[it]? = some (.obj (.miter im es.length seen))) (him : H[im]? = some (.obj (.mapo es))) (hop : o.op = .next x false) (hx : aev T x = .optr it 0) (okx : okOpnd N x = true)
    (hw : awanted ops.toList T N o = some true)
    (h : ∀ c, mchoice es.length seen c → AOps P N nb ops Q l (updO T o.dst (.tup (.bool c.isSome :: mrest es c))) (H.set it (.obj (.miter im es.length (seen ++ c.toList))))) : AOps P N nb ops Q (o :: l) T H := by
  refine aops_anyv (R := fun v H' => ∃ c, mchoice es.length seen c ∧ v = .tup (.bool c.isSome :: mrest es c) ∧ H' = H.set it (.obj (.miter im es.length (seen ++ c.toList)))) hw (fun E a ho hH htr => ?_) (fun v H' ⟨c, hc, e1, e2⟩ => by subst e1; subst e2; exact h c hc)
  have hi : E.H[im]? = some (.obj (.mapo es)) := by rw [hH]; exact him
  have hi2 : E.H[it]? = some (.obj (.miter im es.length seen)) := by rw [hH]; exact hit
  obtain ⟨⟨ob, b1, b2⟩, _⟩ := ho.objs.at_ im _ hi
  obtain ⟨ms, c0, rfl, hm, hc, hb, _⟩ := b2
  obtain ⟨⟨ob, d1, d2⟩, _⟩ := ho.objs.at_ it _ hi2
  obtain ⟨hbn, rfl⟩ := d2
  have hlen := hm.length
  have hv := vrel_eval htr x okx
  rw [hx] at hv
  have hold : ∀ x ∈ ms.toArray.toList, x.born < es.length := fun y hy => by
    have : y.born ∈ ms.map (·.born) := List.mem_map.2 ⟨y, hy, rfl⟩
    rw [hb, List.mem_range] at this; omega
  generalize he : a.eval x = w at hv
  generalize hp : PV.optr it 0 = p at hv
  cases hv <;> cases hp
  have hrun : ∀ {r w'}, (Instr.next (.pointer (some ⟨E.ρ it, 0, none⟩)) false o.type).run P E.w = .ok r w' → (execOp a.eval o).run P E.w = .ok (.value r) w' := fun hr => by
    unfold execOp
    rw [hop]
    simp only [Sem.run_bind, he]
    rw [show (E.view.rho it) = E.ρ it from rfl, hr]
    rfl
  rcases run_next_at (P := P) E.w o.type (E.ρ it) (E.ρ im) es.length es.length seen.toArray ms.toArray c0 d1 b1 hold (Nat.le_refl _) with ⟨h0, hr⟩ | ⟨e, hel, w1, hw1, hr⟩
  · refine ⟨E, _, _, ⟨none, ?_, rfl, ?_⟩, hrun hr, .refl E, ho, ?_⟩
    · intro i hi'
      have hi'' : i < ms.length := by omega
      have := all_seen ms.toArray seen.toArray h0 ms[i] (List.getElem_mem hi'')
      have hbi : ms[i].born = i := by
        have := congrArg (fun l => l[i]?) hb
        simp only [List.getElem?_map, List.getElem?_eq_getElem hi'', Option.map_some, List.getElem?_range hi'', Option.some.injEq] at this
        exact this
      rw [hbi] at this
      simpa using this
    · rw [Option.toList_none, List.append_nil, hH, list_set_self hit]
    · refine .tup _ _ rfl fun i hi => ?_
      match i, hi with
      | 0, _ => exact .bool _
  · obtain ⟨i, hi', rfl, hbi, hns⟩ := mem_leftOf hb hel
    have hie : i < es.length := by omega
    obtain ⟨g1, g2⟩ := hm.get i hi' hie
    have hlt : E.ρ it < E.w.heap.size := ho.objs.lt hi2
    have hwh : w1.heap = E.w.heap := by rcases hw1 with rfl | rfl <;> rfl
    have hturn : World.Turned E.w (setBlock w1 (E.ρ it) (.mapIter (some (E.ρ im)) es.length (seen.toArray.push ms[i].born) c0)) (E.ρ it) := by
      refine ⟨by rcases hw1 with rfl | rfl <;> rfl, by rcases hw1 with rfl | rfl <;> rfl, by rcases hw1 with rfl | rfl <;> rfl, by simp only [setBlock, hwh, Array.size_setIfInBounds], fun y hy => ?_⟩
      simp only [setBlock, hwh]; rw [Array.getElem?_setIfInBounds_ne (Ne.symm hy)]
    have hat : (setBlock w1 (E.ρ it) (.mapIter (some (E.ρ im)) es.length (seen.toArray.push ms[i].born) c0)).heap[E.ρ it]? = some (.mapIter (some (E.ρ im)) es.length (seen.toArray.push ms[i].born) c0) := by
      simp only [setBlock, hwh]; rw [Array.getElem?_setIfInBounds_self_of_lt hlt]
    refine ⟨E.setObj it (setBlock w1 (E.ρ it) (.mapIter (some (E.ρ im)) es.length (seen.toArray.push ms[i].born) c0)) (.miter im es.length (seen ++ [i])), _, _, ⟨some i, ⟨hie, hns⟩, rfl, by simp only [Env.setObj, hH]; rfl⟩, hrun hr, Env.setObj_le ho hi2 hturn _, ho.setObj hi2 hturn _ ⟨_, hat, hbn, ?_⟩, ?_⟩
    · rw [hbi, hc, hlen]; congr 1; simp
    · refine .tup _ _ rfl fun j hj => ?_
      match j, hj with
      | 0, _ => exact .bool _
      | 1, _ =>
        show VRel _ ms[i].key (.int .i64 (es.getD i (0, .junk)).1)
        rw [List.getD_eq_getElem?_getD, List.getElem?_eq_getElem hie, g1]; exact .int _ _
      | 2, _ =>
        show VRel _ ms[i].val (es.getD i (0, .junk)).2
        rw [List.getD_eq_getElem?_getD, List.getElem?_eq_getElem hie]; exact g2.mono (Env.setObj_view ho hi2 hturn _)
theorem aops_entryM {o : Oper} {l : List Oper} {T : Slots} {H : Heap} {x : Operand} {im it i : Nat} {es : List (Int × PV)} {seen : List Nat} (hit : H[it]? = some (.obj (.miter im es.length (seen ++ [i])))) (him : H[im]? = some (.obj (.mapo es))) (hi : i < es.length) (hop : o.op = .entry x) (hx : aev T x = .optr it 0) (okx : okOpnd N x = true)
    (hw : awanted ops.toList T N o = some true)
    (h : AOps P N nb ops Q l (updO T o.dst (.tup [.int .i64 es[i].1, es[i].2])) H) : AOps P N nb ops Q (o :: l) T H := by
  refine aops_done hw (fun E a ho hH htr => ?_) h
  have hi1 : E.H[im]? = some (.obj (.mapo es)) := by rw [hH]; exact him
  have hi2 : E.H[it]? = some (.obj (.miter im es.length (seen ++ [i]))) := by rw [hH]; exact hit
  obtain ⟨⟨ob, b1, b2⟩, _⟩ := ho.objs.at_ im _ hi1
  obtain ⟨ms, c0, rfl, hm, hc, hb, _⟩ := b2
  obtain ⟨⟨ob, d1, d2⟩, _⟩ := ho.objs.at_ it _ hi2
  obtain ⟨hbn, rfl⟩ := d2
  have hlen := hm.length
  have hi' : i < ms.length := by omega
  obtain ⟨g1, g2⟩ := hm.get i hi' hi
  have hbi : ms[i].born = i := by
    have := congrArg (fun l => l[i]?) hb
    simp only [List.getElem?_map, List.getElem?_eq_getElem hi', Option.map_some, List.getElem?_range hi', Option.some.injEq] at this
    exact this
  have hv := vrel_eval htr x okx
  rw [hx] at hv
  generalize he : a.eval x = w at hv
  generalize hp : PV.optr it 0 = p at hv
  cases hv <;> cases hp
  have hr := run_entry_at (P := P) E.w (E.ρ it) (E.ρ im) es.length seen.toArray ms.toArray c0 ms[i] (by
    rw [hbi, hc, hlen]
    have d1' : E.w.heap[E.ρ it]? = _ := d1
    rw [d1']; simp; rfl) b1 (List.getElem_mem hi') (by show (ms.map (·.born)).Nodup; rw [hb]; exact List.nodup_range)
  refine ⟨E, .tuple #[ms[i].key, ms[i].val], .inl ?_, .refl E, ho, hH, ?_⟩
  · unfold execOp
    rw [hop]
    simp only [Sem.run_bind, he]
    rw [show (E.view.rho it) = E.ρ it from rfl, hr]
    rfl
  · refine .tup _ _ rfl fun j hj => ?_
    match j, hj with
    | 0, _ => show VRel _ ms[i].key _; rw [g1]; exact .int _ _
    | 1, _ => exact g2
end
end Go.Abs
namespace Go.Abs
/-! A row laid anew by a function of the library. -/
def Env.reRow (E : Env) (id : Nat) (w' : World) (cs : List PV) : Env := { E with w := w', H := E.H.set id (.row cs) }
structure World.Re (w w' : World) (b : Nat) : Prop where
  os : w'.os = w.os
  tape : w'.tape = w.tape
  output : w'.output = w.output
  size : w.heap.size ≤ w'.heap.size
  other : ∀ x, x < w.heap.size → x ≠ b → w'.heap[x]? = w.heap[x]?
section
variable {E : Env} (h : E.Ok) {id : Nat} {cs : List PV} (hi : E.H[id]? = some (.row cs)) {w' : World} (ht : World.Re E.w w' (E.ρ id)) (cs' : List PV)
include h hi ht
theorem Env.reRow_view : E.view.le (E.reRow id w' cs').view := by
  have hlen := len_of_get hi
  obtain ⟨arr, elem, h1, h2, h3, h4⟩ := h.rows id cs hi
  refine ⟨fun a u hc => ?_, fun x hb => ?_, fun x hb => rfl, fun x t' hb ht => ⟨t', ?_, .inl rfl⟩⟩
  · have hl := cell?_lt (Env.cell_stable hc)
    simp only [Env.view] at hc ⊢
    split at hc
    · rename_i hs
      have hne : a.block ≠ E.ρ id := by intro e; rw [e, h4] at hs; simp [Kind.stable] at hs
      simp only [Env.reRow, hs, if_true]
      rw [cell?_congr (ht.other _ hl hne)]; exact hc
    · cases hc
  · obtain ⟨o, a1, a2⟩ := hb
    by_cases e : x = id
    · exact ⟨.row cs', by simp only [Env.reRow, get_set hlen, if_pos e], by simp⟩
    · exact ⟨o, by simp only [Env.reRow, get_set hlen, if_neg e]; exact a1, a2⟩
  · by_cases e : x = id
    · simp only [Env.view, Env.reRow, get_set hlen, if_pos e] at ht; cases ht
    · simp only [Env.view, Env.reRow, get_set hlen, if_neg e] at ht ⊢; exact ht
theorem Env.reRow_le : E.le (E.reRow id w' cs') := by
  have hlen := len_of_get hi
  refine ⟨ht.os, ht.tape, ht.output, ht.size, fun b hb hn => ⟨rfl, ?_⟩, Env.reRow_view h hi ht cs', fun b hb => Or.imp ?_ (Or.imp ?_ (Env.ownsObj_of fun x k hx => ?_))⟩
  · exact ht.other _ hb (fun e => hn (.inl ⟨id, cs, hi, e.symm⟩))
  · rintro ⟨x, cs2, a1, a2⟩
    simp only [Env.reRow, get_set hlen] at a1 a2
    split at a1
    · rename_i e; exact ⟨id, cs, hi, by rw [← e]; exact a2⟩
    · exact ⟨x, cs2, a1, a2⟩
  · rintro ⟨x, n, sz, a1, a2⟩
    simp only [Env.reRow, get_set hlen] at a1 a2
    split at a1
    · cases a1
    · exact ⟨x, n, sz, a1, a2⟩
  · simp only [Env.reRow, get_set hlen] at hx
    split at hx
    · cases hx
    · exact ⟨hx, rfl⟩
theorem Env.Ok.reRow (hr : ∃ arr elem, w'.heap[E.ρ id]? = some (.cells arr elem (0, 0)) ∧ arr.size = cs'.length ∧ ∀ i (hl : i < cs'.length), VRel E.view (arr.getD i undef) cs'[i]) : (E.reRow id w' cs').Ok := by
  have hlen := len_of_get hi
  have hle := Env.reRow_view h hi ht cs'
  obtain ⟨arr, elem, h1, h2, h3, h4⟩ := h.rows id cs hi
  have hbl : E.ρ id < E.w.heap.size := h.rowBlock hi
  refine ⟨?_, ?_, ?_, ?_, h.globs_of hle.cell (by intro x b vs hx; simp only [Env.reRow, get_set hlen] at hx; split at hx <;> first | exact hx | cases hx), h.objs.of hle fun x k hx => ?_⟩
  rotate_left 4
  · simp only [Env.reRow, get_set hlen] at hx
    split at hx
    · cases hx
    · refine ⟨hx, rfl, ht.other _ (h.objs.lt hx) fun e => ?_, rfl⟩
      obtain ⟨⟨o, b1, b2⟩, _⟩ := h.objs.at_ x k hx
      rw [show E.ρ x = E.ρ id from e, h1] at b1
      cases b1
      exact b2.cells
  · intro x cs2 hx
    simp only [Env.reRow, get_set hlen] at hx
    split at hx
    · rename_i e
      cases hx
      subst e
      obtain ⟨arr', elem', a1, a2, a3⟩ := hr
      exact ⟨arr', elem', a1, a2, fun i hl => (a3 i hl).mono hle, h4⟩
    · rename_i e
      obtain ⟨arr2, elem2, b1, b2, b3, b4⟩ := h.rows x cs2 hx
      refine ⟨arr2, elem2, ?_, b2, fun i hl => (b3 i hl).mono hle, b4⟩
      simp only [Env.reRow]
      rw [ht.other _ (h.rowBlock hx) (fun q => e (h.injr x id cs2 cs hx hi q))]; exact b1
  · intro x n sz b hx hb
    simp only [Env.reRow, get_set hlen] at hx hb
    split at hx
    · cases hx
    · obtain ⟨arr2, elem2, pos, b1, b2⟩ := h.bufs x n sz b hx hb
      refine ⟨arr2, elem2, pos, ?_, b2⟩
      simp only [Env.reRow]
      rw [ht.other _ (h.bufBlock hx hb) (fun q => by rw [q, h4] at b2; cases b2)]; exact b1
  · intro x x' c c' a1 a2 e
    simp only [Env.reRow, get_set hlen] at a1 a2 e
    have fix : ∀ (y : Nat) (c : List PV), (if y = id then some (AObj.row cs') else E.H[y]?) = some (.row c) → ∃ d, E.H[y]? = some (AObj.row d) := by
      intro y c q
      split at q
      · rename_i e; subst e; exact ⟨cs, hi⟩
      · exact ⟨c, q⟩
    obtain ⟨d, hd⟩ := fix _ _ a1
    obtain ⟨d', hd'⟩ := fix _ _ a2
    exact h.injr x x' d d' hd hd' e
  · intro x x' n sz n' sz' b a1 a2 e e'
    simp only [Env.reRow, get_set hlen] at a1 a2 e e'
    split at a1 <;> split at a2
    · cases a1
    · cases a1
    · cases a2
    · exact h.injb x x' n sz n' sz' b a1 a2 e e'
end
end Go.Abs
namespace Go.Abs
/-! Lists of bindings in the order of their variables. -/
inductive F2 {α β : Type} (R : α → β → Prop) : List α → List β → Prop
  | nil : F2 R [] []
  | cons {a : α} {b : β} {as1 : List α} {bs : List β} (h : R a b) (t : F2 R as1 bs) : F2 R (a :: as1) (b :: bs)
theorem F2.length {α β : Type} {R : α → β → Prop} : ∀ {as1 : List α} {bs : List β}, F2 R as1 bs → as1.length = bs.length
  | _, _, .nil => rfl
  | _, _, .cons _ t => by simp [t.length]
theorem F2.get {α β : Type} {R : α → β → Prop} : ∀ {as1 : List α} {bs : List β}, F2 R as1 bs → ∀ (i : Nat) (h : i < as1.length) (h' : i < bs.length), R as1[i] bs[i]
  | _, _, .cons h t, 0, _, _ => h
  | _, _, .cons h t, i + 1, h1, h2 => t.get i _ _
theorem F2.of_get {α β : Type} {R : α → β → Prop} : ∀ {as1 : List α} {bs : List β}, as1.length = bs.length → (∀ (i : Nat) (h : i < as1.length) (h' : i < bs.length), R as1[i] bs[i]) → F2 R as1 bs
  | [], [], _, _ => .nil
  | a :: as1, b :: bs, hl, h => .cons (h 0 (by simp) (by simp)) (F2.of_get (by simpa using hl) fun i h1 h2 => h (i + 1) (by simpa using h1) (by simpa using h2))
  | [], _ :: _, hl, _ => by simp at hl
  | _ :: _, [], hl, _ => by simp at hl
theorem F2.perm {α β : Type} {R : α → β → Prop} {xs ys : List α} (hp : ys.Perm xs) : ∀ {bs : List β}, F2 R xs bs → ∃ bs', F2 R ys bs' ∧ bs'.Perm bs := by
  induction hp with
  | nil => intro bs h; exact ⟨bs, h, .refl _⟩
  | cons a _ ih =>
    intro bs h
    cases h with
    | cons h t =>
      obtain ⟨bs', h1, h2⟩ := ih t
      exact ⟨_, .cons h h1, h2.cons _⟩
  | swap a b l =>
    intro bs h
    cases h with
    | cons h t =>
      cases t with
      | cons h' t => exact ⟨_, .cons h' (.cons h t), .swap _ _ _⟩
  | trans _ _ ih1 ih2 =>
    intro bs h
    obtain ⟨bs2, h1, h2⟩ := ih2 h
    obtain ⟨bs1, h3, h4⟩ := ih1 h1
    exact ⟨bs1, h3, h4.trans h2⟩
def sortB (bs : List Bd) : List Bd := bs.mergeSort fun a b => decide (a.v ≤ b.v)
theorem sortB_perm (bs : List Bd) : (sortB bs).Perm bs := List.mergeSort_perm _ _
theorem sortB_le (bs : List Bd) : (sortB bs).Pairwise fun a b => a.v ≤ b.v := by
  have := List.pairwise_mergeSort (le := fun a b : Bd => decide (a.v ≤ b.v)) (fun a b c h1 h2 => by simp at *; omega) (fun a b => by simp; omega) bs
  exact this.imp fun h => by simpa using h
theorem perm_sorted : ∀ {as1 bs : List Bd}, as1.Perm bs → as1.Pairwise (fun a b => a.v < b.v) → bs.Pairwise (fun a b => a.v < b.v) → as1 = bs
  | [], bs, hp, _, _ => (List.Perm.nil_eq hp)
  | a :: as1, [], hp, _, _ => by have := hp.length_eq; simp at this
  | a :: as1, b :: bs, hp, ha, hb => by
    obtain ⟨a1, a2⟩ := List.pairwise_cons.1 ha
    obtain ⟨b1, b2⟩ := List.pairwise_cons.1 hb
    have e : a = b := by
      rcases List.mem_cons.1 (hp.mem_iff.1 (List.mem_cons_self (a := a) (l := as1))) with h | h
      · exact h
      · rcases List.mem_cons.1 (hp.mem_iff.2 (List.mem_cons_self (a := b) (l := bs))) with h' | h'
        · exact h'.symm
        · have := b1 a h; have := a1 b h'; omega
    subst e
    rw [perm_sorted (List.Perm.cons_inv hp) a2 b2]
theorem lt_of_le_nodup {bs : List Bd} (h : bs.Pairwise fun a b => a.v ≤ b.v) (hn : (bs.map (·.v)).Nodup) : bs.Pairwise fun a b => a.v < b.v := by
  have hn' : bs.Pairwise fun a b => a.v ≠ b.v := List.pairwise_map.1 hn
  exact h.imp₂ (fun a b h1 h2 => by omega) hn'
theorem eq_sortB {as1 bs : List Bd} (hp : as1.Perm bs) (hs : as1.Pairwise fun a b => a.v ≤ b.v) (hn : (bs.map (·.v)).Nodup) : as1 = sortB bs := by
  have hq : as1.Perm (sortB bs) := hp.trans (sortB_perm bs).symm
  exact perm_sorted hq (lt_of_le_nodup hs ((hp.map _).nodup_iff.2 hn)) (lt_of_le_nodup (sortB_le bs) (((sortB_perm bs).map _).nodup_iff.2 hn))
end Go.Abs
namespace Go.Abs
open Go.Proofs Go.Shelf Go.RowKit Go.Lib Go.Sort
/-! A row of bindings, sorted by the library. -/
abbrev XB := Int × Int × Int × (Option Addr × Nat × Nat)
def encX (x : XB) : List Value := [.int .i64 x.1, .int .i64 x.2.1, .int .i64 x.2.2.1, .slice x.2.2.2.1 x.2.2.2.2.1 x.2.2.2.2.2]
def RX (V : View) (x : XB) (b : Bd) : Prop := x.1 = b.v ∧ x.2.1 = b.t.kind ∧ x.2.2.1 = b.t.id ∧ VRel V (.slice x.2.2.2.1 x.2.2.2.2.1 x.2.2.2.2.2) (.slice (b.t.args.map Ty.enc) .none)
theorem encX_len (x : XB) : (encX x).length = 4 := rfl
theorem Bd.enc_cells (b : Bd) : b.enc.cells = [.int .i64 b.v, .int .i64 b.t.kind, .int .i64 b.t.id, .slice (b.t.args.map Ty.enc) .none] := rfl
theorem RX.cell {V : View} {x : XB} {b : Bd} (h : RX V x b) (j : Nat) (hj : j < 4) : VRel V (encX x)[j]! (b.enc.cells[j]'(by rw [Bd.enc_len]; exact hj)) := by
  obtain ⟨h1, h2, h3, h4⟩ := h
  match j, hj with
  | 0, _ => show VRel V (.int .i64 x.1) (.int .i64 b.v); rw [h1]; exact .int _ _
  | 1, _ => show VRel V (.int .i64 x.2.1) (.int .i64 b.t.kind); rw [h2]; exact .int _ _
  | 2, _ => show VRel V (.int .i64 x.2.2.1) (.int .i64 b.t.id); rw [h3]; exact .int _ _
  | 3, _ => exact h4
theorem RX.of {V : View} {f : Nat → Value} {b : Bd} (h : ∀ j (hj : j < 4), VRel V (f j) (b.enc.cells[j]'(by rw [Bd.enc_len]; exact hj))) : ∃ x : XB, RX V x b ∧ ∀ j, j < 4 → f j = (encX x)[j]! := by
  have h0 : VRel V (f 0) (.int .i64 b.v) := h 0 (by omega)
  have h1 : VRel V (f 1) (.int .i64 b.t.kind) := h 1 (by omega)
  have h2 : VRel V (f 2) (.int .i64 b.t.id) := h 2 (by omega)
  have h3 : VRel V (f 3) (.slice (b.t.args.map Ty.enc) .none) := h 3 (by omega)
  have e0 : f 0 = .int .i64 b.v := by generalize f 0 = q at h0; cases h0; rfl
  have e1 : f 1 = .int .i64 b.t.kind := by generalize f 1 = q at h1; cases h1; rfl
  have e2 : f 2 = .int .i64 b.t.id := by generalize f 2 = q at h2; cases h2; rfl
  have e3 : ∀ gs, VRel V (f 3) (.slice gs .none) → ∃ a l c, f 3 = .slice a l c := by
    intro gs h
    generalize f 3 = q at h
    cases h
    · exact ⟨_, _, _, rfl⟩
    · exact ⟨_, _, _, rfl⟩
  have e3 := e3 _ h3
  obtain ⟨a, l, c, e3⟩ := e3
  refine ⟨(b.v, b.t.kind, b.t.id, a, l, c), ⟨rfl, rfl, rfl, by rw [← e3]; exact h3⟩, fun j hj => ?_⟩
  match j, hj with
  | 0, _ => exact e0
  | 1, _ => exact e1
  | 2, _ => exact e2
  | 3, _ => exact e3
theorem flat_getB (bs : List Bd) (i j : Nat) (hi : i < bs.length) (hj : j < 4) : (flatE (bs.map Bd.enc))[i * 4 + j]? = some (bs[i].enc.cells[j]'(by rw [Bd.enc_len]; exact hj)) := by
  have := flatE_get (sz := 4) (bs.map Bd.enc) (fun e he => by obtain ⟨b, _, rfl⟩ := List.mem_map.1 he; exact Bd.enc_len b) i j (by simpa using hi) hj
  rw [this, List.getElem_map, List.getElem?_eq_getElem]
theorem flat_lenB (bs : List Bd) : (flatE (bs.map Bd.enc)).length = bs.length * 4 := by
  have := flatE_length (sz := 4) (bs.map Bd.enc) (fun e he => by obtain ⟨b, _, rfl⟩ := List.mem_map.1 he; exact Bd.enc_len b)
  rwa [List.length_map] at this
/-- What lies in a row of bindings, as the library's contract reads it. -/
theorem row_reads {V : View} {arr : Array Value} {bs : List Bd} {rest : List PV} (hl : arr.size = (flatE (bs.map Bd.enc) ++ rest).length) (hr : ∀ i (h : i < (flatE (bs.map Bd.enc) ++ rest).length), VRel V (arr.getD i undef) (flatE (bs.map Bd.enc) ++ rest)[i]) :
    ∃ xs : List XB, F2 (RX V) xs bs ∧ ∀ i j, i < xs.length → j < 4 → arr[i * 4 + j]? = some ((encX (xs.getD i default))[j]!) := by
  have hx : ∀ i, i < bs.length → ∃ x : XB, RX V x (bs.getD i ⟨0, .mk 0 0 []⟩) ∧ ∀ j, j < 4 → arr.getD (i * 4 + j) undef = (encX x)[j]! := fun i hi => by
    rw [List.getD_eq_getElem?_getD, List.getElem?_eq_getElem hi, Option.getD_some]
    refine RX.of (f := fun j => arr.getD (i * 4 + j) undef) fun j hj => ?_
    have hlt : i * 4 + j < (flatE (bs.map Bd.enc) ++ rest).length := by rw [List.length_append, flat_lenB]; omega
    have := hr _ hlt
    have e : (flatE (bs.map Bd.enc) ++ rest)[i * 4 + j]? = some (bs[i].enc.cells[j]'(by rw [Bd.enc_len]; exact hj)) := by
      rw [List.getElem?_append_left (by rw [flat_lenB]; omega)]; exact flat_getB bs i j hi hj
    rw [List.getElem?_eq_getElem hlt] at e
    injection e with e
    rw [e] at this
    exact this
  let xs : List XB := (List.range bs.length).map fun i => if h : i < bs.length then Classical.choose (hx i h) else default
  have hxl : xs.length = bs.length := by simp [xs]
  have hxg : ∀ i (h : i < bs.length), xs[i]'(by omega) = Classical.choose (hx i h) := fun i h => by simp [xs, h]
  refine ⟨xs, F2.of_get hxl fun i h1 h2 => ?_, fun i j hi hj => ?_⟩
  · rw [hxg i h2]
    have := (Classical.choose_spec (hx i h2)).1
    generalize Classical.choose (hx i h2) = x at this ⊢
    rwa [List.getD_eq_getElem?_getD, List.getElem?_eq_getElem h2, Option.getD_some] at this
  · have hi' : i < bs.length := by omega
    rw [List.getD_eq_getElem?_getD, List.getElem?_eq_getElem hi, Option.getD_some, hxg i hi']
    have := (Classical.choose_spec (hx i hi')).2 j hj
    have hlt : i * 4 + j < arr.size := by rw [hl, List.length_append, flat_lenB]; omega
    rw [← this, Array.getD_eq_getD_getElem?, Array.getElem?_eq_getElem hlt]; rfl
end Go.Abs
namespace Go.Abs
open Go.Proofs Go.Shelf Go.RowKit Go.Lib Go.Sort
/-- What the library says of a sort of such a row. -/
def SortsX (P : Program) (f g : FuncId) : Prop := ∀ (blk cap : Nat) (d : Array XB) (w : World), HoldsK encX 4 w blk 0 d → blk < w.heap.size → d.size < 4611686018427387904 →
  Calls P f #[.slice (some ⟨blk, 0, none⟩) d.size cap, .func (.func g) #[] #[]] w fun e w' => e = .returned (.tuple #[]) ∧ ∃ d' n os, PermIn 0 d.size d d' ∧ SortedIn (ltOf fun x y : XB => Lib.compareInt x.1 y.1) 0 d.size d' ∧ w' = sortWorldK encX 4 w blk 0 n d' os
theorem ltX (x y : XB) : ltOf (fun x y : XB => Lib.compareInt x.1 y.1) x y = decide (x.1 < y.1) := by
  unfold ltOf Lib.compareInt
  by_cases h1 : x.1 < y.1
  · simp [h1]
  · by_cases h2 : y.1 < x.1 <;> simp [h1, h2]
theorem swoX : SWO (ltOf fun x y : XB => Lib.compareInt x.1 y.1) where
  irrefl x := by rw [ltX]; simp
  trans x y z h1 h2 := by rw [ltX] at *; simp at *; omega
  ntrans x y z h1 h2 := by rw [ltX] at *; simp at *; omega
theorem sort_block {E : Env} {blk n : Nat} {arr : Array Value} {elem : TypeId} {d' : Array XB} {os : Array Obj} (h1 : E.w.heap[blk]? = some (.cells arr elem (0, 0))) :
    (sortWorldK encX 4 E.w blk 0 n d' os).heap[blk]? = some (.cells (putCells id 0 (flatK encX 4 d') arr) elem (0, 0)) := by
  have hlt : blk < E.w.heap.size := (Array.getElem?_eq_some_iff.1 h1).1
  show ((E.w.heap.modify blk (onCells (putCells id 0 (flatK encX 4 d')))) ++ os)[blk]? = _
  rw [Array.getElem?_append_left (by simpa using hlt), Array.getElem?_modify, if_pos rfl, h1]; rfl
theorem sort_re {w : World} {blk n : Nat} {d' : Array XB} {os : Array Obj} : World.Re w (sortWorldK encX 4 w blk 0 n d' os) blk := by
  refine ⟨rfl, rfl, rfl, ?_, fun x hx hne => ?_⟩
  · show w.heap.size ≤ ((w.heap.modify blk (onCells (putCells id 0 (flatK encX 4 d')))) ++ os).size
    simp
  · show ((w.heap.modify blk (onCells (putCells id 0 (flatK encX 4 d')))) ++ os)[x]? = _
    rw [Array.getElem?_append_left (by simpa using hx), Array.getElem?_modify, if_neg (Ne.symm hne)]
theorem acalls_sort {P : Program} {f g : FuncId} (HC : SortsX P f g) {H : Heap} {id c : Nat} {bs : List Bd} {rest : List PV} (hid : H[id]? = some (.row (flatE (bs.map Bd.enc) ++ rest))) (hn : (bs.map (·.v)).Nodup) (hlen : bs.length < 4611686018427387904) :
    ACalls P f [.msl id 0 bs.length c, .fn (.func g) [] []] H fun r' H' => r' = .tup [] ∧ H' = H.set id (.row (flatE ((sortB bs).map Bd.enc) ++ rest)) := by
  intro E vargs ho hH hrl
  subst hH
  obtain ⟨arr, elem, h1, h2, h3, h4⟩ := ho.rows id _ hid
  obtain ⟨xs, hF, hg⟩ := row_reads h2 h3
  have hxl := hF.length
  have hlt : E.ρ id < E.w.heap.size := ho.rowBlock hid
  have hsz : arr.size = bs.length * 4 + rest.length := by rw [h2, List.length_append, flat_lenB]
  have hv : vargs = #[.slice (some ⟨E.ρ id, 0, none⟩) bs.length c, .func (.func g) #[] #[]] := by
    obtain ⟨hs, hv⟩ := hrl
    simp at hs
    have v0 : VRel E.view (vargs.getD 0 undef) (.msl id 0 bs.length c) := hv 0 (by simp)
    have v1 : VRel E.view (vargs.getD 1 undef) (.fn (.func g) [] []) := hv 1 (by simp)
    have e0 : vargs.getD 0 undef = .slice (some ⟨E.ρ id, 0, none⟩) bs.length c := by generalize vargs.getD 0 undef = q at v0; cases v0; rfl
    have e1 : vargs.getD 1 undef = .func (.func g) #[] #[] := by
      generalize vargs.getD 1 undef = q at v1
      cases v1
      rename_i a b _ _ _ _
      have ha : a = #[] := Array.eq_empty_of_size_eq_zero (by assumption)
      have hb : b = #[] := Array.eq_empty_of_size_eq_zero (by assumption)
      rw [ha, hb]
    refine Array.ext (by simpa using hs) fun i hi hi' => ?_
    simp at hi'
    match i, hi' with
    | 0, _ => simpa [Array.getD, hs] using e0
    | 1, _ => simpa [Array.getD, hs] using e1
  subst hv
  have hds : xs.toArray.size = bs.length := by simp [hxl]
  have hholds : HoldsK encX 4 E.w (E.ρ id) 0 xs.toArray := by
    intro j hj
    rw [size_flatK, hds] at hj
    have hd : j / 4 < xs.length := by omega
    have hm : j % 4 < 4 := Nat.mod_lt _ (by omega)
    constructor
    · have := hg (j / 4) (j % 4) hd hm
      rw [show j / 4 * 4 + j % 4 = j by omega] at this
      rw [get_flatK _ _ _ _ (by rw [hds]; exact hj)]
      unfold World.cell?
      simp only [Nat.zero_add, h1]
      rw [show (none : Option Nat).isSome = false from rfl]
      simp only [Bool.false_eq_true, if_false, this]
      simp [List.getD_eq_getElem?_getD, hd]
    · unfold World.frozen?
      simp only [h1]
      simp
  have hc := HC (E.ρ id) c xs.toArray E.w hholds hlt (by rw [hds]; exact hlen)
  rw [hds] at hc
  refine hc.mono ?_
  rintro e w' ⟨rfl, d', n, os, ⟨hp1, -, hp3⟩, hs, rfl⟩
  rw [hds] at hp1
  have hperm : d'.toList.Perm xs := by
    have e1 : d'.extract 0 bs.length = d' := by rw [← hp1]; exact Array.extract_size
    have e2 : xs.toArray.extract 0 bs.length = xs.toArray := by rw [← hds]; exact Array.extract_size
    rw [e1, e2] at hp3
    exact hp3
  obtain ⟨bs', hF', hpb⟩ := hF.perm hperm
  have hl' := hF'.length
  have hlb : bs'.length = bs.length := hpb.length_eq
  have hsorted : bs'.Pairwise fun a b => a.v ≤ b.v := by
    rw [List.pairwise_iff_getElem]
    intro i j hi hj hij
    have hi' : i < d'.toList.length := by omega
    have hj' : j < d'.toList.length := by omega
    have := hs i j (Nat.zero_le _) hij (by omega)
    rw [ltX, getElem!_pos d' j (by simpa using hj'), getElem!_pos d' i (by simpa using hi')] at this
    have a1 := (hF'.get i hi' hi).1
    have a2 := (hF'.get j hj' hj).1
    simp only [Array.getElem_toList] at a1 a2
    rw [← a1, ← a2]
    simp at this; omega
  have hbs : bs' = sortB bs := eq_sortB hpb hsorted hn
  subst hbs
  refine ⟨E.reRow id (sortWorldK encX 4 E.w (E.ρ id) 0 n d' os) (flatE ((sortB bs).map Bd.enc) ++ rest), .tuple #[], .tup [], rfl, rfl, Env.reRow_le ho hid sort_re _, ho.reRow hid sort_re _ ⟨_, elem, sort_block h1, ?_, ?_⟩, .tup _ _ rfl (fun i hi => absurd hi (by simp)), rfl, rfl⟩
  · rw [List.length_append, flat_lenB, hlb]; simp only [putCells, Array.size_mapIdx]; exact hsz
  · intro i hi
    have hi0 : i < arr.size := by rw [List.length_append, flat_lenB, hlb] at hi; omega
    have hget : (putCells (_root_.id : Value → Value) 0 (flatK encX 4 d') arr).getD i undef = if i < bs.length * 4 then (flatK encX 4 d')[i]! else arr.getD i undef := by
      unfold putCells
      rw [Array.getD_eq_getD_getElem?, Array.getElem?_mapIdx, Array.getElem?_eq_getElem hi0]
      simp only [Option.map_some, Option.getD_some, size_flatK, hp1, Nat.zero_le, true_and, Nat.zero_add, Nat.sub_zero, _root_.id]
      split
      · rfl
      · simp [Array.getD, hi0]
    rw [hget]
    split
    · rename_i hlt'
      have hd : i / 4 < (sortB bs).length := by omega
      have hm : i % 4 < 4 := Nat.mod_lt _ (by omega)
      have hd2 : i / 4 < d'.toList.length := by omega
      rw [get_flatK _ _ _ _ (by rw [hp1]; exact hlt')]
      have e := flat_getB (sortB bs) (i / 4) (i % 4) hd hm
      rw [show i / 4 * 4 + i % 4 = i by omega] at e
      have e2 : (flatE ((sortB bs).map Bd.enc) ++ rest)[i]? = some ((sortB bs)[i / 4].enc.cells[i % 4]'(by rw [Bd.enc_len]; exact hm)) := by
        rw [List.getElem?_append_left (by rw [flat_lenB]; omega)]; exact e
      rw [List.getElem?_eq_getElem hi] at e2
      injection e2 with e2
      rw [e2]
      have := (hF'.get (i / 4) hd2 hd).cell (i % 4) hm
      simp only [Array.getElem_toList] at this
      rw [getElem!_pos d' (i / 4) (by simpa using hd2)]
      exact this
    · rename_i hge
      have h := h3 i (by rw [List.length_append, flat_lenB]; omega)
      have e1 : (flatE (bs.map Bd.enc) ++ rest)[i]'(by rw [List.length_append, flat_lenB]; omega) = rest[i - bs.length * 4]'(by omega) := by
        rw [List.getElem_append_right (by rw [flat_lenB]; omega)]; simp only [flat_lenB]
      have e2 : (flatE ((sortB bs).map Bd.enc) ++ rest)[i]'hi = rest[i - bs.length * 4]'(by omega) := by
        rw [List.getElem_append_right (by rw [flat_lenB]; omega)]; simp only [flat_lenB, hlb]
      rw [e1] at h
      rw [e2]
      simpa [Array.getD, hi0] using h
end Go.Abs
namespace Go.Abs
/-! Equations; the whole of Unify, as a function. -/
structure Eq2 where
  l : Ty
  r : Ty
def Eq2.enc (e : Eq2) : PV := .agg [.int .i64 e.l.kind, .int .i64 e.l.id, .slice (e.l.args.map Ty.enc) .none, .int .i64 e.r.kind, .int .i64 e.r.id, .slice (e.r.args.map Ty.enc) .none]
theorem Eq2.bel (n : Nat) (b : Eq2) : Bel n b.enc := .agg _ (by
  intro c hc
  simp only [List.mem_cons, List.not_mem_nil, or_false] at hc
  rcases hc with rfl | rfl | rfl | rfl | rfl | rfl <;> first | exact .int _ _ | exact bel_slice_ty _ _)
theorem bel_Eq2 (n : Nat) (us : List Eq2) : Bel n (.slice (us.map Eq2.enc) .none) := .slice _ _ (fun e he c hc => by
  obtain ⟨b, _, rfl⟩ := List.mem_map.1 he
  simp only [Eq2.enc, PV.cells, List.mem_cons, List.not_mem_nil, or_false] at hc
  rcases hc with rfl | rfl | rfl | rfl | rfl | rfl <;> first | exact .int _ _ | exact bel_slice_ty _ _) (by simp)
theorem EqS : (∀ b : Eq2, b.enc.cells = [.int .i64 b.l.kind, .int .i64 b.l.id, .slice (b.l.args.map Ty.enc) .none, .int .i64 b.r.kind, .int .i64 b.r.id, .slice (b.r.args.map Ty.enc) .none]) ∧ (∀ b : Eq2, b.enc.isJunk = false) ∧ (∀ b : Eq2, b.enc.drop1 = b.enc) ∧ (∀ (b : Eq2) (n : Nat), b.enc.fits ⟨true, 6, n⟩ = true) ∧
    (∀ l r : Ty, PV.agg [.int .i64 l.kind, .int .i64 l.id, .slice (l.args.map Ty.enc) .none, .int .i64 r.kind, .int .i64 r.id, .slice (r.args.map Ty.enc) .none] = (Eq2.mk l r).enc) ∧ (∀ (l r : Ty), (Eq2.mk l r).l = l) ∧ (∀ (l r : Ty), (Eq2.mk l r).r = r) ∧ (∀ b : Eq2, Eq2.mk b.l b.r = b) :=
  ⟨fun _ => rfl, fun _ => rfl, fun _ => rfl, fun _ _ => rfl, fun _ _ => rfl, fun _ _ => rfl, fun _ _ => rfl, fun _ => rfl⟩
def solveF (n : Nat) : List Eq2 → Bs → Option (Bool × Bs)
  | [], B => some (true, B)
  | e :: es, B => (uniF n e.l e.r (B, 20000)).bind fun r => if r.1 = true then solveF n es r.2.1 else some (false, r.2.1)
def resB (n : Nat) (B : Bs) (e : Int × Ty) : Bd := ⟨e.1, rsvF n B e.2⟩
def inB (n : Nat) (B : Bs) (e : Int × Ty) : Bool := (withinF n B e.2).getD false
def bad (e : Eq2) : Bool := decide (valT e.l ≠ 0) || decide (valT e.r ≠ 0)
def uniR (n : Nat) (eqs : List Eq2) : List Bd × Bool :=
  if (decide (((eqs.length : Nat) : Int) > 100) || eqs.any bad) = true then ([], false) else match solveF n eqs [] with
    | some (true, B) => if B.all (inB n B) = true then (sortB (B.map (resB n B)), true) else ([], false)
    | _ => ([], false)
/-- The rows of the list that grows. -/
def zBd : Bd := ⟨0, .mk 0 0 []⟩
def rowU (L : List Bd) (z : Nat) : List PV := flatE (L.map Bd.enc) ++ (List.replicate z [PV.int .i64 0, .int .i64 0, .int .i64 0, .slice [] .full]).flatten
theorem zU_len (z : Nat) : ((List.replicate z [PV.int .i64 0, .int .i64 0, .int .i64 0, .slice [] .full]).flatten).length = z * 4 := by
  induction z with
  | zero => rfl
  | succ z ih => rw [List.replicate_succ, List.flatten_cons, List.length_append, ih, Nat.succ_mul]; simp; omega
theorem rowU_len (L : List Bd) (z : Nat) : (rowU L z).length = (L.length + z) * 4 := by
  unfold rowU; rw [List.length_append, flat_lenB, zU_len, Nat.add_mul]
theorem rowU_new (L : List Bd) (b : Bd) (z : Nat) : flatE (L.map Bd.enc) ++ b.enc.cells ++ (List.replicate z [PV.int .i64 0, .int .i64 0, .int .i64 0, .slice [] .full]).flatten = rowU (L ++ [b]) z := by
  unfold rowU flatE; simp
theorem splice_app {cs xs ys : List PV} : ∀ {pre : List PV} {k : Nat}, k = pre.length → xs.length = ys.length → splice (pre ++ xs ++ cs) k ys = pre ++ ys ++ cs := by
  induction ys generalizing xs with
  | nil =>
    intro pre k hk hl
    rw [List.length_nil] at hl
    rw [List.length_eq_zero_iff.1 hl]; rfl
  | cons y ys ih =>
    intro pre k hk hl
    cases xs with
    | nil => simp at hl
    | cons x xs =>
      simp only [splice]
      have e : (pre ++ x :: xs ++ cs).set k y = (pre ++ [y]) ++ xs ++ cs := by
        subst hk
        rw [List.append_assoc, List.set_append_right _ _ (Nat.le_refl _), Nat.sub_self]; simp
      rw [e, ih (pre := pre ++ [y]) (by simp [hk]) (by simpa using hl)]
      simp
theorem rowU_in (L : List Bd) (b : Bd) (z : Nat) : splice (rowU L (z + 1)) (L.length * 4) b.enc.cells = rowU (L ++ [b]) z := by
  have : rowU L (z + 1) = flatE (L.map Bd.enc) ++ [PV.int .i64 0, .int .i64 0, .int .i64 0, .slice [] .full] ++ (List.replicate z [PV.int .i64 0, .int .i64 0, .int .i64 0, .slice [] .full]).flatten := by
    unfold rowU; rw [List.replicate_succ, List.flatten_cons, List.append_assoc]
  rw [this, splice_app (by rw [flat_lenB]) (by rw [Bd.enc_len]; rfl), rowU_new]
theorem obel_rowU (n : Nat) (L : List Bd) (z : Nat) : OBel n (.row (rowU L z)) := fun x hx => by
  rcases List.mem_append.1 hx with hx | hx
  · obtain ⟨l, hl, hx⟩ := List.mem_flatten.1 hx
    obtain ⟨e, he, rfl⟩ := List.mem_map.1 hl
    obtain ⟨q, _, rfl⟩ := List.mem_map.1 he
    rw [Bd.enc_cells] at hx
    simp only [List.mem_cons, List.not_mem_nil, or_false] at hx
    rcases hx with rfl | rfl | rfl | rfl <;> first | exact .int _ _ | exact bel_slice_ty _ _
  · obtain ⟨l, hl, hx⟩ := List.mem_flatten.1 hx
    rw [List.eq_of_mem_replicate hl] at hx
    simp only [List.mem_cons, List.not_mem_nil, or_false] at hx
    rcases hx with rfl | rfl | rfl | rfl <;> first | exact .int _ _ | exact bel_nil0 _
/-- The heap of the second loop. -/
def hpU (B : Bs) (p : Int) (seen : List Nat) (G : Heap) : Option (List Bd × Nat) → Heap
  | none => .obj (.mapo (mp Ty.enc B)) :: .row [.mapp 0, .int .i64 p] :: .obj (.miter 0 (mp Ty.enc B).length seen) :: G
  | some (L, z) => .obj (.mapo (mp Ty.enc B)) :: .row [.mapp 0, .int .i64 p] :: .obj (.miter 0 (mp Ty.enc B).length seen) :: (G ++ [.row (rowU L z)])
def slotU (G : Heap) : Option (List Bd × Nat) → PV
  | none => .slice [] .full
  | some (L, z) => .msl (3 + G.length) 0 L.length (L.length + z)
end Go.Abs
namespace Go.Abs
open Go.Proofs
def SortsNil (P : Program) (f g : FuncId) : Prop := ∀ (ad : Option Addr) (cap : Nat) (w : World), Calls P f #[.slice ad 0 cap, .func (.func g) #[] #[]] w fun e w' => e = .returned (.tuple #[]) ∧ w' = w
theorem acalls_sortNil {P : Program} {f g : FuncId} (HC : SortsNil P f g) {H : Heap} {tl : Tail} : ACalls P f [.slice [] tl, .fn (.func g) [] []] H fun r' H' => r' = .tup [] ∧ H' = H := by
  intro E vargs ho hH hrl
  obtain ⟨hs, hv⟩ := hrl
  simp at hs
  have v0 : VRel E.view (vargs.getD 0 undef) (.slice [] tl) := hv 0 (by simp)
  have v1 : VRel E.view (vargs.getD 1 undef) (.fn (.func g) [] []) := hv 1 (by simp)
  have e0 : ∃ ad cap, vargs.getD 0 undef = .slice ad 0 cap := by
    generalize vargs.getD 0 undef = q at v0
    cases v0
    · exact ⟨_, _, rfl⟩
    · have hl := ‹([] : List PV).length = _›
      exact ⟨_, _, by rw [← hl]; rfl⟩
  obtain ⟨ad, cap, e0⟩ := e0
  have e1 : vargs.getD 1 undef = .func (.func g) #[] #[] := by
    generalize vargs.getD 1 undef = q at v1
    cases v1
    rename_i a b _ _ _ _
    have ha : a = #[] := Array.eq_empty_of_size_eq_zero (by assumption)
    have hb : b = #[] := Array.eq_empty_of_size_eq_zero (by assumption)
    rw [ha, hb]
  have hv : vargs = #[.slice ad 0 cap, .func (.func g) #[] #[]] := by
    refine Array.ext (by simpa using hs) fun i hi hi' => ?_
    simp at hi'
    match i, hi' with
    | 0, _ => simpa [Array.getD, hs] using e0
    | 1, _ => simpa [Array.getD, hs] using e1
  subst hv
  refine (HC ad cap E.w).mono ?_
  rintro e w' ⟨rfl, rfl⟩
  exact ⟨E, .tuple #[], .tup [], rfl, rfl, .refl E, ho, .tup _ _ rfl (fun i hi => absurd hi (by simp)), rfl, hH⟩
abbrev UQ := List Nat × Heap × Option (List Bd × Nat)
def unseen (m : Nat) (seen : List Nat) : Nat := ((List.range m).filter fun i => !seen.contains i).length
theorem unseen_lt {m i : Nat} {seen : List Nat} (hi : i < m) (hn : i ∉ seen) : unseen m (seen ++ [i]) < unseen m seen := by
  unfold unseen
  refine filter_lt (fun i => !seen.contains i) (fun j => !(seen ++ [i]).contains j) (fun x hx => ?_) i (by simpa using hn) (by simp) _ (List.mem_range.2 hi)
  simp at hx ⊢
  exact hx.1
def entB (B : Bs) (i : Nat) : Int × Ty := B.getD i (0, .mk 0 0 [])
theorem entB_eq {B : Bs} {i : Nat} (h : i < B.length) : entB B i = B[i] := by unfold entB; rw [List.getD_eq_getElem?_getD, List.getElem?_eq_getElem h]; rfl
structure UOk (n : Nat) (B : Bs) (q : UQ) : Prop where
  nd : q.1.Nodup
  lt : ∀ i ∈ q.1, i < B.length
  cnt : unseen B.length q.1 + q.1.length ≤ B.length
  g : HBel 0 q.2.1
  pl : match q.2.2 with
    | none => q.1 = []
    | some (L, z) => L = q.1.map (fun i => resB n B (entB B i)) ∧ L ≠ []
  ok : ∀ i ∈ q.1, inB n B (entB B i) = true
theorem UOk.start (n : Nat) (B : Bs) : UOk n B ([], [], none) := by
  refine ⟨.nil, nofun, ?_, hbel_nil _, rfl, nofun⟩
  simp only [List.length_nil, Nat.add_zero]
  unfold unseen
  exact Nat.le_trans (List.length_filter_le _ _) (by simp)
theorem UOk.step {n : Nat} {B : Bs} {q : UQ} {i : Nat} {G : Heap} {L : List Bd} {z : Nat} (h : UOk n B q) (hi : i < B.length) (hn : i ∉ q.1) (hG : HBel 0 G) (hL : L = (q.1 ++ [i]).map (fun i => resB n B (entB B i))) (hin : inB n B (entB B i) = true) : UOk n B (q.1 ++ [i], G, some (L, z)) := by
  have := unseen_lt hi hn
  refine ⟨?_, ?_, ?_, hG, ⟨hL, by rw [hL]; simp⟩, ?_⟩
  · rw [List.nodup_append]
    exact ⟨h.nd, by simp, fun a ha b hb => by simp at hb; subst hb; rintro rfl; exact hn ha⟩
  · intro j hj
    rcases List.mem_append.1 hj with hj | hj
    · exact h.lt j hj
    · simp at hj; subst hj; exact hi
  · have := h.cnt
    simp only [List.length_append, List.length_singleton]; omega
  · intro j hj
    rcases List.mem_append.1 hj with hj | hj
    · exact h.ok j hj
    · simp at hj; subst hj; exact hin
theorem UOk.lenL {n : Nat} {B : Bs} {seen : List Nat} {G : Heap} {L : List Bd} {z : Nat} (h : UOk n B (seen, G, some (L, z))) : L.length = seen.length ∧ seen.length ≤ B.length := by
  have h1 := h.pl
  have h2 := h.cnt
  simp only at h1 h2
  exact ⟨by rw [h1.1, List.length_map], by omega⟩
theorem map_entB (n : Nat) (B : Bs) : (List.range B.length).map (fun i => resB n B (entB B i)) = B.map (resB n B) := by
  refine List.ext_getElem (by simp) fun i h1 h2 => ?_
  simp only [List.getElem_map, List.getElem_range]
  rw [entB_eq (by simpa using h2)]
theorem UOk.all {n : Nat} {B : Bs} {q : UQ} (h : UOk n B q) (ha : ∀ i < B.length, i ∈ q.1) : B.all (inB n B) = true ∧ (q.1.map (fun i => resB n B (entB B i))).Perm (B.map (resB n B)) := by
  constructor
  · rw [List.all_eq_true]
    intro e he
    obtain ⟨i, hi, rfl⟩ := List.mem_iff_getElem.1 he
    have := h.ok i (ha i hi)
    rwa [entB_eq hi] at this
  · rw [← map_entB]
    refine List.Perm.map _ ((List.perm_ext_iff_of_nodup h.nd List.nodup_range).2 fun i => ⟨fun hi => List.mem_range.2 (h.lt i hi), fun hi => ha i (List.mem_range.1 hi)⟩)
theorem keysB (n : Nat) (B : Bs) : (B.map (resB n B)).map (·.v) = B.map (·.1) := by rw [List.map_map]; rfl
theorem UOk.sorted {n : Nat} {B : Bs} {q : UQ} (h : UOk n B q) (ha : ∀ i < B.length, i ∈ q.1) (hk : (B.map (·.1)).Nodup) : sortB (q.1.map (fun i => resB n B (entB B i))) = sortB (B.map (resB n B)) ∧ ((q.1.map (fun i => resB n B (entB B i))).map (·.v)).Nodup := by
  obtain ⟨_, hp⟩ := h.all ha
  have hn : ((B.map (resB n B)).map (·.v)).Nodup := by rw [keysB]; exact hk
  exact ⟨eq_sortB ((sortB_perm _).trans hp) (sortB_le _) hn, (hp.map _).nodup_iff.2 hn⟩
theorem hpU_get0 (B : Bs) (p : Int) (seen : List Nat) (G : Heap) (R : Option (List Bd × Nat)) (X : Heap) : (hpU B p seen G R ++ X)[0]? = some (.obj (.mapo (mp Ty.enc B))) ∧ (hpU B p seen G R ++ X)[1]? = some (.row [.mapp 0, .int .i64 p]) ∧ (hpU B p seen G R ++ X)[2]? = some (.obj (.miter 0 (mp Ty.enc B).length seen)) := by
  cases R <;> exact ⟨rfl, rfl, rfl⟩
theorem hpU_set2 (B : Bs) (p : Int) (seen seen' : List Nat) (G : Heap) (R : Option (List Bd × Nat)) : (hpU B p seen G R).set 2 (.obj (.miter 0 (mp Ty.enc B).length seen')) = hpU B p seen' G R := by
  cases R <;> rfl
def lenU (G : Heap) : Option (List Bd × Nat) → Nat
  | none => 3 + G.length
  | some _ => 4 + G.length
theorem hpU_len (B : Bs) (p : Int) (seen : List Nat) (G : Heap) (R : Option (List Bd × Nat)) : (hpU B p seen G R).length = lenU G R := by
  cases R <;> simp [hpU, lenU] <;> omega
theorem hpU_row (B : Bs) (p : Int) (seen : List Nat) (G : Heap) (L : List Bd) (z : Nat) (X : Heap) : (hpU B p seen G (some (L, z)) ++ X)[3 + G.length]? = some (.row (rowU L z)) := by
  simp only [hpU, List.cons_append, List.append_assoc]
  rw [show 3 + G.length = G.length + 1 + 1 + 1 by omega, List.getElem?_cons_succ, List.getElem?_cons_succ, List.getElem?_cons_succ, List.getElem?_append_right (Nat.le_refl _), Nat.sub_self]; rfl
theorem hpU_setrow (B : Bs) (p : Int) (seen : List Nat) (G : Heap) (L L' : List Bd) (z z' : Nat) (X : Heap) : (hpU B p seen G (some (L, z)) ++ X).set (3 + G.length) (.row (rowU L' z')) = hpU B p seen G (some (L', z')) ++ X := by
  simp only [hpU, List.cons_append, List.append_assoc]
  rw [show 3 + G.length = G.length + 1 + 1 + 1 by omega, List.set_cons_succ, List.set_cons_succ, List.set_cons_succ, List.set_append_right _ _ (Nat.le_refl _), Nat.sub_self]; rfl
theorem hpU_first (B : Bs) (p : Int) (seen : List Nat) (G X : Heap) (L : List Bd) (z : Nat) : hpU B p seen G none ++ X ++ [.row (rowU L z)] = hpU B p seen (G ++ X) (some (L, z)) := by
  simp [hpU]
theorem hpU_next (B : Bs) (p : Int) (seen : List Nat) (G X : Heap) (L L' : List Bd) (z z' : Nat) : hpU B p seen G (some (L, z)) ++ X ++ [.row (rowU L' z')] = hpU B p seen (G ++ (.row (rowU L z) :: X)) (some (L', z')) := by
  simp [hpU]
theorem hbel_hpU (B : Bs) (p : Int) (seen : List Nat) {G : Heap} (hG : HBel 0 G) (R : Option (List Bd × Nat)) (m : Nat) (hm : 0 < m) : HBel m (hpU B p seen G R) := by
  have hg : HBel m G := fun o ho => (hG o ho).mono (Nat.zero_le _)
  have h0 : OBel m (.obj (.mapo (mp Ty.enc B))) := fun e he => by obtain ⟨x, _, rfl⟩ := List.mem_map.1 he; exact Ty.bel _ _
  have h1 : OBel m (.row [.mapp 0, .int .i64 p]) := by
    intro c hc
    simp at hc
    rcases hc with rfl | rfl
    · exact .mapp _ hm
    · exact .int _ _
  have h2 : OBel m (.obj (.miter 0 (mp Ty.enc B).length seen)) := hm
  match R with
  | none => exact HBel.cons h0 (HBel.cons h1 (HBel.cons h2 hg))
  | some (L, z) =>
    refine HBel.cons h0 (HBel.cons h1 (HBel.cons h2 fun o ho => ?_))
    rcases List.mem_append.1 ho with h | h
    · exact hg o h
    · rw [List.mem_singleton.1 h]; exact obel_rowU m L z
theorem bel_slotU (G : Heap) (R : Option (List Bd × Nat)) (m : Nat) (h : lenU G R ≤ m) : Bel m (slotU G R) := by
  match R with
  | none => exact bel_nil0 _
  | some (L, z) => exact .msl _ _ _ _ (by simp [lenU] at h; omega)
end Go.Abs
namespace Go.Abs
theorem lenU_ge (G : Heap) (R : Option (List Bd × Nat)) : 3 ≤ lenU G R := by cases R <;> simp [lenU] <;> omega
theorem hpU_rules (B : Bs) (p : Int) (G : Heap) (R : Option (List Bd × Nat)) :
    (∀ seen Y, (hpU B p seen G R ++ Y)[lenU G R]? = Y[0]?) ∧ (∀ seen Y k, (hpU B p seen G R ++ Y)[lenU G R + k]? = Y[k]?) ∧ (∀ seen Y o, (hpU B p seen G R ++ Y).set (lenU G R) o = hpU B p seen G R ++ Y.set 0 o) ∧ (∀ seen Y k o, (hpU B p seen G R ++ Y).set (lenU G R + k) o = hpU B p seen G R ++ Y.set k o) ∧
    (∀ seen, (hpU B p seen G R).length = lenU G R) ∧ (∀ seen Y, (hpU B p seen G R ++ Y)[0]? = some (.obj (.mapo (mp Ty.enc B)))) ∧ (∀ seen Y, (hpU B p seen G R ++ Y)[1]? = some (.row [.mapp 0, .int .i64 p])) ∧ (∀ seen Y, (hpU B p seen G R ++ Y)[2]? = some (.obj (.miter 0 (mp Ty.enc B).length seen))) := by
  refine ⟨fun s Y => ?_, fun s Y k => ?_, fun s Y o => ?_, fun s Y k o => ?_, fun s => hpU_len .., fun s Y => (hpU_get0 B p s G R Y).1, fun s Y => (hpU_get0 B p s G R Y).2.1, fun s Y => (hpU_get0 B p s G R Y).2.2⟩
  · rw [← hpU_len B p s]; exact get_app0 _ _
  · rw [← hpU_len B p s]; exact get_app _ _ _
  · rw [← hpU_len B p s]; exact set_app0 _ _ _
  · rw [← hpU_len B p s]; exact set_app _ _ _ _
end Go.Abs

namespace Go.Abs
theorem hpU_row0 (B : Bs) (p : Int) (seen : List Nat) (G : Heap) (L : List Bd) (z : Nat) : (hpU B p seen G (some (L, z)))[3 + G.length]? = some (.row (flatE (L.map Bd.enc) ++ (List.replicate z [PV.int .i64 0, .int .i64 0, .int .i64 0, .slice [] .full]).flatten)) := by
  have := hpU_row B p seen G L z []
  rw [List.append_nil] at this
  exact this
end Go.Abs
namespace Go.Abs
theorem val_wf {t : Ty} (h : valT t = 0) : wfT t = true := by
  unfold valT at h
  split at h
  · cases h
  · split at h
    · cases h
    · rename_i q; simpa using q
theorem good_of {e : Eq2} (h : bad e = false) : (wfT e.l = true ∧ e.l.size ≤ 100) ∧ (wfT e.r = true ∧ e.r.size ≤ 100) := by
  unfold bad at h
  rw [Bool.or_eq_false_iff] at h
  have h1 : valT e.l = 0 := by simpa using h.1
  have h2 : valT e.r = 0 := by simpa using h.2
  exact ⟨⟨val_wf h1, val_size h1⟩, ⟨val_wf h2, val_size h2⟩⟩
def EGood (eqs : List Eq2) : Prop := ∀ e ∈ eqs, (wfT e.l = true ∧ e.l.size ≤ 100) ∧ (wfT e.r = true ∧ e.r.size ≤ 100)
def ENE (eqs : List Eq2) : Prop := ∀ e ∈ eqs, NE e.l ∧ NE e.r
def Solves (θ : Int → Ty) (eqs : List Eq2) : Prop := ∀ e ∈ eqs, ap θ e.l = ap θ e.r
theorem solveF_mono : ∀ {n m : Nat} (eqs : List Eq2) {B : Bs} {r : Bool × Bs}, solveF n eqs B = some r → n ≤ m → solveF m eqs B = some r
  | n, m, [], B, r, h, _ => h
  | n, m, e :: es, B, r, h, hm => by
    simp only [solveF] at h ⊢
    obtain ⟨q, h1, h2⟩ := Option.bind_eq_some_iff.1 h
    rw [uniF_mono h1 hm, Option.bind_some]
    split
    · rename_i c; rw [if_pos c] at h2; exact solveF_mono es h2 hm
    · rename_i c; rw [if_neg c] at h2; exact h2
/-- What a run over equations says. -/
structure SSp (eqs : List Eq2) (B : Bs) (c : Bool) (B' : Bs) (s' : Int → Ty) : Prop where
  inv : Inv B' s'
  sub : Sub B B'
  ok : BOk B'
  len : c = true → B'.length ≤ B.length + eqs.length * 20000
  ne : ENE eqs → NEB B → NEB B'
  sol : ENE eqs → NEB B → c = true → Solves s' eqs
  mod : ENE eqs → NEB B → ∀ θ, Mod θ B → Solves θ eqs → (c = true → Mod θ B') ∧ ((∀ e ∈ eqs, (ap θ e.l).size ≤ 20000) → c = true)
theorem solve_spec : ∀ (n : Nat) (eqs : List Eq2), EGood eqs → ∀ B s c B', Inv B s → BOk B → solveF n eqs B = some (c, B') → ∃ s', SSp eqs B c B' s'
  | n, [], _, B, s, c, B', hi, hB, h => by
    cases h
    exact ⟨s, hi, .refl _, hB, fun _ => (by simp), fun _ h => h, fun _ _ _ e he => (by cases he), fun _ _ θ hm _ => ⟨fun _ => hm, fun _ => rfl⟩⟩
  | n, e :: es, hg, B, s, c, B', hi, hB, h => by
    simp only [solveF] at h
    obtain ⟨⟨c1, B1, p1⟩, h1, h2⟩ := Option.bind_eq_some_iff.1 h
    obtain ⟨⟨wl, zl⟩, ⟨wr, zr⟩⟩ := hg e (.head _)
    obtain ⟨s1, i1, i2, i3, i4⟩ := uniF_spec n e.l e.r wl wr B s 20000 c1 B1 p1 hi h1
    obtain ⟨l1, l2⟩ := uni_len n e.l e.r wl wr zl zr B s 20000 c1 B1 p1 hi hB h1
    cases c1 with
    | false =>
      rw [if_neg (by simp)] at h2
      cases h2
      refine ⟨s1, ⟨i1, i2, l1, fun h => (by cases h), fun hN hb => (i4 (hN e (.head _)) hb).1, fun _ _ h => (by cases h), fun hN hb θ hm hs => ⟨fun h => (by cases h), fun hz => ?_⟩⟩⟩
      have := ((i4 (hN e (.head _)) hb).2.2 θ hm (hs e (.head _))).2 (by have := hz e (.head _); dsimp only; omega)
      exact this.1
    | true =>
      rw [if_pos rfl] at h2
      obtain ⟨s2, j⟩ := solve_spec n es (fun x hx => hg x (.tail _ hx)) B1 s1 c B' i1 l1 h2
      have hp1 : 0 ≤ p1 := by
        have := uni_pos n e.l e.r (B, 20000) (true, (B1, p1)) h1 rfl (by show (0 : Int) ≤ 20000; omega)
        exact this
      refine ⟨s2, j.inv, i2.trans j.sub, j.ok, fun hc => ?_, fun hN hb => j.ne (fun x hx => hN x (.tail _ hx)) (i4 (hN e (.head _)) hb).1, fun hN hb hc x hx => ?_, fun hN hb θ hm hs => ?_⟩
      · have := j.len hc
        rw [List.length_cons, Nat.succ_mul]; omega
      · rcases List.mem_cons.1 hx with rfl | hx
        · have := (i4 (hN x (.head _)) hb).2.1 rfl
          have hm1 : Mod s2 B1 := j.inv.mod.sub j.sub
          rw [← hm1.app i1 x.l wl, ← hm1.app i1 x.r wr, this]
        · exact j.sol (fun x hx => hN x (.tail _ hx)) (i4 (hN e (.head _)) hb).1 hc x hx
      · have m1 := ((i4 (hN e (.head _)) hb).2.2 θ hm (hs e (.head _))).1 rfl
        obtain ⟨k1, k2⟩ := j.mod (fun x hx => hN x (.tail _ hx)) (i4 (hN e (.head _)) hb).1 θ m1 fun x hx => hs x (.tail _ hx)
        exact ⟨k1, fun hz => k2 fun x hx => hz x (.tail _ hx)⟩
where
  uni_pos : ∀ (n : Nat) (a b : Ty) (s : Bs × Int) (r : Bool × (Bs × Int)), uniF n a b s = some r → r.1 = true → 0 ≤ s.2 → 0 ≤ r.2.2
    | 0, a, b, s, r, h, _, _ => by cases h
    | n + 1, a0, b0, s, r, h, hc, hp => by
      simp only [uniF] at h
      obtain ⟨a, e1, h⟩ := Option.bind_eq_some_iff.1 h
      obtain ⟨b, e2, h⟩ := Option.bind_eq_some_iff.1 h
      split at h
      · cases h; cases hc
      · split at h
        · cases h; simp; omega
        · split at h
          · cases h; simp; omega
          · split at h
            · obtain ⟨q, hq, rfl⟩ := Option.map_eq_some_iff.1 h; simp; omega
            · split at h
              · obtain ⟨q, hq, rfl⟩ := Option.map_eq_some_iff.1 h; simp; omega
              · split at h
                · cases h; cases hc
                · have key : ∀ (xs ys : List Ty) (s : Bs × Int) (r : Bool × (Bs × Int)), uniL (uniF n) xs ys s = some r → r.1 = true → 0 ≤ s.2 → 0 ≤ r.2.2 := by
                    intro xs
                    induction xs with
                    | nil => intro ys s r h _ hp; cases ys <;> cases h <;> exact hp
                    | cons x xs ih =>
                      intro ys s r h hc hp
                      cases ys with
                      | nil => cases h; exact hp
                      | cons y ys =>
                        simp only [uniL] at h
                        obtain ⟨q, h1, h2⟩ := Option.bind_eq_some_iff.1 h
                        split at h2
                        · rename_i hq; exact ih ys _ _ h2 hc (uni_pos n x y s q h1 hq hp)
                        · cases h2; cases hc
                  exact key _ _ _ _ h hc (by simp; omega)
theorem solve_ex : ∀ (eqs : List Eq2), EGood eqs → ∀ B s, Inv B s → BOk B → ∃ n r, solveF n eqs B = some r
  | [], _, B, s, _, _ => ⟨0, _, rfl⟩
  | e :: es, hg, B, s, hi, hB => by
    obtain ⟨⟨wl, zl⟩, ⟨wr, zr⟩⟩ := hg e (.head _)
    obtain ⟨n1, ⟨c1, B1, p1⟩, h1⟩ := uniF_ex 20000 e.l e.r wl wr B s 20000 hi (by omega)
    obtain ⟨s1, i1, -⟩ := uniF_spec n1 e.l e.r wl wr B s 20000 c1 B1 p1 hi h1
    obtain ⟨l1, -⟩ := uni_len n1 e.l e.r wl wr zl zr B s 20000 c1 B1 p1 hi hB h1
    obtain ⟨n2, r2, h2⟩ := solve_ex es (fun x hx => hg x (.tail _ hx)) B1 s1 i1 l1
    refine ⟨max n1 n2, if c1 = true then r2 else (false, B1), ?_⟩
    simp only [solveF]
    rw [uniF_mono h1 (Nat.le_max_left _ _), Option.bind_some]
    split
    · exact solveF_mono es h2 (Nat.le_max_right _ _)
    · rfl
theorem inv_nil : Inv [] vr := ⟨fun _ _ => rfl, nofun, nofun, nofun, nofun⟩
theorem bok_nil : BOk [] := ⟨.nil, nofun⟩
end Go.Abs
