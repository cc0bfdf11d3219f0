/- Part 5 of a proof of the law WorkspaceReference: Go data as trees, the walks of the functions that the law reaches, the plain laws. -/
import Derived.Test.YtciigdplioadeaaGreatDoorGDWorkspaceReference
set_option linter.unusedVariables false
set_option linter.unusedSimpArgs false
namespace Go.Abs
def abuildSK (i : TI) (T : Nat → PV) : List PV → List (Nat × Operand) → Option (List PV)
  | es, [] => some es
  | es, (k, x) :: rest => if (aev T x).fits i = true ∧ k < es.length then abuildSK i T (es.set k (aev T x)) rest else none
theorem abuildSK_congr {i : TI} {T T' : Slots} : ∀ (ps : List (Nat × Operand)) (cs : List PV), (∀ x ∈ ps, aev T' x.2 = aev T x.2) → abuildSK i T' cs ps = abuildSK i T cs ps
  | [], cs, _ => rfl
  | (f, x) :: ps, cs, h => by
    unfold abuildSK
    rw [h (f, x) (by simp)]
    split
    · exact abuildSK_congr ps _ (fun y hy => h y (by simp [hy]))
    · rfl
section
variable {P : Program} {N nb : Nat} {ops : Array Oper} {Q : Post} {E : Env} {a : Act} {T : Slots}
section
variable (ht : TRel E.view N a T)
include ht
theorem sound_fillSK (i : TI) : ∀ (ps : List (Nat × Operand)) (arr : Array Value) (es es' : List PV), RL E.view arr (flatE es) → (∀ e ∈ es, e.cells.length = i.sz) → ps.all (fun x => okOpnd N x.2) = true → abuildSK i T es ps = some es' →
    ∃ arr', Instr.fill (fun k => some (k * i.sz, i.sz)) arr (ps.map fun (i, x) => (i, a.eval x)) = some arr' ∧ RL E.view arr' (flatE es') ∧ (∀ e ∈ es', e.cells.length = i.sz) ∧ es'.length = es.length
  | [], arr, es, es', h, hs, _, hb => by cases hb; exact ⟨arr, rfl, h, hs, rfl⟩
  | (k, x) :: rest, arr, es, es', h, hs, hok, hb => by
    simp only [List.all_cons, Bool.and_eq_true] at hok
    unfold abuildSK at hb
    split at hb
    · rename_i hc
      obtain ⟨hc1, hk⟩ := hc
      obtain ⟨hc2, hc3⟩ := PV.fits_spec hc1
      have hr := vrel_eval ht x hok.1
      obtain ⟨c1, c2⟩ := hr.not_junk_cells hc3
      have c3 : (a.eval x).cells.size = i.sz := by rw [c1, hc2]
      have hdl : (aev T x).cells.length = i.sz := by rw [hc2]
      have h' := foldl_splice (V := E.view) (a.eval x).cells.toList (aev T x).cells (k * i.sz) 0 arr (flatE es) h (by simp [c1]) (fun j hj => by
        have := c2 j hj
        rw [Array.getD_eq_getD_getElem?] at this
        rw [List.getD_eq_getElem?_getD, Array.getElem?_toList]
        exact this)
      rw [Nat.add_zero, splice_flatE es hs k hk _ hdl] at h'
      have hs' : ∀ e ∈ es.set k (aev T x), e.cells.length = i.sz := by
        intro e he
        rcases List.mem_or_eq_of_mem_set he with he | rfl
        · exact hs e he
        · exact hdl
      obtain ⟨arr', e1, e2, e3, e4⟩ := sound_fillSK i rest _ _ es' h' hs' hok.2 hb
      refine ⟨arr', ?_, e2, e3, by rw [e4]; simp⟩
      simp only [List.map_cons, Instr.fill]
      have hfl := flatE_length es hs
      have hks : (k + 1) * i.sz ≤ es.length * i.sz := Nat.mul_le_mul_right _ hk
      rw [Nat.succ_mul] at hks
      rw [if_neg]
      · rw [← e1]
        congr 1
        rw [← Array.foldl_toList, Array.toList_zipIdx]
      · rw [c3, h.1, hfl]; simp; omega
    · cases hb
include ht in
end
end
section
variable {P : Program} {N nb : Nat} {ops : Array Oper} {Q : Post}
theorem sound_buildSMK {E : Env} {a : Act} {T : Slots} (ht : TRel E.view N a T) (ho : E.Ok) {t : TypeId} {n : Nat} {ps : Array (Nat × Operand)} (hok : ps.toList.all (fun x => okOpnd N x.2) = true) {ei : TypeId × TI} (hf : telem P t = some ei) {z : PV} (hz : tzero P ei.1 = some z)
    (hfit : z.fits ei.2 = true) (hs0 : 0 < ei.2.sz) (hn : 0 < n) (hsz : n * ei.2.sz ≤ 2 ^ 24) {es : List PV} (hb : abuildSK ei.2 T (List.replicate n z) ps.toList = some es) {id : Nat} (hid : E.H[id]? = some .unborn) :
    ∃ E' val, (Instr.buildSlice t n (ps.map fun (i, x) => (i, a.eval x))).run P E.w = .ok val E'.w ∧ E.le E' ∧ E'.Ok ∧ E'.H = E.H.set id (.row (flatE es)) ∧ VRel E'.view val (.msl id 0 n n) := by
  obtain ⟨e, i⟩ := ei
  obtain ⟨h1, h2⟩ := telem_some hf
  obtain ⟨d, f, h3, h4, rfl⟩ := tinfo_some h2
  obtain ⟨f', v, h5, h6, rfl⟩ := tzero_some hz
  simp only at hfit hs0 hsz hb h5
  rw [h4] at h5; cases h5
  obtain ⟨hc1, hc2⟩ := PV.fits_spec hfit
  simp only at hc1
  obtain ⟨c1, c2⟩ := (vrel_ofConst E.view v).not_junk_cells hc2
  have hvs : v.cells.size = f.size := c1.trans hc1
  have hrl := rl_zero (V := E.view) v hc2 n
  have hes : ∀ e ∈ List.replicate n (ofConst v), e.cells.length = f.size := by
    intro e he; rw [(List.mem_replicate.1 he).2, hc1]
  obtain ⟨arr', e1, e2, e3, e4⟩ := sound_fillSK ht ⟨isAggD d, f.size, f.bytes⟩ ps.toList _ _ es hrl hes hok hb
  rw [List.length_replicate] at e4
  have hle := Env.newRow_le ho hid arr' e (flatE es)
  have hlen := lG hid
  refine ⟨E.newRow id arr' e (flatE es), .slice (some ⟨E.w.heap.size, 0, none⟩) n n, ?_, hle, Env.Ok.newRow ho hid arr' e (flatE es) e2.1 e2.2, rfl, ?_⟩
  · simp only [Instr.buildSlice, Sem.run_bind, run_under h1, run_size h4, Result.andThen_ok]
    have hlt : ¬ n * f.size > 2 ^ 24 := by omega
    simp only [hlt, if_false, Sem.run_pure, Result.andThen_ok, Sem.run_ite, Sem.run_bind]
    have hn0 : ¬ n * f.size = 0 := by have := Nat.mul_pos hn hs0; omega
    simp only [if_neg hn0, run_zero h4 h6, Result.andThen_ok, Sem.run_bind, Sem.run_pure]
    rw [Array.toList_map]
    rw [hvs] at e1
    simp only [hvs, e1, newRow, Sem.run_bind, run_newObj, Result.andThen_ok, Sem.run_pure]
    rfl
  · have hm : n ≤ maxLen := by
      have : n ≤ n * f.size := Nat.le_mul_of_pos_right _ hs0
      unfold maxLen; omega
    have := VRel.msl (V := (E.newRow id arr' e (flatE es)).view) id 0 n n ⟨.row _, by simp only [Env.newRow]; exact List.getElem?_set_self hlen, by simp⟩ hm
    simpa [Env.view, Env.newRow] using this
theorem dops_bsK {bm : List Nat} {k : Nat} {o : Oper} {l : List Oper} {prev : Prev} {T : Slots} {H : Heap} (id : Nat) {t : TypeId} {n : Nat} {ps : Array (Nat × Operand)} {ei : TypeId × TI} {z : PV} {es : List PV} (hbm : bmasks ops.toList = bm) (hid : H[id]? = some .unborn) (hw : awanted ops.toList T N o = some true)
    (hop : o.op = .buildSlice t n ps) (hok : ps.toList.all (fun x => okOpnd N x.2) = true) (hf : telem P t = some ei) (hz : tzero P ei.1 = some z)
    (hfit : z.fits ei.2 = true) (hs0 : 0 < ei.2.sz) (hn : 0 < n) (hsz : n * ei.2.sz ≤ 2 ^ 24) (hb : abuildSK ei.2 T (List.replicate n z) ps.toList = some es) (hap : hapB (bm.getD k 0) prev [id] [id] = true)
    (h : DOps P N ops Q (k + 1) l (prev ++ [(k, [id], [id])]) (updO T o.dst (.msl id 0 n n)) (H.set id (.row (flatE es)))) : DOps P N ops Q k (o :: l) prev T H := by
  refine ⟨_, [(id, .row (flatE es))], [id], ?_, by simp, hapB_spec (eff := [(id, .row (flatE es))]) (by rw [hbm]; exact hap), h⟩
  intro T' H' hT hH hlen E a ho hE ht
  refine .inr ⟨awanted_sound ht (wanted_agree hT hw), fun next Q' hn' => ?_⟩
  have hb' : abuildSK ei.2 T' (List.replicate n z) ps.toList = some es := by
    rw [abuildSK_congr ps.toList _ (fun x hx => aev_agree hT x.2 (by rw [hop]; simp only [Op.operands]; exact List.mem_map.2 ⟨x, hx, rfl⟩))]
    exact hb
  obtain ⟨E', val, e1, e2, e3, e4, e5⟩ := sound_buildSMK ht ho hok hf hz hfit hs0 hn hsz hb' (id := id) (by rw [hE, hH id (by simp)]; exact hid)
  have := hn' E' val e2 e3 (by rw [e4, hE]; rfl) e5
  unfold Oper.wp execOp
  rw [hop]
  simp only [Sem.run_bind, e1, Result.andThen_ok, Sem.run_pure]
  exact this
end
section
variable {P : Program} {N nb : Nat} {ops : Array Oper} {Q : Post}
theorem dops_val {k : Nat} {o : Oper} {l : List Oper} {prev : Prev} {T : Slots} {H : Heap} {v : PV} (hw : awanted ops.toList T N o = some true)
    (hv : ∀ (E : Env) (a : Act), E.Ok → (∀ x ∈ o.op.operands.toList, okOpnd N x = true → VRel E.view (a.eval x) (aev T x)) → ∃ val, (execOp a.eval o).run P E.w = .ok (.value val) E.w ∧ VRel E.view val v)
    (h : DOps P N ops Q (k + 1) l (prev ++ [(k, [], [])]) (updO T o.dst v) H) : DOps P N ops Q k (o :: l) prev T H := by
  refine ⟨v, [], [], ?_, by simp, fun p hp => .inr ⟨by simp, by simp⟩, h⟩
  intro T' H' hT hHd hlen E a ho hE ht
  refine .inr ⟨awanted_sound ht (wanted_agree hT hw), fun next Q hnx => ?_⟩
  obtain ⟨val, h1, h2⟩ := hv E a ho fun x hx hok => by
    have := vrel_eval ht x hok
    rwa [aev_agree hT x hx] at this
  unfold Oper.wp
  rw [h1]
  exact hnx E val (.refl E) ho hE h2
theorem dops_sliceM {kk0 : Nat} {o : Oper} {l : List Oper} {prev : Prev} {T : Slots} {H : Heap} {t : TypeId} {x y : Operand} {ei : TypeId × TI} {id n c : Nat} {kk : IntKind} {k : Nat} (hw : awanted ops.toList T N o = some true)
    (hop : o.op = .slice t x none (some y) none) (okx : okOpnd N x = true) (oky : okOpnd N y = true) (hte : telem P t = some ei) (hx : aev T x = .msl id 0 n c) (hy : aev T y = .int kk k) (hk : k ≤ c)
    (h : DOps P N ops Q (kk0 + 1) l (prev ++ [(kk0, [], [])]) (updO T o.dst (.msl id 0 k c)) H) : DOps P N ops Q kk0 (o :: l) prev T H := by
  refine dops_val hw (fun E a ho hvs => ?_) h
  obtain ⟨e, i⟩ := ei
  obtain ⟨hu, hti⟩ := telem_some hte
  obtain ⟨d, f, h3, h4, rfl⟩ := tinfo_some hti
  have hvx := hvs x (by rw [hop]; simp [Op.operands]) okx
  have hvy := hvs y (by rw [hop]; simp [Op.operands]) oky
  rw [hx] at hvx
  rw [hy] at hvy
  have vy := hvy.int_inv
  obtain ⟨vx, hcm, hbn⟩ : a.eval x = .slice (some ⟨E.ρ id, 0, none⟩) n c ∧ c ≤ maxLen ∧ E.view.born id := by
    generalize a.eval x = w at hvx
    cases hvx with
    | msl _ _ _ _ hbn hm => exact ⟨rfl, hm, hbn⟩
  refine ⟨.slice (some ⟨E.ρ id, 0, none⟩) k c, ?_, .msl id 0 k c hbn hcm⟩
  have hb : (Instr.sliceBound (.int kk (k : Int)) c .sliceAcap).run P E.w = .ok k E.w := by
    have hb0 : (0 : Int) ≤ (k : Int) ∧ (k : Int) ≤ c := ⟨by omega, by omega⟩
    simp only [Instr.sliceBound, asIntOf, Sem.run_bind, Sem.run_pure, Result.andThen_ok, if_pos hb0, Sem.run_ite, tN]
  unfold execOp
  rw [hop]
  have e1 : (if c = 0 then (some (⟨E.ρ id, 0, none⟩ : Addr)) else Option.map (fun z : Addr => z.add (0 * f.size)) (some ⟨E.ρ id, 0, none⟩)) = some ⟨E.ρ id, 0, none⟩ := by
    split
    · rfl
    · simp [Nat.zero_mul, add_zero']
  simp only [Sem.run_bind, Instr.sliceAt, run_under hu, Result.andThen_ok, Instr.slice, Instr.sliceBounds, Option.map_none, Option.map_some, Option.isSome_none, Bool.false_eq_true, if_false, vx, vy, if_true, hb, Sem.run_pure, run_size h4, Nat.sub_zero]
  rw [show (if c = 0 then (some (⟨E.ρ id, 0, none⟩ : Addr)) else some ((⟨E.ρ id, 0, none⟩ : Addr).add (0 * f.size))) = some ⟨E.ρ id, 0, none⟩ from e1]
end
def Env.retell (E : Env) (j : Nat) (cs : List PV) : Env := { E with H := E.H.set j (.row cs) }
section
variable {E : Env} (ho : E.Ok) {j : Nat} {cs cs' : List PV} (hj : E.H[j]? = some (.row cs))
include ho hj
theorem Env.retell_get {x : Nat} (hx : x ≠ j) : (E.retell j cs').H[x]? = E.H[x]? := by have _ := ho; have _ := hj; simp only [Env.retell]; rw [List.getElem?_set_ne (Ne.symm hx)]
theorem Env.retell_at : (E.retell j cs').H[j]? = some (.row cs') := by have _ := ho; simp only [Env.retell]; rw [List.getElem?_set_self (lG hj)]
theorem Env.retell_row {x : Nat} {r : List PV} (h : (E.retell j cs').H[x]? = some (.row r)) : ∃ r', E.H[x]? = some (.row r') := by
  by_cases e : x = j
  · subst e; exact ⟨cs, hj⟩
  · rw [Env.retell_get ho hj e] at h; exact ⟨r, h⟩
theorem Env.retell_other {x : Nat} {o : AObj} (hn : ∀ r, o ≠ .row r) (h : (E.retell j cs').H[x]? = some o) : x ≠ j ∧ E.H[x]? = some o := by
  by_cases e : x = j
  · subst e; rw [Env.retell_at ho hj] at h; injection h with h; exact absurd h.symm (hn _)
  · rw [Env.retell_get ho hj e] at h; exact ⟨e, h⟩
theorem Env.retell_view : E.view.le (E.retell j cs').view := by
  refine ⟨fun a v h => h, fun x ⟨o, h1, h2⟩ => ?_, fun x _ => rfl, fun x t' _ ht => ⟨t', ?_, .inl rfl⟩⟩
  · by_cases e : x = j
    · subst e; exact ⟨_, Env.retell_at ho hj, by simp⟩
    · exact ⟨o, by rw [Env.retell_get ho hj e]; exact h1, h2⟩
  · simp only [Env.view] at ht ⊢
    by_cases e : x = j
    · subst e; rw [Env.retell_at ho hj] at ht; simp at ht
    · rw [Env.retell_get ho hj e] at ht; exact ht
theorem Env.retell_le : E.le (E.retell j cs') := by
  refine ⟨rfl, rfl, rfl, Nat.le_refl _, fun b hb h1 => ⟨rfl, rfl⟩, Env.retell_view ho hj, fun b hb => ?_⟩
  rintro (⟨x, r, h1, h2⟩ | ⟨x, n, sz, h1, h2⟩ | ⟨x, k, h1, h2⟩)
  · obtain ⟨r', h3⟩ := Env.retell_row ho hj h1; exact .inl ⟨x, r', h3, h2⟩
  · exact .inr (.inl ⟨x, n, sz, (Env.retell_other ho hj (by simp) h1).2, h2⟩)
  · exact .inr (.inr ⟨x, k, (Env.retell_other ho hj (by simp) h1).2, h2⟩)
theorem Env.Ok.retell (hl : cs'.length = cs.length) (hr : ∀ i (h1 : i < cs.length) (h2 : i < cs'.length) v, VRel E.view v cs[i] → VRel E.view v cs'[i]) : (E.retell j cs').Ok := by
  have hv := Env.retell_view (cs' := cs') ho hj
  refine ⟨?_, ?_, ?_, ?_, ?_, ⟨?_, ?_⟩⟩
  · intro x r hx
    by_cases e : x = j
    · subst e
      rw [Env.retell_at ho hj] at hx
      cases hx
      obtain ⟨arr, el, h1, h2, h3, h4⟩ := ho.rows x cs hj
      exact ⟨arr, el, h1, by rw [h2, hl], fun i hi => (hr i (by omega) hi _ (h3 i (by omega))).mono hv, h4⟩
    · rw [Env.retell_get ho hj e] at hx
      obtain ⟨arr, el, h1, h2, h3, h4⟩ := ho.rows x r hx
      exact ⟨arr, el, h1, h2, fun i hi => (h3 i hi).mono hv, h4⟩
  · intro x n sz b hx hb
    exact ho.bufs x n sz b (Env.retell_other ho hj (by simp) hx).2 hb
  · intro x x' r r' hx hx' e
    obtain ⟨_, h1⟩ := Env.retell_row ho hj hx
    obtain ⟨_, h2⟩ := Env.retell_row ho hj hx'
    exact ho.injr x x' _ _ h1 h2 e
  · intro x x' n sz n' sz' b hx hx' hb hb'
    exact ho.injb x x' n sz n' sz' b (Env.retell_other ho hj (by simp) hx).2 (Env.retell_other ho hj (by simp) hx').2 hb hb'
  · intro x b vs hx i hi
    exact hv.cell _ _ (ho.globs x b vs (Env.retell_other ho hj (by simp) hx).2 i hi)
  · intro x k hx
    obtain ⟨⟨o, h1, h2⟩, h3⟩ := ho.objs.at_ x k (Env.retell_other ho hj (by simp) hx).2
    exact ⟨⟨o, h1, h2.mono hv⟩, h3⟩
  · intro x x' k k' hx hx' e
    exact ho.objs.inj x x' k k' (Env.retell_other ho hj (by simp) hx).2 (Env.retell_other ho hj (by simp) hx').2 e
end
section
variable {P : Program} {N nb : Nat} {Q : Post}
theorem awp_frz1R {c : Code} {T : Slots} {H : Heap} (id k sz j : Nat) (es : List PV) {cs cs' : List PV} (hrow : H[id]? = some (.row (flatE es))) (hk : k ≤ es.length) (hes : ∀ e ∈ es, e.cells.length = sz) (hj : H[j]? = some (.row cs)) (hji : j ≠ id)
    (hl : cs'.length = cs.length) (hq : ∀ i (h1 : i < cs.length) (h2 : i < cs'.length), Fz id k es cs[i] cs'[i])
    (h : AWP P N nb c Q T ((H.set id dead).set j (.row cs'))) : AWP P N nb c Q T H := by
  intro E a ho hH ht
  subst hH
  have hle := Env.frz1_le ho hrow
  have ho1 := Env.Ok.frz1 ho hrow
  have hj1 : (E.frz1 id).H[j]? = some (.row cs) := by rw [Env.frz1_get ho hrow hji]; exact hj
  obtain ⟨arr, el, a1, a2, a3, a4⟩ := ho.rows j cs hj
  have ho2 : ((E.frz1 id).retell j cs').Ok := by
    have hv := Env.retell_view (cs' := cs') ho1 hj1
    refine ⟨?_, ?_, ?_, ?_, ?_, ⟨?_, ?_⟩⟩
    · intro x r hx
      by_cases e : x = j
      · subst e
        rw [Env.retell_at ho1 hj1] at hx
        cases hx
        obtain ⟨arr', el', h1, h2, h3, h4⟩ := ho1.rows x cs hj1
        have ea : arr' = arr := by
          have hh : E.w.heap[E.ρ x]? = some (.cells arr' el' (0, 0)) := h1
          rw [a1] at hh; injection hh with hh; injection hh with hh; exact hh.symm
        subst ea
        exact ⟨arr', el', h1, by rw [h2, hl], fun i hi => ((hq i (by omega) hi).rel ho hrow hk hes (a3 i (by omega))).mono hv, h4⟩
      · rw [Env.retell_get ho1 hj1 e] at hx
        obtain ⟨arr, el, h1, h2, h3, h4⟩ := ho1.rows x r hx
        exact ⟨arr, el, h1, h2, fun i hi => (h3 i hi).mono hv, h4⟩
    · intro x n sz b hx hb
      exact ho1.bufs x n sz b (Env.retell_other ho1 hj1 (by simp) hx).2 hb
    · intro x x' r r' hx hx' e
      obtain ⟨_, h1⟩ := Env.retell_row ho1 hj1 hx
      obtain ⟨_, h2⟩ := Env.retell_row ho1 hj1 hx'
      exact ho1.injr x x' _ _ h1 h2 e
    · intro x x' n sz n' sz' b hx hx' hb hb'
      exact ho1.injb x x' n sz n' sz' b (Env.retell_other ho1 hj1 (by simp) hx).2 (Env.retell_other ho1 hj1 (by simp) hx').2 hb hb'
    · intro x b vs hx i hi
      exact hv.cell _ _ (ho1.globs x b vs (Env.retell_other ho1 hj1 (by simp) hx).2 i hi)
    · intro x k hx
      obtain ⟨⟨o, h1, h2⟩, h3⟩ := ho1.objs.at_ x k (Env.retell_other ho1 hj1 (by simp) hx).2
      exact ⟨⟨o, h1, h2.mono hv⟩, h3⟩
    · intro x x' k k' hx hx' e
      exact ho1.objs.inj x x' k k' (Env.retell_other ho1 hj1 (by simp) hx).2 (Env.retell_other ho1 hj1 (by simp) hx').2 e
  have hle2 := hle.trans (Env.retell_le (cs' := cs') ho1 hj1)
  exact wp_mono (h ((E.frz1 id).retell j cs') a ho2 rfl (ht.mono hle2.view)) fun e a w hl => lift_mono (hle2.leN nb) (fun _ _ _ q => q) hl
end
section
variable {P : Program} {N nb : Nat} {ops : Array Oper} {Q : Post}
theorem aops_bsK {o : Oper} {l : List Oper} {T : Slots} {H : Heap} {t : TypeId} {n : Nat} {ps : Array (Nat × Operand)} {ei : TypeId × TI} {z : PV} {es : List PV} (hw : awanted ops.toList T N o = some true)
    (hop : o.op = .buildSlice t n ps) (hok : ps.toList.all (fun x => okOpnd N x.2) = true) (hf : telem P t = some ei) (hz : tzero P ei.1 = some z)
    (hfit : z.fits ei.2 = true) (hs0 : 0 < ei.2.sz) (hn : 0 < n) (hsz : n * ei.2.sz ≤ 2 ^ 24) (hb : abuildSK ei.2 T (List.replicate n z) ps.toList = some es)
    (h : AOps P N nb ops Q l (updO T o.dst (.msl H.length 0 n n)) (H ++ [.row (flatE es)])) : AOps P N nb ops Q (o :: l) T H := by
  refine aops_done hw (fun E a ho hH ht => ?_) h
  have hun : E.ext.H[E.H.length]? = some .unborn := by simp [Env.ext]
  obtain ⟨E', val, e1, e2, e3, e4, e5⟩ := sound_buildSMK (ht.mono E.ext_view_le) ho.ext hok hf hz hfit hs0 hn hsz hb hun
  refine ⟨E', val, .inl ?_, E.ext_le.trans e2, e3, ?_, by rw [← hH]; exact e5⟩
  · have e1' : (Instr.buildSlice t n (ps.map fun (i, x) => (i, a.eval x))).run P E.w = .ok val E'.w := e1
    unfold execOp
    rw [hop]
    simp only [Sem.run_bind, e1', Result.andThen_ok, Sem.run_pure]
  · rw [e4]; simp only [Env.ext]
    rw [List.set_append_right _ _ (Nat.le_refl _)]; simp [hH]
end
end Go.Abs
set_option maxRecDepth 4000
namespace Go.Abs
open Go.Proofs
def lookM (toks : List Tk) (s : PS) : Option PS := bumpM toks ⟨s.pos, [⟨0, []⟩], false⟩
section
variable {toks : List Tk} {ip b : Nat} {s : PS} {F F0 : List Nat} {H0 H H' L : Heap} {o : AObj}
theorem look_keep0 (p : PSt toks ip s F H) (f : Fr F0 F H0 H) (g : Fr [] [] H H') : ∃ F', (∀ x, x ∉ F → x ∉ F') ∧ PSt toks ip s F' H' ∧ Fr F0 F' H0 H' :=
  ⟨F, fun _ h => h, p.fr fun i hi => g.same i (p.lt i hi) (by simp), Nat.le_trans f.len g.len, fun i h1 h2 => (g.same i (Nat.lt_of_lt_of_le h1 f.len) (by simp)).trans (f.same i h1 h2), f.ids⟩
theorem look_keep (p : PSt toks ip s F H) (f : Fr F0 F H0 H) (g : Fr [] [] (H ++ L) H') : ∃ F', (∀ x, x ∉ F → x ∉ F') ∧ PSt toks ip s F' H' ∧ Fr F0 F' H0 H' := look_keep0 (p.app L) (f.app L) g
theorem look_keepq0 (p : PSt toks ip s F H) (g : Fr [] [] H H') : PSt toks ip s F H' := p.fr fun i hi => g.same i (p.lt i hi) (by simp)
theorem look_get {F' : List Nat} (g : Fr [] [] H H') (h : H[b]? = some o) (hn : b ∉ F) (nf : ∀ x, x ∉ F → x ∉ F') : H'[b]? = some o ∧ b ∉ F' := ⟨(g.get h (by simp)).1, nf _ hn⟩
theorem envL_hd {l : List (Nat × AObj)} (h : EnvL ((b, o) :: l) s F H) : H[b]? = some o ∧ b ∉ F := h.1
theorem bind_id {α : Type} {m : Option α} {x : α} (h : m = some x) : (m.bind fun s => some s) = some x := by rw [h]; rfl
end
def loopE (c : PS → Bool) (e b : PS → Option PS) : Nat → PS → Option PS
  | 0, _ => none
  | n + 1, s => if c s = true then ((e s).bind b).bind (loopE c e b n) else e s
def atPatT (t : Tk) : Bool := (decide (t.kind = 103) || decide (t.kind = 105)) || atT t [[116, 114, 117, 101], [102, 97, 108, 115, 101], [109, 117, 116]]
def opsL : Nat → List (List UInt8)
  | 0 => [[124, 124]]
  | 1 => [[38, 38]]
  | 2 => [[61, 61], [60]]
  | 3 => [[43], [45]]
  | 4 => [[42], [47]]
  | _ => []
theorem opsL_le (l : Nat) : (opsL l).length ≤ maxLen := by
  have : (opsL l).length ≤ 2 := by unfold opsL; split <;> simp
  exact Nat.le_trans this (by decide)
def itemsL : List (List UInt8) := [[117, 115, 101], [102, 110], [115, 116, 114, 117, 99, 116], [101, 110, 117, 109], [116, 114, 97, 105, 116], [105, 109, 112, 108], [99, 111, 110, 115, 116], [109, 97, 99, 114, 111]]
def itemKindI (t : List UInt8) : Int := if idxI (fun x => decide (t = x)) itemsL < 0 then 0 else 2 + idxI (fun x => decide (t = x)) itemsL
end Go.Abs
namespace Go.Abs
open Go.Proofs
theorem binops_c (l : Nat) (hl : l < 5) {H : Heap} : ACalls Tryz.prog 155 [.int .i64 (l : Nat)] H fun r' H' => r' = .slice ((opsL l).map PV.str) .none ∧ H' = H := by
 refine keeps_of (N := 12) Tryz.func155 rfl rfl (by simp) (bel_strs0 _ _) fun hb' => ?_
 repeat refine wS ?_
 refine eE (by simp only [kA, seval, vint, qC] <;> with_reducible rfl) (by decide) ?_
 obtain rfl | rfl | rfl | rfl | rfl : l = 0 ∨ l = 1 ∨ l = 2 ∨ l = 3 ∨ l = 4 := by omega
 ·-- case
  repeat refine wS ?_
  refine eE (by simp only [kA, seval, y9, y56, y185, vint, qC] <;> with_reducible rfl) (by decide) ?_
  repeat refine wS ?_
  refine wT ⟨.inr rfl, _, _, rfl, ?_, (by first | exact (List.append_nil _).symm | rfl)⟩
  simp only [jN, seval, vint, qC]
  try rfl
 ·-- case
  repeat refine wS ?_
  refine eE (by simp only [kA, seval, y9, y56, y185, vint, qC] <;> with_reducible rfl) (by decide) ?_
  repeat refine wS ?_
  refine wT ⟨.inr rfl, _, _, rfl, ?_, (by first | exact (List.append_nil _).symm | rfl)⟩
  simp only [jN, seval, vint, qC]
  try rfl
 ·-- case
  repeat refine wS ?_
  refine eE (by simp only [kA, seval, y9, y56, y185, vint, qC] <;> with_reducible rfl) (by decide) ?_
  repeat refine wS ?_
  refine wT ⟨.inr rfl, _, _, rfl, ?_, (by first | exact (List.append_nil _).symm | rfl)⟩
  simp only [jN, seval, vint, qC]
  try rfl
 ·-- case
  repeat refine wS ?_
  refine eE (by simp only [kA, seval, y9, y56, y185, vint, qC] <;> with_reducible rfl) (by decide) ?_
  repeat refine wS ?_
  refine wT ⟨.inr rfl, _, _, rfl, ?_, (by first | exact (List.append_nil _).symm | rfl)⟩
  simp only [jN, seval, vint, qC]
  try rfl
 ·-- case
  repeat refine wS ?_
  refine eE (by simp only [kA, seval, y9, y56, y185, vint, qC] <;> with_reducible rfl) (by decide) ?_
  repeat refine wS ?_
  refine wT ⟨.inr rfl, _, _, rfl, ?_, (by first | exact (List.append_nil _).symm | rfl)⟩
  simp only [jN, seval, vint, qC]
  try rfl
theorem items_f : Lib.fields [117, 115, 101, 32, 102, 110, 32, 115, 116, 114, 117, 99, 116, 32, 101, 110, 117, 109, 32, 116, 114, 97, 105, 116, 32, 105, 109, 112, 108, 32, 99, 111, 110, 115, 116, 32, 109, 97, 99, 114, 111] = itemsL := by kernel_rfl
theorem itemKind_c {H : Heap} (hG : H[0]? = some gO) (t : List UInt8) : ACalls Tryz.prog 65 [.str t] H fun r' H' => r' = .int .i64 (itemKindI t) ∧ H' = H := by
 have hk := fields_c [117, 115, 101, 32, 102, 110, 32, 115, 116, 114, 117, 99, 116, 32, 101, 110, 117, 109, 32, 116, 114, 97, 105, 116, 32, 105, 109, 112, 108, 32, 99, 111, 110, 115, 116, 32, 109, 97, 99, 114, 111] (by decide) (by decide) (by rw [items_f]; decide) hG
 rw [items_f] at hk
 have hi1 := idxI_lt (p := fun x => decide (t = x)) (xs := itemsL)
 have hle : (itemsL.length : Int) = 8 := rfl
 refine keeps_of (N := 11) Tryz.func65 rfl rfl (by simp) ((.int _ _)) fun hb' => ?_
 repeat refine wS ?_
 refine eE (by simp only [kA, seval, vint, qC] <;> with_reducible rfl) (by decide) ?_
 repeat refine wS ?_
 refine wR ?_
 refine oP (by simp only [kC, seval, vint, qC] <;> rfl) (by simp only [kC, seval, vint, qC]) (by decide) Tryzgo44 hk ?_
 refine eT 1 (by simp only [kA, seval, vint, qC] <;> with_reducible rfl) (by decide) ?_
 refine oP (by simp only [kC, seval, vint, qC] <;> with_reducible rfl) (by simp only [kC, seval]) (by decide) Tryzgo43 (indexStr itemsL t (by decide) _) ?_
 refine e_end (by simp only [kA, seval, vint, qC] <;> with_reducible rfl) (by decide) ?_
 repeat refine wS ?_
 refine eE (by simp only [kA, seval, y3, vint, qC] <;> with_reducible rfl) (by decide) ?_
 repeat refine wS ?_
 refine wC rfl (by simp only [jN, seval, vint, qC] <;> with_reducible rfl) (fun bt8 => ?_) (fun bt8 => ?_)
 ·-- if t8
  have hb := of_decide_eq_true bt8
  have hz : itemKindI t = 0 := by unfold itemKindI; rw [if_pos hb]
  repeat refine wS ?_
  refine eE (by simp only [kA, seval, vint, qC] <;> with_reducible rfl) (by decide) ?_
  repeat refine wS ?_
  refine wT ⟨.inr rfl, _, _, rfl, ?_, (by first | exact (List.append_nil _).symm | rfl)⟩
  rw [hz]
  simp only [jN, seval, vint, qC]
  try rfl
 ·-- else t8
  have hb := of_decide_eq_false bt8
  have hz : itemKindI t = 2 + idxI (fun x => decide (t = x)) itemsL := by unfold itemKindI; rw [if_neg hb]
  have gw : IntKind.i64.wrap (2 + idxI (fun x => decide (t = x)) itemsL) = 2 + idxI (fun x => decide (t = x)) itemsL := by rw [wrap_id (by omega) (by omega)]
  repeat refine wS ?_
  refine wK ?_
  repeat refine wS ?_
  refine eE (by simp only [kA, seval, y3, vint, qC, gw] <;> with_reducible rfl) (by decide) ?_
  repeat refine wS ?_
  refine wT ⟨.inr rfl, _, _, rfl, ?_, (by first | exact (List.append_nil _).symm | rfl)⟩
  rw [hz]
  simp only [jN, seval, vint, qC]
  try rfl
theorem atPattern_c {H : Heap} {ip pos : Nat} {toks : List Tk} {st : PV} (hp : H[ip]? = some (.row [.slice (toks.map Tk.enc) .none, .int .i64 (pos : Nat), st])) (hl : toks.length ≤ 4611686018427387904) (hpos : pos ≤ toks.length) : ACalls Tryz.prog 199 [.optr ip 0] H fun r' H' => r' = .bool (atPatT (peekT toks pos)) ∧ H' = H := by
 have q : ∀ L, (H ++ L)[ip]? = some (.row [.slice (toks.map Tk.enc) .none, .int .i64 (pos : Nat), st]) := fun L => by rw [List.getElem?_append_left (lG hp)]; exact hp
 have hip := lG hp
 have ff : ∀ k, (ip = H.length + k) = False := fun k => by simp; omega
 have ff0 : (ip = H.length) = False := by simp; omega
 refine keeps_of (N := 16) Tryz.func199 rfl rfl (by simp) ((.bool _)) fun hb' => ?_
 repeat refine wS ?_
 refine eE (by simp only [kA, seval, vint, q, ff, ff0] <;> with_reducible rfl) (by decide) ?_
 repeat refine wS ?_
 refine wR ?_
 refine aops_gstart ?_
 refine g_take 1 (by simp only [jG, jO, jN, seval, vint, q, ff, ff0] <;> with_reducible rfl) (by decide) ?_
 refine aops_gpure (by simp only [kE, seval, vint, q, ff, ff0] <;> with_reducible rfl) (by simp only [kE, seval, vint, q, ff, ff0] <;> with_reducible rfl) (by simp only [kE, seval, vint, q, ff, ff0]) (by decide) Tryzgo124 (fun hc => atIdent_c hp hl hpos) ?_
 refine g_take 2 (by simp only [jG, jO, jN, seval, vint, q, ff, ff0] <;> with_reducible rfl) (by decide) ?_
 refine aops_gpure (by simp only [kE, seval, vint, q, ff, ff0] <;> with_reducible rfl) (by simp only [kE, seval, vint, q, ff, ff0] <;> with_reducible rfl) (by simp only [kE, seval, vint, q, ff, ff0]) (by decide) Tryzgo62 (fun hc => peek_a hp hl hpos) ?_
 refine g_take 6 (by simp only [jG, jO, jN, seval, y3, y9, y56, y103, vint, q, ff, ff0] <;> with_reducible rfl) (by decide) ?_
 refine aops_gpure (by simp only [kE, seval, vint, q, ff, ff0] <;> with_reducible rfl) (by simp only [kE, seval, vint, q, ff, ff0] <;> with_reducible rfl) (by simp only [kE, seval, vint, q, ff, ff0]) (by decide) Tryzgo63 (fun hc => at_c hp hl hpos [[116, 114, 117, 101], [102, 97, 108, 115, 101], [109, 117, 116]] (by decide)) ?_
 refine g_end (by simp only [jG, jO, jN, seval, vint, q, ff, ff0] <;> with_reducible rfl) (by decide) (by repeat (first | exact Fin.base _ | with_reducible apply Fin.keep | apply Fin.drop)) ?_
 repeat refine wS ?_
 refine wT ⟨.inr rfl, _, _, rfl, ?_, (by first | exact (List.append_nil _).symm | rfl)⟩
 simp only [jN, seval, vint]
 try rfl
theorem look_c0 {toks : List Tk} {ip : Nat} {s sq : PS} {F0 : List Nat} {H0 : Heap} (hm : lookM toks s = some sq) (p0 : PSt toks ip s F0 H0) :
  ACalls Tryz.prog 64 [.optr ip 0] H0 fun r H' => ∃ iq Fq, r = .optr iq 0 ∧ PSt toks iq sq Fq H' ∧ Fr [] [] H0 H' := by
 have hl := lim_le p0.len
 have hlim := p0.len
 have hpos := p0.pos
 obtain ⟨st0, h1⟩ := p0.row
 have q1 := getL h1
 have hip := lG h1
 have nip : ∀ k, (ip = H0.length + k) = False := fun k => by simp; omega
 have nip0 : (ip = H0.length) = False := by simp; omega
 have nib : ∀ k, (H0.length + k == ip) = false := fun k => by simp; omega
 have nib2 : (H0.length == ip) = false := by simp; omega
 refine aF (N := 19) Tryz.func64 rfl rfl (by simp) fun hb' => ?_
 repeat refine wS ?_
 refine eE (by simp only [kA, seval, vint, h1, q1, nip, nip0, nib, nib2] <;> with_reducible rfl) (by decide) ?_
 repeat refine wS ?_
 refine awp_draw 2 (by kernel_rfl) ?_
 refine d_take (bm := [0, 1, 3, 7, 0, 16, 48, 112, 0, 256, 1023, 2047, 4095]) 9 (fresh := (H0.length + 1)) (by kernel_rfl) (by simp only [jD, jO, jN, seval, y3, y66, y81, y86, y103, vint, h1, q1, nip, nip0, nib, nib2] <;> with_reducible rfl) (by decide) (by decide) ?_
 refine dops_bsK (bm := [0, 1, 3, 7, 0, 16, 48, 112, 0, 256, 1023, 2047, 4095]) H0.length (t := 64) (n := 1) (es := [.agg [.int .i64 0, .str [], .slice [] .full]]) (by kernel_rfl) (by simp) (by simp only [kC, seval, vint, h1, q1, nip, nip0, nib, nib2]) rfl (by decide) Tryzte64 Tryztz66 rfl (by decide) (by decide) (by decide) (by simp only [kC, seval, vint, h1, q1, nip, nip0, nib, nib2, abuildSK, y66, zStf, zStd] <;> first | done | rfl) (by simp only [jD, jO, jN, seval, vint, h1, q1, nip, nip0, nib, nib2] <;> first | done | rfl) ?_
 rw [show ∀ o, (H0 ++ [AObj.unborn, AObj.unborn]).set H0.length o = H0 ++ [o, AObj.unborn] from fun o => by simp]
 refine d_end (bm := [0, 1, 3, 7, 0, 16, 48, 112, 0, 256, 1023, 2047, 4095]) (fresh := (H0.length + 1)) (by kernel_rfl) (by simp only [jD, jO, jN, seval, y86, vint, h1, q1, nip, nip0, nib, nib2] <;> with_reducible rfl) (by decide) ?_
 have pn : PSt toks (H0.length + 1) ⟨s.pos, [⟨0, []⟩], false⟩ [H0.length + 1, H0.length] (H0 ++ [.row (flatE [.agg [.int .i64 0, .str [], .slice [] .full]]), .row [.slice (toks.map Tk.enc) .none, .int .i64 (s.pos : Nat), .msl H0.length 0 1 1]]) := ⟨H0.length, 1, [.int .i64 0, .str [], .slice [] .full], [], [], by simp, by simp [flatE, PV.cells], rfl, by decide, StkOk.cons (f := ⟨0, []⟩) .nil .nil (fun i hi => by cases hi), rfl, by omega, by simp, by simp, hpos, hlim⟩
 ·-- case
  repeat refine wS ?_
  refine wR ?_
  refine eT 1 (by simp only [kA, seval, vint, h1, q1, nip, nip0, nib, nib2] <;> with_reducible rfl) (by decide) ?_
  refine oC (by simp only [kC, seval, vint, h1, q1, nip, nip0, nib, nib2] <;> with_reducible rfl) (by simp only [kC, seval]) (by decide) Tryzgo70 (FN.ap0 (bump_c toks (H0.length + 1)) hm pn) ?_
  rintro _ H1 ⟨rfl, F1, p1, g1⟩
  refine oN ?_
  refine wL [3] (by simp only [jN, seval, vint, h1, q1, nip, nip0, nib, nib2] <;> with_reducible rfl) ?_
  repeat refine wS ?_
  refine eE (by simp only [kA, seval, vint, h1, q1, nip, nip0, nib, nib2] <;> with_reducible rfl) (by decide) ?_
  repeat refine wS ?_
  refine wT ⟨.inr rfl, _, rfl, ?_⟩
  refine ⟨H0.length + 1, F1, rfl, p1, ⟨by have := g1.len; simp at this; omega, fun i hi _ => ?_, fun i hi _ => by cases hi⟩⟩
  rw [g1.same i (by simp; omega) (by simp; omega), List.getElem?_append_left hi]
theorem look_c {toks : List Tk} {ip : Nat} {s sq : PS} {F0 : List Nat} {H0 : Heap} (hm : lookM toks s = some sq) (p0 : PSt toks ip s F0 H0) (L : Heap) :
  ACalls Tryz.prog 64 [.optr ip 0] (H0 ++ L) fun r H' => ∃ iq Fq, r = .optr iq 0 ∧ PSt toks iq sq Fq H' ∧ Fr [] [] (H0 ++ L) H' := look_c0 hm (p0.app L)
end Go.Abs
namespace Go.Abs
open Go.Proofs
def m107 (toks : List Tk) (n : Nat) (R : Rec) (s0 : PS) : Option PS := ((R (.binary 0)) s0).bind fun s1 => some s1
theorem m107_w {toks : List Tk} {ip n : Nat} {R : Rec} (IH : IHs toks ip R) : FG toks ip 103 [.optr ip 0] (m107 toks n R ) (frv .expr) := by
 intro s0 s' F0 H0 hm p0 i0
 obtain ⟨⟨hg, n0a⟩, _⟩ := i0
 obtain ⟨st0, r0⟩ := p0.row
 have q0 := getL r0
 have hl := lim_le p0.len
 have f0 := Fr.refl F0 H0
 have k0a := hg
 have b0a := getL k0a
 unfold m107 at hm
 refine aF (N := 4) Tryz.func103 rfl rfl (by simp) fun hb' => ?_
 repeat refine wS ?_
 refine wR ?_
 refine eT 1 (by simp only [kA, seval, vint, qC, r0, q0, k0a, b0a] <;> with_reducible rfl) (by decide) ?_
 obtain ⟨s1, e1, hm⟩ := oB hm
 refine oC (by simp only [kC, seval, vint, qC, r0, q0, k0a, b0a] <;> with_reducible rfl) (by simp only [kC, seval]) (by decide) Tryzgo135 (by exact FG.ap0 (IH (.binary 0)) e1 p0 ⟨k0a, n0a⟩) ?_
 rintro _ H1 ⟨rfl, F1, p1, g1⟩
 have f1 : Fr F0 F1 H0 H1 := f0.trans g1
 obtain ⟨st1, r1⟩ := p1.row
 have q1 := getL r1
 obtain ⟨k1a, n1a⟩ := g1.get k0a n0a
 have b1a := getL k1a
 refine oN ?_
 refine ⟨.inl rfl, _, rfl, ?_⟩
 injection hm with hm
 subst hm
 exact ⟨rfl, F1, p1, f1⟩
def m170 (toks : List Tk) (n : Nat) (R : Rec) (s0 : PS) : Option PS := ((bumpM toks) s0).bind fun s1 => if atT (peekT toks s1.pos) [[59]] = true then (((missM 0) s1).bind fun s2 => ((expectM toks [59]) s2).bind fun s3 => some s3) else (((R .expr) s1).bind fun s2 => ((expectM toks [59]) s2).bind fun s3 => some s3)
theorem m170_w {toks : List Tk} {ip n : Nat} {R : Rec} (IH : IHs toks ip R) : FG toks ip 168 [.optr ip 0] (m170 toks n R ) (frv .returnStmt) := by
 intro s0 s' F0 H0 hm p0 i0
 obtain ⟨⟨hg, n0a⟩, _⟩ := i0
 obtain ⟨st0, r0⟩ := p0.row
 have q0 := getL r0
 have hl := lim_le p0.len
 have f0 := Fr.refl F0 H0
 have k0a := hg
 have b0a := getL k0a
 unfold m170 at hm
 refine aF (N := 13) Tryz.func168 rfl rfl (by simp) fun hb' => ?_
 repeat refine wS ?_
 refine wR ?_
 refine eT 1 (by simp only [kA, seval, vint, qC, r0, q0, k0a, b0a] <;> with_reducible rfl) (by decide) ?_
 obtain ⟨s1, e1, hm⟩ := oB hm
 refine oC (by simp only [kC, seval, vint, qC, r0, q0, k0a, b0a] <;> with_reducible rfl) (by simp only [kC, seval]) (by decide) Tryzgo70 (by exact FN.ap0 (bump_c toks ip) e1 p0) ?_
 rintro _ H1 ⟨rfl, F1, p1, g1⟩
 have f1 : Fr F0 F1 H0 H1 := f0.trans g1
 obtain ⟨st1, r1⟩ := p1.row
 have q1 := getL r1
 obtain ⟨k1a, n1a⟩ := g1.get k0a n0a
 have b1a := getL k1a
 refine oN ?_
 repeat refine wS ?_
 refine wR ?_
 refine eT 2 (by simp only [kA, seval, y9, y56, vint, qC, r1, q1, k1a, b1a] <;> with_reducible rfl) (by decide) ?_
 refine oP (by simp only [kC, seval, vint, qC, r1, q1, k1a, b1a] <;> with_reducible rfl) (by simp only [kC, seval]) (by decide) Tryzgo63 (at_c r1 hl p1.pos [[59]] (by decide)) ?_
 refine oN ?_
 repeat refine wS ?_
 refine wC rfl (by simp only [jN, seval, vint, qC, r1, q1, k1a, b1a] <;> with_reducible rfl) (fun bt6 => ?_) (fun bt6 => ?_)
 ·-- if t6
  rw [ifT bt6] at hm
  repeat refine wS ?_
  refine wR ?_
  refine eT 1 (by simp only [kA, seval, vint, qC, r1, q1, k1a, b1a] <;> with_reducible rfl) (by decide) ?_
  obtain ⟨s2, e2, hm⟩ := oB hm
  refine oC (by simp only [kC, seval, vint, qC, r1, q1, k1a, b1a] <;> with_reducible rfl) (by simp only [kC, seval]) (by decide) Tryzgo120 (by exact FN.ap0 (absent_c toks ip) e2 p1) ?_
  rintro _ H2 ⟨rfl, F2, p2, g2⟩
  have f2 : Fr F0 F2 H0 H2 := f1.trans g2
  obtain ⟨st2, r2⟩ := p2.row
  have q2 := getL r2
  obtain ⟨k2a, n2a⟩ := g2.get k1a n1a
  have b2a := getL k2a
  refine oN ?_
  repeat refine wS ?_
  refine wR ?_
  refine eT 1 (by simp only [kA, seval, vint, qC, r2, q2, k2a, b2a] <;> with_reducible rfl) (by decide) ?_
  obtain ⟨s3, e3, hm⟩ := oB hm
  refine oC (by simp only [kC, seval, vint, qC, r2, q2, k2a, b2a] <;> with_reducible rfl) (by simp only [kC, seval]) (by decide) Tryzgo101 (by exact FN.ap0 (expect_c toks ip [59]) e3 p2) ?_
  rintro _ H3 ⟨rfl, F3, p3, g3⟩
  have f3 : Fr F0 F3 H0 H3 := f2.trans g3
  obtain ⟨st3, r3⟩ := p3.row
  have q3 := getL r3
  obtain ⟨k3a, n3a⟩ := g3.get k2a n2a
  have b3a := getL k3a
  refine oN ?_
  refine ⟨.inl rfl, _, rfl, ?_⟩
  injection hm with hm
  subst hm
  exact ⟨rfl, F3, p3, f3⟩
 ·-- else t6
  rw [ifF bt6] at hm
  repeat refine wS ?_
  refine wR ?_
  refine eT 1 (by simp only [kA, seval, vint, qC, r1, q1, k1a, b1a] <;> with_reducible rfl) (by decide) ?_
  obtain ⟨s2, e2, hm⟩ := oB hm
  refine oC (by simp only [kC, seval, vint, qC, r1, q1, k1a, b1a] <;> with_reducible rfl) (by simp only [kC, seval]) (by decide) Tryzgo103 (by exact FG.ap0 (IH .expr) e2 p1 ⟨k1a, n1a⟩) ?_
  rintro _ H2 ⟨rfl, F2, p2, g2⟩
  have f2 : Fr F0 F2 H0 H2 := f1.trans g2
  obtain ⟨st2, r2⟩ := p2.row
  have q2 := getL r2
  obtain ⟨k2a, n2a⟩ := g2.get k1a n1a
  have b2a := getL k2a
  refine oN ?_
  repeat refine wS ?_
  refine wR ?_
  refine eT 1 (by simp only [kA, seval, vint, qC, r2, q2, k2a, b2a] <;> with_reducible rfl) (by decide) ?_
  obtain ⟨s3, e3, hm⟩ := oB hm
  refine oC (by simp only [kC, seval, vint, qC, r2, q2, k2a, b2a] <;> with_reducible rfl) (by simp only [kC, seval]) (by decide) Tryzgo101 (by exact FN.ap0 (expect_c toks ip [59]) e3 p2) ?_
  rintro _ H3 ⟨rfl, F3, p3, g3⟩
  have f3 : Fr F0 F3 H0 H3 := f2.trans g3
  obtain ⟨st3, r3⟩ := p3.row
  have q3 := getL r3
  obtain ⟨k3a, n3a⟩ := g3.get k2a n2a
  have b3a := getL k3a
  refine oN ?_
  refine ⟨.inl rfl, _, rfl, ?_⟩
  injection hm with hm
  subst hm
  exact ⟨rfl, F3, p3, f3⟩
def m168 (toks : List Tk) (n : Nat) (R : Rec) (s0 : PS) : Option PS := ((bumpM toks) s0).bind fun s1 => ((R .pattern) s1).bind fun s2 => ((optionalM toks ([58]) (R .typeExpr)) s2).bind fun s3 => ((expectM toks [61]) s3).bind fun s4 => ((R .expr) s4).bind fun s5 => ((expectM toks [59]) s5).bind fun s6 => some s6
theorem m168_w {toks : List Tk} {ip n : Nat} {R : Rec} (IH : IHs toks ip R) : FG toks ip 166 [.optr ip 0] (m168 toks n R ) (frv .letS) := by
 intro s0 s' F0 H0 hm p0 i0
 obtain ⟨⟨hg, n0a⟩, _⟩ := i0
 obtain ⟨st0, r0⟩ := p0.row
 have q0 := getL r0
 have hl := lim_le p0.len
 have f0 := Fr.refl F0 H0
 have k0a := hg
 have b0a := getL k0a
 unfold m168 at hm
 refine aF (N := 16) Tryz.func166 rfl rfl (by simp) fun hb' => ?_
 repeat refine wS ?_
 refine wR ?_
 refine eT 1 (by simp only [kA, seval, vint, qC, r0, q0, k0a, b0a] <;> with_reducible rfl) (by decide) ?_
 obtain ⟨s1, e1, hm⟩ := oB hm
 refine oC (by simp only [kC, seval, vint, qC, r0, q0, k0a, b0a] <;> with_reducible rfl) (by simp only [kC, seval]) (by decide) Tryzgo70 (by exact FN.ap0 (bump_c toks ip) e1 p0) ?_
 rintro _ H1 ⟨rfl, F1, p1, g1⟩
 have f1 : Fr F0 F1 H0 H1 := f0.trans g1
 obtain ⟨st1, r1⟩ := p1.row
 have q1 := getL r1
 obtain ⟨k1a, n1a⟩ := g1.get k0a n0a
 have b1a := getL k1a
 refine oN ?_
 repeat refine wS ?_
 refine wR ?_
 refine eT 1 (by simp only [kA, seval, vint, qC, r1, q1, k1a, b1a] <;> with_reducible rfl) (by decide) ?_
 obtain ⟨s2, e2, hm⟩ := oB hm
 refine oC (by simp only [kC, seval, vint, qC, r1, q1, k1a, b1a] <;> with_reducible rfl) (by simp only [kC, seval]) (by decide) Tryzgo180 (by exact FG.ap0 (IH .pattern) e2 p1 ⟨k1a, n1a⟩) ?_
 rintro _ H2 ⟨rfl, F2, p2, g2⟩
 have f2 : Fr F0 F2 H0 H2 := f1.trans g2
 obtain ⟨st2, r2⟩ := p2.row
 have q2 := getL r2
 obtain ⟨k2a, n2a⟩ := g2.get k1a n1a
 have b2a := getL k2a
 refine oN ?_
 repeat refine wS ?_
 refine wR ?_
 refine eT 3 (by simp only [kA, seval, vint, qC, r2, q2, k2a, b2a] <;> with_reducible rfl) (by decide) ?_
 obtain ⟨s3, e3, hm⟩ := oB hm
 refine oC (by simp only [kC, seval, vint, qC, r2, q2, k2a, b2a] <;> with_reducible rfl) (by simp only [kC, seval]) (by decide) Tryzgo119 (by exact FC.ap0 (optional_c toks ip ([58]) 102 [.optr ip 0] [] Tryzgo102 (stbL [(0, gO)]) (FG.fc (IH .typeExpr))) e3 p2 ⟨⟨k2a, n2a⟩, trivial⟩) ?_
 rintro _ H3 ⟨rfl, F3, p3, g3⟩
 have f3 : Fr F0 F3 H0 H3 := f2.trans g3
 obtain ⟨st3, r3⟩ := p3.row
 have q3 := getL r3
 obtain ⟨k3a, n3a⟩ := g3.get k2a n2a
 have b3a := getL k3a
 refine oN ?_
 repeat refine wS ?_
 refine wR ?_
 refine eT 1 (by simp only [kA, seval, vint, qC, r3, q3, k3a, b3a] <;> with_reducible rfl) (by decide) ?_
 obtain ⟨s4, e4, hm⟩ := oB hm
 refine oC (by simp only [kC, seval, vint, qC, r3, q3, k3a, b3a] <;> with_reducible rfl) (by simp only [kC, seval]) (by decide) Tryzgo101 (by exact FN.ap0 (expect_c toks ip [61]) e4 p3) ?_
 rintro _ H4 ⟨rfl, F4, p4, g4⟩
 have f4 : Fr F0 F4 H0 H4 := f3.trans g4
 obtain ⟨st4, r4⟩ := p4.row
 have q4 := getL r4
 obtain ⟨k4a, n4a⟩ := g4.get k3a n3a
 have b4a := getL k4a
 refine oN ?_
 repeat refine wS ?_
 refine wR ?_
 refine eT 1 (by simp only [kA, seval, vint, qC, r4, q4, k4a, b4a] <;> with_reducible rfl) (by decide) ?_
 obtain ⟨s5, e5, hm⟩ := oB hm
 refine oC (by simp only [kC, seval, vint, qC, r4, q4, k4a, b4a] <;> with_reducible rfl) (by simp only [kC, seval]) (by decide) Tryzgo103 (by exact FG.ap0 (IH .expr) e5 p4 ⟨k4a, n4a⟩) ?_
 rintro _ H5 ⟨rfl, F5, p5, g5⟩
 have f5 : Fr F0 F5 H0 H5 := f4.trans g5
 obtain ⟨st5, r5⟩ := p5.row
 have q5 := getL r5
 obtain ⟨k5a, n5a⟩ := g5.get k4a n4a
 have b5a := getL k5a
 refine oN ?_
 repeat refine wS ?_
 refine wR ?_
 refine eT 1 (by simp only [kA, seval, vint, qC, r5, q5, k5a, b5a] <;> with_reducible rfl) (by decide) ?_
 obtain ⟨s6, e6, hm⟩ := oB hm
 refine oC (by simp only [kC, seval, vint, qC, r5, q5, k5a, b5a] <;> with_reducible rfl) (by simp only [kC, seval]) (by decide) Tryzgo101 (by exact FN.ap0 (expect_c toks ip [59]) e6 p5) ?_
 rintro _ H6 ⟨rfl, F6, p6, g6⟩
 have f6 : Fr F0 F6 H0 H6 := f5.trans g6
 obtain ⟨st6, r6⟩ := p6.row
 have q6 := getL r6
 obtain ⟨k6a, n6a⟩ := g6.get k5a n5a
 have b6a := getL k6a
 refine oN ?_
 refine ⟨.inl rfl, _, rfl, ?_⟩
 injection hm with hm
 subst hm
 exact ⟨rfl, F6, p6, f6⟩
def m184 (toks : List Tk) (n : Nat) (R : Rec) (s0 : PS) : Option PS := ((bumpM toks) s0).bind fun s1 => ((listM toks n ([41]) (m107 toks n R)) s1).bind fun s2 => some s2
theorem m184_w {toks : List Tk} {ip n : Nat} {R : Rec} (IH : IHs toks ip R) : FG toks ip 182 [.optr ip 0] (m184 toks n R ) (frv .arguments) := by
 intro s0 s' F0 H0 hm p0 i0
 obtain ⟨⟨hg, n0a⟩, _⟩ := i0
 obtain ⟨st0, r0⟩ := p0.row
 have q0 := getL r0
 have hl := lim_le p0.len
 have f0 := Fr.refl F0 H0
 have k0a := hg
 have b0a := getL k0a
 unfold m184 at hm
 refine aF (N := 8) Tryz.func182 rfl rfl (by simp) fun hb' => ?_
 repeat refine wS ?_
 refine wR ?_
 refine eT 1 (by simp only [kA, seval, vint, qC, r0, q0, k0a, b0a] <;> with_reducible rfl) (by decide) ?_
 obtain ⟨s1, e1, hm⟩ := oB hm
 refine oC (by simp only [kC, seval, vint, qC, r0, q0, k0a, b0a] <;> with_reducible rfl) (by simp only [kC, seval]) (by decide) Tryzgo70 (by exact FN.ap0 (bump_c toks ip) e1 p0) ?_
 rintro _ H1 ⟨rfl, F1, p1, g1⟩
 have f1 : Fr F0 F1 H0 H1 := f0.trans g1
 obtain ⟨st1, r1⟩ := p1.row
 have q1 := getL r1
 obtain ⟨k1a, n1a⟩ := g1.get k0a n0a
 have b1a := getL k1a
 refine oN ?_
 repeat refine wS ?_
 refine wR ?_
 refine eT 3 (by simp only [kA, seval, vint, qC, r1, q1, k1a, b1a] <;> with_reducible rfl) (by decide) ?_
 obtain ⟨s2, e2, hm⟩ := oB hm
 refine oC (by simp only [kC, seval, vint, qC, r1, q1, k1a, b1a] <;> with_reducible rfl) (by simp only [kC, seval]) (by decide) Tryzgo122 (by exact FC.ap0 (list_c toks ip n ([41]) 103 [.optr ip 0] [] Tryzgo103 (stbL [(0, gO)]) (fun _ _ _ => envL_hd) (FG.fc (m107_w (n := n) IH))) e2 p1 ⟨⟨k1a, n1a⟩, trivial⟩) ?_
 rintro _ H2 ⟨rfl, F2, p2, g2⟩
 have f2 : Fr F0 F2 H0 H2 := f1.trans g2
 obtain ⟨st2, r2⟩ := p2.row
 have q2 := getL r2
 obtain ⟨k2a, n2a⟩ := g2.get k1a n1a
 have b2a := getL k2a
 refine oN ?_
 refine ⟨.inl rfl, _, rfl, ?_⟩
 injection hm with hm
 subst hm
 exact ⟨rfl, F2, p2, f2⟩
def m175 (toks : List Tk) (n : Nat) (R : Rec) (s0 : PS) : Option PS := ((bumpM toks) s0).bind fun s1 => ((R .unary) s1).bind fun s2 => some s2
theorem m175_w {toks : List Tk} {ip n : Nat} {R : Rec} (IH : IHs toks ip R) (b0 : Nat) : FC Tryz.prog toks ip 173 [.optr b0 0] (m175 toks n R ) unitR (EnvL [(0, gO), (b0, .row [.optr ip 0])]) := by
 refine fc_of fun s0 s' F0 H0 hm p0 i0 => ?_
 obtain ⟨⟨k0a, n0a⟩, ⟨k0b, n0b⟩, _⟩ := i0
 have b0a := getL k0a
 have b0b := getL k0b
 obtain ⟨st0, r0⟩ := p0.row
 have q0 := getL r0
 have hl := lim_le p0.len
 have f0 := Fr.refl F0 H0
 unfold m175 at hm
 refine aF (N := 5) Tryz.func173 rfl rfl (by simp) fun hb' => ?_
 repeat refine wS ?_
 refine wR ?_
 refine eT 1 (by simp only [kA, seval, y84, vint, qC, r0, q0, k0a, b0a, k0b, b0b] <;> with_reducible rfl) (by decide) ?_
 obtain ⟨s1, e1, hm⟩ := oB hm
 refine oC (by simp only [kC, seval, vint, qC, r0, q0, k0a, b0a, k0b, b0b] <;> with_reducible rfl) (by simp only [kC, seval]) (by decide) Tryzgo70 (by exact FN.ap0 (bump_c toks ip) e1 p0) ?_
 rintro _ H1 ⟨rfl, F1, p1, g1⟩
 have f1 : Fr F0 F1 H0 H1 := f0.trans g1
 obtain ⟨st1, r1⟩ := p1.row
 have q1 := getL r1
 obtain ⟨k1a, n1a⟩ := g1.get k0a n0a
 have b1a := getL k1a
 obtain ⟨k1b, n1b⟩ := g1.get k0b n0b
 have b1b := getL k1b
 refine oN ?_
 repeat refine wS ?_
 refine wR ?_
 refine eT 1 (by simp only [kA, seval, y84, vint, qC, r1, q1, k1a, b1a, k1b, b1b] <;> with_reducible rfl) (by decide) ?_
 obtain ⟨s2, e2, hm⟩ := oB hm
 refine oC (by simp only [kC, seval, vint, qC, r1, q1, k1a, b1a, k1b, b1b] <;> with_reducible rfl) (by simp only [kC, seval]) (by decide) Tryzgo154 (by exact FG.ap0 (IH .unary) e2 p1 ⟨k1a, n1a⟩) ?_
 rintro _ H2 ⟨rfl, F2, p2, g2⟩
 have f2 : Fr F0 F2 H0 H2 := f1.trans g2
 obtain ⟨st2, r2⟩ := p2.row
 have q2 := getL r2
 obtain ⟨k2a, n2a⟩ := g2.get k1a n1a
 have b2a := getL k2a
 obtain ⟨k2b, n2b⟩ := g2.get k1b n1b
 have b2b := getL k2b
 refine oN ?_
 refine ⟨.inl rfl, _, rfl, ?_⟩
 injection hm with hm
 subst hm
 exact ⟨rfl, F2, p2, f2⟩
def m176 (toks : List Tk) (n : Nat) (R : Rec) (s0 : PS) : Option PS := ((bumpM toks) s0).bind fun s1 => ((acceptM toks [[109, 117, 116]]) s1).bind fun s2 => ((R .unary) s2).bind fun s3 => some s3
theorem m176_w {toks : List Tk} {ip n : Nat} {R : Rec} (IH : IHs toks ip R) (b0 : Nat) : FC Tryz.prog toks ip 174 [.optr b0 0] (m176 toks n R ) unitR (EnvL [(0, gO), (b0, .row [.optr ip 0])]) := by
 refine fc_of fun s0 s' F0 H0 hm p0 i0 => ?_
 obtain ⟨⟨k0a, n0a⟩, ⟨k0b, n0b⟩, _⟩ := i0
 have b0a := getL k0a
 have b0b := getL k0b
 obtain ⟨st0, r0⟩ := p0.row
 have q0 := getL r0
 have hl := lim_le p0.len
 have f0 := Fr.refl F0 H0
 unfold m176 at hm
 refine aF (N := 8) Tryz.func174 rfl rfl (by simp) fun hb' => ?_
 repeat refine wS ?_
 refine wR ?_
 refine eT 1 (by simp only [kA, seval, y84, vint, qC, r0, q0, k0a, b0a, k0b, b0b] <;> with_reducible rfl) (by decide) ?_
 obtain ⟨s1, e1, hm⟩ := oB hm
 refine oC (by simp only [kC, seval, vint, qC, r0, q0, k0a, b0a, k0b, b0b] <;> with_reducible rfl) (by simp only [kC, seval]) (by decide) Tryzgo70 (by exact FN.ap0 (bump_c toks ip) e1 p0) ?_
 rintro _ H1 ⟨rfl, F1, p1, g1⟩
 have f1 : Fr F0 F1 H0 H1 := f0.trans g1
 obtain ⟨st1, r1⟩ := p1.row
 have q1 := getL r1
 obtain ⟨k1a, n1a⟩ := g1.get k0a n0a
 have b1a := getL k1a
 obtain ⟨k1b, n1b⟩ := g1.get k0b n0b
 have b1b := getL k1b
 refine oN ?_
 repeat refine wS ?_
 refine wR ?_
 refine eT 2 (by simp only [kA, seval, y9, y84, y56, vint, qC, r1, q1, k1a, b1a, k1b, b1b] <;> with_reducible rfl) (by decide) ?_
 obtain ⟨s2, e2, hm⟩ := oB hm
 refine oC (by simp only [kC, seval, vint, qC, r1, q1, k1a, b1a, k1b, b1b] <;> with_reducible rfl) (by simp only [kC, seval]) (by decide) Tryzgo69 (by exact FN.ap0 (accept_c toks ip [[109, 117, 116]] (by decide)) e2 p1) ?_
 rintro _ H2 ⟨rfl, F2, p2, g2⟩
 have f2 : Fr F0 F2 H0 H2 := f1.trans g2
 obtain ⟨st2, r2⟩ := p2.row
 have q2 := getL r2
 obtain ⟨k2a, n2a⟩ := g2.get k1a n1a
 have b2a := getL k2a
 obtain ⟨k2b, n2b⟩ := g2.get k1b n1b
 have b2b := getL k2b
 refine oN ?_
 repeat refine wS ?_
 refine wR ?_
 refine eT 1 (by simp only [kA, seval, y84, vint, qC, r2, q2, k2a, b2a, k2b, b2b] <;> with_reducible rfl) (by decide) ?_
 obtain ⟨s3, e3, hm⟩ := oB hm
 refine oC (by simp only [kC, seval, vint, qC, r2, q2, k2a, b2a, k2b, b2b] <;> with_reducible rfl) (by simp only [kC, seval]) (by decide) Tryzgo154 (by exact FG.ap0 (IH .unary) e3 p2 ⟨k2a, n2a⟩) ?_
 rintro _ H3 ⟨rfl, F3, p3, g3⟩
 have f3 : Fr F0 F3 H0 H3 := f2.trans g3
 obtain ⟨st3, r3⟩ := p3.row
 have q3 := getL r3
 obtain ⟨k3a, n3a⟩ := g3.get k2a n2a
 have b3a := getL k3a
 obtain ⟨k3b, n3b⟩ := g3.get k2b n2b
 have b3b := getL k3b
 refine oN ?_
 refine ⟨.inl rfl, _, rfl, ?_⟩
 injection hm with hm
 subst hm
 exact ⟨rfl, F3, p3, f3⟩
def m191 (toks : List Tk) (n : Nat) (R : Rec) (s0 : PS) : Option PS := ((bumpM toks) s0).bind fun s1 => ((bumpM toks) s1).bind fun s2 => ((R .arguments) s2).bind fun s3 => some s3
theorem m191_w {toks : List Tk} {ip n : Nat} {R : Rec} (IH : IHs toks ip R) (b0 : Nat) : FC Tryz.prog toks ip 189 [.optr b0 0] (m191 toks n R ) unitR (EnvL [(0, gO), (b0, .row [.optr ip 0])]) := by
 refine fc_of fun s0 s' F0 H0 hm p0 i0 => ?_
 obtain ⟨⟨k0a, n0a⟩, ⟨k0b, n0b⟩, _⟩ := i0
 have b0a := getL k0a
 have b0b := getL k0b
 obtain ⟨st0, r0⟩ := p0.row
 have q0 := getL r0
 have hl := lim_le p0.len
 have f0 := Fr.refl F0 H0
 unfold m191 at hm
 refine aF (N := 7) Tryz.func189 rfl rfl (by simp) fun hb' => ?_
 repeat refine wS ?_
 refine wR ?_
 refine eT 1 (by simp only [kA, seval, y84, vint, qC, r0, q0, k0a, b0a, k0b, b0b] <;> with_reducible rfl) (by decide) ?_
 obtain ⟨s1, e1, hm⟩ := oB hm
 refine oC (by simp only [kC, seval, vint, qC, r0, q0, k0a, b0a, k0b, b0b] <;> with_reducible rfl) (by simp only [kC, seval]) (by decide) Tryzgo70 (by exact FN.ap0 (bump_c toks ip) e1 p0) ?_
 rintro _ H1 ⟨rfl, F1, p1, g1⟩
 have f1 : Fr F0 F1 H0 H1 := f0.trans g1
 obtain ⟨st1, r1⟩ := p1.row
 have q1 := getL r1
 obtain ⟨k1a, n1a⟩ := g1.get k0a n0a
 have b1a := getL k1a
 obtain ⟨k1b, n1b⟩ := g1.get k0b n0b
 have b1b := getL k1b
 refine oN ?_
 repeat refine wS ?_
 refine wR ?_
 refine eT 1 (by simp only [kA, seval, y84, vint, qC, r1, q1, k1a, b1a, k1b, b1b] <;> with_reducible rfl) (by decide) ?_
 obtain ⟨s2, e2, hm⟩ := oB hm
 refine oC (by simp only [kC, seval, vint, qC, r1, q1, k1a, b1a, k1b, b1b] <;> with_reducible rfl) (by simp only [kC, seval]) (by decide) Tryzgo70 (by exact FN.ap0 (bump_c toks ip) e2 p1) ?_
 rintro _ H2 ⟨rfl, F2, p2, g2⟩
 have f2 : Fr F0 F2 H0 H2 := f1.trans g2
 obtain ⟨st2, r2⟩ := p2.row
 have q2 := getL r2
 obtain ⟨k2a, n2a⟩ := g2.get k1a n1a
 have b2a := getL k2a
 obtain ⟨k2b, n2b⟩ := g2.get k1b n1b
 have b2b := getL k2b
 refine oN ?_
 repeat refine wS ?_
 refine wR ?_
 refine eT 1 (by simp only [kA, seval, y84, vint, qC, r2, q2, k2a, b2a, k2b, b2b] <;> with_reducible rfl) (by decide) ?_
 obtain ⟨s3, e3, hm⟩ := oB hm
 refine oC (by simp only [kC, seval, vint, qC, r2, q2, k2a, b2a, k2b, b2b] <;> with_reducible rfl) (by simp only [kC, seval]) (by decide) Tryzgo182 (by exact FG.ap0 (IH .arguments) e3 p2 ⟨k2a, n2a⟩) ?_
 rintro _ H3 ⟨rfl, F3, p3, g3⟩
 have f3 : Fr F0 F3 H0 H3 := f2.trans g3
 obtain ⟨st3, r3⟩ := p3.row
 have q3 := getL r3
 obtain ⟨k3a, n3a⟩ := g3.get k2a n2a
 have b3a := getL k3a
 obtain ⟨k3b, n3b⟩ := g3.get k2b n2b
 have b3b := getL k3b
 refine oN ?_
 refine ⟨.inl rfl, _, rfl, ?_⟩
 injection hm with hm
 subst hm
 exact ⟨rfl, F3, p3, f3⟩
def m192 (toks : List Tk) (n : Nat) (R : Rec) (s0 : PS) : Option PS := ((bumpM toks) s0).bind fun s1 => ((expectIdentM toks) s1).bind fun s2 => some s2
theorem m192_w {toks : List Tk} {ip n : Nat} {R : Rec} (IH : IHs toks ip R) (b0 : Nat) : FC Tryz.prog toks ip 190 [.optr b0 0] (m192 toks n R ) unitR (EnvL [(0, gO), (b0, .row [.optr ip 0])]) := by
 refine fc_of fun s0 s' F0 H0 hm p0 i0 => ?_
 obtain ⟨⟨k0a, n0a⟩, ⟨k0b, n0b⟩, _⟩ := i0
 have b0a := getL k0a
 have b0b := getL k0b
 obtain ⟨st0, r0⟩ := p0.row
 have q0 := getL r0
 have hl := lim_le p0.len
 have f0 := Fr.refl F0 H0
 unfold m192 at hm
 refine aF (N := 5) Tryz.func190 rfl rfl (by simp) fun hb' => ?_
 repeat refine wS ?_
 refine wR ?_
 refine eT 1 (by simp only [kA, seval, y84, vint, qC, r0, q0, k0a, b0a, k0b, b0b] <;> with_reducible rfl) (by decide) ?_
 obtain ⟨s1, e1, hm⟩ := oB hm
 refine oC (by simp only [kC, seval, vint, qC, r0, q0, k0a, b0a, k0b, b0b] <;> with_reducible rfl) (by simp only [kC, seval]) (by decide) Tryzgo70 (by exact FN.ap0 (bump_c toks ip) e1 p0) ?_
 rintro _ H1 ⟨rfl, F1, p1, g1⟩
 have f1 : Fr F0 F1 H0 H1 := f0.trans g1
 obtain ⟨st1, r1⟩ := p1.row
 have q1 := getL r1
 obtain ⟨k1a, n1a⟩ := g1.get k0a n0a
 have b1a := getL k1a
 obtain ⟨k1b, n1b⟩ := g1.get k0b n0b
 have b1b := getL k1b
 refine oN ?_
 repeat refine wS ?_
 refine wR ?_
 refine eT 1 (by simp only [kA, seval, y84, vint, qC, r1, q1, k1a, b1a, k1b, b1b] <;> with_reducible rfl) (by decide) ?_
 obtain ⟨s2, e2, hm⟩ := oB hm
 refine oC (by simp only [kC, seval, vint, qC, r1, q1, k1a, b1a, k1b, b1b] <;> with_reducible rfl) (by simp only [kC, seval]) (by decide) Tryzgo98 (by exact FN.ap0 (expectIdent_c toks ip) e2 p1) ?_
 rintro _ H2 ⟨rfl, F2, p2, g2⟩
 have f2 : Fr F0 F2 H0 H2 := f1.trans g2
 obtain ⟨st2, r2⟩ := p2.row
 have q2 := getL r2
 obtain ⟨k2a, n2a⟩ := g2.get k1a n1a
 have b2a := getL k2a
 obtain ⟨k2b, n2b⟩ := g2.get k1b n1b
 have b2b := getL k2b
 refine oN ?_
 refine ⟨.inl rfl, _, rfl, ?_⟩
 injection hm with hm
 subst hm
 exact ⟨rfl, F2, p2, f2⟩
def m183 (toks : List Tk) (n : Nat) (R : Rec) (s0 : PS) : Option PS := ((bumpM toks) s0).bind fun s1 => ((R .arguments) s1).bind fun s2 => some s2
theorem m183_w {toks : List Tk} {ip n : Nat} {R : Rec} (IH : IHs toks ip R) (b0 : Nat) : FC Tryz.prog toks ip 181 [.optr b0 0] (m183 toks n R ) unitR (EnvL [(0, gO), (b0, .row [.optr ip 0])]) := by
 refine fc_of fun s0 s' F0 H0 hm p0 i0 => ?_
 obtain ⟨⟨k0a, n0a⟩, ⟨k0b, n0b⟩, _⟩ := i0
 have b0a := getL k0a
 have b0b := getL k0b
 obtain ⟨st0, r0⟩ := p0.row
 have q0 := getL r0
 have hl := lim_le p0.len
 have f0 := Fr.refl F0 H0
 unfold m183 at hm
 refine aF (N := 5) Tryz.func181 rfl rfl (by simp) fun hb' => ?_
 repeat refine wS ?_
 refine wR ?_
 refine eT 1 (by simp only [kA, seval, y84, vint, qC, r0, q0, k0a, b0a, k0b, b0b] <;> with_reducible rfl) (by decide) ?_
 obtain ⟨s1, e1, hm⟩ := oB hm
 refine oC (by simp only [kC, seval, vint, qC, r0, q0, k0a, b0a, k0b, b0b] <;> with_reducible rfl) (by simp only [kC, seval]) (by decide) Tryzgo70 (by exact FN.ap0 (bump_c toks ip) e1 p0) ?_
 rintro _ H1 ⟨rfl, F1, p1, g1⟩
 have f1 : Fr F0 F1 H0 H1 := f0.trans g1
 obtain ⟨st1, r1⟩ := p1.row
 have q1 := getL r1
 obtain ⟨k1a, n1a⟩ := g1.get k0a n0a
 have b1a := getL k1a
 obtain ⟨k1b, n1b⟩ := g1.get k0b n0b
 have b1b := getL k1b
 refine oN ?_
 repeat refine wS ?_
 refine wR ?_
 refine eT 1 (by simp only [kA, seval, y84, vint, qC, r1, q1, k1a, b1a, k1b, b1b] <;> with_reducible rfl) (by decide) ?_
 obtain ⟨s2, e2, hm⟩ := oB hm
 refine oC (by simp only [kC, seval, vint, qC, r1, q1, k1a, b1a, k1b, b1b] <;> with_reducible rfl) (by simp only [kC, seval]) (by decide) Tryzgo182 (by exact FG.ap0 (IH .arguments) e2 p1 ⟨k1a, n1a⟩) ?_
 rintro _ H2 ⟨rfl, F2, p2, g2⟩
 have f2 : Fr F0 F2 H0 H2 := f1.trans g2
 obtain ⟨st2, r2⟩ := p2.row
 have q2 := getL r2
 obtain ⟨k2a, n2a⟩ := g2.get k1a n1a
 have b2a := getL k2a
 obtain ⟨k2b, n2b⟩ := g2.get k1b n1b
 have b2b := getL k2b
 refine oN ?_
 refine ⟨.inl rfl, _, rfl, ?_⟩
 injection hm with hm
 subst hm
 exact ⟨rfl, F2, p2, f2⟩
def m185 (toks : List Tk) (n : Nat) (R : Rec) (s0 : PS) : Option PS := ((bumpM toks) s0).bind fun s1 => ((R .expr) s1).bind fun s2 => ((expectM toks [41]) s2).bind fun s3 => some s3
theorem m185_w {toks : List Tk} {ip n : Nat} {R : Rec} (IH : IHs toks ip R) (b0 : Nat) : FC Tryz.prog toks ip 183 [.optr b0 0] (m185 toks n R ) unitR (EnvL [(0, gO), (b0, .row [.optr ip 0])]) := by
 refine fc_of fun s0 s' F0 H0 hm p0 i0 => ?_
 obtain ⟨⟨k0a, n0a⟩, ⟨k0b, n0b⟩, _⟩ := i0
 have b0a := getL k0a
 have b0b := getL k0b
 obtain ⟨st0, r0⟩ := p0.row
 have q0 := getL r0
 have hl := lim_le p0.len
 have f0 := Fr.refl F0 H0
 unfold m185 at hm
 refine aF (N := 7) Tryz.func183 rfl rfl (by simp) fun hb' => ?_
 repeat refine wS ?_
 refine wR ?_
 refine eT 1 (by simp only [kA, seval, y84, vint, qC, r0, q0, k0a, b0a, k0b, b0b] <;> with_reducible rfl) (by decide) ?_
 obtain ⟨s1, e1, hm⟩ := oB hm
 refine oC (by simp only [kC, seval, vint, qC, r0, q0, k0a, b0a, k0b, b0b] <;> with_reducible rfl) (by simp only [kC, seval]) (by decide) Tryzgo70 (by exact FN.ap0 (bump_c toks ip) e1 p0) ?_
 rintro _ H1 ⟨rfl, F1, p1, g1⟩
 have f1 : Fr F0 F1 H0 H1 := f0.trans g1
 obtain ⟨st1, r1⟩ := p1.row
 have q1 := getL r1
 obtain ⟨k1a, n1a⟩ := g1.get k0a n0a
 have b1a := getL k1a
 obtain ⟨k1b, n1b⟩ := g1.get k0b n0b
 have b1b := getL k1b
 refine oN ?_
 repeat refine wS ?_
 refine wR ?_
 refine eT 1 (by simp only [kA, seval, y84, vint, qC, r1, q1, k1a, b1a, k1b, b1b] <;> with_reducible rfl) (by decide) ?_
 obtain ⟨s2, e2, hm⟩ := oB hm
 refine oC (by simp only [kC, seval, vint, qC, r1, q1, k1a, b1a, k1b, b1b] <;> with_reducible rfl) (by simp only [kC, seval]) (by decide) Tryzgo103 (by exact FG.ap0 (IH .expr) e2 p1 ⟨k1a, n1a⟩) ?_
 rintro _ H2 ⟨rfl, F2, p2, g2⟩
 have f2 : Fr F0 F2 H0 H2 := f1.trans g2
 obtain ⟨st2, r2⟩ := p2.row
 have q2 := getL r2
 obtain ⟨k2a, n2a⟩ := g2.get k1a n1a
 have b2a := getL k2a
 obtain ⟨k2b, n2b⟩ := g2.get k1b n1b
 have b2b := getL k2b
 refine oN ?_
 repeat refine wS ?_
 refine wR ?_
 refine eT 1 (by simp only [kA, seval, y84, vint, qC, r2, q2, k2a, b2a, k2b, b2b] <;> with_reducible rfl) (by decide) ?_
 obtain ⟨s3, e3, hm⟩ := oB hm
 refine oC (by simp only [kC, seval, vint, qC, r2, q2, k2a, b2a, k2b, b2b] <;> with_reducible rfl) (by simp only [kC, seval]) (by decide) Tryzgo101 (by exact FN.ap0 (expect_c toks ip [41]) e3 p2) ?_
 rintro _ H3 ⟨rfl, F3, p3, g3⟩
 have f3 : Fr F0 F3 H0 H3 := f2.trans g3
 obtain ⟨st3, r3⟩ := p3.row
 have q3 := getL r3
 obtain ⟨k3a, n3a⟩ := g3.get k2a n2a
 have b3a := getL k3a
 obtain ⟨k3b, n3b⟩ := g3.get k2b n2b
 have b3b := getL k3b
 refine oN ?_
 refine ⟨.inl rfl, _, rfl, ?_⟩
 injection hm with hm
 subst hm
 exact ⟨rfl, F3, p3, f3⟩
def m172 (toks : List Tk) (n : Nat) (R : Rec) (s0 : PS) : Option PS := ((bumpM toks) s0).bind fun s1 => ((R .expr) s1).bind fun s2 => ((expectM toks [59]) s2).bind fun s3 => some s3
theorem m172_w {toks : List Tk} {ip n : Nat} {R : Rec} (IH : IHs toks ip R) (b0 : Nat) : FC Tryz.prog toks ip 170 [.optr b0 0] (m172 toks n R ) unitR (EnvL [(0, gO), (b0, .row [.optr ip 0])]) := by
 refine fc_of fun s0 s' F0 H0 hm p0 i0 => ?_
 obtain ⟨⟨k0a, n0a⟩, ⟨k0b, n0b⟩, _⟩ := i0
 have b0a := getL k0a
 have b0b := getL k0b
 obtain ⟨st0, r0⟩ := p0.row
 have q0 := getL r0
 have hl := lim_le p0.len
 have f0 := Fr.refl F0 H0
 unfold m172 at hm
 refine aF (N := 7) Tryz.func170 rfl rfl (by simp) fun hb' => ?_
 repeat refine wS ?_
 refine wR ?_
 refine eT 1 (by simp only [kA, seval, y84, vint, qC, r0, q0, k0a, b0a, k0b, b0b] <;> with_reducible rfl) (by decide) ?_
 obtain ⟨s1, e1, hm⟩ := oB hm
 refine oC (by simp only [kC, seval, vint, qC, r0, q0, k0a, b0a, k0b, b0b] <;> with_reducible rfl) (by simp only [kC, seval]) (by decide) Tryzgo70 (by exact FN.ap0 (bump_c toks ip) e1 p0) ?_
 rintro _ H1 ⟨rfl, F1, p1, g1⟩
 have f1 : Fr F0 F1 H0 H1 := f0.trans g1
 obtain ⟨st1, r1⟩ := p1.row
 have q1 := getL r1
 obtain ⟨k1a, n1a⟩ := g1.get k0a n0a
 have b1a := getL k1a
 obtain ⟨k1b, n1b⟩ := g1.get k0b n0b
 have b1b := getL k1b
 refine oN ?_
 repeat refine wS ?_
 refine wR ?_
 refine eT 1 (by simp only [kA, seval, y84, vint, qC, r1, q1, k1a, b1a, k1b, b1b] <;> with_reducible rfl) (by decide) ?_
 obtain ⟨s2, e2, hm⟩ := oB hm
 refine oC (by simp only [kC, seval, vint, qC, r1, q1, k1a, b1a, k1b, b1b] <;> with_reducible rfl) (by simp only [kC, seval]) (by decide) Tryzgo103 (by exact FG.ap0 (IH .expr) e2 p1 ⟨k1a, n1a⟩) ?_
 rintro _ H2 ⟨rfl, F2, p2, g2⟩
 have f2 : Fr F0 F2 H0 H2 := f1.trans g2
 obtain ⟨st2, r2⟩ := p2.row
 have q2 := getL r2
 obtain ⟨k2a, n2a⟩ := g2.get k1a n1a
 have b2a := getL k2a
 obtain ⟨k2b, n2b⟩ := g2.get k1b n1b
 have b2b := getL k2b
 refine oN ?_
 repeat refine wS ?_
 refine wR ?_
 refine eT 1 (by simp only [kA, seval, y84, vint, qC, r2, q2, k2a, b2a, k2b, b2b] <;> with_reducible rfl) (by decide) ?_
 obtain ⟨s3, e3, hm⟩ := oB hm
 refine oC (by simp only [kC, seval, vint, qC, r2, q2, k2a, b2a, k2b, b2b] <;> with_reducible rfl) (by simp only [kC, seval]) (by decide) Tryzgo101 (by exact FN.ap0 (expect_c toks ip [59]) e3 p2) ?_
 rintro _ H3 ⟨rfl, F3, p3, g3⟩
 have f3 : Fr F0 F3 H0 H3 := f2.trans g3
 obtain ⟨st3, r3⟩ := p3.row
 have q3 := getL r3
 obtain ⟨k3a, n3a⟩ := g3.get k2a n2a
 have b3a := getL k3a
 obtain ⟨k3b, n3b⟩ := g3.get k2b n2b
 have b3b := getL k3b
 refine oN ?_
 refine ⟨.inl rfl, _, rfl, ?_⟩
 injection hm with hm
 subst hm
 exact ⟨rfl, F3, p3, f3⟩
def m169 (toks : List Tk) (n : Nat) (R : Rec) (s0 : PS) : Option PS := ((bumpM toks) s0).bind fun s1 => ((R .expr) s1).bind fun s2 => ((R .block) s2).bind fun s3 => some s3
theorem m169_w {toks : List Tk} {ip n : Nat} {R : Rec} (IH : IHs toks ip R) (b0 : Nat) : FC Tryz.prog toks ip 167 [.optr b0 0] (m169 toks n R ) unitR (EnvL [(0, gO), (b0, .row [.optr ip 0])]) := by
 refine fc_of fun s0 s' F0 H0 hm p0 i0 => ?_
 obtain ⟨⟨k0a, n0a⟩, ⟨k0b, n0b⟩, _⟩ := i0
 have b0a := getL k0a
 have b0b := getL k0b
 obtain ⟨st0, r0⟩ := p0.row
 have q0 := getL r0
 have hl := lim_le p0.len
 have f0 := Fr.refl F0 H0
 unfold m169 at hm
 refine aF (N := 7) Tryz.func167 rfl rfl (by simp) fun hb' => ?_
 repeat refine wS ?_
 refine wR ?_
 refine eT 1 (by simp only [kA, seval, y84, vint, qC, r0, q0, k0a, b0a, k0b, b0b] <;> with_reducible rfl) (by decide) ?_
 obtain ⟨s1, e1, hm⟩ := oB hm
 refine oC (by simp only [kC, seval, vint, qC, r0, q0, k0a, b0a, k0b, b0b] <;> with_reducible rfl) (by simp only [kC, seval]) (by decide) Tryzgo70 (by exact FN.ap0 (bump_c toks ip) e1 p0) ?_
 rintro _ H1 ⟨rfl, F1, p1, g1⟩
 have f1 : Fr F0 F1 H0 H1 := f0.trans g1
 obtain ⟨st1, r1⟩ := p1.row
 have q1 := getL r1
 obtain ⟨k1a, n1a⟩ := g1.get k0a n0a
 have b1a := getL k1a
 obtain ⟨k1b, n1b⟩ := g1.get k0b n0b
 have b1b := getL k1b
 refine oN ?_
 repeat refine wS ?_
 refine wR ?_
 refine eT 1 (by simp only [kA, seval, y84, vint, qC, r1, q1, k1a, b1a, k1b, b1b] <;> with_reducible rfl) (by decide) ?_
 obtain ⟨s2, e2, hm⟩ := oB hm
 refine oC (by simp only [kC, seval, vint, qC, r1, q1, k1a, b1a, k1b, b1b] <;> with_reducible rfl) (by simp only [kC, seval]) (by decide) Tryzgo103 (by exact FG.ap0 (IH .expr) e2 p1 ⟨k1a, n1a⟩) ?_
 rintro _ H2 ⟨rfl, F2, p2, g2⟩
 have f2 : Fr F0 F2 H0 H2 := f1.trans g2
 obtain ⟨st2, r2⟩ := p2.row
 have q2 := getL r2
 obtain ⟨k2a, n2a⟩ := g2.get k1a n1a
 have b2a := getL k2a
 obtain ⟨k2b, n2b⟩ := g2.get k1b n1b
 have b2b := getL k2b
 refine oN ?_
 repeat refine wS ?_
 refine wR ?_
 refine eT 1 (by simp only [kA, seval, y84, vint, qC, r2, q2, k2a, b2a, k2b, b2b] <;> with_reducible rfl) (by decide) ?_
 obtain ⟨s3, e3, hm⟩ := oB hm
 refine oC (by simp only [kC, seval, vint, qC, r2, q2, k2a, b2a, k2b, b2b] <;> with_reducible rfl) (by simp only [kC, seval]) (by decide) Tryzgo121 (by exact FG.ap0 (IH .block) e3 p2 ⟨k2a, n2a⟩) ?_
 rintro _ H3 ⟨rfl, F3, p3, g3⟩
 have f3 : Fr F0 F3 H0 H3 := f2.trans g3
 obtain ⟨st3, r3⟩ := p3.row
 have q3 := getL r3
 obtain ⟨k3a, n3a⟩ := g3.get k2a n2a
 have b3a := getL k3a
 obtain ⟨k3b, n3b⟩ := g3.get k2b n2b
 have b3b := getL k3b
 refine oN ?_
 refine ⟨.inl rfl, _, rfl, ?_⟩
 injection hm with hm
 subst hm
 exact ⟨rfl, F3, p3, f3⟩
def m196 (toks : List Tk) (n : Nat) (R : Rec) (s0 : PS) : Option PS := ((bumpM toks) s0).bind fun s1 => ((expectIdentM toks) s1).bind fun s2 => some s2
theorem m196_w {toks : List Tk} {ip n : Nat} {R : Rec} (IH : IHs toks ip R) (b0 : Nat) : FC Tryz.prog toks ip 194 [.optr b0 0] (m196 toks n R ) unitR (EnvL [(0, gO), (b0, .row [.optr ip 0])]) := by
 refine fc_of fun s0 s' F0 H0 hm p0 i0 => ?_
 obtain ⟨⟨k0a, n0a⟩, ⟨k0b, n0b⟩, _⟩ := i0
 have b0a := getL k0a
 have b0b := getL k0b
 obtain ⟨st0, r0⟩ := p0.row
 have q0 := getL r0
 have hl := lim_le p0.len
 have f0 := Fr.refl F0 H0
 unfold m196 at hm
 refine aF (N := 5) Tryz.func194 rfl rfl (by simp) fun hb' => ?_
 repeat refine wS ?_
 refine wR ?_
 refine eT 1 (by simp only [kA, seval, y84, vint, qC, r0, q0, k0a, b0a, k0b, b0b] <;> with_reducible rfl) (by decide) ?_
 obtain ⟨s1, e1, hm⟩ := oB hm
 refine oC (by simp only [kC, seval, vint, qC, r0, q0, k0a, b0a, k0b, b0b] <;> with_reducible rfl) (by simp only [kC, seval]) (by decide) Tryzgo70 (by exact FN.ap0 (bump_c toks ip) e1 p0) ?_
 rintro _ H1 ⟨rfl, F1, p1, g1⟩
 have f1 : Fr F0 F1 H0 H1 := f0.trans g1
 obtain ⟨st1, r1⟩ := p1.row
 have q1 := getL r1
 obtain ⟨k1a, n1a⟩ := g1.get k0a n0a
 have b1a := getL k1a
 obtain ⟨k1b, n1b⟩ := g1.get k0b n0b
 have b1b := getL k1b
 refine oN ?_
 repeat refine wS ?_
 refine wR ?_
 refine eT 1 (by simp only [kA, seval, y84, vint, qC, r1, q1, k1a, b1a, k1b, b1b] <;> with_reducible rfl) (by decide) ?_
 obtain ⟨s2, e2, hm⟩ := oB hm
 refine oC (by simp only [kC, seval, vint, qC, r1, q1, k1a, b1a, k1b, b1b] <;> with_reducible rfl) (by simp only [kC, seval]) (by decide) Tryzgo98 (by exact FN.ap0 (expectIdent_c toks ip) e2 p1) ?_
 rintro _ H2 ⟨rfl, F2, p2, g2⟩
 have f2 : Fr F0 F2 H0 H2 := f1.trans g2
 obtain ⟨st2, r2⟩ := p2.row
 have q2 := getL r2
 obtain ⟨k2a, n2a⟩ := g2.get k1a n1a
 have b2a := getL k2a
 obtain ⟨k2b, n2b⟩ := g2.get k1b n1b
 have b2b := getL k2b
 refine oN ?_
 refine ⟨.inl rfl, _, rfl, ?_⟩
 injection hm with hm
 subst hm
 exact ⟨rfl, F2, p2, f2⟩
def m202 (toks : List Tk) (n : Nat) (R : Rec) (s0 : PS) : Option PS := ((R .pattern) s0).bind fun s1 => ((expectM toks [61, 62]) s1).bind fun s2 => ((R .expr) s2).bind fun s3 => some s3
theorem m202_w {toks : List Tk} {ip n : Nat} {R : Rec} (IH : IHs toks ip R) (b0 : Nat) : FC Tryz.prog toks ip 200 [.optr b0 0] (m202 toks n R ) unitR (EnvL [(0, gO), (b0, .row [.optr ip 0])]) := by
 refine fc_of fun s0 s' F0 H0 hm p0 i0 => ?_
 obtain ⟨⟨k0a, n0a⟩, ⟨k0b, n0b⟩, _⟩ := i0
 have b0a := getL k0a
 have b0b := getL k0b
 obtain ⟨st0, r0⟩ := p0.row
 have q0 := getL r0
 have hl := lim_le p0.len
 have f0 := Fr.refl F0 H0
 unfold m202 at hm
 refine aF (N := 7) Tryz.func200 rfl rfl (by simp) fun hb' => ?_
 repeat refine wS ?_
 refine wR ?_
 refine eT 1 (by simp only [kA, seval, y84, vint, qC, r0, q0, k0a, b0a, k0b, b0b] <;> with_reducible rfl) (by decide) ?_
 obtain ⟨s1, e1, hm⟩ := oB hm
 refine oC (by simp only [kC, seval, vint, qC, r0, q0, k0a, b0a, k0b, b0b] <;> with_reducible rfl) (by simp only [kC, seval]) (by decide) Tryzgo180 (by exact FG.ap0 (IH .pattern) e1 p0 ⟨k0a, n0a⟩) ?_
 rintro _ H1 ⟨rfl, F1, p1, g1⟩
 have f1 : Fr F0 F1 H0 H1 := f0.trans g1
 obtain ⟨st1, r1⟩ := p1.row
 have q1 := getL r1
 obtain ⟨k1a, n1a⟩ := g1.get k0a n0a
 have b1a := getL k1a
 obtain ⟨k1b, n1b⟩ := g1.get k0b n0b
 have b1b := getL k1b
 refine oN ?_
 repeat refine wS ?_
 refine wR ?_
 refine eT 1 (by simp only [kA, seval, y84, vint, qC, r1, q1, k1a, b1a, k1b, b1b] <;> with_reducible rfl) (by decide) ?_
 obtain ⟨s2, e2, hm⟩ := oB hm
 refine oC (by simp only [kC, seval, vint, qC, r1, q1, k1a, b1a, k1b, b1b] <;> with_reducible rfl) (by simp only [kC, seval]) (by decide) Tryzgo101 (by exact FN.ap0 (expect_c toks ip [61, 62]) e2 p1) ?_
 rintro _ H2 ⟨rfl, F2, p2, g2⟩
 have f2 : Fr F0 F2 H0 H2 := f1.trans g2
 obtain ⟨st2, r2⟩ := p2.row
 have q2 := getL r2
 obtain ⟨k2a, n2a⟩ := g2.get k1a n1a
 have b2a := getL k2a
 obtain ⟨k2b, n2b⟩ := g2.get k1b n1b
 have b2b := getL k2b
 refine oN ?_
 repeat refine wS ?_
 refine wR ?_
 refine eT 1 (by simp only [kA, seval, y84, vint, qC, r2, q2, k2a, b2a, k2b, b2b] <;> with_reducible rfl) (by decide) ?_
 obtain ⟨s3, e3, hm⟩ := oB hm
 refine oC (by simp only [kC, seval, vint, qC, r2, q2, k2a, b2a, k2b, b2b] <;> with_reducible rfl) (by simp only [kC, seval]) (by decide) Tryzgo103 (by exact FG.ap0 (IH .expr) e3 p2 ⟨k2a, n2a⟩) ?_
 rintro _ H3 ⟨rfl, F3, p3, g3⟩
 have f3 : Fr F0 F3 H0 H3 := f2.trans g3
 obtain ⟨st3, r3⟩ := p3.row
 have q3 := getL r3
 obtain ⟨k3a, n3a⟩ := g3.get k2a n2a
 have b3a := getL k3a
 obtain ⟨k3b, n3b⟩ := g3.get k2b n2b
 have b3b := getL k3b
 refine oN ?_
 refine ⟨.inl rfl, _, rfl, ?_⟩
 injection hm with hm
 subst hm
 exact ⟨rfl, F3, p3, f3⟩
def m204 (toks : List Tk) (n : Nat) (R : Rec) (s0 : PS) : Option PS := ((bumpM toks) s0).bind fun s1 => ((expectM toks [58]) s1).bind fun s2 => ((R .expr) s2).bind fun s3 => some s3
theorem m204_w {toks : List Tk} {ip n : Nat} {R : Rec} (IH : IHs toks ip R) (b0 : Nat) : FC Tryz.prog toks ip 202 [.optr b0 0] (m204 toks n R ) unitR (EnvL [(0, gO), (b0, .row [.optr ip 0])]) := by
 refine fc_of fun s0 s' F0 H0 hm p0 i0 => ?_
 obtain ⟨⟨k0a, n0a⟩, ⟨k0b, n0b⟩, _⟩ := i0
 have b0a := getL k0a
 have b0b := getL k0b
 obtain ⟨st0, r0⟩ := p0.row
 have q0 := getL r0
 have hl := lim_le p0.len
 have f0 := Fr.refl F0 H0
 unfold m204 at hm
 refine aF (N := 7) Tryz.func202 rfl rfl (by simp) fun hb' => ?_
 repeat refine wS ?_
 refine wR ?_
 refine eT 1 (by simp only [kA, seval, y84, vint, qC, r0, q0, k0a, b0a, k0b, b0b] <;> with_reducible rfl) (by decide) ?_
 obtain ⟨s1, e1, hm⟩ := oB hm
 refine oC (by simp only [kC, seval, vint, qC, r0, q0, k0a, b0a, k0b, b0b] <;> with_reducible rfl) (by simp only [kC, seval]) (by decide) Tryzgo70 (by exact FN.ap0 (bump_c toks ip) e1 p0) ?_
 rintro _ H1 ⟨rfl, F1, p1, g1⟩
 have f1 : Fr F0 F1 H0 H1 := f0.trans g1
 obtain ⟨st1, r1⟩ := p1.row
 have q1 := getL r1
 obtain ⟨k1a, n1a⟩ := g1.get k0a n0a
 have b1a := getL k1a
 obtain ⟨k1b, n1b⟩ := g1.get k0b n0b
 have b1b := getL k1b
 refine oN ?_
 repeat refine wS ?_
 refine wR ?_
 refine eT 1 (by simp only [kA, seval, y84, vint, qC, r1, q1, k1a, b1a, k1b, b1b] <;> with_reducible rfl) (by decide) ?_
 obtain ⟨s2, e2, hm⟩ := oB hm
 refine oC (by simp only [kC, seval, vint, qC, r1, q1, k1a, b1a, k1b, b1b] <;> with_reducible rfl) (by simp only [kC, seval]) (by decide) Tryzgo101 (by exact FN.ap0 (expect_c toks ip [58]) e2 p1) ?_
 rintro _ H2 ⟨rfl, F2, p2, g2⟩
 have f2 : Fr F0 F2 H0 H2 := f1.trans g2
 obtain ⟨st2, r2⟩ := p2.row
 have q2 := getL r2
 obtain ⟨k2a, n2a⟩ := g2.get k1a n1a
 have b2a := getL k2a
 obtain ⟨k2b, n2b⟩ := g2.get k1b n1b
 have b2b := getL k2b
 refine oN ?_
 repeat refine wS ?_
 refine wR ?_
 refine eT 1 (by simp only [kA, seval, y84, vint, qC, r2, q2, k2a, b2a, k2b, b2b] <;> with_reducible rfl) (by decide) ?_
 obtain ⟨s3, e3, hm⟩ := oB hm
 refine oC (by simp only [kC, seval, vint, qC, r2, q2, k2a, b2a, k2b, b2b] <;> with_reducible rfl) (by simp only [kC, seval]) (by decide) Tryzgo103 (by exact FG.ap0 (IH .expr) e3 p2 ⟨k2a, n2a⟩) ?_
 rintro _ H3 ⟨rfl, F3, p3, g3⟩
 have f3 : Fr F0 F3 H0 H3 := f2.trans g3
 obtain ⟨st3, r3⟩ := p3.row
 have q3 := getL r3
 obtain ⟨k3a, n3a⟩ := g3.get k2a n2a
 have b3a := getL k3a
 obtain ⟨k3b, n3b⟩ := g3.get k2b n2b
 have b3b := getL k3b
 refine oN ?_
 refine ⟨.inl rfl, _, rfl, ?_⟩
 injection hm with hm
 subst hm
 exact ⟨rfl, F3, p3, f3⟩
def m125 (toks : List Tk) (n : Nat) (R : Rec) (s0 : PS) : Option PS := ((bumpM toks) s0).bind fun s1 => ((expectM toks [58]) s1).bind fun s2 => ((R .typeExpr) s2).bind fun s3 => some s3
theorem m125_w {toks : List Tk} {ip n : Nat} {R : Rec} (IH : IHs toks ip R) (b0 : Nat) : FC Tryz.prog toks ip 125 [.optr b0 0] (m125 toks n R ) unitR (EnvL [(0, gO), (b0, .row [.optr ip 0])]) := by
 refine fc_of fun s0 s' F0 H0 hm p0 i0 => ?_
 obtain ⟨⟨k0a, n0a⟩, ⟨k0b, n0b⟩, _⟩ := i0
 have b0a := getL k0a
 have b0b := getL k0b
 obtain ⟨st0, r0⟩ := p0.row
 have q0 := getL r0
 have hl := lim_le p0.len
 have f0 := Fr.refl F0 H0
 unfold m125 at hm
 refine aF (N := 7) Tryz.func125 rfl rfl (by simp) fun hb' => ?_
 repeat refine wS ?_
 refine wR ?_
 refine eT 1 (by simp only [kA, seval, y84, vint, qC, r0, q0, k0a, b0a, k0b, b0b] <;> with_reducible rfl) (by decide) ?_
 obtain ⟨s1, e1, hm⟩ := oB hm
 refine oC (by simp only [kC, seval, vint, qC, r0, q0, k0a, b0a, k0b, b0b] <;> with_reducible rfl) (by simp only [kC, seval]) (by decide) Tryzgo70 (by exact FN.ap0 (bump_c toks ip) e1 p0) ?_
 rintro _ H1 ⟨rfl, F1, p1, g1⟩
 have f1 : Fr F0 F1 H0 H1 := f0.trans g1
 obtain ⟨st1, r1⟩ := p1.row
 have q1 := getL r1
 obtain ⟨k1a, n1a⟩ := g1.get k0a n0a
 have b1a := getL k1a
 obtain ⟨k1b, n1b⟩ := g1.get k0b n0b
 have b1b := getL k1b
 refine oN ?_
 repeat refine wS ?_
 refine wR ?_
 refine eT 1 (by simp only [kA, seval, y84, vint, qC, r1, q1, k1a, b1a, k1b, b1b] <;> with_reducible rfl) (by decide) ?_
 obtain ⟨s2, e2, hm⟩ := oB hm
 refine oC (by simp only [kC, seval, vint, qC, r1, q1, k1a, b1a, k1b, b1b] <;> with_reducible rfl) (by simp only [kC, seval]) (by decide) Tryzgo101 (by exact FN.ap0 (expect_c toks ip [58]) e2 p1) ?_
 rintro _ H2 ⟨rfl, F2, p2, g2⟩
 have f2 : Fr F0 F2 H0 H2 := f1.trans g2
 obtain ⟨st2, r2⟩ := p2.row
 have q2 := getL r2
 obtain ⟨k2a, n2a⟩ := g2.get k1a n1a
 have b2a := getL k2a
 obtain ⟨k2b, n2b⟩ := g2.get k1b n1b
 have b2b := getL k2b
 refine oN ?_
 repeat refine wS ?_
 refine wR ?_
 refine eT 1 (by simp only [kA, seval, y84, vint, qC, r2, q2, k2a, b2a, k2b, b2b] <;> with_reducible rfl) (by decide) ?_
 obtain ⟨s3, e3, hm⟩ := oB hm
 refine oC (by simp only [kC, seval, vint, qC, r2, q2, k2a, b2a, k2b, b2b] <;> with_reducible rfl) (by simp only [kC, seval]) (by decide) Tryzgo102 (by exact FG.ap0 (IH .typeExpr) e3 p2 ⟨k2a, n2a⟩) ?_
 rintro _ H3 ⟨rfl, F3, p3, g3⟩
 have f3 : Fr F0 F3 H0 H3 := f2.trans g3
 obtain ⟨st3, r3⟩ := p3.row
 have q3 := getL r3
 obtain ⟨k3a, n3a⟩ := g3.get k2a n2a
 have b3a := getL k3a
 obtain ⟨k3b, n3b⟩ := g3.get k2b n2b
 have b3b := getL k3b
 refine oN ?_
 refine ⟨.inl rfl, _, rfl, ?_⟩
 injection hm with hm
 subst hm
 exact ⟨rfl, F3, p3, f3⟩
def m138 (toks : List Tk) (n : Nat) (R : Rec) (s0 : PS) : Option PS := ((bumpM toks) s0).bind fun s1 => ((optionalM toks ([58]) (R .typeExpr)) s1).bind fun s2 => some s2
theorem m138_w {toks : List Tk} {ip n : Nat} {R : Rec} (IH : IHs toks ip R) (b0 : Nat) : FC Tryz.prog toks ip 138 [.optr b0 0] (m138 toks n R ) unitR (EnvL [(0, gO), (b0, .row [.optr ip 0])]) := by
 refine fc_of fun s0 s' F0 H0 hm p0 i0 => ?_
 obtain ⟨⟨k0a, n0a⟩, ⟨k0b, n0b⟩, _⟩ := i0
 have b0a := getL k0a
 have b0b := getL k0b
 obtain ⟨st0, r0⟩ := p0.row
 have q0 := getL r0
 have hl := lim_le p0.len
 have f0 := Fr.refl F0 H0
 unfold m138 at hm
 refine aF (N := 7) Tryz.func138 rfl rfl (by simp) fun hb' => ?_
 repeat refine wS ?_
 refine wR ?_
 refine eT 1 (by simp only [kA, seval, y84, vint, qC, r0, q0, k0a, b0a, k0b, b0b] <;> with_reducible rfl) (by decide) ?_
 obtain ⟨s1, e1, hm⟩ := oB hm
 refine oC (by simp only [kC, seval, vint, qC, r0, q0, k0a, b0a, k0b, b0b] <;> with_reducible rfl) (by simp only [kC, seval]) (by decide) Tryzgo70 (by exact FN.ap0 (bump_c toks ip) e1 p0) ?_
 rintro _ H1 ⟨rfl, F1, p1, g1⟩
 have f1 : Fr F0 F1 H0 H1 := f0.trans g1
 obtain ⟨st1, r1⟩ := p1.row
 have q1 := getL r1
 obtain ⟨k1a, n1a⟩ := g1.get k0a n0a
 have b1a := getL k1a
 obtain ⟨k1b, n1b⟩ := g1.get k0b n0b
 have b1b := getL k1b
 refine oN ?_
 repeat refine wS ?_
 refine wR ?_
 refine eT 3 (by simp only [kA, seval, y84, vint, qC, r1, q1, k1a, b1a, k1b, b1b] <;> with_reducible rfl) (by decide) ?_
 obtain ⟨s2, e2, hm⟩ := oB hm
 refine oC (by simp only [kC, seval, vint, qC, r1, q1, k1a, b1a, k1b, b1b] <;> with_reducible rfl) (by simp only [kC, seval]) (by decide) Tryzgo119 (by exact FC.ap0 (optional_c toks ip ([58]) 102 [.optr ip 0] [] Tryzgo102 (stbL [(0, gO)]) (FG.fc (IH .typeExpr))) e2 p1 ⟨⟨k1a, n1a⟩, trivial⟩) ?_
 rintro _ H2 ⟨rfl, F2, p2, g2⟩
 have f2 : Fr F0 F2 H0 H2 := f1.trans g2
 obtain ⟨st2, r2⟩ := p2.row
 have q2 := getL r2
 obtain ⟨k2a, n2a⟩ := g2.get k1a n1a
 have b2a := getL k2a
 obtain ⟨k2b, n2b⟩ := g2.get k1b n1b
 have b2b := getL k2b
 refine oN ?_
 refine ⟨.inl rfl, _, rfl, ?_⟩
 injection hm with hm
 subst hm
 exact ⟨rfl, F2, p2, f2⟩
def m131 (toks : List Tk) (n : Nat) (R : Rec) (s0 : PS) : Option PS := ((bumpM toks) s0).bind fun s1 => ((acceptM toks [[109, 117, 116]]) s1).bind fun s2 => ((R .typeExpr) s2).bind fun s3 => some s3
theorem m131_w {toks : List Tk} {ip n : Nat} {R : Rec} (IH : IHs toks ip R) (b0 : Nat) : FC Tryz.prog toks ip 131 [.optr b0 0] (m131 toks n R ) unitR (EnvL [(0, gO), (b0, .row [.optr ip 0])]) := by
 refine fc_of fun s0 s' F0 H0 hm p0 i0 => ?_
 obtain ⟨⟨k0a, n0a⟩, ⟨k0b, n0b⟩, _⟩ := i0
 have b0a := getL k0a
 have b0b := getL k0b
 obtain ⟨st0, r0⟩ := p0.row
 have q0 := getL r0
 have hl := lim_le p0.len
 have f0 := Fr.refl F0 H0
 unfold m131 at hm
 refine aF (N := 8) Tryz.func131 rfl rfl (by simp) fun hb' => ?_
 repeat refine wS ?_
 refine wR ?_
 refine eT 1 (by simp only [kA, seval, y84, vint, qC, r0, q0, k0a, b0a, k0b, b0b] <;> with_reducible rfl) (by decide) ?_
 obtain ⟨s1, e1, hm⟩ := oB hm
 refine oC (by simp only [kC, seval, vint, qC, r0, q0, k0a, b0a, k0b, b0b] <;> with_reducible rfl) (by simp only [kC, seval]) (by decide) Tryzgo70 (by exact FN.ap0 (bump_c toks ip) e1 p0) ?_
 rintro _ H1 ⟨rfl, F1, p1, g1⟩
 have f1 : Fr F0 F1 H0 H1 := f0.trans g1
 obtain ⟨st1, r1⟩ := p1.row
 have q1 := getL r1
 obtain ⟨k1a, n1a⟩ := g1.get k0a n0a
 have b1a := getL k1a
 obtain ⟨k1b, n1b⟩ := g1.get k0b n0b
 have b1b := getL k1b
 refine oN ?_
 repeat refine wS ?_
 refine wR ?_
 refine eT 2 (by simp only [kA, seval, y9, y84, y56, vint, qC, r1, q1, k1a, b1a, k1b, b1b] <;> with_reducible rfl) (by decide) ?_
 obtain ⟨s2, e2, hm⟩ := oB hm
 refine oC (by simp only [kC, seval, vint, qC, r1, q1, k1a, b1a, k1b, b1b] <;> with_reducible rfl) (by simp only [kC, seval]) (by decide) Tryzgo69 (by exact FN.ap0 (accept_c toks ip [[109, 117, 116]] (by decide)) e2 p1) ?_
 rintro _ H2 ⟨rfl, F2, p2, g2⟩
 have f2 : Fr F0 F2 H0 H2 := f1.trans g2
 obtain ⟨st2, r2⟩ := p2.row
 have q2 := getL r2
 obtain ⟨k2a, n2a⟩ := g2.get k1a n1a
 have b2a := getL k2a
 obtain ⟨k2b, n2b⟩ := g2.get k1b n1b
 have b2b := getL k2b
 refine oN ?_
 repeat refine wS ?_
 refine wR ?_
 refine eT 1 (by simp only [kA, seval, y84, vint, qC, r2, q2, k2a, b2a, k2b, b2b] <;> with_reducible rfl) (by decide) ?_
 obtain ⟨s3, e3, hm⟩ := oB hm
 refine oC (by simp only [kC, seval, vint, qC, r2, q2, k2a, b2a, k2b, b2b] <;> with_reducible rfl) (by simp only [kC, seval]) (by decide) Tryzgo102 (by exact FG.ap0 (IH .typeExpr) e3 p2 ⟨k2a, n2a⟩) ?_
 rintro _ H3 ⟨rfl, F3, p3, g3⟩
 have f3 : Fr F0 F3 H0 H3 := f2.trans g3
 obtain ⟨st3, r3⟩ := p3.row
 have q3 := getL r3
 obtain ⟨k3a, n3a⟩ := g3.get k2a n2a
 have b3a := getL k3a
 obtain ⟨k3b, n3b⟩ := g3.get k2b n2b
 have b3b := getL k3b
 refine oN ?_
 refine ⟨.inl rfl, _, rfl, ?_⟩
 injection hm with hm
 subst hm
 exact ⟨rfl, F3, p3, f3⟩
def m132 (toks : List Tk) (n : Nat) (R : Rec) (s0 : PS) : Option PS := ((bumpM toks) s0).bind fun s1 => ((expectM toks [40]) s1).bind fun s2 => ((listM toks n ([41]) (R .typeExpr)) s2).bind fun s3 => ((optionalM toks ([45, 62]) (R .typeExpr)) s3).bind fun s4 => some s4
theorem m132_w {toks : List Tk} {ip n : Nat} {R : Rec} (IH : IHs toks ip R) (b0 : Nat) : FC Tryz.prog toks ip 132 [.optr b0 0] (m132 toks n R ) unitR (EnvL [(0, gO), (b0, .row [.optr ip 0])]) := by
 refine fc_of fun s0 s' F0 H0 hm p0 i0 => ?_
 obtain ⟨⟨k0a, n0a⟩, ⟨k0b, n0b⟩, _⟩ := i0
 have b0a := getL k0a
 have b0b := getL k0b
 obtain ⟨st0, r0⟩ := p0.row
 have q0 := getL r0
 have hl := lim_le p0.len
 have f0 := Fr.refl F0 H0
 unfold m132 at hm
 refine aF (N := 13) Tryz.func132 rfl rfl (by simp) fun hb' => ?_
 repeat refine wS ?_
 refine wR ?_
 refine eT 1 (by simp only [kA, seval, y84, vint, qC, r0, q0, k0a, b0a, k0b, b0b] <;> with_reducible rfl) (by decide) ?_
 obtain ⟨s1, e1, hm⟩ := oB hm
 refine oC (by simp only [kC, seval, vint, qC, r0, q0, k0a, b0a, k0b, b0b] <;> with_reducible rfl) (by simp only [kC, seval]) (by decide) Tryzgo70 (by exact FN.ap0 (bump_c toks ip) e1 p0) ?_
 rintro _ H1 ⟨rfl, F1, p1, g1⟩
 have f1 : Fr F0 F1 H0 H1 := f0.trans g1
 obtain ⟨st1, r1⟩ := p1.row
 have q1 := getL r1
 obtain ⟨k1a, n1a⟩ := g1.get k0a n0a
 have b1a := getL k1a
 obtain ⟨k1b, n1b⟩ := g1.get k0b n0b
 have b1b := getL k1b
 refine oN ?_
 repeat refine wS ?_
 refine wR ?_
 refine eT 1 (by simp only [kA, seval, y84, vint, qC, r1, q1, k1a, b1a, k1b, b1b] <;> with_reducible rfl) (by decide) ?_
 obtain ⟨s2, e2, hm⟩ := oB hm
 refine oC (by simp only [kC, seval, vint, qC, r1, q1, k1a, b1a, k1b, b1b] <;> with_reducible rfl) (by simp only [kC, seval]) (by decide) Tryzgo101 (by exact FN.ap0 (expect_c toks ip [40]) e2 p1) ?_
 rintro _ H2 ⟨rfl, F2, p2, g2⟩
 have f2 : Fr F0 F2 H0 H2 := f1.trans g2
 obtain ⟨st2, r2⟩ := p2.row
 have q2 := getL r2
 obtain ⟨k2a, n2a⟩ := g2.get k1a n1a
 have b2a := getL k2a
 obtain ⟨k2b, n2b⟩ := g2.get k1b n1b
 have b2b := getL k2b
 refine oN ?_
 repeat refine wS ?_
 refine wR ?_
 refine eT 3 (by simp only [kA, seval, y84, vint, qC, r2, q2, k2a, b2a, k2b, b2b] <;> with_reducible rfl) (by decide) ?_
 obtain ⟨s3, e3, hm⟩ := oB hm
 refine oC (by simp only [kC, seval, vint, qC, r2, q2, k2a, b2a, k2b, b2b] <;> with_reducible rfl) (by simp only [kC, seval]) (by decide) Tryzgo122 (by exact FC.ap0 (list_c toks ip n ([41]) 102 [.optr ip 0] [] Tryzgo102 (stbL [(0, gO)]) (fun _ _ _ => envL_hd) (FG.fc (IH .typeExpr))) e3 p2 ⟨⟨k2a, n2a⟩, trivial⟩) ?_
 rintro _ H3 ⟨rfl, F3, p3, g3⟩
 have f3 : Fr F0 F3 H0 H3 := f2.trans g3
 obtain ⟨st3, r3⟩ := p3.row
 have q3 := getL r3
 obtain ⟨k3a, n3a⟩ := g3.get k2a n2a
 have b3a := getL k3a
 obtain ⟨k3b, n3b⟩ := g3.get k2b n2b
 have b3b := getL k3b
 refine oN ?_
 repeat refine wS ?_
 refine wR ?_
 refine eT 3 (by simp only [kA, seval, y84, vint, qC, r3, q3, k3a, b3a, k3b, b3b] <;> with_reducible rfl) (by decide) ?_
 obtain ⟨s4, e4, hm⟩ := oB hm
 refine oC (by simp only [kC, seval, vint, qC, r3, q3, k3a, b3a, k3b, b3b] <;> with_reducible rfl) (by simp only [kC, seval]) (by decide) Tryzgo119 (by exact FC.ap0 (optional_c toks ip ([45, 62]) 102 [.optr ip 0] [] Tryzgo102 (stbL [(0, gO)]) (FG.fc (IH .typeExpr))) e4 p3 ⟨⟨k3a, n3a⟩, trivial⟩) ?_
 rintro _ H4 ⟨rfl, F4, p4, g4⟩
 have f4 : Fr F0 F4 H0 H4 := f3.trans g4
 obtain ⟨st4, r4⟩ := p4.row
 have q4 := getL r4
 obtain ⟨k4a, n4a⟩ := g4.get k3a n3a
 have b4a := getL k4a
 obtain ⟨k4b, n4b⟩ := g4.get k3b n3b
 have b4b := getL k4b
 refine oN ?_
 refine ⟨.inl rfl, _, rfl, ?_⟩
 injection hm with hm
 subst hm
 exact ⟨rfl, F4, p4, f4⟩
def m154 (toks : List Tk) (n : Nat) (R : Rec) (s0 : PS) : Option PS := if atT (peekT toks s0.pos) [[45], [33], [42]] = true then (((nodeM 40 (m175 toks n R )) s0).bind fun s1 => some s1) else (if atT (peekT toks s0.pos) [[38]] = true then (((nodeM 41 (m176 toks n R )) s0).bind fun s1 => some s1) else (((R .primary) s0).bind fun s1 => ((R .postfx) s1).bind fun s2 => some s2))
theorem m154_w {toks : List Tk} {ip n : Nat} {R : Rec} (IH : IHs toks ip R) : FG toks ip 154 [.optr ip 0] (m154 toks n R ) (frv .unary) := by
 intro s0 s' F0 H0 hm p0 i0
 obtain ⟨⟨hg, n0a⟩, _⟩ := i0
 obtain ⟨st0, r0⟩ := p0.row
 have q0 := getL r0
 have hl := lim_le p0.len
 have f0 := Fr.refl F0 H0
 have k0a := getL hg [.row [.optr ip 0]]
 have b0a := getL k0a
 have k0b : (H0 ++ [.row [.optr ip 0]])[H0.length]? = some (.row [.optr ip 0]) := by simp
 have n0b := p0.new0
 have b0b := getL k0b
 unfold m154 at hm
 refine aF (N := 20) Tryz.func154 rfl rfl (by simp) fun hb' => ?_
 repeat refine wS ?_
 refine eE (by simp only [kA, seval, y84, vint, qC, r0, q0, hg] <;> with_reducible rfl) (by decide) ?_
 repeat refine wS ?_
 refine awp_block ?_
 repeat refine wS ?_
 refine wR ?_
 refine eT 2 (by simp only [kA, seval, y9, y84, y56, vint, qC, r0, q0, hg] <;> with_reducible rfl) (by decide) ?_
 refine oP (by simp only [kC, seval, vint, qC, r0, q0, hg] <;> with_reducible rfl) (by simp only [kC, seval]) (by decide) Tryzgo63 (at_c (by exact q0 _) hl p0.pos [[45], [33], [42]] (by decide)) ?_
 refine e_end (by simp only [kA, seval, vint, qC, r0, q0, hg] <;> with_reducible rfl) (by decide) ?_
 repeat refine wS ?_
 refine wC rfl (by simp only [jN, seval, vint, qC, r0, q0, hg] <;> with_reducible rfl) (fun bt6 => ?_) (fun bt6 => ?_)
 ·-- if t6
  rw [ifT bt6] at hm
  repeat refine wS ?_
  refine wR ?_
  refine eT 2 (by simp only [kA, seval, y84, vint, qC, r0, q0, hg] <;> with_reducible rfl) (by decide) ?_
  obtain ⟨s1, e1, hm⟩ := oB hm
  refine oC (by simp only [kC, seval, vint, qC, r0, q0, hg] <;> with_reducible rfl) (by simp only [kC, seval]) (by decide) Tryzgo67 (by exact FC.ap (node_c toks ip 40 173 [] [.optr (H0.length) 0] Tryzgo173 (stbL [(0, gO), (H0.length, .row [.optr ip 0])]) (m175_w (n := n) IH (H0.length) )) e1 p0 ⟨⟨k0a, n0a⟩, ⟨k0b, n0b⟩, trivial⟩) ?_
  rintro _ H1 ⟨rfl, F1, p1, g1⟩
  have f1 : Fr F0 F1 H0 H1 := f0.step g1
  obtain ⟨st1, r1⟩ := p1.row
  have q1 := getL r1
  obtain ⟨k1a, n1a⟩ := g1.get k0a n0a
  have b1a := getL k1a
  obtain ⟨k1b, n1b⟩ := g1.get k0b n0b
  have b1b := getL k1b
  refine oN ?_
  refine ⟨.inl rfl, _, rfl, ?_⟩
  injection hm with hm
  subst hm
  exact ⟨rfl, F1, p1, f1⟩
 ·-- else t6
  rw [ifF bt6] at hm
  repeat refine wS ?_
  refine wR ?_
  refine eT 2 (by simp only [kA, seval, y9, y84, y56, vint, qC, r0, q0, hg] <;> with_reducible rfl) (by decide) ?_
  refine oP (by simp only [kC, seval, vint, qC, r0, q0, hg] <;> with_reducible rfl) (by simp only [kC, seval]) (by decide) Tryzgo63 (at_c (by exact q0 _) hl p0.pos [[38]] (by decide)) ?_
  refine e_end (by simp only [kA, seval, vint, qC, r0, q0, hg] <;> with_reducible rfl) (by decide) ?_
  repeat refine wS ?_
  refine wC rfl (by simp only [jN, seval, vint, qC, r0, q0, hg] <;> with_reducible rfl) (fun bt13 => ?_) (fun bt13 => ?_)
  ·-- if t13
   rw [ifT bt13] at hm
   repeat refine wS ?_
   refine wR ?_
   refine eT 2 (by simp only [kA, seval, y84, vint, qC, r0, q0, hg] <;> with_reducible rfl) (by decide) ?_
   obtain ⟨s1, e1, hm⟩ := oB hm
   refine oC (by simp only [kC, seval, vint, qC, r0, q0, hg] <;> with_reducible rfl) (by simp only [kC, seval]) (by decide) Tryzgo67 (by exact FC.ap (node_c toks ip 41 174 [] [.optr (H0.length) 0] Tryzgo174 (stbL [(0, gO), (H0.length, .row [.optr ip 0])]) (m176_w (n := n) IH (H0.length) )) e1 p0 ⟨⟨k0a, n0a⟩, ⟨k0b, n0b⟩, trivial⟩) ?_
   rintro _ H1 ⟨rfl, F1, p1, g1⟩
   have f1 : Fr F0 F1 H0 H1 := f0.step g1
   obtain ⟨st1, r1⟩ := p1.row
   have q1 := getL r1
   obtain ⟨k1a, n1a⟩ := g1.get k0a n0a
   have b1a := getL k1a
   obtain ⟨k1b, n1b⟩ := g1.get k0b n0b
   have b1b := getL k1b
   refine oN ?_
   refine ⟨.inl rfl, _, rfl, ?_⟩
   injection hm with hm
   subst hm
   exact ⟨rfl, F1, p1, f1⟩
  ·-- else t13
   rw [ifF bt13] at hm
   repeat refine wS ?_
   refine wR ?_
   refine eT 1 (by simp only [kA, seval, y84, vint, qC, r0, q0, hg] <;> with_reducible rfl) (by decide) ?_
   obtain ⟨s1, e1, hm⟩ := oB hm
   refine oC (by simp only [kC, seval, vint, qC, r0, q0, hg] <;> with_reducible rfl) (by simp only [kC, seval]) (by decide) Tryzgo169 (by exact FG.ap' (IH .primary) e1 p0 ⟨k0a, n0a⟩) ?_
   rintro _ H1 ⟨rfl, F1, p1, g1⟩
   have f1 : Fr F0 F1 H0 H1 := f0.step g1
   obtain ⟨st1, r1⟩ := p1.row
   have q1 := getL r1
   obtain ⟨k1a, n1a⟩ := g1.get k0a n0a
   have b1a := getL k1a
   obtain ⟨k1b, n1b⟩ := g1.get k0b n0b
   have b1b := getL k1b
   refine oN ?_
   repeat refine wS ?_
   refine wR ?_
   refine eT 1 (by simp only [kA, seval, y84, vint, qC, hg, r1, q1, k1a, b1a, k1b, b1b] <;> with_reducible rfl) (by decide) ?_
   obtain ⟨s2, e2, hm⟩ := oB hm
   refine oC (by simp only [kC, seval, vint, qC, hg, r1, q1, k1a, b1a, k1b, b1b] <;> with_reducible rfl) (by simp only [kC, seval]) (by decide) Tryzgo175 (by exact FG.ap0 (IH .postfx) e2 p1 ⟨k1a, n1a⟩) ?_
   rintro _ H2 ⟨rfl, F2, p2, g2⟩
   have f2 : Fr F0 F2 H0 H2 := f1.trans g2
   obtain ⟨st2, r2⟩ := p2.row
   have q2 := getL r2
   obtain ⟨k2a, n2a⟩ := g2.get k1a n1a
   have b2a := getL k2a
   obtain ⟨k2b, n2b⟩ := g2.get k1b n1b
   have b2b := getL k2b
   refine oN ?_
   refine ⟨.inl rfl, _, rfl, ?_⟩
   injection hm with hm
   subst hm
   exact ⟨rfl, F2, p2, f2⟩
def m199 (toks : List Tk) (n : Nat) (R : Rec) (s0 : PS) : Option PS := if atT (peekT toks s0.pos) [[105, 102]] = true then (((R .ifExpr) s0).bind fun s1 => some s1) else (((R .block) s0).bind fun s1 => some s1)
theorem m199_w {toks : List Tk} {ip n : Nat} {R : Rec} (IH : IHs toks ip R) (b0 : Nat) : FC Tryz.prog toks ip 197 [.optr b0 0] (m199 toks n R ) unitR (EnvL [(0, gO), (b0, .row [.optr ip 0])]) := by
 refine fc_of fun s0 s' F0 H0 hm p0 i0 => ?_
 obtain ⟨⟨k0a, n0a⟩, ⟨k0b, n0b⟩, _⟩ := i0
 have b0a := getL k0a
 have b0b := getL k0b
 obtain ⟨st0, r0⟩ := p0.row
 have q0 := getL r0
 have hl := lim_le p0.len
 have f0 := Fr.refl F0 H0
 unfold m199 at hm
 refine aF (N := 8) Tryz.func197 rfl rfl (by simp) fun hb' => ?_
 repeat refine wS ?_
 refine wR ?_
 refine eT 2 (by simp only [kA, seval, y9, y84, y56, vint, qC, r0, q0, k0a, b0a, k0b, b0b] <;> with_reducible rfl) (by decide) ?_
 refine oP (by simp only [kC, seval, vint, qC, r0, q0, k0a, b0a, k0b, b0b] <;> with_reducible rfl) (by simp only [kC, seval]) (by decide) Tryzgo63 (at_c r0 hl p0.pos [[105, 102]] (by decide)) ?_
 refine oN ?_
 repeat refine wS ?_
 refine wC rfl (by simp only [jN, seval, vint, qC, r0, q0, k0a, b0a, k0b, b0b] <;> with_reducible rfl) (fun bt3 => ?_) (fun bt3 => ?_)
 ·-- if t3
  rw [ifT bt3] at hm
  repeat refine wS ?_
  refine wR ?_
  refine eT 1 (by simp only [kA, seval, y84, vint, qC, r0, q0, k0a, b0a, k0b, b0b] <;> with_reducible rfl) (by decide) ?_
  obtain ⟨s1, e1, hm⟩ := oB hm
  refine oC (by simp only [kC, seval, vint, qC, r0, q0, k0a, b0a, k0b, b0b] <;> with_reducible rfl) (by simp only [kC, seval]) (by decide) Tryzgo184 (by exact FG.ap0 (IH .ifExpr) e1 p0 ⟨k0a, n0a⟩) ?_
  rintro _ H1 ⟨rfl, F1, p1, g1⟩
  have f1 : Fr F0 F1 H0 H1 := f0.trans g1
  obtain ⟨st1, r1⟩ := p1.row
  have q1 := getL r1
  obtain ⟨k1a, n1a⟩ := g1.get k0a n0a
  have b1a := getL k1a
  obtain ⟨k1b, n1b⟩ := g1.get k0b n0b
  have b1b := getL k1b
  refine oN ?_
  refine ⟨.inl rfl, _, rfl, ?_⟩
  injection hm with hm
  subst hm
  exact ⟨rfl, F1, p1, f1⟩
 ·-- else t3
  rw [ifF bt3] at hm
  repeat refine wS ?_
  refine wR ?_
  refine eT 1 (by simp only [kA, seval, y84, vint, qC, r0, q0, k0a, b0a, k0b, b0b] <;> with_reducible rfl) (by decide) ?_
  obtain ⟨s1, e1, hm⟩ := oB hm
  refine oC (by simp only [kC, seval, vint, qC, r0, q0, k0a, b0a, k0b, b0b] <;> with_reducible rfl) (by simp only [kC, seval]) (by decide) Tryzgo121 (by exact FG.ap0 (IH .block) e1 p0 ⟨k0a, n0a⟩) ?_
  rintro _ H1 ⟨rfl, F1, p1, g1⟩
  have f1 : Fr F0 F1 H0 H1 := f0.trans g1
  obtain ⟨st1, r1⟩ := p1.row
  have q1 := getL r1
  obtain ⟨k1a, n1a⟩ := g1.get k0a n0a
  have b1a := getL k1a
  obtain ⟨k1b, n1b⟩ := g1.get k0b n0b
  have b1b := getL k1b
  refine oN ?_
  refine ⟨.inl rfl, _, rfl, ?_⟩
  injection hm with hm
  subst hm
  exact ⟨rfl, F1, p1, f1⟩
def m198 (toks : List Tk) (n : Nat) (R : Rec) (s0 : PS) : Option PS := ((bumpM toks) s0).bind fun s1 => ((R .expr) s1).bind fun s2 => ((R .block) s2).bind fun s3 => ((optionalM toks ([101, 108, 115, 101]) (m199 toks n R )) s3).bind fun s4 => some s4
theorem m198_w {toks : List Tk} {ip n : Nat} {R : Rec} (IH : IHs toks ip R) (b0 : Nat) : FC Tryz.prog toks ip 196 [.optr b0 0] (m198 toks n R ) unitR (EnvL [(0, gO), (b0, .row [.optr ip 0])]) := by
 refine fc_of fun s0 s' F0 H0 hm p0 i0 => ?_
 obtain ⟨⟨k0a, n0a⟩, ⟨k0b, n0b⟩, _⟩ := i0
 have b0a := getL k0a
 have b0b := getL k0b
 obtain ⟨st0, r0⟩ := p0.row
 have q0 := getL r0
 have hl := lim_le p0.len
 have f0 := Fr.refl F0 H0
 unfold m198 at hm
 refine aF (N := 10) Tryz.func196 rfl rfl (by simp) fun hb' => ?_
 repeat refine wS ?_
 refine wR ?_
 refine eT 1 (by simp only [kA, seval, y84, vint, qC, r0, q0, k0a, b0a, k0b, b0b] <;> with_reducible rfl) (by decide) ?_
 obtain ⟨s1, e1, hm⟩ := oB hm
 refine oC (by simp only [kC, seval, vint, qC, r0, q0, k0a, b0a, k0b, b0b] <;> with_reducible rfl) (by simp only [kC, seval]) (by decide) Tryzgo70 (by exact FN.ap0 (bump_c toks ip) e1 p0) ?_
 rintro _ H1 ⟨rfl, F1, p1, g1⟩
 have f1 : Fr F0 F1 H0 H1 := f0.trans g1
 obtain ⟨st1, r1⟩ := p1.row
 have q1 := getL r1
 obtain ⟨k1a, n1a⟩ := g1.get k0a n0a
 have b1a := getL k1a
 obtain ⟨k1b, n1b⟩ := g1.get k0b n0b
 have b1b := getL k1b
 refine oN ?_
 repeat refine wS ?_
 refine wR ?_
 refine eT 1 (by simp only [kA, seval, y84, vint, qC, r1, q1, k1a, b1a, k1b, b1b] <;> with_reducible rfl) (by decide) ?_
 obtain ⟨s2, e2, hm⟩ := oB hm
 refine oC (by simp only [kC, seval, vint, qC, r1, q1, k1a, b1a, k1b, b1b] <;> with_reducible rfl) (by simp only [kC, seval]) (by decide) Tryzgo103 (by exact FG.ap0 (IH .expr) e2 p1 ⟨k1a, n1a⟩) ?_
 rintro _ H2 ⟨rfl, F2, p2, g2⟩
 have f2 : Fr F0 F2 H0 H2 := f1.trans g2
 obtain ⟨st2, r2⟩ := p2.row
 have q2 := getL r2
 obtain ⟨k2a, n2a⟩ := g2.get k1a n1a
 have b2a := getL k2a
 obtain ⟨k2b, n2b⟩ := g2.get k1b n1b
 have b2b := getL k2b
 refine oN ?_
 repeat refine wS ?_
 refine wR ?_
 refine eT 1 (by simp only [kA, seval, y84, vint, qC, r2, q2, k2a, b2a, k2b, b2b] <;> with_reducible rfl) (by decide) ?_
 obtain ⟨s3, e3, hm⟩ := oB hm
 refine oC (by simp only [kC, seval, vint, qC, r2, q2, k2a, b2a, k2b, b2b] <;> with_reducible rfl) (by simp only [kC, seval]) (by decide) Tryzgo121 (by exact FG.ap0 (IH .block) e3 p2 ⟨k2a, n2a⟩) ?_
 rintro _ H3 ⟨rfl, F3, p3, g3⟩
 have f3 : Fr F0 F3 H0 H3 := f2.trans g3
 obtain ⟨st3, r3⟩ := p3.row
 have q3 := getL r3
 obtain ⟨k3a, n3a⟩ := g3.get k2a n2a
 have b3a := getL k3a
 obtain ⟨k3b, n3b⟩ := g3.get k2b n2b
 have b3b := getL k3b
 refine oN ?_
 repeat refine wS ?_
 refine wR ?_
 refine eT 2 (by simp only [kA, seval, y84, vint, qC, r3, q3, k3a, b3a, k3b, b3b] <;> with_reducible rfl) (by decide) ?_
 obtain ⟨s4, e4, hm⟩ := oB hm
 refine oC (by simp only [kC, seval, vint, qC, r3, q3, k3a, b3a, k3b, b3b] <;> with_reducible rfl) (by simp only [kC, seval]) (by decide) Tryzgo119 (by exact FC.ap0 (optional_c toks ip ([101, 108, 115, 101]) 197 [] [.optr (b0) 0] Tryzgo197 (stbL [(0, gO), (b0, .row [.optr ip 0])]) (m199_w (n := n) IH (b0) )) e4 p3 ⟨⟨k3a, n3a⟩, ⟨k3b, n3b⟩, trivial⟩) ?_
 rintro _ H4 ⟨rfl, F4, p4, g4⟩
 have f4 : Fr F0 F4 H0 H4 := f3.trans g4
 obtain ⟨st4, r4⟩ := p4.row
 have q4 := getL r4
 obtain ⟨k4a, n4a⟩ := g4.get k3a n3a
 have b4a := getL k4a
 obtain ⟨k4b, n4b⟩ := g4.get k3b n3b
 have b4b := getL k4b
 refine oN ?_
 refine ⟨.inl rfl, _, rfl, ?_⟩
 injection hm with hm
 subst hm
 exact ⟨rfl, F4, p4, f4⟩
def m186 (toks : List Tk) (n : Nat) (R : Rec) (s0 : PS) : Option PS := ((nodeM 37 (m198 toks n R )) s0).bind fun s1 => some s1
theorem m186_w {toks : List Tk} {ip n : Nat} {R : Rec} (IH : IHs toks ip R) : FG toks ip 184 [.optr ip 0] (m186 toks n R ) (frv .ifExpr) := by
 intro s0 s' F0 H0 hm p0 i0
 obtain ⟨⟨hg, n0a⟩, _⟩ := i0
 obtain ⟨st0, r0⟩ := p0.row
 have q0 := getL r0
 have hl := lim_le p0.len
 have f0 := Fr.refl F0 H0
 have k0a := getL hg [.row [.optr ip 0]]
 have b0a := getL k0a
 have k0b : (H0 ++ [.row [.optr ip 0]])[H0.length]? = some (.row [.optr ip 0]) := by simp
 have n0b := p0.new0
 have b0b := getL k0b
 unfold m186 at hm
 refine aF (N := 5) Tryz.func184 rfl rfl (by simp) fun hb' => ?_
 repeat refine wS ?_
 refine eE (by simp only [kA, seval, y84, vint, qC, r0, q0, hg] <;> with_reducible rfl) (by decide) ?_
 repeat refine wS ?_
 refine wR ?_
 refine eT 2 (by simp only [kA, seval, y84, vint, qC, r0, q0, hg] <;> with_reducible rfl) (by decide) ?_
 obtain ⟨s1, e1, hm⟩ := oB hm
 refine oC (by simp only [kC, seval, vint, qC, r0, q0, hg] <;> with_reducible rfl) (by simp only [kC, seval]) (by decide) Tryzgo67 (by exact FC.ap (node_c toks ip 37 196 [] [.optr (H0.length) 0] Tryzgo196 (stbL [(0, gO), (H0.length, .row [.optr ip 0])]) (m198_w (n := n) IH (H0.length) )) e1 p0 ⟨⟨k0a, n0a⟩, ⟨k0b, n0b⟩, trivial⟩) ?_
 rintro _ H1 ⟨rfl, F1, p1, g1⟩
 have f1 : Fr F0 F1 H0 H1 := f0.step g1
 obtain ⟨st1, r1⟩ := p1.row
 have q1 := getL r1
 obtain ⟨k1a, n1a⟩ := g1.get k0a n0a
 have b1a := getL k1a
 obtain ⟨k1b, n1b⟩ := g1.get k0b n0b
 have b1b := getL k1b
 refine oN ?_
 refine ⟨.inl rfl, _, rfl, ?_⟩
 injection hm with hm
 subst hm
 exact ⟨rfl, F1, p1, f1⟩
def m200 (toks : List Tk) (n : Nat) (R : Rec) (s0 : PS) : Option PS := if atPatT (peekT toks s0.pos) = true then (((nodeM 36 (m202 toks n R )) s0).bind fun s1 => some s1) else (some s0)
theorem m200_w {toks : List Tk} {ip n : Nat} {R : Rec} (IH : IHs toks ip R) (b0 : Nat) : FC Tryz.prog toks ip 198 [.optr b0 0] (m200 toks n R ) unitR (EnvL [(0, gO), (b0, .row [.optr ip 0])]) := by
 refine fc_of fun s0 s' F0 H0 hm p0 i0 => ?_
 obtain ⟨⟨k0a, n0a⟩, ⟨k0b, n0b⟩, _⟩ := i0
 have b0a := getL k0a
 have b0b := getL k0b
 obtain ⟨st0, r0⟩ := p0.row
 have q0 := getL r0
 have hl := lim_le p0.len
 have f0 := Fr.refl F0 H0
 unfold m200 at hm
 refine aF (N := 6) Tryz.func198 rfl rfl (by simp) fun hb' => ?_
 repeat refine wS ?_
 refine wR ?_
 refine eT 1 (by simp only [kA, seval, y84, vint, qC, r0, q0, k0a, b0a, k0b, b0b] <;> with_reducible rfl) (by decide) ?_
 refine oP (by simp only [kC, seval, vint, qC, r0, q0, k0a, b0a, k0b, b0b] <;> with_reducible rfl) (by simp only [kC, seval]) (by decide) Tryzgo199 (atPattern_c r0 hl p0.pos) ?_
 refine oN ?_
 repeat refine wS ?_
 refine wC rfl (by simp only [jN, seval, vint, qC, r0, q0, k0a, b0a, k0b, b0b] <;> with_reducible rfl) (fun bt2 => ?_) (fun bt2 => ?_)
 ·-- if t2
  rw [ifT bt2] at hm
  repeat refine wS ?_
  refine wR ?_
  refine eT 2 (by simp only [kA, seval, y84, vint, qC, r0, q0, k0a, b0a, k0b, b0b] <;> with_reducible rfl) (by decide) ?_
  obtain ⟨s1, e1, hm⟩ := oB hm
  refine oC (by simp only [kC, seval, vint, qC, r0, q0, k0a, b0a, k0b, b0b] <;> with_reducible rfl) (by simp only [kC, seval]) (by decide) Tryzgo67 (by exact FC.ap0 (node_c toks ip 36 200 [] [.optr (b0) 0] Tryzgo200 (stbL [(0, gO), (b0, .row [.optr ip 0])]) (m202_w (n := n) IH (b0) )) e1 p0 ⟨⟨k0a, n0a⟩, ⟨k0b, n0b⟩, trivial⟩) ?_
  rintro _ H1 ⟨rfl, F1, p1, g1⟩
  have f1 : Fr F0 F1 H0 H1 := f0.trans g1
  obtain ⟨st1, r1⟩ := p1.row
  have q1 := getL r1
  obtain ⟨k1a, n1a⟩ := g1.get k0a n0a
  have b1a := getL k1a
  obtain ⟨k1b, n1b⟩ := g1.get k0b n0b
  have b1b := getL k1b
  refine oN ?_
  refine ⟨.inl rfl, _, rfl, ?_⟩
  injection hm with hm
  subst hm
  exact ⟨rfl, F1, p1, f1⟩
 ·-- else t2
  rw [ifF bt2] at hm
  repeat refine wS ?_
  refine wK ?_
  refine ⟨.inl rfl, _, rfl, ?_⟩
  injection hm with hm
  subst hm
  exact ⟨rfl, F0, p0, f0⟩
def m187 (toks : List Tk) (n : Nat) (R : Rec) (s0 : PS) : Option PS := ((bumpM toks) s0).bind fun s1 => ((R .expr) s1).bind fun s2 => ((expectM toks [123]) s2).bind fun s3 => ((listM toks n ([125]) (m200 toks n R )) s3).bind fun s4 => some s4
theorem m187_w {toks : List Tk} {ip n : Nat} {R : Rec} (IH : IHs toks ip R) : FG toks ip 185 [.optr ip 0] (m187 toks n R ) (frv .matchE) := by
 intro s0 s' F0 H0 hm p0 i0
 obtain ⟨⟨hg, n0a⟩, _⟩ := i0
 obtain ⟨st0, r0⟩ := p0.row
 have q0 := getL r0
 have hl := lim_le p0.len
 have f0 := Fr.refl F0 H0
 have k0a := getL hg [.row [.optr ip 0]]
 have b0a := getL k0a
 have k0b : (H0 ++ [.row [.optr ip 0]])[H0.length]? = some (.row [.optr ip 0]) := by simp
 have n0b := p0.new0
 have b0b := getL k0b
 unfold m187 at hm
 refine aF (N := 11) Tryz.func185 rfl rfl (by simp) fun hb' => ?_
 repeat refine wS ?_
 refine eE (by simp only [kA, seval, y84, vint, qC, r0, q0, hg] <;> with_reducible rfl) (by decide) ?_
 repeat refine wS ?_
 refine wR ?_
 refine eT 1 (by simp only [kA, seval, y84, vint, qC, r0, q0, hg] <;> with_reducible rfl) (by decide) ?_
 obtain ⟨s1, e1, hm⟩ := oB hm
 refine oC (by simp only [kC, seval, vint, qC, r0, q0, hg] <;> with_reducible rfl) (by simp only [kC, seval]) (by decide) Tryzgo70 (by exact FN.ap (bump_c toks ip) e1 p0 _) ?_
 rintro _ H1 ⟨rfl, F1, p1, g1⟩
 have f1 : Fr F0 F1 H0 H1 := f0.step g1
 obtain ⟨st1, r1⟩ := p1.row
 have q1 := getL r1
 obtain ⟨k1a, n1a⟩ := g1.get k0a n0a
 have b1a := getL k1a
 obtain ⟨k1b, n1b⟩ := g1.get k0b n0b
 have b1b := getL k1b
 refine oN ?_
 repeat refine wS ?_
 refine wR ?_
 refine eT 1 (by simp only [kA, seval, y84, vint, qC, hg, r1, q1, k1a, b1a, k1b, b1b] <;> with_reducible rfl) (by decide) ?_
 obtain ⟨s2, e2, hm⟩ := oB hm
 refine oC (by simp only [kC, seval, vint, qC, hg, r1, q1, k1a, b1a, k1b, b1b] <;> with_reducible rfl) (by simp only [kC, seval]) (by decide) Tryzgo103 (by exact FG.ap0 (IH .expr) e2 p1 ⟨k1a, n1a⟩) ?_
 rintro _ H2 ⟨rfl, F2, p2, g2⟩
 have f2 : Fr F0 F2 H0 H2 := f1.trans g2
 obtain ⟨st2, r2⟩ := p2.row
 have q2 := getL r2
 obtain ⟨k2a, n2a⟩ := g2.get k1a n1a
 have b2a := getL k2a
 obtain ⟨k2b, n2b⟩ := g2.get k1b n1b
 have b2b := getL k2b
 refine oN ?_
 repeat refine wS ?_
 refine wR ?_
 refine eT 1 (by simp only [kA, seval, y84, vint, qC, hg, r2, q2, k2a, b2a, k2b, b2b] <;> with_reducible rfl) (by decide) ?_
 obtain ⟨s3, e3, hm⟩ := oB hm
 refine oC (by simp only [kC, seval, vint, qC, hg, r2, q2, k2a, b2a, k2b, b2b] <;> with_reducible rfl) (by simp only [kC, seval]) (by decide) Tryzgo101 (by exact FN.ap0 (expect_c toks ip [123]) e3 p2) ?_
 rintro _ H3 ⟨rfl, F3, p3, g3⟩
 have f3 : Fr F0 F3 H0 H3 := f2.trans g3
 obtain ⟨st3, r3⟩ := p3.row
 have q3 := getL r3
 obtain ⟨k3a, n3a⟩ := g3.get k2a n2a
 have b3a := getL k3a
 obtain ⟨k3b, n3b⟩ := g3.get k2b n2b
 have b3b := getL k3b
 refine oN ?_
 repeat refine wS ?_
 refine wR ?_
 refine eT 2 (by simp only [kA, seval, y84, vint, qC, hg, r3, q3, k3a, b3a, k3b, b3b] <;> with_reducible rfl) (by decide) ?_
 obtain ⟨s4, e4, hm⟩ := oB hm
 refine oC (by simp only [kC, seval, vint, qC, hg, r3, q3, k3a, b3a, k3b, b3b] <;> with_reducible rfl) (by simp only [kC, seval]) (by decide) Tryzgo122 (by exact FC.ap0 (list_c toks ip n ([125]) 198 [] [.optr (H0.length) 0] Tryzgo198 (stbL [(0, gO), (H0.length, .row [.optr ip 0])]) (fun _ _ _ => envL_hd) (m200_w (n := n) IH (H0.length) )) e4 p3 ⟨⟨k3a, n3a⟩, ⟨k3b, n3b⟩, trivial⟩) ?_
 rintro _ H4 ⟨rfl, F4, p4, g4⟩
 have f4 : Fr F0 F4 H0 H4 := f3.trans g4
 obtain ⟨st4, r4⟩ := p4.row
 have q4 := getL r4
 obtain ⟨k4a, n4a⟩ := g4.get k3a n3a
 have b4a := getL k4a
 obtain ⟨k4b, n4b⟩ := g4.get k3b n3b
 have b4b := getL k4b
 refine oN ?_
 refine ⟨.inl rfl, _, rfl, ?_⟩
 injection hm with hm
 subst hm
 exact ⟨rfl, F4, p4, f4⟩
def m203 (toks : List Tk) (n : Nat) (R : Rec) (s0 : PS) : Option PS := if decide ((peekT toks s0.pos).kind = 103) = true then (((nodeM 34 (m204 toks n R )) s0).bind fun s1 => some s1) else (some s0)
theorem m203_w {toks : List Tk} {ip n : Nat} {R : Rec} (IH : IHs toks ip R) (b0 : Nat) : FC Tryz.prog toks ip 201 [.optr b0 0] (m203 toks n R ) unitR (EnvL [(0, gO), (b0, .row [.optr ip 0])]) := by
 refine fc_of fun s0 s' F0 H0 hm p0 i0 => ?_
 obtain ⟨⟨k0a, n0a⟩, ⟨k0b, n0b⟩, _⟩ := i0
 have b0a := getL k0a
 have b0b := getL k0b
 obtain ⟨st0, r0⟩ := p0.row
 have q0 := getL r0
 have hl := lim_le p0.len
 have f0 := Fr.refl F0 H0
 unfold m203 at hm
 refine aF (N := 6) Tryz.func201 rfl rfl (by simp) fun hb' => ?_
 repeat refine wS ?_
 refine wR ?_
 refine eT 1 (by simp only [kA, seval, y84, vint, qC, r0, q0, k0a, b0a, k0b, b0b] <;> with_reducible rfl) (by decide) ?_
 refine oP (by simp only [kC, seval, vint, qC, r0, q0, k0a, b0a, k0b, b0b] <;> with_reducible rfl) (by simp only [kC, seval]) (by decide) Tryzgo124 (atIdent_c r0 hl p0.pos) ?_
 refine oN ?_
 repeat refine wS ?_
 refine wC rfl (by simp only [jN, seval, vint, qC, r0, q0, k0a, b0a, k0b, b0b] <;> with_reducible rfl) (fun bt2 => ?_) (fun bt2 => ?_)
 ·-- if t2
  rw [ifT bt2] at hm
  repeat refine wS ?_
  refine wR ?_
  refine eT 2 (by simp only [kA, seval, y84, vint, qC, r0, q0, k0a, b0a, k0b, b0b] <;> with_reducible rfl) (by decide) ?_
  obtain ⟨s1, e1, hm⟩ := oB hm
  refine oC (by simp only [kC, seval, vint, qC, r0, q0, k0a, b0a, k0b, b0b] <;> with_reducible rfl) (by simp only [kC, seval]) (by decide) Tryzgo67 (by exact FC.ap0 (node_c toks ip 34 202 [] [.optr (b0) 0] Tryzgo202 (stbL [(0, gO), (b0, .row [.optr ip 0])]) (m204_w (n := n) IH (b0) )) e1 p0 ⟨⟨k0a, n0a⟩, ⟨k0b, n0b⟩, trivial⟩) ?_
  rintro _ H1 ⟨rfl, F1, p1, g1⟩
  have f1 : Fr F0 F1 H0 H1 := f0.trans g1
  obtain ⟨st1, r1⟩ := p1.row
  have q1 := getL r1
  obtain ⟨k1a, n1a⟩ := g1.get k0a n0a
  have b1a := getL k1a
  obtain ⟨k1b, n1b⟩ := g1.get k0b n0b
  have b1b := getL k1b
  refine oN ?_
  refine ⟨.inl rfl, _, rfl, ?_⟩
  injection hm with hm
  subst hm
  exact ⟨rfl, F1, p1, f1⟩
 ·-- else t2
  rw [ifF bt2] at hm
  repeat refine wS ?_
  refine wK ?_
  refine ⟨.inl rfl, _, rfl, ?_⟩
  injection hm with hm
  subst hm
  exact ⟨rfl, F0, p0, f0⟩
def m188 (toks : List Tk) (n : Nat) (R : Rec) (s0 : PS) : Option PS := ((bumpM toks) s0).bind fun s1 => ((R (.path false)) s1).bind fun s2 => ((expectM toks [123]) s2).bind fun s3 => ((listM toks n ([125]) (m203 toks n R )) s3).bind fun s4 => some s4
theorem m188_w {toks : List Tk} {ip n : Nat} {R : Rec} (IH : IHs toks ip R) : FG toks ip 186 [.optr ip 0] (m188 toks n R ) (frv .structLit) := by
 intro s0 s' F0 H0 hm p0 i0
 obtain ⟨⟨hg, n0a⟩, _⟩ := i0
 obtain ⟨st0, r0⟩ := p0.row
 have q0 := getL r0
 have hl := lim_le p0.len
 have f0 := Fr.refl F0 H0
 have k0a := getL hg [.row [.optr ip 0]]
 have b0a := getL k0a
 have k0b : (H0 ++ [.row [.optr ip 0]])[H0.length]? = some (.row [.optr ip 0]) := by simp
 have n0b := p0.new0
 have b0b := getL k0b
 unfold m188 at hm
 refine aF (N := 11) Tryz.func186 rfl rfl (by simp) fun hb' => ?_
 repeat refine wS ?_
 refine eE (by simp only [kA, seval, y84, vint, qC, r0, q0, hg] <;> with_reducible rfl) (by decide) ?_
 repeat refine wS ?_
 refine wR ?_
 refine eT 1 (by simp only [kA, seval, y84, vint, qC, r0, q0, hg] <;> with_reducible rfl) (by decide) ?_
 obtain ⟨s1, e1, hm⟩ := oB hm
 refine oC (by simp only [kC, seval, vint, qC, r0, q0, hg] <;> with_reducible rfl) (by simp only [kC, seval]) (by decide) Tryzgo70 (by exact FN.ap (bump_c toks ip) e1 p0 _) ?_
 rintro _ H1 ⟨rfl, F1, p1, g1⟩
 have f1 : Fr F0 F1 H0 H1 := f0.step g1
 obtain ⟨st1, r1⟩ := p1.row
 have q1 := getL r1
 obtain ⟨k1a, n1a⟩ := g1.get k0a n0a
 have b1a := getL k1a
 obtain ⟨k1b, n1b⟩ := g1.get k0b n0b
 have b1b := getL k1b
 refine oN ?_
 repeat refine wS ?_
 refine wR ?_
 refine eT 1 (by simp only [kA, seval, y84, vint, qC, hg, r1, q1, k1a, b1a, k1b, b1b] <;> with_reducible rfl) (by decide) ?_
 obtain ⟨s2, e2, hm⟩ := oB hm
 refine oC (by simp only [kC, seval, vint, qC, hg, r1, q1, k1a, b1a, k1b, b1b] <;> with_reducible rfl) (by simp only [kC, seval]) (by decide) Tryzgo133 (by exact FG.ap0 (IH (.path false)) e2 p1 ⟨k1a, n1a⟩) ?_
 rintro _ H2 ⟨rfl, F2, p2, g2⟩
 have f2 : Fr F0 F2 H0 H2 := f1.trans g2
 obtain ⟨st2, r2⟩ := p2.row
 have q2 := getL r2
 obtain ⟨k2a, n2a⟩ := g2.get k1a n1a
 have b2a := getL k2a
 obtain ⟨k2b, n2b⟩ := g2.get k1b n1b
 have b2b := getL k2b
 refine oN ?_
 repeat refine wS ?_
 refine wR ?_
 refine eT 1 (by simp only [kA, seval, y84, vint, qC, hg, r2, q2, k2a, b2a, k2b, b2b] <;> with_reducible rfl) (by decide) ?_
 obtain ⟨s3, e3, hm⟩ := oB hm
 refine oC (by simp only [kC, seval, vint, qC, hg, r2, q2, k2a, b2a, k2b, b2b] <;> with_reducible rfl) (by simp only [kC, seval]) (by decide) Tryzgo101 (by exact FN.ap0 (expect_c toks ip [123]) e3 p2) ?_
 rintro _ H3 ⟨rfl, F3, p3, g3⟩
 have f3 : Fr F0 F3 H0 H3 := f2.trans g3
 obtain ⟨st3, r3⟩ := p3.row
 have q3 := getL r3
 obtain ⟨k3a, n3a⟩ := g3.get k2a n2a
 have b3a := getL k3a
 obtain ⟨k3b, n3b⟩ := g3.get k2b n2b
 have b3b := getL k3b
 refine oN ?_
 repeat refine wS ?_
 refine wR ?_
 refine eT 2 (by simp only [kA, seval, y84, vint, qC, hg, r3, q3, k3a, b3a, k3b, b3b] <;> with_reducible rfl) (by decide) ?_
 obtain ⟨s4, e4, hm⟩ := oB hm
 refine oC (by simp only [kC, seval, vint, qC, hg, r3, q3, k3a, b3a, k3b, b3b] <;> with_reducible rfl) (by simp only [kC, seval]) (by decide) Tryzgo122 (by exact FC.ap0 (list_c toks ip n ([125]) 201 [] [.optr (H0.length) 0] Tryzgo201 (stbL [(0, gO), (H0.length, .row [.optr ip 0])]) (fun _ _ _ => envL_hd) (m203_w (n := n) IH (H0.length) )) e4 p3 ⟨⟨k3a, n3a⟩, ⟨k3b, n3b⟩, trivial⟩) ?_
 rintro _ H4 ⟨rfl, F4, p4, g4⟩
 have f4 : Fr F0 F4 H0 H4 := f3.trans g4
 obtain ⟨st4, r4⟩ := p4.row
 have q4 := getL r4
 obtain ⟨k4a, n4a⟩ := g4.get k3a n3a
 have b4a := getL k4a
 obtain ⟨k4b, n4b⟩ := g4.get k3b n3b
 have b4b := getL k4b
 refine oN ?_
 refine ⟨.inl rfl, _, rfl, ?_⟩
 injection hm with hm
 subst hm
 exact ⟨rfl, F4, p4, f4⟩
def m205 (toks : List Tk) (n : Nat) (R : Rec) (s0 : PS) : Option PS := some s0
theorem m205_w {toks : List Tk} {ip n : Nat} {R : Rec} (IH : IHs toks ip R) : FC Tryz.prog toks ip 203 [] (m205 toks n R ) unitR (EnvL [(0, gO)]) := by
 refine fc_of fun s0 s' F0 H0 hm p0 i0 => ?_
 obtain ⟨⟨k0a, n0a⟩, _⟩ := i0
 have b0a := getL k0a
 obtain ⟨st0, r0⟩ := p0.row
 have q0 := getL r0
 have hl := lim_le p0.len
 have f0 := Fr.refl F0 H0
 unfold m205 at hm
 refine aF (N := 0) Tryz.func203 rfl rfl (by simp) fun hb' => ?_
 repeat refine wS ?_
 refine wK ?_
 refine ⟨.inl rfl, _, rfl, ?_⟩
 injection hm with hm
 subst hm
 exact ⟨rfl, F0, p0, f0⟩
def m189 (toks : List Tk) (n : Nat) (R : Rec) (s0 : PS) : Option PS := if atT (peekT toks s0.pos) [[124, 124]] = true then (((bumpM toks) s0).bind fun s1 => ((nodeM 12 (m205 toks n R )) s1).bind fun s2 => ((R .expr) s2).bind fun s3 => some s3) else (((bumpM toks) s0).bind fun s1 => ((R (.params ([124]))) s1).bind fun s2 => ((R .expr) s2).bind fun s3 => some s3)
theorem m189_w {toks : List Tk} {ip n : Nat} {R : Rec} (IH : IHs toks ip R) : FG toks ip 187 [.optr ip 0] (m189 toks n R ) (frv .lambda) := by
 intro s0 s' F0 H0 hm p0 i0
 obtain ⟨⟨hg, n0a⟩, _⟩ := i0
 obtain ⟨st0, r0⟩ := p0.row
 have q0 := getL r0
 have hl := lim_le p0.len
 have f0 := Fr.refl F0 H0
 have k0a := hg
 have b0a := getL k0a
 unfold m189 at hm
 refine aF (N := 15) Tryz.func187 rfl rfl (by simp) fun hb' => ?_
 repeat refine wS ?_
 refine wR ?_
 refine eT 2 (by simp only [kA, seval, y9, y56, vint, qC, r0, q0, k0a, b0a] <;> with_reducible rfl) (by decide) ?_
 refine oP (by simp only [kC, seval, vint, qC, r0, q0, k0a, b0a] <;> with_reducible rfl) (by simp only [kC, seval]) (by decide) Tryzgo63 (at_c r0 hl p0.pos [[124, 124]] (by decide)) ?_
 refine oN ?_
 repeat refine wS ?_
 refine wC rfl (by simp only [jN, seval, vint, qC, r0, q0, k0a, b0a] <;> with_reducible rfl) (fun bt4 => ?_) (fun bt4 => ?_)
 ·-- if t4
  rw [ifT bt4] at hm
  repeat refine wS ?_
  refine wR ?_
  refine eT 1 (by simp only [kA, seval, vint, qC, r0, q0, k0a, b0a] <;> with_reducible rfl) (by decide) ?_
  obtain ⟨s1, e1, hm⟩ := oB hm
  refine oC (by simp only [kC, seval, vint, qC, r0, q0, k0a, b0a] <;> with_reducible rfl) (by simp only [kC, seval]) (by decide) Tryzgo70 (by exact FN.ap0 (bump_c toks ip) e1 p0) ?_
  rintro _ H1 ⟨rfl, F1, p1, g1⟩
  have f1 : Fr F0 F1 H0 H1 := f0.trans g1
  obtain ⟨st1, r1⟩ := p1.row
  have q1 := getL r1
  obtain ⟨k1a, n1a⟩ := g1.get k0a n0a
  have b1a := getL k1a
  refine oN ?_
  repeat refine wS ?_
  refine wR ?_
  refine eT 1 (by simp only [kA, seval, vint, qC, r1, q1, k1a, b1a] <;> with_reducible rfl) (by decide) ?_
  obtain ⟨s2, e2, hm⟩ := oB hm
  refine oC (by simp only [kC, seval, vint, qC, r1, q1, k1a, b1a] <;> with_reducible rfl) (by simp only [kC, seval]) (by decide) Tryzgo67 (by exact FC.ap0 (node_c toks ip 12 203 [] [] Tryzgo203 (stbL [(0, gO)]) (m205_w (n := n) IH  )) e2 p1 ⟨⟨k1a, n1a⟩, trivial⟩) ?_
  rintro _ H2 ⟨rfl, F2, p2, g2⟩
  have f2 : Fr F0 F2 H0 H2 := f1.trans g2
  obtain ⟨st2, r2⟩ := p2.row
  have q2 := getL r2
  obtain ⟨k2a, n2a⟩ := g2.get k1a n1a
  have b2a := getL k2a
  refine oN ?_
  repeat refine wS ?_
  refine wR ?_
  refine eT 1 (by simp only [kA, seval, vint, qC, r2, q2, k2a, b2a] <;> with_reducible rfl) (by decide) ?_
  obtain ⟨s3, e3, hm⟩ := oB hm
  refine oC (by simp only [kC, seval, vint, qC, r2, q2, k2a, b2a] <;> with_reducible rfl) (by simp only [kC, seval]) (by decide) Tryzgo103 (by exact FG.ap0 (IH .expr) e3 p2 ⟨k2a, n2a⟩) ?_
  rintro _ H3 ⟨rfl, F3, p3, g3⟩
  have f3 : Fr F0 F3 H0 H3 := f2.trans g3
  obtain ⟨st3, r3⟩ := p3.row
  have q3 := getL r3
  obtain ⟨k3a, n3a⟩ := g3.get k2a n2a
  have b3a := getL k3a
  refine oN ?_
  refine ⟨.inl rfl, _, rfl, ?_⟩
  injection hm with hm
  subst hm
  exact ⟨rfl, F3, p3, f3⟩
 ·-- else t4
  rw [ifF bt4] at hm
  repeat refine wS ?_
  refine wR ?_
  refine eT 1 (by simp only [kA, seval, vint, qC, r0, q0, k0a, b0a] <;> with_reducible rfl) (by decide) ?_
  obtain ⟨s1, e1, hm⟩ := oB hm
  refine oC (by simp only [kC, seval, vint, qC, r0, q0, k0a, b0a] <;> with_reducible rfl) (by simp only [kC, seval]) (by decide) Tryzgo70 (by exact FN.ap0 (bump_c toks ip) e1 p0) ?_
  rintro _ H1 ⟨rfl, F1, p1, g1⟩
  have f1 : Fr F0 F1 H0 H1 := f0.trans g1
  obtain ⟨st1, r1⟩ := p1.row
  have q1 := getL r1
  obtain ⟨k1a, n1a⟩ := g1.get k0a n0a
  have b1a := getL k1a
  refine oN ?_
  repeat refine wS ?_
  refine wR ?_
  refine eT 1 (by simp only [kA, seval, vint, qC, r1, q1, k1a, b1a] <;> with_reducible rfl) (by decide) ?_
  obtain ⟨s2, e2, hm⟩ := oB hm
  refine oC (by simp only [kC, seval, vint, qC, r1, q1, k1a, b1a] <;> with_reducible rfl) (by simp only [kC, seval]) (by decide) Tryzgo104 (by exact FG.ap0 (IH (.params ([124]))) e2 p1 ⟨k1a, n1a⟩) ?_
  rintro _ H2 ⟨rfl, F2, p2, g2⟩
  have f2 : Fr F0 F2 H0 H2 := f1.trans g2
  obtain ⟨st2, r2⟩ := p2.row
  have q2 := getL r2
  obtain ⟨k2a, n2a⟩ := g2.get k1a n1a
  have b2a := getL k2a
  refine oN ?_
  repeat refine wS ?_
  refine wR ?_
  refine eT 1 (by simp only [kA, seval, vint, qC, r2, q2, k2a, b2a] <;> with_reducible rfl) (by decide) ?_
  obtain ⟨s3, e3, hm⟩ := oB hm
  refine oC (by simp only [kC, seval, vint, qC, r2, q2, k2a, b2a] <;> with_reducible rfl) (by simp only [kC, seval]) (by decide) Tryzgo103 (by exact FG.ap0 (IH .expr) e3 p2 ⟨k2a, n2a⟩) ?_
  rintro _ H3 ⟨rfl, F3, p3, g3⟩
  have f3 : Fr F0 F3 H0 H3 := f2.trans g3
  obtain ⟨st3, r3⟩ := p3.row
  have q3 := getL r3
  obtain ⟨k3a, n3a⟩ := g3.get k2a n2a
  have b3a := getL k3a
  refine oN ?_
  refine ⟨.inl rfl, _, rfl, ?_⟩
  injection hm with hm
  subst hm
  exact ⟨rfl, F3, p3, f3⟩
def m137 (toks : List Tk) (n : Nat) (R : Rec) (s0 : PS) : Option PS := if decide ((peekT toks s0.pos).kind = 103) = true then (((nodeM 13 (m138 toks n R )) s0).bind fun s1 => some s1) else (some s0)
theorem m137_w {toks : List Tk} {ip n : Nat} {R : Rec} (IH : IHs toks ip R) (b0 : Nat) : FC Tryz.prog toks ip 137 [.optr b0 0] (m137 toks n R ) unitR (EnvL [(0, gO), (b0, .row [.optr ip 0])]) := by
 refine fc_of fun s0 s' F0 H0 hm p0 i0 => ?_
 obtain ⟨⟨k0a, n0a⟩, ⟨k0b, n0b⟩, _⟩ := i0
 have b0a := getL k0a
 have b0b := getL k0b
 obtain ⟨st0, r0⟩ := p0.row
 have q0 := getL r0
 have hl := lim_le p0.len
 have f0 := Fr.refl F0 H0
 unfold m137 at hm
 refine aF (N := 6) Tryz.func137 rfl rfl (by simp) fun hb' => ?_
 repeat refine wS ?_
 refine wR ?_
 refine eT 1 (by simp only [kA, seval, y84, vint, qC, r0, q0, k0a, b0a, k0b, b0b] <;> with_reducible rfl) (by decide) ?_
 refine oP (by simp only [kC, seval, vint, qC, r0, q0, k0a, b0a, k0b, b0b] <;> with_reducible rfl) (by simp only [kC, seval]) (by decide) Tryzgo124 (atIdent_c r0 hl p0.pos) ?_
 refine oN ?_
 repeat refine wS ?_
 refine wC rfl (by simp only [jN, seval, vint, qC, r0, q0, k0a, b0a, k0b, b0b] <;> with_reducible rfl) (fun bt2 => ?_) (fun bt2 => ?_)
 ·-- if t2
  rw [ifT bt2] at hm
  repeat refine wS ?_
  refine wR ?_
  refine eT 2 (by simp only [kA, seval, y84, vint, qC, r0, q0, k0a, b0a, k0b, b0b] <;> with_reducible rfl) (by decide) ?_
  obtain ⟨s1, e1, hm⟩ := oB hm
  refine oC (by simp only [kC, seval, vint, qC, r0, q0, k0a, b0a, k0b, b0b] <;> with_reducible rfl) (by simp only [kC, seval]) (by decide) Tryzgo67 (by exact FC.ap0 (node_c toks ip 13 138 [] [.optr (b0) 0] Tryzgo138 (stbL [(0, gO), (b0, .row [.optr ip 0])]) (m138_w (n := n) IH (b0) )) e1 p0 ⟨⟨k0a, n0a⟩, ⟨k0b, n0b⟩, trivial⟩) ?_
  rintro _ H1 ⟨rfl, F1, p1, g1⟩
  have f1 : Fr F0 F1 H0 H1 := f0.trans g1
  obtain ⟨st1, r1⟩ := p1.row
  have q1 := getL r1
  obtain ⟨k1a, n1a⟩ := g1.get k0a n0a
  have b1a := getL k1a
  obtain ⟨k1b, n1b⟩ := g1.get k0b n0b
  have b1b := getL k1b
  refine oN ?_
  refine ⟨.inl rfl, _, rfl, ?_⟩
  injection hm with hm
  subst hm
  exact ⟨rfl, F1, p1, f1⟩
 ·-- else t2
  rw [ifF bt2] at hm
  repeat refine wS ?_
  refine wK ?_
  refine ⟨.inl rfl, _, rfl, ?_⟩
  injection hm with hm
  subst hm
  exact ⟨rfl, F0, p0, f0⟩
def m136 (toks : List Tk) (n : Nat) (R : Rec) (c : List UInt8) (s0 : PS) : Option PS := ((listM toks n (c) (m137 toks n R )) s0).bind fun s1 => some s1
theorem m136_w {toks : List Tk} {ip n : Nat} {R : Rec} (IH : IHs toks ip R) (b0 b1 : Nat) (c : List UInt8) : FC Tryz.prog toks ip 136 [.optr b0 0, .optr b1 0] (m136 toks n R c) unitR (EnvL [(0, gO), (b0, .row [.optr ip 0]), (b1, .row [.str c])]) := by
 refine fc_of fun s0 s' F0 H0 hm p0 i0 => ?_
 obtain ⟨⟨k0a, n0a⟩, ⟨k0b, n0b⟩, ⟨k0c, n0c⟩, _⟩ := i0
 have b0a := getL k0a
 have b0b := getL k0b
 have b0c := getL k0c
 obtain ⟨st0, r0⟩ := p0.row
 have q0 := getL r0
 have hl := lim_le p0.len
 have f0 := Fr.refl F0 H0
 unfold m136 at hm
 refine aF (N := 6) Tryz.func136 rfl rfl (by simp) fun hb' => ?_
 repeat refine wS ?_
 refine wR ?_
 refine eT 3 (by simp only [kA, seval, y9, y84, vint, qC, r0, q0, k0a, b0a, k0b, b0b, k0c, b0c] <;> with_reducible rfl) (by decide) ?_
 obtain ⟨s1, e1, hm⟩ := oB hm
 refine oC (by simp only [kC, seval, vint, qC, r0, q0, k0a, b0a, k0b, b0b, k0c, b0c] <;> with_reducible rfl) (by simp only [kC, seval]) (by decide) Tryzgo122 (by exact FC.ap0 (list_c toks ip n (c) 137 [] [.optr (b0) 0] Tryzgo137 (stbL [(0, gO), (b0, .row [.optr ip 0])]) (fun _ _ _ => envL_hd) (m137_w (n := n) IH (b0) )) e1 p0 ⟨⟨k0a, n0a⟩, ⟨k0b, n0b⟩, trivial⟩) ?_
 rintro _ H1 ⟨rfl, F1, p1, g1⟩
 have f1 : Fr F0 F1 H0 H1 := f0.trans g1
 obtain ⟨st1, r1⟩ := p1.row
 have q1 := getL r1
 obtain ⟨k1a, n1a⟩ := g1.get k0a n0a
 have b1a := getL k1a
 obtain ⟨k1b, n1b⟩ := g1.get k0b n0b
 have b1b := getL k1b
 obtain ⟨k1c, n1c⟩ := g1.get k0c n0c
 have b1c := getL k1c
 refine oN ?_
 refine ⟨.inl rfl, _, rfl, ?_⟩
 injection hm with hm
 subst hm
 exact ⟨rfl, F1, p1, f1⟩
def m108 (toks : List Tk) (n : Nat) (R : Rec) (c : List UInt8) (s0 : PS) : Option PS := ((nodeM 12 (m136 toks n R (c))) s0).bind fun s1 => some s1
theorem m108_w {toks : List Tk} {ip n : Nat} {R : Rec} (IH : IHs toks ip R) (c : List UInt8) : FG toks ip 104 [.optr ip 0, .str c] (m108 toks n R c) (frv (.params c)) := by
 intro s0 s' F0 H0 hm p0 i0
 obtain ⟨⟨hg, n0a⟩, _⟩ := i0
 obtain ⟨st0, r0⟩ := p0.row
 have q0 := getL r0
 have hl := lim_le p0.len
 have f0 := Fr.refl F0 H0
 have k0a := getL hg [.row [.optr ip 0], .row [.str c]]
 have b0a := getL k0a
 have k0b : (H0 ++ [.row [.optr ip 0], .row [.str c]])[H0.length]? = some (.row [.optr ip 0]) := by simp
 have n0b := p0.new0
 have b0b := getL k0b
 have k0c : (H0 ++ [.row [.optr ip 0], .row [.str c]])[H0.length + 1]? = some (.row [.str c]) := by simp
 have n0c := p0.new 1
 have b0c := getL k0c
 unfold m108 at hm
 refine aF (N := 7) Tryz.func104 rfl rfl (by simp) fun hb' => ?_
 repeat refine wS ?_
 refine eE (by simp only [kA, seval, y9, y84, vint, qC, r0, q0, hg] <;> with_reducible rfl) (by decide) ?_
 repeat refine wS ?_
 refine wR ?_
 refine eT 2 (by simp only [kA, seval, y84, vint, qC, r0, q0, hg] <;> with_reducible rfl) (by decide) ?_
 obtain ⟨s1, e1, hm⟩ := oB hm
 refine oC (by simp only [kC, seval, vint, qC, r0, q0, hg] <;> with_reducible rfl) (by simp only [kC, seval]) (by decide) Tryzgo67 (by exact FC.ap (node_c toks ip 12 136 [] [.optr (H0.length) 0, .optr (H0.length + 1) 0] Tryzgo136 (stbL [(0, gO), (H0.length, .row [.optr ip 0]), (H0.length + 1, .row [.str c])]) (m136_w (n := n) IH (H0.length) (H0.length + 1) (c))) e1 p0 ⟨⟨k0a, n0a⟩, ⟨k0b, n0b⟩, ⟨k0c, n0c⟩, trivial⟩) ?_
 rintro _ H1 ⟨rfl, F1, p1, g1⟩
 have f1 : Fr F0 F1 H0 H1 := f0.step g1
 obtain ⟨st1, r1⟩ := p1.row
 have q1 := getL r1
 obtain ⟨k1a, n1a⟩ := g1.get k0a n0a
 have b1a := getL k1a
 obtain ⟨k1b, n1b⟩ := g1.get k0b n0b
 have b1b := getL k1b
 obtain ⟨k1c, n1c⟩ := g1.get k0c n0c
 have b1c := getL k1c
 refine oN ?_
 refine ⟨.inl rfl, _, rfl, ?_⟩
 injection hm with hm
 subst hm
 exact ⟨rfl, F1, p1, f1⟩
def m106 (toks : List Tk) (n : Nat) (R : Rec) (s0 : PS) : Option PS := if atT (peekT toks s0.pos) [[38]] = true then (((nodeM 19 (m131 toks n R )) s0).bind fun s1 => some s1) else (if atT (peekT toks s0.pos) [[102, 110]] = true then (((nodeM 20 (m132 toks n R )) s0).bind fun s1 => some s1) else (if decide ((peekT toks s0.pos).kind = 103) = true then (((R (.path true)) s0).bind fun s1 => some s1) else (((missM 46) s0).bind fun s1 => some s1)))
theorem m106_w {toks : List Tk} {ip n : Nat} {R : Rec} (IH : IHs toks ip R) : FG toks ip 102 [.optr ip 0] (m106 toks n R ) (frv .typeExpr) := by
 intro s0 s' F0 H0 hm p0 i0
 obtain ⟨⟨hg, n0a⟩, _⟩ := i0
 obtain ⟨st0, r0⟩ := p0.row
 have q0 := getL r0
 have hl := lim_le p0.len
 have f0 := Fr.refl F0 H0
 have k0a := getL hg [.row [.optr ip 0]]
 have b0a := getL k0a
 have k0b : (H0 ++ [.row [.optr ip 0]])[H0.length]? = some (.row [.optr ip 0]) := by simp
 have n0b := p0.new0
 have b0b := getL k0b
 unfold m106 at hm
 refine aF (N := 23) Tryz.func102 rfl rfl (by simp) fun hb' => ?_
 repeat refine wS ?_
 refine eE (by simp only [kA, seval, y84, vint, qC, r0, q0, hg] <;> with_reducible rfl) (by decide) ?_
 repeat refine wS ?_
 refine awp_block ?_
 repeat refine wS ?_
 refine wR ?_
 refine eT 2 (by simp only [kA, seval, y9, y84, y56, vint, qC, r0, q0, hg] <;> with_reducible rfl) (by decide) ?_
 refine oP (by simp only [kC, seval, vint, qC, r0, q0, hg] <;> with_reducible rfl) (by simp only [kC, seval]) (by decide) Tryzgo63 (at_c (by exact q0 _) hl p0.pos [[38]] (by decide)) ?_
 refine e_end (by simp only [kA, seval, vint, qC, r0, q0, hg] <;> with_reducible rfl) (by decide) ?_
 repeat refine wS ?_
 refine wC rfl (by simp only [jN, seval, vint, qC, r0, q0, hg] <;> with_reducible rfl) (fun bt4 => ?_) (fun bt4 => ?_)
 ·-- if t4
  rw [ifT bt4] at hm
  repeat refine wS ?_
  refine wR ?_
  refine eT 2 (by simp only [kA, seval, y84, vint, qC, r0, q0, hg] <;> with_reducible rfl) (by decide) ?_
  obtain ⟨s1, e1, hm⟩ := oB hm
  refine oC (by simp only [kC, seval, vint, qC, r0, q0, hg] <;> with_reducible rfl) (by simp only [kC, seval]) (by decide) Tryzgo67 (by exact FC.ap (node_c toks ip 19 131 [] [.optr (H0.length) 0] Tryzgo131 (stbL [(0, gO), (H0.length, .row [.optr ip 0])]) (m131_w (n := n) IH (H0.length) )) e1 p0 ⟨⟨k0a, n0a⟩, ⟨k0b, n0b⟩, trivial⟩) ?_
  rintro _ H1 ⟨rfl, F1, p1, g1⟩
  have f1 : Fr F0 F1 H0 H1 := f0.step g1
  obtain ⟨st1, r1⟩ := p1.row
  have q1 := getL r1
  obtain ⟨k1a, n1a⟩ := g1.get k0a n0a
  have b1a := getL k1a
  obtain ⟨k1b, n1b⟩ := g1.get k0b n0b
  have b1b := getL k1b
  refine oN ?_
  refine ⟨.inl rfl, _, rfl, ?_⟩
  injection hm with hm
  subst hm
  exact ⟨rfl, F1, p1, f1⟩
 ·-- else t4
  rw [ifF bt4] at hm
  repeat refine wS ?_
  refine wR ?_
  refine eT 2 (by simp only [kA, seval, y9, y84, y56, vint, qC, r0, q0, hg] <;> with_reducible rfl) (by decide) ?_
  refine oP (by simp only [kC, seval, vint, qC, r0, q0, hg] <;> with_reducible rfl) (by simp only [kC, seval]) (by decide) Tryzgo63 (at_c (by exact q0 _) hl p0.pos [[102, 110]] (by decide)) ?_
  refine e_end (by simp only [kA, seval, vint, qC, r0, q0, hg] <;> with_reducible rfl) (by decide) ?_
  repeat refine wS ?_
  refine wC rfl (by simp only [jN, seval, vint, qC, r0, q0, hg] <;> with_reducible rfl) (fun bt11 => ?_) (fun bt11 => ?_)
  ·-- if t11
   rw [ifT bt11] at hm
   repeat refine wS ?_
   refine wR ?_
   refine eT 2 (by simp only [kA, seval, y84, vint, qC, r0, q0, hg] <;> with_reducible rfl) (by decide) ?_
   obtain ⟨s1, e1, hm⟩ := oB hm
   refine oC (by simp only [kC, seval, vint, qC, r0, q0, hg] <;> with_reducible rfl) (by simp only [kC, seval]) (by decide) Tryzgo67 (by exact FC.ap (node_c toks ip 20 132 [] [.optr (H0.length) 0] Tryzgo132 (stbL [(0, gO), (H0.length, .row [.optr ip 0])]) (m132_w (n := n) IH (H0.length) )) e1 p0 ⟨⟨k0a, n0a⟩, ⟨k0b, n0b⟩, trivial⟩) ?_
   rintro _ H1 ⟨rfl, F1, p1, g1⟩
   have f1 : Fr F0 F1 H0 H1 := f0.step g1
   obtain ⟨st1, r1⟩ := p1.row
   have q1 := getL r1
   obtain ⟨k1a, n1a⟩ := g1.get k0a n0a
   have b1a := getL k1a
   obtain ⟨k1b, n1b⟩ := g1.get k0b n0b
   have b1b := getL k1b
   refine oN ?_
   refine ⟨.inl rfl, _, rfl, ?_⟩
   injection hm with hm
   subst hm
   exact ⟨rfl, F1, p1, f1⟩
  ·-- else t11
   rw [ifF bt11] at hm
   repeat refine wS ?_
   refine wR ?_
   refine eT 1 (by simp only [kA, seval, y84, vint, qC, r0, q0, hg] <;> with_reducible rfl) (by decide) ?_
   refine oP (by simp only [kC, seval, vint, qC, r0, q0, hg] <;> with_reducible rfl) (by simp only [kC, seval]) (by decide) Tryzgo124 (atIdent_c (by exact q0 _) hl p0.pos) ?_
   refine e_end (by simp only [kA, seval, vint, qC, r0, q0, hg] <;> with_reducible rfl) (by decide) ?_
   repeat refine wS ?_
   refine wC rfl (by simp only [jN, seval, vint, qC, r0, q0, hg] <;> with_reducible rfl) (fun bt18 => ?_) (fun bt18 => ?_)
   ·-- if t18
    rw [ifT bt18] at hm
    repeat refine wS ?_
    refine wR ?_
    refine eT 1 (by simp only [kA, seval, y84, vint, qC, r0, q0, hg] <;> with_reducible rfl) (by decide) ?_
    obtain ⟨s1, e1, hm⟩ := oB hm
    refine oC (by simp only [kC, seval, vint, qC, r0, q0, hg] <;> with_reducible rfl) (by simp only [kC, seval]) (by decide) Tryzgo133 (by exact FG.ap' (IH (.path true)) e1 p0 ⟨k0a, n0a⟩) ?_
    rintro _ H1 ⟨rfl, F1, p1, g1⟩
    have f1 : Fr F0 F1 H0 H1 := f0.step g1
    obtain ⟨st1, r1⟩ := p1.row
    have q1 := getL r1
    obtain ⟨k1a, n1a⟩ := g1.get k0a n0a
    have b1a := getL k1a
    obtain ⟨k1b, n1b⟩ := g1.get k0b n0b
    have b1b := getL k1b
    refine oN ?_
    refine ⟨.inl rfl, _, rfl, ?_⟩
    injection hm with hm
    subst hm
    exact ⟨rfl, F1, p1, f1⟩
   ·-- else t18
    rw [ifF bt18] at hm
    repeat refine wS ?_
    refine wR ?_
    refine eT 1 (by simp only [kA, seval, y84, vint, qC, r0, q0, hg] <;> with_reducible rfl) (by decide) ?_
    obtain ⟨s1, e1, hm⟩ := oB hm
    refine oC (by simp only [kC, seval, vint, qC, r0, q0, hg] <;> with_reducible rfl) (by simp only [kC, seval]) (by decide) Tryzgo134 (by exact FN.ap (missingNode_c toks ip) e1 p0 _) ?_
    rintro _ H1 ⟨rfl, F1, p1, g1⟩
    have f1 : Fr F0 F1 H0 H1 := f0.step g1
    obtain ⟨st1, r1⟩ := p1.row
    have q1 := getL r1
    obtain ⟨k1a, n1a⟩ := g1.get k0a n0a
    have b1a := getL k1a
    obtain ⟨k1b, n1b⟩ := g1.get k0b n0b
    have b1b := getL k1b
    refine oN ?_
    refine ⟨.inl rfl, _, rfl, ?_⟩
    injection hm with hm
    subst hm
    exact ⟨rfl, F1, p1, f1⟩
def m126 (toks : List Tk) (n : Nat) (R : Rec) (s0 : PS) : Option PS := ((bumpM toks) s0).bind fun s1 => ((acceptM toks [[40]]) s1).bind fun s2 => if atT (peekT toks s1.pos) [[40]] = true then (((listM toks n ([41]) (m106 toks n R)) s2).bind fun s3 => some s3) else (some s2)
theorem m126_w {toks : List Tk} {ip n : Nat} {R : Rec} (IH : IHs toks ip R) (b0 : Nat) : FC Tryz.prog toks ip 126 [.optr b0 0] (m126 toks n R ) unitR (EnvL [(0, gO), (b0, .row [.optr ip 0])]) := by
 refine fc_of fun s0 s' F0 H0 hm p0 i0 => ?_
 obtain ⟨⟨k0a, n0a⟩, ⟨k0b, n0b⟩, _⟩ := i0
 have b0a := getL k0a
 have b0b := getL k0b
 obtain ⟨st0, r0⟩ := p0.row
 have q0 := getL r0
 have hl := lim_le p0.len
 have f0 := Fr.refl F0 H0
 unfold m126 at hm
 refine aF (N := 10) Tryz.func126 rfl rfl (by simp) fun hb' => ?_
 repeat refine wS ?_
 refine wR ?_
 refine eT 1 (by simp only [kA, seval, y84, vint, qC, r0, q0, k0a, b0a, k0b, b0b] <;> with_reducible rfl) (by decide) ?_
 obtain ⟨s1, e1, hm⟩ := oB hm
 refine oC (by simp only [kC, seval, vint, qC, r0, q0, k0a, b0a, k0b, b0b] <;> with_reducible rfl) (by simp only [kC, seval]) (by decide) Tryzgo70 (by exact FN.ap0 (bump_c toks ip) e1 p0) ?_
 rintro _ H1 ⟨rfl, F1, p1, g1⟩
 have f1 : Fr F0 F1 H0 H1 := f0.trans g1
 obtain ⟨st1, r1⟩ := p1.row
 have q1 := getL r1
 obtain ⟨k1a, n1a⟩ := g1.get k0a n0a
 have b1a := getL k1a
 obtain ⟨k1b, n1b⟩ := g1.get k0b n0b
 have b1b := getL k1b
 refine oN ?_
 repeat refine wS ?_
 refine wR ?_
 refine eT 2 (by simp only [kA, seval, y9, y84, y56, vint, qC, r1, q1, k1a, b1a, k1b, b1b] <;> with_reducible rfl) (by decide) ?_
 obtain ⟨s2, e2, hm⟩ := oB hm
 refine oC (by simp only [kC, seval, vint, qC, r1, q1, k1a, b1a, k1b, b1b] <;> with_reducible rfl) (by simp only [kC, seval]) (by decide) Tryzgo69 (by exact FN.ap0 (accept_c toks ip [[40]] (by decide)) e2 p1) ?_
 rintro _ H2 ⟨rfl, F2, p2, g2⟩
 have f2 : Fr F0 F2 H0 H2 := f1.trans g2
 obtain ⟨st2, r2⟩ := p2.row
 have q2 := getL r2
 obtain ⟨k2a, n2a⟩ := g2.get k1a n1a
 have b2a := getL k2a
 obtain ⟨k2b, n2b⟩ := g2.get k1b n1b
 have b2b := getL k2b
 refine oN ?_
 repeat refine wS ?_
 refine wC rfl (by simp only [jN, seval, vint, qC, r2, q2, k2a, b2a, k2b, b2b] <;> with_reducible rfl) (fun bt5 => ?_) (fun bt5 => ?_)
 ·-- if t5
  rw [ifT bt5] at hm
  repeat refine wS ?_
  refine wR ?_
  refine eT 3 (by simp only [kA, seval, y84, vint, qC, r2, q2, k2a, b2a, k2b, b2b] <;> with_reducible rfl) (by decide) ?_
  obtain ⟨s3, e3, hm⟩ := oB hm
  refine oC (by simp only [kC, seval, vint, qC, r2, q2, k2a, b2a, k2b, b2b] <;> with_reducible rfl) (by simp only [kC, seval]) (by decide) Tryzgo122 (by exact FC.ap0 (list_c toks ip n ([41]) 102 [.optr ip 0] [] Tryzgo102 (stbL [(0, gO)]) (fun _ _ _ => envL_hd) (FG.fc (m106_w (n := n) IH))) e3 p2 ⟨⟨k2a, n2a⟩, trivial⟩) ?_
  rintro _ H3 ⟨rfl, F3, p3, g3⟩
  have f3 : Fr F0 F3 H0 H3 := f2.trans g3
  obtain ⟨st3, r3⟩ := p3.row
  have q3 := getL r3
  obtain ⟨k3a, n3a⟩ := g3.get k2a n2a
  have b3a := getL k3a
  obtain ⟨k3b, n3b⟩ := g3.get k2b n2b
  have b3b := getL k3b
  refine oN ?_
  refine ⟨.inl rfl, _, rfl, ?_⟩
  injection hm with hm
  subst hm
  exact ⟨rfl, F3, p3, f3⟩
 ·-- else t5
  rw [ifF bt5] at hm
  repeat refine wS ?_
  refine wK ?_
  refine ⟨.inl rfl, _, rfl, ?_⟩
  injection hm with hm
  subst hm
  exact ⟨rfl, F2, p2, f2⟩
def m123 (toks : List Tk) (n : Nat) (R : Rec) (k : Int) (s0 : PS) : Option PS := if (!decide ((peekT toks s0.pos).kind = 103)) = true then (some s0) else (if decide (k = 4) = true then (((nodeM 14 (m125 toks n R )) s0).bind fun s1 => some s1) else (((nodeM 15 (m126 toks n R )) s0).bind fun s1 => some s1))
theorem m123_w {toks : List Tk} {ip n : Nat} {R : Rec} (IH : IHs toks ip R) (b0 b1 : Nat) (k : Int) : FC Tryz.prog toks ip 123 [.optr b0 0, .optr b1 0] (m123 toks n R k) unitR (EnvL [(0, gO), (b0, .row [.optr ip 0]), (b1, .row [.int .i64 k])]) := by
 refine fc_of fun s0 s' F0 H0 hm p0 i0 => ?_
 obtain ⟨⟨k0a, n0a⟩, ⟨k0b, n0b⟩, ⟨k0c, n0c⟩, _⟩ := i0
 have b0a := getL k0a
 have b0b := getL k0b
 have b0c := getL k0c
 obtain ⟨st0, r0⟩ := p0.row
 have q0 := getL r0
 have hl := lim_le p0.len
 have f0 := Fr.refl F0 H0
 unfold m123 at hm
 refine aF (N := 15) Tryz.func123 rfl rfl (by simp) fun hb' => ?_
 repeat refine wS ?_
 refine awp_block ?_
 repeat refine wS ?_
 refine wR ?_
 refine eT 1 (by simp only [kA, seval, y84, vint, qC, r0, q0, k0a, b0a, k0b, b0b, k0c, b0c] <;> with_reducible rfl) (by decide) ?_
 refine oP (by simp only [kC, seval, vint, qC, r0, q0, k0a, b0a, k0b, b0b, k0c, b0c] <;> with_reducible rfl) (by simp only [kC, seval]) (by decide) Tryzgo124 (atIdent_c r0 hl p0.pos) ?_
 refine e_end (by simp only [kA, seval, vint, qC, r0, q0, k0a, b0a, k0b, b0b, k0c, b0c] <;> with_reducible rfl) (by decide) ?_
 repeat refine wS ?_
 refine wC rfl (by simp only [jN, seval, vint, qC, r0, q0, k0a, b0a, k0b, b0b, k0c, b0c] <;> with_reducible rfl) (fun bt5 => ?_) (fun bt5 => ?_)
 ·-- if t5
  rw [ifT bt5] at hm
  repeat refine wS ?_
  refine wK ?_
  refine ⟨.inl rfl, _, rfl, ?_⟩
  injection hm with hm
  subst hm
  exact ⟨rfl, F0, p0, f0⟩
 ·-- else t5
  rw [ifF bt5] at hm
  repeat refine wS ?_
  refine eE (by simp only [kA, seval, y3, vint, qC, r0, q0, k0a, b0a, k0b, b0b, k0c, b0c] <;> with_reducible rfl) (by decide) ?_
  repeat refine wS ?_
  refine wC rfl (by simp only [jN, seval, vint, qC, r0, q0, k0a, b0a, k0b, b0b, k0c, b0c] <;> with_reducible rfl) (fun bt9 => ?_) (fun bt9 => ?_)
  ·-- if t9
   rw [ifT bt9] at hm
   repeat refine wS ?_
   refine wR ?_
   refine eT 2 (by simp only [kA, seval, y84, vint, qC, r0, q0, k0a, b0a, k0b, b0b, k0c, b0c] <;> with_reducible rfl) (by decide) ?_
   obtain ⟨s1, e1, hm⟩ := oB hm
   refine oC (by simp only [kC, seval, vint, qC, r0, q0, k0a, b0a, k0b, b0b, k0c, b0c] <;> with_reducible rfl) (by simp only [kC, seval]) (by decide) Tryzgo67 (by exact FC.ap0 (node_c toks ip 14 125 [] [.optr (b0) 0] Tryzgo125 (stbL [(0, gO), (b0, .row [.optr ip 0])]) (m125_w (n := n) IH (b0) )) e1 p0 ⟨⟨k0a, n0a⟩, ⟨k0b, n0b⟩, trivial⟩) ?_
   rintro _ H1 ⟨rfl, F1, p1, g1⟩
   have f1 : Fr F0 F1 H0 H1 := f0.trans g1
   obtain ⟨st1, r1⟩ := p1.row
   have q1 := getL r1
   obtain ⟨k1a, n1a⟩ := g1.get k0a n0a
   have b1a := getL k1a
   obtain ⟨k1b, n1b⟩ := g1.get k0b n0b
   have b1b := getL k1b
   obtain ⟨k1c, n1c⟩ := g1.get k0c n0c
   have b1c := getL k1c
   refine oN ?_
   refine ⟨.inl rfl, _, rfl, ?_⟩
   injection hm with hm
   subst hm
   exact ⟨rfl, F1, p1, f1⟩
  ·-- else t9
   rw [ifF bt9] at hm
   repeat refine wS ?_
   refine wR ?_
   refine eT 2 (by simp only [kA, seval, y84, vint, qC, r0, q0, k0a, b0a, k0b, b0b, k0c, b0c] <;> with_reducible rfl) (by decide) ?_
   obtain ⟨s1, e1, hm⟩ := oB hm
   refine oC (by simp only [kC, seval, vint, qC, r0, q0, k0a, b0a, k0b, b0b, k0c, b0c] <;> with_reducible rfl) (by simp only [kC, seval]) (by decide) Tryzgo67 (by exact FC.ap0 (node_c toks ip 15 126 [] [.optr (b0) 0] Tryzgo126 (stbL [(0, gO), (b0, .row [.optr ip 0])]) (m126_w (n := n) IH (b0) )) e1 p0 ⟨⟨k0a, n0a⟩, ⟨k0b, n0b⟩, trivial⟩) ?_
   rintro _ H1 ⟨rfl, F1, p1, g1⟩
   have f1 : Fr F0 F1 H0 H1 := f0.trans g1
   obtain ⟨st1, r1⟩ := p1.row
   have q1 := getL r1
   obtain ⟨k1a, n1a⟩ := g1.get k0a n0a
   have b1a := getL k1a
   obtain ⟨k1b, n1b⟩ := g1.get k0b n0b
   have b1b := getL k1b
   obtain ⟨k1c, n1c⟩ := g1.get k0c n0c
   have b1c := getL k1c
   refine oN ?_
   refine ⟨.inl rfl, _, rfl, ?_⟩
   injection hm with hm
   subst hm
   exact ⟨rfl, F1, p1, f1⟩
end Go.Abs
namespace Go.Abs
open Go.Proofs
def m167 (toks : List Tk) (n : Nat) (R : Rec) (s0 : PS) : Option PS := ((bumpM toks) s0).bind fun s1 => ((acceptM toks [[58]]) s1).bind fun s2 => if atT (peekT toks s1.pos) [[58]] = true then (((R (.path true)) s2).bind fun s3 => (loopE (fun s4 => atT (peekT toks s4.pos) [[43]]) (acceptM toks [[43]]) (fun s5 => ((R (.path true)) s5).bind fun s6 => some s6) n s3).bind fun s5 => some s5) else (some s2)
theorem m167_w {toks : List Tk} {ip n : Nat} {R : Rec} (IH : IHs toks ip R) (b0 : Nat) : FC Tryz.prog toks ip 165 [.optr b0 0] (m167 toks n R ) unitR (EnvL [(0, gO), (b0, .row [.optr ip 0])]) := by
 refine fc_of fun s0 s' F0 H0 hm p0 i0 => ?_
 obtain ⟨⟨k0a, n0a⟩, ⟨k0b, n0b⟩, _⟩ := i0
 have b0a := getL k0a
 have b0b := getL k0b
 obtain ⟨st0, r0⟩ := p0.row
 have q0 := getL r0
 have hl := lim_le p0.len
 have f0 := Fr.refl F0 H0
 unfold m167 at hm
 refine aF (N := 13) Tryz.func165 rfl rfl (by simp) fun hb' => ?_
 repeat refine wS ?_
 refine wR ?_
 refine eT 1 (by simp only [kA, seval, y84, vint, qC, r0, q0, k0a, b0a, k0b, b0b] <;> with_reducible rfl) (by decide) ?_
 obtain ⟨s1, e1, hm⟩ := oB hm
 refine oC (by simp only [kC, seval, vint, qC, r0, q0, k0a, b0a, k0b, b0b] <;> with_reducible rfl) (by simp only [kC, seval]) (by decide) Tryzgo70 (by exact FN.ap0 (bump_c toks ip) e1 p0) ?_
 rintro _ H1 ⟨rfl, F1, p1, g1⟩
 have f1 : Fr F0 F1 H0 H1 := f0.trans g1
 obtain ⟨st1, r1⟩ := p1.row
 have q1 := getL r1
 obtain ⟨k1a, n1a⟩ := g1.get k0a n0a
 have b1a := getL k1a
 obtain ⟨k1b, n1b⟩ := g1.get k0b n0b
 have b1b := getL k1b
 refine oN ?_
 repeat refine wS ?_
 refine wR ?_
 refine eT 2 (by simp only [kA, seval, y9, y84, y56, vint, qC, r1, q1, k1a, b1a, k1b, b1b] <;> with_reducible rfl) (by decide) ?_
 obtain ⟨s2, e2, hm⟩ := oB hm
 refine oC (by simp only [kC, seval, vint, qC, r1, q1, k1a, b1a, k1b, b1b] <;> with_reducible rfl) (by simp only [kC, seval]) (by decide) Tryzgo69 (by exact FN.ap0 (accept_c toks ip [[58]] (by decide)) e2 p1) ?_
 rintro _ H2 ⟨rfl, F2, p2, g2⟩
 have f2 : Fr F0 F2 H0 H2 := f1.trans g2
 obtain ⟨st2, r2⟩ := p2.row
 have q2 := getL r2
 obtain ⟨k2a, n2a⟩ := g2.get k1a n1a
 have b2a := getL k2a
 obtain ⟨k2b, n2b⟩ := g2.get k1b n1b
 have b2b := getL k2b
 refine oN ?_
 repeat refine wS ?_
 refine wC rfl (by simp only [jN, seval, vint, qC, r2, q2, k2a, b2a, k2b, b2b] <;> with_reducible rfl) (fun bt5 => ?_) (fun bt5 => ?_)
 ·-- if t5
  rw [ifT bt5] at hm
  repeat refine wS ?_
  refine wR ?_
  refine eT 1 (by simp only [kA, seval, y84, vint, qC, r2, q2, k2a, b2a, k2b, b2b] <;> with_reducible rfl) (by decide) ?_
  obtain ⟨s3, e3, hm⟩ := oB hm
  refine oC (by simp only [kC, seval, vint, qC, r2, q2, k2a, b2a, k2b, b2b] <;> with_reducible rfl) (by simp only [kC, seval]) (by decide) Tryzgo133 (by exact FG.ap0 (IH (.path true)) e3 p2 ⟨k2a, n2a⟩) ?_
  rintro _ H3 ⟨rfl, F3, p3, g3⟩
  have f3 : Fr F0 F3 H0 H3 := f2.trans g3
  obtain ⟨st3, r3⟩ := p3.row
  have q3 := getL r3
  obtain ⟨k3a, n3a⟩ := g3.get k2a n2a
  have b3a := getL k3a
  obtain ⟨k3b, n3b⟩ := g3.get k2b n2b
  have b3b := getL k3b
  refine oN ?_
  repeat refine wS ?_
  obtain ⟨sL4, eL4, hm⟩ := oB hm
  have hmo4 := hm
  clear hm
  refine awp_block ?_
  refine awp_loopX (σ := Nat × PS × List Nat) (fun (z : Nat × PS × List Nat) => [(0, .optr (b0) 0), (1, .optr ip 0), (3, .optr ip 0), (6, .optr ip 0)]) (fun (z : Nat × PS × List Nat) =>  fun H4 => loopE (fun s4 => atT (peekT toks s4.pos) [[43]]) (acceptM toks [[43]]) (fun s5 => ((R (.path true)) s5).bind fun s6 => some s6) z.1 z.2.1 = some sL4 ∧ PSt toks ip z.2.1 z.2.2 H4 ∧ Fr F0 z.2.2 H0 H4 ∧ (H4[0]? = some (gO) ∧ (0) ∉ z.2.2) ∧ (H4[b0]? = some (.row [.optr ip 0]) ∧ (b0) ∉ z.2.2)) (fun (z : Nat × PS × List Nat) => z.1) ((n, s3, F3)) ⟨(by first | rfl | (simp only [jN, seval, vint, qC, r3, q3, k3a, b3a, k3b, b3b] <;> first | done | with_reducible rfl)), (by first | rfl | (simp only [jN, seval, vint, qC, r3, q3, k3a, b3a, k3b, b3b] <;> first | done | with_reducible rfl)), (by first | rfl | (simp only [jN, seval, vint, qC, r3, q3, k3a, b3a, k3b, b3b] <;> first | done | with_reducible rfl)), (by first | rfl | (simp only [jN, seval, vint, qC, r3, q3, k3a, b3a, k3b, b3b] <;> first | done | with_reducible rfl)), trivial⟩ (⟨eL4, p3, f3, ⟨k3a, n3a⟩, ⟨k3b, n3b⟩⟩) ?_
  intro z H4 hg
  obtain ⟨k4, s4, F4⟩ := z
  obtain ⟨hk4, p4, f4, ⟨k4a, n4a⟩, ⟨k4b, n4b⟩⟩ := hg
  simp only at hk4 p4 f4 k4a n4a k4b n4b
  obtain ⟨st4, r4⟩ := p4.row
  have q4 := getL r4
  have b4a := getL k4a
  have b4b := getL k4b
  cases k4 with
  | zero => cases hk4
  | succ k4 => ?_
  rcases Bool.eq_false_or_eq_true (atT (peekT toks s4.pos) [[43]]) with hd3 | hd3
  ·-- case
   unfold loopE at hk4
   rw [ifT hd3] at hk4
   obtain ⟨sB4, hm, hk4⟩ := oB hk4
   repeat refine wS ?_
   refine wR ?_
   refine eT 2 (by simp only [kA, seval, y9, y84, y56, vint, qC, r4, q4, k4a, b4a, k4b, b4b, hd3] <;> with_reducible rfl) (by decide) ?_
   obtain ⟨s5, e5, hm⟩ := oB hm
   refine oC (by simp only [kC, seval, vint, qC, r4, q4, k4a, b4a, k4b, b4b, hd3] <;> with_reducible rfl) (by simp only [kC, seval]) (by decide) Tryzgo69 (by exact FN.ap0 (accept_c toks ip [[43]] (by decide)) e5 p4) ?_
   rintro _ H5 ⟨rfl, F5, p5, g5⟩
   have f5 : Fr F0 F5 H0 H5 := f4.trans g5
   obtain ⟨st5, r5⟩ := p5.row
   have q5 := getL r5
   obtain ⟨k5a, n5a⟩ := g5.get k4a n4a
   have b5a := getL k5a
   obtain ⟨k5b, n5b⟩ := g5.get k4b n4b
   have b5b := getL k5b
   refine oN ?_
   repeat refine wS ?_
   refine awp_cond_true rfl (by simp only [jN, seval, vint, qC, hd3, r5, q5, k5a, b5a, k5b, b5b] <;> with_reducible rfl) ?_
   repeat refine wS ?_
   refine wK ?_
   repeat refine wS ?_
   refine awp_block ?_
   repeat refine wS ?_
   refine wR ?_
   refine eT 1 (by simp only [kA, seval, y84, vint, qC, hd3, r5, q5, k5a, b5a, k5b, b5b] <;> with_reducible rfl) (by decide) ?_
   obtain ⟨s6, e6, hm⟩ := oB hm
   refine oC (by simp only [kC, seval, vint, qC, hd3, r5, q5, k5a, b5a, k5b, b5b] <;> with_reducible rfl) (by simp only [kC, seval]) (by decide) Tryzgo133 (by exact FG.ap0 (IH (.path true)) e6 p5 ⟨k5a, n5a⟩) ?_
   rintro _ H6 ⟨rfl, F6, p6, g6⟩
   have f6 : Fr F0 F6 H0 H6 := f5.trans g6
   obtain ⟨st6, r6⟩ := p6.row
   have q6 := getL r6
   obtain ⟨k6a, n6a⟩ := g6.get k5a n5a
   have b6a := getL k6a
   obtain ⟨k6b, n6b⟩ := g6.get k5b n5b
   have b6b := getL k6b
   refine oN ?_
   try simp only [thenQ, blockQ]
   injection hm with hm
   subst hm
   exact ⟨(k4, _, F6), Nat.lt_succ_self _, ⟨rfl, rfl, rfl, rfl, trivial⟩, hk4, p6, f6, ⟨k6a, n6a⟩, ⟨k6b, n6b⟩⟩
  ·-- case
   unfold loopE at hk4
   rw [ifF hd3] at hk4
   have hm := bind_id hk4
   repeat refine wS ?_
   refine wR ?_
   refine eT 2 (by simp only [kA, seval, y9, y84, y56, vint, qC, r4, q4, k4a, b4a, k4b, b4b, hd3] <;> with_reducible rfl) (by decide) ?_
   obtain ⟨s5, e5, hm⟩ := oB hm
   refine oC (by simp only [kC, seval, vint, qC, r4, q4, k4a, b4a, k4b, b4b, hd3] <;> with_reducible rfl) (by simp only [kC, seval]) (by decide) Tryzgo69 (by exact FN.ap0 (accept_c toks ip [[43]] (by decide)) e5 p4) ?_
   rintro _ H5 ⟨rfl, F5, p5, g5⟩
   have f5 : Fr F0 F5 H0 H5 := f4.trans g5
   obtain ⟨st5, r5⟩ := p5.row
   have q5 := getL r5
   obtain ⟨k5a, n5a⟩ := g5.get k4a n4a
   have b5a := getL k5a
   obtain ⟨k5b, n5b⟩ := g5.get k4b n4b
   have b5b := getL k5b
   injection hm with hm
   subst hm
   have hm := hmo4
   refine oN ?_
   repeat refine wS ?_
   refine wF rfl (by simp only [jN, seval, vint, qC, hd3, r5, q5, k5a, b5a, k5b, b5b] <;> with_reducible rfl) ?_
   repeat refine wS ?_
   refine awp_exit ?_
   simp only [thenQ, blockQ, reduceIte, Nat.reduceEqDiff, Nat.succ_ne_self, if_true, if_false]
   refine ⟨.inl trivial, _, rfl, ?_⟩
   injection hm with hm
   subst hm
   exact ⟨rfl, F5, p5, f5⟩
 ·-- else t5
  rw [ifF bt5] at hm
  repeat refine wS ?_
  refine wK ?_
  refine ⟨.inl rfl, _, rfl, ?_⟩
  injection hm with hm
  subst hm
  exact ⟨rfl, F2, p2, f2⟩
def m145 (toks : List Tk) (n : Nat) (R : Rec) (s0 : PS) : Option PS := if (!decide ((peekT toks s0.pos).kind = 103)) = true then (some s0) else (((nodeM 11 (m167 toks n R )) s0).bind fun s1 => some s1)
theorem m145_w {toks : List Tk} {ip n : Nat} {R : Rec} (IH : IHs toks ip R) : FG toks ip 145 [.optr ip 0] (m145 toks n R ) unitR := by
 intro s0 s' F0 H0 hm p0 i0
 obtain ⟨⟨hg, n0a⟩, _⟩ := i0
 obtain ⟨st0, r0⟩ := p0.row
 have q0 := getL r0
 have hl := lim_le p0.len
 have f0 := Fr.refl F0 H0
 have k0a := getL hg [.row [.optr ip 0]]
 have b0a := getL k0a
 have k0b : (H0 ++ [.row [.optr ip 0]])[H0.length]? = some (.row [.optr ip 0]) := by simp
 have n0b := p0.new0
 have b0b := getL k0b
 unfold m145 at hm
 refine aF (N := 8) Tryz.func145 rfl rfl (by simp) fun hb' => ?_
 repeat refine wS ?_
 refine eE (by simp only [kA, seval, y84, vint, qC, r0, q0, hg] <;> with_reducible rfl) (by decide) ?_
 repeat refine wS ?_
 refine wR ?_
 refine eT 1 (by simp only [kA, seval, y84, vint, qC, r0, q0, hg] <;> with_reducible rfl) (by decide) ?_
 refine oP (by simp only [kC, seval, vint, qC, r0, q0, hg] <;> with_reducible rfl) (by simp only [kC, seval]) (by decide) Tryzgo124 (atIdent_c (by exact q0 _) hl p0.pos) ?_
 refine e_end (by simp only [kA, seval, vint, qC, r0, q0, hg] <;> with_reducible rfl) (by decide) ?_
 repeat refine wS ?_
 refine wC rfl (by simp only [jN, seval, vint, qC, r0, q0, hg] <;> with_reducible rfl) (fun bt4 => ?_) (fun bt4 => ?_)
 ·-- if t4
  rw [ifT bt4] at hm
  repeat refine wS ?_
  refine wT ⟨.inr rfl, _, rfl, ?_⟩
  injection hm with hm
  subst hm
  exact ⟨rfl, F0, (p0.app _), (f0.app _)⟩
 ·-- else t4
  rw [ifF bt4] at hm
  repeat refine wS ?_
  refine wK ?_
  repeat refine wS ?_
  refine wR ?_
  refine eT 2 (by simp only [kA, seval, y84, vint, qC, r0, q0, hg] <;> with_reducible rfl) (by decide) ?_
  obtain ⟨s1, e1, hm⟩ := oB hm
  refine oC (by simp only [kC, seval, vint, qC, r0, q0, hg] <;> with_reducible rfl) (by simp only [kC, seval]) (by decide) Tryzgo67 (by exact FC.ap (node_c toks ip 11 165 [] [.optr (H0.length) 0] Tryzgo165 (stbL [(0, gO), (H0.length, .row [.optr ip 0])]) (m167_w (n := n) IH (H0.length) )) e1 p0 ⟨⟨k0a, n0a⟩, ⟨k0b, n0b⟩, trivial⟩) ?_
  rintro _ H1 ⟨rfl, F1, p1, g1⟩
  have f1 : Fr F0 F1 H0 H1 := f0.step g1
  obtain ⟨st1, r1⟩ := p1.row
  have q1 := getL r1
  obtain ⟨k1a, n1a⟩ := g1.get k0a n0a
  have b1a := getL k1a
  obtain ⟨k1b, n1b⟩ := g1.get k0b n0b
  have b1b := getL k1b
  refine oN ?_
  refine ⟨.inl rfl, _, rfl, ?_⟩
  injection hm with hm
  subst hm
  exact ⟨rfl, F1, p1, f1⟩
def m144 (toks : List Tk) (n : Nat) (R : Rec) (s0 : PS) : Option PS := ((acceptM toks [[60]]) s0).bind fun s1 => if atT (peekT toks s0.pos) [[60]] = true then (((listM toks n ([62]) (m145 toks n R)) s1).bind fun s2 => some s2) else (some s1)
theorem m144_w {toks : List Tk} {ip n : Nat} {R : Rec} (IH : IHs toks ip R) (b0 : Nat) : FC Tryz.prog toks ip 144 [.optr b0 0] (m144 toks n R ) unitR (EnvL [(0, gO), (b0, .row [.optr ip 0])]) := by
 refine fc_of fun s0 s' F0 H0 hm p0 i0 => ?_
 obtain ⟨⟨k0a, n0a⟩, ⟨k0b, n0b⟩, _⟩ := i0
 have b0a := getL k0a
 have b0b := getL k0b
 obtain ⟨st0, r0⟩ := p0.row
 have q0 := getL r0
 have hl := lim_le p0.len
 have f0 := Fr.refl F0 H0
 unfold m144 at hm
 refine aF (N := 8) Tryz.func144 rfl rfl (by simp) fun hb' => ?_
 repeat refine wS ?_
 refine wR ?_
 refine eT 2 (by simp only [kA, seval, y9, y84, y56, vint, qC, r0, q0, k0a, b0a, k0b, b0b] <;> with_reducible rfl) (by decide) ?_
 obtain ⟨s1, e1, hm⟩ := oB hm
 refine oC (by simp only [kC, seval, vint, qC, r0, q0, k0a, b0a, k0b, b0b] <;> with_reducible rfl) (by simp only [kC, seval]) (by decide) Tryzgo69 (by exact FN.ap0 (accept_c toks ip [[60]] (by decide)) e1 p0) ?_
 rintro _ H1 ⟨rfl, F1, p1, g1⟩
 have f1 : Fr F0 F1 H0 H1 := f0.trans g1
 obtain ⟨st1, r1⟩ := p1.row
 have q1 := getL r1
 obtain ⟨k1a, n1a⟩ := g1.get k0a n0a
 have b1a := getL k1a
 obtain ⟨k1b, n1b⟩ := g1.get k0b n0b
 have b1b := getL k1b
 refine oN ?_
 repeat refine wS ?_
 refine wC rfl (by simp only [jN, seval, vint, qC, r1, q1, k1a, b1a, k1b, b1b] <;> with_reducible rfl) (fun bt3 => ?_) (fun bt3 => ?_)
 ·-- if t3
  rw [ifT bt3] at hm
  repeat refine wS ?_
  refine wR ?_
  refine eT 3 (by simp only [kA, seval, y84, vint, qC, r1, q1, k1a, b1a, k1b, b1b] <;> with_reducible rfl) (by decide) ?_
  obtain ⟨s2, e2, hm⟩ := oB hm
  refine oC (by simp only [kC, seval, vint, qC, r1, q1, k1a, b1a, k1b, b1b] <;> with_reducible rfl) (by simp only [kC, seval]) (by decide) Tryzgo122 (by exact FC.ap0 (list_c toks ip n ([62]) 145 [.optr ip 0] [] Tryzgo145 (stbL [(0, gO)]) (fun _ _ _ => envL_hd) (FG.fc (m145_w (n := n) IH))) e2 p1 ⟨⟨k1a, n1a⟩, trivial⟩) ?_
  rintro _ H2 ⟨rfl, F2, p2, g2⟩
  have f2 : Fr F0 F2 H0 H2 := f1.trans g2
  obtain ⟨st2, r2⟩ := p2.row
  have q2 := getL r2
  obtain ⟨k2a, n2a⟩ := g2.get k1a n1a
  have b2a := getL k2a
  obtain ⟨k2b, n2b⟩ := g2.get k1b n1b
  have b2b := getL k2b
  refine oN ?_
  refine ⟨.inl rfl, _, rfl, ?_⟩
  injection hm with hm
  subst hm
  exact ⟨rfl, F2, p2, f2⟩
 ·-- else t3
  rw [ifF bt3] at hm
  repeat refine wS ?_
  refine wK ?_
  refine ⟨.inl rfl, _, rfl, ?_⟩
  injection hm with hm
  subst hm
  exact ⟨rfl, F1, p1, f1⟩
def m118 (toks : List Tk) (n : Nat) (R : Rec) (s0 : PS) : Option PS := ((nodeM 10 (m144 toks n R )) s0).bind fun s1 => some s1
theorem m118_w {toks : List Tk} {ip n : Nat} {R : Rec} (IH : IHs toks ip R) : FG toks ip 118 [.optr ip 0] (m118 toks n R ) (frv .typeParams) := by
 intro s0 s' F0 H0 hm p0 i0
 obtain ⟨⟨hg, n0a⟩, _⟩ := i0
 obtain ⟨st0, r0⟩ := p0.row
 have q0 := getL r0
 have hl := lim_le p0.len
 have f0 := Fr.refl F0 H0
 have k0a := getL hg [.row [.optr ip 0]]
 have b0a := getL k0a
 have k0b : (H0 ++ [.row [.optr ip 0]])[H0.length]? = some (.row [.optr ip 0]) := by simp
 have n0b := p0.new0
 have b0b := getL k0b
 unfold m118 at hm
 refine aF (N := 5) Tryz.func118 rfl rfl (by simp) fun hb' => ?_
 repeat refine wS ?_
 refine eE (by simp only [kA, seval, y84, vint, qC, r0, q0, hg] <;> with_reducible rfl) (by decide) ?_
 repeat refine wS ?_
 refine wR ?_
 refine eT 2 (by simp only [kA, seval, y84, vint, qC, r0, q0, hg] <;> with_reducible rfl) (by decide) ?_
 obtain ⟨s1, e1, hm⟩ := oB hm
 refine oC (by simp only [kC, seval, vint, qC, r0, q0, hg] <;> with_reducible rfl) (by simp only [kC, seval]) (by decide) Tryzgo67 (by exact FC.ap (node_c toks ip 10 144 [] [.optr (H0.length) 0] Tryzgo144 (stbL [(0, gO), (H0.length, .row [.optr ip 0])]) (m144_w (n := n) IH (H0.length) )) e1 p0 ⟨⟨k0a, n0a⟩, ⟨k0b, n0b⟩, trivial⟩) ?_
 rintro _ H1 ⟨rfl, F1, p1, g1⟩
 have f1 : Fr F0 F1 H0 H1 := f0.step g1
 obtain ⟨st1, r1⟩ := p1.row
 have q1 := getL r1
 obtain ⟨k1a, n1a⟩ := g1.get k0a n0a
 have b1a := getL k1a
 obtain ⟨k1b, n1b⟩ := g1.get k0b n0b
 have b1b := getL k1b
 refine oN ?_
 refine ⟨.inl rfl, _, rfl, ?_⟩
 injection hm with hm
 subst hm
 exact ⟨rfl, F1, p1, f1⟩
def m128 (toks : List Tk) (n : Nat) (R : Rec) (s0 : PS) : Option PS := ((bumpM toks) s0).bind fun s1 => ((R (.function false)) s1).bind fun s2 => some s2
theorem m128_w {toks : List Tk} {ip n : Nat} {R : Rec} (IH : IHs toks ip R) (b0 : Nat) : FC Tryz.prog toks ip 128 [.optr b0 0] (m128 toks n R ) unitR (EnvL [(0, gO), (b0, .row [.optr ip 0])]) := by
 refine fc_of fun s0 s' F0 H0 hm p0 i0 => ?_
 obtain ⟨⟨k0a, n0a⟩, ⟨k0b, n0b⟩, _⟩ := i0
 have b0a := getL k0a
 have b0b := getL k0b
 obtain ⟨st0, r0⟩ := p0.row
 have q0 := getL r0
 have hl := lim_le p0.len
 have f0 := Fr.refl F0 H0
 unfold m128 at hm
 refine aF (N := 5) Tryz.func128 rfl rfl (by simp) fun hb' => ?_
 repeat refine wS ?_
 refine wR ?_
 refine eT 1 (by simp only [kA, seval, y84, vint, qC, r0, q0, k0a, b0a, k0b, b0b] <;> with_reducible rfl) (by decide) ?_
 obtain ⟨s1, e1, hm⟩ := oB hm
 refine oC (by simp only [kC, seval, vint, qC, r0, q0, k0a, b0a, k0b, b0b] <;> with_reducible rfl) (by simp only [kC, seval]) (by decide) Tryzgo70 (by exact FN.ap0 (bump_c toks ip) e1 p0) ?_
 rintro _ H1 ⟨rfl, F1, p1, g1⟩
 have f1 : Fr F0 F1 H0 H1 := f0.trans g1
 obtain ⟨st1, r1⟩ := p1.row
 have q1 := getL r1
 obtain ⟨k1a, n1a⟩ := g1.get k0a n0a
 have b1a := getL k1a
 obtain ⟨k1b, n1b⟩ := g1.get k0b n0b
 have b1b := getL k1b
 refine oN ?_
 repeat refine wS ?_
 refine wR ?_
 refine eT 1 (by simp only [kA, seval, y84, vint, qC, r1, q1, k1a, b1a, k1b, b1b] <;> with_reducible rfl) (by decide) ?_
 obtain ⟨s2, e2, hm⟩ := oB hm
 refine oC (by simp only [kC, seval, vint, qC, r1, q1, k1a, b1a, k1b, b1b] <;> with_reducible rfl) (by simp only [kC, seval]) (by decide) Tryzgo96 (by exact FG.ap0 (IH (.function false)) e2 p1 ⟨k1a, n1a⟩) ?_
 rintro _ H2 ⟨rfl, F2, p2, g2⟩
 have f2 : Fr F0 F2 H0 H2 := f1.trans g2
 obtain ⟨st2, r2⟩ := p2.row
 have q2 := getL r2
 obtain ⟨k2a, n2a⟩ := g2.get k1a n1a
 have b2a := getL k2a
 obtain ⟨k2b, n2b⟩ := g2.get k1b n1b
 have b2b := getL k2b
 refine oN ?_
 refine ⟨.inl rfl, _, rfl, ?_⟩
 injection hm with hm
 subst hm
 exact ⟨rfl, F2, p2, f2⟩
def m129 (toks : List Tk) (n : Nat) (R : Rec) (s0 : PS) : Option PS := ((bumpM toks) s0).bind fun s1 => ((expectIdentM toks) s1).bind fun s2 => ((optionalM toks ([61]) (R .typeExpr)) s2).bind fun s3 => ((expectM toks [59]) s3).bind fun s4 => some s4
theorem m129_w {toks : List Tk} {ip n : Nat} {R : Rec} (IH : IHs toks ip R) (b0 : Nat) : FC Tryz.prog toks ip 129 [.optr b0 0] (m129 toks n R ) unitR (EnvL [(0, gO), (b0, .row [.optr ip 0])]) := by
 refine fc_of fun s0 s' F0 H0 hm p0 i0 => ?_
 obtain ⟨⟨k0a, n0a⟩, ⟨k0b, n0b⟩, _⟩ := i0
 have b0a := getL k0a
 have b0b := getL k0b
 obtain ⟨st0, r0⟩ := p0.row
 have q0 := getL r0
 have hl := lim_le p0.len
 have f0 := Fr.refl F0 H0
 unfold m129 at hm
 refine aF (N := 11) Tryz.func129 rfl rfl (by simp) fun hb' => ?_
 repeat refine wS ?_
 refine wR ?_
 refine eT 1 (by simp only [kA, seval, y84, vint, qC, r0, q0, k0a, b0a, k0b, b0b] <;> with_reducible rfl) (by decide) ?_
 obtain ⟨s1, e1, hm⟩ := oB hm
 refine oC (by simp only [kC, seval, vint, qC, r0, q0, k0a, b0a, k0b, b0b] <;> with_reducible rfl) (by simp only [kC, seval]) (by decide) Tryzgo70 (by exact FN.ap0 (bump_c toks ip) e1 p0) ?_
 rintro _ H1 ⟨rfl, F1, p1, g1⟩
 have f1 : Fr F0 F1 H0 H1 := f0.trans g1
 obtain ⟨st1, r1⟩ := p1.row
 have q1 := getL r1
 obtain ⟨k1a, n1a⟩ := g1.get k0a n0a
 have b1a := getL k1a
 obtain ⟨k1b, n1b⟩ := g1.get k0b n0b
 have b1b := getL k1b
 refine oN ?_
 repeat refine wS ?_
 refine wR ?_
 refine eT 1 (by simp only [kA, seval, y84, vint, qC, r1, q1, k1a, b1a, k1b, b1b] <;> with_reducible rfl) (by decide) ?_
 obtain ⟨s2, e2, hm⟩ := oB hm
 refine oC (by simp only [kC, seval, vint, qC, r1, q1, k1a, b1a, k1b, b1b] <;> with_reducible rfl) (by simp only [kC, seval]) (by decide) Tryzgo98 (by exact FN.ap0 (expectIdent_c toks ip) e2 p1) ?_
 rintro _ H2 ⟨rfl, F2, p2, g2⟩
 have f2 : Fr F0 F2 H0 H2 := f1.trans g2
 obtain ⟨st2, r2⟩ := p2.row
 have q2 := getL r2
 obtain ⟨k2a, n2a⟩ := g2.get k1a n1a
 have b2a := getL k2a
 obtain ⟨k2b, n2b⟩ := g2.get k1b n1b
 have b2b := getL k2b
 refine oN ?_
 repeat refine wS ?_
 refine wR ?_
 refine eT 3 (by simp only [kA, seval, y84, vint, qC, r2, q2, k2a, b2a, k2b, b2b] <;> with_reducible rfl) (by decide) ?_
 obtain ⟨s3, e3, hm⟩ := oB hm
 refine oC (by simp only [kC, seval, vint, qC, r2, q2, k2a, b2a, k2b, b2b] <;> with_reducible rfl) (by simp only [kC, seval]) (by decide) Tryzgo119 (by exact FC.ap0 (optional_c toks ip ([61]) 102 [.optr ip 0] [] Tryzgo102 (stbL [(0, gO)]) (FG.fc (IH .typeExpr))) e3 p2 ⟨⟨k2a, n2a⟩, trivial⟩) ?_
 rintro _ H3 ⟨rfl, F3, p3, g3⟩
 have f3 : Fr F0 F3 H0 H3 := f2.trans g3
 obtain ⟨st3, r3⟩ := p3.row
 have q3 := getL r3
 obtain ⟨k3a, n3a⟩ := g3.get k2a n2a
 have b3a := getL k3a
 obtain ⟨k3b, n3b⟩ := g3.get k2b n2b
 have b3b := getL k3b
 refine oN ?_
 repeat refine wS ?_
 refine wR ?_
 refine eT 1 (by simp only [kA, seval, y84, vint, qC, r3, q3, k3a, b3a, k3b, b3b] <;> with_reducible rfl) (by decide) ?_
 obtain ⟨s4, e4, hm⟩ := oB hm
 refine oC (by simp only [kC, seval, vint, qC, r3, q3, k3a, b3a, k3b, b3b] <;> with_reducible rfl) (by simp only [kC, seval]) (by decide) Tryzgo101 (by exact FN.ap0 (expect_c toks ip [59]) e4 p3) ?_
 rintro _ H4 ⟨rfl, F4, p4, g4⟩
 have f4 : Fr F0 F4 H0 H4 := f3.trans g4
 obtain ⟨st4, r4⟩ := p4.row
 have q4 := getL r4
 obtain ⟨k4a, n4a⟩ := g4.get k3a n3a
 have b4a := getL k4a
 obtain ⟨k4b, n4b⟩ := g4.get k3b n3b
 have b4b := getL k4b
 refine oN ?_
 refine ⟨.inl rfl, _, rfl, ?_⟩
 injection hm with hm
 subst hm
 exact ⟨rfl, F4, p4, f4⟩
def m103 (toks : List Tk) (n : Nat) (R : Rec) (s0 : PS) : Option PS := ((expectM toks [123]) s0).bind fun s1 => (loopM (fun s2 => atT (peekT toks s2.pos) [[116, 121, 112, 101], [102, 110]]) (fun s2 => if atT (peekT toks s2.pos) [[102, 110]] = true then (((nodeM 3 (m128 toks n R )) s2).bind fun s3 => some s3) else (((nodeM 16 (m129 toks n R )) s2).bind fun s3 => some s3)) n s1).bind fun s2 => ((expectM toks [125]) s2).bind fun s3 => some s3
theorem m103_w {toks : List Tk} {ip n : Nat} {R : Rec} (IH : IHs toks ip R) : FG toks ip 99 [.optr ip 0] (m103 toks n R ) unitR := by
 intro s0 s' F0 H0 hm p0 i0
 obtain ⟨⟨hg, n0a⟩, _⟩ := i0
 obtain ⟨st0, r0⟩ := p0.row
 have q0 := getL r0
 have hl := lim_le p0.len
 have f0 := Fr.refl F0 H0
 have k0a := getL hg [.row [.optr ip 0]]
 have b0a := getL k0a
 have k0b : (H0 ++ [.row [.optr ip 0]])[H0.length]? = some (.row [.optr ip 0]) := by simp
 have n0b := p0.new0
 have b0b := getL k0b
 unfold m103 at hm
 refine aF (N := 18) Tryz.func99 rfl rfl (by simp) fun hb' => ?_
 repeat refine wS ?_
 refine eE (by simp only [kA, seval, y84, vint, qC, r0, q0, hg] <;> with_reducible rfl) (by decide) ?_
 repeat refine wS ?_
 refine wR ?_
 refine eT 1 (by simp only [kA, seval, y84, vint, qC, r0, q0, hg] <;> with_reducible rfl) (by decide) ?_
 obtain ⟨s1, e1, hm⟩ := oB hm
 refine oC (by simp only [kC, seval, vint, qC, r0, q0, hg] <;> with_reducible rfl) (by simp only [kC, seval]) (by decide) Tryzgo101 (by exact FN.ap (expect_c toks ip [123]) e1 p0 _) ?_
 rintro _ H1 ⟨rfl, F1, p1, g1⟩
 have f1 : Fr F0 F1 H0 H1 := f0.step g1
 obtain ⟨st1, r1⟩ := p1.row
 have q1 := getL r1
 obtain ⟨k1a, n1a⟩ := g1.get k0a n0a
 have b1a := getL k1a
 obtain ⟨k1b, n1b⟩ := g1.get k0b n0b
 have b1b := getL k1b
 refine oN ?_
 repeat refine wS ?_
 obtain ⟨sL2, eL2, hm⟩ := oB hm
 have hmo2 := hm
 clear hm
 refine awp_block ?_
 refine awp_loopX (σ := Nat × PS × List Nat) (fun (z : Nat × PS × List Nat) => [(0, .optr ip 0), (1, .optr (H0.length) 0), (2, .optr ip 0)]) (fun (z : Nat × PS × List Nat) =>  fun H2 => loopM (fun s2 => atT (peekT toks s2.pos) [[116, 121, 112, 101], [102, 110]]) (fun s2 => if atT (peekT toks s2.pos) [[102, 110]] = true then (((nodeM 3 (m128 toks n R )) s2).bind fun s3 => some s3) else (((nodeM 16 (m129 toks n R )) s2).bind fun s3 => some s3)) z.1 z.2.1 = some sL2 ∧ PSt toks ip z.2.1 z.2.2 H2 ∧ Fr F0 z.2.2 H0 H2 ∧ (H2[0]? = some (gO) ∧ (0) ∉ z.2.2) ∧ (H2[H0.length]? = some (.row [.optr ip 0]) ∧ (H0.length) ∉ z.2.2)) (fun (z : Nat × PS × List Nat) => z.1) ((n, s1, F1)) ⟨(by first | rfl | (simp only [jN, seval, vint, qC, hg, r1, q1, k1a, b1a, k1b, b1b] <;> first | done | with_reducible rfl)), (by first | rfl | (simp only [jN, seval, vint, qC, hg, r1, q1, k1a, b1a, k1b, b1b] <;> first | done | with_reducible rfl)), (by first | rfl | (simp only [jN, seval, vint, qC, hg, r1, q1, k1a, b1a, k1b, b1b] <;> first | done | with_reducible rfl)), trivial⟩ (⟨eL2, p1, f1, ⟨k1a, n1a⟩, ⟨k1b, n1b⟩⟩) ?_
 intro z H2 hg
 obtain ⟨k2, s2, F2⟩ := z
 obtain ⟨hk2, p2, f2, ⟨k2a, n2a⟩, ⟨k2b, n2b⟩⟩ := hg
 simp only at hk2 p2 f2 k2a n2a k2b n2b
 obtain ⟨st2, r2⟩ := p2.row
 have q2 := getL r2
 have b2a := getL k2a
 have b2b := getL k2b
 cases k2 with
 | zero => cases hk2
 | succ k2 => ?_
 repeat refine wS ?_
 refine wR ?_
 refine eT 2 (by simp only [kA, seval, y9, y84, y56, vint, qC, hg, r2, q2, k2a, b2a, k2b, b2b] <;> with_reducible rfl) (by decide) ?_
 refine oP (by simp only [kC, seval, vint, qC, hg, r2, q2, k2a, b2a, k2b, b2b] <;> with_reducible rfl) (by simp only [kC, seval]) (by decide) Tryzgo63 (at_c r2 hl p2.pos [[116, 121, 112, 101], [102, 110]] (by decide)) ?_
 refine oN ?_
 repeat refine wS ?_
 refine wC rfl (by simp only [jN, seval, vint, qC, hg, r2, q2, k2a, b2a, k2b, b2b] <;> with_reducible rfl) (fun bt6 => ?_) (fun bt6 => ?_)
 ·-- if t6
  unfold loopM at hk2
  rw [ifT bt6] at hk2
  obtain ⟨sB2, hm, hk2⟩ := oB hk2
  repeat refine wS ?_
  refine wK ?_
  repeat refine wS ?_
  refine awp_block ?_
  repeat refine wS ?_
  refine wR ?_
  refine eT 2 (by simp only [kA, seval, y9, y84, y56, vint, qC, hg, r2, q2, k2a, b2a, k2b, b2b] <;> with_reducible rfl) (by decide) ?_
  refine oP (by simp only [kC, seval, vint, qC, hg, r2, q2, k2a, b2a, k2b, b2b] <;> with_reducible rfl) (by simp only [kC, seval]) (by decide) Tryzgo63 (at_c r2 hl p2.pos [[102, 110]] (by decide)) ?_
  refine oN ?_
  repeat refine wS ?_
  refine wC rfl (by simp only [jN, seval, vint, qC, hg, r2, q2, k2a, b2a, k2b, b2b] <;> with_reducible rfl) (fun bt9 => ?_) (fun bt9 => ?_)
  ·-- if t9
   rw [ifT bt9] at hm
   repeat refine wS ?_
   refine wR ?_
   refine eT 2 (by simp only [kA, seval, y84, vint, qC, hg, r2, q2, k2a, b2a, k2b, b2b] <;> with_reducible rfl) (by decide) ?_
   obtain ⟨s3, e3, hm⟩ := oB hm
   refine oC (by simp only [kC, seval, vint, qC, hg, r2, q2, k2a, b2a, k2b, b2b] <;> with_reducible rfl) (by simp only [kC, seval]) (by decide) Tryzgo67 (by exact FC.ap0 (node_c toks ip 3 128 [] [.optr (H0.length) 0] Tryzgo128 (stbL [(0, gO), (H0.length, .row [.optr ip 0])]) (m128_w (n := n) IH (H0.length) )) e3 p2 ⟨⟨k2a, n2a⟩, ⟨k2b, n2b⟩, trivial⟩) ?_
   rintro _ H3 ⟨rfl, F3, p3, g3⟩
   have f3 : Fr F0 F3 H0 H3 := f2.trans g3
   obtain ⟨st3, r3⟩ := p3.row
   have q3 := getL r3
   obtain ⟨k3a, n3a⟩ := g3.get k2a n2a
   have b3a := getL k3a
   obtain ⟨k3b, n3b⟩ := g3.get k2b n2b
   have b3b := getL k3b
   refine oN ?_
   repeat refine wS ?_
   refine awp_exit ?_
   simp only [thenQ, blockQ, reduceIte, Nat.reduceEqDiff, Nat.succ_ne_self, if_true, if_false]
   try simp only [thenQ, blockQ]
   injection hm with hm
   subst hm
   exact ⟨(k2, _, F3), Nat.lt_succ_self _, ⟨rfl, rfl, rfl, trivial⟩, hk2, p3, f3, ⟨k3a, n3a⟩, ⟨k3b, n3b⟩⟩
  ·-- else t9
   rw [ifF bt9] at hm
   repeat refine wS ?_
   refine wK ?_
   repeat refine wS ?_
   refine wR ?_
   refine eT 2 (by simp only [kA, seval, y84, vint, qC, hg, r2, q2, k2a, b2a, k2b, b2b] <;> with_reducible rfl) (by decide) ?_
   obtain ⟨s3, e3, hm⟩ := oB hm
   refine oC (by simp only [kC, seval, vint, qC, hg, r2, q2, k2a, b2a, k2b, b2b] <;> with_reducible rfl) (by simp only [kC, seval]) (by decide) Tryzgo67 (by exact FC.ap0 (node_c toks ip 16 129 [] [.optr (H0.length) 0] Tryzgo129 (stbL [(0, gO), (H0.length, .row [.optr ip 0])]) (m129_w (n := n) IH (H0.length) )) e3 p2 ⟨⟨k2a, n2a⟩, ⟨k2b, n2b⟩, trivial⟩) ?_
   rintro _ H3 ⟨rfl, F3, p3, g3⟩
   have f3 : Fr F0 F3 H0 H3 := f2.trans g3
   obtain ⟨st3, r3⟩ := p3.row
   have q3 := getL r3
   obtain ⟨k3a, n3a⟩ := g3.get k2a n2a
   have b3a := getL k3a
   obtain ⟨k3b, n3b⟩ := g3.get k2b n2b
   have b3b := getL k3b
   refine oN ?_
   try simp only [thenQ, blockQ]
   injection hm with hm
   subst hm
   exact ⟨(k2, _, F3), Nat.lt_succ_self _, ⟨rfl, rfl, rfl, trivial⟩, hk2, p3, f3, ⟨k3a, n3a⟩, ⟨k3b, n3b⟩⟩
 ·-- else t6
  unfold loopM at hk2
  rw [ifF bt6] at hk2
  injection hk2 with hk2
  subst hk2
  have hm := hmo2
  repeat refine wS ?_
  refine awp_exit ?_
  simp only [thenQ, blockQ, reduceIte, Nat.reduceEqDiff, Nat.succ_ne_self, if_true, if_false]
  repeat refine wS ?_
  refine wR ?_
  refine eT 1 (by simp only [kA, seval, y84, vint, qC, hg, r2, q2, k2a, b2a, k2b, b2b] <;> with_reducible rfl) (by decide) ?_
  obtain ⟨s3, e3, hm⟩ := oB hm
  refine oC (by simp only [kC, seval, vint, qC, hg, r2, q2, k2a, b2a, k2b, b2b] <;> with_reducible rfl) (by simp only [kC, seval]) (by decide) Tryzgo101 (by exact FN.ap0 (expect_c toks ip [125]) e3 p2) ?_
  rintro _ H3 ⟨rfl, F3, p3, g3⟩
  have f3 : Fr F0 F3 H0 H3 := f2.trans g3
  obtain ⟨st3, r3⟩ := p3.row
  have q3 := getL r3
  obtain ⟨k3a, n3a⟩ := g3.get k2a n2a
  have b3a := getL k3a
  obtain ⟨k3b, n3b⟩ := g3.get k2b n2b
  have b3b := getL k3b
  refine oN ?_
  refine ⟨.inl rfl, _, rfl, ?_⟩
  injection hm with hm
  subst hm
  exact ⟨rfl, F3, p3, f3⟩
end Go.Abs
namespace Go.Abs
open Go.Proofs
def m153 (toks : List Tk) (n : Nat) (R : Rec) (b : Bool) (s0 : PS) : Option PS := ((expectIdentM toks) s0).bind fun s1 => if b = true then (((acceptM toks [[60]]) s1).bind fun s2 => if atT (peekT toks s1.pos) [[60]] = true then (((listM toks n ([62]) (R .typeExpr)) s2).bind fun s3 => some s3) else (some s2)) else (some s1)
theorem m153_w {toks : List Tk} {ip n : Nat} {R : Rec} (IH : IHs toks ip R) (b0 b1 : Nat) (b : Bool) : FC Tryz.prog toks ip 153 [.optr b0 0, .optr b1 0] (m153 toks n R b) unitR (EnvL [(0, gO), (b0, .row [.optr ip 0]), (b1, .row [.bool b])]) := by
 refine fc_of fun s0 s' F0 H0 hm p0 i0 => ?_
 obtain ⟨⟨k0a, n0a⟩, ⟨k0b, n0b⟩, ⟨k0c, n0c⟩, _⟩ := i0
 have b0a := getL k0a
 have b0b := getL k0b
 have b0c := getL k0c
 obtain ⟨st0, r0⟩ := p0.row
 have q0 := getL r0
 have hl := lim_le p0.len
 have f0 := Fr.refl F0 H0
 unfold m153 at hm
 refine aF (N := 14) Tryz.func153 rfl rfl (by simp) fun hb' => ?_
 repeat refine wS ?_
 refine wR ?_
 refine eT 1 (by simp only [kA, seval, y84, vint, qC, r0, q0, k0a, b0a, k0b, b0b, k0c, b0c] <;> with_reducible rfl) (by decide) ?_
 obtain ⟨s1, e1, hm⟩ := oB hm
 refine oC (by simp only [kC, seval, vint, qC, r0, q0, k0a, b0a, k0b, b0b, k0c, b0c] <;> with_reducible rfl) (by simp only [kC, seval]) (by decide) Tryzgo98 (by exact FN.ap0 (expectIdent_c toks ip) e1 p0) ?_
 rintro _ H1 ⟨rfl, F1, p1, g1⟩
 have f1 : Fr F0 F1 H0 H1 := f0.trans g1
 obtain ⟨st1, r1⟩ := p1.row
 have q1 := getL r1
 obtain ⟨k1a, n1a⟩ := g1.get k0a n0a
 have b1a := getL k1a
 obtain ⟨k1b, n1b⟩ := g1.get k0b n0b
 have b1b := getL k1b
 obtain ⟨k1c, n1c⟩ := g1.get k0c n0c
 have b1c := getL k1c
 refine oN ?_
 rcases Bool.eq_false_or_eq_true (b) with hd1 | hd1
 ·-- case
  rw [ifT hd1] at hm
  repeat refine wS ?_
  refine wR ?_
  refine eT 4 (by simp only [kA, seval, y4, y9, y84, y56, vint, qC, r1, q1, k1a, b1a, k1b, b1b, k1c, b1c, hd1] <;> with_reducible rfl) (by decide) ?_
  obtain ⟨s2, e2, hm⟩ := oB hm
  refine oC (by simp only [kC, seval, vint, qC, r1, q1, k1a, b1a, k1b, b1b, k1c, b1c, hd1] <;> with_reducible rfl) (by simp only [kC, seval]) (by decide) Tryzgo69 (by exact FN.ap0 (accept_c toks ip [[60]] (by decide)) e2 p1) ?_
  rintro _ H2 ⟨rfl, F2, p2, g2⟩
  have f2 : Fr F0 F2 H0 H2 := f1.trans g2
  obtain ⟨st2, r2⟩ := p2.row
  have q2 := getL r2
  obtain ⟨k2a, n2a⟩ := g2.get k1a n1a
  have b2a := getL k2a
  obtain ⟨k2b, n2b⟩ := g2.get k1b n1b
  have b2b := getL k2b
  obtain ⟨k2c, n2c⟩ := g2.get k1c n1c
  have b2c := getL k2c
  refine e_end (by simp only [kA, seval, vint, qC, hd1, r2, q2, k2a, b2a, k2b, b2b, k2c, b2c] <;> with_reducible rfl) (by decide) ?_
  repeat refine wS ?_
  refine wC rfl (by simp only [jN, seval, vint, qC, hd1, r2, q2, k2a, b2a, k2b, b2b, k2c, b2c] <;> with_reducible rfl) (fun bt9 => ?_) (fun bt9 => ?_)
  ·-- if t9
   rw [ifT bt9] at hm
   repeat refine wS ?_
   refine wR ?_
   refine eT 3 (by simp only [kA, seval, y84, vint, qC, hd1, r2, q2, k2a, b2a, k2b, b2b, k2c, b2c] <;> with_reducible rfl) (by decide) ?_
   obtain ⟨s3, e3, hm⟩ := oB hm
   refine oC (by simp only [kC, seval, vint, qC, hd1, r2, q2, k2a, b2a, k2b, b2b, k2c, b2c] <;> with_reducible rfl) (by simp only [kC, seval]) (by decide) Tryzgo122 (by exact FC.ap0 (list_c toks ip n ([62]) 102 [.optr ip 0] [] Tryzgo102 (stbL [(0, gO)]) (fun _ _ _ => envL_hd) (FG.fc (IH .typeExpr))) e3 p2 ⟨⟨k2a, n2a⟩, trivial⟩) ?_
   rintro _ H3 ⟨rfl, F3, p3, g3⟩
   have f3 : Fr F0 F3 H0 H3 := f2.trans g3
   obtain ⟨st3, r3⟩ := p3.row
   have q3 := getL r3
   obtain ⟨k3a, n3a⟩ := g3.get k2a n2a
   have b3a := getL k3a
   obtain ⟨k3b, n3b⟩ := g3.get k2b n2b
   have b3b := getL k3b
   obtain ⟨k3c, n3c⟩ := g3.get k2c n2c
   have b3c := getL k3c
   refine oN ?_
   refine ⟨.inl rfl, _, rfl, ?_⟩
   injection hm with hm
   subst hm
   exact ⟨rfl, F3, p3, f3⟩
  ·-- else t9
   rw [ifF bt9] at hm
   repeat refine wS ?_
   refine wK ?_
   refine ⟨.inl rfl, _, rfl, ?_⟩
   injection hm with hm
   subst hm
   exact ⟨rfl, F2, p2, f2⟩
 ·-- case
  rw [ifF hd1] at hm
  repeat refine wS ?_
  refine eE (by simp only [kA, seval, y4, y9, y84, y56, vint, qC, r1, q1, k1a, b1a, k1b, b1b, k1c, b1c, hd1] <;> with_reducible rfl) (by decide) ?_
  repeat refine wS ?_
  refine wF rfl (by simp only [jN, seval, vint, qC, r1, q1, k1a, b1a, k1b, b1b, k1c, b1c, hd1] <;> with_reducible rfl) ?_
  repeat refine wS ?_
  refine wK ?_
  refine ⟨.inl rfl, _, rfl, ?_⟩
  injection hm with hm
  subst hm
  exact ⟨rfl, F1, p1, f1⟩
def m152 (toks : List Tk) (n : Nat) (R : Rec) (b : Bool) (s0 : PS) : Option PS := ((nodeM 18 (m153 toks n R b)) s0).bind (loopE (fun s => atT (peekT toks s.pos) [[58, 58]]) (acceptM toks [[58, 58]]) (nodeM 18 (m153 toks n R b)) n)
theorem path_cases {c : PS → Bool} {a b : PS → Option PS} {fst : Bool} {k1 : Nat} {s1 s' : PS} (h : (fst = true ∧ ∃ k, k1 = k + 1 ∧ (b s1).bind (loopE c a b k) = some s') ∨ (fst = false ∧ loopE c a b k1 s1 = some s')) :
  (fst = true ∧ ∃ k, k1 = k + 1 ∧ (b s1).bind (loopE c a b k) = some s') ∨ (fst = false ∧ ∃ k, k1 = k + 1 ∧ c s1 = true ∧ ∃ sB, ((a s1).bind fun s => (b s).bind fun s => some s) = some sB ∧ loopE c a b k sB = some s') ∨ (fst = false ∧ c s1 = false ∧ ((a s1).bind fun s => some s) = some s') := by
 rcases h with h | ⟨h1, h2⟩
 ·exact .inl h
 ·cases k1 with
  | zero => cases h2
  | succ k =>
   unfold loopE at h2
   split at h2
   ·rename_i hc
    obtain ⟨sB, h3, h4⟩ := oB h2
    refine .inr (.inl ⟨h1, k, rfl, hc, sB, ?_, h4⟩)
    obtain ⟨s2, h5, h6⟩ := oB h3
    rw [h5]; exact bind_id h6
   ·rename_i hc
    exact .inr (.inr ⟨h1, by simpa using hc, bind_id h2⟩)
theorem m152_w {toks : List Tk} {ip n : Nat} {R : Rec} (IH : IHs toks ip R) (b0 b1 : Nat) (b : Bool) : FC Tryz.prog toks ip 152 [.optr b0 0, .optr b1 0] (m152 toks n R b) unitR (EnvL [(0, gO), (b0, .row [.optr ip 0]), (b1, .row [.bool b])]) := by
 refine fc_of fun s0 s' F0 H0 hm p0 i0 => ?_
 obtain ⟨⟨k0a, n0a⟩, ⟨k0b, n0b⟩, ⟨k0c, n0c⟩, _⟩ := i0
 have b0a := getL k0a
 have b0b := getL k0b
 have b0c := getL k0c
 obtain ⟨st0, r0⟩ := p0.row
 have q0 := getL r0
 have hl := lim_le p0.len
 have f0 := Fr.refl F0 H0
 unfold m152 at hm
 refine aF (N := 12) Tryz.func152 rfl rfl (by simp) fun hb' => ?_
 repeat refine wS ?_
 refine eE (by simp only [kA, seval, vint, qC, r0, q0, k0a, b0a, k0b, b0b, k0c, b0c] <;> with_reducible rfl) (by decide) ?_
 repeat refine wS ?_
 refine awp_block ?_
 refine awp_loopX (σ := Nat × PS × List Nat × Bool) (fun (z : Nat × PS × List Nat × Bool) => [(0, .optr b0 0), (1, .optr b1 0), (2, .bool z.2.2.2)]) (fun (z : Nat × PS × List Nat × Bool) =>  fun H1 => ((z.2.2.2 = true ∧ ∃ k, z.1 = k + 1 ∧ ((nodeM 18 (m153 toks n R b)) z.2.1).bind (loopE (fun s => atT (peekT toks s.pos) [[58, 58]]) (acceptM toks [[58, 58]]) (nodeM 18 (m153 toks n R b)) k) = some s') ∨ (z.2.2.2 = false ∧ loopE (fun s => atT (peekT toks s.pos) [[58, 58]]) (acceptM toks [[58, 58]]) (nodeM 18 (m153 toks n R b)) z.1 z.2.1 = some s')) ∧ PSt toks ip z.2.1 z.2.2.1 H1 ∧ Fr F0 z.2.2.1 H0 H1 ∧ (H1[0]? = some (gO) ∧ (0) ∉ z.2.2.1) ∧ (H1[b0]? = some (.row [.optr ip 0]) ∧ (b0) ∉ z.2.2.1) ∧ (H1[b1]? = some (.row [.bool b]) ∧ (b1) ∉ z.2.2.1)) (fun (z : Nat × PS × List Nat × Bool) => z.1) ((n + 1, s0, F0, true)) ⟨(by first | rfl | (simp only [jN, seval, vint, qC, r0, q0, k0a, b0a, k0b, b0b, k0c, b0c] <;> first | done | with_reducible rfl)), (by first | rfl | (simp only [jN, seval, vint, qC, r0, q0, k0a, b0a, k0b, b0b, k0c, b0c] <;> first | done | with_reducible rfl)), (by first | rfl | (simp only [jN, seval, vint, qC, r0, q0, k0a, b0a, k0b, b0b, k0c, b0c] <;> first | done | with_reducible rfl)), trivial⟩ (⟨.inl ⟨rfl, n, rfl, hm⟩, p0, f0, ⟨k0a, n0a⟩, ⟨k0b, n0b⟩, ⟨k0c, n0c⟩⟩) ?_
 intro z H1 hg
 obtain ⟨k1, s1, F1, fst⟩ := z
 obtain ⟨hk1, p1, f1, ⟨k1a, n1a⟩, ⟨k1b, n1b⟩, ⟨k1c, n1c⟩⟩ := hg
 simp only at hk1 p1 f1 k1a n1a k1b n1b k1c n1c
 obtain ⟨st1, r1⟩ := p1.row
 have q1 := getL r1
 have b1a := getL k1a
 have b1b := getL k1b
 have b1c := getL k1c
 obtain ⟨rfl, k1, rfl, hm⟩ | ⟨rfl, k1, rfl, hd1, sB, hm, hk⟩ | ⟨rfl, hd1, hm⟩ : (fst = true ∧ ∃ k, k1 = k + 1 ∧ ((nodeM 18 (m153 toks n R b)) s1).bind (loopE (fun s => atT (peekT toks s.pos) [[58, 58]]) (acceptM toks [[58, 58]]) (nodeM 18 (m153 toks n R b)) k) = some s') ∨ (fst = false ∧ ∃ k, k1 = k + 1 ∧ (atT (peekT toks s1.pos) [[58, 58]]) = true ∧ ∃ sB, ((acceptM toks [[58, 58]] s1).bind fun s => ((nodeM 18 (m153 toks n R b)) s).bind fun s => some s) = some sB ∧ loopE (fun s => atT (peekT toks s.pos) [[58, 58]]) (acceptM toks [[58, 58]]) (nodeM 18 (m153 toks n R b)) k sB = some s') ∨ (fst = false ∧ (atT (peekT toks s1.pos) [[58, 58]]) = false ∧ ((acceptM toks [[58, 58]] s1).bind fun s => some s) = some s') := path_cases hk1
 ·-- case
  repeat refine wS ?_
  refine eE (by simp only [kA, seval, y9, y84, y56, vint, qC, r1, q1, k1a, b1a, k1b, b1b, k1c, b1c] <;> with_reducible rfl) (by decide) ?_
  repeat refine wS ?_
  refine awp_cond_true rfl (by simp only [jN, seval, vint, qC, r1, q1, k1a, b1a, k1b, b1b, k1c, b1c] <;> with_reducible rfl) ?_
  repeat refine wS ?_
  refine wK ?_
  repeat refine wS ?_
  refine awp_block ?_
  repeat refine wS ?_
  refine wR ?_
  refine eT 2 (by simp only [kA, seval, y84, vint, qC, r1, q1, k1a, b1a, k1b, b1b, k1c, b1c] <;> with_reducible rfl) (by decide) ?_
  obtain ⟨s2, e2, hm⟩ := oB hm
  refine oC (by simp only [kC, seval, vint, qC, r1, q1, k1a, b1a, k1b, b1b, k1c, b1c] <;> with_reducible rfl) (by simp only [kC, seval]) (by decide) Tryzgo67 (by exact FC.ap0 (node_c toks ip 18 153 [] [.optr (b0) 0, .optr (b1) 0] Tryzgo153 (stbL [(0, gO), (b0, .row [.optr ip 0]), (b1, .row [.bool b])]) (m153_w (n := n) IH (b0) (b1) (b))) e2 p1 ⟨⟨k1a, n1a⟩, ⟨k1b, n1b⟩, ⟨k1c, n1c⟩, trivial⟩) ?_
  rintro _ H2 ⟨rfl, F2, p2, g2⟩
  have f2 : Fr F0 F2 H0 H2 := f1.trans g2
  obtain ⟨st2, r2⟩ := p2.row
  have q2 := getL r2
  obtain ⟨k2a, n2a⟩ := g2.get k1a n1a
  have b2a := getL k2a
  obtain ⟨k2b, n2b⟩ := g2.get k1b n1b
  have b2b := getL k2b
  obtain ⟨k2c, n2c⟩ := g2.get k1c n1c
  have b2c := getL k2c
  refine oN ?_
  repeat refine wS ?_
  refine eE (by simp only [kA, seval, vint, qC, r2, q2, k2a, b2a, k2b, b2b, k2c, b2c] <;> with_reducible rfl) (by decide) ?_
  try simp only [thenQ, blockQ]
  exact ⟨(k1, s2, F2, false), Nat.lt_succ_self _, ⟨rfl, rfl, rfl, trivial⟩, .inr ⟨rfl, hm⟩, p2, f2, ⟨k2a, n2a⟩, ⟨k2b, n2b⟩, ⟨k2c, n2c⟩⟩
 ·-- case
  repeat refine wS ?_
  refine wR ?_
  refine eT 4 (by simp only [kA, seval, y9, y84, y56, vint, qC, r1, q1, k1a, b1a, k1b, b1b, k1c, b1c, hd1] <;> with_reducible rfl) (by decide) ?_
  obtain ⟨s2, e2, hm⟩ := oB hm
  refine oC (by simp only [kC, seval, vint, qC, r1, q1, k1a, b1a, k1b, b1b, k1c, b1c, hd1] <;> with_reducible rfl) (by simp only [kC, seval]) (by decide) Tryzgo69 (by exact FN.ap0 (accept_c toks ip [[58, 58]] (by decide)) e2 p1) ?_
  rintro _ H2 ⟨rfl, F2, p2, g2⟩
  have f2 : Fr F0 F2 H0 H2 := f1.trans g2
  obtain ⟨st2, r2⟩ := p2.row
  have q2 := getL r2
  obtain ⟨k2a, n2a⟩ := g2.get k1a n1a
  have b2a := getL k2a
  obtain ⟨k2b, n2b⟩ := g2.get k1b n1b
  have b2b := getL k2b
  obtain ⟨k2c, n2c⟩ := g2.get k1c n1c
  have b2c := getL k2c
  refine e_end (by simp only [kA, seval, vint, qC, hd1, r2, q2, k2a, b2a, k2b, b2b, k2c, b2c] <;> with_reducible rfl) (by decide) ?_
  repeat refine wS ?_
  refine awp_cond_true rfl (by simp only [jN, seval, vint, qC, hd1, r2, q2, k2a, b2a, k2b, b2b, k2c, b2c] <;> with_reducible rfl) ?_
  repeat refine wS ?_
  refine wK ?_
  repeat refine wS ?_
  refine awp_block ?_
  repeat refine wS ?_
  refine wR ?_
  refine eT 2 (by simp only [kA, seval, y84, vint, qC, hd1, r2, q2, k2a, b2a, k2b, b2b, k2c, b2c] <;> with_reducible rfl) (by decide) ?_
  obtain ⟨s3, e3, hm⟩ := oB hm
  refine oC (by simp only [kC, seval, vint, qC, hd1, r2, q2, k2a, b2a, k2b, b2b, k2c, b2c] <;> with_reducible rfl) (by simp only [kC, seval]) (by decide) Tryzgo67 (by exact FC.ap0 (node_c toks ip 18 153 [] [.optr (b0) 0, .optr (b1) 0] Tryzgo153 (stbL [(0, gO), (b0, .row [.optr ip 0]), (b1, .row [.bool b])]) (m153_w (n := n) IH (b0) (b1) (b))) e3 p2 ⟨⟨k2a, n2a⟩, ⟨k2b, n2b⟩, ⟨k2c, n2c⟩, trivial⟩) ?_
  rintro _ H3 ⟨rfl, F3, p3, g3⟩
  have f3 : Fr F0 F3 H0 H3 := f2.trans g3
  obtain ⟨st3, r3⟩ := p3.row
  have q3 := getL r3
  obtain ⟨k3a, n3a⟩ := g3.get k2a n2a
  have b3a := getL k3a
  obtain ⟨k3b, n3b⟩ := g3.get k2b n2b
  have b3b := getL k3b
  obtain ⟨k3c, n3c⟩ := g3.get k2c n2c
  have b3c := getL k3c
  refine oN ?_
  repeat refine wS ?_
  refine eE (by simp only [kA, seval, vint, qC, hd1, r3, q3, k3a, b3a, k3b, b3b, k3c, b3c] <;> with_reducible rfl) (by decide) ?_
  try simp only [thenQ, blockQ]
  injection hm with hm
  subst hm
  exact ⟨(k1, s3, F3, false), Nat.lt_succ_self _, ⟨rfl, rfl, rfl, trivial⟩, .inr ⟨rfl, hk⟩, p3, f3, ⟨k3a, n3a⟩, ⟨k3b, n3b⟩, ⟨k3c, n3c⟩⟩
 ·-- case
  repeat refine wS ?_
  refine wR ?_
  refine eT 4 (by simp only [kA, seval, y9, y84, y56, vint, qC, r1, q1, k1a, b1a, k1b, b1b, k1c, b1c, hd1] <;> with_reducible rfl) (by decide) ?_
  obtain ⟨s2, e2, hm⟩ := oB hm
  refine oC (by simp only [kC, seval, vint, qC, r1, q1, k1a, b1a, k1b, b1b, k1c, b1c, hd1] <;> with_reducible rfl) (by simp only [kC, seval]) (by decide) Tryzgo69 (by exact FN.ap0 (accept_c toks ip [[58, 58]] (by decide)) e2 p1) ?_
  rintro _ H2 ⟨rfl, F2, p2, g2⟩
  have f2 : Fr F0 F2 H0 H2 := f1.trans g2
  obtain ⟨st2, r2⟩ := p2.row
  have q2 := getL r2
  obtain ⟨k2a, n2a⟩ := g2.get k1a n1a
  have b2a := getL k2a
  obtain ⟨k2b, n2b⟩ := g2.get k1b n1b
  have b2b := getL k2b
  obtain ⟨k2c, n2c⟩ := g2.get k1c n1c
  have b2c := getL k2c
  refine e_end (by simp only [kA, seval, vint, qC, hd1, r2, q2, k2a, b2a, k2b, b2b, k2c, b2c] <;> with_reducible rfl) (by decide) ?_
  repeat refine wS ?_
  refine wF rfl (by simp only [jN, seval, vint, qC, hd1, r2, q2, k2a, b2a, k2b, b2b, k2c, b2c] <;> with_reducible rfl) ?_
  repeat refine wS ?_
  refine awp_exit ?_
  simp only [thenQ, blockQ, reduceIte, Nat.reduceEqDiff, Nat.succ_ne_self, if_true, if_false]
  refine ⟨.inl trivial, _, rfl, ?_⟩
  injection hm with hm
  subst hm
  exact ⟨rfl, F2, p2, f2⟩
def m133 (toks : List Tk) (n : Nat) (R : Rec) (b : Bool) (s0 : PS) : Option PS := ((nodeM 17 (m152 toks n R (b))) s0).bind fun s1 => some s1
theorem m133_w {toks : List Tk} {ip n : Nat} {R : Rec} (IH : IHs toks ip R) (b : Bool) : FG toks ip 133 [.optr ip 0, .bool b] (m133 toks n R b) (frv (.path b)) := by
 intro s0 s' F0 H0 hm p0 i0
 obtain ⟨⟨hg, n0a⟩, _⟩ := i0
 obtain ⟨st0, r0⟩ := p0.row
 have q0 := getL r0
 have hl := lim_le p0.len
 have f0 := Fr.refl F0 H0
 have k0a := getL hg [.row [.optr ip 0], .row [.bool b]]
 have b0a := getL k0a
 have k0b : (H0 ++ [.row [.optr ip 0], .row [.bool b]])[H0.length]? = some (.row [.optr ip 0]) := by simp
 have n0b := p0.new0
 have b0b := getL k0b
 have k0c : (H0 ++ [.row [.optr ip 0], .row [.bool b]])[H0.length + 1]? = some (.row [.bool b]) := by simp
 have n0c := p0.new 1
 have b0c := getL k0c
 unfold m133 at hm
 refine aF (N := 7) Tryz.func133 rfl rfl (by simp) fun hb' => ?_
 repeat refine wS ?_
 refine eE (by simp only [kA, seval, y4, y84, vint, qC, r0, q0, hg] <;> with_reducible rfl) (by decide) ?_
 repeat refine wS ?_
 refine wR ?_
 refine eT 2 (by simp only [kA, seval, y84, vint, qC, r0, q0, hg] <;> with_reducible rfl) (by decide) ?_
 obtain ⟨s1, e1, hm⟩ := oB hm
 refine oC (by simp only [kC, seval, vint, qC, r0, q0, hg] <;> with_reducible rfl) (by simp only [kC, seval]) (by decide) Tryzgo67 (by exact FC.ap (node_c toks ip 17 152 [] [.optr (H0.length) 0, .optr (H0.length + 1) 0] Tryzgo152 (stbL [(0, gO), (H0.length, .row [.optr ip 0]), (H0.length + 1, .row [.bool b])]) (m152_w (n := n) IH (H0.length) (H0.length + 1) (b))) e1 p0 ⟨⟨k0a, n0a⟩, ⟨k0b, n0b⟩, ⟨k0c, n0c⟩, trivial⟩) ?_
 rintro _ H1 ⟨rfl, F1, p1, g1⟩
 have f1 : Fr F0 F1 H0 H1 := f0.step g1
 obtain ⟨st1, r1⟩ := p1.row
 have q1 := getL r1
 obtain ⟨k1a, n1a⟩ := g1.get k0a n0a
 have b1a := getL k1a
 obtain ⟨k1b, n1b⟩ := g1.get k0b n0b
 have b1b := getL k1b
 obtain ⟨k1c, n1c⟩ := g1.get k0c n0c
 have b1c := getL k1c
 refine oN ?_
 refine ⟨.inl rfl, _, rfl, ?_⟩
 injection hm with hm
 subst hm
 exact ⟨rfl, F1, p1, f1⟩
end Go.Abs
