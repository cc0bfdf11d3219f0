/- Part 6 of a proof of the law UnifyMatchesReference: Go data as trees, the walks of the functions that the law reaches, the plain laws. -/
import Derived.Test.YtgjpdplbjbgebaaGEUnifyMatchesReference
import Derived.Shelf.Small.Wraps
import Derived.Shelf.SlSortCmp.WholeK
import Derived.Shelf.SlSortCmp.NoneTotal
import Derived.Ground.SlsfProg
import Derived.Ground.Names2Prog
import Derived.Test.YtgjpdplbjbgebaaProg
set_option linter.unusedVariables false
set_option linter.unusedSimpArgs false
namespace Go.Proofs
open Go.Shelf
def Try.lays122_ren : Go.Shelf.Ren := ⟨fun | 122 => 38 | 215 => 66 | n => n, fun | 3 => 3 | 4 => 4 | n => n, fun | n => n⟩
theorem Try.lays122 : Go.Proofs.Lays.n122 Try.prog Try.lays122_ren := {
  mixed := by kernel_rfl
  f122 := Try.func38.trans (congrArg some (by kernel_rfl))
  f215 := Try.func66.trans (congrArg some (by kernel_rfl))
  t3 := Try.underlying3
  a3 := Try.isAgg3
  z3 := Try.sizeOf3
  v3 := Try.zeroValue3
  t4 := Try.underlying4
  a4 := Try.isAgg4
  z4 := Try.sizeOf4
  v4 := Try.zeroValue4 }
open Go.RowKit in
/-- cmp.Compare at int: "Compare returns -1 if x is less than y, 0 if x equals y, +1 if x is greater than y.": IT RETURNS 'Lib.compareInt x y'; the world is as it was. (LAID: no walk: one application.) -/
theorem Try.cmp_Compare_int (x y : Int) (w : World) :
    Calls Try.prog 38 #[.int .i64 x, .int .i64 y] w fun e w' => e = .returned (.int .i64 (Lib.compareInt x y)) ∧ w' = w := Any.cmp_Compare_int Try.lays122 x y w
def Try.laysSort36_ren : Go.Shelf.Ren := ⟨fun | 6 => 36 | 15 => 65 | 14 => 64 | 28 => 82 | 29 => 83 | 20 => 74 | 21 => 75 | 22 => 76 | 23 => 77 | 24 => 78 | 25 => 79 | 26 => 80 | 27 => 81 | 46 => 87 | 47 => 88 | 48 => 89 | 49 => 90 | 50 => 91 | 57 => 93 | n => n, fun | 22 => 24 | 24 => 42 | 25 => 65 | 3 => 3 | 39 => 85 | 0 => 0 | 53 => 101 | 55 => 103 | 4 => 4 | 46 => 94 | 45 => 93 | 50 => 98 | 5 => 5 | 9 => 9 | 66 => 108 | 70 => 112 | 76 => 114 | 77 => 66 | n => n, fun | n => n⟩
theorem Try.laysSort36 : Go.Proofs.SlLaysF0.n6 Try.prog Try.laysSort36_ren := {
  mixed := by kernel_rfl
  f6 := ⟨Try.f36.name, by decide, Try.func36.trans (congrArg some (by kernel_rfl))⟩
  f14 := ⟨Try.f64.name, by decide, Try.func64.trans (congrArg some (by kernel_rfl))⟩
  f15 := Try.func65.trans (congrArg some (by kernel_rfl))
  f20 := ⟨Try.f74.name, by decide, Try.func74.trans (congrArg some (by kernel_rfl))⟩
  f21 := ⟨Try.f75.name, by decide, Try.func75.trans (congrArg some (by kernel_rfl))⟩
  f22 := ⟨Try.f76.name, by decide, Try.func76.trans (congrArg some (by kernel_rfl))⟩
  f23 := ⟨Try.f77.name, by decide, Try.func77.trans (congrArg some (by kernel_rfl))⟩
  f24 := ⟨Try.f78.name, by decide, Try.func78.trans (congrArg some (by kernel_rfl))⟩
  f25 := ⟨Try.f79.name, by decide, Try.func79.trans (congrArg some (by kernel_rfl))⟩
  f26 := ⟨Try.f80.name, by decide, Try.func80.trans (congrArg some (by kernel_rfl))⟩
  f27 := ⟨Try.f81.name, by decide, Try.func81.trans (congrArg some (by kernel_rfl))⟩
  f28 := Try.func82.trans (congrArg some (by kernel_rfl))
  f29 := Try.func83.trans (congrArg some (by kernel_rfl))
  f46 := ⟨Try.f87.name, by decide, Try.func87.trans (congrArg some (by kernel_rfl))⟩
  f47 := Try.func88.trans (congrArg some (by kernel_rfl))
  f48 := Try.func89.trans (congrArg some (by kernel_rfl))
  f49 := ⟨Try.f90.name, by decide, Try.func90.trans (congrArg some (by kernel_rfl))⟩
  f50 := ⟨Try.f91.name, by decide, Try.func91.trans (congrArg some (by kernel_rfl))⟩
  f57 := ⟨Try.f93.name, by decide, Try.func93.trans (congrArg some (by kernel_rfl))⟩
  t0 := Try.underlying0
  a0 := Try.isAgg0
  z0 := Try.sizeOf0
  v0 := Try.zeroValue0
  t3 := Try.underlying3
  a3 := Try.isAgg3
  z3 := Try.sizeOf3
  v3 := Try.zeroValue3
  t4 := Try.underlying4
  a4 := Try.isAgg4
  z4 := Try.sizeOf4
  v4 := Try.zeroValue4
  t5 := Try.underlying5
  a5 := Try.isAgg5
  z5 := Try.sizeOf5
  v5 := Try.zeroValue5
  t9 := Try.underlying9
  a9 := Try.isAgg9
  z9 := Try.sizeOf9
  v9 := Try.zeroValue9
  t22 := Try.underlying24
  a22 := Try.isAgg24
  z22 := Try.sizeOf24
  v22 := Try.zeroValue24
  t25 := Try.underlying65
  a25 := Try.isAgg65
  z25 := Try.sizeOf65
  v25 := Try.zeroValue65
  t39 := Try.underlying85
  a39 := Try.isAgg85
  z39 := Try.sizeOf85
  v39 := Try.zeroValue85
  t45 := Try.underlying93
  a45 := Try.isAgg93
  z45 := Try.sizeOf93
  v45 := Try.zeroValue93
  t46 := Try.underlying94
  a46 := Try.isAgg94
  z46 := Try.sizeOf94
  v46 := Try.zeroValue94
  t50 := Try.underlying98
  a50 := Try.isAgg98
  z50 := Try.sizeOf98
  v50 := Try.zeroValue98
  t53 := Try.underlying101
  a53 := Try.isAgg101
  z53 := Try.sizeOf101
  v53 := Try.zeroValue101
  t55 := Try.underlying103
  a55 := Try.isAgg103
  z55 := Try.sizeOf103
  v55 := Try.zeroValue103
  t66 := Try.underlying108
  a66 := Try.isAgg108
  z66 := Try.sizeOf108
  v66 := Try.zeroValue108
  t70 := Try.underlying112
  a70 := Try.isAgg112
  z70 := Try.sizeOf112
  v70 := Try.zeroValue112
  t76 := Try.underlying114
  a76 := Try.isAgg114
  z76 := Try.sizeOf114
  v76 := Try.zeroValue114
  t77 := Try.underlying66
  a77 := Try.isAgg66
  z77 := Try.sizeOf66
  v77 := Try.zeroValue66 }
end Go.Proofs
namespace Go.Abs
open Go.Proofs Go.Shelf Go.RowKit Go.Lib Go.Sort
set_option maxHeartbeats 1000000 in
/-- The closure by which Unify sorts: two blocks are laid. -/
theorem closure37 (x y : XB) (W : World) : Calls Try.prog 37 #[.agg #[.int .i64 x.1, .int .i64 x.2.1, .int .i64 x.2.2.1, .slice x.2.2.2.1 x.2.2.2.2.1 x.2.2.2.2.2], .agg #[.int .i64 y.1, .int .i64 y.2.1, .int .i64 y.2.2.1, .slice y.2.2.2.1 y.2.2.2.2.1 y.2.2.2.2.2]] W fun e w' => e = .returned (.int .i64 (Lib.compareInt x.1 y.1)) ∧ ∃ q os', w' = grow (W.drewN q) os' := by
  have hcon := fun W' => Try.cmp_Compare_int x.1 y.1 W'
  generalize Lib.compareInt x.1 y.1 = r at hcon ⊢
  go_enter Try.func37, Try.ntmps37
  go_wp2_with (go_at_call 38; refine (hcon _).mono ?_; rintro e w' ⟨rfl, rfl⟩)
  go_ret
  exact ⟨rfl, 0, _, by rw [alloc_eq_grow, alloc_eq_grow, grow_grow]; rfl⟩
theorem sortsX : SortsX Try.prog 36 37 := fun blk cap d w hH hblk hsz =>
  AnyQ.slices_SortFunc Try.laysSort36 4 Try.isAgg42 Try.sizeOf42 encX (fun _ => rfl) (fun x v hv => by simp [encX] at hv; rcases hv with rfl | rfl | rfl | rfl <;> rfl) (fun x y => Lib.compareInt x.1 y.1) swoX 37 #[] blk 0 cap d w
    (enters_of Try.func37 (by kernel_rfl) rfl) (fun _ _ _ _ x y => closure37 x y _) hH hblk hsz
theorem sortsNil : SortsNil Try.prog 36 37 := fun ad cap w => AnyF.slices_SortFunc_none { Try.laysSort36 with } ad cap _ w
end Go.Abs
namespace Go.Abs
open Go.Proofs
def bdOf (s : Int → Ty) (e : Int × Ty) : Bd := ⟨e.1, s e.1⟩
/-- What Unify answers where all sides are valid. -/
def ansU (c : Bool) (B : Bs) (s : Int → Ty) : List Bd × Bool := if (c && B.all fun e => fits s e.2) = true then (sortB (B.map (bdOf s)), true) else ([], false)
theorem lk_of_mem {B : Bs} (h : BOk B) {e : Int × Ty} (he : e ∈ B) : lk B e.1 = some e.2 := lk_mem h.nd e he
theorem fuel_all {B : Bs} {s : Int → Ty} (h : Inv B s) (hB : BOk B) (hD : ∀ t, wfT t = true → t.size ≤ 100 → dep (ap s t) ≤ 4611686018427387904) : ∀ (L : Bs), (∀ e ∈ L, e ∈ B) → ∃ n, ∀ m, n ≤ m → ∀ e ∈ L, withinF m B e.2 = some (fits s e.2) ∧ okR m B e.2 ∧ rsvF m B e.2 = s e.1
  | [], _ => ⟨0, fun m _ e he => by cases he⟩
  | e :: L, hL => by
    obtain ⟨n1, h1⟩ := fuel_all h hB hD L fun x hx => hL x (.tail _ hx)
    have hl := lk_of_mem hB (hL e (.head _))
    obtain ⟨n2, h2⟩ := withinF_spec h hB hD (h.wf _ _ hl) (hB.lk hl)
    obtain ⟨n3, h3⟩ := rsvF_ok h e.2 (h.wf _ _ hl)
    refine ⟨n1 + n2 + n3, fun m hm x hx => ?_⟩
    rcases List.mem_cons.1 hx with rfl | hx
    · obtain ⟨g1, g2⟩ := h3 m (by omega)
      exact ⟨h2 m (by omega), g1, by rw [g2, ← h.bd _ _ hl]⟩
    · exact h1 m (by omega) x hx
theorem unify_c {eqs : List Eq2} (hw : ∀ e ∈ eqs, e.l.W ∧ e.r.W) (hlen : eqs.length ≤ maxLen) :
    ((decide (((eqs.length : Nat) : Int) > 100) || eqs.any bad) = true → PC Try.prog 9 [.slice (eqs.map Eq2.enc) .none] (.tup [.slice [] .none, .bool false])) ∧
    ((decide (((eqs.length : Nat) : Int) > 100) || eqs.any bad) = false → EGood eqs ∧ ∃ c B s, SSp eqs [] c B s ∧ PC Try.prog 9 [.slice (eqs.map Eq2.enc) .none] (.tup [.slice ((ansU c B s).1.map Bd.enc) .none, .bool (ansU c B s).2])) := by
  constructor
  · intro hb
    have := unify_k (n := 0) sortsX sortsNil hw hlen (fun q => by rw [hb] at q; cases q)
    have e : uniR 0 eqs = ([], false) := by unfold uniR; rw [if_pos hb]
    rw [e] at this
    exact this
  · intro hb
    rw [Bool.or_eq_false_iff] at hb
    have hl : eqs.length ≤ 100 := by have := of_decide_eq_false hb.1; omega
    have hg : EGood eqs := fun e he => good_of (by
      have := hb.2
      rw [List.any_eq_false] at this
      simpa using this e he)
    refine ⟨hg, ?_⟩
    obtain ⟨n1, ⟨c, B⟩, h1⟩ := solve_ex eqs hg [] vr inv_nil bok_nil
    obtain ⟨s, hs⟩ := solve_spec n1 eqs hg [] vr c B inv_nil bok_nil h1
    refine ⟨c, B, s, hs, ?_⟩
    cases c with
    | false =>
      have := unify_k (n := n1) sortsX sortsNil hw hlen (fun _ => ⟨false, B, h1, nofun⟩)
      have e : uniR n1 eqs = ansU false B s := by
        unfold uniR
        rw [if_neg (by rw [hb.1, hb.2]; simp), h1]; rfl
      rw [e] at this
      exact this
    | true =>
      have hln := hs.len rfl
      have hD : ∀ t, wfT t = true → t.size ≤ 100 → dep (ap s t) ≤ 4611686018427387904 := fun t ht hz => by
        have d1 := dep_bound hs.inv t ht
        have d2 := wsum_le (P := mle s t) B hs.ok.sz
        simp only [List.length_nil, Nat.zero_add] at hln
        omega
      obtain ⟨n2, h2⟩ := fuel_all hs.inv hs.ok hD B fun _ h => h
      have h1' := solveF_mono eqs h1 (Nat.le_max_left n1 n2)
      have h2' := h2 (max n1 n2) (Nat.le_max_right n1 n2)
      have ug : UGood (max n1 n2) B := ⟨hs.ok.nd, by simp only [List.length_nil, Nat.zero_add] at hln; omega, ?_, fun e he => ⟨_, (h2' e he).1, fun _ => (h2' e he).2.1⟩⟩
      · have := unify_k (n := max n1 n2) sortsX sortsNil hw hlen (fun _ => ⟨true, B, h1', fun _ => ug⟩)
        have e : uniR (max n1 n2) eqs = ansU true B s := by
          unfold uniR ansU
          rw [if_neg (by rw [hb.1, hb.2]; simp), h1']
          have e1 : B.all (inB (max n1 n2) B) = B.all fun e => fits s e.2 := by
            rw [Bool.eq_iff_iff, List.all_eq_true, List.all_eq_true]
            refine forall_congr' fun e => forall_congr' fun he => ?_
            unfold inB; rw [(h2' e he).1]; rfl
          have e2 : B.map (resB (max n1 n2) B) = B.map (bdOf s) := List.map_congr_left fun e he => by
            unfold resB bdOf; rw [(h2' e he).2.2]
          simp only [e1, e2, Bool.true_and]
        rw [e] at this
        exact this
      · -- sides and bindings fit into memory
        intro v t hl
        exact small_W t (hs.ok.lk hl)
where
  small_W : ∀ t : Ty, t.size ≤ 100 → t.W
    | .mk k i us, h => by
      refine .mk ?_ fun u hu => small_W u ?_
      · have : ∀ us : List Ty, us.length ≤ Ty.sizes us := fun us => by
          induction us with
          | nil => simp
          | cons u us ih => have := size_ge u; simp only [Ty.sizes, List.length_cons]; omega
        have h2 := this us
        rw [Ty.size] at h
        omega
      · have := Ty.size_arg (t := .mk k i us) hu; omega
end Go.Abs
namespace Go.Abs
open Go.Proofs
/-! What a list of bindings does to a type, and what is known of Unify's answer. -/
def lkS (ss : List Bd) (x : Int) : Ty := ((ss.find? fun b => decide (b.v = x)).map (·.t)).getD (vr x)
theorem idxI_find (ss : List Bd) (x : Int) : (∃ b, ss.find? (fun b => decide (b.v = x)) = some b ∧ ∀ u : Ty, u.kind = 1 → u.id = x → subG ss u = (b.t, true)) ∨ (ss.find? (fun b => decide (b.v = x)) = none ∧ ∀ u : Ty, u.kind = 1 → u.id = x → subG ss u = (u, false)) := by
  cases hf : ss.find? (fun b => decide (b.v = x)) with
  | none =>
    refine .inr ⟨rfl, fun u hk hu => sub_miss fun _ => ?_⟩
    rw [List.any_eq_false]
    intro b hb
    rw [hu]
    exact List.find?_eq_none.1 hf b hb
  | some b =>
    refine .inl ⟨b, rfl, fun u hk hu => ?_⟩
    obtain ⟨h1, i, hi, h2, h3⟩ := List.find?_eq_some_iff_getElem.1 hf
    subst h2
    refine sub_hit hk hi (by rw [hu]; exact of_decide_eq_true h1) ?_
    rw [List.any_eq_false]
    intro c hc
    obtain ⟨j, hj, rfl⟩ := List.mem_iff_getElem.1 hc
    rw [List.length_take] at hj
    rw [List.getElem_take, hu]
    have := h3 j (by omega)
    simpa using this
theorem sub_ap (ss : List Bd) : ∀ t, wfT t = true → mapT (subG ss) t = ap (lkS ss) t := fun t => by
  induction t using Ty.ind with
  | h t ih =>
    intro hw
    by_cases hk : t.kind = 1
    · rw [ap_v hk, mapT_eq]
      rcases idxI_find ss t.id with ⟨b, h1, h2⟩ | ⟨h1, h2⟩
      · rw [h2 t hk rfl]; simp only [if_true]; unfold lkS; rw [h1]; rfl
      · rw [h2 t hk rfl]
        simp only [Bool.false_eq_true, if_false]
        unfold lkS; rw [h1]
        have e := wf_vr hw hk
        rw [e]; rfl
    · have hm : subG ss t = (t, false) := sub_miss fun h => absurd h hk
      rw [ap_n hk, mapT_eq, hm]
      simp only [Bool.false_eq_true, if_false]
      congr 1
      exact List.map_congr_left fun u hu => ih u hu (wf_arg hw hu)
theorem lkS_mem {ss : List Bd} {x : Int} {t : Ty} (h1 : ∀ b ∈ ss, b.v = x → b.t = t) (h2 : ∃ b ∈ ss, b.v = x) : lkS ss x = t := by
  unfold lkS
  cases hf : ss.find? (fun b => decide (b.v = x)) with
  | none =>
    obtain ⟨b, hb, he⟩ := h2
    have := List.find?_eq_none.1 hf b hb
    simp [he] at this
  | some b =>
    have := List.find?_some hf
    exact h1 b (List.mem_of_find?_eq_some hf) (of_decide_eq_true this)
theorem lkS_none {ss : List Bd} {x : Int} (h : ∀ b ∈ ss, b.v ≠ x) : lkS ss x = vr x := by
  unfold lkS
  rw [List.find?_eq_none.2 fun b hb => by simpa using h b hb]; rfl
theorem lk_none_iff {α : Type} : ∀ {B : List (Int × α)} {v : Int}, lk B v = none ↔ ∀ e ∈ B, e.1 ≠ v
  | [], v => by simp [lk]
  | e :: B, v => by
    simp only [lk]
    by_cases h : e.1 = v
    · rw [if_pos h]; constructor
      · intro q; cases q
      · intro q; exact absurd h (q e (.head _))
    · rw [if_neg h, lk_none_iff]
      constructor
      · intro q x hx
        rcases List.mem_cons.1 hx with rfl | hx
        · exact h
        · exact q x hx
      · intro q x hx; exact q x (.tail _ hx)
theorem small_W : ∀ t : Ty, t.size ≤ 100 → t.W
  | .mk k i us, h => by
    refine .mk ?_ fun u hu => small_W u ?_
    · have : ∀ us : List Ty, us.length ≤ Ty.sizes us := fun us => by
        induction us with
        | nil => simp
        | cons u us ih => have := size_ge u; simp only [Ty.sizes, List.length_cons]; omega
      have h2 := this us
      rw [Ty.size] at h
      omega
    · have := Ty.size_arg (t := .mk k i us) hu; omega
/-- What is known of an answer. -/
structure Uni (eqs : List Eq2) (R : List Bd) (ok : Bool) : Prop where
  len : R.length ≤ 10000000
  w : ∀ b ∈ R, b.t.W
  no : ok = false → R = []
  badly : (decide (((eqs.length : Nat) : Int) > 100) || eqs.any bad) = true → ok = false
  good : (decide (((eqs.length : Nat) : Int) > 100) || eqs.any bad) = false → EGood eqs ∧ ∃ c B s, SSp eqs [] c B s ∧ ok = (c && B.all fun e => fits s e.2) ∧ (ok = true → R = sortB (B.map (bdOf s)) ∧ c = true ∧ ∀ e ∈ B, (s e.1).size ≤ 100 ∧ dep (s e.1) ≤ 12)
theorem uni_c {eqs : List Eq2} (hw : ∀ e ∈ eqs, e.l.W ∧ e.r.W) (hlen : eqs.length ≤ maxLen) :
    ∃ R ok, PC Try.prog 9 [.slice (eqs.map Eq2.enc) .none] (.tup [.slice (R.map Bd.enc) .none, .bool ok]) ∧ Uni eqs R ok := by
  have hc := unify_c hw hlen
  cases hb : (decide (((eqs.length : Nat) : Int) > 100) || eqs.any bad) with
  | true => exact ⟨[], false, hc.1 hb, by simp, (by simp), fun _ => rfl, fun _ => rfl, (fun h => by rw [hb] at h; cases h)⟩
  | false =>
    obtain ⟨hg, c, B, s, h1, h2⟩ := hc.2 hb
    refine ⟨_, _, h2, ?_⟩
    have hl : eqs.length ≤ 100 := by
      rw [Bool.or_eq_false_iff] at hb
      have := of_decide_eq_false hb.1; omega
    unfold ansU
    by_cases hq : (c && B.all fun e => fits s e.2) = true
    · rw [if_pos hq]
      have hc1 : c = true := by rw [Bool.and_eq_true] at hq; exact hq.1
      have hf : ∀ e ∈ B, (s e.1).size ≤ 100 ∧ dep (s e.1) ≤ 12 := fun e he => by
        rw [Bool.and_eq_true, List.all_eq_true] at hq
        have := hq.2 e he
        unfold fits at this
        rw [Bool.and_eq_true, decide_eq_true_eq, decide_eq_true_eq] at this
        rw [h1.inv.bd _ _ (lk_of_mem h1.ok he)]
        exact ⟨by omega, this.2⟩
      refine ⟨?_, ?_, nofun, (fun h => by rw [hb] at h; cases h), fun _ => ⟨hg, c, B, s, h1, hq.symm, fun _ => ⟨rfl, hc1, hf⟩⟩⟩
      · rw [(sortB_perm _).length_eq, List.length_map]
        have := h1.len hc1
        simp only [List.length_nil, Nat.zero_add] at this
        omega
      · intro b hbm
        have := (sortB_perm _).mem_iff.1 hbm
        obtain ⟨e, he, rfl⟩ := List.mem_map.1 this
        exact small_W _ (hf e he).1
    · rw [if_neg hq]
      exact ⟨by simp, (by simp), fun _ => rfl, fun _ => rfl, fun _ => ⟨hg, c, B, s, h1, (by simpa using hq), nofun⟩⟩
/-- No error type inside. -/
def errT : Ty → Bool
  | .mk k _ us => decide (k = 0) || (us.map fun u => errT u).any fun b => b
def errE (e : Eq2) : Bool := errT e.l || errT e.r
end Go.Abs
namespace Go.Abs
open Go.Proofs
/-! UnifyMonotone, UnifyMostGeneral and UnifyOrderIndependent, in plain words. -/
theorem size_le_ap {θ : Int → Ty} : ∀ t, wfT t = true → t.size ≤ (ap θ t).size := fun t => by
  induction t using Ty.ind with
  | h t ih =>
    intro hw
    by_cases hk : t.kind = 1
    · rw [wf_vr hw hk, vr_size]; exact ap_pos θ _
    · have e : t.size = 1 + Ty.sizes t.args := by cases t; simp [Ty.size, Ty.args]
      rw [size_node θ hk, e, zs]
      have : ∀ us : List Ty, (∀ u ∈ us, u.size ≤ (ap θ u).size) → Ty.sizes us ≤ Ty.sizes (us.map (ap θ)) := fun us => by
        induction us with
        | nil => intro _; simp [Ty.sizes]
        | cons u us ih =>
          intro h
          have h1 := h u (.head _)
          have h2 := ih fun x hx => h x (.tail _ hx)
          simp only [List.map_cons, Ty.sizes]; omega
      have := this t.args fun u hu => ih u hu (wf_arg hw hu)
      omega
theorem size_ap_le {θ : Int → Ty} {m : Nat} (hm : 1 ≤ m) (h : ∀ x, 0 ≤ x → (θ x).size ≤ m) : ∀ t, wfT t = true → (ap θ t).size ≤ t.size * m := fun t => by
  induction t using Ty.ind with
  | h t ih =>
    intro hw
    by_cases hk : t.kind = 1
    · rw [ap_v hk]
      have h1 := h t.id (wf_pos hw hk)
      have h2 := size_ge t
      have := Nat.mul_le_mul_right m h2
      omega
    · have e : t.size = 1 + Ty.sizes t.args := by cases t; simp [Ty.size, Ty.args]
      rw [size_node θ hk, e, zs]
      have : ∀ us : List Ty, (∀ u ∈ us, (ap θ u).size ≤ u.size * m) → Ty.sizes (us.map (ap θ)) ≤ Ty.sizes us * m := fun us => by
        induction us with
        | nil => intro _; simp [Ty.sizes]
        | cons u us ih =>
          intro h
          have h1 := h u (.head _)
          have h2 := ih fun x hx => h x (.tail _ hx)
          simp only [List.map_cons, Ty.sizes, Nat.add_mul]; omega
      have := this t.args fun u hu => ih u hu (wf_arg hw hu)
      rw [Nat.add_mul]; omega
/-- All variables get small types. -/
def Small (θ : Int → Ty) : Prop := ∀ x, 0 ≤ x → (θ x).size ≤ 100 ∧ dep (θ x) ≤ 12
theorem Mod.at_ {θ : Int → Ty} {B : Bs} {s : Int → Ty} (h : Mod θ B) (k : Inv B s) {v : Int} (hv : 0 ≤ v) : ap θ (s v) = θ v := by
  have := h.app k (vr v) (wf_vr' hv)
  rwa [ap_vr, ap_vr] at this
theorem Inv.var_le {B : Bs} {s : Int → Ty} (h : Inv B s) : ∀ t, wfT t = true → ∀ y, ap s t = vr y → t.kind = 1 ∧ y ≤ t.id := fun t => by
  induction t using m_ind (s := s) with
  | hp t ih =>
    intro hw y e
    by_cases hk : t.kind = 1
    · refine ⟨hk, ?_⟩
      rw [ap_v hk] at e
      cases hl : lk B t.id with
      | none =>
        rw [h.un _ hl] at e
        have : t.id = y := by unfold vr at e; injection e
        omega
      | some u =>
        rw [h.bd _ _ hl] at e
        obtain ⟨k1, k2⟩ := ih u (h.var_lt hk hl) (h.wf _ _ hl) y e
        have := h.lt _ _ hl k1
        omega
    · rw [ap_n hk] at e
      unfold vr at e
      injection e with e1 e2 e3
      exact absurd e1 hk
/-- Two solved forms that are instances of one another are one. -/
theorem same_sol {B B' : Bs} {s s' : Int → Ty} (h : Inv B s) (h' : Inv B' s') (m : Mod s B') (m' : Mod s' B) : ∀ x, 0 ≤ x → s x = s' x := fun x hx => by
  have e1 := m'.at_ h hx
  have key : ∀ y, occ y (s x) = true → s' y = vr y := fun y hy => by
    have hg : lk B y = none := h.gone (vr x) (wf_vr' hx) (by rwa [ap_vr])
    have hpy : 0 ≤ y := occ_pos _ (h.wfs _ hx) hy
    have e2 := m.at_ h' hpy
    rw [h.un _ hg] at e2
    obtain ⟨k1, k2⟩ := h.var_le (s' y) (h'.wfs _ hpy) y e2
    have e3 := wf_vr (h'.wfs _ hpy) k1
    obtain ⟨_, k3⟩ := h'.var_le (vr y) (wf_vr' hpy) (s' y).id (by rw [ap_vr]; exact e3)
    have : (s' y).id ≤ y := k3
    rw [e3]
    have : (s' y).id = y := by omega
    rw [this]
  rw [← e1, ap_congr (r := vr) _ key, ap_id _ (h.wfs _ hx)]
theorem sorted_ext : ∀ {xs ys : List Bd}, xs.Pairwise (fun a b => a.v < b.v) → ys.Pairwise (fun a b => a.v < b.v) → (∀ b, b ∈ xs ↔ b ∈ ys) → xs = ys
  | [], [], _, _, _ => rfl
  | [], b :: ys, _, _, h => by have := (h b).2 (.head _); cases this
  | a :: xs, [], _, _, h => by have := (h a).1 (.head _); cases this
  | a :: xs, b :: ys, h1, h2, h => by
    rw [List.pairwise_cons] at h1 h2
    have e : a = b := by
      have ha := (h a).1 (.head _)
      have hb := (h b).2 (.head _)
      rcases List.mem_cons.1 ha with e | ha
      · exact e
      · rcases List.mem_cons.1 hb with e | hb
        · exact e.symm
        · have := h2.1 a ha; have := h1.1 b hb; omega
    subst e
    congr 1
    refine sorted_ext h1.2 h2.2 fun c => ⟨fun hc => ?_, fun hc => ?_⟩
    · rcases List.mem_cons.1 ((h c).1 (.tail _ hc)) with rfl | k
      · have := h1.1 c hc; omega
      · exact k
    · rcases List.mem_cons.1 ((h c).2 (.tail _ hc)) with rfl | k
      · have := h2.1 c hc; omega
      · exact k
theorem ans_lt {eqs : List Eq2} {B : Bs} {s : Int → Ty} (h1 : SSp eqs [] true B s) : (sortB (B.map (bdOf s))).Pairwise fun a b => a.v < b.v := by
  refine lt_of_le_nodup (sortB_le _) ?_
  have : ((sortB (B.map (bdOf s))).map (·.v)).Perm (B.map (·.1)) := by
    have := (sortB_perm (B.map (bdOf s))).map (·.v)
    rwa [List.map_map] at this
  exact this.nodup_iff.2 h1.ok.nd
theorem ans_mem {eqs : List Eq2} {B : Bs} {s : Int → Ty} (h1 : SSp eqs [] true B s) (b : Bd) : b ∈ sortB (B.map (bdOf s)) ↔ (0 ≤ b.v ∧ s b.v ≠ vr b.v ∧ b.t = s b.v) := by
  rw [(sortB_perm _).mem_iff, List.mem_map]
  constructor
  · rintro ⟨e, he, rfl⟩
    have hl := lk_of_mem h1.ok he
    have hp := h1.inv.pos _ _ hl
    refine ⟨hp, fun q => ?_, rfl⟩
    have q : s e.1 = vr e.1 := q
    have := h1.inv.gone (x := e.1) (vr e.1) (wf_vr' hp) (by rw [ap_vr, q]; exact occ_vr.2 rfl)
    rw [hl] at this; cases this
  · rintro ⟨hp, hne, ht⟩
    cases hl : lk B b.v with
    | none => exact absurd (h1.inv.un _ hl) hne
    | some t =>
      have : ¬ ∀ e ∈ B, e.1 ≠ b.v := fun q => by rw [lk_none_iff.2 q] at hl; cases hl
      simp only [Classical.not_forall] at this
      obtain ⟨e, he, hq0⟩ := this
      have hq : e.1 = b.v := by simpa using hq0
      clear hq0
      refine ⟨e, he, ?_⟩
      obtain ⟨v, t⟩ := b
      simp only at hq ht; subst ht; unfold bdOf; rw [hq]
/-- UnifyOrderIndependent. -/
def Eq2.sw (e : Eq2) : Eq2 := ⟨e.r, e.l⟩
end Go.Abs
namespace Go.Abs
open Go.Proofs
/-! The reference's unifier, as a function: a work list and a list of bindings that is kept fully applied. -/
def sb1 (v : Int) (t : Ty) (b : Bd) : Bd := ⟨b.v, mapT (subG [⟨v, t⟩]) b.t⟩
def addB (v : Int) (t : Ty) : List Bd → List Bd
  | [] => [⟨v, t⟩]
  | b :: S => if b.v > v then ⟨v, t⟩ :: (b :: S).map (sb1 v t) else sb1 v t b :: addB v t S
def zipE (xs ys : List Ty) : List Eq2 := (xs.zip ys).map fun p => ⟨p.1, p.2⟩
def over (b : Bd) : Bool := decide ((b.t.size : Int) > 20000)
def unfit (b : Bd) : Bool := decide ((b.t.size : Int) > 100) || decide (dep b.t > 12)
/-- One round of the work list, the two sides applied. -/
def rstepA (S : List Bd) (a b : Ty) (w : List Eq2) : Option (List Bd × List Eq2) :=
  if a.kind = 0 ∨ b.kind = 0 then some (S, w)
  else if a.kind = 1 ∧ b.kind = 1 then
    if a.id = b.id then some (S, w)
    else if a.id < b.id then some (addB b.id a S, w) else some (addB a.id b S, w)
  else if b.kind = 1 then
    if occ b.id a = true then none else if (addB b.id a S).any over = true then none else some (addB b.id a S, w)
  else if a.kind = 1 then
    if occ a.id b = true then none else if (addB a.id b S).any over = true then none else some (addB a.id b S, w)
  else if (a.kind ≠ b.kind ∨ a.id ≠ b.id) ∨ a.args.length ≠ b.args.length then none
  else some (S, zipE a.args b.args ++ w)
def rstep (S : List Bd) (e : Eq2) (w : List Eq2) : Option (List Bd × List Eq2) := rstepA S (mapT (subG S) e.l) (mapT (subG S) e.r) w
def refF : Nat → List Bd → List Eq2 → Option (Option (List Bd))
  | 0, _, _ => none
  | _ + 1, S, [] => some (if S.any unfit = true then none else some S)
  | n + 1, S, e :: w => match rstep S e w with
    | none => some none
    | some q => refF n q.1 q.2
theorem refF_nil (n : Nat) (S : List Bd) : refF (n + 1) S [] = some (if S.any unfit = true then none else some S) := rfl
theorem refF_none {S : List Bd} {e : Eq2} {w : List Eq2} (h : rstep S e w = none) (n : Nat) : refF (n + 1) S (e :: w) = some none := by
  rw [refF, h]
theorem refF_some {S : List Bd} {e : Eq2} {w : List Eq2} {q : List Bd × List Eq2} (h : rstep S e w = some q) (n : Nat) : refF (n + 1) S (e :: w) = refF n q.1 q.2 := by
  rw [refF, h]
inductive Rds : List Bd → List Eq2 → List Bd → List Eq2 → Prop
  | refl (S : List Bd) (w : List Eq2) : Rds S w S w
  | step {S : List Bd} {e : Eq2} {w : List Eq2} {S1 : List Bd} {w1 : List Eq2} {S' : List Bd} {w' : List Eq2} (h : rstep S e w = some (S1, w1)) (k : Rds S1 w1 S' w') : Rds S (e :: w) S' w'
theorem Rds.trans {S S1 S2 : List Bd} {w w1 w2 : List Eq2} (h : Rds S w S1 w1) (k : Rds S1 w1 S2 w2) : Rds S w S2 w2 := by
  induction h with
  | refl => exact k
  | step h _ ih => exact .step h (ih k)
theorem Rds.run {S S1 : List Bd} {w w1 : List Eq2} (h : Rds S w S1 w1) {m : Nat} {r : Option (List Bd)} (k : refF m S1 w1 = some r) : ∃ m, refF m S w = some r := by
  induction h with
  | refl => exact ⟨m, k⟩
  | step h _ ih => obtain ⟨m, hm⟩ := ih k; exact ⟨m + 1, by rw [refF_some h]; exact hm⟩
def Fl (S : List Bd) (w : List Eq2) : Prop := ∃ m, refF m S w = some none
theorem Rds.fl {S S1 : List Bd} {w w1 : List Eq2} (h : Rds S w S1 w1) (k : Fl S1 w1) : Fl S w := by
  obtain ⟨m, hm⟩ := k; exact h.run hm
/-- A list of bindings that is kept fully applied. -/
structure RI (S : List Bd) : Prop where
  srt : S.Pairwise fun a b => a.v < b.v
  pos : ∀ b ∈ S, 0 ≤ b.v
  wf : ∀ b ∈ S, wfT b.t = true
  out : ∀ b ∈ S, ∀ c ∈ S, occ c.v b.t = false
theorem ri_nil : RI [] := ⟨.nil, nofun, nofun, nofun⟩
theorem srt_inj : ∀ {S : List Bd}, S.Pairwise (fun a b => a.v < b.v) → ∀ b ∈ S, ∀ c ∈ S, b.v = c.v → b = c
  | [], _, b, hb, _, _, _ => by cases hb
  | x :: S, h, b, hb, c, hc, e => by
    rw [List.pairwise_cons] at h
    rcases List.mem_cons.1 hb with q1 | q1 <;> rcases List.mem_cons.1 hc with q2 | q2
    · rw [q1, q2]
    · have := h.1 c q2; rw [q1] at e; omega
    · have := h.1 b q1; rw [q2] at e; omega
    · exact srt_inj h.2 b q1 c q2 e
section
variable {S : List Bd} (h : RI S)
include h
theorem RI.lk {b : Bd} (hb : b ∈ S) : lkS S b.v = b.t := lkS_mem (fun c hc e => by rw [srt_inj h.srt c hc b hb e]) ⟨b, hb, rfl⟩
theorem RI.look (x : Int) : (∃ b ∈ S, b.v = x ∧ lkS S x = b.t) ∨ ((∀ b ∈ S, b.v ≠ x) ∧ lkS S x = vr x) := by
  by_cases q : ∃ b ∈ S, b.v = x
  · obtain ⟨b, hb, rfl⟩ := q; exact .inl ⟨b, hb, rfl, h.lk hb⟩
  · have q' : ∀ b ∈ S, b.v ≠ x := fun b hb e => q ⟨b, hb, e⟩
    exact .inr ⟨q', lkS_none q'⟩
theorem RI.wfs {x : Int} (hx : 0 ≤ x) : wfT (lkS S x) = true := by
  rcases h.look x with ⟨b, hb, _, e⟩ | ⟨_, e⟩ <;> rw [e]
  · exact h.wf b hb
  · exact wf_vr' hx
theorem RI.wfa {t : Ty} (hw : wfT t = true) : wfT (ap (lkS S) t) = true := wf_ap t hw fun x hx => h.wfs (occ_pos t hw hx)
theorem RI.gone {t : Ty} (hw : wfT t = true) {x : Int} (hx : occ x (ap (lkS S) t) = true) : ∀ b ∈ S, b.v ≠ x := by
  obtain ⟨y, hy, hxy⟩ := (occ_ap t hw).1 hx
  rcases h.look y with ⟨b, hb, _, e⟩ | ⟨hn, e⟩ <;> rw [e] at hxy
  · intro c hc q
    have := h.out b hb c hc
    rw [q, hxy] at this; cases this
  · have := occ_vr.1 hxy
    rw [← this]; exact hn
theorem RI.idem {t : Ty} (hw : wfT t = true) : ap (lkS S) (ap (lkS S) t) = ap (lkS S) t := by
  rw [ap_congr (s := lkS S) (r := vr) (ap (lkS S) t) fun x hx => lkS_none (h.gone hw hx), ap_id _ (h.wfa hw)]
end
theorem lkS_one (v : Int) (t : Ty) (x : Int) : lkS [⟨v, t⟩] x = up v t x := by
  unfold lkS up
  by_cases e : x = v
  · simp [e]
  · have : ¬ v = x := fun q => e q.symm
    simp [e, this]
theorem sb1_ap {v : Int} {t : Ty} {b : Bd} (hw : wfT b.t = true) : sb1 v t b = ⟨b.v, ap (up v t) b.t⟩ := by
  unfold sb1
  rw [sub_ap _ _ hw]
  congr 1
  exact ap_congr _ fun x _ => lkS_one v t x
theorem addB_mem (v : Int) (t : Ty) (x : Bd) : ∀ (S : List Bd), x ∈ addB v t S ↔ x = ⟨v, t⟩ ∨ ∃ c ∈ S, x = sb1 v t c
  | [] => by simp [addB]
  | b :: S => by
    unfold addB
    split
    · rw [List.mem_cons, List.mem_map]
      constructor
      · rintro (q | ⟨c, hc, rfl⟩)
        · exact .inl q
        · exact .inr ⟨c, hc, rfl⟩
      · rintro (q | ⟨c, hc, rfl⟩)
        · exact .inl q
        · exact .inr ⟨c, hc, rfl⟩
    · rw [List.mem_cons, addB_mem v t x S]
      constructor
      · rintro (q | q | ⟨c, hc, rfl⟩)
        · exact .inr ⟨b, .head _, q⟩
        · exact .inl q
        · exact .inr ⟨c, .tail _ hc, rfl⟩
      · rintro (q | ⟨c, hc, rfl⟩)
        · exact .inr (.inl q)
        · rcases List.mem_cons.1 hc with rfl | hc
          · exact .inl rfl
          · exact .inr (.inr ⟨c, hc, rfl⟩)
theorem addB_srt (v : Int) (t : Ty) : ∀ (S : List Bd), S.Pairwise (fun a b => a.v < b.v) → (∀ b ∈ S, b.v ≠ v) → (addB v t S).Pairwise fun a b => a.v < b.v
  | [], _, _ => by simp [addB]
  | b :: S, h, hv => by
    rw [List.pairwise_cons] at h
    unfold addB
    split
    · rename_i q
      rw [List.pairwise_cons]
      refine ⟨fun c hc => ?_, ?_⟩
      · obtain ⟨d, hd, rfl⟩ := List.mem_map.1 hc
        show v < d.v
        rcases List.mem_cons.1 hd with rfl | hd
        · exact q
        · have := h.1 d hd; omega
      · rw [List.pairwise_map, List.pairwise_cons]
        exact h
    · rename_i q
      rw [List.pairwise_cons]
      refine ⟨fun c hc => ?_, addB_srt v t S h.2 fun c hc => hv c (.tail _ hc)⟩
      have hb := hv b (.head _)
      rcases (addB_mem v t c S).1 hc with rfl | ⟨d, hd, rfl⟩
      · show b.v < v; omega
      · exact h.1 d hd
/-- A new binding. -/
structure Nw (S : List Bd) (v : Int) (T : Ty) : Prop where
  pos : 0 ≤ v
  new : ∀ b ∈ S, b.v ≠ v
  wf : wfT T = true
  out : occ v T = false
  key : ∀ b ∈ S, occ b.v T = false
theorem RI.add {S : List Bd} (h : RI S) {v : Int} {T : Ty} (k : Nw S v T) : RI (addB v T S) ∧ (∀ x, lkS (addB v T S) x = ap (up v T) (lkS S x)) ∧ ∀ x, (∃ b ∈ addB v T S, b.v = x) ↔ x = v ∨ ∃ b ∈ S, b.v = x := by
  have hup : ∀ y, occ y T = false → y ≠ v → ∀ t, wfT t = true → occ y t = false → occ y (ap (up v T) t) = false := fun y hT hv t hw hy => by
    rw [Bool.eq_false_iff]
    intro q
    obtain ⟨z, hz, hyz⟩ := (occ_ap t hw).1 q
    unfold up at hyz
    split at hyz
    · rw [hT] at hyz; cases hyz
    · have := occ_vr.1 hyz; subst this; rw [hy] at hz; cases hz
  have hvv : ∀ t, wfT t = true → occ v (ap (up v T) t) = false := fun t hw => by
    rw [Bool.eq_false_iff]
    intro q
    obtain ⟨z, hz, hyz⟩ := (occ_ap t hw).1 q
    unfold up at hyz
    split at hyz
    · rw [k.out] at hyz; cases hyz
    · rename_i hne; have := occ_vr.1 hyz; exact hne this
  have hri : RI (addB v T S) := by
    refine ⟨addB_srt v T S h.srt k.new, fun b hb => ?_, fun b hb => ?_, fun b hb c hc => ?_⟩
    · rcases (addB_mem v T b S).1 hb with rfl | ⟨d, hd, rfl⟩
      · exact k.pos
      · exact h.pos d hd
    · rcases (addB_mem v T b S).1 hb with rfl | ⟨d, hd, rfl⟩
      · exact k.wf
      · rw [sb1_ap (h.wf d hd)]
        refine wf_ap _ (h.wf d hd) fun x hx => ?_
        unfold up; split
        · exact k.wf
        · exact wf_vr' (occ_pos _ (h.wf d hd) hx)
    · rcases (addB_mem v T b S).1 hb with rfl | ⟨d, hd, rfl⟩ <;> rcases (addB_mem v T c S).1 hc with rfl | ⟨f, hf, rfl⟩
      · exact k.out
      · exact k.key f hf
      · rw [sb1_ap (h.wf d hd)]; exact hvv _ (h.wf d hd)
      · rw [sb1_ap (h.wf d hd)]
        exact hup f.v (k.key f hf) (k.new f hf) _ (h.wf d hd) (h.out d hd f hf)
  refine ⟨hri, fun x => ?_, fun x => ⟨?_, ?_⟩⟩
  · rcases h.look x with ⟨b, hb, rfl, e⟩ | ⟨hn, e⟩
    · have hm : sb1 v T b ∈ addB v T S := (addB_mem v T _ S).2 (.inr ⟨b, hb, rfl⟩)
      have := hri.lk hm
      rw [e]
      have e2 : (sb1 v T b).v = b.v := rfl
      rw [e2] at this
      rw [this, sb1_ap (h.wf b hb)]
    · rw [e, ap_vr]
      unfold up
      by_cases q : x = v
      · subst q
        rw [if_pos rfl]
        exact hri.lk (b := ⟨x, T⟩) ((addB_mem x T _ S).2 (.inl rfl))
      · rw [if_neg q]
        refine lkS_none fun b hb => ?_
        rcases (addB_mem v T b S).1 hb with rfl | ⟨d, hd, rfl⟩
        · exact fun e => q e.symm
        · exact hn d hd
  · rintro ⟨b, hb, rfl⟩
    rcases (addB_mem v T b S).1 hb with rfl | ⟨d, hd, rfl⟩
    · exact .inl rfl
    · exact .inr ⟨d, hd, rfl⟩
  · rintro (rfl | ⟨b, hb, rfl⟩)
    · exact ⟨_, (addB_mem x T _ S).2 (.inl rfl), rfl⟩
    · exact ⟨_, (addB_mem v T _ S).2 (.inr ⟨b, hb, rfl⟩), rfl⟩
theorem RI.sub {S : List Bd} (h : RI S) {t : Ty} (hw : wfT t = true) : mapT (subG S) t = ap (lkS S) t := sub_ap S t hw
end Go.Abs
namespace Go.Abs
open Go.Proofs
/-! The reference goes the same steps as the program. -/
structure Rep (S : List Bd) (B : Bs) (s : Int → Ty) : Prop where
  ri : RI S
  eq : ∀ x, lkS S x = s x
  key : ∀ x, (∃ b ∈ S, b.v = x) ↔ lk B x ≠ none
theorem rep_nil : Rep [] [] vr := ⟨ri_nil, fun _ => rfl, fun x => by simp [lk]⟩
theorem Rep.sub {S : List Bd} {B : Bs} {s : Int → Ty} (h : Rep S B s) {t : Ty} (hw : wfT t = true) : mapT (subG S) t = ap s t := by
  rw [sub_ap S t hw]; exact ap_congr t fun x _ => h.eq x
theorem Rep.add {S : List Bd} {B : Bs} {s : Int → Ty} (h : Rep S B s) (k : Inv B s) {v : Int} {t : Ty} (hv : lk B v = none) (hp : 0 ≤ v) (hw : wfT t = true) (ho : occ v (ap s t) = false) :
    Rep (addB v (ap s t) S) (st B v t) (fun x => ap (up v (ap s t)) (s x)) := by
  have hwt : wfT (ap s t) = true := wf_ap t hw fun x hx => k.wfs x (occ_pos t hw hx)
  have nw : Nw S v (ap s t) := ⟨hp, fun b hb e => (h.key v).1 ⟨b, hb, e⟩ hv, hwt, ho, fun b hb => by
    rw [Bool.eq_false_iff]
    intro q
    exact (h.key b.v).1 ⟨b, hb, rfl⟩ (k.gone t hw q)⟩
  obtain ⟨a1, a2, a3⟩ := h.ri.add nw
  refine ⟨a1, fun x => by rw [a2, h.eq], fun x => ?_⟩
  rw [a3, lk_st]
  by_cases e : x = v
  · rw [if_pos e]; exact ⟨fun _ => (by simp), fun _ => .inl e⟩
  · rw [if_neg e, ← h.key x]; exact ⟨fun q => q.resolve_left e, .inr⟩
theorem ap_grow {B B' : Bs} {s s' : Int → Ty} (h : Inv B s) (h' : Inv B' s') (k : Sub B B') {t : Ty} (hw : wfT t = true) : ap s' t = ap s' (ap s t) ∧ (ap s t).size ≤ (ap s' t).size := by
  have e := (h'.mod.sub k).app h t hw
  refine ⟨e.symm, ?_⟩
  rw [← e]
  exact size_le_ap _ (wf_ap t hw fun x hx => h.wfs x (occ_pos t hw hx))
def Big (B : Bs) (s : Int → Ty) : Prop := ∃ v, lk B v ≠ none ∧ 100 < (s v).size
theorem Big.grow {B B' : Bs} {s s' : Int → Ty} (hb : Big B s) (h : Inv B s) (h' : Inv B' s') (k : Sub B B') : Big B' s' := by
  obtain ⟨v, h1, h2⟩ := hb
  cases hl : lk B v with
  | none => exact absurd hl h1
  | some u =>
    refine ⟨v, by rw [k v u hl]; simp, ?_⟩
    have := (ap_grow h h' k (wf_vr' (h.pos _ _ hl))).2
    rw [ap_vr, ap_vr] at this
    omega
theorem Rep.big {S : List Bd} {B : Bs} {s : Int → Ty} (h : Rep S B s) {b : Bd} (hb : b ∈ S) (hz : 100 < b.t.size) : Big B s :=
  ⟨b.v, (h.key b.v).1 ⟨b, hb, rfl⟩, by rw [← h.eq, h.ri.lk hb]; exact hz⟩
theorem Rep.big' {S : List Bd} {B : Bs} {s : Int → Ty} (h : Rep S B s) (k : Big B s) : ∃ b ∈ S, 100 < b.t.size := by
  obtain ⟨v, h1, h2⟩ := k
  obtain ⟨b, hb, rfl⟩ := (h.key v).2 h1
  exact ⟨b, hb, by rw [← h.ri.lk hb, h.eq]; exact h2⟩
def WfW (w : List Eq2) : Prop := ∀ e ∈ w, wfT e.l = true ∧ wfT e.r = true
def tl (θ : Int → Ty) : List Eq2 → Nat
  | [] => 0
  | e :: es => (ap θ e.l).size + tl θ es
theorem tl_zip (θ : Int → Ty) : ∀ (xs ys : List Ty), xs.length = ys.length → tl θ (zipE xs ys) = zs θ xs
  | [], [], _ => by simp [zipE, tl, zs, Ty.sizes]
  | x :: xs, y :: ys, h => by
    have := tl_zip θ xs ys (by simpa using h)
    rw [zs_cons, ← this]; rfl
  | [], _ :: _, h => by cases h
  | _ :: _, [], h => by cases h
theorem zip_wf {xs ys : List Ty} (h1 : ∀ u ∈ xs, wfT u = true) (h2 : ∀ u ∈ ys, wfT u = true) : WfW (zipE xs ys) := fun e he => by
  obtain ⟨p, hp, rfl⟩ := List.mem_map.1 he
  have := List.of_mem_zip hp
  exact ⟨h1 _ this.1, h2 _ this.2⟩
/-- What a run of the program says of a run of the reference. -/
def Out (S : List Bd) (es w : List Eq2) (p : Int) (c : Bool) (B' : Bs) (p' : Int) (s' : Int → Ty) : Prop :=
  (c = true ∧ p - p' ≤ tl s' es ∧ ∃ S', Rep S' B' s' ∧ Rds S (es ++ w) S' w) ∨
  (c = false ∧ Fl S (es ++ w)) ∨
  (Fl S (es ++ w) ∧ Big B' s') ∨
  (c = false ∧ p < tl s' es ∧ ∃ S' w', Rep S' B' s' ∧ Rds S (es ++ w) S' w' ∧ WfW w')
def SimP (B : Bs) (s : Int → Ty) (p : Int) (c : Bool) (B' : Bs) (p' : Int) (a0 b0 : Ty) : Prop :=
  ∃ s', Inv B' s' ∧ Sub B B' ∧ ∀ S x y, Rep S B s → wfT x = true → wfT y = true → ap s x = ap s a0 → ap s y = ap s b0 → ∀ w, WfW w → Out S [⟨x, y⟩] w p c B' p' s'
theorem simL {f : Ty → Ty → Bs × Int → Option (Bool × (Bs × Int))} : ∀ (as1 bs : List Ty), as1.length = bs.length → (∀ u ∈ as1, wfT u = true) → (∀ u ∈ bs, wfT u = true) →
    (∀ a ∈ as1, ∀ b ∈ bs, ∀ B s p c B' p', Inv B s → f a b (B, p) = some (c, (B', p')) → SimP B s p c B' p' a b) →
    ∀ B s p c B' p', Inv B s → uniL f as1 bs (B, p) = some (c, (B', p')) →
    ∃ s', Inv B' s' ∧ Sub B B' ∧ ∀ S xs ys, Rep S B s → (∀ u ∈ xs, wfT u = true) → (∀ u ∈ ys, wfT u = true) → xs.map (ap s) = as1.map (ap s) → ys.map (ap s) = bs.map (ap s) → ∀ w, WfW w → Out S (zipE xs ys) w p c B' p' s'
  | [], [], _, _, _, _, B, s, p, c, B', p', hi, hu => by
    cases hu
    refine ⟨s, hi, .refl _, fun S xs ys hr _ _ ex ey w _ => .inl ⟨rfl, by rw [Int.sub_self]; exact Int.natCast_nonneg _, S, hr, ?_⟩⟩
    have : xs = [] := by cases xs with | nil => rfl | cons _ _ => cases ex
    subst this
    exact .refl _ _
  | a :: as1, b :: bs, hl, hwa, hwb, hf, B, s, p, c, B', p', hi, hu => by
    simp only [uniL] at hu
    obtain ⟨⟨c1, B1, p1⟩, h1, h2⟩ := Option.bind_eq_some_iff.1 hu
    obtain ⟨s1, i1, i2, i3⟩ := hf a (.head _) b (.head _) B s p c1 B1 p1 hi h1
    have wa := hwa a (.head _)
    have wb := hwb b (.head _)
    cases c1 with
    | false =>
      rw [if_neg (by simp)] at h2
      cases h2
      refine ⟨s1, i1, i2, fun S xs ys hr hx hy ex ey w hw => ?_⟩
      cases xs with
      | nil => cases ex
      | cons x xs =>
        cases ys with
        | nil => cases ey
        | cons y ys =>
          simp only [List.map_cons, List.cons.injEq] at ex ey
          have hww : WfW (zipE xs ys ++ w) := fun e he => by
            rcases List.mem_append.1 he with he | he
            · exact zip_wf (fun u h => hx u (.tail _ h)) (fun u h => hy u (.tail _ h)) e he
            · exact hw e he
          rcases i3 S x y hr (hx x (.head _)) (hy y (.head _)) ex.1 ey.1 (zipE xs ys ++ w) hww with ⟨q, _⟩ | ⟨_, q⟩ | ⟨q, r⟩ | ⟨_, q, S', w', r1, r2, r3⟩
          · cases q
          · exact .inr (.inl ⟨rfl, q⟩)
          · exact .inr (.inr (.inl ⟨q, r⟩))
          · refine .inr (.inr (.inr ⟨rfl, ?_, S', w', r1, r2, r3⟩))
            have e : tl s1 (zipE (x :: xs) (y :: ys)) = (ap s1 x).size + tl s1 (zipE xs ys) := rfl
            have e2 : tl s1 [⟨x, y⟩] = (ap s1 x).size + 0 := rfl
            rw [e2] at q; rw [e]; omega
    | true =>
      rw [if_pos rfl] at h2
      obtain ⟨s2, j1, j2, j3⟩ := simL as1 bs (by simpa using hl) (fun u h => hwa u (.tail _ h)) (fun u h => hwb u (.tail _ h)) (fun a ha b hb => hf a (.tail _ ha) b (.tail _ hb)) B1 s1 p1 c B' p' i1 h2
      refine ⟨s2, j1, i2.trans j2, fun S xs ys hr hx hy ex ey w hw => ?_⟩
      cases xs with
      | nil => cases ex
      | cons x xs =>
        cases ys with
        | nil => cases ey
        | cons y ys =>
          simp only [List.map_cons, List.cons.injEq] at ex ey
          have wx := hx x (.head _)
          have hww : WfW (zipE xs ys ++ w) := fun e he => by
            rcases List.mem_append.1 he with he | he
            · exact zip_wf (fun u h => hx u (.tail _ h)) (fun u h => hy u (.tail _ h)) e he
            · exact hw e he
          have e : tl s2 (zipE (x :: xs) (y :: ys)) = (ap s2 x).size + tl s2 (zipE xs ys) := rfl
          have e1 : tl s1 [⟨x, y⟩] = (ap s1 x).size + 0 := rfl
          have hg := (ap_grow i1 j1 j2 wx).2
          have carry : ∀ (us vs : List Ty), (∀ u ∈ us, wfT u = true) → (∀ u ∈ vs, wfT u = true) → us.map (ap s) = vs.map (ap s) → us.map (ap s1) = vs.map (ap s1) := fun us vs hu hv he => by
            have key : ∀ us : List Ty, (∀ u ∈ us, wfT u = true) → us.map (ap s1) = (us.map (ap s)).map (ap s1) := fun us hu => by
              rw [List.map_map]; exact List.map_congr_left fun u h => (ap_grow hi i1 i2 (hu u h)).1
            rw [key us hu, key vs hv, he]
          rcases i3 S x y hr wx (hy y (.head _)) ex.1 ey.1 (zipE xs ys ++ w) hww with ⟨_, q, S1, r1, r2⟩ | ⟨q, _⟩ | ⟨q, r⟩ | ⟨q, _⟩
          · rcases j3 S1 xs ys r1 (fun u h => hx u (.tail _ h)) (fun u h => hy u (.tail _ h)) (carry xs as1 (fun u h => hx u (.tail _ h)) (fun u h => hwa u (.tail _ h)) ex.2) (carry ys bs (fun u h => hy u (.tail _ h)) (fun u h => hwb u (.tail _ h)) ey.2) w hw with ⟨c1, k, S2, t1, t2⟩ | ⟨c1, k⟩ | ⟨k, k'⟩ | ⟨c1, k, S2, w2, t1, t2, t3⟩
            · exact .inl ⟨c1, by rw [e]; rw [e1] at q; omega, S2, t1, r2.trans t2⟩
            · exact .inr (.inl ⟨c1, r2.fl k⟩)
            · exact .inr (.inr (.inl ⟨r2.fl k, k'⟩))
            · exact .inr (.inr (.inr ⟨c1, by rw [e]; rw [e1] at q; omega, S2, w2, t1, r2.trans t2, t3⟩))
          · cases q
          · exact .inr (.inr (.inl ⟨q, r.grow i1 j1 j2⟩))
          · cases q
  | [], _ :: _, hl, _, _, _, _, _, _, _, _, _, _, _ => by simp at hl
  | _ :: _, [], hl, _, _, _, _, _, _, _, _, _, _, _ => by simp at hl
theorem Rds.one {S : List Bd} {e : Eq2} {w : List Eq2} {S1 : List Bd} {w1 : List Eq2} (h : rstep S e w = some (S1, w1)) : Rds S (e :: w) S1 w1 := .step h (.refl _ _)
theorem fl_of {S : List Bd} {e : Eq2} {w : List Eq2} (h : rstep S e w = none) : Fl S (e :: w) := ⟨1, refF_none h 0⟩
theorem sim : ∀ (n : Nat) (a0 b0 : Ty), wfT a0 = true → wfT b0 = true → ∀ B s p c B' p', Inv B s → uniF n a0 b0 (B, p) = some (c, (B', p')) → SimP B s p c B' p' a0 b0
  | 0, a0, b0, _, _, B, s, p, c, B', p', hi, hu => by cases hu
  | n + 1, a0, b0, hwa, hwb, B, s, p, c, B', p', hi, hu => by
    simp only [uniF] at hu
    obtain ⟨a, e1, hu⟩ := Option.bind_eq_some_iff.1 hu
    obtain ⟨b, e2, hu⟩ := Option.bind_eq_some_iff.1 hu
    obtain ⟨wa, ea, ua⟩ := hi.head_is hwa e1
    obtain ⟨wb, eb, ub⟩ := hi.head_is hwb e2
    have form : ∀ t, wfT t = true → (t.kind = 1 → lk B t.id = none) → (t.kind = 1 → ap s t = t) ∧ (ap s t).kind = t.kind ∧ (ap s t).id = t.id ∧ (ap s t).args = t.args.map (ap s) := fun t hw hu => by
      by_cases hk : t.kind = 1
      · have e : ap s t = t := by rw [ap_v hk, hi.un _ (hu hk)]; exact (wf_vr hw hk).symm
        refine ⟨fun _ => e, by rw [e], by rw [e], ?_⟩
        rw [e, wf_var hw hk]; rfl
      · rw [ap_n hk]; exact ⟨fun h => absurd h hk, rfl, rfl, rfl⟩
    obtain ⟨va, ka, ia, ra⟩ := form a wa ua
    obtain ⟨vb, kb, ib, rb⟩ := form b wb ub
    have wsa : wfT (ap s a) = true := wf_ap a wa fun x hx => hi.wfs x (occ_pos a wa hx)
    have wsb : wfT (ap s b) = true := wf_ap b wb fun x hx => hi.wfs x (occ_pos b wb hx)
    have rs : ∀ S x y, Rep S B s → wfT x = true → wfT y = true → ap s x = ap s a0 → ap s y = ap s b0 → ∀ w, rstep S ⟨x, y⟩ w = rstepA S (ap s a) (ap s b) w := fun S x y hr wx wy ex ey w => by
      unfold rstep
      rw [show (Eq2.mk x y).l = x from rfl, show (Eq2.mk x y).r = y from rfl, hr.sub wx, hr.sub wy, ex, ey, ea, eb]
    have tle : ∀ (θ : Int → Ty) (x y : Ty), tl θ [⟨x, y⟩] = (ap θ x).size := fun θ x y => rfl
    have one : ∀ (θ : Int → Ty) (x y : Ty), 1 ≤ tl θ [⟨x, y⟩] := fun θ x y => ap_pos θ x
    have step1 : ∀ (B1 : Bs) (s1 : Int → Ty), Inv B1 s1 → Sub B B1 → (∀ S, Rep S B s → ∀ w, (∃ S', rstepA S (ap s a) (ap s b) w = some (S', w) ∧ Rep S' B1 s1) ∨ (rstepA S (ap s a) (ap s b) w = none ∧ Big B1 s1)) → SimP B s p true B1 (p - 1) a0 b0 := fun B1 s1 g1 g2 g3 => by
      refine ⟨s1, g1, g2, fun S x y hr wx wy ex ey w hw => ?_⟩
      rcases g3 S hr w with ⟨S', q1, q2⟩ | ⟨q1, q2⟩
      · exact .inl ⟨rfl, by have := one s1 x y; omega, S', q2, .one (by rw [rs S x y hr wx wy ex ey]; exact q1)⟩
      · exact .inr (.inr (.inl ⟨fl_of (by rw [rs S x y hr wx wy ex ey]; exact q1), q2⟩))
    have stop1 : (∀ S, Rep S B s → ∀ w, rstepA S (ap s a) (ap s b) w = none) → ∀ q, SimP B s p false B q a0 b0 := fun g q =>
      ⟨s, hi, .refl _, fun S x y hr wx wy ex ey w hw => .inr (.inl ⟨rfl, fl_of (by rw [rs S x y hr wx wy ex ey]; exact g S hr w)⟩)⟩
    split at hu
    · cases hu
      rename_i hp
      refine ⟨s, hi, .refl _, fun S x y hr wx wy ex ey w hw => .inr (.inr (.inr ⟨rfl, ?_, S, ⟨x, y⟩ :: w, hr, .refl _ _, ?_⟩))⟩
      · have := one s x y; omega
      · intro e he
        rcases List.mem_cons.1 he with rfl | he
        · exact ⟨wx, wy⟩
        · exact hw e he
    · split at hu
      · rename_i hk
        cases hu
        refine step1 _ s hi (.refl _) fun S hr w => .inl ⟨S, ?_, hr⟩
        unfold rstepA
        rw [ka, kb, if_pos hk]
      · rename_i hk0
        split at hu
        · rename_i hk
          cases hu
          have hA : ap s a = a := va hk.1
          have hB : ap s b = b := vb hk.2
          by_cases hne : a.id = b.id
          · simp only [hne, ne_eq, not_true_eq_false, if_false]
            refine step1 _ s hi (.refl _) fun S hr w => .inl ⟨S, ?_, hr⟩
            unfold rstepA
            rw [ka, kb, ia, ib, if_neg hk0, if_pos hk, if_pos hne]
          · simp only [ne_eq, hne, not_false_eq_true, if_true]
            have hmx : lk B (max a.id b.id) = none := by
              rcases Int.le_total a.id b.id with q | q
              · rw [Int.max_eq_right q]; exact ub hk.2
              · rw [Int.max_eq_left q]; exact ua hk.1
            have hmn : lk B (min a.id b.id) = none := by
              rcases Int.le_total a.id b.id with q | q
              · rw [Int.min_eq_left q]; exact ua hk.1
              · rw [Int.min_eq_right q]; exact ub hk.2
            have pa := wf_pos wa hk.1
            have pb := wf_pos wb hk.2
            have ho : occ (max a.id b.id) (ap s (vr (min a.id b.id))) = false := by
              rw [ap_vr, hi.un _ hmn, Bool.eq_false_iff]
              intro q; have := occ_vr.1 q; omega
            have hwm : wfT (vr (min a.id b.id)) = true := wf_vr' (by omega)
            have hI := hi.bind (v := max a.id b.id) (t := vr (min a.id b.id)) hmx (by omega) hwm ho (fun _ => by show min a.id b.id < max a.id b.id; omega)
            refine step1 _ _ hI (Sub.st hmx) fun S hr w => .inl ⟨_, ?_, hr.add hi hmx (by omega) hwm ho⟩
            unfold rstepA
            rw [ka, kb, ia, ib, if_neg hk0, if_pos hk, if_neg hne]
            have em : ap s (.mk 1 (min a.id b.id) []) = .mk 1 (min a.id b.id) [] := (ap_vr s _).trans (hi.un _ hmn)
            rw [em]
            by_cases hlt : a.id < b.id
            · rw [if_pos hlt, Int.max_eq_right (Int.le_of_lt hlt), Int.min_eq_left (Int.le_of_lt hlt), hA]; exact congrArg (fun z => some (addB b.id z S, w)) (wf_vr wa hk.1)
            · rw [if_neg hlt, Int.max_eq_left (by omega), Int.min_eq_right (by omega), hB]; exact congrArg (fun z => some (addB a.id z S, w)) (wf_vr wb hk.2)
        · rename_i hnvv
          have bindc : ∀ (x y : Ty), wfT x = true → wfT y = true → x.kind = 1 → lk B x.id = none → y.kind ≠ 1 → ∀ q, bindF n B x.id y = some q →
              (∀ S w, rstepA S (ap s a) (ap s b) w = if occ x.id (ap s y) = true then none else if (addB x.id (ap s y) S).any over = true then none else some (addB x.id (ap s y) S, w)) →
              SimP B s p q.1 q.2 (p - 1) a0 b0 := by
            intro x y wx wy hx hlx hy q hq hrs
            rcases bindF_spec hi hlx wy hq with ⟨ho, rfl⟩ | ⟨ho, rfl⟩
            · exact stop1 (fun S hr w => by rw [hrs, if_pos ho]) _
            · have hI := hi.bind hlx (wf_pos wx hx) wy ho (fun h => absurd h hy)
              refine step1 _ _ hI (Sub.st hlx) fun S hr w => ?_
              have hR := hr.add hi hlx (wf_pos wx hx) wy ho
              rw [hrs, if_neg (by rw [ho]; simp)]
              by_cases hov : (addB x.id (ap s y) S).any over = true
              · rw [if_pos hov]
                obtain ⟨b, hb, hz⟩ := List.any_eq_true.1 hov
                refine .inr ⟨rfl, hR.big hb ?_⟩
                have := of_decide_eq_true hz; omega
              · rw [if_neg hov]
                exact .inl ⟨_, rfl, hR⟩
          split at hu
          · rename_i hka
            have hkb : b.kind ≠ 1 := fun h => hnvv ⟨hka, h⟩
            obtain ⟨q, hq, hr⟩ := Option.map_eq_some_iff.1 hu
            cases hr
            refine bindc a b wa wb hka (ua hka) hkb q hq fun S w => ?_
            unfold rstepA
            rw [ka, kb, ia, ib, if_neg hk0, if_neg hnvv, if_neg hkb, if_pos hka]
          · rename_i hka
            split at hu
            · rename_i hkb
              obtain ⟨q, hq, hr⟩ := Option.map_eq_some_iff.1 hu
              cases hr
              refine bindc b a wb wa hkb (ub hkb) hka q hq fun S w => ?_
              unfold rstepA
              rw [ka, kb, ia, ib, if_neg hk0, if_neg hnvv, if_pos hkb]
            · rename_i hkb
              have la : (ap s a).args.length = a.args.length := by rw [ra, List.length_map]
              have lb : (ap s b).args.length = b.args.length := by rw [rb, List.length_map]
              split at hu
              · rename_i hd
                cases hu
                refine stop1 (fun S hr w => ?_) _
                unfold rstepA
                rw [ka, kb, ia, ib, la, lb, if_neg hk0, if_neg hnvv, if_neg hkb, if_neg hka, if_pos hd]
              · rename_i hd
                have d3 : a.args.length = b.args.length := by
                  rcases Decidable.em (a.args.length = b.args.length) with h | h
                  · exact h
                  · exact absurd (.inr h) hd
                obtain ⟨s', j1, j2, j3⟩ := simL a.args b.args d3 (fun u h => wf_arg wa h) (fun u h => wf_arg wb h) (fun x hx y hy B s p c B' p' hI hf => sim n x y (wf_arg wa hx) (wf_arg wb hy) B s p c B' p' hI hf) B s (p - 1) c B' p' hi hu
                refine ⟨s', j1, j2, fun S x y hr wx wy ex ey w hw => ?_⟩
                have hst : rstep S ⟨x, y⟩ w = some (S, zipE (ap s a).args (ap s b).args ++ w) := by
                  rw [rs S x y hr wx wy ex ey]
                  unfold rstepA
                  rw [ka, kb, ia, ib, la, lb, if_neg hk0, if_neg hnvv, if_neg hkb, if_neg hka, if_neg hd]
                have idm : ∀ us : List Ty, (∀ u ∈ us, wfT u = true) → (us.map (ap s)).map (ap s) = us.map (ap s) := fun us hu => by
                  rw [List.map_map]; exact List.map_congr_left fun u h => hi.idem (hu u h)
                have ho := j3 S (ap s a).args (ap s b).args hr (fun u h => wf_arg wsa h) (fun u h => wf_arg wsb h) (by rw [ra]; exact idm _ fun u h => wf_arg wa h) (by rw [rb]; exact idm _ fun u h => wf_arg wb h) w hw
                have ez : tl s' (zipE (ap s a).args (ap s b).args) + 1 = tl s' [⟨x, y⟩] := by
                  rw [tl_zip _ _ _ (by rw [la, lb, d3]), tle]
                  have e3 : ap s' x = ap s' (ap s a) := by rw [(ap_grow hi j1 j2 wx).1, ex, ← ea]
                  rw [e3, size_node s' (t := ap s a) (by rw [ka]; exact hka)]
                  omega
                rcases ho with ⟨c1, k, S2, t1, t2⟩ | ⟨c1, k⟩ | ⟨k, k'⟩ | ⟨c1, k, S2, w2, t1, t2, t3⟩
                · exact .inl ⟨c1, by rw [← ez]; omega, S2, t1, .step hst t2⟩
                · exact .inr (.inl ⟨c1, (Rds.one hst).fl k⟩)
                · exact .inr (.inr (.inl ⟨(Rds.one hst).fl k, k'⟩))
                · exact .inr (.inr (.inr ⟨c1, by rw [← ez]; omega, S2, w2, t1, .step hst t2, t3⟩))
end Go.Abs
namespace Go.Abs
open Go.Proofs
/-! The reference ends; where a type has grown too large it fails. -/
def cnt (V : List Int) (S : List Bd) : Nat := (V.filter fun x => S.all fun b => decide (b.v ≠ x)).length
theorem cnt_lt {S S' : List Bd} {v : Int} (hn : ∀ b ∈ S, b.v ≠ v) (hv : ∃ b ∈ S', b.v = v) (hk : ∀ b ∈ S, ∃ c ∈ S', c.v = b.v) : ∀ (V : List Int), v ∈ V → cnt V S' < cnt V S := by
  have step : ∀ x, (S'.all fun b => decide (b.v ≠ x)) = true → (S.all fun b => decide (b.v ≠ x)) = true := fun x h => by
    rw [List.all_eq_true] at h ⊢
    intro b hb
    obtain ⟨c, hc, e⟩ := hk b hb
    rw [← e]; exact h c hc
  have le : ∀ V : List Int, cnt V S' ≤ cnt V S := fun V => by
    induction V with
    | nil => simp [cnt]
    | cons x V ih =>
      unfold cnt at ih ⊢
      rw [List.filter_cons, List.filter_cons]
      split
      · rename_i h; rw [if_pos (step x h), List.length_cons, List.length_cons]; omega
      · split
        · rw [List.length_cons]; omega
        · exact ih
  intro V
  induction V with
  | nil => intro h; cases h
  | cons x V ih =>
    intro h
    have h1 := le V
    unfold cnt at ih h1 ⊢
    rw [List.filter_cons, List.filter_cons]
    by_cases e : v = x
    · subst e
      have q1 : ¬ (S'.all fun b => decide (b.v ≠ v)) = true := fun q => by
        obtain ⟨b, hb, e⟩ := hv
        have := (List.all_eq_true.1 q) b hb
        simp [e] at this
      have q2 : (S.all fun b => decide (b.v ≠ v)) = true := List.all_eq_true.2 fun b hb => decide_eq_true (hn b hb)
      rw [if_neg q1, if_pos q2, List.length_cons]; omega
    · have := ih ((List.mem_cons.1 h).resolve_left e)
      split
      · rename_i h; rw [if_pos (step x h), List.length_cons, List.length_cons]; omega
      · split
        · rw [List.length_cons]; omega
        · exact this
def tot (σ : Int → Ty) : List Eq2 → Nat
  | [] => 0
  | e :: w => (ap σ e.l).size + (ap σ e.r).size + tot σ w
theorem tot_app (σ : Int → Ty) : ∀ (w w' : List Eq2), tot σ (w ++ w') = tot σ w + tot σ w'
  | [], w' => by simp [tot]
  | e :: w, w' => by rw [List.cons_append, tot, tot, tot_app σ w w']; omega
theorem tot_zip (σ : Int → Ty) : ∀ (xs ys : List Ty), xs.length = ys.length → tot σ (zipE xs ys) = zs σ xs + zs σ ys
  | [], [], _ => by simp [zipE, tot, zs, Ty.sizes]
  | x :: xs, y :: ys, h => by
    have := tot_zip σ xs ys (by simpa using h)
    rw [zs_cons, zs_cons]
    have e : tot σ (zipE (x :: xs) (y :: ys)) = (ap σ x).size + (ap σ y).size + tot σ (zipE xs ys) := rfl
    rw [e, this]; omega
  | [], _ :: _, h => by cases h
  | _ :: _, [], h => by cases h
def VOkW (V : List Int) (σ : Int → Ty) (w : List Eq2) : Prop := ∀ e ∈ w, ∀ x, occ x (ap σ e.l) = true ∨ occ x (ap σ e.r) = true → x ∈ V
def Huge (S : List Bd) : Prop := ∃ b ∈ S, 100 < b.t.size
theorem zip_mem {xs ys : List Ty} {e : Eq2} (h : e ∈ zipE xs ys) : e.l ∈ xs ∧ e.r ∈ ys := by
  obtain ⟨p, hp, rfl⟩ := List.mem_map.1 h
  exact List.of_mem_zip hp
theorem ref_ex : ∀ (k m : Nat) (S : List Bd) (w : List Eq2) (V : List Int), RI S → WfW w → VOkW V (lkS S) w → cnt V S ≤ k → tot (lkS S) w ≤ m → ∃ N r, refF N S w = some r ∧ (Huge S → r = none) := by
  intro k
  induction k with
  | zero =>
    intro m
    induction m with
    | zero =>
      intro S w V hri hw hv hc hm
      exact go 0 0 (fun j hj => by omega) (fun j hj => by omega) S w V hri hw hv hc hm
    | succ m ih => intro S w V hri hw hv hc hm; exact go 0 (m + 1) (fun j hj => by omega) (fun j hj => by cases (by omega : j = m); exact ih) S w V hri hw hv hc hm
  | succ k ihk =>
    intro m
    induction m with
    | zero => intro S w V hri hw hv hc hm; exact go (k + 1) 0 (fun j hj => by cases (by omega : j = k); exact ihk) (fun j hj => by omega) S w V hri hw hv hc hm
    | succ m ih => intro S w V hri hw hv hc hm; exact go (k + 1) (m + 1) (fun j hj => by cases (by omega : j = k); exact ihk) (fun j hj => by cases (by omega : j = m); exact ih) S w V hri hw hv hc hm
where
  go (k m : Nat) (ihk : ∀ j, j + 1 = k → ∀ (m : Nat) (S : List Bd) (w : List Eq2) (V : List Int), RI S → WfW w → VOkW V (lkS S) w → cnt V S ≤ j → tot (lkS S) w ≤ m → ∃ N r, refF N S w = some r ∧ (Huge S → r = none))
      (ihm : ∀ j, j + 1 = m → ∀ (S : List Bd) (w : List Eq2) (V : List Int), RI S → WfW w → VOkW V (lkS S) w → cnt V S ≤ k → tot (lkS S) w ≤ j → ∃ N r, refF N S w = some r ∧ (Huge S → r = none))
      (S : List Bd) (w : List Eq2) (V : List Int) (hri : RI S) (hw : WfW w) (hv : VOkW V (lkS S) w) (hc : cnt V S ≤ k) (hm : tot (lkS S) w ≤ m) : ∃ N r, refF N S w = some r ∧ (Huge S → r = none) := by
    cases w with
    | nil =>
      refine ⟨1, _, refF_nil 0 S, fun ⟨b, hb, hz⟩ => ?_⟩
      rw [if_pos]
      refine List.any_eq_true.2 ⟨b, hb, ?_⟩
      unfold unfit
      rw [decide_eq_true (by omega)]; rfl
    | cons e w =>
      obtain ⟨wl, wr⟩ := hw e (.head _)
      have hww : WfW w := fun x hx => hw x (.tail _ hx)
      have hvw : VOkW V (lkS S) w := fun x hx => hv x (.tail _ hx)
      have wa := hri.wfa wl
      have wb := hri.wfa wr
      have sl := ap_pos (lkS S) e.l
      have sr := ap_pos (lkS S) e.r
      have htot : tot (lkS S) (e :: w) = (ap (lkS S) e.l).size + (ap (lkS S) e.r).size + tot (lkS S) w := rfl
      have hrs : rstep S e w = rstepA S (ap (lkS S) e.l) (ap (lkS S) e.r) w := by unfold rstep; rw [sub_ap S _ wl, sub_ap S _ wr]
      have fin : ∀ q, rstepA S (ap (lkS S) e.l) (ap (lkS S) e.r) w = some q → (∃ N r, refF N q.1 q.2 = some r ∧ (Huge S → r = none)) → ∃ N r, refF N S (e :: w) = some r ∧ (Huge S → r = none) := fun q h1 ⟨N, r, h2, h3⟩ => ⟨N + 1, r, by rw [refF_some (hrs.trans h1)]; exact h2, h3⟩
      have bad : rstepA S (ap (lkS S) e.l) (ap (lkS S) e.r) w = none → ∃ N r, refF N S (e :: w) = some r ∧ (Huge S → r = none) := fun h1 => ⟨1, none, refF_none (hrs.trans h1) 0, fun _ => rfl⟩
      have same : ∃ N r, refF N S w = some r ∧ (Huge S → r = none) := by
        cases m with
        | zero => omega
        | succ m => exact ihm m rfl S w V hri hww hvw hc (by omega)
      have bind : ∀ (x T : Ty), wfT x = true → x.kind = 1 → (∀ b ∈ S, b.v ≠ x.id) → x.id ∈ V → wfT T = true → occ x.id T = false → (∀ y, occ y T = true → y ∈ V ∧ ∀ b ∈ S, b.v ≠ y) → ∃ N r, refF N (addB x.id T S) w = some r ∧ (Huge S → r = none) := by
        intro x T hx hk hn hV hT ho hyV
        have nw : Nw S x.id T := ⟨wf_pos hx hk, hn, hT, ho, fun b hb => by
          rw [Bool.eq_false_iff]; intro q; exact (hyV _ q).2 b hb rfl⟩
        obtain ⟨a1, a2, a3⟩ := hri.add nw
        have hlt : cnt V (addB x.id T S) < cnt V S := cnt_lt hn ((a3 _).2 (.inl rfl)) (fun b hb => (a3 _).2 (.inr ⟨b, hb, rfl⟩)) V hV
        have hv' : VOkW V (lkS (addB x.id T S)) w := fun f hf y hy => by
          have key : ∀ t, wfT t = true → (∀ z, occ z (ap (lkS S) t) = true → z ∈ V) → occ y (ap (lkS (addB x.id T S)) t) = true → y ∈ V := fun t ht hz hy => by
            rw [ap_congr (r := fun z => ap (up x.id T) (lkS S z)) t fun z _ => a2 z, ← ap_ap] at hy
            obtain ⟨z, h1, h2⟩ := (occ_ap _ (hri.wfa ht)).1 hy
            unfold up at h2
            split at h2
            · exact (hyV _ h2).1
            · have := occ_vr.1 h2; subst this; exact hz z h1
          rcases hy with hy | hy
          · exact key f.l (hww f hf).1 (fun z hz => hvw f hf z (.inl hz)) hy
          · exact key f.r (hww f hf).2 (fun z hz => hvw f hf z (.inr hz)) hy
        cases k with
        | zero => omega
        | succ k =>
          obtain ⟨N, r, h1, h2⟩ := ihk k rfl _ _ w V a1 hww hv' (by omega) (Nat.le_refl _)
          refine ⟨N, r, h1, fun ⟨b, hb, hz⟩ => h2 ⟨sb1 x.id T b, (addB_mem _ _ _ S).2 (.inr ⟨b, hb, rfl⟩), ?_⟩⟩
          rw [sb1_ap (hri.wf b hb)]
          have := size_le_ap (θ := up x.id T) b.t (hri.wf b hb)
          exact Nat.lt_of_lt_of_le hz this
      have hvl : ∀ y, occ y (ap (lkS S) e.l) = true → y ∈ V ∧ ∀ b ∈ S, b.v ≠ y := fun y hy => ⟨hv e (.head _) y (.inl hy), hri.gone wl hy⟩
      have hvr : ∀ y, occ y (ap (lkS S) e.r) = true → y ∈ V ∧ ∀ b ∈ S, b.v ≠ y := fun y hy => ⟨hv e (.head _) y (.inr hy), hri.gone wr hy⟩
      generalize hA : ap (lkS S) e.l = a at *
      generalize hB : ap (lkS S) e.r = b at *
      unfold rstepA at fin bad
      by_cases h0 : a.kind = 0 ∨ b.kind = 0
      · simp only [if_pos h0] at fin; exact fin _ rfl same
      · simp only [if_neg h0] at fin bad
        by_cases h1 : a.kind = 1 ∧ b.kind = 1
        · simp only [if_pos h1] at fin
          have ea := wf_vr wa h1.1
          have eb := wf_vr wb h1.2
          have oa : occ a.id a = true := (occ_var wa h1.1).2 rfl
          have ob : occ b.id b = true := (occ_var wb h1.2).2 rfl
          by_cases h2 : a.id = b.id
          · simp only [if_pos h2] at fin; exact fin _ rfl same
          · simp only [if_neg h2] at fin
            by_cases h3 : a.id < b.id
            · simp only [if_pos h3] at fin
              refine fin _ rfl (bind b a wb h1.2 (hvr _ ob).2 (hvr _ ob).1 wa ?_ hvl)
              rw [Bool.eq_false_iff]; intro q; exact h2 ((occ_var wa h1.1).1 q)
            · simp only [if_neg h3] at fin
              refine fin _ rfl (bind a b wa h1.1 (hvl _ oa).2 (hvl _ oa).1 wb ?_ hvr)
              rw [Bool.eq_false_iff]; intro q; exact h2 ((occ_var wb h1.2).1 q).symm
        · simp only [if_neg h1] at fin bad
          by_cases h2 : b.kind = 1
          · simp only [if_pos h2] at fin bad
            have ob : occ b.id b = true := (occ_var wb h2).2 rfl
            by_cases h3 : occ b.id a = true
            · simp only [if_pos h3] at bad; exact bad trivial
            · simp only [if_neg h3] at fin bad
              by_cases h4 : (addB b.id a S).any over = true
              · simp only [if_pos h4] at bad; exact bad trivial
              · simp only [if_neg h4] at fin
                exact fin _ rfl (bind b a wb h2 (hvr _ ob).2 (hvr _ ob).1 wa (by simpa using h3) hvl)
          · simp only [if_neg h2] at fin bad
            by_cases h3 : a.kind = 1
            · simp only [if_pos h3] at fin bad
              have oa : occ a.id a = true := (occ_var wa h3).2 rfl
              by_cases h4 : occ a.id b = true
              · simp only [if_pos h4] at bad; exact bad trivial
              · simp only [if_neg h4] at fin bad
                by_cases h5 : (addB a.id b S).any over = true
                · simp only [if_pos h5] at bad; exact bad trivial
                · simp only [if_neg h5] at fin
                  exact fin _ rfl (bind a b wa h3 (hvl _ oa).2 (hvl _ oa).1 wb (by simpa using h4) hvr)
            · simp only [if_neg h3] at fin bad
              by_cases h4 : (a.kind ≠ b.kind ∨ a.id ≠ b.id) ∨ a.args.length ≠ b.args.length
              · simp only [if_pos h4] at bad; exact bad trivial
              · simp only [if_neg h4] at fin
                have hl : a.args.length = b.args.length := by
                  rcases Decidable.em (a.args.length = b.args.length) with h | h
                  · exact h
                  · exact absurd (.inr h) h4
                refine fin _ rfl ?_
                have ida : ap (lkS S) a = a := by rw [← hA]; exact hri.idem wl
                have idb : ap (lkS S) b = b := by rw [← hB]; exact hri.idem wr
                have za : zs (lkS S) a.args + 1 = a.size := by have := size_node (lkS S) (t := a) h3; rw [ida] at this; omega
                have zb : zs (lkS S) b.args + 1 = b.size := by have := size_node (lkS S) (t := b) h2; rw [idb] at this; omega
                have ht : tot (lkS S) (zipE a.args b.args ++ w) + 2 ≤ m := by
                  rw [tot_app, tot_zip _ _ _ hl]
                  omega
                cases m with
                | zero => omega
                | succ m =>
                  refine ihm m rfl S _ V hri (fun f hf => ?_) (fun f hf y hy => ?_) hc (by simp only; omega)
                  · rcases List.mem_append.1 hf with hf | hf
                    · exact zip_wf (fun u h => wf_arg wa h) (fun u h => wf_arg wb h) f hf
                    · exact hww f hf
                  · rcases List.mem_append.1 hf with hf | hf
                    · obtain ⟨fl, fr⟩ := zip_mem hf
                      have up1 : ∀ {t u : Ty}, ap (lkS S) t = t → t.kind ≠ 1 → u ∈ t.args → occ y (ap (lkS S) u) = true → occ y t = true := fun {t u} hi hk hu hy => by
                        have : occ y (ap (lkS S) t) = true := by
                          rw [ap_n hk]
                          exact (occ_arg (by exact hk)).2 ⟨_, List.mem_map_of_mem hu, hy⟩
                        rwa [hi] at this
                      rcases hy with hy | hy
                      · exact (hvl y (up1 ida h3 fl hy)).1
                      · exact (hvr y (up1 idb h2 fr hy)).1
                    · exact hvw f hf y hy
end Go.Abs
namespace Go.Abs
open Go.Proofs
/-! The reference's answer is the program's. -/
theorem vars_all (σ : Int → Ty) (w : List Eq2) : VOkW (w.flatMap fun e => afv (ap σ e.l) [] ++ afv (ap σ e.r) []) σ w := fun e he x hx => by
  refine List.mem_flatMap.2 ⟨e, he, List.mem_append.2 ?_⟩
  rcases hx with hx | hx
  · exact .inl ((mem_afv x _ []).2 (.inr hx))
  · exact .inr ((mem_afv x _ []).2 (.inr hx))
theorem ref_end {S : List Bd} {w : List Eq2} (h : RI S) (hw : WfW w) : ∃ N r, refF N S w = some r ∧ (Huge S → r = none) :=
  ref_ex _ _ S w _ h hw (vars_all _ w) (Nat.le_refl _) (Nat.le_refl _)
theorem big_of_size {B : Bs} {s : Int → Ty} (h : Inv B s) {t : Ty} (hw : wfT t = true) (hz : t.size ≤ 100) (hp : (20000 : Int) < ((ap s t).size : Nat)) : Big B s := by
  apply Classical.byContradiction
  intro hn
  have hs : ∀ x, 0 ≤ x → (s x).size ≤ 100 := fun x hx => by
    cases hl : lk B x with
    | none => rw [h.un _ hl, vr_size]; omega
    | some u =>
      apply Classical.byContradiction
      intro q
      exact hn ⟨x, by rw [hl]; simp, by omega⟩
  have h1 := size_ap_le (m := 100) (by decide) hs t hw
  have := Nat.mul_le_mul_right 100 hz
  omega
theorem simSolve : ∀ (n : Nat) (eqs : List Eq2), EGood eqs → ∀ B s c B', Inv B s → solveF n eqs B = some (c, B') → ∃ s', Inv B' s' ∧ Sub B B' ∧ ∀ S, Rep S B s →
    (c = true ∧ ∃ S', Rep S' B' s' ∧ Rds S eqs S' []) ∨ (c = false ∧ Fl S eqs) ∨ (Fl S eqs ∧ Big B' s')
  | n, [], _, B, s, c, B', hi, h => by
    cases h
    exact ⟨s, hi, .refl _, fun S hr => .inl ⟨rfl, S, hr, .refl _ _⟩⟩
  | n, e :: es, hg, B, s, c, B', hi, h => by
    simp only [solveF] at h
    obtain ⟨⟨c1, B1, p1⟩, h1, h2⟩ := Option.bind_eq_some_iff.1 h
    obtain ⟨⟨wl, zl⟩, ⟨wr, zr⟩⟩ := hg e (.head _)
    have hwes : WfW es := fun x hx => ⟨(hg x (.tail _ hx)).1.1, (hg x (.tail _ hx)).2.1⟩
    obtain ⟨s1, i1, i2, i3⟩ := sim n e.l e.r wl wr B s 20000 c1 B1 p1 hi h1
    have dcase : ∀ S, (20000 : Int) < tl s1 [⟨e.l, e.r⟩] → (∃ S' w', Rep S' B1 s1 ∧ Rds S (⟨e.l, e.r⟩ :: es) S' w' ∧ WfW w') → Fl S (e :: es) := fun S hp ⟨S', w', r1, r2, r3⟩ => by
      have hb : Big B1 s1 := big_of_size i1 wl zl hp
      obtain ⟨N, r, k1, k2⟩ := ref_end r1.ri r3
      have := k2 (r1.big' hb)
      subst this
      exact r2.run k1
    cases c1 with
    | false =>
      rw [if_neg (by simp)] at h2
      cases h2
      refine ⟨s1, i1, i2, fun S hr => ?_⟩
      rcases i3 S e.l e.r hr wl wr rfl rfl es hwes with ⟨q, _⟩ | ⟨_, q⟩ | ⟨q, r⟩ | ⟨_, q, q'⟩
      · cases q
      · exact .inr (.inl ⟨rfl, q⟩)
      · exact .inr (.inr ⟨q, r⟩)
      · exact .inr (.inl ⟨rfl, dcase S q q'⟩)
    | true =>
      rw [if_pos rfl] at h2
      obtain ⟨s2, j1, j2, j3⟩ := simSolve n es (fun x hx => hg x (.tail _ hx)) B1 s1 c B' i1 h2
      refine ⟨s2, j1, i2.trans j2, fun S hr => ?_⟩
      rcases i3 S e.l e.r hr wl wr rfl rfl es hwes with ⟨_, _, S1, r1, r2⟩ | ⟨q, _⟩ | ⟨q, r⟩ | ⟨q, _⟩
      · rcases j3 S1 r1 with ⟨c1, S2, t1, t2⟩ | ⟨c1, k⟩ | ⟨k, k'⟩
        · exact .inl ⟨c1, S2, t1, r2.trans t2⟩
        · exact .inr (.inl ⟨c1, r2.fl k⟩)
        · exact .inr (.inr ⟨r2.fl k, k'⟩)
      · cases q
      · exact .inr (.inr ⟨q, r.grow i1 j1 j2⟩)
      · cases q
theorem inv_uniq {B : Bs} {s s' : Int → Ty} (h : Inv B s) (h' : Inv B s') : ∀ x, s x = s' x := fun x => by
  by_cases hx : 0 ≤ x
  · exact same_sol h h' h.mod h'.mod x hx
  · cases hl : lk B x with
    | none => rw [h.un _ hl, h'.un _ hl]
    | some u => exact absurd (h.pos _ _ hl) hx
/-- The reference ends, with the program's answer. -/
theorem ref_plain {eqs : List Eq2} {R : List Bd} {ok : Bool} (h : Uni eqs R ok) (hb : (decide (((eqs.length : Nat) : Int) > 100) || eqs.any bad) = false) :
    ∃ N r, refF N [] eqs = some r ∧ (r = none → ok = false) ∧ ∀ W, r = some W → ok = true ∧ R = W := by
  obtain ⟨hg, c, B, s, h1, h2, h3⟩ := h.good hb
  obtain ⟨n, hn⟩ := h1.run
  obtain ⟨s', i1, i2, i3⟩ := simSolve n eqs hg [] vr c B inv_nil hn
  have hss := inv_uniq i1 h1.inv
  have bigNo : Big B s' → (B.all fun e => fits s e.2) = false := fun ⟨v, q1, q2⟩ => by
    cases hl : lk B v with
    | none => exact absurd hl q1
    | some u =>
      rw [List.all_eq_false]
      have : ¬ ∀ e ∈ B, e.1 ≠ v := fun q => by rw [lk_none_iff.2 q] at hl; cases hl
      simp only [Classical.not_forall] at this
      obtain ⟨e, he, hq0⟩ := this
      have hq : e.1 = v := by simpa using hq0
      refine ⟨e, he, ?_⟩
      have hle := lk_of_mem h1.ok he
      unfold fits
      rw [← h1.inv.bd _ _ hle, hq, ← hss]
      rw [decide_eq_false (by omega)]; simp
  rcases i3 [] rep_nil with ⟨hc, S', r1, r2⟩ | ⟨hc, N, hN⟩ | ⟨⟨N, hN⟩, hB⟩
  · subst hc
    have hkey : ∀ b, b ∈ S' ↔ (0 ≤ b.v ∧ s b.v ≠ vr b.v ∧ b.t = s b.v) := fun b => by
      constructor
      · intro hm
        have hk := (r1.key b.v).1 ⟨b, hm, rfl⟩
        have hp := r1.ri.pos b hm
        have ht : b.t = s b.v := by rw [← hss, ← r1.eq, r1.ri.lk hm]
        refine ⟨hp, fun q => ?_, ht⟩
        have := h1.inv.gone (x := b.v) (vr b.v) (wf_vr' hp) (by rw [ap_vr, q]; exact occ_vr.2 rfl)
        exact hk this
      · rintro ⟨hp, hq, ht⟩
        have hk : lk B b.v ≠ none := fun hl => hq (h1.inv.un _ hl)
        obtain ⟨d, hd, e⟩ := (r1.key b.v).2 hk
        have : d.t = b.t := by rw [← r1.ri.lk hd, r1.eq, hss, e, ht]
        have : d = b := by cases d; cases b; simp only at e this; rw [e, this]
        rw [← this]; exact hd
    have hall : (B.all fun e => fits s e.2) = !S'.any unfit := by
      rw [Bool.eq_iff_iff, List.all_eq_true, Bool.not_eq_true', List.any_eq_false]
      have fu : ∀ b : Bd, fits s b.t = true → True := fun _ _ => trivial
      constructor
      · intro q b hm
        obtain ⟨hp, hq, ht⟩ := (hkey b).1 hm
        have hk : lk B b.v ≠ none := fun hl => hq (h1.inv.un _ hl)
        have : ¬ ∀ e ∈ B, e.1 ≠ b.v := fun q => hk (lk_none_iff.2 q)
        simp only [Classical.not_forall] at this
        obtain ⟨e, he, hq0⟩ := this
        have hv : e.1 = b.v := by simpa using hq0
        have := q e he
        unfold fits at this
        rw [← h1.inv.bd _ _ (lk_of_mem h1.ok he), hv, ← ht, Bool.and_eq_true, decide_eq_true_eq, decide_eq_true_eq] at this
        unfold unfit
        rw [decide_eq_false (by omega), decide_eq_false (by omega)]; simp
      · intro q e he
        have hl := lk_of_mem h1.ok he
        have hm : (⟨e.1, s e.1⟩ : Bd) ∈ S' := by
          obtain ⟨d, hd, e1⟩ := (r1.key e.1).2 (by rw [hl]; simp)
          have : d.t = s e.1 := by rw [← r1.ri.lk hd, r1.eq, hss, e1]
          have : d = ⟨e.1, s e.1⟩ := by cases d; simp only at e1 this; rw [e1, this]
          rw [← this]; exact hd
        have := q _ hm
        unfold unfit at this
        simp only [Bool.or_eq_true, decide_eq_true_eq, not_or] at this
        unfold fits
        rw [← h1.inv.bd _ _ hl, decide_eq_true (by omega), decide_eq_true (by omega)]; rfl
    obtain ⟨N, hN⟩ := r2.run (refF_nil 0 S')
    refine ⟨N, _, hN, fun q => ?_, fun W q => ?_⟩
    · rw [h2, hall]
      by_cases hu : S'.any unfit = true
      · rw [hu]; rfl
      · rw [if_neg hu] at q; cases q
    · by_cases hu : S'.any unfit = true
      · rw [if_pos hu] at q; cases q
      · rw [if_neg hu] at q
        cases q
        have hok : ok = true := by rw [h2, hall]; simpa using hu
        refine ⟨hok, ?_⟩
        rw [(h3 hok).1]
        refine sorted_ext (ans_lt h1) r1.ri.srt fun b => ?_
        rw [ans_mem h1, hkey]
  · exact ⟨N, none, hN, fun _ => by rw [h2, hc]; rfl, nofun⟩
  · exact ⟨N, none, hN, fun _ => by rw [h2, bigNo hB, Bool.and_false], nofun⟩
end Go.Abs
namespace Go.Abs
open Go.Proofs
/-! What holds at each round of the reference's work list: nothing grows beyond memory. -/
theorem W_of_size : ∀ t : Ty, t.size ≤ 3000000000000 → t.W
  | .mk k i us, h => by
    refine .mk ?_ fun u hu => W_of_size u ?_
    · have : ∀ us : List Ty, us.length ≤ Ty.sizes us := fun us => by
        induction us with
        | nil => simp
        | cons u us ih => have := size_ge u; simp only [Ty.sizes, List.length_cons]; omega
      have h2 := this us
      rw [Ty.size] at h
      omega
    · have := Ty.size_arg (t := .mk k i us) hu; omega
theorem rstepA_inv {S : List Bd} {a b : Ty} {w : List Eq2} {q : List Bd × List Eq2} (wa : wfT a = true) (wb : wfT b = true) (h : rstepA S a b w = some q) :
    q = (S, w) ∨ (∃ x T, ((x = a ∧ T = b) ∨ (x = b ∧ T = a)) ∧ x.kind = 1 ∧ occ x.id T = false ∧ q = (addB x.id T S, w) ∧ (T.kind = 1 ∨ (addB x.id T S).any over = false)) ∨ (a.kind ≠ 1 ∧ b.kind ≠ 1 ∧ a.args.length = b.args.length ∧ q = (S, zipE a.args b.args ++ w)) := by
  unfold rstepA at h
  split at h
  · cases h; exact .inl rfl
  · split at h
    · rename_i h1
      split at h
      · cases h; exact .inl rfl
      · rename_i h2
        split at h
        · cases h
          refine .inr (.inl ⟨b, a, .inr ⟨rfl, rfl⟩, h1.2, ?_, rfl, .inl h1.1⟩)
          rw [Bool.eq_false_iff]; intro q; exact h2 ((occ_var wa h1.1).1 q)
        · cases h
          refine .inr (.inl ⟨a, b, .inl ⟨rfl, rfl⟩, h1.1, ?_, rfl, .inl h1.2⟩)
          rw [Bool.eq_false_iff]; intro q; exact h2 ((occ_var wb h1.2).1 q).symm
    · split at h
      · rename_i h2
        split at h
        · cases h
        · rename_i h3
          split at h
          · cases h
          · rename_i h4
            cases h
            exact .inr (.inl ⟨b, a, .inr ⟨rfl, rfl⟩, h2, by simpa using h3, rfl, .inr (by simpa using h4)⟩)
      · rename_i h2
        split at h
        · rename_i h3
          split at h
          · cases h
          · rename_i h4
            split at h
            · cases h
            · rename_i h5
              cases h
              exact .inr (.inl ⟨a, b, .inl ⟨rfl, rfl⟩, h3, by simpa using h4, rfl, .inr (by simpa using h5)⟩)
        · rename_i h3
          split at h
          · cases h
          · rename_i h4
            cases h
            refine .inr (.inr ⟨h3, h2, ?_, rfl⟩)
            rcases Decidable.em (a.args.length = b.args.length) with h | h
            · exact h
            · exact absurd (.inr h) h4
def Fx (θ : Int → Ty) (S : List Bd) : Prop := ∀ x, 0 ≤ x → ap θ (lkS S x) = θ x
theorem Fx.ap {θ : Int → Ty} {S : List Bd} (h : Fx θ S) {t : Ty} (hw : wfT t = true) : Go.Abs.ap θ (Go.Abs.ap (lkS S) t) = Go.Abs.ap θ t := by
  rw [ap_ap]; exact ap_congr t fun x hx => h x (occ_pos t hw hx)
def tr (θ : Int → Ty) : List Eq2 → Nat
  | [] => 0
  | e :: es => (ap θ e.r).size + tr θ es
theorem tl_app (θ : Int → Ty) : ∀ (w w' : List Eq2), tl θ (w ++ w') = tl θ w + tl θ w'
  | [], w' => by simp [tl]
  | e :: w, w' => by rw [List.cons_append, tl, tl, tl_app θ w w']; omega
theorem tr_app (θ : Int → Ty) : ∀ (w w' : List Eq2), tr θ (w ++ w') = tr θ w + tr θ w'
  | [], w' => by simp [tr]
  | e :: w, w' => by rw [List.cons_append, tr, tr, tr_app θ w w']; omega
theorem tr_zip (θ : Int → Ty) : ∀ (xs ys : List Ty), xs.length = ys.length → tr θ (zipE xs ys) = zs θ ys
  | [], [], _ => by simp [zipE, tr, zs, Ty.sizes]
  | x :: xs, y :: ys, h => by
    have := tr_zip θ xs ys (by simpa using h)
    rw [zs_cons, ← this]; rfl
  | [], _ :: _, h => by cases h
  | _ :: _, [], h => by cases h
theorem tl_mem (θ : Int → Ty) {e : Eq2} : ∀ {w : List Eq2}, e ∈ w → (ap θ e.l).size ≤ tl θ w
  | f :: w, h => by
    rcases List.mem_cons.1 h with rfl | h
    · rw [tl]; omega
    · have := tl_mem θ h; rw [tl]; omega
theorem tr_mem (θ : Int → Ty) {e : Eq2} : ∀ {w : List Eq2}, e ∈ w → (ap θ e.r).size ≤ tr θ w
  | f :: w, h => by
    rcases List.mem_cons.1 h with rfl | h
    · rw [tr]; omega
    · have := tr_mem θ h; rw [tr]; omega
theorem tl_len (θ : Int → Ty) : ∀ (w : List Eq2), w.length ≤ tl θ w
  | [] => Nat.zero_le _
  | e :: w => by have := tl_len θ w; have := ap_pos θ e.l; rw [tl, List.length_cons]; omega
structure WI (eqs : List Eq2) (V : List Int) (S : List Bd) (w : List Eq2) : Prop where
  ri : RI S
  wf : WfW w
  sm : ∀ b ∈ S, b.t.size ≤ 20000
  gl : ∀ θ, Fx θ S → tl θ w ≤ tl θ eqs
  gr : ∀ θ, Fx θ S → tr θ w ≤ tr θ eqs
  vw : VOkW V (lkS S) w
  vs : ∀ b ∈ S, b.v ∈ V
theorem WI.step {eqs : List Eq2} {V : List Int} {S : List Bd} {e : Eq2} {w : List Eq2} {q : List Bd × List Eq2} (h : WI eqs V S (e :: w)) (hs : rstep S e w = some q) : WI eqs V q.1 q.2 := by
  obtain ⟨wl, wr⟩ := h.wf e (.head _)
  have hww : WfW w := fun x hx => h.wf x (.tail _ hx)
  have hvw : VOkW V (lkS S) w := fun x hx => h.vw x (.tail _ hx)
  have wa := h.ri.wfa wl
  have wb := h.ri.wfa wr
  have hrs : rstepA S (ap (lkS S) e.l) (ap (lkS S) e.r) w = some q := by rw [← hs]; unfold rstep; rw [sub_ap S _ wl, sub_ap S _ wr]
  have htl : ∀ θ, Fx θ S → Go.Abs.tl θ w ≤ Go.Abs.tl θ eqs := fun θ hf => by have := h.gl θ hf; rw [Go.Abs.tl] at this; omega
  have htr : ∀ θ, Fx θ S → Go.Abs.tr θ w ≤ Go.Abs.tr θ eqs := fun θ hf => by have := h.gr θ hf; rw [Go.Abs.tr] at this; omega
  have hvl : ∀ y, occ y (ap (lkS S) e.l) = true → y ∈ V ∧ ∀ b ∈ S, b.v ≠ y := fun y hy => ⟨h.vw e (.head _) y (.inl hy), h.ri.gone wl hy⟩
  have hvr : ∀ y, occ y (ap (lkS S) e.r) = true → y ∈ V ∧ ∀ b ∈ S, b.v ≠ y := fun y hy => ⟨h.vw e (.head _) y (.inr hy), h.ri.gone wr hy⟩
  rcases rstepA_inv wa wb hrs with rfl | ⟨x, T, hx, hk, ho, rfl, hz⟩ | ⟨k1, k2, kl, rfl⟩
  · exact ⟨h.ri, hww, h.sm, htl, htr, hvw, h.vs⟩
  · obtain ⟨wx, wT, hyx, hyV⟩ : wfT x = true ∧ wfT T = true ∧ (∀ y, occ y x = true → y ∈ V ∧ ∀ b ∈ S, b.v ≠ y) ∧ ∀ y, occ y T = true → y ∈ V ∧ ∀ b ∈ S, b.v ≠ y := by
      rcases hx with ⟨rfl, rfl⟩ | ⟨rfl, rfl⟩
      · exact ⟨wa, wb, hvl, hvr⟩
      · exact ⟨wb, wa, hvr, hvl⟩
    have ox : occ x.id x = true := (occ_var wx hk).2 rfl
    have nw : Nw S x.id T := ⟨wf_pos wx hk, (hyx _ ox).2, wT, ho, fun b hb => by
      rw [Bool.eq_false_iff]; intro q; exact (hyV _ q).2 b hb rfl⟩
    obtain ⟨a1, a2, a3⟩ := h.ri.add nw
    have hfx : ∀ θ, Fx θ (addB x.id T S) → Fx θ S := fun θ hf y hy => by
      have hv := hf x.id nw.pos
      rw [a2, lkS_none nw.new, ap_vr] at hv
      unfold up at hv
      rw [if_pos rfl] at hv
      have := hf y hy
      rw [a2, ap_ap] at this
      rw [← this]
      refine ap_congr _ fun z hz => ?_
      unfold up
      by_cases e : z = x.id
      · rw [if_pos e, hv, e]
      · rw [if_neg e, ap_vr]
    refine ⟨a1, hww, fun b hb => ?_, fun θ hf => htl θ (hfx θ hf), fun θ hf => htr θ (hfx θ hf), fun f hf y hy => ?_, fun b hb => ?_⟩
    · rcases hz with hz | hz
      · have eT := wf_vr wT hz
        rcases (addB_mem _ _ b S).1 hb with rfl | ⟨c, hc, rfl⟩
        · rw [eT, vr_size]; omega
        · rw [sb1_ap (h.ri.wf c hc)]
          have := size_ap_le (θ := up x.id T) (m := 1) (Nat.le_refl _) (fun y _ => by
            unfold up; split
            · rw [eT, vr_size]; exact Nat.le_refl _
            · rw [vr_size]; exact Nat.le_refl _) c.t (h.ri.wf c hc)
          have := h.sm c hc
          show (ap (up x.id T) c.t).size ≤ 20000
          omega
      · rw [List.any_eq_false] at hz
        have := hz b hb
        unfold over at this
        simp only [decide_eq_true_eq] at this
        omega
    · have key : ∀ t, wfT t = true → (∀ z, occ z (ap (lkS S) t) = true → z ∈ V) → occ y (ap (lkS (addB x.id T S)) t) = true → y ∈ V := fun t ht hz hy => by
        rw [ap_congr (r := fun z => ap (up x.id T) (lkS S z)) t fun z _ => a2 z, ← ap_ap] at hy
        obtain ⟨z, h1, h2⟩ := (occ_ap _ (h.ri.wfa ht)).1 hy
        unfold up at h2
        split at h2
        · exact (hyV _ h2).1
        · have := occ_vr.1 h2; subst this; exact hz z h1
      rcases hy with hy | hy
      · exact key f.l (hww f hf).1 (fun z hz => hvw f hf z (.inl hz)) hy
      · exact key f.r (hww f hf).2 (fun z hz => hvw f hf z (.inr hz)) hy
    · rcases (addB_mem _ _ b S).1 hb with rfl | ⟨c, hc, rfl⟩
      · exact (hyx _ ox).1
      · exact h.vs c hc
  · have ida : ap (lkS S) (ap (lkS S) e.l) = ap (lkS S) e.l := h.ri.idem wl
    have idb : ap (lkS S) (ap (lkS S) e.r) = ap (lkS S) e.r := h.ri.idem wr
    refine ⟨h.ri, fun f hf => ?_, h.sm, fun θ hf => ?_, fun θ hf => ?_, fun f hf y hy => ?_, h.vs⟩
    · rcases List.mem_append.1 hf with hf | hf
      · exact zip_wf (fun u h => wf_arg wa h) (fun u h => wf_arg wb h) f hf
      · exact hww f hf
    · have := h.gl θ hf
      rw [Go.Abs.tl, ← hf.ap wl, size_node θ (t := ap (lkS S) e.l) k1] at this
      show Go.Abs.tl θ (zipE _ _ ++ w) ≤ _
      rw [tl_app, tl_zip _ _ _ kl]; omega
    · have := h.gr θ hf
      rw [Go.Abs.tr, ← hf.ap wr, size_node θ (t := ap (lkS S) e.r) k2] at this
      show Go.Abs.tr θ (zipE _ _ ++ w) ≤ _
      rw [tr_app, tr_zip _ _ _ kl]; omega
    · rcases List.mem_append.1 hf with hf | hf
      · obtain ⟨fl, fr⟩ := zip_mem hf
        have up1 : ∀ {t u : Ty}, ap (lkS S) t = t → t.kind ≠ 1 → u ∈ t.args → occ y (ap (lkS S) u) = true → occ y t = true := fun {t u} hi hk hu hy => by
          have : occ y (ap (lkS S) t) = true := by
            rw [ap_n hk]
            exact (occ_arg (by exact hk)).2 ⟨_, List.mem_map_of_mem hu, hy⟩
          rwa [hi] at this
        rcases hy with hy | hy
        · exact (hvl y (up1 ida k1 fl hy)).1
        · exact (hvr y (up1 idb k2 fr hy)).1
      · exact hvw f hf y hy
theorem nodup_le : ∀ (ks V : List Int), ks.Nodup → (∀ k ∈ ks, k ∈ V) → ks.length ≤ V.length
  | [], V, _, _ => Nat.zero_le _
  | k :: ks, V, hn, h => by
    rw [List.nodup_cons] at hn
    have hk := h k (.head _)
    have := nodup_le ks (V.erase k) hn.2 fun x hx => (List.mem_erase_of_ne (by rintro rfl; exact hn.1 hx)).2 (h x (.tail _ hx))
    rw [List.length_erase_of_mem hk] at this
    have : 0 < V.length := List.length_pos_of_mem hk
    simp only [List.length_cons]; omega
def vars0 (eqs : List Eq2) : List Int := eqs.flatMap fun e => afv e.l [] ++ afv e.r []
theorem vars0_len : ∀ (eqs : List Eq2), EGood eqs → (vars0 eqs).length ≤ eqs.length * 200
  | [], _ => by simp [vars0]
  | e :: eqs, h => by
    obtain ⟨⟨_, z1⟩, ⟨_, z2⟩⟩ := h e (.head _)
    have := vars0_len eqs fun x hx => h x (.tail _ hx)
    have h1 := (afv_len e.l []).2
    have h2 := (afv_len e.r []).2
    have e1 : vars0 (e :: eqs) = (afv e.l [] ++ afv e.r []) ++ vars0 eqs := rfl
    rw [e1, List.length_append, List.length_append, List.length_cons]
    simp only [List.length_nil] at h1 h2
    omega
theorem wi_nil {eqs : List Eq2} (h : EGood eqs) : WI eqs (vars0 eqs) [] eqs := by
  refine ⟨ri_nil, fun e he => ⟨(h e he).1.1, (h e he).2.1⟩, nofun, fun _ _ => Nat.le_refl _, fun _ _ => Nat.le_refl _, fun e he x hx => ?_, nofun⟩
  refine List.mem_flatMap.2 ⟨e, he, List.mem_append.2 ?_⟩
  have e1 : ∀ t, wfT t = true → ap (lkS []) t = t := fun t hw => ap_id t hw
  rw [e1 _ (h e he).1.1, e1 _ (h e he).2.1] at hx
  exact hx.imp (fun q => (mem_afv x _ []).2 (.inr q)) fun q => (mem_afv x _ []).2 (.inr q)
/-- The bounds that a walk wants. -/
structure WB2 (S : List Bd) (w : List Eq2) : Prop where
  sl : S.length ≤ 2000
  wl : w.length ≤ 20000000
  it : ∀ e ∈ w, (mapT (subG S) e.l).size ≤ 20000000 ∧ (mapT (subG S) e.r).size ≤ 20000000 ∧ e.l.size ≤ 20000000 ∧ e.r.size ≤ 20000000 ∧ wfT (mapT (subG S) e.l) = true ∧ wfT (mapT (subG S) e.r) = true
theorem WI.bounds {eqs : List Eq2} {S : List Bd} {w : List Eq2} (h : WI eqs (vars0 eqs) S w) (hg : EGood eqs) (hl : eqs.length ≤ 10) : WB2 S w := by
  have hid : Fx (lkS S) S := fun x hx => by
    have := h.ri.idem (t := vr x) (wf_vr' hx)
    rwa [ap_vr] at this
  have hs : ∀ x, 0 ≤ x → (lkS S x).size ≤ 20000 := fun x hx => by
    rcases h.ri.look x with ⟨b, hb, _, e⟩ | ⟨_, e⟩ <;> rw [e]
    · exact h.sm b hb
    · rw [vr_size]; omega
  have bl : ∀ es : List Eq2, (∀ e ∈ es, e ∈ eqs) → tl (lkS S) es ≤ es.length * 2000000 ∧ tr (lkS S) es ≤ es.length * 2000000 := fun es => by
    induction es with
    | nil => intro _; simp [tl, tr]
    | cons e es ih =>
      intro hm
      obtain ⟨i1, i2⟩ := ih fun x hx => hm x (.tail _ hx)
      obtain ⟨⟨w1, z1⟩, ⟨w2, z2⟩⟩ := hg e (hm e (.head _))
      have h1 := size_ap_le (m := 20000) (by decide) hs e.l w1
      have h2 := size_ap_le (m := 20000) (by decide) hs e.r w2
      have h3 := Nat.mul_le_mul_right 20000 z1
      have h4 := Nat.mul_le_mul_right 20000 z2
      rw [tl, tr, List.length_cons]
      omega
  have b0 := bl eqs fun _ h => h
  have t1 := h.gl _ hid
  have t2 := h.gr _ hid
  refine ⟨?_, ?_, fun e he => ?_⟩
  · have hn : (S.map (·.v)).Nodup := by
      have := h.ri.srt
      refine (List.pairwise_map.2 (this.imp fun hlt => ?_))
      intro q; omega
    have := nodup_le _ (vars0 eqs) hn fun k hk => by
      obtain ⟨b, hb, rfl⟩ := List.mem_map.1 hk
      exact h.vs b hb
    have := vars0_len eqs hg
    rw [List.length_map] at *
    omega
  · have := tl_len (lkS S) w; omega
  · obtain ⟨wl, wr⟩ := h.wf e he
    have e1 : mapT (subG S) e.l = ap (lkS S) e.l := sub_ap S _ wl
    have e2 : mapT (subG S) e.r = ap (lkS S) e.r := sub_ap S _ wr
    have h1 := tl_mem (lkS S) he
    have h2 := tr_mem (lkS S) he
    have h3 := size_le_ap (θ := lkS S) _ wl
    have h4 := size_le_ap (θ := lkS S) _ wr
    rw [e1, e2]
    exact ⟨by omega, by omega, by omega, by omega, h.ri.wfa wl, h.ri.wfa wr⟩
/-- A binding's new types stay within memory. -/
theorem addB_size {S : List Bd} {v : Int} {T : Ty} (hri : RI S) (hs : ∀ b ∈ S, b.t.size ≤ 20000) (hT : T.size ≤ 20000000) : ∀ b ∈ addB v T S, b.t.size ≤ 400000000000 := fun b hb => by
  rcases (addB_mem v T b S).1 hb with rfl | ⟨c, hc, rfl⟩
  · show T.size ≤ _; omega
  · rw [sb1_ap (hri.wf c hc)]
    have := size_ap_le (θ := up v T) (m := 20000000) (by decide) (fun y _ => by
      unfold up; split
      · exact hT
      · rw [vr_size]; decide) c.t (hri.wf c hc)
    have h2 := Nat.mul_le_mul_right 20000000 (hs c hc)
    show (ap (up v T) c.t).size ≤ _
    omega
theorem addB_len (v : Int) (T : Ty) : ∀ S : List Bd, (addB v T S).length = S.length + 1
  | [] => rfl
  | b :: S => by unfold addB; split <;> simp [addB_len v T S]
end Go.Abs
namespace Go.Abs

/-! A loop over a state whose slices may have a tail: what is known of the room is forgotten at the start and at each round's end. -/
def wkA (T : Slots) : Slots := fun t => (T t).drop1

section
variable {P : Program} {N nb : Nat} {Q : Post}

theorem awp_wk {c : Code} {T : Slots} {H : Heap} (h : AWP P N nb c Q (wkA T) H) : AWP P N nb c Q T H := by
  intro E a ho hH ht
  exact h E a ho hH ⟨ht.size, ht.defers, fun i hi => (ht.rel i hi).drop1⟩

/-- A post that holds of the slots without tails. -/
theorem AWP.monoK {c : Code} {T : Slots} {H : Heap} {Q Q' : Post} (h : AWP P N nb c Q T H) (hq : ∀ e T H, Q e T H → Q' e (wkA T) H ∨ Q' e T H) : AWP P N nb c Q' T H := by
  intro E a ho hH ht
  refine wp_mono (h E a ho hH ht) ?_
  rintro e a' w' ⟨E', T', h1, h2, h3, h4, h5⟩
  rcases hq _ _ _ h5 with k | k
  · exact ⟨E', wkA T', h1, h2, h3, ⟨h4.size, h4.defers, fun i hi => (h4.rel i hi).drop1⟩, k⟩
  · exact ⟨E', T', h1, h2, h3, h4, k⟩

/-- A loop over a state, the tails forgotten. -/
theorem awp_loopW {c : Code} {T : Slots} {H : Heap} {σ : Type} (rep : σ → List (Nat × PV)) (H0 : Heap) (hp : σ → Heap) (m : σ → Nat) (good : σ → Prop) (s0 : σ) (L0 : Heap) (hT : Fits (wkA T) (rep s0)) (hH : H = H0 ++ hp s0 ++ L0) (hg : good s0) (hlen : ∀ s, good s → nb ≤ (H0 ++ hp s).length)
    (bel : ∀ s, good s → HBel (H0 ++ hp s).length (H0 ++ hp s) ∧ BelL (H0 ++ hp s).length (rep s))
    (round : ∀ s, good s → AWP P N nb c (thenQ (fun T' H' => ∃ s' L, m s' < m s ∧ Fits (wkA T') (rep s') ∧ H' = H0 ++ hp s' ++ L ∧ good s') Q) (mkS (rep s)) (H0 ++ hp s)) : AWP P N nb (.loop c) Q T H := by
  refine awp_wk (awp_loopS rep H0 hp m good s0 L0 hT hH hg hlen bel fun s hs => (round s hs).monoK fun e T' H' he => ?_)
  cases e with
  | normal => exact .inl he
  | _ => exact .inr he
end
end Go.Abs
