/- Part 7 of a proof of the law UnifyMostGeneral: Go data as trees, the walks of the functions that the law reaches, the plain laws. -/
import Derived.Test.YtgjpdplbjbgebaaGFUnifyMostGeneral
import Derived.Shelf.Small.Wraps
import Derived.Shelf.SlSortCmp.WholeK
import Derived.Shelf.SlSortCmp.NoneTotal
import Derived.Ground.SlsfProg
import Derived.Ground.Names2Prog
import Derived.Test.YtgjpdplbjbgebaaProg
set_option linter.unusedVariables false
set_option linter.unusedSimpArgs false
namespace Go.Proofs
open Go.Shelf
def Try.lays122_ren : Go.Shelf.Ren := ⟨fun | 122 => 38 | 215 => 66 | n => n, fun | 3 => 3 | 4 => 4 | n => n, fun | n => n⟩
theorem Try.lays122 : Go.Proofs.Lays.n122 Try.prog Try.lays122_ren := {
  mixed := by kernel_rfl
  f122 := Try.func38.trans (congrArg some (by kernel_rfl))
  f215 := Try.func66.trans (congrArg some (by kernel_rfl))
  t3 := Try.underlying3
  a3 := Try.isAgg3
  z3 := Try.sizeOf3
  v3 := Try.zeroValue3
  t4 := Try.underlying4
  a4 := Try.isAgg4
  z4 := Try.sizeOf4
  v4 := Try.zeroValue4 }
open Go.RowKit in
/-- cmp.Compare at int: "Compare returns -1 if x is less than y, 0 if x equals y, +1 if x is greater than y.": IT RETURNS 'Lib.compareInt x y'; the world is as it was. (LAID: no walk: one application.) -/
theorem Try.cmp_Compare_int (x y : Int) (w : World) :
    Calls Try.prog 38 #[.int .i64 x, .int .i64 y] w fun e w' => e = .returned (.int .i64 (Lib.compareInt x y)) ∧ w' = w := Any.cmp_Compare_int Try.lays122 x y w
def Try.laysSort36_ren : Go.Shelf.Ren := ⟨fun | 6 => 36 | 15 => 65 | 14 => 64 | 28 => 82 | 29 => 83 | 20 => 74 | 21 => 75 | 22 => 76 | 23 => 77 | 24 => 78 | 25 => 79 | 26 => 80 | 27 => 81 | 46 => 87 | 47 => 88 | 48 => 89 | 49 => 90 | 50 => 91 | 57 => 93 | n => n, fun | 22 => 24 | 24 => 42 | 25 => 65 | 3 => 3 | 39 => 85 | 0 => 0 | 53 => 101 | 55 => 103 | 4 => 4 | 46 => 94 | 45 => 93 | 50 => 98 | 5 => 5 | 9 => 9 | 66 => 108 | 70 => 112 | 76 => 114 | 77 => 66 | n => n, fun | n => n⟩
theorem Try.laysSort36 : Go.Proofs.SlLaysF0.n6 Try.prog Try.laysSort36_ren := {
  mixed := by kernel_rfl
  f6 := ⟨Try.f36.name, by decide, Try.func36.trans (congrArg some (by kernel_rfl))⟩
  f14 := ⟨Try.f64.name, by decide, Try.func64.trans (congrArg some (by kernel_rfl))⟩
  f15 := Try.func65.trans (congrArg some (by kernel_rfl))
  f20 := ⟨Try.f74.name, by decide, Try.func74.trans (congrArg some (by kernel_rfl))⟩
  f21 := ⟨Try.f75.name, by decide, Try.func75.trans (congrArg some (by kernel_rfl))⟩
  f22 := ⟨Try.f76.name, by decide, Try.func76.trans (congrArg some (by kernel_rfl))⟩
  f23 := ⟨Try.f77.name, by decide, Try.func77.trans (congrArg some (by kernel_rfl))⟩
  f24 := ⟨Try.f78.name, by decide, Try.func78.trans (congrArg some (by kernel_rfl))⟩
  f25 := ⟨Try.f79.name, by decide, Try.func79.trans (congrArg some (by kernel_rfl))⟩
  f26 := ⟨Try.f80.name, by decide, Try.func80.trans (congrArg some (by kernel_rfl))⟩
  f27 := ⟨Try.f81.name, by decide, Try.func81.trans (congrArg some (by kernel_rfl))⟩
  f28 := Try.func82.trans (congrArg some (by kernel_rfl))
  f29 := Try.func83.trans (congrArg some (by kernel_rfl))
  f46 := ⟨Try.f87.name, by decide, Try.func87.trans (congrArg some (by kernel_rfl))⟩
  f47 := Try.func88.trans (congrArg some (by kernel_rfl))
  f48 := Try.func89.trans (congrArg some (by kernel_rfl))
  f49 := ⟨Try.f90.name, by decide, Try.func90.trans (congrArg some (by kernel_rfl))⟩
  f50 := ⟨Try.f91.name, by decide, Try.func91.trans (congrArg some (by kernel_rfl))⟩
  f57 := ⟨Try.f93.name, by decide, Try.func93.trans (congrArg some (by kernel_rfl))⟩
  t0 := Try.underlying0
  a0 := Try.isAgg0
  z0 := Try.sizeOf0
  v0 := Try.zeroValue0
  t3 := Try.underlying3
  a3 := Try.isAgg3
  z3 := Try.sizeOf3
  v3 := Try.zeroValue3
  t4 := Try.underlying4
  a4 := Try.isAgg4
  z4 := Try.sizeOf4
  v4 := Try.zeroValue4
  t5 := Try.underlying5
  a5 := Try.isAgg5
  z5 := Try.sizeOf5
  v5 := Try.zeroValue5
  t9 := Try.underlying9
  a9 := Try.isAgg9
  z9 := Try.sizeOf9
  v9 := Try.zeroValue9
  t22 := Try.underlying24
  a22 := Try.isAgg24
  z22 := Try.sizeOf24
  v22 := Try.zeroValue24
  t25 := Try.underlying65
  a25 := Try.isAgg65
  z25 := Try.sizeOf65
  v25 := Try.zeroValue65
  t39 := Try.underlying85
  a39 := Try.isAgg85
  z39 := Try.sizeOf85
  v39 := Try.zeroValue85
  t45 := Try.underlying93
  a45 := Try.isAgg93
  z45 := Try.sizeOf93
  v45 := Try.zeroValue93
  t46 := Try.underlying94
  a46 := Try.isAgg94
  z46 := Try.sizeOf94
  v46 := Try.zeroValue94
  t50 := Try.underlying98
  a50 := Try.isAgg98
  z50 := Try.sizeOf98
  v50 := Try.zeroValue98
  t53 := Try.underlying101
  a53 := Try.isAgg101
  z53 := Try.sizeOf101
  v53 := Try.zeroValue101
  t55 := Try.underlying103
  a55 := Try.isAgg103
  z55 := Try.sizeOf103
  v55 := Try.zeroValue103
  t66 := Try.underlying108
  a66 := Try.isAgg108
  z66 := Try.sizeOf108
  v66 := Try.zeroValue108
  t70 := Try.underlying112
  a70 := Try.isAgg112
  z70 := Try.sizeOf112
  v70 := Try.zeroValue112
  t76 := Try.underlying114
  a76 := Try.isAgg114
  z76 := Try.sizeOf114
  v76 := Try.zeroValue114
  t77 := Try.underlying66
  a77 := Try.isAgg66
  z77 := Try.sizeOf66
  v77 := Try.zeroValue66 }
end Go.Proofs
namespace Go.Abs
open Go.Proofs Go.Shelf Go.RowKit Go.Lib Go.Sort
set_option maxHeartbeats 1000000 in
/-- The closure by which Unify sorts: two blocks are laid. -/
theorem closure37 (x y : XB) (W : World) : Calls Try.prog 37 #[.agg #[.int .i64 x.1, .int .i64 x.2.1, .int .i64 x.2.2.1, .slice x.2.2.2.1 x.2.2.2.2.1 x.2.2.2.2.2], .agg #[.int .i64 y.1, .int .i64 y.2.1, .int .i64 y.2.2.1, .slice y.2.2.2.1 y.2.2.2.2.1 y.2.2.2.2.2]] W fun e w' => e = .returned (.int .i64 (Lib.compareInt x.1 y.1)) ∧ ∃ q os', w' = grow (W.drewN q) os' := by
  have hcon := fun W' => Try.cmp_Compare_int x.1 y.1 W'
  generalize Lib.compareInt x.1 y.1 = r at hcon ⊢
  go_enter Try.func37, Try.ntmps37
  go_wp2_with (go_at_call 38; refine (hcon _).mono ?_; rintro e w' ⟨rfl, rfl⟩)
  go_ret
  exact ⟨rfl, 0, _, by rw [alloc_eq_grow, alloc_eq_grow, grow_grow]; rfl⟩
theorem sortsX : SortsX Try.prog 36 37 := fun blk cap d w hH hblk hsz =>
  AnyQ.slices_SortFunc Try.laysSort36 4 Try.isAgg42 Try.sizeOf42 encX (fun _ => rfl) (fun x v hv => by simp [encX] at hv; rcases hv with rfl | rfl | rfl | rfl <;> rfl) (fun x y => Lib.compareInt x.1 y.1) swoX 37 #[] blk 0 cap d w
    (enters_of Try.func37 (by kernel_rfl) rfl) (fun _ _ _ _ x y => closure37 x y _) hH hblk hsz
theorem sortsNil : SortsNil Try.prog 36 37 := fun ad cap w => AnyF.slices_SortFunc_none { Try.laysSort36 with } ad cap _ w
end Go.Abs
namespace Go.Abs
open Go.Proofs
def bdOf (s : Int → Ty) (e : Int × Ty) : Bd := ⟨e.1, s e.1⟩
/-- What Unify answers where all sides are valid. -/
def ansU (c : Bool) (B : Bs) (s : Int → Ty) : List Bd × Bool := if (c && B.all fun e => fits s e.2) = true then (sortB (B.map (bdOf s)), true) else ([], false)
theorem lk_of_mem {B : Bs} (h : BOk B) {e : Int × Ty} (he : e ∈ B) : lk B e.1 = some e.2 := lk_mem h.nd e he
theorem fuel_all {B : Bs} {s : Int → Ty} (h : Inv B s) (hB : BOk B) (hD : ∀ t, wfT t = true → t.size ≤ 100 → dep (ap s t) ≤ 4611686018427387904) : ∀ (L : Bs), (∀ e ∈ L, e ∈ B) → ∃ n, ∀ m, n ≤ m → ∀ e ∈ L, withinF m B e.2 = some (fits s e.2) ∧ okR m B e.2 ∧ rsvF m B e.2 = s e.1
  | [], _ => ⟨0, fun m _ e he => by cases he⟩
  | e :: L, hL => by
    obtain ⟨n1, h1⟩ := fuel_all h hB hD L fun x hx => hL x (.tail _ hx)
    have hl := lk_of_mem hB (hL e (.head _))
    obtain ⟨n2, h2⟩ := withinF_spec h hB hD (h.wf _ _ hl) (hB.lk hl)
    obtain ⟨n3, h3⟩ := rsvF_ok h e.2 (h.wf _ _ hl)
    refine ⟨n1 + n2 + n3, fun m hm x hx => ?_⟩
    rcases List.mem_cons.1 hx with rfl | hx
    · obtain ⟨g1, g2⟩ := h3 m (by omega)
      exact ⟨h2 m (by omega), g1, by rw [g2, ← h.bd _ _ hl]⟩
    · exact h1 m (by omega) x hx
theorem unify_c {eqs : List Eq2} (hw : ∀ e ∈ eqs, e.l.W ∧ e.r.W) (hlen : eqs.length ≤ maxLen) :
    ((decide (((eqs.length : Nat) : Int) > 100) || eqs.any bad) = true → PC Try.prog 9 [.slice (eqs.map Eq2.enc) .none] (.tup [.slice [] .none, .bool false])) ∧
    ((decide (((eqs.length : Nat) : Int) > 100) || eqs.any bad) = false → EGood eqs ∧ ∃ c B s, SSp eqs [] c B s ∧ PC Try.prog 9 [.slice (eqs.map Eq2.enc) .none] (.tup [.slice ((ansU c B s).1.map Bd.enc) .none, .bool (ansU c B s).2])) := by
  constructor
  · intro hb
    have := unify_k (n := 0) sortsX sortsNil hw hlen (fun q => by rw [hb] at q; cases q)
    have e : uniR 0 eqs = ([], false) := by unfold uniR; rw [if_pos hb]
    rw [e] at this
    exact this
  · intro hb
    rw [Bool.or_eq_false_iff] at hb
    have hl : eqs.length ≤ 100 := by have := of_decide_eq_false hb.1; omega
    have hg : EGood eqs := fun e he => good_of (by
      have := hb.2
      rw [List.any_eq_false] at this
      simpa using this e he)
    refine ⟨hg, ?_⟩
    obtain ⟨n1, ⟨c, B⟩, h1⟩ := solve_ex eqs hg [] vr inv_nil bok_nil
    obtain ⟨s, hs⟩ := solve_spec n1 eqs hg [] vr c B inv_nil bok_nil h1
    refine ⟨c, B, s, hs, ?_⟩
    cases c with
    | false =>
      have := unify_k (n := n1) sortsX sortsNil hw hlen (fun _ => ⟨false, B, h1, nofun⟩)
      have e : uniR n1 eqs = ansU false B s := by
        unfold uniR
        rw [if_neg (by rw [hb.1, hb.2]; simp), h1]; rfl
      rw [e] at this
      exact this
    | true =>
      have hln := hs.len rfl
      have hD : ∀ t, wfT t = true → t.size ≤ 100 → dep (ap s t) ≤ 4611686018427387904 := fun t ht hz => by
        have d1 := dep_bound hs.inv t ht
        have d2 := wsum_le (P := mle s t) B hs.ok.sz
        simp only [List.length_nil, Nat.zero_add] at hln
        omega
      obtain ⟨n2, h2⟩ := fuel_all hs.inv hs.ok hD B fun _ h => h
      have h1' := solveF_mono eqs h1 (Nat.le_max_left n1 n2)
      have h2' := h2 (max n1 n2) (Nat.le_max_right n1 n2)
      have ug : UGood (max n1 n2) B := ⟨hs.ok.nd, by simp only [List.length_nil, Nat.zero_add] at hln; omega, ?_, fun e he => ⟨_, (h2' e he).1, fun _ => (h2' e he).2.1⟩⟩
      · have := unify_k (n := max n1 n2) sortsX sortsNil hw hlen (fun _ => ⟨true, B, h1', fun _ => ug⟩)
        have e : uniR (max n1 n2) eqs = ansU true B s := by
          unfold uniR ansU
          rw [if_neg (by rw [hb.1, hb.2]; simp), h1']
          have e1 : B.all (inB (max n1 n2) B) = B.all fun e => fits s e.2 := by
            rw [Bool.eq_iff_iff, List.all_eq_true, List.all_eq_true]
            refine forall_congr' fun e => forall_congr' fun he => ?_
            unfold inB; rw [(h2' e he).1]; rfl
          have e2 : B.map (resB (max n1 n2) B) = B.map (bdOf s) := List.map_congr_left fun e he => by
            unfold resB bdOf; rw [(h2' e he).2.2]
          simp only [e1, e2, Bool.true_and]
        rw [e] at this
        exact this
      · -- sides and bindings fit into memory
        intro v t hl
        exact small_W t (hs.ok.lk hl)
where
  small_W : ∀ t : Ty, t.size ≤ 100 → t.W
    | .mk k i us, h => by
      refine .mk ?_ fun u hu => small_W u ?_
      · have : ∀ us : List Ty, us.length ≤ Ty.sizes us := fun us => by
          induction us with
          | nil => simp
          | cons u us ih => have := size_ge u; simp only [Ty.sizes, List.length_cons]; omega
        have h2 := this us
        rw [Ty.size] at h
        omega
      · have := Ty.size_arg (t := .mk k i us) hu; omega
end Go.Abs
namespace Go.Abs
open Go.Proofs
/-! What a list of bindings does to a type, and what is known of Unify's answer. -/
def lkS (ss : List Bd) (x : Int) : Ty := ((ss.find? fun b => decide (b.v = x)).map (·.t)).getD (vr x)
theorem idxI_find (ss : List Bd) (x : Int) : (∃ b, ss.find? (fun b => decide (b.v = x)) = some b ∧ ∀ u : Ty, u.kind = 1 → u.id = x → subG ss u = (b.t, true)) ∨ (ss.find? (fun b => decide (b.v = x)) = none ∧ ∀ u : Ty, u.kind = 1 → u.id = x → subG ss u = (u, false)) := by
  cases hf : ss.find? (fun b => decide (b.v = x)) with
  | none =>
    refine .inr ⟨rfl, fun u hk hu => sub_miss fun _ => ?_⟩
    rw [List.any_eq_false]
    intro b hb
    rw [hu]
    exact List.find?_eq_none.1 hf b hb
  | some b =>
    refine .inl ⟨b, rfl, fun u hk hu => ?_⟩
    obtain ⟨h1, i, hi, h2, h3⟩ := List.find?_eq_some_iff_getElem.1 hf
    subst h2
    refine sub_hit hk hi (by rw [hu]; exact of_decide_eq_true h1) ?_
    rw [List.any_eq_false]
    intro c hc
    obtain ⟨j, hj, rfl⟩ := List.mem_iff_getElem.1 hc
    rw [List.length_take] at hj
    rw [List.getElem_take, hu]
    have := h3 j (by omega)
    simpa using this
theorem sub_ap (ss : List Bd) : ∀ t, wfT t = true → mapT (subG ss) t = ap (lkS ss) t := fun t => by
  induction t using Ty.ind with
  | h t ih =>
    intro hw
    by_cases hk : t.kind = 1
    · rw [ap_v hk, mapT_eq]
      rcases idxI_find ss t.id with ⟨b, h1, h2⟩ | ⟨h1, h2⟩
      · rw [h2 t hk rfl]; simp only [if_true]; unfold lkS; rw [h1]; rfl
      · rw [h2 t hk rfl]
        simp only [Bool.false_eq_true, if_false]
        unfold lkS; rw [h1]
        have e := wf_vr hw hk
        rw [e]; rfl
    · have hm : subG ss t = (t, false) := sub_miss fun h => absurd h hk
      rw [ap_n hk, mapT_eq, hm]
      simp only [Bool.false_eq_true, if_false]
      congr 1
      exact List.map_congr_left fun u hu => ih u hu (wf_arg hw hu)
theorem lkS_mem {ss : List Bd} {x : Int} {t : Ty} (h1 : ∀ b ∈ ss, b.v = x → b.t = t) (h2 : ∃ b ∈ ss, b.v = x) : lkS ss x = t := by
  unfold lkS
  cases hf : ss.find? (fun b => decide (b.v = x)) with
  | none =>
    obtain ⟨b, hb, he⟩ := h2
    have := List.find?_eq_none.1 hf b hb
    simp [he] at this
  | some b =>
    have := List.find?_some hf
    exact h1 b (List.mem_of_find?_eq_some hf) (of_decide_eq_true this)
theorem lkS_none {ss : List Bd} {x : Int} (h : ∀ b ∈ ss, b.v ≠ x) : lkS ss x = vr x := by
  unfold lkS
  rw [List.find?_eq_none.2 fun b hb => by simpa using h b hb]; rfl
theorem lk_none_iff {α : Type} : ∀ {B : List (Int × α)} {v : Int}, lk B v = none ↔ ∀ e ∈ B, e.1 ≠ v
  | [], v => by simp [lk]
  | e :: B, v => by
    simp only [lk]
    by_cases h : e.1 = v
    · rw [if_pos h]; constructor
      · intro q; cases q
      · intro q; exact absurd h (q e (.head _))
    · rw [if_neg h, lk_none_iff]
      constructor
      · intro q x hx
        rcases List.mem_cons.1 hx with rfl | hx
        · exact h
        · exact q x hx
      · intro q x hx; exact q x (.tail _ hx)
/-- The answer's list of bindings, looked up, is the solution. -/
theorem ans_lk {B : Bs} {s : Int → Ty} (h : Inv B s) (v : Int) : lkS (sortB (B.map (bdOf s))) v = s v := by
  cases hl : lk B v with
  | none =>
    rw [h.un _ hl]
    refine lkS_none fun b hb => ?_
    have := (sortB_perm _).mem_iff.1 hb
    obtain ⟨e, he, rfl⟩ := List.mem_map.1 this
    exact lk_none_iff.1 hl e he
  | some t =>
    refine lkS_mem (fun b hb hv => ?_) ?_
    · have := (sortB_perm _).mem_iff.1 hb
      obtain ⟨e, he, rfl⟩ := List.mem_map.1 this
      have hv : e.1 = v := hv
      show s e.1 = s v
      rw [hv]
    · have : ¬ ∀ e ∈ B, e.1 ≠ v := fun q => by rw [lk_none_iff.2 q] at hl; cases hl
      simp only [Classical.not_forall] at this
      obtain ⟨e, he, hne⟩ := this
      exact ⟨bdOf s e, (sortB_perm _).mem_iff.2 (List.mem_map_of_mem he), by simpa [bdOf] using hne⟩
theorem ans_sub {B : Bs} {s : Int → Ty} (h : Inv B s) {t : Ty} (hw : wfT t = true) : mapT (subG (sortB (B.map (bdOf s)))) t = ap s t := by
  rw [sub_ap _ t hw]
  exact ap_congr t fun x _ => ans_lk h x
theorem small_W : ∀ t : Ty, t.size ≤ 100 → t.W
  | .mk k i us, h => by
    refine .mk ?_ fun u hu => small_W u ?_
    · have : ∀ us : List Ty, us.length ≤ Ty.sizes us := fun us => by
        induction us with
        | nil => simp
        | cons u us ih => have := size_ge u; simp only [Ty.sizes, List.length_cons]; omega
      have h2 := this us
      rw [Ty.size] at h
      omega
    · have := Ty.size_arg (t := .mk k i us) hu; omega
/-- What is known of an answer. -/
structure Uni (eqs : List Eq2) (R : List Bd) (ok : Bool) : Prop where
  len : R.length ≤ 10000000
  w : ∀ b ∈ R, b.t.W
  no : ok = false → R = []
  badly : (decide (((eqs.length : Nat) : Int) > 100) || eqs.any bad) = true → ok = false
  good : (decide (((eqs.length : Nat) : Int) > 100) || eqs.any bad) = false → EGood eqs ∧ ∃ c B s, SSp eqs [] c B s ∧ ok = (c && B.all fun e => fits s e.2) ∧ (ok = true → R = sortB (B.map (bdOf s)) ∧ c = true ∧ ∀ e ∈ B, (s e.1).size ≤ 100 ∧ dep (s e.1) ≤ 12)
theorem Uni.yes {eqs : List Eq2} {R : List Bd} (h : Uni eqs R true) : EGood eqs ∧ ∃ B s, SSp eqs [] true B s ∧ R = sortB (B.map (bdOf s)) ∧ ∀ e ∈ B, (s e.1).size ≤ 100 ∧ dep (s e.1) ≤ 12 := by
  cases hb : (decide (((eqs.length : Nat) : Int) > 100) || eqs.any bad) with
  | true => have := h.badly hb; cases this
  | false =>
    obtain ⟨h1, c, B, s, h2, h3, h4⟩ := h.good hb
    obtain ⟨h5, rfl, h6⟩ := h4 rfl
    exact ⟨h1, B, s, h2, h5, h6⟩
theorem uni_c {eqs : List Eq2} (hw : ∀ e ∈ eqs, e.l.W ∧ e.r.W) (hlen : eqs.length ≤ maxLen) :
    ∃ R ok, PC Try.prog 9 [.slice (eqs.map Eq2.enc) .none] (.tup [.slice (R.map Bd.enc) .none, .bool ok]) ∧ Uni eqs R ok := by
  have hc := unify_c hw hlen
  cases hb : (decide (((eqs.length : Nat) : Int) > 100) || eqs.any bad) with
  | true => exact ⟨[], false, hc.1 hb, by simp, (by simp), fun _ => rfl, fun _ => rfl, (fun h => by rw [hb] at h; cases h)⟩
  | false =>
    obtain ⟨hg, c, B, s, h1, h2⟩ := hc.2 hb
    refine ⟨_, _, h2, ?_⟩
    have hl : eqs.length ≤ 100 := by
      rw [Bool.or_eq_false_iff] at hb
      have := of_decide_eq_false hb.1; omega
    unfold ansU
    by_cases hq : (c && B.all fun e => fits s e.2) = true
    · rw [if_pos hq]
      have hc1 : c = true := by rw [Bool.and_eq_true] at hq; exact hq.1
      have hf : ∀ e ∈ B, (s e.1).size ≤ 100 ∧ dep (s e.1) ≤ 12 := fun e he => by
        rw [Bool.and_eq_true, List.all_eq_true] at hq
        have := hq.2 e he
        unfold fits at this
        rw [Bool.and_eq_true, decide_eq_true_eq, decide_eq_true_eq] at this
        rw [h1.inv.bd _ _ (lk_of_mem h1.ok he)]
        exact ⟨by omega, this.2⟩
      refine ⟨?_, ?_, nofun, (fun h => by rw [hb] at h; cases h), fun _ => ⟨hg, c, B, s, h1, hq.symm, fun _ => ⟨rfl, hc1, hf⟩⟩⟩
      · rw [(sortB_perm _).length_eq, List.length_map]
        have := h1.len hc1
        simp only [List.length_nil, Nat.zero_add] at this
        omega
      · intro b hbm
        have := (sortB_perm _).mem_iff.1 hbm
        obtain ⟨e, he, rfl⟩ := List.mem_map.1 this
        exact small_W _ (hf e he).1
    · rw [if_neg hq]
      exact ⟨by simp, (by simp), fun _ => rfl, fun _ => rfl, fun _ => ⟨hg, c, B, s, h1, (by simpa using hq), nofun⟩⟩
/-- No error type inside. -/
def errT : Ty → Bool
  | .mk k _ us => decide (k = 0) || (us.map fun u => errT u).any fun b => b
theorem errT_eq (t : Ty) : errT t = (decide (t.kind = 0) || t.args.any errT) := by cases t; rw [errT, List.any_map]; rfl
theorem NE_of : ∀ t, errT t = false → NE t := fun t => by
  induction t using Ty.ind with
  | h t ih =>
    intro h
    rw [errT_eq, Bool.or_eq_false_iff, List.any_eq_false] at h
    have : All (fun u : Ty => u.kind ≠ 0) (.mk t.kind t.id t.args) := .mk (by simpa [Ty.kind] using of_decide_eq_false h.1) fun u hu => ih u hu (by simpa using h.2 u hu)
    rwa [mk_eta] at this
theorem errT_of : ∀ t, NE t → errT t = false := fun t => by
  induction t using Ty.ind with
  | h t ih =>
    intro h
    rw [errT_eq, Bool.or_eq_false_iff, List.any_eq_false]
    exact ⟨decide_eq_false h.at_, fun u hu => by simpa using ih u hu (h.arg hu)⟩
def errE (e : Eq2) : Bool := errT e.l || errT e.r
theorem ENE_of {eqs : List Eq2} (h : eqs.any errE = false) : ENE eqs := fun e he => by
  rw [List.any_eq_false] at h
  have := h e he
  unfold errE at this
  simp only [Bool.not_eq_true, Bool.or_eq_false_iff] at this
  exact ⟨NE_of _ this.1, NE_of _ this.2⟩
theorem neb_nil : NEB [] := nofun
/-- UnifySolvesEquations, in plain words. -/
theorem solves_plain {eqs : List Eq2} {R : List Bd} (h : Uni eqs R true) (hn : eqs.any errE = false) :
    (∀ e ∈ eqs, mapT (subG R) e.l = mapT (subG R) e.r) ∧ (∀ b ∈ R, mapT (subG R) b.t = b.t) ∧ R.Pairwise fun a b => a.v < b.v := by
  obtain ⟨hg, B, s, h1, rfl, h3⟩ := h.yes
  refine ⟨fun e he => ?_, fun b hb => ?_, ?_⟩
  · obtain ⟨⟨w1, _⟩, ⟨w2, _⟩⟩ := hg e he
    rw [ans_sub h1.inv w1, ans_sub h1.inv w2]
    exact h1.sol (ENE_of hn) neb_nil rfl e he
  · have := (sortB_perm _).mem_iff.1 hb
    obtain ⟨e, he, rfl⟩ := List.mem_map.1 this
    have hp := h1.inv.pos _ _ (lk_of_mem h1.ok he)
    show mapT _ (s e.1) = s e.1
    rw [ans_sub h1.inv (h1.inv.wfs _ hp)]
    have := h1.inv.idem (t := vr e.1) (wf_vr' hp)
    rwa [ap_vr] at this
  · refine lt_of_le_nodup (sortB_le _) ?_
    have : ((sortB (B.map (bdOf s))).map (·.v)).Perm (B.map (·.1)) := by
      have := (sortB_perm (B.map (bdOf s))).map (·.v)
      rwa [List.map_map] at this
    exact this.nodup_iff.2 h1.ok.nd
end Go.Abs
namespace Go.Abs
open Go.Proofs
/-! UnifyMonotone, UnifyMostGeneral and UnifyOrderIndependent, in plain words. -/
theorem size_le_ap {θ : Int → Ty} : ∀ t, wfT t = true → t.size ≤ (ap θ t).size := fun t => by
  induction t using Ty.ind with
  | h t ih =>
    intro hw
    by_cases hk : t.kind = 1
    · rw [wf_vr hw hk, vr_size]; exact ap_pos θ _
    · have e : t.size = 1 + Ty.sizes t.args := by cases t; simp [Ty.size, Ty.args]
      rw [size_node θ hk, e, zs]
      have : ∀ us : List Ty, (∀ u ∈ us, u.size ≤ (ap θ u).size) → Ty.sizes us ≤ Ty.sizes (us.map (ap θ)) := fun us => by
        induction us with
        | nil => intro _; simp [Ty.sizes]
        | cons u us ih =>
          intro h
          have h1 := h u (.head _)
          have h2 := ih fun x hx => h x (.tail _ hx)
          simp only [List.map_cons, Ty.sizes]; omega
      have := this t.args fun u hu => ih u hu (wf_arg hw hu)
      omega
theorem depL_mono : ∀ (xs ys : List Int) (m k : Int), xs.length = ys.length → (∀ p ∈ xs.zip ys, p.1 ≤ p.2) → m ≤ k → depL xs m ≤ depL ys k
  | [], [], m, k, _, _, h => h
  | a :: xs, b :: ys, m, k, hl, h, hm => by
    rw [depL_cons, depL_cons]
    have h1 := h (a, b) (.head _)
    exact depL_mono xs ys _ _ (by simpa using hl) (fun p hp => h p (.tail _ hp)) (by simp only at h1; omega)
  | [], _ :: _, _, _, hl, _, _ => by cases hl
  | _ :: _, [], _, _, hl, _, _ => by cases hl
theorem dep_le_ap {θ : Int → Ty} : ∀ t, wfT t = true → dep t ≤ dep (ap θ t) := fun t => by
  induction t using Ty.ind with
  | h t ih =>
    intro hw
    by_cases hk : t.kind = 1
    · rw [wf_vr hw hk]
      have e : dep (vr t.id) = 1 := by rw [dep_eq]; rfl
      rw [e]; exact (dep_bd _).1
    · rw [ap_n hk, dep_eq, dep_eq (.mk _ _ _)]
      refine depL_mono _ _ _ _ (by simp [Ty.args]) (fun p hp => ?_) (Int.le_refl _)
      obtain ⟨i, hi, rfl⟩ := List.mem_iff_getElem.1 hp
      simp only [List.length_zip, List.length_map, Ty.args] at hi
      simp only [List.getElem_zip, List.getElem_map, Ty.args]
      exact ih _ (List.getElem_mem _) (wf_arg hw (List.getElem_mem _))
theorem size_ap_le {θ : Int → Ty} {m : Nat} (hm : 1 ≤ m) (h : ∀ x, 0 ≤ x → (θ x).size ≤ m) : ∀ t, wfT t = true → (ap θ t).size ≤ t.size * m := fun t => by
  induction t using Ty.ind with
  | h t ih =>
    intro hw
    by_cases hk : t.kind = 1
    · rw [ap_v hk]
      have h1 := h t.id (wf_pos hw hk)
      have h2 := size_ge t
      have := Nat.mul_le_mul_right m h2
      omega
    · have e : t.size = 1 + Ty.sizes t.args := by cases t; simp [Ty.size, Ty.args]
      rw [size_node θ hk, e, zs]
      have : ∀ us : List Ty, (∀ u ∈ us, (ap θ u).size ≤ u.size * m) → Ty.sizes (us.map (ap θ)) ≤ Ty.sizes us * m := fun us => by
        induction us with
        | nil => intro _; simp [Ty.sizes]
        | cons u us ih =>
          intro h
          have h1 := h u (.head _)
          have h2 := ih fun x hx => h x (.tail _ hx)
          simp only [List.map_cons, Ty.sizes, Nat.add_mul]; omega
      have := this t.args fun u hu => ih u hu (wf_arg hw hu)
      rw [Nat.add_mul]; omega
/-- All variables get small types. -/
def Small (θ : Int → Ty) : Prop := ∀ x, 0 ≤ x → (θ x).size ≤ 100 ∧ dep (θ x) ≤ 12
theorem vr_dep (x : Int) : dep (vr x) = 1 := by rw [dep_eq]; rfl
theorem small_ans {B : Bs} {s : Int → Ty} (h : Inv B s) (hf : ∀ e ∈ B, (s e.1).size ≤ 100 ∧ dep (s e.1) ≤ 12) : Small s := fun x _ => by
  cases hl : lk B x with
  | none => rw [h.un _ hl, vr_size, vr_dep]; omega
  | some t =>
    have : ¬ ∀ e ∈ B, e.1 ≠ x := fun q => by rw [lk_none_iff.2 q] at hl; cases hl
    simp only [Classical.not_forall] at this
    obtain ⟨e, he, hne⟩ := this
    have hne : e.1 = x := by simpa using hne
    rw [← hne]; exact hf e he
theorem mod_nil (θ : Int → Ty) : Mod θ [] := nofun
/-- A solution whose types are small shows that the unifier succeeds, and it is an instance. -/
theorem Uni.inst {eqs : List Eq2} {R : List Bd} {ok : Bool} (h : Uni eqs R ok) (hb : (decide (((eqs.length : Nat) : Int) > 100) || eqs.any bad) = false) (hn : eqs.any errE = false) {θ : Int → Ty} (hs : Solves θ eqs) :
    (Small θ → ok = true) ∧ (ok = true → ∃ B s, SSp eqs [] true B s ∧ R = sortB (B.map (bdOf s)) ∧ (∀ e ∈ B, (s e.1).size ≤ 100 ∧ dep (s e.1) ≤ 12) ∧ Mod θ B) := by
  obtain ⟨hg, c, B, s, h1, h2, h3⟩ := h.good hb
  obtain ⟨m1, m2⟩ := h1.mod (ENE_of hn) neb_nil θ (mod_nil θ) hs
  constructor
  · intro hsm
    have hc : c = true := m2 fun e he => by
      obtain ⟨⟨w1, z1⟩, _⟩ := hg e he
      have := size_ap_le (m := 100) (by decide) (fun x hx => (hsm x hx).1) e.l w1
      have := Nat.mul_le_mul_right 100 z1
      omega
    have hm := m1 hc
    rw [h2, hc, Bool.true_and, List.all_eq_true]
    intro e he
    have hl := lk_of_mem h1.ok he
    have hw := h1.inv.wf _ _ hl
    have hp := h1.inv.pos _ _ hl
    have e1 : θ e.1 = ap θ (ap s e.2) := by rw [hm.app h1.inv _ hw]; exact hm _ _ hl
    have hws : wfT (ap s e.2) = true := by rw [← h1.inv.bd _ _ hl]; exact h1.inv.wfs _ hp
    have s1 := size_le_ap (θ := θ) _ hws
    have d1 := dep_le_ap (θ := θ) _ hws
    rw [← e1] at s1 d1
    have := hsm e.1 hp
    unfold fits
    rw [decide_eq_true (by omega), decide_eq_true (by omega)]; rfl
  · intro ho
    obtain ⟨q1, rfl, q3⟩ := h3 ho
    exact ⟨B, s, h1, q1, q3, m1 rfl⟩
theorem not_bad_sub {eqs fqs : List Eq2} (hl : eqs.length ≤ fqs.length) (hm : ∀ e ∈ eqs, e ∈ fqs) (h : (decide (((fqs.length : Nat) : Int) > 100) || fqs.any bad) = false) : (decide (((eqs.length : Nat) : Int) > 100) || eqs.any bad) = false := by
  rw [Bool.or_eq_false_iff] at h ⊢
  refine ⟨decide_eq_false ?_, ?_⟩
  · have := of_decide_eq_false h.1; omega
  · have := h.2
    rw [List.any_eq_false] at this ⊢
    exact fun e he => this e (hm e he)
theorem Uni.not_bad {eqs : List Eq2} {R : List Bd} (h : Uni eqs R true) : (decide (((eqs.length : Nat) : Int) > 100) || eqs.any bad) = false := by
  cases hb : (decide (((eqs.length : Nat) : Int) > 100) || eqs.any bad) with
  | false => rfl
  | true => have := h.badly hb; cases this
theorem Mod.at_ {θ : Int → Ty} {B : Bs} {s : Int → Ty} (h : Mod θ B) (k : Inv B s) {v : Int} (hv : 0 ≤ v) : ap θ (s v) = θ v := by
  have := h.app k (vr v) (wf_vr' hv)
  rwa [ap_vr, ap_vr] at this
/-- UnifyMonotone. -/
theorem mono_plain {eqs : List Eq2} {x : Eq2} {R R' : List Bd} {ok : Bool} (h : Uni eqs R ok) (h' : Uni (eqs ++ [x]) R' true) (hn : eqs.any errE = false) (hx : errE x = false) :
    ok = true ∧ ∀ b ∈ R, mapT (subG R') b.t = mapT (subG R') (vr b.v) := by
  have hb' := h'.not_bad
  obtain ⟨hg', B', s', j1, rfl, j3⟩ := h'.yes
  have hn' : (eqs ++ [x]).any errE = false := by rw [List.any_append, hn]; simp [hx]
  have hs' := j1.sol (ENE_of hn') neb_nil rfl
  have hb := not_bad_sub (eqs := eqs) (fqs := eqs ++ [x]) (by simp) (fun e he => List.mem_append_left _ he) hb'
  obtain ⟨k1, k2⟩ := h.inst hb hn (θ := s') fun e he => hs' e (List.mem_append_left _ he)
  have ho := k1 (small_ans j1.inv j3)
  refine ⟨ho, fun b hbm => ?_⟩
  obtain ⟨B, s, h1, rfl, h3, hm⟩ := k2 ho
  obtain ⟨e, he, rfl⟩ := List.mem_map.1 ((sortB_perm _).mem_iff.1 hbm)
  have hp := h1.inv.pos _ _ (lk_of_mem h1.ok he)
  show mapT _ (s e.1) = mapT _ (vr e.1)
  rw [ans_sub j1.inv (h1.inv.wfs _ hp), ans_sub j1.inv (wf_vr' hp), ap_vr, hm.at_ h1.inv hp]
/-- UnifyMostGeneral. -/
theorem most_plain {eqs : List Eq2} {R other : List Bd} {ok : Bool} (h : Uni eqs R ok) (hn : eqs.any errE = false) (hl : eqs.length ≤ 20) (hv : ∀ e ∈ eqs, valT e.l = 0 ∧ valT e.r = 0)
    (hs : ∀ e ∈ eqs, mapT (subG other) e.l = mapT (subG other) e.r) :
    (ok = false → other.any (fun b => decide (valT b.t ≠ 0)) = true) ∧ (ok = true → ∀ e ∈ eqs, ∀ v, occ v e.l = true ∨ occ v e.r = true → mapT (subG other) (vr v) = mapT (subG other) (mapT (subG R) (vr v))) := by
  have hb : (decide (((eqs.length : Nat) : Int) > 100) || eqs.any bad) = false := by
    rw [Bool.or_eq_false_iff]
    refine ⟨decide_eq_false (by omega), ?_⟩
    rw [List.any_eq_false]
    intro e he
    have := hv e he
    unfold bad; rw [this.1, this.2]; simp
  have hw : ∀ e ∈ eqs, wfT e.l = true ∧ wfT e.r = true := fun e he => ⟨val_wf (hv e he).1, val_wf (hv e he).2⟩
  have hsol : Solves (lkS other) eqs := fun e he => by
    rw [← sub_ap _ _ (hw e he).1, ← sub_ap _ _ (hw e he).2]; exact hs e he
  obtain ⟨k1, k2⟩ := h.inst hb hn hsol
  constructor
  · intro ho
    cases ha : other.any (fun b => decide (valT b.t ≠ 0)) with
    | true => rfl
    | false =>
      exfalso
      have : Small (lkS other) := fun x _ => by
        unfold lkS
        cases hf : other.find? (fun b => decide (b.v = x)) with
        | none => show (vr x).size ≤ 100 ∧ dep (vr x) ≤ 12; rw [vr_size, vr_dep]; omega
        | some b =>
          rw [List.any_eq_false] at ha
          have := ha b (List.mem_of_find?_eq_some hf)
          exact val_small (by simpa using this)
      rw [k1 this] at ho; cases ho
  · intro ho e he v hoc
    obtain ⟨B, s, h1, rfl, h3, hm⟩ := k2 ho
    have hp : 0 ≤ v := hoc.elim (fun q => occ_pos _ (hw e he).1 q) (fun q => occ_pos _ (hw e he).2 q)
    rw [ans_sub h1.inv (wf_vr' hp), ap_vr, sub_ap _ _ (wf_vr' hp), sub_ap _ _ (h1.inv.wfs _ hp), ap_vr, hm.at_ h1.inv hp]
where
  val_small {t : Ty} (h : valT t = 0) : t.size ≤ 100 ∧ dep t ≤ 12 := by
    rw [← val_eq] at h
    split at h
    · cases h
    · rename_i q
      simp only [Bool.or_eq_true, decide_eq_true_eq, not_or, Int.not_lt, gt_iff_lt] at q
      omega
theorem Inv.var_le {B : Bs} {s : Int → Ty} (h : Inv B s) : ∀ t, wfT t = true → ∀ y, ap s t = vr y → t.kind = 1 ∧ y ≤ t.id := fun t => by
  induction t using m_ind (s := s) with
  | hp t ih =>
    intro hw y e
    by_cases hk : t.kind = 1
    · refine ⟨hk, ?_⟩
      rw [ap_v hk] at e
      cases hl : lk B t.id with
      | none =>
        rw [h.un _ hl] at e
        have : t.id = y := by unfold vr at e; injection e
        omega
      | some u =>
        rw [h.bd _ _ hl] at e
        obtain ⟨k1, k2⟩ := ih u (h.var_lt hk hl) (h.wf _ _ hl) y e
        have := h.lt _ _ hl k1
        omega
    · rw [ap_n hk] at e
      unfold vr at e
      injection e with e1 e2 e3
      exact absurd e1 hk
/-- Two solved forms that are instances of one another are one. -/
theorem same_sol {B B' : Bs} {s s' : Int → Ty} (h : Inv B s) (h' : Inv B' s') (m : Mod s B') (m' : Mod s' B) : ∀ x, 0 ≤ x → s x = s' x := fun x hx => by
  have e1 := m'.at_ h hx
  have key : ∀ y, occ y (s x) = true → s' y = vr y := fun y hy => by
    have hg : lk B y = none := h.gone (vr x) (wf_vr' hx) (by rwa [ap_vr])
    have hpy : 0 ≤ y := occ_pos _ (h.wfs _ hx) hy
    have e2 := m.at_ h' hpy
    rw [h.un _ hg] at e2
    obtain ⟨k1, k2⟩ := h.var_le (s' y) (h'.wfs _ hpy) y e2
    have e3 := wf_vr (h'.wfs _ hpy) k1
    obtain ⟨_, k3⟩ := h'.var_le (vr y) (wf_vr' hpy) (s' y).id (by rw [ap_vr]; exact e3)
    have : (s' y).id ≤ y := k3
    rw [e3]
    have : (s' y).id = y := by omega
    rw [this]
  rw [← e1, ap_congr (r := vr) _ key, ap_id _ (h.wfs _ hx)]
theorem sorted_ext : ∀ {xs ys : List Bd}, xs.Pairwise (fun a b => a.v < b.v) → ys.Pairwise (fun a b => a.v < b.v) → (∀ b, b ∈ xs ↔ b ∈ ys) → xs = ys
  | [], [], _, _, _ => rfl
  | [], b :: ys, _, _, h => by have := (h b).2 (.head _); cases this
  | a :: xs, [], _, _, h => by have := (h a).1 (.head _); cases this
  | a :: xs, b :: ys, h1, h2, h => by
    rw [List.pairwise_cons] at h1 h2
    have e : a = b := by
      have ha := (h a).1 (.head _)
      have hb := (h b).2 (.head _)
      rcases List.mem_cons.1 ha with e | ha
      · exact e
      · rcases List.mem_cons.1 hb with e | hb
        · exact e.symm
        · have := h2.1 a ha; have := h1.1 b hb; omega
    subst e
    congr 1
    refine sorted_ext h1.2 h2.2 fun c => ⟨fun hc => ?_, fun hc => ?_⟩
    · rcases List.mem_cons.1 ((h c).1 (.tail _ hc)) with rfl | k
      · have := h1.1 c hc; omega
      · exact k
    · rcases List.mem_cons.1 ((h c).2 (.tail _ hc)) with rfl | k
      · have := h2.1 c hc; omega
      · exact k
theorem ans_lt {eqs : List Eq2} {B : Bs} {s : Int → Ty} (h1 : SSp eqs [] true B s) : (sortB (B.map (bdOf s))).Pairwise fun a b => a.v < b.v := by
  refine lt_of_le_nodup (sortB_le _) ?_
  have : ((sortB (B.map (bdOf s))).map (·.v)).Perm (B.map (·.1)) := by
    have := (sortB_perm (B.map (bdOf s))).map (·.v)
    rwa [List.map_map] at this
  exact this.nodup_iff.2 h1.ok.nd
theorem ans_mem {eqs : List Eq2} {B : Bs} {s : Int → Ty} (h1 : SSp eqs [] true B s) (b : Bd) : b ∈ sortB (B.map (bdOf s)) ↔ (0 ≤ b.v ∧ s b.v ≠ vr b.v ∧ b.t = s b.v) := by
  rw [(sortB_perm _).mem_iff, List.mem_map]
  constructor
  · rintro ⟨e, he, rfl⟩
    have hl := lk_of_mem h1.ok he
    have hp := h1.inv.pos _ _ hl
    refine ⟨hp, fun q => ?_, rfl⟩
    have q : s e.1 = vr e.1 := q
    have := h1.inv.gone (x := e.1) (vr e.1) (wf_vr' hp) (by rw [ap_vr, q]; exact occ_vr.2 rfl)
    rw [hl] at this; cases this
  · rintro ⟨hp, hne, ht⟩
    cases hl : lk B b.v with
    | none => exact absurd (h1.inv.un _ hl) hne
    | some t =>
      have : ¬ ∀ e ∈ B, e.1 ≠ b.v := fun q => by rw [lk_none_iff.2 q] at hl; cases hl
      simp only [Classical.not_forall] at this
      obtain ⟨e, he, hq0⟩ := this
      have hq : e.1 = b.v := by simpa using hq0
      clear hq0
      refine ⟨e, he, ?_⟩
      obtain ⟨v, t⟩ := b
      simp only at hq ht; subst ht; unfold bdOf; rw [hq]
theorem ord_half {eqs fqs : List Eq2} {R R' : List Bd} {ok ok' : Bool} (h : Uni eqs R ok) (h' : Uni fqs R' ok') (hl : fqs.length = eqs.length) (hm : ∀ e ∈ fqs, (⟨e.r, e.l⟩ : Eq2) ∈ eqs) (hm' : ∀ e ∈ eqs, (⟨e.r, e.l⟩ : Eq2) ∈ fqs) (hn : eqs.any errE = false) (hn' : fqs.any errE = false) (ho : ok = true) :
    ok' = true ∧ R = R' := by
  subst ho
  have hb := h.not_bad
  obtain ⟨hg, B, s, j1, rfl, j3⟩ := h.yes
  have hs := j1.sol (ENE_of hn) neb_nil rfl
  have hb' : (decide (((fqs.length : Nat) : Int) > 100) || fqs.any bad) = false := by
    rw [Bool.or_eq_false_iff] at hb ⊢
    refine ⟨by rw [hl]; exact hb.1, ?_⟩
    have := hb.2
    rw [List.any_eq_false] at this ⊢
    intro e he
    have := this _ (hm e he)
    unfold bad at this ⊢
    rwa [Bool.or_comm] at this
  obtain ⟨k1, k2⟩ := h'.inst hb' hn' (θ := s) fun e he => (hs _ (hm e he)).symm
  have ho' := k1 (small_ans j1.inv j3)
  refine ⟨ho', ?_⟩
  subst ho'
  obtain ⟨B', s', i1, rfl, i3, m⟩ := k2 rfl
  have hs' := i1.sol (ENE_of hn') neb_nil rfl
  have m' : Mod s' B := (j1.mod (ENE_of hn) neb_nil s' (mod_nil _) fun e he => (hs' _ (hm' e he)).symm).1 rfl
  have hss := same_sol j1.inv i1.inv m m'
  refine sorted_ext (ans_lt j1) (ans_lt i1) fun b => ?_
  rw [ans_mem j1, ans_mem i1]
  constructor
  · rintro ⟨p, q, r⟩; rw [hss _ p] at q r; exact ⟨p, q, r⟩
  · rintro ⟨p, q, r⟩; rw [← hss _ p] at q r; exact ⟨p, q, r⟩
/-- UnifyOrderIndependent. -/
def Eq2.sw (e : Eq2) : Eq2 := ⟨e.r, e.l⟩
theorem ord_plain {eqs : List Eq2} {R R' : List Bd} {ok ok' : Bool} (h : Uni eqs R ok) (h' : Uni (eqs.reverse.map Eq2.sw) R' ok') (hn : eqs.any errE = false) : ok = ok' ∧ R = R' := by
  have hn' : (eqs.reverse.map Eq2.sw).any errE = false := by
    rw [List.any_eq_false] at hn ⊢
    intro e he
    obtain ⟨x, hx, rfl⟩ := List.mem_map.1 he
    have := hn x (List.mem_reverse.1 hx)
    unfold errE at this ⊢
    simp only [Eq2.sw]
    rwa [Bool.or_comm] at this
  have hl : (eqs.reverse.map Eq2.sw).length = eqs.length := by simp
  have hm : ∀ e ∈ eqs.reverse.map Eq2.sw, (⟨e.r, e.l⟩ : Eq2) ∈ eqs := fun e he => by
    obtain ⟨x, hx, rfl⟩ := List.mem_map.1 he
    exact List.mem_reverse.1 hx
  have hm' : ∀ e ∈ eqs, (⟨e.r, e.l⟩ : Eq2) ∈ eqs.reverse.map Eq2.sw := fun e he => List.mem_map.2 ⟨e, List.mem_reverse.2 he, rfl⟩
  cases ho : ok with
  | true =>
    obtain ⟨a, b⟩ := ord_half h h' hl hm hm' hn hn' ho
    exact ⟨a.symm, b⟩
  | false =>
    cases ho' : ok' with
    | true =>
      obtain ⟨a, b⟩ := ord_half h' h hl.symm hm' hm hn' hn ho'
      rw [ho] at a; cases a
    | false => exact ⟨rfl, by rw [h.no ho, h'.no ho']⟩
end Go.Abs
namespace Go.Abs
open Go.Proofs
def ti : Ty := .mk 3 0 []
def eqW1 : List Eq2 := [⟨.mk 9 0 [vr 1, vr 2], .mk 9 0 [ti, vr 1]⟩]
def eqW2 : List Eq2 := [⟨vr 0, .mk 8 0 [vr 0]⟩]
def bW : Bs := [(1, ti), (2, ti)]
theorem solveW1 : solveF 12 eqW1 [] = some (true, bW) := by
  kernel_rfl
theorem solveW2 : solveF 12 eqW2 [] = some (false, []) := by
  kernel_rfl
theorem withinW : withinF 12 bW ti = some true := by
  simp [withinF, extF, extL, ti, Ty.kind, Ty.args, IntKind.wrap, IntKind.bits, IntKind.signed]
theorem okW : okR 12 bW ti := .mk (fun h => by cases h) nofun
theorem goodW : UGood 12 bW := by
  refine ⟨by simp [bW], by simp [bW], fun n t h => ?_, fun e he => ?_⟩
  · simp only [bW, lk] at h
    split at h
    · cases h; exact .mk (by simp) nofun
    · split at h
      · cases h; exact .mk (by simp) nofun
      · cases h
  · simp only [bW, List.mem_cons, List.not_mem_nil, or_false] at he
    rcases he with rfl | rfl <;> exact ⟨true, withinW, fun _ => okW⟩
theorem rsvW : rsvF 12 bW ti = ti := by
  show mapT _ ti = ti
  rw [mapT_eq]; simp [resG, ti, Ty.kind, Ty.id, Ty.args]
def ansW : List Bd := [⟨1, ti⟩, ⟨2, ti⟩]
theorem sortW : sortB ansW = ansW := (eq_sortB (.refl _) (by simp [ansW]) (by simp [ansW])).symm
theorem goodW1 : eqW1.any bad = false := by
  have h1 : valT (.mk 9 0 [vr 1, vr 2]) = 0 := by
    simp [valT, measT, measL, wfT, nwf, vr, Ty.kind, Ty.id, Ty.args] <;> omega
  have h2 : valT (.mk 9 0 [ti, vr 1]) = 0 := by
    simp [valT, measT, measL, wfT, nwf, vr, ti, Ty.kind, Ty.id, Ty.args] <;> omega
  simp [eqW1, bad, h1, h2]
theorem goodW2 : eqW2.any bad = false := by
  have h1 : valT (vr 0) = 0 := by
    simp [valT, measT, measL, wfT, nwf, vr, Ty.kind, Ty.id, Ty.args] <;> omega
  have h2 : valT (.mk 8 0 [vr 0]) = 0 := by
    simp [valT, measT, measL, wfT, nwf, vr, Ty.kind, Ty.id, Ty.args] <;> omega
  simp [eqW2, bad, h1, h2]
theorem uniW1 : uniR 12 eqW1 = (ansW, true) := by
  unfold uniR
  rw [if_neg (by rw [goodW1]; simp [eqW1]), solveW1]
  have e1 : bW.all (inB 12 bW) = true := by
    simp only [bW, List.all_cons, List.all_nil, Bool.and_true, Bool.and_eq_true]
    constructor <;> (show (withinF 12 bW ti).getD false = true; rw [withinW]; rfl)
  have e2 : bW.map (resB 12 bW) = ansW := by
    show [resB 12 bW (1, ti), resB 12 bW (2, ti)] = ansW
    simp only [resB, rsvW]; rfl
  simp only [e1, e2, if_true, sortW]
theorem uniW2 : uniR 12 eqW2 = ([], false) := by
  unfold uniR
  rw [if_neg (by rw [goodW2]; simp [eqW2]), solveW2]
theorem WvrW (x : Int) : (vr x).W := .mk (by simp) nofun
theorem W2W {k i : Int} {a b : Ty} (ha : a.W) (hb : b.W) : (Ty.mk k i [a, b]).W := .mk (by simp) (by simp [ha, hb])
theorem unifyW1 : PC Try.prog 9 [.slice (eqW1.map Eq2.enc) .none] (.tup [.slice (ansW.map Bd.enc) .none, .bool true]) := by
  have := unify_k (n := 12) (eqs := eqW1) sortsX sortsNil (fun e he => by
    simp only [eqW1, List.mem_singleton] at he; subst he
    exact ⟨W2W (WvrW 1) (WvrW 2), W2W (.mk (by simp) nofun) (WvrW 1)⟩) (by simp [eqW1, maxLen]) (fun _ => ⟨true, bW, solveW1, fun _ => goodW⟩)
  rw [uniW1] at this
  exact this
theorem unifyW2 : PC Try.prog 9 [.slice (eqW2.map Eq2.enc) .none] (.tup [.slice [] .none, .bool false]) := by
  have := unify_k (n := 12) (eqs := eqW2) sortsX sortsNil (fun e he => by
    simp only [eqW2, List.mem_singleton] at he; subst he
    exact ⟨WvrW 0, .mk (by simp) (by simp [WvrW])⟩) (by simp [eqW2, maxLen]) (fun _ => ⟨false, [], solveW2, nofun⟩)
  rw [uniW2] at this
  exact this
end Go.Abs
set_option maxRecDepth 4000
namespace Go.Abs
open Go.Proofs

theorem containsIntR (xs : List Int) (n : Int) (hx : xs.length ≤ maxLen) : PC Try.prog 43 [.slice (xs.map vint) .none, vint n] (.bool (xs.any fun x => decide (x = n))) := by
  refine pc_of (N := 17) Try.func43 rfl rfl (by simp) (by simp [bel_ints0, Bel.int]) (.bool _) ?_
  repeat (refine awp_seq ?_)
  refine e_eval (by simp only [jA, jO, jN, seval, vint, TyS, TyF, BdS] <;> with_reducible rfl) (by decide) ?_
  repeat (refine awp_seq ?_)
  refine e_eval (by simp only [jA, jO, jN, seval, y3, y50, vint, TyS, TyF, BdS] <;> with_reducible rfl) (by decide) ?_
  repeat (refine awp_seq ?_)
  refine awp_forS (σ := Unit) (xs.length) (fun (s : Unit) => [(7, .slice (xs.map vint) .none), (1, vint n)]) [7, 1] ([]) (fun (s : Unit) => []) (fun (i : Nat) (s : Unit) => (xs.take i).any (fun x => decide (x = n)) = false) (()) ([]) rfl rfl rfl rfl rfl rfl rfl rfl rfl (by decide) (by decide) (by decide) (fun _ => rfl) (hx) ⟨(by first | rfl | (simp only [jN, seval, vint, TyS, TyF, BdS] <;> first | done | with_reducible rfl)), (by first | rfl | (simp only [jN, seval, vint, TyS, TyF, BdS] <;> first | done | with_reducible rfl)), (by first | rfl | (simp only [jN, seval, vint, TyS, TyF, BdS] <;> first | done | with_reducible rfl)), (by first | rfl | (simp only [jN, seval, vint, TyS, TyF, BdS] <;> first | done | with_reducible rfl)), trivial⟩ (by first | rfl | (simp only [jN, seval, vint, TyS, TyF, BdS] <;> first | done | with_reducible rfl)) (by simp) (fun _ _ _ => by first | exact Nat.zero_le _ | (simp only [List.length_append]; omega)) ?_ ?_ ?_
  · exact fun i s hg => ⟨by first | exact hbel_nil _ | (simp only [List.append_nil]; assumption) | (refine hbel_app' hb' (by simp) ?_; repeat (first | exact hbel_nil _ | exact trivial | exact obel_row_nil _ | (refine HBel.cons ?_ ?_) | (refine obel_row_cons (by first | exact bel_Bd _ _ | exact Bd.bel _ _ | exact bel_int_tok _ (by simp) | exact bel_ints0 _ _ | exact bel_slice_ty _ _ | exact Ty.bel _ _ | exact bel_ty_tok _ (by simp) | exact Bel.int _ _ | exact Bel.bool _ | exact Bel.str _ | exact Bel.nilp | exact Bel.nilfn | exact Bel.optr _ _ (by simp) | exact bel_nil0 _ | exact bel_nil1 _ | exact bel_fn0 _ _ | assumption) ?_))), by repeat (first | exact BelL.nil | refine BelL.cons (by first | exact bel_Bd _ _ | exact Bd.bel _ _ | exact bel_int_tok _ (by simp) | exact bel_ints0 _ _ | exact bel_slice_ty _ _ | exact Ty.bel _ _ | exact bel_ty_tok _ (by simp) | exact Bel.int _ _ | exact Bel.bool _ | exact Bel.str _ | exact Bel.nilp | exact Bel.nilfn | exact Bel.optr _ _ (by simp) | exact bel_nil0 _ | exact bel_nil1 _ | exact bel_fn0 _ _ | assumption) ?_)⟩
  · intro i s hi hg
    have g1 := ix_nat hi
    have g2 := get_enc vint hi
    repeat (refine awp_seq ?_)
    refine e_eval (by simp only [jA, jO, jN, seval, y3, y50, vint, TyS, TyF, BdS, g1, Int.toNat_natCast, g2] <;> with_reducible rfl) (by decide) ?_
    repeat (refine awp_seq ?_)
    refine e_eval (by simp only [jA, jO, jN, seval, y3, vint, TyS, TyF, BdS, g1, Int.toNat_natCast, g2] <;> with_reducible rfl) (by decide) ?_
    repeat (refine awp_seq ?_)
    refine awp_cond rfl (by simp only [jN, seval, vint, TyS, TyF, BdS, g1, Int.toNat_natCast, g2] <;> with_reducible rfl) (fun b0 => ?_) (fun b0 => ?_)
    ·
      repeat (refine awp_seq ?_)
      refine e_eval (by simp only [jA, jO, jN, seval, vint, TyS, TyF, BdS, g1, Int.toNat_natCast, g2] <;> with_reducible rfl) (by decide) ?_
      repeat (refine awp_seq ?_)
      refine awp_ret ⟨.inr rfl, _, rfl, ?_⟩
      have : (xs.any fun x => decide (x = n)) = true := List.any_eq_true.2 ⟨_, List.getElem_mem hi, b0⟩
      rw [this]; rfl
    ·
      repeat (refine awp_seq ?_)
      refine awp_skip ?_
      exact ⟨⟨rfl, rfl, trivial⟩, (), [], ⟨rfl, rfl, trivial⟩, rfl, any_take_succ hi hg b0⟩
  · intro s hg
    rw [List.take_length] at hg
    repeat (refine awp_seq ?_)
    refine e_eval (by simp only [jA, jO, jN, seval, vint, TyS, TyF, BdS] <;> with_reducible rfl) (by decide) ?_
    repeat (refine awp_seq ?_)
    refine awp_ret ⟨.inr rfl, _, rfl, ?_⟩
    rw [hg]; rfl

theorem inRange (n lo hi : Int) : PC Try.prog 67 [vint n, vint lo, vint hi] (.bool (decide (lo ≤ n) && decide (n ≤ hi))) := by
  refine pc_of (N := 15) Try.func67 rfl rfl (by simp) (by simp [Bel.int]) (.bool _) ?_
  repeat (refine awp_seq ?_)
  refine e_eval (by simp only [jA, jO, jN, seval, vint, TyS, TyF, BdS] <;> with_reducible rfl) (by decide) ?_
  repeat (refine awp_seq ?_)
  refine g_eval (by simp only [jG, jO, jN, seval, y3, vint, TyS, TyF, BdS] <;> with_reducible rfl) (by decide) (by repeat (first | exact Fin.base _ | with_reducible apply Fin.keep | apply Fin.drop)) ?_
  repeat (refine awp_seq ?_)
  refine awp_ret ⟨.inr rfl, _, rfl, ?_⟩
  simp only [jN, seval, vint, TyS, TyF, BdS]

theorem typeSize_k : ∀ (k : Nat) (t : Ty), t.size ≤ k → t.W → (t.size : Int) ≤ 4294967296 → PC Try.prog 39 [t.enc] (.tup [vint t.size, vint (dep t)])
  | 0, t, h, _, _ => by cases t; simp [Ty.size] at h
  | k + 1, t, h, hw, hb => by
    have hts : t.size = 1 + Ty.sizes t.args := by cases t; simp [Ty.size, Ty.args]
    refine pc_of (N := 30) Try.func39 rfl rfl (by simp) (by simp [Ty.bel]) (.tup _ (by simp [Bel.int])) ?_
    repeat (refine awp_seq ?_)
    refine e_eval (by simp only [jA, jO, jN, seval, y29, vint, TyS, TyF, BdS] <;> with_reducible rfl) (by decide) ?_
    repeat (refine awp_seq ?_)
    refine e_eval (by simp only [jA, jO, jN, seval, vint, TyS, TyF, BdS] <;> with_reducible rfl) (by decide) ?_
    repeat (refine awp_seq ?_)
    refine e_eval (by simp only [jA, jO, jN, seval, y27, y29, vint, TyS, TyF, BdS] <;> with_reducible rfl) (by decide) ?_
    repeat (refine awp_seq ?_)
    refine awp_forS (σ := Int × Int) (t.args.length) (fun (q : Int × Int) => [(2, vint q.1), (3, vint q.2), (9, .slice (t.args.map Ty.enc) .none)]) [2, 3, 9] ([]) (fun (q : Int × Int) => []) (fun (i : Nat) (q : Int × Int) => (1 ≤ q.1 ∧ 1 ≤ q.2 ∧ q.2 ≤ q.1) ∧ q.1 + (Ty.sizes (t.args.drop i) : Int) = t.size ∧ depL ((t.args.map dep).drop i) q.2 = dep t) ((1, 1)) (_) rfl rfl rfl rfl rfl rfl rfl rfl rfl (by decide) (by decide) (by decide) (fun _ => rfl) (hw.lenMax) ⟨(by first | rfl | (simp only [jN, seval, vint, TyS, TyF, BdS] <;> first | done | with_reducible rfl)), (by first | rfl | (simp only [jN, seval, vint, TyS, TyF, BdS] <;> first | done | with_reducible rfl)), (by first | rfl | (simp only [jN, seval, vint, TyS, TyF, BdS] <;> first | done | with_reducible rfl)), (by first | rfl | (simp only [jN, seval, vint, TyS, TyF, BdS] <;> first | done | with_reducible rfl)), (by first | rfl | (simp only [jN, seval, vint, TyS, TyF, BdS] <;> first | done | with_reducible rfl)), trivial⟩ (by first | rfl | (simp only [jN, seval, vint, TyS, TyF, BdS] <;> first | done | with_reducible rfl)) (⟨by decide, by simp only [List.drop_zero]; omega, by rw [dep_eq]; rfl⟩) (fun _ _ _ => by first | exact Nat.zero_le _ | (simp only [List.length_append]; omega)) ?_ ?_ ?_
    · exact fun i s hg => ⟨by first | exact hbel_nil _ | (simp only [List.append_nil]; assumption) | (refine hbel_app' hb' (by simp) ?_; repeat (first | exact hbel_nil _ | exact trivial | exact obel_row_nil _ | (refine HBel.cons ?_ ?_) | (refine obel_row_cons (by first | exact bel_Bd _ _ | exact Bd.bel _ _ | exact bel_int_tok _ (by simp) | exact bel_ints0 _ _ | exact bel_slice_ty _ _ | exact Ty.bel _ _ | exact bel_ty_tok _ (by simp) | exact Bel.int _ _ | exact Bel.bool _ | exact Bel.str _ | exact Bel.nilp | exact Bel.nilfn | exact Bel.optr _ _ (by simp) | exact bel_nil0 _ | exact bel_nil1 _ | exact bel_fn0 _ _ | assumption) ?_))), by repeat (first | exact BelL.nil | refine BelL.cons (by first | exact bel_Bd _ _ | exact Bd.bel _ _ | exact bel_int_tok _ (by simp) | exact bel_ints0 _ _ | exact bel_slice_ty _ _ | exact Ty.bel _ _ | exact bel_ty_tok _ (by simp) | exact Bel.int _ _ | exact Bel.bool _ | exact Bel.str _ | exact Bel.nilp | exact Bel.nilfn | exact Bel.optr _ _ (by simp) | exact bel_nil0 _ | exact bel_nil1 _ | exact bel_fn0 _ _ | assumption) ?_)⟩
    · intro i q hi hg
      obtain ⟨⟨q1, q2, q3⟩, hg1, hg2⟩ := hg
      have g1 := ix_nat hi
      have g2 := get_enc Ty.enc hi
      have hmem : t.args[i] ∈ t.args := List.getElem_mem hi
      have hsa := Ty.size_arg hmem
      rw [List.drop_eq_getElem_cons hi, Ty.sizes] at hg1
      rw [List.drop_eq_getElem_cons (by simpa using hi), List.getElem_map, depL_cons] at hg2
      have hdu := dep_bd t.args[i]
      have hwr1 : IntKind.i64.wrap (q.1 + (t.args[i].size : Int)) = q.1 + (t.args[i].size : Int) := wrap_id (by omega) (by omega)
      have hwr2 : IntKind.i64.wrap (dep t.args[i] + 1) = dep t.args[i] + 1 := wrap_id (by omega) (by omega)
      repeat (refine awp_seq ?_)
      refine e_eval (by simp only [jA, jO, jN, seval, y27, y29, vint, TyS, TyF, BdS, g1, g2, Int.toNat_natCast] <;> with_reducible rfl) (by decide) ?_
      repeat (refine awp_seq ?_)
      refine awp_region ?_
      refine e_take 1 (by simp only [jA, jO, jN, seval, y29, vint, TyS, TyF, BdS, g1, g2, Int.toNat_natCast] <;> with_reducible rfl) (by decide) ?_
      refine aops_pure (by simp only [jC, jN, seval, vint, TyS, TyF, BdS, g1, g2, Int.toNat_natCast] <;> with_reducible rfl) (by simp only [jC, jN, seval, vint, TyS, TyF, BdS, g1, g2, Int.toNat_natCast]) (by decide) Trygo39 (typeSize_k k t.args[i] (by omega) (hw.arg hmem) (by omega) _) ?_
      refine e_end (by simp only [jA, jO, jN, seval, vint, TyS, TyF, BdS, g1, g2, Int.toNat_natCast] <;> with_reducible rfl) (by decide) ?_
      repeat (refine awp_seq ?_)
      refine e_eval (by simp only [jA, jO, jN, seval, y3, vint, TyS, TyF, BdS, g1, g2, Int.toNat_natCast, hwr1] <;> with_reducible rfl) (by decide) ?_
      repeat (refine awp_seq ?_)
      refine e_eval (by simp only [jA, jO, jN, seval, y3, vint, TyS, TyF, BdS, g1, g2, Int.toNat_natCast, hwr2] <;> with_reducible rfl) (by decide) ?_
      exact ⟨⟨rfl, rfl, trivial⟩, (q.1 + (t.args[i].size : Int), max q.2 (dep t.args[i] + 1)), _, ⟨rfl, rfl, rfl, trivial⟩, rfl, ⟨by simp only; omega, by simp only; omega, by simp only; omega⟩, by simp only; omega, hg2⟩
    · intro q hg
      obtain ⟨_, hg1, hg2⟩ := hg
      rw [List.drop_eq_nil_of_le (by simp)] at hg1 hg2
      have e1 : q.1 = t.size := by simpa [Ty.sizes] using hg1
      have e2 : q.2 = dep t := hg2
      repeat (refine awp_seq ?_)
      refine e_eval (by simp only [jA, jO, jN, seval, vint, TyS, TyF, BdS] <;> with_reducible rfl) (by decide) ?_
      repeat (refine awp_seq ?_)
      refine awp_ret ⟨.inr rfl, _, (ares_two (.tmp 2) (.tmp 3) rfl (ares_tmp1 (by decide)) (ares_tmp1 (by decide))), ?_⟩
      rw [← e1, ← e2]; rfl

theorem typeWF_0 (t : Ty) (hk : t.kind = 0) (hw : t.W) (ih : ∀ u ∈ t.args, PC Try.prog 40 [u.enc] (.bool (wfT u))) : PC Try.prog 40 [t.enc] (.bool (wfT t)) := by
  have hlen0 : (0 : Int) ≤ (t.args.length : Int) := by omega
  have d0 : decide (t.kind = 0) = true := decide_eq_true hk
  have d1 : decide (t.kind = 1) = false := decide_eq_false (by omega)
  have d2 : decide (t.kind = 2) = false := decide_eq_false (by omega)
  have d3 : decide (t.kind = 3) = false := decide_eq_false (by omega)
  have d4 : decide (t.kind = 4) = false := decide_eq_false (by omega)
  have d5 : decide (t.kind = 5) = false := decide_eq_false (by omega)
  have d6 : decide (t.kind = 6) = false := decide_eq_false (by omega)
  have d7 : decide (t.kind = 7) = false := decide_eq_false (by omega)
  have d8 : decide (t.kind = 8) = false := decide_eq_false (by omega)
  have d9 : decide (t.kind = 9) = false := decide_eq_false (by omega)
  have d10 : decide (t.kind = 10) = false := decide_eq_false (by omega)
  refine pc_of (N := 66) Try.func40 rfl rfl (by simp) (by simp [Ty.bel]) (.bool _) ?_
  repeat (refine awp_seq ?_)
  refine e_eval (by simp only [jA, jO, jN, seval, y29, vint, TyS, TyF, BdS, Int.cast_ofNat_Int, d0, d1, d2, d3, d4, d5, d6, d7, d8, d9, d10] <;> with_reducible rfl) (by decide) ?_
  repeat (refine awp_seq ?_)
  refine e_eval (by simp only [jA, jO, jN, seval, vint, TyS, TyF, BdS, Int.cast_ofNat_Int, d0, d1, d2, d3, d4, d5, d6, d7, d8, d9, d10] <;> with_reducible rfl) (by decide) ?_
  repeat (refine awp_seq ?_)
  refine e_eval (by simp only [jA, jO, jN, seval, y3, y29, vint, TyS, TyF, BdS, Int.cast_ofNat_Int, d0, d1, d2, d3, d4, d5, d6, d7, d8, d9, d10] <;> with_reducible rfl) (by decide) ?_
  repeat (refine awp_seq ?_)
  refine awp_block ?_
  repeat (refine awp_seq ?_)
  refine e_eval (by simp only [jA, jO, jN, seval, y3, vint, TyS, TyF, BdS, Int.cast_ofNat_Int, d0, d1, d2, d3, d4, d5, d6, d7, d8, d9, d10] <;> with_reducible rfl) (by decide) ?_
  repeat (refine awp_seq ?_)
  refine awp_cond_true rfl (by simp only [jN, seval, vint, TyS, TyF, BdS, Int.cast_ofNat_Int, d0, d1, d2, d3, d4, d5, d6, d7, d8, d9, d10] <;> with_reducible rfl) ?_
  repeat (refine awp_seq ?_)
  refine awp_skip ?_
  repeat (refine awp_seq ?_)
  refine awp_cond_true rfl (by simp only [jN, seval, vint, TyS, TyF, BdS, Int.cast_ofNat_Int, d0, d1, d2, d3, d4, d5, d6, d7, d8, d9, d10] <;> with_reducible rfl) ?_
  repeat (refine awp_seq ?_)
  refine awp_skip ?_
  repeat (refine awp_seq ?_)
  refine awp_region ?_
  refine aops_gstart ?_
  refine g_take 5 (by simp only [jG, jO, jN, seval, y27, y29, vint, TyS, TyF, BdS, Int.cast_ofNat_Int, d0, d1, d2, d3, d4, d5, d6, d7, d8, d9, d10] <;> with_reducible rfl) (by decide) ?_
  refine aops_gpure (by simp only [jE, jN, seval, vint, TyS, TyF, BdS, Int.cast_ofNat_Int, d0, d1, d2, d3, d4, d5, d6, d7, d8, d9, d10] <;> with_reducible rfl) (by simp only [jE, jN, seval, vint, TyS, TyF, BdS, Int.cast_ofNat_Int, d0, d1, d2, d3, d4, d5, d6, d7, d8, d9, d10] <;> with_reducible rfl) (by simp only [jE, jN, seval, vint, TyS, TyF, BdS, Int.cast_ofNat_Int, d0, d1, d2, d3, d4, d5, d6, d7, d8, d9, d10]) (by decide) Trygo67 (fun hc => inRange _ _ _ _) ?_
  refine g_end (by simp only [jG, jO, jN, seval, y3, y29, vint, TyS, TyF, BdS, Int.cast_ofNat_Int, d0, d1, d2, d3, d4, d5, d6, d7, d8, d9, d10] <;> with_reducible rfl) (by decide) (by repeat (first | exact Fin.base _ | with_reducible apply Fin.keep | apply Fin.drop)) ?_
  repeat (refine awp_seq ?_)
  refine awp_cond rfl (by simp only [jN, seval, vint, TyS, TyF, BdS, Int.cast_ofNat_Int, d0, d1, d2, d3, d4, d5, d6, d7, d8, d9, d10] <;> with_reducible rfl) (fun bt54 => ?_) (fun bt54 => ?_)
  ·
    have hn : nwf t = false := by
      unfold nwf
      simp only [d0, d1, d2, d3, d4, d5, d6, d7, d8, d9, d10, Bool.or_false, Bool.or_true, Bool.false_or, Bool.true_or, if_true, if_false, Bool.false_eq_true]
      rw [Bool.eq_false_iff]
      intro hh
      simp only [Bool.or_eq_true, Bool.and_eq_true, Bool.not_eq_true', Bool.and_eq_false_iff, Bool.or_eq_false_iff, Bool.not_eq_false', decide_eq_true_eq, decide_eq_false_iff_not] at hh bt54
      omega
    have hwf : wfT t = false := by rw [wfT_eq, hn]; rfl
    refine awp_sel [] (by simp only [jN, seval, vint, TyS, TyF, BdS, Int.cast_ofNat_Int, d0, d1, d2, d3, d4, d5, d6, d7, d8, d9, d10] <;> with_reducible rfl) ?_
    repeat (refine awp_seq ?_)
    refine e_eval (by simp only [jA, jO, jN, seval, vint, TyS, TyF, BdS, Int.cast_ofNat_Int, d0, d1, d2, d3, d4, d5, d6, d7, d8, d9, d10] <;> with_reducible rfl) (by decide) ?_
    repeat (refine awp_seq ?_)
    refine awp_ret ⟨.inr rfl, _, rfl, ?_⟩
    rw [hwf]; rfl
  ·
    have hn : nwf t = true := by
      unfold nwf
      simp only [d0, d1, d2, d3, d4, d5, d6, d7, d8, d9, d10, Bool.or_false, Bool.or_true, Bool.false_or, Bool.true_or, if_true, if_false, Bool.false_eq_true]
      simp only [Bool.or_eq_true, Bool.and_eq_true, Bool.not_eq_true', Bool.and_eq_false_iff, Bool.or_eq_false_iff, Bool.not_eq_false', decide_eq_true_eq, decide_eq_false_iff_not] at bt54 ⊢
      omega
    repeat (refine awp_seq ?_)
    refine awp_skip ?_
    refine awp_sel [1] (by simp only [jN, seval, vint, TyS, TyF, BdS, Int.cast_ofNat_Int, d0, d1, d2, d3, d4, d5, d6, d7, d8, d9, d10] <;> with_reducible rfl) ?_
    repeat (refine awp_seq ?_)
    refine e_eval (by simp only [jA, jO, jN, seval, y27, y29, vint, TyS, TyF, BdS, Int.cast_ofNat_Int, d0, d1, d2, d3, d4, d5, d6, d7, d8, d9, d10] <;> with_reducible rfl) (by decide) ?_
    repeat (refine awp_seq ?_)
    refine awp_forS (σ := Unit) (t.args.length) (fun (s : Unit) => [(56, .slice (t.args.map Ty.enc) .none)]) [56] ([]) (fun (s : Unit) => []) (fun (i : Nat) (s : Unit) => (t.args.take i).any (fun u => !wfT u) = false) (()) (_) rfl rfl rfl rfl rfl rfl rfl rfl rfl (by decide) (by decide) (by decide) (fun _ => rfl) (hw.lenMax) ⟨(by first | rfl | (simp only [jN, seval, vint, TyS, TyF, BdS, Int.cast_ofNat_Int, d0, d1, d2, d3, d4, d5, d6, d7, d8, d9, d10] <;> first | done | with_reducible rfl)), (by first | rfl | (simp only [jN, seval, vint, TyS, TyF, BdS, Int.cast_ofNat_Int, d0, d1, d2, d3, d4, d5, d6, d7, d8, d9, d10] <;> first | done | with_reducible rfl)), (by first | rfl | (simp only [jN, seval, vint, TyS, TyF, BdS, Int.cast_ofNat_Int, d0, d1, d2, d3, d4, d5, d6, d7, d8, d9, d10] <;> first | done | with_reducible rfl)), trivial⟩ (by first | rfl | (simp only [jN, seval, vint, TyS, TyF, BdS, Int.cast_ofNat_Int, d0, d1, d2, d3, d4, d5, d6, d7, d8, d9, d10] <;> first | done | with_reducible rfl)) (by simp) (fun _ _ _ => by first | exact Nat.zero_le _ | (simp only [List.length_append]; omega)) ?_ ?_ ?_
    · exact fun i s hg => ⟨by first | exact hbel_nil _ | (simp only [List.append_nil]; assumption) | (refine hbel_app' hb' (by simp) ?_; repeat (first | exact hbel_nil _ | exact trivial | exact obel_row_nil _ | (refine HBel.cons ?_ ?_) | (refine obel_row_cons (by first | exact bel_Bd _ _ | exact Bd.bel _ _ | exact bel_int_tok _ (by simp) | exact bel_ints0 _ _ | exact bel_slice_ty _ _ | exact Ty.bel _ _ | exact bel_ty_tok _ (by simp) | exact Bel.int _ _ | exact Bel.bool _ | exact Bel.str _ | exact Bel.nilp | exact Bel.nilfn | exact Bel.optr _ _ (by simp) | exact bel_nil0 _ | exact bel_nil1 _ | exact bel_fn0 _ _ | assumption) ?_))), by repeat (first | exact BelL.nil | refine BelL.cons (by first | exact bel_Bd _ _ | exact Bd.bel _ _ | exact bel_int_tok _ (by simp) | exact bel_ints0 _ _ | exact bel_slice_ty _ _ | exact Ty.bel _ _ | exact bel_ty_tok _ (by simp) | exact Bel.int _ _ | exact Bel.bool _ | exact Bel.str _ | exact Bel.nilp | exact Bel.nilfn | exact Bel.optr _ _ (by simp) | exact bel_nil0 _ | exact bel_nil1 _ | exact bel_fn0 _ _ | assumption) ?_)⟩
    · intro i s hi hg
      have g1 := ix_nat hi
      have g2 := get_enc Ty.enc hi
      have hmem : t.args[i] ∈ t.args := List.getElem_mem hi
      repeat (refine awp_seq ?_)
      refine e_eval (by simp only [jA, jO, jN, seval, y27, y29, vint, TyS, TyF, BdS, Int.cast_ofNat_Int, d0, d1, d2, d3, d4, d5, d6, d7, d8, d9, d10, g1, g2, Int.toNat_natCast] <;> with_reducible rfl) (by decide) ?_
      repeat (refine awp_seq ?_)
      refine awp_region ?_
      refine e_take 1 (by simp only [jA, jO, jN, seval, y29, vint, TyS, TyF, BdS, Int.cast_ofNat_Int, d0, d1, d2, d3, d4, d5, d6, d7, d8, d9, d10, g1, g2, Int.toNat_natCast] <;> with_reducible rfl) (by decide) ?_
      refine aops_pure (by simp only [jC, jN, seval, vint, TyS, TyF, BdS, Int.cast_ofNat_Int, d0, d1, d2, d3, d4, d5, d6, d7, d8, d9, d10, g1, g2, Int.toNat_natCast] <;> with_reducible rfl) (by simp only [jC, jN, seval, vint, TyS, TyF, BdS, Int.cast_ofNat_Int, d0, d1, d2, d3, d4, d5, d6, d7, d8, d9, d10, g1, g2, Int.toNat_natCast]) (by decide) Trygo40 (ih t.args[i] hmem _) ?_
      refine e_end (by simp only [jA, jO, jN, seval, vint, TyS, TyF, BdS, Int.cast_ofNat_Int, d0, d1, d2, d3, d4, d5, d6, d7, d8, d9, d10, g1, g2, Int.toNat_natCast] <;> with_reducible rfl) (by decide) ?_
      repeat (refine awp_seq ?_)
      refine awp_cond rfl (by simp only [jN, seval, vint, TyS, TyF, BdS, Int.cast_ofNat_Int, d0, d1, d2, d3, d4, d5, d6, d7, d8, d9, d10, g1, g2, Int.toNat_natCast] <;> with_reducible rfl) (fun bt64 => ?_) (fun bt64 => ?_)
      ·
        have hbad : (t.args.any fun u => !wfT u) = true := List.any_eq_true.2 ⟨_, hmem, bt64⟩
        have hwf : wfT t = false := by rw [wfT_eq, hn, hbad]; rfl
        repeat (refine awp_seq ?_)
        refine e_eval (by simp only [jA, jO, jN, seval, vint, TyS, TyF, BdS, Int.cast_ofNat_Int, d0, d1, d2, d3, d4, d5, d6, d7, d8, d9, d10, g1, g2, Int.toNat_natCast] <;> with_reducible rfl) (by decide) ?_
        repeat (refine awp_seq ?_)
        refine awp_ret ⟨.inr rfl, _, rfl, ?_⟩
        rw [hwf]; rfl
      ·
        repeat (refine awp_seq ?_)
        refine awp_skip ?_
        exact ⟨⟨rfl, rfl, trivial⟩, (), _, ⟨rfl, trivial⟩, rfl, any_take_succ hi hg bt64⟩
    · intro s hg
      rw [List.take_length] at hg
      have hwf : wfT t = true := by rw [wfT_eq, hn, hg]; rfl
      repeat (refine awp_seq ?_)
      refine e_eval (by simp only [jA, jO, jN, seval, vint, TyS, TyF, BdS, Int.cast_ofNat_Int, d0, d1, d2, d3, d4, d5, d6, d7, d8, d9, d10] <;> with_reducible rfl) (by decide) ?_
      repeat (refine awp_seq ?_)
      refine awp_ret ⟨.inr rfl, _, rfl, ?_⟩
      rw [hwf]; rfl

theorem typeWF_1 (t : Ty) (hk : t.kind = 1) (hw : t.W) (ih : ∀ u ∈ t.args, PC Try.prog 40 [u.enc] (.bool (wfT u))) : PC Try.prog 40 [t.enc] (.bool (wfT t)) := by
  have hlen0 : (0 : Int) ≤ (t.args.length : Int) := by omega
  have d0 : decide (t.kind = 0) = false := decide_eq_false (by omega)
  have d1 : decide (t.kind = 1) = true := decide_eq_true hk
  have d2 : decide (t.kind = 2) = false := decide_eq_false (by omega)
  have d3 : decide (t.kind = 3) = false := decide_eq_false (by omega)
  have d4 : decide (t.kind = 4) = false := decide_eq_false (by omega)
  have d5 : decide (t.kind = 5) = false := decide_eq_false (by omega)
  have d6 : decide (t.kind = 6) = false := decide_eq_false (by omega)
  have d7 : decide (t.kind = 7) = false := decide_eq_false (by omega)
  have d8 : decide (t.kind = 8) = false := decide_eq_false (by omega)
  have d9 : decide (t.kind = 9) = false := decide_eq_false (by omega)
  have d10 : decide (t.kind = 10) = false := decide_eq_false (by omega)
  refine pc_of (N := 66) Try.func40 rfl rfl (by simp) (by simp [Ty.bel]) (.bool _) ?_
  repeat (refine awp_seq ?_)
  refine e_eval (by simp only [jA, jO, jN, seval, y29, vint, TyS, TyF, BdS, Int.cast_ofNat_Int, d0, d1, d2, d3, d4, d5, d6, d7, d8, d9, d10] <;> with_reducible rfl) (by decide) ?_
  repeat (refine awp_seq ?_)
  refine e_eval (by simp only [jA, jO, jN, seval, vint, TyS, TyF, BdS, Int.cast_ofNat_Int, d0, d1, d2, d3, d4, d5, d6, d7, d8, d9, d10] <;> with_reducible rfl) (by decide) ?_
  repeat (refine awp_seq ?_)
  refine e_eval (by simp only [jA, jO, jN, seval, y3, y29, vint, TyS, TyF, BdS, Int.cast_ofNat_Int, d0, d1, d2, d3, d4, d5, d6, d7, d8, d9, d10] <;> with_reducible rfl) (by decide) ?_
  repeat (refine awp_seq ?_)
  refine awp_block ?_
  repeat (refine awp_seq ?_)
  refine e_eval (by simp only [jA, jO, jN, seval, y3, vint, TyS, TyF, BdS, Int.cast_ofNat_Int, d0, d1, d2, d3, d4, d5, d6, d7, d8, d9, d10] <;> with_reducible rfl) (by decide) ?_
  repeat (refine awp_seq ?_)
  refine awp_cond_false rfl (by simp only [jN, seval, vint, TyS, TyF, BdS, Int.cast_ofNat_Int, d0, d1, d2, d3, d4, d5, d6, d7, d8, d9, d10] <;> with_reducible rfl) ?_
  repeat (refine awp_seq ?_)
  refine e_eval (by simp only [jA, jO, jN, seval, y3, vint, TyS, TyF, BdS, Int.cast_ofNat_Int, d0, d1, d2, d3, d4, d5, d6, d7, d8, d9, d10] <;> with_reducible rfl) (by decide) ?_
  repeat (refine awp_seq ?_)
  refine awp_cond_false rfl (by simp only [jN, seval, vint, TyS, TyF, BdS, Int.cast_ofNat_Int, d0, d1, d2, d3, d4, d5, d6, d7, d8, d9, d10] <;> with_reducible rfl) ?_
  repeat (refine awp_seq ?_)
  refine e_eval (by simp only [jA, jO, jN, seval, y3, vint, TyS, TyF, BdS, Int.cast_ofNat_Int, d0, d1, d2, d3, d4, d5, d6, d7, d8, d9, d10] <;> with_reducible rfl) (by decide) ?_
  repeat (refine awp_seq ?_)
  refine awp_cond_false rfl (by simp only [jN, seval, vint, TyS, TyF, BdS, Int.cast_ofNat_Int, d0, d1, d2, d3, d4, d5, d6, d7, d8, d9, d10] <;> with_reducible rfl) ?_
  repeat (refine awp_seq ?_)
  refine e_eval (by simp only [jA, jO, jN, seval, y3, vint, TyS, TyF, BdS, Int.cast_ofNat_Int, d0, d1, d2, d3, d4, d5, d6, d7, d8, d9, d10] <;> with_reducible rfl) (by decide) ?_
  repeat (refine awp_seq ?_)
  refine awp_cond_false rfl (by simp only [jN, seval, vint, TyS, TyF, BdS, Int.cast_ofNat_Int, d0, d1, d2, d3, d4, d5, d6, d7, d8, d9, d10] <;> with_reducible rfl) ?_
  refine awp_sel [1, 3, 4, 5, 9] (by simp only [jN, seval, vint, TyS, TyF, BdS, Int.cast_ofNat_Int, d0, d1, d2, d3, d4, d5, d6, d7, d8, d9, d10] <;> with_reducible rfl) ?_
  repeat (refine awp_seq ?_)
  refine e_eval (by simp only [jA, jO, jN, seval, y3, vint, TyS, TyF, BdS, Int.cast_ofNat_Int, d0, d1, d2, d3, d4, d5, d6, d7, d8, d9, d10] <;> with_reducible rfl) (by decide) ?_
  repeat (refine awp_seq ?_)
  refine awp_cond_false rfl (by simp only [jN, seval, vint, TyS, TyF, BdS, Int.cast_ofNat_Int, d0, d1, d2, d3, d4, d5, d6, d7, d8, d9, d10] <;> with_reducible rfl) ?_
  repeat (refine awp_seq ?_)
  refine e_eval (by simp only [jA, jO, jN, seval, y3, vint, TyS, TyF, BdS, Int.cast_ofNat_Int, d0, d1, d2, d3, d4, d5, d6, d7, d8, d9, d10] <;> with_reducible rfl) (by decide) ?_
  repeat (refine awp_seq ?_)
  refine awp_cond_true rfl (by simp only [jN, seval, vint, TyS, TyF, BdS, Int.cast_ofNat_Int, d0, d1, d2, d3, d4, d5, d6, d7, d8, d9, d10] <;> with_reducible rfl) ?_
  repeat (refine awp_seq ?_)
  refine awp_skip ?_
  repeat (refine awp_seq ?_)
  refine awp_cond_true rfl (by simp only [jN, seval, vint, TyS, TyF, BdS, Int.cast_ofNat_Int, d0, d1, d2, d3, d4, d5, d6, d7, d8, d9, d10] <;> with_reducible rfl) ?_
  repeat (refine awp_seq ?_)
  refine e_eval (by simp only [jA, jO, jN, seval, vint, TyS, TyF, BdS, Int.cast_ofNat_Int, d0, d1, d2, d3, d4, d5, d6, d7, d8, d9, d10] <;> with_reducible rfl) (by decide) ?_
  repeat (refine awp_seq ?_)
  refine awp_region ?_
  refine aops_gstart ?_
  refine g_take 5 (by simp only [jG, jO, jN, seval, y27, y29, vint, TyS, TyF, BdS, Int.cast_ofNat_Int, d0, d1, d2, d3, d4, d5, d6, d7, d8, d9, d10] <;> with_reducible rfl) (by decide) ?_
  refine aops_gpure (by simp only [jE, jN, seval, vint, TyS, TyF, BdS, Int.cast_ofNat_Int, d0, d1, d2, d3, d4, d5, d6, d7, d8, d9, d10] <;> with_reducible rfl) (by simp only [jE, jN, seval, vint, TyS, TyF, BdS, Int.cast_ofNat_Int, d0, d1, d2, d3, d4, d5, d6, d7, d8, d9, d10] <;> with_reducible rfl) (by simp only [jE, jN, seval, vint, TyS, TyF, BdS, Int.cast_ofNat_Int, d0, d1, d2, d3, d4, d5, d6, d7, d8, d9, d10]) (by decide) Trygo67 (fun hc => inRange _ _ _ _) ?_
  refine g_end (by simp only [jG, jO, jN, seval, y3, y29, vint, TyS, TyF, BdS, Int.cast_ofNat_Int, d0, d1, d2, d3, d4, d5, d6, d7, d8, d9, d10] <;> with_reducible rfl) (by decide) (by repeat (first | exact Fin.base _ | with_reducible apply Fin.keep | apply Fin.drop)) ?_
  repeat (refine awp_seq ?_)
  refine awp_cond rfl (by simp only [jN, seval, vint, TyS, TyF, BdS, Int.cast_ofNat_Int, d0, d1, d2, d3, d4, d5, d6, d7, d8, d9, d10] <;> with_reducible rfl) (fun bt54 => ?_) (fun bt54 => ?_)
  ·
    have hn : nwf t = false := by
      unfold nwf
      simp only [d0, d1, d2, d3, d4, d5, d6, d7, d8, d9, d10, Bool.or_false, Bool.or_true, Bool.false_or, Bool.true_or, if_true, if_false, Bool.false_eq_true]
      rw [Bool.eq_false_iff]
      intro hh
      simp only [Bool.or_eq_true, Bool.and_eq_true, Bool.not_eq_true', Bool.and_eq_false_iff, Bool.or_eq_false_iff, Bool.not_eq_false', decide_eq_true_eq, decide_eq_false_iff_not] at hh bt54
      omega
    have hwf : wfT t = false := by rw [wfT_eq, hn]; rfl
    refine awp_sel [] (by simp only [jN, seval, vint, TyS, TyF, BdS, Int.cast_ofNat_Int, d0, d1, d2, d3, d4, d5, d6, d7, d8, d9, d10] <;> with_reducible rfl) ?_
    repeat (refine awp_seq ?_)
    refine e_eval (by simp only [jA, jO, jN, seval, vint, TyS, TyF, BdS, Int.cast_ofNat_Int, d0, d1, d2, d3, d4, d5, d6, d7, d8, d9, d10] <;> with_reducible rfl) (by decide) ?_
    repeat (refine awp_seq ?_)
    refine awp_ret ⟨.inr rfl, _, rfl, ?_⟩
    rw [hwf]; rfl
  ·
    have hn : nwf t = true := by
      unfold nwf
      simp only [d0, d1, d2, d3, d4, d5, d6, d7, d8, d9, d10, Bool.or_false, Bool.or_true, Bool.false_or, Bool.true_or, if_true, if_false, Bool.false_eq_true]
      simp only [Bool.or_eq_true, Bool.and_eq_true, Bool.not_eq_true', Bool.and_eq_false_iff, Bool.or_eq_false_iff, Bool.not_eq_false', decide_eq_true_eq, decide_eq_false_iff_not] at bt54 ⊢
      omega
    repeat (refine awp_seq ?_)
    refine awp_skip ?_
    refine awp_sel [1] (by simp only [jN, seval, vint, TyS, TyF, BdS, Int.cast_ofNat_Int, d0, d1, d2, d3, d4, d5, d6, d7, d8, d9, d10] <;> with_reducible rfl) ?_
    repeat (refine awp_seq ?_)
    refine e_eval (by simp only [jA, jO, jN, seval, y27, y29, vint, TyS, TyF, BdS, Int.cast_ofNat_Int, d0, d1, d2, d3, d4, d5, d6, d7, d8, d9, d10] <;> with_reducible rfl) (by decide) ?_
    repeat (refine awp_seq ?_)
    refine awp_forS (σ := Unit) (t.args.length) (fun (s : Unit) => [(56, .slice (t.args.map Ty.enc) .none)]) [56] ([]) (fun (s : Unit) => []) (fun (i : Nat) (s : Unit) => (t.args.take i).any (fun u => !wfT u) = false) (()) (_) rfl rfl rfl rfl rfl rfl rfl rfl rfl (by decide) (by decide) (by decide) (fun _ => rfl) (hw.lenMax) ⟨(by first | rfl | (simp only [jN, seval, vint, TyS, TyF, BdS, Int.cast_ofNat_Int, d0, d1, d2, d3, d4, d5, d6, d7, d8, d9, d10] <;> first | done | with_reducible rfl)), (by first | rfl | (simp only [jN, seval, vint, TyS, TyF, BdS, Int.cast_ofNat_Int, d0, d1, d2, d3, d4, d5, d6, d7, d8, d9, d10] <;> first | done | with_reducible rfl)), (by first | rfl | (simp only [jN, seval, vint, TyS, TyF, BdS, Int.cast_ofNat_Int, d0, d1, d2, d3, d4, d5, d6, d7, d8, d9, d10] <;> first | done | with_reducible rfl)), trivial⟩ (by first | rfl | (simp only [jN, seval, vint, TyS, TyF, BdS, Int.cast_ofNat_Int, d0, d1, d2, d3, d4, d5, d6, d7, d8, d9, d10] <;> first | done | with_reducible rfl)) (by simp) (fun _ _ _ => by first | exact Nat.zero_le _ | (simp only [List.length_append]; omega)) ?_ ?_ ?_
    · exact fun i s hg => ⟨by first | exact hbel_nil _ | (simp only [List.append_nil]; assumption) | (refine hbel_app' hb' (by simp) ?_; repeat (first | exact hbel_nil _ | exact trivial | exact obel_row_nil _ | (refine HBel.cons ?_ ?_) | (refine obel_row_cons (by first | exact bel_Bd _ _ | exact Bd.bel _ _ | exact bel_int_tok _ (by simp) | exact bel_ints0 _ _ | exact bel_slice_ty _ _ | exact Ty.bel _ _ | exact bel_ty_tok _ (by simp) | exact Bel.int _ _ | exact Bel.bool _ | exact Bel.str _ | exact Bel.nilp | exact Bel.nilfn | exact Bel.optr _ _ (by simp) | exact bel_nil0 _ | exact bel_nil1 _ | exact bel_fn0 _ _ | assumption) ?_))), by repeat (first | exact BelL.nil | refine BelL.cons (by first | exact bel_Bd _ _ | exact Bd.bel _ _ | exact bel_int_tok _ (by simp) | exact bel_ints0 _ _ | exact bel_slice_ty _ _ | exact Ty.bel _ _ | exact bel_ty_tok _ (by simp) | exact Bel.int _ _ | exact Bel.bool _ | exact Bel.str _ | exact Bel.nilp | exact Bel.nilfn | exact Bel.optr _ _ (by simp) | exact bel_nil0 _ | exact bel_nil1 _ | exact bel_fn0 _ _ | assumption) ?_)⟩
    · intro i s hi hg
      have g1 := ix_nat hi
      have g2 := get_enc Ty.enc hi
      have hmem : t.args[i] ∈ t.args := List.getElem_mem hi
      repeat (refine awp_seq ?_)
      refine e_eval (by simp only [jA, jO, jN, seval, y27, y29, vint, TyS, TyF, BdS, Int.cast_ofNat_Int, d0, d1, d2, d3, d4, d5, d6, d7, d8, d9, d10, g1, g2, Int.toNat_natCast] <;> with_reducible rfl) (by decide) ?_
      repeat (refine awp_seq ?_)
      refine awp_region ?_
      refine e_take 1 (by simp only [jA, jO, jN, seval, y29, vint, TyS, TyF, BdS, Int.cast_ofNat_Int, d0, d1, d2, d3, d4, d5, d6, d7, d8, d9, d10, g1, g2, Int.toNat_natCast] <;> with_reducible rfl) (by decide) ?_
      refine aops_pure (by simp only [jC, jN, seval, vint, TyS, TyF, BdS, Int.cast_ofNat_Int, d0, d1, d2, d3, d4, d5, d6, d7, d8, d9, d10, g1, g2, Int.toNat_natCast] <;> with_reducible rfl) (by simp only [jC, jN, seval, vint, TyS, TyF, BdS, Int.cast_ofNat_Int, d0, d1, d2, d3, d4, d5, d6, d7, d8, d9, d10, g1, g2, Int.toNat_natCast]) (by decide) Trygo40 (ih t.args[i] hmem _) ?_
      refine e_end (by simp only [jA, jO, jN, seval, vint, TyS, TyF, BdS, Int.cast_ofNat_Int, d0, d1, d2, d3, d4, d5, d6, d7, d8, d9, d10, g1, g2, Int.toNat_natCast] <;> with_reducible rfl) (by decide) ?_
      repeat (refine awp_seq ?_)
      refine awp_cond rfl (by simp only [jN, seval, vint, TyS, TyF, BdS, Int.cast_ofNat_Int, d0, d1, d2, d3, d4, d5, d6, d7, d8, d9, d10, g1, g2, Int.toNat_natCast] <;> with_reducible rfl) (fun bt64 => ?_) (fun bt64 => ?_)
      ·
        have hbad : (t.args.any fun u => !wfT u) = true := List.any_eq_true.2 ⟨_, hmem, bt64⟩
        have hwf : wfT t = false := by rw [wfT_eq, hn, hbad]; rfl
        repeat (refine awp_seq ?_)
        refine e_eval (by simp only [jA, jO, jN, seval, vint, TyS, TyF, BdS, Int.cast_ofNat_Int, d0, d1, d2, d3, d4, d5, d6, d7, d8, d9, d10, g1, g2, Int.toNat_natCast] <;> with_reducible rfl) (by decide) ?_
        repeat (refine awp_seq ?_)
        refine awp_ret ⟨.inr rfl, _, rfl, ?_⟩
        rw [hwf]; rfl
      ·
        repeat (refine awp_seq ?_)
        refine awp_skip ?_
        exact ⟨⟨rfl, rfl, trivial⟩, (), _, ⟨rfl, trivial⟩, rfl, any_take_succ hi hg bt64⟩
    · intro s hg
      rw [List.take_length] at hg
      have hwf : wfT t = true := by rw [wfT_eq, hn, hg]; rfl
      repeat (refine awp_seq ?_)
      refine e_eval (by simp only [jA, jO, jN, seval, vint, TyS, TyF, BdS, Int.cast_ofNat_Int, d0, d1, d2, d3, d4, d5, d6, d7, d8, d9, d10] <;> with_reducible rfl) (by decide) ?_
      repeat (refine awp_seq ?_)
      refine awp_ret ⟨.inr rfl, _, rfl, ?_⟩
      rw [hwf]; rfl

theorem typeWF_2 (t : Ty) (hk : t.kind = 2) (hw : t.W) (ih : ∀ u ∈ t.args, PC Try.prog 40 [u.enc] (.bool (wfT u))) : PC Try.prog 40 [t.enc] (.bool (wfT t)) := by
  have hlen0 : (0 : Int) ≤ (t.args.length : Int) := by omega
  have d0 : decide (t.kind = 0) = false := decide_eq_false (by omega)
  have d1 : decide (t.kind = 1) = false := decide_eq_false (by omega)
  have d2 : decide (t.kind = 2) = true := decide_eq_true hk
  have d3 : decide (t.kind = 3) = false := decide_eq_false (by omega)
  have d4 : decide (t.kind = 4) = false := decide_eq_false (by omega)
  have d5 : decide (t.kind = 5) = false := decide_eq_false (by omega)
  have d6 : decide (t.kind = 6) = false := decide_eq_false (by omega)
  have d7 : decide (t.kind = 7) = false := decide_eq_false (by omega)
  have d8 : decide (t.kind = 8) = false := decide_eq_false (by omega)
  have d9 : decide (t.kind = 9) = false := decide_eq_false (by omega)
  have d10 : decide (t.kind = 10) = false := decide_eq_false (by omega)
  refine pc_of (N := 66) Try.func40 rfl rfl (by simp) (by simp [Ty.bel]) (.bool _) ?_
  repeat (refine awp_seq ?_)
  refine e_eval (by simp only [jA, jO, jN, seval, y29, vint, TyS, TyF, BdS, Int.cast_ofNat_Int, d0, d1, d2, d3, d4, d5, d6, d7, d8, d9, d10] <;> with_reducible rfl) (by decide) ?_
  repeat (refine awp_seq ?_)
  refine e_eval (by simp only [jA, jO, jN, seval, vint, TyS, TyF, BdS, Int.cast_ofNat_Int, d0, d1, d2, d3, d4, d5, d6, d7, d8, d9, d10] <;> with_reducible rfl) (by decide) ?_
  repeat (refine awp_seq ?_)
  refine e_eval (by simp only [jA, jO, jN, seval, y3, y29, vint, TyS, TyF, BdS, Int.cast_ofNat_Int, d0, d1, d2, d3, d4, d5, d6, d7, d8, d9, d10] <;> with_reducible rfl) (by decide) ?_
  repeat (refine awp_seq ?_)
  refine awp_block ?_
  repeat (refine awp_seq ?_)
  refine e_eval (by simp only [jA, jO, jN, seval, y3, vint, TyS, TyF, BdS, Int.cast_ofNat_Int, d0, d1, d2, d3, d4, d5, d6, d7, d8, d9, d10] <;> with_reducible rfl) (by decide) ?_
  repeat (refine awp_seq ?_)
  refine awp_cond_false rfl (by simp only [jN, seval, vint, TyS, TyF, BdS, Int.cast_ofNat_Int, d0, d1, d2, d3, d4, d5, d6, d7, d8, d9, d10] <;> with_reducible rfl) ?_
  repeat (refine awp_seq ?_)
  refine e_eval (by simp only [jA, jO, jN, seval, y3, vint, TyS, TyF, BdS, Int.cast_ofNat_Int, d0, d1, d2, d3, d4, d5, d6, d7, d8, d9, d10] <;> with_reducible rfl) (by decide) ?_
  repeat (refine awp_seq ?_)
  refine awp_cond_false rfl (by simp only [jN, seval, vint, TyS, TyF, BdS, Int.cast_ofNat_Int, d0, d1, d2, d3, d4, d5, d6, d7, d8, d9, d10] <;> with_reducible rfl) ?_
  repeat (refine awp_seq ?_)
  refine e_eval (by simp only [jA, jO, jN, seval, y3, vint, TyS, TyF, BdS, Int.cast_ofNat_Int, d0, d1, d2, d3, d4, d5, d6, d7, d8, d9, d10] <;> with_reducible rfl) (by decide) ?_
  repeat (refine awp_seq ?_)
  refine awp_cond_false rfl (by simp only [jN, seval, vint, TyS, TyF, BdS, Int.cast_ofNat_Int, d0, d1, d2, d3, d4, d5, d6, d7, d8, d9, d10] <;> with_reducible rfl) ?_
  repeat (refine awp_seq ?_)
  refine e_eval (by simp only [jA, jO, jN, seval, y3, vint, TyS, TyF, BdS, Int.cast_ofNat_Int, d0, d1, d2, d3, d4, d5, d6, d7, d8, d9, d10] <;> with_reducible rfl) (by decide) ?_
  repeat (refine awp_seq ?_)
  refine awp_cond_false rfl (by simp only [jN, seval, vint, TyS, TyF, BdS, Int.cast_ofNat_Int, d0, d1, d2, d3, d4, d5, d6, d7, d8, d9, d10] <;> with_reducible rfl) ?_
  refine awp_sel [1, 3, 4, 5, 9] (by simp only [jN, seval, vint, TyS, TyF, BdS, Int.cast_ofNat_Int, d0, d1, d2, d3, d4, d5, d6, d7, d8, d9, d10] <;> with_reducible rfl) ?_
  repeat (refine awp_seq ?_)
  refine e_eval (by simp only [jA, jO, jN, seval, y3, vint, TyS, TyF, BdS, Int.cast_ofNat_Int, d0, d1, d2, d3, d4, d5, d6, d7, d8, d9, d10] <;> with_reducible rfl) (by decide) ?_
  repeat (refine awp_seq ?_)
  refine awp_cond_false rfl (by simp only [jN, seval, vint, TyS, TyF, BdS, Int.cast_ofNat_Int, d0, d1, d2, d3, d4, d5, d6, d7, d8, d9, d10] <;> with_reducible rfl) ?_
  repeat (refine awp_seq ?_)
  refine e_eval (by simp only [jA, jO, jN, seval, y3, vint, TyS, TyF, BdS, Int.cast_ofNat_Int, d0, d1, d2, d3, d4, d5, d6, d7, d8, d9, d10] <;> with_reducible rfl) (by decide) ?_
  repeat (refine awp_seq ?_)
  refine awp_cond_false rfl (by simp only [jN, seval, vint, TyS, TyF, BdS, Int.cast_ofNat_Int, d0, d1, d2, d3, d4, d5, d6, d7, d8, d9, d10] <;> with_reducible rfl) ?_
  repeat (refine awp_seq ?_)
  refine e_eval (by simp only [jA, jO, jN, seval, y3, vint, TyS, TyF, BdS, Int.cast_ofNat_Int, d0, d1, d2, d3, d4, d5, d6, d7, d8, d9, d10] <;> with_reducible rfl) (by decide) ?_
  repeat (refine awp_seq ?_)
  refine awp_cond_true rfl (by simp only [jN, seval, vint, TyS, TyF, BdS, Int.cast_ofNat_Int, d0, d1, d2, d3, d4, d5, d6, d7, d8, d9, d10] <;> with_reducible rfl) ?_
  repeat (refine awp_seq ?_)
  refine e_eval (by simp only [jA, jO, jN, seval, vint, TyS, TyF, BdS, Int.cast_ofNat_Int, d0, d1, d2, d3, d4, d5, d6, d7, d8, d9, d10] <;> with_reducible rfl) (by decide) ?_
  repeat (refine awp_seq ?_)
  refine awp_region ?_
  refine aops_gstart ?_
  refine g_take 5 (by simp only [jG, jO, jN, seval, y27, y29, vint, TyS, TyF, BdS, Int.cast_ofNat_Int, d0, d1, d2, d3, d4, d5, d6, d7, d8, d9, d10] <;> with_reducible rfl) (by decide) ?_
  refine aops_gpure (by simp only [jE, jN, seval, vint, TyS, TyF, BdS, Int.cast_ofNat_Int, d0, d1, d2, d3, d4, d5, d6, d7, d8, d9, d10] <;> with_reducible rfl) (by simp only [jE, jN, seval, vint, TyS, TyF, BdS, Int.cast_ofNat_Int, d0, d1, d2, d3, d4, d5, d6, d7, d8, d9, d10] <;> with_reducible rfl) (by simp only [jE, jN, seval, vint, TyS, TyF, BdS, Int.cast_ofNat_Int, d0, d1, d2, d3, d4, d5, d6, d7, d8, d9, d10]) (by decide) Trygo67 (fun hc => inRange _ _ _ _) ?_
  refine g_end (by simp only [jG, jO, jN, seval, y3, y29, vint, TyS, TyF, BdS, Int.cast_ofNat_Int, d0, d1, d2, d3, d4, d5, d6, d7, d8, d9, d10] <;> with_reducible rfl) (by decide) (by repeat (first | exact Fin.base _ | with_reducible apply Fin.keep | apply Fin.drop)) ?_
  repeat (refine awp_seq ?_)
  refine awp_cond rfl (by simp only [jN, seval, vint, TyS, TyF, BdS, Int.cast_ofNat_Int, d0, d1, d2, d3, d4, d5, d6, d7, d8, d9, d10] <;> with_reducible rfl) (fun bt54 => ?_) (fun bt54 => ?_)
  ·
    have hn : nwf t = false := by
      unfold nwf
      simp only [d0, d1, d2, d3, d4, d5, d6, d7, d8, d9, d10, Bool.or_false, Bool.or_true, Bool.false_or, Bool.true_or, if_true, if_false, Bool.false_eq_true]
      rw [Bool.eq_false_iff]
      intro hh
      simp only [Bool.or_eq_true, Bool.and_eq_true, Bool.not_eq_true', Bool.and_eq_false_iff, Bool.or_eq_false_iff, Bool.not_eq_false', decide_eq_true_eq, decide_eq_false_iff_not] at hh bt54
      omega
    have hwf : wfT t = false := by rw [wfT_eq, hn]; rfl
    refine awp_sel [] (by simp only [jN, seval, vint, TyS, TyF, BdS, Int.cast_ofNat_Int, d0, d1, d2, d3, d4, d5, d6, d7, d8, d9, d10] <;> with_reducible rfl) ?_
    repeat (refine awp_seq ?_)
    refine e_eval (by simp only [jA, jO, jN, seval, vint, TyS, TyF, BdS, Int.cast_ofNat_Int, d0, d1, d2, d3, d4, d5, d6, d7, d8, d9, d10] <;> with_reducible rfl) (by decide) ?_
    repeat (refine awp_seq ?_)
    refine awp_ret ⟨.inr rfl, _, rfl, ?_⟩
    rw [hwf]; rfl
  ·
    have hn : nwf t = true := by
      unfold nwf
      simp only [d0, d1, d2, d3, d4, d5, d6, d7, d8, d9, d10, Bool.or_false, Bool.or_true, Bool.false_or, Bool.true_or, if_true, if_false, Bool.false_eq_true]
      simp only [Bool.or_eq_true, Bool.and_eq_true, Bool.not_eq_true', Bool.and_eq_false_iff, Bool.or_eq_false_iff, Bool.not_eq_false', decide_eq_true_eq, decide_eq_false_iff_not] at bt54 ⊢
      omega
    repeat (refine awp_seq ?_)
    refine awp_skip ?_
    refine awp_sel [1] (by simp only [jN, seval, vint, TyS, TyF, BdS, Int.cast_ofNat_Int, d0, d1, d2, d3, d4, d5, d6, d7, d8, d9, d10] <;> with_reducible rfl) ?_
    repeat (refine awp_seq ?_)
    refine e_eval (by simp only [jA, jO, jN, seval, y27, y29, vint, TyS, TyF, BdS, Int.cast_ofNat_Int, d0, d1, d2, d3, d4, d5, d6, d7, d8, d9, d10] <;> with_reducible rfl) (by decide) ?_
    repeat (refine awp_seq ?_)
    refine awp_forS (σ := Unit) (t.args.length) (fun (s : Unit) => [(56, .slice (t.args.map Ty.enc) .none)]) [56] ([]) (fun (s : Unit) => []) (fun (i : Nat) (s : Unit) => (t.args.take i).any (fun u => !wfT u) = false) (()) (_) rfl rfl rfl rfl rfl rfl rfl rfl rfl (by decide) (by decide) (by decide) (fun _ => rfl) (hw.lenMax) ⟨(by first | rfl | (simp only [jN, seval, vint, TyS, TyF, BdS, Int.cast_ofNat_Int, d0, d1, d2, d3, d4, d5, d6, d7, d8, d9, d10] <;> first | done | with_reducible rfl)), (by first | rfl | (simp only [jN, seval, vint, TyS, TyF, BdS, Int.cast_ofNat_Int, d0, d1, d2, d3, d4, d5, d6, d7, d8, d9, d10] <;> first | done | with_reducible rfl)), (by first | rfl | (simp only [jN, seval, vint, TyS, TyF, BdS, Int.cast_ofNat_Int, d0, d1, d2, d3, d4, d5, d6, d7, d8, d9, d10] <;> first | done | with_reducible rfl)), trivial⟩ (by first | rfl | (simp only [jN, seval, vint, TyS, TyF, BdS, Int.cast_ofNat_Int, d0, d1, d2, d3, d4, d5, d6, d7, d8, d9, d10] <;> first | done | with_reducible rfl)) (by simp) (fun _ _ _ => by first | exact Nat.zero_le _ | (simp only [List.length_append]; omega)) ?_ ?_ ?_
    · exact fun i s hg => ⟨by first | exact hbel_nil _ | (simp only [List.append_nil]; assumption) | (refine hbel_app' hb' (by simp) ?_; repeat (first | exact hbel_nil _ | exact trivial | exact obel_row_nil _ | (refine HBel.cons ?_ ?_) | (refine obel_row_cons (by first | exact bel_Bd _ _ | exact Bd.bel _ _ | exact bel_int_tok _ (by simp) | exact bel_ints0 _ _ | exact bel_slice_ty _ _ | exact Ty.bel _ _ | exact bel_ty_tok _ (by simp) | exact Bel.int _ _ | exact Bel.bool _ | exact Bel.str _ | exact Bel.nilp | exact Bel.nilfn | exact Bel.optr _ _ (by simp) | exact bel_nil0 _ | exact bel_nil1 _ | exact bel_fn0 _ _ | assumption) ?_))), by repeat (first | exact BelL.nil | refine BelL.cons (by first | exact bel_Bd _ _ | exact Bd.bel _ _ | exact bel_int_tok _ (by simp) | exact bel_ints0 _ _ | exact bel_slice_ty _ _ | exact Ty.bel _ _ | exact bel_ty_tok _ (by simp) | exact Bel.int _ _ | exact Bel.bool _ | exact Bel.str _ | exact Bel.nilp | exact Bel.nilfn | exact Bel.optr _ _ (by simp) | exact bel_nil0 _ | exact bel_nil1 _ | exact bel_fn0 _ _ | assumption) ?_)⟩
    · intro i s hi hg
      have g1 := ix_nat hi
      have g2 := get_enc Ty.enc hi
      have hmem : t.args[i] ∈ t.args := List.getElem_mem hi
      repeat (refine awp_seq ?_)
      refine e_eval (by simp only [jA, jO, jN, seval, y27, y29, vint, TyS, TyF, BdS, Int.cast_ofNat_Int, d0, d1, d2, d3, d4, d5, d6, d7, d8, d9, d10, g1, g2, Int.toNat_natCast] <;> with_reducible rfl) (by decide) ?_
      repeat (refine awp_seq ?_)
      refine awp_region ?_
      refine e_take 1 (by simp only [jA, jO, jN, seval, y29, vint, TyS, TyF, BdS, Int.cast_ofNat_Int, d0, d1, d2, d3, d4, d5, d6, d7, d8, d9, d10, g1, g2, Int.toNat_natCast] <;> with_reducible rfl) (by decide) ?_
      refine aops_pure (by simp only [jC, jN, seval, vint, TyS, TyF, BdS, Int.cast_ofNat_Int, d0, d1, d2, d3, d4, d5, d6, d7, d8, d9, d10, g1, g2, Int.toNat_natCast] <;> with_reducible rfl) (by simp only [jC, jN, seval, vint, TyS, TyF, BdS, Int.cast_ofNat_Int, d0, d1, d2, d3, d4, d5, d6, d7, d8, d9, d10, g1, g2, Int.toNat_natCast]) (by decide) Trygo40 (ih t.args[i] hmem _) ?_
      refine e_end (by simp only [jA, jO, jN, seval, vint, TyS, TyF, BdS, Int.cast_ofNat_Int, d0, d1, d2, d3, d4, d5, d6, d7, d8, d9, d10, g1, g2, Int.toNat_natCast] <;> with_reducible rfl) (by decide) ?_
      repeat (refine awp_seq ?_)
      refine awp_cond rfl (by simp only [jN, seval, vint, TyS, TyF, BdS, Int.cast_ofNat_Int, d0, d1, d2, d3, d4, d5, d6, d7, d8, d9, d10, g1, g2, Int.toNat_natCast] <;> with_reducible rfl) (fun bt64 => ?_) (fun bt64 => ?_)
      ·
        have hbad : (t.args.any fun u => !wfT u) = true := List.any_eq_true.2 ⟨_, hmem, bt64⟩
        have hwf : wfT t = false := by rw [wfT_eq, hn, hbad]; rfl
        repeat (refine awp_seq ?_)
        refine e_eval (by simp only [jA, jO, jN, seval, vint, TyS, TyF, BdS, Int.cast_ofNat_Int, d0, d1, d2, d3, d4, d5, d6, d7, d8, d9, d10, g1, g2, Int.toNat_natCast] <;> with_reducible rfl) (by decide) ?_
        repeat (refine awp_seq ?_)
        refine awp_ret ⟨.inr rfl, _, rfl, ?_⟩
        rw [hwf]; rfl
      ·
        repeat (refine awp_seq ?_)
        refine awp_skip ?_
        exact ⟨⟨rfl, rfl, trivial⟩, (), _, ⟨rfl, trivial⟩, rfl, any_take_succ hi hg bt64⟩
    · intro s hg
      rw [List.take_length] at hg
      have hwf : wfT t = true := by rw [wfT_eq, hn, hg]; rfl
      repeat (refine awp_seq ?_)
      refine e_eval (by simp only [jA, jO, jN, seval, vint, TyS, TyF, BdS, Int.cast_ofNat_Int, d0, d1, d2, d3, d4, d5, d6, d7, d8, d9, d10] <;> with_reducible rfl) (by decide) ?_
      repeat (refine awp_seq ?_)
      refine awp_ret ⟨.inr rfl, _, rfl, ?_⟩
      rw [hwf]; rfl

theorem typeWF_3 (t : Ty) (hk : t.kind = 3) (hw : t.W) (ih : ∀ u ∈ t.args, PC Try.prog 40 [u.enc] (.bool (wfT u))) : PC Try.prog 40 [t.enc] (.bool (wfT t)) := by
  have hlen0 : (0 : Int) ≤ (t.args.length : Int) := by omega
  have d0 : decide (t.kind = 0) = false := decide_eq_false (by omega)
  have d1 : decide (t.kind = 1) = false := decide_eq_false (by omega)
  have d2 : decide (t.kind = 2) = false := decide_eq_false (by omega)
  have d3 : decide (t.kind = 3) = true := decide_eq_true hk
  have d4 : decide (t.kind = 4) = false := decide_eq_false (by omega)
  have d5 : decide (t.kind = 5) = false := decide_eq_false (by omega)
  have d6 : decide (t.kind = 6) = false := decide_eq_false (by omega)
  have d7 : decide (t.kind = 7) = false := decide_eq_false (by omega)
  have d8 : decide (t.kind = 8) = false := decide_eq_false (by omega)
  have d9 : decide (t.kind = 9) = false := decide_eq_false (by omega)
  have d10 : decide (t.kind = 10) = false := decide_eq_false (by omega)
  refine pc_of (N := 66) Try.func40 rfl rfl (by simp) (by simp [Ty.bel]) (.bool _) ?_
  repeat (refine awp_seq ?_)
  refine e_eval (by simp only [jA, jO, jN, seval, y29, vint, TyS, TyF, BdS, Int.cast_ofNat_Int, d0, d1, d2, d3, d4, d5, d6, d7, d8, d9, d10] <;> with_reducible rfl) (by decide) ?_
  repeat (refine awp_seq ?_)
  refine e_eval (by simp only [jA, jO, jN, seval, vint, TyS, TyF, BdS, Int.cast_ofNat_Int, d0, d1, d2, d3, d4, d5, d6, d7, d8, d9, d10] <;> with_reducible rfl) (by decide) ?_
  repeat (refine awp_seq ?_)
  refine e_eval (by simp only [jA, jO, jN, seval, y3, y29, vint, TyS, TyF, BdS, Int.cast_ofNat_Int, d0, d1, d2, d3, d4, d5, d6, d7, d8, d9, d10] <;> with_reducible rfl) (by decide) ?_
  repeat (refine awp_seq ?_)
  refine awp_block ?_
  repeat (refine awp_seq ?_)
  refine e_eval (by simp only [jA, jO, jN, seval, y3, vint, TyS, TyF, BdS, Int.cast_ofNat_Int, d0, d1, d2, d3, d4, d5, d6, d7, d8, d9, d10] <;> with_reducible rfl) (by decide) ?_
  repeat (refine awp_seq ?_)
  refine awp_cond_false rfl (by simp only [jN, seval, vint, TyS, TyF, BdS, Int.cast_ofNat_Int, d0, d1, d2, d3, d4, d5, d6, d7, d8, d9, d10] <;> with_reducible rfl) ?_
  repeat (refine awp_seq ?_)
  refine e_eval (by simp only [jA, jO, jN, seval, y3, vint, TyS, TyF, BdS, Int.cast_ofNat_Int, d0, d1, d2, d3, d4, d5, d6, d7, d8, d9, d10] <;> with_reducible rfl) (by decide) ?_
  repeat (refine awp_seq ?_)
  refine awp_cond_true rfl (by simp only [jN, seval, vint, TyS, TyF, BdS, Int.cast_ofNat_Int, d0, d1, d2, d3, d4, d5, d6, d7, d8, d9, d10] <;> with_reducible rfl) ?_
  repeat (refine awp_seq ?_)
  refine awp_skip ?_
  repeat (refine awp_seq ?_)
  refine awp_cond_true rfl (by simp only [jN, seval, vint, TyS, TyF, BdS, Int.cast_ofNat_Int, d0, d1, d2, d3, d4, d5, d6, d7, d8, d9, d10] <;> with_reducible rfl) ?_
  repeat (refine awp_seq ?_)
  refine awp_skip ?_
  repeat (refine awp_seq ?_)
  refine awp_region ?_
  refine aops_gstart ?_
  refine g_take 5 (by simp only [jG, jO, jN, seval, y27, y29, vint, TyS, TyF, BdS, Int.cast_ofNat_Int, d0, d1, d2, d3, d4, d5, d6, d7, d8, d9, d10] <;> with_reducible rfl) (by decide) ?_
  refine aops_gpure (by simp only [jE, jN, seval, vint, TyS, TyF, BdS, Int.cast_ofNat_Int, d0, d1, d2, d3, d4, d5, d6, d7, d8, d9, d10] <;> with_reducible rfl) (by simp only [jE, jN, seval, vint, TyS, TyF, BdS, Int.cast_ofNat_Int, d0, d1, d2, d3, d4, d5, d6, d7, d8, d9, d10] <;> with_reducible rfl) (by simp only [jE, jN, seval, vint, TyS, TyF, BdS, Int.cast_ofNat_Int, d0, d1, d2, d3, d4, d5, d6, d7, d8, d9, d10]) (by decide) Trygo67 (fun hc => inRange _ _ _ _) ?_
  refine g_end (by simp only [jG, jO, jN, seval, y3, y29, vint, TyS, TyF, BdS, Int.cast_ofNat_Int, d0, d1, d2, d3, d4, d5, d6, d7, d8, d9, d10] <;> with_reducible rfl) (by decide) (by repeat (first | exact Fin.base _ | with_reducible apply Fin.keep | apply Fin.drop)) ?_
  repeat (refine awp_seq ?_)
  refine awp_cond rfl (by simp only [jN, seval, vint, TyS, TyF, BdS, Int.cast_ofNat_Int, d0, d1, d2, d3, d4, d5, d6, d7, d8, d9, d10] <;> with_reducible rfl) (fun bt54 => ?_) (fun bt54 => ?_)
  ·
    have hn : nwf t = false := by
      unfold nwf
      simp only [d0, d1, d2, d3, d4, d5, d6, d7, d8, d9, d10, Bool.or_false, Bool.or_true, Bool.false_or, Bool.true_or, if_true, if_false, Bool.false_eq_true]
      rw [Bool.eq_false_iff]
      intro hh
      simp only [Bool.or_eq_true, Bool.and_eq_true, Bool.not_eq_true', Bool.and_eq_false_iff, Bool.or_eq_false_iff, Bool.not_eq_false', decide_eq_true_eq, decide_eq_false_iff_not] at hh bt54
      omega
    have hwf : wfT t = false := by rw [wfT_eq, hn]; rfl
    refine awp_sel [] (by simp only [jN, seval, vint, TyS, TyF, BdS, Int.cast_ofNat_Int, d0, d1, d2, d3, d4, d5, d6, d7, d8, d9, d10] <;> with_reducible rfl) ?_
    repeat (refine awp_seq ?_)
    refine e_eval (by simp only [jA, jO, jN, seval, vint, TyS, TyF, BdS, Int.cast_ofNat_Int, d0, d1, d2, d3, d4, d5, d6, d7, d8, d9, d10] <;> with_reducible rfl) (by decide) ?_
    repeat (refine awp_seq ?_)
    refine awp_ret ⟨.inr rfl, _, rfl, ?_⟩
    rw [hwf]; rfl
  ·
    have hn : nwf t = true := by
      unfold nwf
      simp only [d0, d1, d2, d3, d4, d5, d6, d7, d8, d9, d10, Bool.or_false, Bool.or_true, Bool.false_or, Bool.true_or, if_true, if_false, Bool.false_eq_true]
      simp only [Bool.or_eq_true, Bool.and_eq_true, Bool.not_eq_true', Bool.and_eq_false_iff, Bool.or_eq_false_iff, Bool.not_eq_false', decide_eq_true_eq, decide_eq_false_iff_not] at bt54 ⊢
      omega
    repeat (refine awp_seq ?_)
    refine awp_skip ?_
    refine awp_sel [1] (by simp only [jN, seval, vint, TyS, TyF, BdS, Int.cast_ofNat_Int, d0, d1, d2, d3, d4, d5, d6, d7, d8, d9, d10] <;> with_reducible rfl) ?_
    repeat (refine awp_seq ?_)
    refine e_eval (by simp only [jA, jO, jN, seval, y27, y29, vint, TyS, TyF, BdS, Int.cast_ofNat_Int, d0, d1, d2, d3, d4, d5, d6, d7, d8, d9, d10] <;> with_reducible rfl) (by decide) ?_
    repeat (refine awp_seq ?_)
    refine awp_forS (σ := Unit) (t.args.length) (fun (s : Unit) => [(56, .slice (t.args.map Ty.enc) .none)]) [56] ([]) (fun (s : Unit) => []) (fun (i : Nat) (s : Unit) => (t.args.take i).any (fun u => !wfT u) = false) (()) (_) rfl rfl rfl rfl rfl rfl rfl rfl rfl (by decide) (by decide) (by decide) (fun _ => rfl) (hw.lenMax) ⟨(by first | rfl | (simp only [jN, seval, vint, TyS, TyF, BdS, Int.cast_ofNat_Int, d0, d1, d2, d3, d4, d5, d6, d7, d8, d9, d10] <;> first | done | with_reducible rfl)), (by first | rfl | (simp only [jN, seval, vint, TyS, TyF, BdS, Int.cast_ofNat_Int, d0, d1, d2, d3, d4, d5, d6, d7, d8, d9, d10] <;> first | done | with_reducible rfl)), (by first | rfl | (simp only [jN, seval, vint, TyS, TyF, BdS, Int.cast_ofNat_Int, d0, d1, d2, d3, d4, d5, d6, d7, d8, d9, d10] <;> first | done | with_reducible rfl)), trivial⟩ (by first | rfl | (simp only [jN, seval, vint, TyS, TyF, BdS, Int.cast_ofNat_Int, d0, d1, d2, d3, d4, d5, d6, d7, d8, d9, d10] <;> first | done | with_reducible rfl)) (by simp) (fun _ _ _ => by first | exact Nat.zero_le _ | (simp only [List.length_append]; omega)) ?_ ?_ ?_
    · exact fun i s hg => ⟨by first | exact hbel_nil _ | (simp only [List.append_nil]; assumption) | (refine hbel_app' hb' (by simp) ?_; repeat (first | exact hbel_nil _ | exact trivial | exact obel_row_nil _ | (refine HBel.cons ?_ ?_) | (refine obel_row_cons (by first | exact bel_Bd _ _ | exact Bd.bel _ _ | exact bel_int_tok _ (by simp) | exact bel_ints0 _ _ | exact bel_slice_ty _ _ | exact Ty.bel _ _ | exact bel_ty_tok _ (by simp) | exact Bel.int _ _ | exact Bel.bool _ | exact Bel.str _ | exact Bel.nilp | exact Bel.nilfn | exact Bel.optr _ _ (by simp) | exact bel_nil0 _ | exact bel_nil1 _ | exact bel_fn0 _ _ | assumption) ?_))), by repeat (first | exact BelL.nil | refine BelL.cons (by first | exact bel_Bd _ _ | exact Bd.bel _ _ | exact bel_int_tok _ (by simp) | exact bel_ints0 _ _ | exact bel_slice_ty _ _ | exact Ty.bel _ _ | exact bel_ty_tok _ (by simp) | exact Bel.int _ _ | exact Bel.bool _ | exact Bel.str _ | exact Bel.nilp | exact Bel.nilfn | exact Bel.optr _ _ (by simp) | exact bel_nil0 _ | exact bel_nil1 _ | exact bel_fn0 _ _ | assumption) ?_)⟩
    · intro i s hi hg
      have g1 := ix_nat hi
      have g2 := get_enc Ty.enc hi
      have hmem : t.args[i] ∈ t.args := List.getElem_mem hi
      repeat (refine awp_seq ?_)
      refine e_eval (by simp only [jA, jO, jN, seval, y27, y29, vint, TyS, TyF, BdS, Int.cast_ofNat_Int, d0, d1, d2, d3, d4, d5, d6, d7, d8, d9, d10, g1, g2, Int.toNat_natCast] <;> with_reducible rfl) (by decide) ?_
      repeat (refine awp_seq ?_)
      refine awp_region ?_
      refine e_take 1 (by simp only [jA, jO, jN, seval, y29, vint, TyS, TyF, BdS, Int.cast_ofNat_Int, d0, d1, d2, d3, d4, d5, d6, d7, d8, d9, d10, g1, g2, Int.toNat_natCast] <;> with_reducible rfl) (by decide) ?_
      refine aops_pure (by simp only [jC, jN, seval, vint, TyS, TyF, BdS, Int.cast_ofNat_Int, d0, d1, d2, d3, d4, d5, d6, d7, d8, d9, d10, g1, g2, Int.toNat_natCast] <;> with_reducible rfl) (by simp only [jC, jN, seval, vint, TyS, TyF, BdS, Int.cast_ofNat_Int, d0, d1, d2, d3, d4, d5, d6, d7, d8, d9, d10, g1, g2, Int.toNat_natCast]) (by decide) Trygo40 (ih t.args[i] hmem _) ?_
      refine e_end (by simp only [jA, jO, jN, seval, vint, TyS, TyF, BdS, Int.cast_ofNat_Int, d0, d1, d2, d3, d4, d5, d6, d7, d8, d9, d10, g1, g2, Int.toNat_natCast] <;> with_reducible rfl) (by decide) ?_
      repeat (refine awp_seq ?_)
      refine awp_cond rfl (by simp only [jN, seval, vint, TyS, TyF, BdS, Int.cast_ofNat_Int, d0, d1, d2, d3, d4, d5, d6, d7, d8, d9, d10, g1, g2, Int.toNat_natCast] <;> with_reducible rfl) (fun bt64 => ?_) (fun bt64 => ?_)
      ·
        have hbad : (t.args.any fun u => !wfT u) = true := List.any_eq_true.2 ⟨_, hmem, bt64⟩
        have hwf : wfT t = false := by rw [wfT_eq, hn, hbad]; rfl
        repeat (refine awp_seq ?_)
        refine e_eval (by simp only [jA, jO, jN, seval, vint, TyS, TyF, BdS, Int.cast_ofNat_Int, d0, d1, d2, d3, d4, d5, d6, d7, d8, d9, d10, g1, g2, Int.toNat_natCast] <;> with_reducible rfl) (by decide) ?_
        repeat (refine awp_seq ?_)
        refine awp_ret ⟨.inr rfl, _, rfl, ?_⟩
        rw [hwf]; rfl
      ·
        repeat (refine awp_seq ?_)
        refine awp_skip ?_
        exact ⟨⟨rfl, rfl, trivial⟩, (), _, ⟨rfl, trivial⟩, rfl, any_take_succ hi hg bt64⟩
    · intro s hg
      rw [List.take_length] at hg
      have hwf : wfT t = true := by rw [wfT_eq, hn, hg]; rfl
      repeat (refine awp_seq ?_)
      refine e_eval (by simp only [jA, jO, jN, seval, vint, TyS, TyF, BdS, Int.cast_ofNat_Int, d0, d1, d2, d3, d4, d5, d6, d7, d8, d9, d10] <;> with_reducible rfl) (by decide) ?_
      repeat (refine awp_seq ?_)
      refine awp_ret ⟨.inr rfl, _, rfl, ?_⟩
      rw [hwf]; rfl

theorem typeWF_4 (t : Ty) (hk : t.kind = 4) (hw : t.W) (ih : ∀ u ∈ t.args, PC Try.prog 40 [u.enc] (.bool (wfT u))) : PC Try.prog 40 [t.enc] (.bool (wfT t)) := by
  have hlen0 : (0 : Int) ≤ (t.args.length : Int) := by omega
  have d0 : decide (t.kind = 0) = false := decide_eq_false (by omega)
  have d1 : decide (t.kind = 1) = false := decide_eq_false (by omega)
  have d2 : decide (t.kind = 2) = false := decide_eq_false (by omega)
  have d3 : decide (t.kind = 3) = false := decide_eq_false (by omega)
  have d4 : decide (t.kind = 4) = true := decide_eq_true hk
  have d5 : decide (t.kind = 5) = false := decide_eq_false (by omega)
  have d6 : decide (t.kind = 6) = false := decide_eq_false (by omega)
  have d7 : decide (t.kind = 7) = false := decide_eq_false (by omega)
  have d8 : decide (t.kind = 8) = false := decide_eq_false (by omega)
  have d9 : decide (t.kind = 9) = false := decide_eq_false (by omega)
  have d10 : decide (t.kind = 10) = false := decide_eq_false (by omega)
  refine pc_of (N := 66) Try.func40 rfl rfl (by simp) (by simp [Ty.bel]) (.bool _) ?_
  repeat (refine awp_seq ?_)
  refine e_eval (by simp only [jA, jO, jN, seval, y29, vint, TyS, TyF, BdS, Int.cast_ofNat_Int, d0, d1, d2, d3, d4, d5, d6, d7, d8, d9, d10] <;> with_reducible rfl) (by decide) ?_
  repeat (refine awp_seq ?_)
  refine e_eval (by simp only [jA, jO, jN, seval, vint, TyS, TyF, BdS, Int.cast_ofNat_Int, d0, d1, d2, d3, d4, d5, d6, d7, d8, d9, d10] <;> with_reducible rfl) (by decide) ?_
  repeat (refine awp_seq ?_)
  refine e_eval (by simp only [jA, jO, jN, seval, y3, y29, vint, TyS, TyF, BdS, Int.cast_ofNat_Int, d0, d1, d2, d3, d4, d5, d6, d7, d8, d9, d10] <;> with_reducible rfl) (by decide) ?_
  repeat (refine awp_seq ?_)
  refine awp_block ?_
  repeat (refine awp_seq ?_)
  refine e_eval (by simp only [jA, jO, jN, seval, y3, vint, TyS, TyF, BdS, Int.cast_ofNat_Int, d0, d1, d2, d3, d4, d5, d6, d7, d8, d9, d10] <;> with_reducible rfl) (by decide) ?_
  repeat (refine awp_seq ?_)
  refine awp_cond_false rfl (by simp only [jN, seval, vint, TyS, TyF, BdS, Int.cast_ofNat_Int, d0, d1, d2, d3, d4, d5, d6, d7, d8, d9, d10] <;> with_reducible rfl) ?_
  repeat (refine awp_seq ?_)
  refine e_eval (by simp only [jA, jO, jN, seval, y3, vint, TyS, TyF, BdS, Int.cast_ofNat_Int, d0, d1, d2, d3, d4, d5, d6, d7, d8, d9, d10] <;> with_reducible rfl) (by decide) ?_
  repeat (refine awp_seq ?_)
  refine awp_cond_false rfl (by simp only [jN, seval, vint, TyS, TyF, BdS, Int.cast_ofNat_Int, d0, d1, d2, d3, d4, d5, d6, d7, d8, d9, d10] <;> with_reducible rfl) ?_
  repeat (refine awp_seq ?_)
  refine e_eval (by simp only [jA, jO, jN, seval, y3, vint, TyS, TyF, BdS, Int.cast_ofNat_Int, d0, d1, d2, d3, d4, d5, d6, d7, d8, d9, d10] <;> with_reducible rfl) (by decide) ?_
  repeat (refine awp_seq ?_)
  refine awp_cond_true rfl (by simp only [jN, seval, vint, TyS, TyF, BdS, Int.cast_ofNat_Int, d0, d1, d2, d3, d4, d5, d6, d7, d8, d9, d10] <;> with_reducible rfl) ?_
  repeat (refine awp_seq ?_)
  refine awp_skip ?_
  repeat (refine awp_seq ?_)
  refine awp_cond_true rfl (by simp only [jN, seval, vint, TyS, TyF, BdS, Int.cast_ofNat_Int, d0, d1, d2, d3, d4, d5, d6, d7, d8, d9, d10] <;> with_reducible rfl) ?_
  repeat (refine awp_seq ?_)
  refine awp_skip ?_
  repeat (refine awp_seq ?_)
  refine awp_region ?_
  refine aops_gstart ?_
  refine g_take 5 (by simp only [jG, jO, jN, seval, y27, y29, vint, TyS, TyF, BdS, Int.cast_ofNat_Int, d0, d1, d2, d3, d4, d5, d6, d7, d8, d9, d10] <;> with_reducible rfl) (by decide) ?_
  refine aops_gpure (by simp only [jE, jN, seval, vint, TyS, TyF, BdS, Int.cast_ofNat_Int, d0, d1, d2, d3, d4, d5, d6, d7, d8, d9, d10] <;> with_reducible rfl) (by simp only [jE, jN, seval, vint, TyS, TyF, BdS, Int.cast_ofNat_Int, d0, d1, d2, d3, d4, d5, d6, d7, d8, d9, d10] <;> with_reducible rfl) (by simp only [jE, jN, seval, vint, TyS, TyF, BdS, Int.cast_ofNat_Int, d0, d1, d2, d3, d4, d5, d6, d7, d8, d9, d10]) (by decide) Trygo67 (fun hc => inRange _ _ _ _) ?_
  refine g_end (by simp only [jG, jO, jN, seval, y3, y29, vint, TyS, TyF, BdS, Int.cast_ofNat_Int, d0, d1, d2, d3, d4, d5, d6, d7, d8, d9, d10] <;> with_reducible rfl) (by decide) (by repeat (first | exact Fin.base _ | with_reducible apply Fin.keep | apply Fin.drop)) ?_
  repeat (refine awp_seq ?_)
  refine awp_cond rfl (by simp only [jN, seval, vint, TyS, TyF, BdS, Int.cast_ofNat_Int, d0, d1, d2, d3, d4, d5, d6, d7, d8, d9, d10] <;> with_reducible rfl) (fun bt54 => ?_) (fun bt54 => ?_)
  ·
    have hn : nwf t = false := by
      unfold nwf
      simp only [d0, d1, d2, d3, d4, d5, d6, d7, d8, d9, d10, Bool.or_false, Bool.or_true, Bool.false_or, Bool.true_or, if_true, if_false, Bool.false_eq_true]
      rw [Bool.eq_false_iff]
      intro hh
      simp only [Bool.or_eq_true, Bool.and_eq_true, Bool.not_eq_true', Bool.and_eq_false_iff, Bool.or_eq_false_iff, Bool.not_eq_false', decide_eq_true_eq, decide_eq_false_iff_not] at hh bt54
      omega
    have hwf : wfT t = false := by rw [wfT_eq, hn]; rfl
    refine awp_sel [] (by simp only [jN, seval, vint, TyS, TyF, BdS, Int.cast_ofNat_Int, d0, d1, d2, d3, d4, d5, d6, d7, d8, d9, d10] <;> with_reducible rfl) ?_
    repeat (refine awp_seq ?_)
    refine e_eval (by simp only [jA, jO, jN, seval, vint, TyS, TyF, BdS, Int.cast_ofNat_Int, d0, d1, d2, d3, d4, d5, d6, d7, d8, d9, d10] <;> with_reducible rfl) (by decide) ?_
    repeat (refine awp_seq ?_)
    refine awp_ret ⟨.inr rfl, _, rfl, ?_⟩
    rw [hwf]; rfl
  ·
    have hn : nwf t = true := by
      unfold nwf
      simp only [d0, d1, d2, d3, d4, d5, d6, d7, d8, d9, d10, Bool.or_false, Bool.or_true, Bool.false_or, Bool.true_or, if_true, if_false, Bool.false_eq_true]
      simp only [Bool.or_eq_true, Bool.and_eq_true, Bool.not_eq_true', Bool.and_eq_false_iff, Bool.or_eq_false_iff, Bool.not_eq_false', decide_eq_true_eq, decide_eq_false_iff_not] at bt54 ⊢
      omega
    repeat (refine awp_seq ?_)
    refine awp_skip ?_
    refine awp_sel [1] (by simp only [jN, seval, vint, TyS, TyF, BdS, Int.cast_ofNat_Int, d0, d1, d2, d3, d4, d5, d6, d7, d8, d9, d10] <;> with_reducible rfl) ?_
    repeat (refine awp_seq ?_)
    refine e_eval (by simp only [jA, jO, jN, seval, y27, y29, vint, TyS, TyF, BdS, Int.cast_ofNat_Int, d0, d1, d2, d3, d4, d5, d6, d7, d8, d9, d10] <;> with_reducible rfl) (by decide) ?_
    repeat (refine awp_seq ?_)
    refine awp_forS (σ := Unit) (t.args.length) (fun (s : Unit) => [(56, .slice (t.args.map Ty.enc) .none)]) [56] ([]) (fun (s : Unit) => []) (fun (i : Nat) (s : Unit) => (t.args.take i).any (fun u => !wfT u) = false) (()) (_) rfl rfl rfl rfl rfl rfl rfl rfl rfl (by decide) (by decide) (by decide) (fun _ => rfl) (hw.lenMax) ⟨(by first | rfl | (simp only [jN, seval, vint, TyS, TyF, BdS, Int.cast_ofNat_Int, d0, d1, d2, d3, d4, d5, d6, d7, d8, d9, d10] <;> first | done | with_reducible rfl)), (by first | rfl | (simp only [jN, seval, vint, TyS, TyF, BdS, Int.cast_ofNat_Int, d0, d1, d2, d3, d4, d5, d6, d7, d8, d9, d10] <;> first | done | with_reducible rfl)), (by first | rfl | (simp only [jN, seval, vint, TyS, TyF, BdS, Int.cast_ofNat_Int, d0, d1, d2, d3, d4, d5, d6, d7, d8, d9, d10] <;> first | done | with_reducible rfl)), trivial⟩ (by first | rfl | (simp only [jN, seval, vint, TyS, TyF, BdS, Int.cast_ofNat_Int, d0, d1, d2, d3, d4, d5, d6, d7, d8, d9, d10] <;> first | done | with_reducible rfl)) (by simp) (fun _ _ _ => by first | exact Nat.zero_le _ | (simp only [List.length_append]; omega)) ?_ ?_ ?_
    · exact fun i s hg => ⟨by first | exact hbel_nil _ | (simp only [List.append_nil]; assumption) | (refine hbel_app' hb' (by simp) ?_; repeat (first | exact hbel_nil _ | exact trivial | exact obel_row_nil _ | (refine HBel.cons ?_ ?_) | (refine obel_row_cons (by first | exact bel_Bd _ _ | exact Bd.bel _ _ | exact bel_int_tok _ (by simp) | exact bel_ints0 _ _ | exact bel_slice_ty _ _ | exact Ty.bel _ _ | exact bel_ty_tok _ (by simp) | exact Bel.int _ _ | exact Bel.bool _ | exact Bel.str _ | exact Bel.nilp | exact Bel.nilfn | exact Bel.optr _ _ (by simp) | exact bel_nil0 _ | exact bel_nil1 _ | exact bel_fn0 _ _ | assumption) ?_))), by repeat (first | exact BelL.nil | refine BelL.cons (by first | exact bel_Bd _ _ | exact Bd.bel _ _ | exact bel_int_tok _ (by simp) | exact bel_ints0 _ _ | exact bel_slice_ty _ _ | exact Ty.bel _ _ | exact bel_ty_tok _ (by simp) | exact Bel.int _ _ | exact Bel.bool _ | exact Bel.str _ | exact Bel.nilp | exact Bel.nilfn | exact Bel.optr _ _ (by simp) | exact bel_nil0 _ | exact bel_nil1 _ | exact bel_fn0 _ _ | assumption) ?_)⟩
    · intro i s hi hg
      have g1 := ix_nat hi
      have g2 := get_enc Ty.enc hi
      have hmem : t.args[i] ∈ t.args := List.getElem_mem hi
      repeat (refine awp_seq ?_)
      refine e_eval (by simp only [jA, jO, jN, seval, y27, y29, vint, TyS, TyF, BdS, Int.cast_ofNat_Int, d0, d1, d2, d3, d4, d5, d6, d7, d8, d9, d10, g1, g2, Int.toNat_natCast] <;> with_reducible rfl) (by decide) ?_
      repeat (refine awp_seq ?_)
      refine awp_region ?_
      refine e_take 1 (by simp only [jA, jO, jN, seval, y29, vint, TyS, TyF, BdS, Int.cast_ofNat_Int, d0, d1, d2, d3, d4, d5, d6, d7, d8, d9, d10, g1, g2, Int.toNat_natCast] <;> with_reducible rfl) (by decide) ?_
      refine aops_pure (by simp only [jC, jN, seval, vint, TyS, TyF, BdS, Int.cast_ofNat_Int, d0, d1, d2, d3, d4, d5, d6, d7, d8, d9, d10, g1, g2, Int.toNat_natCast] <;> with_reducible rfl) (by simp only [jC, jN, seval, vint, TyS, TyF, BdS, Int.cast_ofNat_Int, d0, d1, d2, d3, d4, d5, d6, d7, d8, d9, d10, g1, g2, Int.toNat_natCast]) (by decide) Trygo40 (ih t.args[i] hmem _) ?_
      refine e_end (by simp only [jA, jO, jN, seval, vint, TyS, TyF, BdS, Int.cast_ofNat_Int, d0, d1, d2, d3, d4, d5, d6, d7, d8, d9, d10, g1, g2, Int.toNat_natCast] <;> with_reducible rfl) (by decide) ?_
      repeat (refine awp_seq ?_)
      refine awp_cond rfl (by simp only [jN, seval, vint, TyS, TyF, BdS, Int.cast_ofNat_Int, d0, d1, d2, d3, d4, d5, d6, d7, d8, d9, d10, g1, g2, Int.toNat_natCast] <;> with_reducible rfl) (fun bt64 => ?_) (fun bt64 => ?_)
      ·
        have hbad : (t.args.any fun u => !wfT u) = true := List.any_eq_true.2 ⟨_, hmem, bt64⟩
        have hwf : wfT t = false := by rw [wfT_eq, hn, hbad]; rfl
        repeat (refine awp_seq ?_)
        refine e_eval (by simp only [jA, jO, jN, seval, vint, TyS, TyF, BdS, Int.cast_ofNat_Int, d0, d1, d2, d3, d4, d5, d6, d7, d8, d9, d10, g1, g2, Int.toNat_natCast] <;> with_reducible rfl) (by decide) ?_
        repeat (refine awp_seq ?_)
        refine awp_ret ⟨.inr rfl, _, rfl, ?_⟩
        rw [hwf]; rfl
      ·
        repeat (refine awp_seq ?_)
        refine awp_skip ?_
        exact ⟨⟨rfl, rfl, trivial⟩, (), _, ⟨rfl, trivial⟩, rfl, any_take_succ hi hg bt64⟩
    · intro s hg
      rw [List.take_length] at hg
      have hwf : wfT t = true := by rw [wfT_eq, hn, hg]; rfl
      repeat (refine awp_seq ?_)
      refine e_eval (by simp only [jA, jO, jN, seval, vint, TyS, TyF, BdS, Int.cast_ofNat_Int, d0, d1, d2, d3, d4, d5, d6, d7, d8, d9, d10] <;> with_reducible rfl) (by decide) ?_
      repeat (refine awp_seq ?_)
      refine awp_ret ⟨.inr rfl, _, rfl, ?_⟩
      rw [hwf]; rfl

theorem typeWF_5 (t : Ty) (hk : t.kind = 5) (hw : t.W) (ih : ∀ u ∈ t.args, PC Try.prog 40 [u.enc] (.bool (wfT u))) : PC Try.prog 40 [t.enc] (.bool (wfT t)) := by
  have hlen0 : (0 : Int) ≤ (t.args.length : Int) := by omega
  have d0 : decide (t.kind = 0) = false := decide_eq_false (by omega)
  have d1 : decide (t.kind = 1) = false := decide_eq_false (by omega)
  have d2 : decide (t.kind = 2) = false := decide_eq_false (by omega)
  have d3 : decide (t.kind = 3) = false := decide_eq_false (by omega)
  have d4 : decide (t.kind = 4) = false := decide_eq_false (by omega)
  have d5 : decide (t.kind = 5) = true := decide_eq_true hk
  have d6 : decide (t.kind = 6) = false := decide_eq_false (by omega)
  have d7 : decide (t.kind = 7) = false := decide_eq_false (by omega)
  have d8 : decide (t.kind = 8) = false := decide_eq_false (by omega)
  have d9 : decide (t.kind = 9) = false := decide_eq_false (by omega)
  have d10 : decide (t.kind = 10) = false := decide_eq_false (by omega)
  refine pc_of (N := 66) Try.func40 rfl rfl (by simp) (by simp [Ty.bel]) (.bool _) ?_
  repeat (refine awp_seq ?_)
  refine e_eval (by simp only [jA, jO, jN, seval, y29, vint, TyS, TyF, BdS, Int.cast_ofNat_Int, d0, d1, d2, d3, d4, d5, d6, d7, d8, d9, d10] <;> with_reducible rfl) (by decide) ?_
  repeat (refine awp_seq ?_)
  refine e_eval (by simp only [jA, jO, jN, seval, vint, TyS, TyF, BdS, Int.cast_ofNat_Int, d0, d1, d2, d3, d4, d5, d6, d7, d8, d9, d10] <;> with_reducible rfl) (by decide) ?_
  repeat (refine awp_seq ?_)
  refine e_eval (by simp only [jA, jO, jN, seval, y3, y29, vint, TyS, TyF, BdS, Int.cast_ofNat_Int, d0, d1, d2, d3, d4, d5, d6, d7, d8, d9, d10] <;> with_reducible rfl) (by decide) ?_
  repeat (refine awp_seq ?_)
  refine awp_block ?_
  repeat (refine awp_seq ?_)
  refine e_eval (by simp only [jA, jO, jN, seval, y3, vint, TyS, TyF, BdS, Int.cast_ofNat_Int, d0, d1, d2, d3, d4, d5, d6, d7, d8, d9, d10] <;> with_reducible rfl) (by decide) ?_
  repeat (refine awp_seq ?_)
  refine awp_cond_false rfl (by simp only [jN, seval, vint, TyS, TyF, BdS, Int.cast_ofNat_Int, d0, d1, d2, d3, d4, d5, d6, d7, d8, d9, d10] <;> with_reducible rfl) ?_
  repeat (refine awp_seq ?_)
  refine e_eval (by simp only [jA, jO, jN, seval, y3, vint, TyS, TyF, BdS, Int.cast_ofNat_Int, d0, d1, d2, d3, d4, d5, d6, d7, d8, d9, d10] <;> with_reducible rfl) (by decide) ?_
  repeat (refine awp_seq ?_)
  refine awp_cond_false rfl (by simp only [jN, seval, vint, TyS, TyF, BdS, Int.cast_ofNat_Int, d0, d1, d2, d3, d4, d5, d6, d7, d8, d9, d10] <;> with_reducible rfl) ?_
  repeat (refine awp_seq ?_)
  refine e_eval (by simp only [jA, jO, jN, seval, y3, vint, TyS, TyF, BdS, Int.cast_ofNat_Int, d0, d1, d2, d3, d4, d5, d6, d7, d8, d9, d10] <;> with_reducible rfl) (by decide) ?_
  repeat (refine awp_seq ?_)
  refine awp_cond_false rfl (by simp only [jN, seval, vint, TyS, TyF, BdS, Int.cast_ofNat_Int, d0, d1, d2, d3, d4, d5, d6, d7, d8, d9, d10] <;> with_reducible rfl) ?_
  repeat (refine awp_seq ?_)
  refine e_eval (by simp only [jA, jO, jN, seval, y3, vint, TyS, TyF, BdS, Int.cast_ofNat_Int, d0, d1, d2, d3, d4, d5, d6, d7, d8, d9, d10] <;> with_reducible rfl) (by decide) ?_
  repeat (refine awp_seq ?_)
  refine awp_cond_true rfl (by simp only [jN, seval, vint, TyS, TyF, BdS, Int.cast_ofNat_Int, d0, d1, d2, d3, d4, d5, d6, d7, d8, d9, d10] <;> with_reducible rfl) ?_
  repeat (refine awp_seq ?_)
  refine awp_skip ?_
  repeat (refine awp_seq ?_)
  refine awp_cond_true rfl (by simp only [jN, seval, vint, TyS, TyF, BdS, Int.cast_ofNat_Int, d0, d1, d2, d3, d4, d5, d6, d7, d8, d9, d10] <;> with_reducible rfl) ?_
  repeat (refine awp_seq ?_)
  refine awp_skip ?_
  refine awp_sel [1, 3, 4, 5] (by simp only [jN, seval, vint, TyS, TyF, BdS, Int.cast_ofNat_Int, d0, d1, d2, d3, d4, d5, d6, d7, d8, d9, d10] <;> with_reducible rfl) ?_
  repeat (refine awp_seq ?_)
  refine awp_region ?_
  refine aops_gstart ?_
  refine g_take 5 (by simp only [jG, jO, jN, seval, y27, y29, vint, TyS, TyF, BdS, Int.cast_ofNat_Int, d0, d1, d2, d3, d4, d5, d6, d7, d8, d9, d10] <;> with_reducible rfl) (by decide) ?_
  refine aops_gpure (by simp only [jE, jN, seval, vint, TyS, TyF, BdS, Int.cast_ofNat_Int, d0, d1, d2, d3, d4, d5, d6, d7, d8, d9, d10] <;> with_reducible rfl) (by simp only [jE, jN, seval, vint, TyS, TyF, BdS, Int.cast_ofNat_Int, d0, d1, d2, d3, d4, d5, d6, d7, d8, d9, d10] <;> with_reducible rfl) (by simp only [jE, jN, seval, vint, TyS, TyF, BdS, Int.cast_ofNat_Int, d0, d1, d2, d3, d4, d5, d6, d7, d8, d9, d10]) (by decide) Trygo67 (fun hc => inRange _ _ _ _) ?_
  refine g_end (by simp only [jG, jO, jN, seval, y3, y29, vint, TyS, TyF, BdS, Int.cast_ofNat_Int, d0, d1, d2, d3, d4, d5, d6, d7, d8, d9, d10] <;> with_reducible rfl) (by decide) (by repeat (first | exact Fin.base _ | with_reducible apply Fin.keep | apply Fin.drop)) ?_
  repeat (refine awp_seq ?_)
  refine awp_cond rfl (by simp only [jN, seval, vint, TyS, TyF, BdS, Int.cast_ofNat_Int, d0, d1, d2, d3, d4, d5, d6, d7, d8, d9, d10] <;> with_reducible rfl) (fun bt54 => ?_) (fun bt54 => ?_)
  ·
    have hn : nwf t = false := by
      unfold nwf
      simp only [d0, d1, d2, d3, d4, d5, d6, d7, d8, d9, d10, Bool.or_false, Bool.or_true, Bool.false_or, Bool.true_or, if_true, if_false, Bool.false_eq_true]
      rw [Bool.eq_false_iff]
      intro hh
      simp only [Bool.or_eq_true, Bool.and_eq_true, Bool.not_eq_true', Bool.and_eq_false_iff, Bool.or_eq_false_iff, Bool.not_eq_false', decide_eq_true_eq, decide_eq_false_iff_not] at hh bt54
      omega
    have hwf : wfT t = false := by rw [wfT_eq, hn]; rfl
    refine awp_sel [] (by simp only [jN, seval, vint, TyS, TyF, BdS, Int.cast_ofNat_Int, d0, d1, d2, d3, d4, d5, d6, d7, d8, d9, d10] <;> with_reducible rfl) ?_
    repeat (refine awp_seq ?_)
    refine e_eval (by simp only [jA, jO, jN, seval, vint, TyS, TyF, BdS, Int.cast_ofNat_Int, d0, d1, d2, d3, d4, d5, d6, d7, d8, d9, d10] <;> with_reducible rfl) (by decide) ?_
    repeat (refine awp_seq ?_)
    refine awp_ret ⟨.inr rfl, _, rfl, ?_⟩
    rw [hwf]; rfl
  ·
    have hn : nwf t = true := by
      unfold nwf
      simp only [d0, d1, d2, d3, d4, d5, d6, d7, d8, d9, d10, Bool.or_false, Bool.or_true, Bool.false_or, Bool.true_or, if_true, if_false, Bool.false_eq_true]
      simp only [Bool.or_eq_true, Bool.and_eq_true, Bool.not_eq_true', Bool.and_eq_false_iff, Bool.or_eq_false_iff, Bool.not_eq_false', decide_eq_true_eq, decide_eq_false_iff_not] at bt54 ⊢
      omega
    repeat (refine awp_seq ?_)
    refine awp_skip ?_
    refine awp_sel [1] (by simp only [jN, seval, vint, TyS, TyF, BdS, Int.cast_ofNat_Int, d0, d1, d2, d3, d4, d5, d6, d7, d8, d9, d10] <;> with_reducible rfl) ?_
    repeat (refine awp_seq ?_)
    refine e_eval (by simp only [jA, jO, jN, seval, y27, y29, vint, TyS, TyF, BdS, Int.cast_ofNat_Int, d0, d1, d2, d3, d4, d5, d6, d7, d8, d9, d10] <;> with_reducible rfl) (by decide) ?_
    repeat (refine awp_seq ?_)
    refine awp_forS (σ := Unit) (t.args.length) (fun (s : Unit) => [(56, .slice (t.args.map Ty.enc) .none)]) [56] ([]) (fun (s : Unit) => []) (fun (i : Nat) (s : Unit) => (t.args.take i).any (fun u => !wfT u) = false) (()) (_) rfl rfl rfl rfl rfl rfl rfl rfl rfl (by decide) (by decide) (by decide) (fun _ => rfl) (hw.lenMax) ⟨(by first | rfl | (simp only [jN, seval, vint, TyS, TyF, BdS, Int.cast_ofNat_Int, d0, d1, d2, d3, d4, d5, d6, d7, d8, d9, d10] <;> first | done | with_reducible rfl)), (by first | rfl | (simp only [jN, seval, vint, TyS, TyF, BdS, Int.cast_ofNat_Int, d0, d1, d2, d3, d4, d5, d6, d7, d8, d9, d10] <;> first | done | with_reducible rfl)), (by first | rfl | (simp only [jN, seval, vint, TyS, TyF, BdS, Int.cast_ofNat_Int, d0, d1, d2, d3, d4, d5, d6, d7, d8, d9, d10] <;> first | done | with_reducible rfl)), trivial⟩ (by first | rfl | (simp only [jN, seval, vint, TyS, TyF, BdS, Int.cast_ofNat_Int, d0, d1, d2, d3, d4, d5, d6, d7, d8, d9, d10] <;> first | done | with_reducible rfl)) (by simp) (fun _ _ _ => by first | exact Nat.zero_le _ | (simp only [List.length_append]; omega)) ?_ ?_ ?_
    · exact fun i s hg => ⟨by first | exact hbel_nil _ | (simp only [List.append_nil]; assumption) | (refine hbel_app' hb' (by simp) ?_; repeat (first | exact hbel_nil _ | exact trivial | exact obel_row_nil _ | (refine HBel.cons ?_ ?_) | (refine obel_row_cons (by first | exact bel_Bd _ _ | exact Bd.bel _ _ | exact bel_int_tok _ (by simp) | exact bel_ints0 _ _ | exact bel_slice_ty _ _ | exact Ty.bel _ _ | exact bel_ty_tok _ (by simp) | exact Bel.int _ _ | exact Bel.bool _ | exact Bel.str _ | exact Bel.nilp | exact Bel.nilfn | exact Bel.optr _ _ (by simp) | exact bel_nil0 _ | exact bel_nil1 _ | exact bel_fn0 _ _ | assumption) ?_))), by repeat (first | exact BelL.nil | refine BelL.cons (by first | exact bel_Bd _ _ | exact Bd.bel _ _ | exact bel_int_tok _ (by simp) | exact bel_ints0 _ _ | exact bel_slice_ty _ _ | exact Ty.bel _ _ | exact bel_ty_tok _ (by simp) | exact Bel.int _ _ | exact Bel.bool _ | exact Bel.str _ | exact Bel.nilp | exact Bel.nilfn | exact Bel.optr _ _ (by simp) | exact bel_nil0 _ | exact bel_nil1 _ | exact bel_fn0 _ _ | assumption) ?_)⟩
    · intro i s hi hg
      have g1 := ix_nat hi
      have g2 := get_enc Ty.enc hi
      have hmem : t.args[i] ∈ t.args := List.getElem_mem hi
      repeat (refine awp_seq ?_)
      refine e_eval (by simp only [jA, jO, jN, seval, y27, y29, vint, TyS, TyF, BdS, Int.cast_ofNat_Int, d0, d1, d2, d3, d4, d5, d6, d7, d8, d9, d10, g1, g2, Int.toNat_natCast] <;> with_reducible rfl) (by decide) ?_
      repeat (refine awp_seq ?_)
      refine awp_region ?_
      refine e_take 1 (by simp only [jA, jO, jN, seval, y29, vint, TyS, TyF, BdS, Int.cast_ofNat_Int, d0, d1, d2, d3, d4, d5, d6, d7, d8, d9, d10, g1, g2, Int.toNat_natCast] <;> with_reducible rfl) (by decide) ?_
      refine aops_pure (by simp only [jC, jN, seval, vint, TyS, TyF, BdS, Int.cast_ofNat_Int, d0, d1, d2, d3, d4, d5, d6, d7, d8, d9, d10, g1, g2, Int.toNat_natCast] <;> with_reducible rfl) (by simp only [jC, jN, seval, vint, TyS, TyF, BdS, Int.cast_ofNat_Int, d0, d1, d2, d3, d4, d5, d6, d7, d8, d9, d10, g1, g2, Int.toNat_natCast]) (by decide) Trygo40 (ih t.args[i] hmem _) ?_
      refine e_end (by simp only [jA, jO, jN, seval, vint, TyS, TyF, BdS, Int.cast_ofNat_Int, d0, d1, d2, d3, d4, d5, d6, d7, d8, d9, d10, g1, g2, Int.toNat_natCast] <;> with_reducible rfl) (by decide) ?_
      repeat (refine awp_seq ?_)
      refine awp_cond rfl (by simp only [jN, seval, vint, TyS, TyF, BdS, Int.cast_ofNat_Int, d0, d1, d2, d3, d4, d5, d6, d7, d8, d9, d10, g1, g2, Int.toNat_natCast] <;> with_reducible rfl) (fun bt64 => ?_) (fun bt64 => ?_)
      ·
        have hbad : (t.args.any fun u => !wfT u) = true := List.any_eq_true.2 ⟨_, hmem, bt64⟩
        have hwf : wfT t = false := by rw [wfT_eq, hn, hbad]; rfl
        repeat (refine awp_seq ?_)
        refine e_eval (by simp only [jA, jO, jN, seval, vint, TyS, TyF, BdS, Int.cast_ofNat_Int, d0, d1, d2, d3, d4, d5, d6, d7, d8, d9, d10, g1, g2, Int.toNat_natCast] <;> with_reducible rfl) (by decide) ?_
        repeat (refine awp_seq ?_)
        refine awp_ret ⟨.inr rfl, _, rfl, ?_⟩
        rw [hwf]; rfl
      ·
        repeat (refine awp_seq ?_)
        refine awp_skip ?_
        exact ⟨⟨rfl, rfl, trivial⟩, (), _, ⟨rfl, trivial⟩, rfl, any_take_succ hi hg bt64⟩
    · intro s hg
      rw [List.take_length] at hg
      have hwf : wfT t = true := by rw [wfT_eq, hn, hg]; rfl
      repeat (refine awp_seq ?_)
      refine e_eval (by simp only [jA, jO, jN, seval, vint, TyS, TyF, BdS, Int.cast_ofNat_Int, d0, d1, d2, d3, d4, d5, d6, d7, d8, d9, d10] <;> with_reducible rfl) (by decide) ?_
      repeat (refine awp_seq ?_)
      refine awp_ret ⟨.inr rfl, _, rfl, ?_⟩
      rw [hwf]; rfl

theorem typeWF_6 (t : Ty) (hk : t.kind = 6) (hw : t.W) (ih : ∀ u ∈ t.args, PC Try.prog 40 [u.enc] (.bool (wfT u))) : PC Try.prog 40 [t.enc] (.bool (wfT t)) := by
  have hlen0 : (0 : Int) ≤ (t.args.length : Int) := by omega
  have d0 : decide (t.kind = 0) = false := decide_eq_false (by omega)
  have d1 : decide (t.kind = 1) = false := decide_eq_false (by omega)
  have d2 : decide (t.kind = 2) = false := decide_eq_false (by omega)
  have d3 : decide (t.kind = 3) = false := decide_eq_false (by omega)
  have d4 : decide (t.kind = 4) = false := decide_eq_false (by omega)
  have d5 : decide (t.kind = 5) = false := decide_eq_false (by omega)
  have d6 : decide (t.kind = 6) = true := decide_eq_true hk
  have d7 : decide (t.kind = 7) = false := decide_eq_false (by omega)
  have d8 : decide (t.kind = 8) = false := decide_eq_false (by omega)
  have d9 : decide (t.kind = 9) = false := decide_eq_false (by omega)
  have d10 : decide (t.kind = 10) = false := decide_eq_false (by omega)
  refine pc_of (N := 66) Try.func40 rfl rfl (by simp) (by simp [Ty.bel]) (.bool _) ?_
  repeat (refine awp_seq ?_)
  refine e_eval (by simp only [jA, jO, jN, seval, y29, vint, TyS, TyF, BdS, Int.cast_ofNat_Int, d0, d1, d2, d3, d4, d5, d6, d7, d8, d9, d10] <;> with_reducible rfl) (by decide) ?_
  repeat (refine awp_seq ?_)
  refine e_eval (by simp only [jA, jO, jN, seval, vint, TyS, TyF, BdS, Int.cast_ofNat_Int, d0, d1, d2, d3, d4, d5, d6, d7, d8, d9, d10] <;> with_reducible rfl) (by decide) ?_
  repeat (refine awp_seq ?_)
  refine e_eval (by simp only [jA, jO, jN, seval, y3, y29, vint, TyS, TyF, BdS, Int.cast_ofNat_Int, d0, d1, d2, d3, d4, d5, d6, d7, d8, d9, d10] <;> with_reducible rfl) (by decide) ?_
  repeat (refine awp_seq ?_)
  refine awp_block ?_
  repeat (refine awp_seq ?_)
  refine e_eval (by simp only [jA, jO, jN, seval, y3, vint, TyS, TyF, BdS, Int.cast_ofNat_Int, d0, d1, d2, d3, d4, d5, d6, d7, d8, d9, d10] <;> with_reducible rfl) (by decide) ?_
  repeat (refine awp_seq ?_)
  refine awp_cond_false rfl (by simp only [jN, seval, vint, TyS, TyF, BdS, Int.cast_ofNat_Int, d0, d1, d2, d3, d4, d5, d6, d7, d8, d9, d10] <;> with_reducible rfl) ?_
  repeat (refine awp_seq ?_)
  refine e_eval (by simp only [jA, jO, jN, seval, y3, vint, TyS, TyF, BdS, Int.cast_ofNat_Int, d0, d1, d2, d3, d4, d5, d6, d7, d8, d9, d10] <;> with_reducible rfl) (by decide) ?_
  repeat (refine awp_seq ?_)
  refine awp_cond_false rfl (by simp only [jN, seval, vint, TyS, TyF, BdS, Int.cast_ofNat_Int, d0, d1, d2, d3, d4, d5, d6, d7, d8, d9, d10] <;> with_reducible rfl) ?_
  repeat (refine awp_seq ?_)
  refine e_eval (by simp only [jA, jO, jN, seval, y3, vint, TyS, TyF, BdS, Int.cast_ofNat_Int, d0, d1, d2, d3, d4, d5, d6, d7, d8, d9, d10] <;> with_reducible rfl) (by decide) ?_
  repeat (refine awp_seq ?_)
  refine awp_cond_false rfl (by simp only [jN, seval, vint, TyS, TyF, BdS, Int.cast_ofNat_Int, d0, d1, d2, d3, d4, d5, d6, d7, d8, d9, d10] <;> with_reducible rfl) ?_
  repeat (refine awp_seq ?_)
  refine e_eval (by simp only [jA, jO, jN, seval, y3, vint, TyS, TyF, BdS, Int.cast_ofNat_Int, d0, d1, d2, d3, d4, d5, d6, d7, d8, d9, d10] <;> with_reducible rfl) (by decide) ?_
  repeat (refine awp_seq ?_)
  refine awp_cond_false rfl (by simp only [jN, seval, vint, TyS, TyF, BdS, Int.cast_ofNat_Int, d0, d1, d2, d3, d4, d5, d6, d7, d8, d9, d10] <;> with_reducible rfl) ?_
  refine awp_sel [1, 3, 4, 5, 9] (by simp only [jN, seval, vint, TyS, TyF, BdS, Int.cast_ofNat_Int, d0, d1, d2, d3, d4, d5, d6, d7, d8, d9, d10] <;> with_reducible rfl) ?_
  repeat (refine awp_seq ?_)
  refine e_eval (by simp only [jA, jO, jN, seval, y3, vint, TyS, TyF, BdS, Int.cast_ofNat_Int, d0, d1, d2, d3, d4, d5, d6, d7, d8, d9, d10] <;> with_reducible rfl) (by decide) ?_
  repeat (refine awp_seq ?_)
  refine awp_cond_true rfl (by simp only [jN, seval, vint, TyS, TyF, BdS, Int.cast_ofNat_Int, d0, d1, d2, d3, d4, d5, d6, d7, d8, d9, d10] <;> with_reducible rfl) ?_
  repeat (refine awp_seq ?_)
  refine awp_skip ?_
  repeat (refine awp_seq ?_)
  refine awp_region ?_
  refine aops_gstart ?_
  refine g_take 5 (by simp only [jG, jO, jN, seval, y27, y29, vint, TyS, TyF, BdS, Int.cast_ofNat_Int, d0, d1, d2, d3, d4, d5, d6, d7, d8, d9, d10] <;> with_reducible rfl) (by decide) ?_
  refine aops_gpure (by simp only [jE, jN, seval, vint, TyS, TyF, BdS, Int.cast_ofNat_Int, d0, d1, d2, d3, d4, d5, d6, d7, d8, d9, d10] <;> with_reducible rfl) (by simp only [jE, jN, seval, vint, TyS, TyF, BdS, Int.cast_ofNat_Int, d0, d1, d2, d3, d4, d5, d6, d7, d8, d9, d10] <;> with_reducible rfl) (by simp only [jE, jN, seval, vint, TyS, TyF, BdS, Int.cast_ofNat_Int, d0, d1, d2, d3, d4, d5, d6, d7, d8, d9, d10]) (by decide) Trygo67 (fun hc => inRange _ _ _ _) ?_
  refine g_end (by simp only [jG, jO, jN, seval, y3, y29, vint, TyS, TyF, BdS, Int.cast_ofNat_Int, d0, d1, d2, d3, d4, d5, d6, d7, d8, d9, d10] <;> with_reducible rfl) (by decide) (by repeat (first | exact Fin.base _ | with_reducible apply Fin.keep | apply Fin.drop)) ?_
  repeat (refine awp_seq ?_)
  refine awp_cond rfl (by simp only [jN, seval, vint, TyS, TyF, BdS, Int.cast_ofNat_Int, d0, d1, d2, d3, d4, d5, d6, d7, d8, d9, d10] <;> with_reducible rfl) (fun bt54 => ?_) (fun bt54 => ?_)
  ·
    have hn : nwf t = false := by
      unfold nwf
      simp only [d0, d1, d2, d3, d4, d5, d6, d7, d8, d9, d10, Bool.or_false, Bool.or_true, Bool.false_or, Bool.true_or, if_true, if_false, Bool.false_eq_true]
      rw [Bool.eq_false_iff]
      intro hh
      simp only [Bool.or_eq_true, Bool.and_eq_true, Bool.not_eq_true', Bool.and_eq_false_iff, Bool.or_eq_false_iff, Bool.not_eq_false', decide_eq_true_eq, decide_eq_false_iff_not] at hh bt54
      omega
    have hwf : wfT t = false := by rw [wfT_eq, hn]; rfl
    refine awp_sel [] (by simp only [jN, seval, vint, TyS, TyF, BdS, Int.cast_ofNat_Int, d0, d1, d2, d3, d4, d5, d6, d7, d8, d9, d10] <;> with_reducible rfl) ?_
    repeat (refine awp_seq ?_)
    refine e_eval (by simp only [jA, jO, jN, seval, vint, TyS, TyF, BdS, Int.cast_ofNat_Int, d0, d1, d2, d3, d4, d5, d6, d7, d8, d9, d10] <;> with_reducible rfl) (by decide) ?_
    repeat (refine awp_seq ?_)
    refine awp_ret ⟨.inr rfl, _, rfl, ?_⟩
    rw [hwf]; rfl
  ·
    have hn : nwf t = true := by
      unfold nwf
      simp only [d0, d1, d2, d3, d4, d5, d6, d7, d8, d9, d10, Bool.or_false, Bool.or_true, Bool.false_or, Bool.true_or, if_true, if_false, Bool.false_eq_true]
      simp only [Bool.or_eq_true, Bool.and_eq_true, Bool.not_eq_true', Bool.and_eq_false_iff, Bool.or_eq_false_iff, Bool.not_eq_false', decide_eq_true_eq, decide_eq_false_iff_not] at bt54 ⊢
      omega
    repeat (refine awp_seq ?_)
    refine awp_skip ?_
    refine awp_sel [1] (by simp only [jN, seval, vint, TyS, TyF, BdS, Int.cast_ofNat_Int, d0, d1, d2, d3, d4, d5, d6, d7, d8, d9, d10] <;> with_reducible rfl) ?_
    repeat (refine awp_seq ?_)
    refine e_eval (by simp only [jA, jO, jN, seval, y27, y29, vint, TyS, TyF, BdS, Int.cast_ofNat_Int, d0, d1, d2, d3, d4, d5, d6, d7, d8, d9, d10] <;> with_reducible rfl) (by decide) ?_
    repeat (refine awp_seq ?_)
    refine awp_forS (σ := Unit) (t.args.length) (fun (s : Unit) => [(56, .slice (t.args.map Ty.enc) .none)]) [56] ([]) (fun (s : Unit) => []) (fun (i : Nat) (s : Unit) => (t.args.take i).any (fun u => !wfT u) = false) (()) (_) rfl rfl rfl rfl rfl rfl rfl rfl rfl (by decide) (by decide) (by decide) (fun _ => rfl) (hw.lenMax) ⟨(by first | rfl | (simp only [jN, seval, vint, TyS, TyF, BdS, Int.cast_ofNat_Int, d0, d1, d2, d3, d4, d5, d6, d7, d8, d9, d10] <;> first | done | with_reducible rfl)), (by first | rfl | (simp only [jN, seval, vint, TyS, TyF, BdS, Int.cast_ofNat_Int, d0, d1, d2, d3, d4, d5, d6, d7, d8, d9, d10] <;> first | done | with_reducible rfl)), (by first | rfl | (simp only [jN, seval, vint, TyS, TyF, BdS, Int.cast_ofNat_Int, d0, d1, d2, d3, d4, d5, d6, d7, d8, d9, d10] <;> first | done | with_reducible rfl)), trivial⟩ (by first | rfl | (simp only [jN, seval, vint, TyS, TyF, BdS, Int.cast_ofNat_Int, d0, d1, d2, d3, d4, d5, d6, d7, d8, d9, d10] <;> first | done | with_reducible rfl)) (by simp) (fun _ _ _ => by first | exact Nat.zero_le _ | (simp only [List.length_append]; omega)) ?_ ?_ ?_
    · exact fun i s hg => ⟨by first | exact hbel_nil _ | (simp only [List.append_nil]; assumption) | (refine hbel_app' hb' (by simp) ?_; repeat (first | exact hbel_nil _ | exact trivial | exact obel_row_nil _ | (refine HBel.cons ?_ ?_) | (refine obel_row_cons (by first | exact bel_Bd _ _ | exact Bd.bel _ _ | exact bel_int_tok _ (by simp) | exact bel_ints0 _ _ | exact bel_slice_ty _ _ | exact Ty.bel _ _ | exact bel_ty_tok _ (by simp) | exact Bel.int _ _ | exact Bel.bool _ | exact Bel.str _ | exact Bel.nilp | exact Bel.nilfn | exact Bel.optr _ _ (by simp) | exact bel_nil0 _ | exact bel_nil1 _ | exact bel_fn0 _ _ | assumption) ?_))), by repeat (first | exact BelL.nil | refine BelL.cons (by first | exact bel_Bd _ _ | exact Bd.bel _ _ | exact bel_int_tok _ (by simp) | exact bel_ints0 _ _ | exact bel_slice_ty _ _ | exact Ty.bel _ _ | exact bel_ty_tok _ (by simp) | exact Bel.int _ _ | exact Bel.bool _ | exact Bel.str _ | exact Bel.nilp | exact Bel.nilfn | exact Bel.optr _ _ (by simp) | exact bel_nil0 _ | exact bel_nil1 _ | exact bel_fn0 _ _ | assumption) ?_)⟩
    · intro i s hi hg
      have g1 := ix_nat hi
      have g2 := get_enc Ty.enc hi
      have hmem : t.args[i] ∈ t.args := List.getElem_mem hi
      repeat (refine awp_seq ?_)
      refine e_eval (by simp only [jA, jO, jN, seval, y27, y29, vint, TyS, TyF, BdS, Int.cast_ofNat_Int, d0, d1, d2, d3, d4, d5, d6, d7, d8, d9, d10, g1, g2, Int.toNat_natCast] <;> with_reducible rfl) (by decide) ?_
      repeat (refine awp_seq ?_)
      refine awp_region ?_
      refine e_take 1 (by simp only [jA, jO, jN, seval, y29, vint, TyS, TyF, BdS, Int.cast_ofNat_Int, d0, d1, d2, d3, d4, d5, d6, d7, d8, d9, d10, g1, g2, Int.toNat_natCast] <;> with_reducible rfl) (by decide) ?_
      refine aops_pure (by simp only [jC, jN, seval, vint, TyS, TyF, BdS, Int.cast_ofNat_Int, d0, d1, d2, d3, d4, d5, d6, d7, d8, d9, d10, g1, g2, Int.toNat_natCast] <;> with_reducible rfl) (by simp only [jC, jN, seval, vint, TyS, TyF, BdS, Int.cast_ofNat_Int, d0, d1, d2, d3, d4, d5, d6, d7, d8, d9, d10, g1, g2, Int.toNat_natCast]) (by decide) Trygo40 (ih t.args[i] hmem _) ?_
      refine e_end (by simp only [jA, jO, jN, seval, vint, TyS, TyF, BdS, Int.cast_ofNat_Int, d0, d1, d2, d3, d4, d5, d6, d7, d8, d9, d10, g1, g2, Int.toNat_natCast] <;> with_reducible rfl) (by decide) ?_
      repeat (refine awp_seq ?_)
      refine awp_cond rfl (by simp only [jN, seval, vint, TyS, TyF, BdS, Int.cast_ofNat_Int, d0, d1, d2, d3, d4, d5, d6, d7, d8, d9, d10, g1, g2, Int.toNat_natCast] <;> with_reducible rfl) (fun bt64 => ?_) (fun bt64 => ?_)
      ·
        have hbad : (t.args.any fun u => !wfT u) = true := List.any_eq_true.2 ⟨_, hmem, bt64⟩
        have hwf : wfT t = false := by rw [wfT_eq, hn, hbad]; rfl
        repeat (refine awp_seq ?_)
        refine e_eval (by simp only [jA, jO, jN, seval, vint, TyS, TyF, BdS, Int.cast_ofNat_Int, d0, d1, d2, d3, d4, d5, d6, d7, d8, d9, d10, g1, g2, Int.toNat_natCast] <;> with_reducible rfl) (by decide) ?_
        repeat (refine awp_seq ?_)
        refine awp_ret ⟨.inr rfl, _, rfl, ?_⟩
        rw [hwf]; rfl
      ·
        repeat (refine awp_seq ?_)
        refine awp_skip ?_
        exact ⟨⟨rfl, rfl, trivial⟩, (), _, ⟨rfl, trivial⟩, rfl, any_take_succ hi hg bt64⟩
    · intro s hg
      rw [List.take_length] at hg
      have hwf : wfT t = true := by rw [wfT_eq, hn, hg]; rfl
      repeat (refine awp_seq ?_)
      refine e_eval (by simp only [jA, jO, jN, seval, vint, TyS, TyF, BdS, Int.cast_ofNat_Int, d0, d1, d2, d3, d4, d5, d6, d7, d8, d9, d10] <;> with_reducible rfl) (by decide) ?_
      repeat (refine awp_seq ?_)
      refine awp_ret ⟨.inr rfl, _, rfl, ?_⟩
      rw [hwf]; rfl

theorem typeWF_7 (t : Ty) (hk : t.kind = 7) (hw : t.W) (ih : ∀ u ∈ t.args, PC Try.prog 40 [u.enc] (.bool (wfT u))) : PC Try.prog 40 [t.enc] (.bool (wfT t)) := by
  have hlen0 : (0 : Int) ≤ (t.args.length : Int) := by omega
  have d0 : decide (t.kind = 0) = false := decide_eq_false (by omega)
  have d1 : decide (t.kind = 1) = false := decide_eq_false (by omega)
  have d2 : decide (t.kind = 2) = false := decide_eq_false (by omega)
  have d3 : decide (t.kind = 3) = false := decide_eq_false (by omega)
  have d4 : decide (t.kind = 4) = false := decide_eq_false (by omega)
  have d5 : decide (t.kind = 5) = false := decide_eq_false (by omega)
  have d6 : decide (t.kind = 6) = false := decide_eq_false (by omega)
  have d7 : decide (t.kind = 7) = true := decide_eq_true hk
  have d8 : decide (t.kind = 8) = false := decide_eq_false (by omega)
  have d9 : decide (t.kind = 9) = false := decide_eq_false (by omega)
  have d10 : decide (t.kind = 10) = false := decide_eq_false (by omega)
  refine pc_of (N := 66) Try.func40 rfl rfl (by simp) (by simp [Ty.bel]) (.bool _) ?_
  repeat (refine awp_seq ?_)
  refine e_eval (by simp only [jA, jO, jN, seval, y29, vint, TyS, TyF, BdS, Int.cast_ofNat_Int, d0, d1, d2, d3, d4, d5, d6, d7, d8, d9, d10] <;> with_reducible rfl) (by decide) ?_
  repeat (refine awp_seq ?_)
  refine e_eval (by simp only [jA, jO, jN, seval, vint, TyS, TyF, BdS, Int.cast_ofNat_Int, d0, d1, d2, d3, d4, d5, d6, d7, d8, d9, d10] <;> with_reducible rfl) (by decide) ?_
  repeat (refine awp_seq ?_)
  refine e_eval (by simp only [jA, jO, jN, seval, y3, y29, vint, TyS, TyF, BdS, Int.cast_ofNat_Int, d0, d1, d2, d3, d4, d5, d6, d7, d8, d9, d10] <;> with_reducible rfl) (by decide) ?_
  repeat (refine awp_seq ?_)
  refine awp_block ?_
  repeat (refine awp_seq ?_)
  refine e_eval (by simp only [jA, jO, jN, seval, y3, vint, TyS, TyF, BdS, Int.cast_ofNat_Int, d0, d1, d2, d3, d4, d5, d6, d7, d8, d9, d10] <;> with_reducible rfl) (by decide) ?_
  repeat (refine awp_seq ?_)
  refine awp_cond_false rfl (by simp only [jN, seval, vint, TyS, TyF, BdS, Int.cast_ofNat_Int, d0, d1, d2, d3, d4, d5, d6, d7, d8, d9, d10] <;> with_reducible rfl) ?_
  repeat (refine awp_seq ?_)
  refine e_eval (by simp only [jA, jO, jN, seval, y3, vint, TyS, TyF, BdS, Int.cast_ofNat_Int, d0, d1, d2, d3, d4, d5, d6, d7, d8, d9, d10] <;> with_reducible rfl) (by decide) ?_
  repeat (refine awp_seq ?_)
  refine awp_cond_false rfl (by simp only [jN, seval, vint, TyS, TyF, BdS, Int.cast_ofNat_Int, d0, d1, d2, d3, d4, d5, d6, d7, d8, d9, d10] <;> with_reducible rfl) ?_
  repeat (refine awp_seq ?_)
  refine e_eval (by simp only [jA, jO, jN, seval, y3, vint, TyS, TyF, BdS, Int.cast_ofNat_Int, d0, d1, d2, d3, d4, d5, d6, d7, d8, d9, d10] <;> with_reducible rfl) (by decide) ?_
  repeat (refine awp_seq ?_)
  refine awp_cond_false rfl (by simp only [jN, seval, vint, TyS, TyF, BdS, Int.cast_ofNat_Int, d0, d1, d2, d3, d4, d5, d6, d7, d8, d9, d10] <;> with_reducible rfl) ?_
  repeat (refine awp_seq ?_)
  refine e_eval (by simp only [jA, jO, jN, seval, y3, vint, TyS, TyF, BdS, Int.cast_ofNat_Int, d0, d1, d2, d3, d4, d5, d6, d7, d8, d9, d10] <;> with_reducible rfl) (by decide) ?_
  repeat (refine awp_seq ?_)
  refine awp_cond_false rfl (by simp only [jN, seval, vint, TyS, TyF, BdS, Int.cast_ofNat_Int, d0, d1, d2, d3, d4, d5, d6, d7, d8, d9, d10] <;> with_reducible rfl) ?_
  refine awp_sel [1, 3, 4, 5, 9] (by simp only [jN, seval, vint, TyS, TyF, BdS, Int.cast_ofNat_Int, d0, d1, d2, d3, d4, d5, d6, d7, d8, d9, d10] <;> with_reducible rfl) ?_
  repeat (refine awp_seq ?_)
  refine e_eval (by simp only [jA, jO, jN, seval, y3, vint, TyS, TyF, BdS, Int.cast_ofNat_Int, d0, d1, d2, d3, d4, d5, d6, d7, d8, d9, d10] <;> with_reducible rfl) (by decide) ?_
  repeat (refine awp_seq ?_)
  refine awp_cond_false rfl (by simp only [jN, seval, vint, TyS, TyF, BdS, Int.cast_ofNat_Int, d0, d1, d2, d3, d4, d5, d6, d7, d8, d9, d10] <;> with_reducible rfl) ?_
  repeat (refine awp_seq ?_)
  refine e_eval (by simp only [jA, jO, jN, seval, y3, vint, TyS, TyF, BdS, Int.cast_ofNat_Int, d0, d1, d2, d3, d4, d5, d6, d7, d8, d9, d10] <;> with_reducible rfl) (by decide) ?_
  repeat (refine awp_seq ?_)
  refine awp_cond_false rfl (by simp only [jN, seval, vint, TyS, TyF, BdS, Int.cast_ofNat_Int, d0, d1, d2, d3, d4, d5, d6, d7, d8, d9, d10] <;> with_reducible rfl) ?_
  repeat (refine awp_seq ?_)
  refine e_eval (by simp only [jA, jO, jN, seval, y3, vint, TyS, TyF, BdS, Int.cast_ofNat_Int, d0, d1, d2, d3, d4, d5, d6, d7, d8, d9, d10] <;> with_reducible rfl) (by decide) ?_
  repeat (refine awp_seq ?_)
  refine awp_cond_false rfl (by simp only [jN, seval, vint, TyS, TyF, BdS, Int.cast_ofNat_Int, d0, d1, d2, d3, d4, d5, d6, d7, d8, d9, d10] <;> with_reducible rfl) ?_
  repeat (refine awp_seq ?_)
  refine e_eval (by simp only [jA, jO, jN, seval, y3, vint, TyS, TyF, BdS, Int.cast_ofNat_Int, d0, d1, d2, d3, d4, d5, d6, d7, d8, d9, d10] <;> with_reducible rfl) (by decide) ?_
  repeat (refine awp_seq ?_)
  refine awp_cond_true rfl (by simp only [jN, seval, vint, TyS, TyF, BdS, Int.cast_ofNat_Int, d0, d1, d2, d3, d4, d5, d6, d7, d8, d9, d10] <;> with_reducible rfl) ?_
  repeat (refine awp_seq ?_)
  refine awp_draw 0 (by kernel_rfl) ?_
  refine d_end (bm := [0, 1, 3, 0, 15]) (fresh := 0) (by kernel_rfl) (by simp only [jD, jO, jN, seval, y27, y29, vint, TyS, TyF, BdS, Int.cast_ofNat_Int, d0, d1, d2, d3, d4, d5, d6, d7, d8, d9, d10] <;> with_reducible rfl) (by decide) ?_
  repeat (refine awp_seq ?_)
  refine awp_region ?_
  refine aops_gstart ?_
  refine g_take 5 (by simp only [jG, jO, jN, seval, y27, y29, vint, TyS, TyF, BdS, Int.cast_ofNat_Int, d0, d1, d2, d3, d4, d5, d6, d7, d8, d9, d10] <;> with_reducible rfl) (by decide) ?_
  refine aops_gpure (by simp only [jE, jN, seval, vint, TyS, TyF, BdS, Int.cast_ofNat_Int, d0, d1, d2, d3, d4, d5, d6, d7, d8, d9, d10] <;> with_reducible rfl) (by simp only [jE, jN, seval, vint, TyS, TyF, BdS, Int.cast_ofNat_Int, d0, d1, d2, d3, d4, d5, d6, d7, d8, d9, d10] <;> with_reducible rfl) (by simp only [jE, jN, seval, vint, TyS, TyF, BdS, Int.cast_ofNat_Int, d0, d1, d2, d3, d4, d5, d6, d7, d8, d9, d10]) (by decide) Trygo67 (fun hc => inRange _ _ _ _) ?_
  refine g_end (by simp only [jG, jO, jN, seval, y3, y29, vint, TyS, TyF, BdS, Int.cast_ofNat_Int, d0, d1, d2, d3, d4, d5, d6, d7, d8, d9, d10] <;> with_reducible rfl) (by decide) (by repeat (first | exact Fin.base _ | with_reducible apply Fin.keep | apply Fin.drop)) ?_
  repeat (refine awp_seq ?_)
  refine awp_cond rfl (by simp only [jN, seval, vint, TyS, TyF, BdS, Int.cast_ofNat_Int, d0, d1, d2, d3, d4, d5, d6, d7, d8, d9, d10] <;> with_reducible rfl) (fun bt54 => ?_) (fun bt54 => ?_)
  ·
    have hn : nwf t = false := by
      unfold nwf
      simp only [d0, d1, d2, d3, d4, d5, d6, d7, d8, d9, d10, Bool.or_false, Bool.or_true, Bool.false_or, Bool.true_or, if_true, if_false, Bool.false_eq_true]
      rw [Bool.eq_false_iff]
      intro hh
      simp only [Bool.or_eq_true, Bool.and_eq_true, Bool.not_eq_true', Bool.and_eq_false_iff, Bool.or_eq_false_iff, Bool.not_eq_false', decide_eq_true_eq, decide_eq_false_iff_not] at hh bt54
      omega
    have hwf : wfT t = false := by rw [wfT_eq, hn]; rfl
    refine awp_sel [] (by simp only [jN, seval, vint, TyS, TyF, BdS, Int.cast_ofNat_Int, d0, d1, d2, d3, d4, d5, d6, d7, d8, d9, d10] <;> with_reducible rfl) ?_
    repeat (refine awp_seq ?_)
    refine e_eval (by simp only [jA, jO, jN, seval, vint, TyS, TyF, BdS, Int.cast_ofNat_Int, d0, d1, d2, d3, d4, d5, d6, d7, d8, d9, d10] <;> with_reducible rfl) (by decide) ?_
    repeat (refine awp_seq ?_)
    refine awp_ret ⟨.inr rfl, _, rfl, ?_⟩
    rw [hwf]; rfl
  ·
    have hn : nwf t = true := by
      unfold nwf
      simp only [d0, d1, d2, d3, d4, d5, d6, d7, d8, d9, d10, Bool.or_false, Bool.or_true, Bool.false_or, Bool.true_or, if_true, if_false, Bool.false_eq_true]
      simp only [Bool.or_eq_true, Bool.and_eq_true, Bool.not_eq_true', Bool.and_eq_false_iff, Bool.or_eq_false_iff, Bool.not_eq_false', decide_eq_true_eq, decide_eq_false_iff_not] at bt54 ⊢
      omega
    repeat (refine awp_seq ?_)
    refine awp_skip ?_
    refine awp_sel [1] (by simp only [jN, seval, vint, TyS, TyF, BdS, Int.cast_ofNat_Int, d0, d1, d2, d3, d4, d5, d6, d7, d8, d9, d10] <;> with_reducible rfl) ?_
    repeat (refine awp_seq ?_)
    refine e_eval (by simp only [jA, jO, jN, seval, y27, y29, vint, TyS, TyF, BdS, Int.cast_ofNat_Int, d0, d1, d2, d3, d4, d5, d6, d7, d8, d9, d10] <;> with_reducible rfl) (by decide) ?_
    repeat (refine awp_seq ?_)
    refine awp_forS (σ := Unit) (t.args.length) (fun (s : Unit) => [(56, .slice (t.args.map Ty.enc) .none)]) [56] ([]) (fun (s : Unit) => []) (fun (i : Nat) (s : Unit) => (t.args.take i).any (fun u => !wfT u) = false) (()) (_) rfl rfl rfl rfl rfl rfl rfl rfl rfl (by decide) (by decide) (by decide) (fun _ => rfl) (hw.lenMax) ⟨(by first | rfl | (simp only [jN, seval, vint, TyS, TyF, BdS, Int.cast_ofNat_Int, d0, d1, d2, d3, d4, d5, d6, d7, d8, d9, d10] <;> first | done | with_reducible rfl)), (by first | rfl | (simp only [jN, seval, vint, TyS, TyF, BdS, Int.cast_ofNat_Int, d0, d1, d2, d3, d4, d5, d6, d7, d8, d9, d10] <;> first | done | with_reducible rfl)), (by first | rfl | (simp only [jN, seval, vint, TyS, TyF, BdS, Int.cast_ofNat_Int, d0, d1, d2, d3, d4, d5, d6, d7, d8, d9, d10] <;> first | done | with_reducible rfl)), trivial⟩ (by first | rfl | (simp only [jN, seval, vint, TyS, TyF, BdS, Int.cast_ofNat_Int, d0, d1, d2, d3, d4, d5, d6, d7, d8, d9, d10] <;> first | done | with_reducible rfl)) (by simp) (fun _ _ _ => by first | exact Nat.zero_le _ | (simp only [List.length_append]; omega)) ?_ ?_ ?_
    · exact fun i s hg => ⟨by first | exact hbel_nil _ | (simp only [List.append_nil]; assumption) | (refine hbel_app' hb' (by simp) ?_; repeat (first | exact hbel_nil _ | exact trivial | exact obel_row_nil _ | (refine HBel.cons ?_ ?_) | (refine obel_row_cons (by first | exact bel_Bd _ _ | exact Bd.bel _ _ | exact bel_int_tok _ (by simp) | exact bel_ints0 _ _ | exact bel_slice_ty _ _ | exact Ty.bel _ _ | exact bel_ty_tok _ (by simp) | exact Bel.int _ _ | exact Bel.bool _ | exact Bel.str _ | exact Bel.nilp | exact Bel.nilfn | exact Bel.optr _ _ (by simp) | exact bel_nil0 _ | exact bel_nil1 _ | exact bel_fn0 _ _ | assumption) ?_))), by repeat (first | exact BelL.nil | refine BelL.cons (by first | exact bel_Bd _ _ | exact Bd.bel _ _ | exact bel_int_tok _ (by simp) | exact bel_ints0 _ _ | exact bel_slice_ty _ _ | exact Ty.bel _ _ | exact bel_ty_tok _ (by simp) | exact Bel.int _ _ | exact Bel.bool _ | exact Bel.str _ | exact Bel.nilp | exact Bel.nilfn | exact Bel.optr _ _ (by simp) | exact bel_nil0 _ | exact bel_nil1 _ | exact bel_fn0 _ _ | assumption) ?_)⟩
    · intro i s hi hg
      have g1 := ix_nat hi
      have g2 := get_enc Ty.enc hi
      have hmem : t.args[i] ∈ t.args := List.getElem_mem hi
      repeat (refine awp_seq ?_)
      refine e_eval (by simp only [jA, jO, jN, seval, y27, y29, vint, TyS, TyF, BdS, Int.cast_ofNat_Int, d0, d1, d2, d3, d4, d5, d6, d7, d8, d9, d10, g1, g2, Int.toNat_natCast] <;> with_reducible rfl) (by decide) ?_
      repeat (refine awp_seq ?_)
      refine awp_region ?_
      refine e_take 1 (by simp only [jA, jO, jN, seval, y29, vint, TyS, TyF, BdS, Int.cast_ofNat_Int, d0, d1, d2, d3, d4, d5, d6, d7, d8, d9, d10, g1, g2, Int.toNat_natCast] <;> with_reducible rfl) (by decide) ?_
      refine aops_pure (by simp only [jC, jN, seval, vint, TyS, TyF, BdS, Int.cast_ofNat_Int, d0, d1, d2, d3, d4, d5, d6, d7, d8, d9, d10, g1, g2, Int.toNat_natCast] <;> with_reducible rfl) (by simp only [jC, jN, seval, vint, TyS, TyF, BdS, Int.cast_ofNat_Int, d0, d1, d2, d3, d4, d5, d6, d7, d8, d9, d10, g1, g2, Int.toNat_natCast]) (by decide) Trygo40 (ih t.args[i] hmem _) ?_
      refine e_end (by simp only [jA, jO, jN, seval, vint, TyS, TyF, BdS, Int.cast_ofNat_Int, d0, d1, d2, d3, d4, d5, d6, d7, d8, d9, d10, g1, g2, Int.toNat_natCast] <;> with_reducible rfl) (by decide) ?_
      repeat (refine awp_seq ?_)
      refine awp_cond rfl (by simp only [jN, seval, vint, TyS, TyF, BdS, Int.cast_ofNat_Int, d0, d1, d2, d3, d4, d5, d6, d7, d8, d9, d10, g1, g2, Int.toNat_natCast] <;> with_reducible rfl) (fun bt64 => ?_) (fun bt64 => ?_)
      ·
        have hbad : (t.args.any fun u => !wfT u) = true := List.any_eq_true.2 ⟨_, hmem, bt64⟩
        have hwf : wfT t = false := by rw [wfT_eq, hn, hbad]; rfl
        repeat (refine awp_seq ?_)
        refine e_eval (by simp only [jA, jO, jN, seval, vint, TyS, TyF, BdS, Int.cast_ofNat_Int, d0, d1, d2, d3, d4, d5, d6, d7, d8, d9, d10, g1, g2, Int.toNat_natCast] <;> with_reducible rfl) (by decide) ?_
        repeat (refine awp_seq ?_)
        refine awp_ret ⟨.inr rfl, _, rfl, ?_⟩
        rw [hwf]; rfl
      ·
        repeat (refine awp_seq ?_)
        refine awp_skip ?_
        exact ⟨⟨rfl, rfl, trivial⟩, (), _, ⟨rfl, trivial⟩, rfl, any_take_succ hi hg bt64⟩
    · intro s hg
      rw [List.take_length] at hg
      have hwf : wfT t = true := by rw [wfT_eq, hn, hg]; rfl
      repeat (refine awp_seq ?_)
      refine e_eval (by simp only [jA, jO, jN, seval, vint, TyS, TyF, BdS, Int.cast_ofNat_Int, d0, d1, d2, d3, d4, d5, d6, d7, d8, d9, d10] <;> with_reducible rfl) (by decide) ?_
      repeat (refine awp_seq ?_)
      refine awp_ret ⟨.inr rfl, _, rfl, ?_⟩
      rw [hwf]; rfl

theorem typeWF_8 (t : Ty) (hk : t.kind = 8) (hw : t.W) (ih : ∀ u ∈ t.args, PC Try.prog 40 [u.enc] (.bool (wfT u))) : PC Try.prog 40 [t.enc] (.bool (wfT t)) := by
  have hlen0 : (0 : Int) ≤ (t.args.length : Int) := by omega
  have d0 : decide (t.kind = 0) = false := decide_eq_false (by omega)
  have d1 : decide (t.kind = 1) = false := decide_eq_false (by omega)
  have d2 : decide (t.kind = 2) = false := decide_eq_false (by omega)
  have d3 : decide (t.kind = 3) = false := decide_eq_false (by omega)
  have d4 : decide (t.kind = 4) = false := decide_eq_false (by omega)
  have d5 : decide (t.kind = 5) = false := decide_eq_false (by omega)
  have d6 : decide (t.kind = 6) = false := decide_eq_false (by omega)
  have d7 : decide (t.kind = 7) = false := decide_eq_false (by omega)
  have d8 : decide (t.kind = 8) = true := decide_eq_true hk
  have d9 : decide (t.kind = 9) = false := decide_eq_false (by omega)
  have d10 : decide (t.kind = 10) = false := decide_eq_false (by omega)
  refine pc_of (N := 66) Try.func40 rfl rfl (by simp) (by simp [Ty.bel]) (.bool _) ?_
  repeat (refine awp_seq ?_)
  refine e_eval (by simp only [jA, jO, jN, seval, y29, vint, TyS, TyF, BdS, Int.cast_ofNat_Int, d0, d1, d2, d3, d4, d5, d6, d7, d8, d9, d10] <;> with_reducible rfl) (by decide) ?_
  repeat (refine awp_seq ?_)
  refine e_eval (by simp only [jA, jO, jN, seval, vint, TyS, TyF, BdS, Int.cast_ofNat_Int, d0, d1, d2, d3, d4, d5, d6, d7, d8, d9, d10] <;> with_reducible rfl) (by decide) ?_
  repeat (refine awp_seq ?_)
  refine e_eval (by simp only [jA, jO, jN, seval, y3, y29, vint, TyS, TyF, BdS, Int.cast_ofNat_Int, d0, d1, d2, d3, d4, d5, d6, d7, d8, d9, d10] <;> with_reducible rfl) (by decide) ?_
  repeat (refine awp_seq ?_)
  refine awp_block ?_
  repeat (refine awp_seq ?_)
  refine e_eval (by simp only [jA, jO, jN, seval, y3, vint, TyS, TyF, BdS, Int.cast_ofNat_Int, d0, d1, d2, d3, d4, d5, d6, d7, d8, d9, d10] <;> with_reducible rfl) (by decide) ?_
  repeat (refine awp_seq ?_)
  refine awp_cond_false rfl (by simp only [jN, seval, vint, TyS, TyF, BdS, Int.cast_ofNat_Int, d0, d1, d2, d3, d4, d5, d6, d7, d8, d9, d10] <;> with_reducible rfl) ?_
  repeat (refine awp_seq ?_)
  refine e_eval (by simp only [jA, jO, jN, seval, y3, vint, TyS, TyF, BdS, Int.cast_ofNat_Int, d0, d1, d2, d3, d4, d5, d6, d7, d8, d9, d10] <;> with_reducible rfl) (by decide) ?_
  repeat (refine awp_seq ?_)
  refine awp_cond_false rfl (by simp only [jN, seval, vint, TyS, TyF, BdS, Int.cast_ofNat_Int, d0, d1, d2, d3, d4, d5, d6, d7, d8, d9, d10] <;> with_reducible rfl) ?_
  repeat (refine awp_seq ?_)
  refine e_eval (by simp only [jA, jO, jN, seval, y3, vint, TyS, TyF, BdS, Int.cast_ofNat_Int, d0, d1, d2, d3, d4, d5, d6, d7, d8, d9, d10] <;> with_reducible rfl) (by decide) ?_
  repeat (refine awp_seq ?_)
  refine awp_cond_false rfl (by simp only [jN, seval, vint, TyS, TyF, BdS, Int.cast_ofNat_Int, d0, d1, d2, d3, d4, d5, d6, d7, d8, d9, d10] <;> with_reducible rfl) ?_
  repeat (refine awp_seq ?_)
  refine e_eval (by simp only [jA, jO, jN, seval, y3, vint, TyS, TyF, BdS, Int.cast_ofNat_Int, d0, d1, d2, d3, d4, d5, d6, d7, d8, d9, d10] <;> with_reducible rfl) (by decide) ?_
  repeat (refine awp_seq ?_)
  refine awp_cond_false rfl (by simp only [jN, seval, vint, TyS, TyF, BdS, Int.cast_ofNat_Int, d0, d1, d2, d3, d4, d5, d6, d7, d8, d9, d10] <;> with_reducible rfl) ?_
  refine awp_sel [1, 3, 4, 5, 9] (by simp only [jN, seval, vint, TyS, TyF, BdS, Int.cast_ofNat_Int, d0, d1, d2, d3, d4, d5, d6, d7, d8, d9, d10] <;> with_reducible rfl) ?_
  repeat (refine awp_seq ?_)
  refine e_eval (by simp only [jA, jO, jN, seval, y3, vint, TyS, TyF, BdS, Int.cast_ofNat_Int, d0, d1, d2, d3, d4, d5, d6, d7, d8, d9, d10] <;> with_reducible rfl) (by decide) ?_
  repeat (refine awp_seq ?_)
  refine awp_cond_false rfl (by simp only [jN, seval, vint, TyS, TyF, BdS, Int.cast_ofNat_Int, d0, d1, d2, d3, d4, d5, d6, d7, d8, d9, d10] <;> with_reducible rfl) ?_
  repeat (refine awp_seq ?_)
  refine e_eval (by simp only [jA, jO, jN, seval, y3, vint, TyS, TyF, BdS, Int.cast_ofNat_Int, d0, d1, d2, d3, d4, d5, d6, d7, d8, d9, d10] <;> with_reducible rfl) (by decide) ?_
  repeat (refine awp_seq ?_)
  refine awp_cond_false rfl (by simp only [jN, seval, vint, TyS, TyF, BdS, Int.cast_ofNat_Int, d0, d1, d2, d3, d4, d5, d6, d7, d8, d9, d10] <;> with_reducible rfl) ?_
  repeat (refine awp_seq ?_)
  refine e_eval (by simp only [jA, jO, jN, seval, y3, vint, TyS, TyF, BdS, Int.cast_ofNat_Int, d0, d1, d2, d3, d4, d5, d6, d7, d8, d9, d10] <;> with_reducible rfl) (by decide) ?_
  repeat (refine awp_seq ?_)
  refine awp_cond_false rfl (by simp only [jN, seval, vint, TyS, TyF, BdS, Int.cast_ofNat_Int, d0, d1, d2, d3, d4, d5, d6, d7, d8, d9, d10] <;> with_reducible rfl) ?_
  repeat (refine awp_seq ?_)
  refine e_eval (by simp only [jA, jO, jN, seval, y3, vint, TyS, TyF, BdS, Int.cast_ofNat_Int, d0, d1, d2, d3, d4, d5, d6, d7, d8, d9, d10] <;> with_reducible rfl) (by decide) ?_
  repeat (refine awp_seq ?_)
  refine awp_cond_false rfl (by simp only [jN, seval, vint, TyS, TyF, BdS, Int.cast_ofNat_Int, d0, d1, d2, d3, d4, d5, d6, d7, d8, d9, d10] <;> with_reducible rfl) ?_
  repeat (refine awp_seq ?_)
  refine e_eval (by simp only [jA, jO, jN, seval, y3, vint, TyS, TyF, BdS, Int.cast_ofNat_Int, d0, d1, d2, d3, d4, d5, d6, d7, d8, d9, d10] <;> with_reducible rfl) (by decide) ?_
  repeat (refine awp_seq ?_)
  refine awp_cond_true rfl (by simp only [jN, seval, vint, TyS, TyF, BdS, Int.cast_ofNat_Int, d0, d1, d2, d3, d4, d5, d6, d7, d8, d9, d10] <;> with_reducible rfl) ?_
  repeat (refine awp_seq ?_)
  refine e_eval (by simp only [jA, jO, jN, seval, vint, TyS, TyF, BdS, Int.cast_ofNat_Int, d0, d1, d2, d3, d4, d5, d6, d7, d8, d9, d10] <;> with_reducible rfl) (by decide) ?_
  repeat (refine awp_seq ?_)
  refine awp_region ?_
  refine aops_gstart ?_
  refine g_take 5 (by simp only [jG, jO, jN, seval, y27, y29, vint, TyS, TyF, BdS, Int.cast_ofNat_Int, d0, d1, d2, d3, d4, d5, d6, d7, d8, d9, d10] <;> with_reducible rfl) (by decide) ?_
  refine aops_gpure (by simp only [jE, jN, seval, vint, TyS, TyF, BdS, Int.cast_ofNat_Int, d0, d1, d2, d3, d4, d5, d6, d7, d8, d9, d10] <;> with_reducible rfl) (by simp only [jE, jN, seval, vint, TyS, TyF, BdS, Int.cast_ofNat_Int, d0, d1, d2, d3, d4, d5, d6, d7, d8, d9, d10] <;> with_reducible rfl) (by simp only [jE, jN, seval, vint, TyS, TyF, BdS, Int.cast_ofNat_Int, d0, d1, d2, d3, d4, d5, d6, d7, d8, d9, d10]) (by decide) Trygo67 (fun hc => inRange _ _ _ _) ?_
  refine g_end (by simp only [jG, jO, jN, seval, y3, y29, vint, TyS, TyF, BdS, Int.cast_ofNat_Int, d0, d1, d2, d3, d4, d5, d6, d7, d8, d9, d10] <;> with_reducible rfl) (by decide) (by repeat (first | exact Fin.base _ | with_reducible apply Fin.keep | apply Fin.drop)) ?_
  repeat (refine awp_seq ?_)
  refine awp_cond rfl (by simp only [jN, seval, vint, TyS, TyF, BdS, Int.cast_ofNat_Int, d0, d1, d2, d3, d4, d5, d6, d7, d8, d9, d10] <;> with_reducible rfl) (fun bt54 => ?_) (fun bt54 => ?_)
  ·
    have hn : nwf t = false := by
      unfold nwf
      simp only [d0, d1, d2, d3, d4, d5, d6, d7, d8, d9, d10, Bool.or_false, Bool.or_true, Bool.false_or, Bool.true_or, if_true, if_false, Bool.false_eq_true]
      rw [Bool.eq_false_iff]
      intro hh
      simp only [Bool.or_eq_true, Bool.and_eq_true, Bool.not_eq_true', Bool.and_eq_false_iff, Bool.or_eq_false_iff, Bool.not_eq_false', decide_eq_true_eq, decide_eq_false_iff_not] at hh bt54
      omega
    have hwf : wfT t = false := by rw [wfT_eq, hn]; rfl
    refine awp_sel [] (by simp only [jN, seval, vint, TyS, TyF, BdS, Int.cast_ofNat_Int, d0, d1, d2, d3, d4, d5, d6, d7, d8, d9, d10] <;> with_reducible rfl) ?_
    repeat (refine awp_seq ?_)
    refine e_eval (by simp only [jA, jO, jN, seval, vint, TyS, TyF, BdS, Int.cast_ofNat_Int, d0, d1, d2, d3, d4, d5, d6, d7, d8, d9, d10] <;> with_reducible rfl) (by decide) ?_
    repeat (refine awp_seq ?_)
    refine awp_ret ⟨.inr rfl, _, rfl, ?_⟩
    rw [hwf]; rfl
  ·
    have hn : nwf t = true := by
      unfold nwf
      simp only [d0, d1, d2, d3, d4, d5, d6, d7, d8, d9, d10, Bool.or_false, Bool.or_true, Bool.false_or, Bool.true_or, if_true, if_false, Bool.false_eq_true]
      simp only [Bool.or_eq_true, Bool.and_eq_true, Bool.not_eq_true', Bool.and_eq_false_iff, Bool.or_eq_false_iff, Bool.not_eq_false', decide_eq_true_eq, decide_eq_false_iff_not] at bt54 ⊢
      omega
    repeat (refine awp_seq ?_)
    refine awp_skip ?_
    refine awp_sel [1] (by simp only [jN, seval, vint, TyS, TyF, BdS, Int.cast_ofNat_Int, d0, d1, d2, d3, d4, d5, d6, d7, d8, d9, d10] <;> with_reducible rfl) ?_
    repeat (refine awp_seq ?_)
    refine e_eval (by simp only [jA, jO, jN, seval, y27, y29, vint, TyS, TyF, BdS, Int.cast_ofNat_Int, d0, d1, d2, d3, d4, d5, d6, d7, d8, d9, d10] <;> with_reducible rfl) (by decide) ?_
    repeat (refine awp_seq ?_)
    refine awp_forS (σ := Unit) (t.args.length) (fun (s : Unit) => [(56, .slice (t.args.map Ty.enc) .none)]) [56] ([]) (fun (s : Unit) => []) (fun (i : Nat) (s : Unit) => (t.args.take i).any (fun u => !wfT u) = false) (()) (_) rfl rfl rfl rfl rfl rfl rfl rfl rfl (by decide) (by decide) (by decide) (fun _ => rfl) (hw.lenMax) ⟨(by first | rfl | (simp only [jN, seval, vint, TyS, TyF, BdS, Int.cast_ofNat_Int, d0, d1, d2, d3, d4, d5, d6, d7, d8, d9, d10] <;> first | done | with_reducible rfl)), (by first | rfl | (simp only [jN, seval, vint, TyS, TyF, BdS, Int.cast_ofNat_Int, d0, d1, d2, d3, d4, d5, d6, d7, d8, d9, d10] <;> first | done | with_reducible rfl)), (by first | rfl | (simp only [jN, seval, vint, TyS, TyF, BdS, Int.cast_ofNat_Int, d0, d1, d2, d3, d4, d5, d6, d7, d8, d9, d10] <;> first | done | with_reducible rfl)), trivial⟩ (by first | rfl | (simp only [jN, seval, vint, TyS, TyF, BdS, Int.cast_ofNat_Int, d0, d1, d2, d3, d4, d5, d6, d7, d8, d9, d10] <;> first | done | with_reducible rfl)) (by simp) (fun _ _ _ => by first | exact Nat.zero_le _ | (simp only [List.length_append]; omega)) ?_ ?_ ?_
    · exact fun i s hg => ⟨by first | exact hbel_nil _ | (simp only [List.append_nil]; assumption) | (refine hbel_app' hb' (by simp) ?_; repeat (first | exact hbel_nil _ | exact trivial | exact obel_row_nil _ | (refine HBel.cons ?_ ?_) | (refine obel_row_cons (by first | exact bel_Bd _ _ | exact Bd.bel _ _ | exact bel_int_tok _ (by simp) | exact bel_ints0 _ _ | exact bel_slice_ty _ _ | exact Ty.bel _ _ | exact bel_ty_tok _ (by simp) | exact Bel.int _ _ | exact Bel.bool _ | exact Bel.str _ | exact Bel.nilp | exact Bel.nilfn | exact Bel.optr _ _ (by simp) | exact bel_nil0 _ | exact bel_nil1 _ | exact bel_fn0 _ _ | assumption) ?_))), by repeat (first | exact BelL.nil | refine BelL.cons (by first | exact bel_Bd _ _ | exact Bd.bel _ _ | exact bel_int_tok _ (by simp) | exact bel_ints0 _ _ | exact bel_slice_ty _ _ | exact Ty.bel _ _ | exact bel_ty_tok _ (by simp) | exact Bel.int _ _ | exact Bel.bool _ | exact Bel.str _ | exact Bel.nilp | exact Bel.nilfn | exact Bel.optr _ _ (by simp) | exact bel_nil0 _ | exact bel_nil1 _ | exact bel_fn0 _ _ | assumption) ?_)⟩
    · intro i s hi hg
      have g1 := ix_nat hi
      have g2 := get_enc Ty.enc hi
      have hmem : t.args[i] ∈ t.args := List.getElem_mem hi
      repeat (refine awp_seq ?_)
      refine e_eval (by simp only [jA, jO, jN, seval, y27, y29, vint, TyS, TyF, BdS, Int.cast_ofNat_Int, d0, d1, d2, d3, d4, d5, d6, d7, d8, d9, d10, g1, g2, Int.toNat_natCast] <;> with_reducible rfl) (by decide) ?_
      repeat (refine awp_seq ?_)
      refine awp_region ?_
      refine e_take 1 (by simp only [jA, jO, jN, seval, y29, vint, TyS, TyF, BdS, Int.cast_ofNat_Int, d0, d1, d2, d3, d4, d5, d6, d7, d8, d9, d10, g1, g2, Int.toNat_natCast] <;> with_reducible rfl) (by decide) ?_
      refine aops_pure (by simp only [jC, jN, seval, vint, TyS, TyF, BdS, Int.cast_ofNat_Int, d0, d1, d2, d3, d4, d5, d6, d7, d8, d9, d10, g1, g2, Int.toNat_natCast] <;> with_reducible rfl) (by simp only [jC, jN, seval, vint, TyS, TyF, BdS, Int.cast_ofNat_Int, d0, d1, d2, d3, d4, d5, d6, d7, d8, d9, d10, g1, g2, Int.toNat_natCast]) (by decide) Trygo40 (ih t.args[i] hmem _) ?_
      refine e_end (by simp only [jA, jO, jN, seval, vint, TyS, TyF, BdS, Int.cast_ofNat_Int, d0, d1, d2, d3, d4, d5, d6, d7, d8, d9, d10, g1, g2, Int.toNat_natCast] <;> with_reducible rfl) (by decide) ?_
      repeat (refine awp_seq ?_)
      refine awp_cond rfl (by simp only [jN, seval, vint, TyS, TyF, BdS, Int.cast_ofNat_Int, d0, d1, d2, d3, d4, d5, d6, d7, d8, d9, d10, g1, g2, Int.toNat_natCast] <;> with_reducible rfl) (fun bt64 => ?_) (fun bt64 => ?_)
      ·
        have hbad : (t.args.any fun u => !wfT u) = true := List.any_eq_true.2 ⟨_, hmem, bt64⟩
        have hwf : wfT t = false := by rw [wfT_eq, hn, hbad]; rfl
        repeat (refine awp_seq ?_)
        refine e_eval (by simp only [jA, jO, jN, seval, vint, TyS, TyF, BdS, Int.cast_ofNat_Int, d0, d1, d2, d3, d4, d5, d6, d7, d8, d9, d10, g1, g2, Int.toNat_natCast] <;> with_reducible rfl) (by decide) ?_
        repeat (refine awp_seq ?_)
        refine awp_ret ⟨.inr rfl, _, rfl, ?_⟩
        rw [hwf]; rfl
      ·
        repeat (refine awp_seq ?_)
        refine awp_skip ?_
        exact ⟨⟨rfl, rfl, trivial⟩, (), _, ⟨rfl, trivial⟩, rfl, any_take_succ hi hg bt64⟩
    · intro s hg
      rw [List.take_length] at hg
      have hwf : wfT t = true := by rw [wfT_eq, hn, hg]; rfl
      repeat (refine awp_seq ?_)
      refine e_eval (by simp only [jA, jO, jN, seval, vint, TyS, TyF, BdS, Int.cast_ofNat_Int, d0, d1, d2, d3, d4, d5, d6, d7, d8, d9, d10] <;> with_reducible rfl) (by decide) ?_
      repeat (refine awp_seq ?_)
      refine awp_ret ⟨.inr rfl, _, rfl, ?_⟩
      rw [hwf]; rfl

theorem typeWF_9 (t : Ty) (hk : t.kind = 9) (hw : t.W) (ih : ∀ u ∈ t.args, PC Try.prog 40 [u.enc] (.bool (wfT u))) : PC Try.prog 40 [t.enc] (.bool (wfT t)) := by
  have hlen0 : (0 : Int) ≤ (t.args.length : Int) := by omega
  have d0 : decide (t.kind = 0) = false := decide_eq_false (by omega)
  have d1 : decide (t.kind = 1) = false := decide_eq_false (by omega)
  have d2 : decide (t.kind = 2) = false := decide_eq_false (by omega)
  have d3 : decide (t.kind = 3) = false := decide_eq_false (by omega)
  have d4 : decide (t.kind = 4) = false := decide_eq_false (by omega)
  have d5 : decide (t.kind = 5) = false := decide_eq_false (by omega)
  have d6 : decide (t.kind = 6) = false := decide_eq_false (by omega)
  have d7 : decide (t.kind = 7) = false := decide_eq_false (by omega)
  have d8 : decide (t.kind = 8) = false := decide_eq_false (by omega)
  have d9 : decide (t.kind = 9) = true := decide_eq_true hk
  have d10 : decide (t.kind = 10) = false := decide_eq_false (by omega)
  refine pc_of (N := 66) Try.func40 rfl rfl (by simp) (by simp [Ty.bel]) (.bool _) ?_
  repeat (refine awp_seq ?_)
  refine e_eval (by simp only [jA, jO, jN, seval, y29, vint, TyS, TyF, BdS, Int.cast_ofNat_Int, d0, d1, d2, d3, d4, d5, d6, d7, d8, d9, d10] <;> with_reducible rfl) (by decide) ?_
  repeat (refine awp_seq ?_)
  refine e_eval (by simp only [jA, jO, jN, seval, vint, TyS, TyF, BdS, Int.cast_ofNat_Int, d0, d1, d2, d3, d4, d5, d6, d7, d8, d9, d10] <;> with_reducible rfl) (by decide) ?_
  repeat (refine awp_seq ?_)
  refine e_eval (by simp only [jA, jO, jN, seval, y3, y29, vint, TyS, TyF, BdS, Int.cast_ofNat_Int, d0, d1, d2, d3, d4, d5, d6, d7, d8, d9, d10] <;> with_reducible rfl) (by decide) ?_
  repeat (refine awp_seq ?_)
  refine awp_block ?_
  repeat (refine awp_seq ?_)
  refine e_eval (by simp only [jA, jO, jN, seval, y3, vint, TyS, TyF, BdS, Int.cast_ofNat_Int, d0, d1, d2, d3, d4, d5, d6, d7, d8, d9, d10] <;> with_reducible rfl) (by decide) ?_
  repeat (refine awp_seq ?_)
  refine awp_cond_false rfl (by simp only [jN, seval, vint, TyS, TyF, BdS, Int.cast_ofNat_Int, d0, d1, d2, d3, d4, d5, d6, d7, d8, d9, d10] <;> with_reducible rfl) ?_
  repeat (refine awp_seq ?_)
  refine e_eval (by simp only [jA, jO, jN, seval, y3, vint, TyS, TyF, BdS, Int.cast_ofNat_Int, d0, d1, d2, d3, d4, d5, d6, d7, d8, d9, d10] <;> with_reducible rfl) (by decide) ?_
  repeat (refine awp_seq ?_)
  refine awp_cond_false rfl (by simp only [jN, seval, vint, TyS, TyF, BdS, Int.cast_ofNat_Int, d0, d1, d2, d3, d4, d5, d6, d7, d8, d9, d10] <;> with_reducible rfl) ?_
  repeat (refine awp_seq ?_)
  refine e_eval (by simp only [jA, jO, jN, seval, y3, vint, TyS, TyF, BdS, Int.cast_ofNat_Int, d0, d1, d2, d3, d4, d5, d6, d7, d8, d9, d10] <;> with_reducible rfl) (by decide) ?_
  repeat (refine awp_seq ?_)
  refine awp_cond_false rfl (by simp only [jN, seval, vint, TyS, TyF, BdS, Int.cast_ofNat_Int, d0, d1, d2, d3, d4, d5, d6, d7, d8, d9, d10] <;> with_reducible rfl) ?_
  repeat (refine awp_seq ?_)
  refine e_eval (by simp only [jA, jO, jN, seval, y3, vint, TyS, TyF, BdS, Int.cast_ofNat_Int, d0, d1, d2, d3, d4, d5, d6, d7, d8, d9, d10] <;> with_reducible rfl) (by decide) ?_
  repeat (refine awp_seq ?_)
  refine awp_cond_false rfl (by simp only [jN, seval, vint, TyS, TyF, BdS, Int.cast_ofNat_Int, d0, d1, d2, d3, d4, d5, d6, d7, d8, d9, d10] <;> with_reducible rfl) ?_
  refine awp_sel [1, 3, 4, 5, 9] (by simp only [jN, seval, vint, TyS, TyF, BdS, Int.cast_ofNat_Int, d0, d1, d2, d3, d4, d5, d6, d7, d8, d9, d10] <;> with_reducible rfl) ?_
  repeat (refine awp_seq ?_)
  refine e_eval (by simp only [jA, jO, jN, seval, y3, vint, TyS, TyF, BdS, Int.cast_ofNat_Int, d0, d1, d2, d3, d4, d5, d6, d7, d8, d9, d10] <;> with_reducible rfl) (by decide) ?_
  repeat (refine awp_seq ?_)
  refine awp_cond_false rfl (by simp only [jN, seval, vint, TyS, TyF, BdS, Int.cast_ofNat_Int, d0, d1, d2, d3, d4, d5, d6, d7, d8, d9, d10] <;> with_reducible rfl) ?_
  repeat (refine awp_seq ?_)
  refine e_eval (by simp only [jA, jO, jN, seval, y3, vint, TyS, TyF, BdS, Int.cast_ofNat_Int, d0, d1, d2, d3, d4, d5, d6, d7, d8, d9, d10] <;> with_reducible rfl) (by decide) ?_
  repeat (refine awp_seq ?_)
  refine awp_cond_false rfl (by simp only [jN, seval, vint, TyS, TyF, BdS, Int.cast_ofNat_Int, d0, d1, d2, d3, d4, d5, d6, d7, d8, d9, d10] <;> with_reducible rfl) ?_
  repeat (refine awp_seq ?_)
  refine e_eval (by simp only [jA, jO, jN, seval, y3, vint, TyS, TyF, BdS, Int.cast_ofNat_Int, d0, d1, d2, d3, d4, d5, d6, d7, d8, d9, d10] <;> with_reducible rfl) (by decide) ?_
  repeat (refine awp_seq ?_)
  refine awp_cond_false rfl (by simp only [jN, seval, vint, TyS, TyF, BdS, Int.cast_ofNat_Int, d0, d1, d2, d3, d4, d5, d6, d7, d8, d9, d10] <;> with_reducible rfl) ?_
  repeat (refine awp_seq ?_)
  refine e_eval (by simp only [jA, jO, jN, seval, y3, vint, TyS, TyF, BdS, Int.cast_ofNat_Int, d0, d1, d2, d3, d4, d5, d6, d7, d8, d9, d10] <;> with_reducible rfl) (by decide) ?_
  repeat (refine awp_seq ?_)
  refine awp_cond_false rfl (by simp only [jN, seval, vint, TyS, TyF, BdS, Int.cast_ofNat_Int, d0, d1, d2, d3, d4, d5, d6, d7, d8, d9, d10] <;> with_reducible rfl) ?_
  repeat (refine awp_seq ?_)
  refine e_eval (by simp only [jA, jO, jN, seval, y3, vint, TyS, TyF, BdS, Int.cast_ofNat_Int, d0, d1, d2, d3, d4, d5, d6, d7, d8, d9, d10] <;> with_reducible rfl) (by decide) ?_
  repeat (refine awp_seq ?_)
  refine awp_cond_false rfl (by simp only [jN, seval, vint, TyS, TyF, BdS, Int.cast_ofNat_Int, d0, d1, d2, d3, d4, d5, d6, d7, d8, d9, d10] <;> with_reducible rfl) ?_
  repeat (refine awp_seq ?_)
  refine e_eval (by simp only [jA, jO, jN, seval, y3, vint, TyS, TyF, BdS, Int.cast_ofNat_Int, d0, d1, d2, d3, d4, d5, d6, d7, d8, d9, d10] <;> with_reducible rfl) (by decide) ?_
  repeat (refine awp_seq ?_)
  refine awp_cond_true rfl (by simp only [jN, seval, vint, TyS, TyF, BdS, Int.cast_ofNat_Int, d0, d1, d2, d3, d4, d5, d6, d7, d8, d9, d10] <;> with_reducible rfl) ?_
  repeat (refine awp_seq ?_)
  refine awp_draw 0 (by kernel_rfl) ?_
  refine d_end (bm := [0, 1, 3, 0, 15]) (fresh := 0) (by kernel_rfl) (by simp only [jD, jO, jN, seval, y27, y29, vint, TyS, TyF, BdS, Int.cast_ofNat_Int, d0, d1, d2, d3, d4, d5, d6, d7, d8, d9, d10] <;> with_reducible rfl) (by decide) ?_
  refine awp_sel [1, 3, 4, 5] (by simp only [jN, seval, vint, TyS, TyF, BdS, Int.cast_ofNat_Int, d0, d1, d2, d3, d4, d5, d6, d7, d8, d9, d10] <;> with_reducible rfl) ?_
  repeat (refine awp_seq ?_)
  refine awp_region ?_
  refine aops_gstart ?_
  refine g_take 5 (by simp only [jG, jO, jN, seval, y27, y29, vint, TyS, TyF, BdS, Int.cast_ofNat_Int, d0, d1, d2, d3, d4, d5, d6, d7, d8, d9, d10] <;> with_reducible rfl) (by decide) ?_
  refine aops_gpure (by simp only [jE, jN, seval, vint, TyS, TyF, BdS, Int.cast_ofNat_Int, d0, d1, d2, d3, d4, d5, d6, d7, d8, d9, d10] <;> with_reducible rfl) (by simp only [jE, jN, seval, vint, TyS, TyF, BdS, Int.cast_ofNat_Int, d0, d1, d2, d3, d4, d5, d6, d7, d8, d9, d10] <;> with_reducible rfl) (by simp only [jE, jN, seval, vint, TyS, TyF, BdS, Int.cast_ofNat_Int, d0, d1, d2, d3, d4, d5, d6, d7, d8, d9, d10]) (by decide) Trygo67 (fun hc => inRange _ _ _ _) ?_
  refine g_end (by simp only [jG, jO, jN, seval, y3, y29, vint, TyS, TyF, BdS, Int.cast_ofNat_Int, d0, d1, d2, d3, d4, d5, d6, d7, d8, d9, d10] <;> with_reducible rfl) (by decide) (by repeat (first | exact Fin.base _ | with_reducible apply Fin.keep | apply Fin.drop)) ?_
  repeat (refine awp_seq ?_)
  refine awp_cond rfl (by simp only [jN, seval, vint, TyS, TyF, BdS, Int.cast_ofNat_Int, d0, d1, d2, d3, d4, d5, d6, d7, d8, d9, d10] <;> with_reducible rfl) (fun bt54 => ?_) (fun bt54 => ?_)
  ·
    have hn : nwf t = false := by
      unfold nwf
      simp only [d0, d1, d2, d3, d4, d5, d6, d7, d8, d9, d10, Bool.or_false, Bool.or_true, Bool.false_or, Bool.true_or, if_true, if_false, Bool.false_eq_true]
      rw [Bool.eq_false_iff]
      intro hh
      simp only [Bool.or_eq_true, Bool.and_eq_true, Bool.not_eq_true', Bool.and_eq_false_iff, Bool.or_eq_false_iff, Bool.not_eq_false', decide_eq_true_eq, decide_eq_false_iff_not] at hh bt54
      omega
    have hwf : wfT t = false := by rw [wfT_eq, hn]; rfl
    refine awp_sel [] (by simp only [jN, seval, vint, TyS, TyF, BdS, Int.cast_ofNat_Int, d0, d1, d2, d3, d4, d5, d6, d7, d8, d9, d10] <;> with_reducible rfl) ?_
    repeat (refine awp_seq ?_)
    refine e_eval (by simp only [jA, jO, jN, seval, vint, TyS, TyF, BdS, Int.cast_ofNat_Int, d0, d1, d2, d3, d4, d5, d6, d7, d8, d9, d10] <;> with_reducible rfl) (by decide) ?_
    repeat (refine awp_seq ?_)
    refine awp_ret ⟨.inr rfl, _, rfl, ?_⟩
    rw [hwf]; rfl
  ·
    have hn : nwf t = true := by
      unfold nwf
      simp only [d0, d1, d2, d3, d4, d5, d6, d7, d8, d9, d10, Bool.or_false, Bool.or_true, Bool.false_or, Bool.true_or, if_true, if_false, Bool.false_eq_true]
      simp only [Bool.or_eq_true, Bool.and_eq_true, Bool.not_eq_true', Bool.and_eq_false_iff, Bool.or_eq_false_iff, Bool.not_eq_false', decide_eq_true_eq, decide_eq_false_iff_not] at bt54 ⊢
      omega
    repeat (refine awp_seq ?_)
    refine awp_skip ?_
    refine awp_sel [1] (by simp only [jN, seval, vint, TyS, TyF, BdS, Int.cast_ofNat_Int, d0, d1, d2, d3, d4, d5, d6, d7, d8, d9, d10] <;> with_reducible rfl) ?_
    repeat (refine awp_seq ?_)
    refine e_eval (by simp only [jA, jO, jN, seval, y27, y29, vint, TyS, TyF, BdS, Int.cast_ofNat_Int, d0, d1, d2, d3, d4, d5, d6, d7, d8, d9, d10] <;> with_reducible rfl) (by decide) ?_
    repeat (refine awp_seq ?_)
    refine awp_forS (σ := Unit) (t.args.length) (fun (s : Unit) => [(56, .slice (t.args.map Ty.enc) .none)]) [56] ([]) (fun (s : Unit) => []) (fun (i : Nat) (s : Unit) => (t.args.take i).any (fun u => !wfT u) = false) (()) (_) rfl rfl rfl rfl rfl rfl rfl rfl rfl (by decide) (by decide) (by decide) (fun _ => rfl) (hw.lenMax) ⟨(by first | rfl | (simp only [jN, seval, vint, TyS, TyF, BdS, Int.cast_ofNat_Int, d0, d1, d2, d3, d4, d5, d6, d7, d8, d9, d10] <;> first | done | with_reducible rfl)), (by first | rfl | (simp only [jN, seval, vint, TyS, TyF, BdS, Int.cast_ofNat_Int, d0, d1, d2, d3, d4, d5, d6, d7, d8, d9, d10] <;> first | done | with_reducible rfl)), (by first | rfl | (simp only [jN, seval, vint, TyS, TyF, BdS, Int.cast_ofNat_Int, d0, d1, d2, d3, d4, d5, d6, d7, d8, d9, d10] <;> first | done | with_reducible rfl)), trivial⟩ (by first | rfl | (simp only [jN, seval, vint, TyS, TyF, BdS, Int.cast_ofNat_Int, d0, d1, d2, d3, d4, d5, d6, d7, d8, d9, d10] <;> first | done | with_reducible rfl)) (by simp) (fun _ _ _ => by first | exact Nat.zero_le _ | (simp only [List.length_append]; omega)) ?_ ?_ ?_
    · exact fun i s hg => ⟨by first | exact hbel_nil _ | (simp only [List.append_nil]; assumption) | (refine hbel_app' hb' (by simp) ?_; repeat (first | exact hbel_nil _ | exact trivial | exact obel_row_nil _ | (refine HBel.cons ?_ ?_) | (refine obel_row_cons (by first | exact bel_Bd _ _ | exact Bd.bel _ _ | exact bel_int_tok _ (by simp) | exact bel_ints0 _ _ | exact bel_slice_ty _ _ | exact Ty.bel _ _ | exact bel_ty_tok _ (by simp) | exact Bel.int _ _ | exact Bel.bool _ | exact Bel.str _ | exact Bel.nilp | exact Bel.nilfn | exact Bel.optr _ _ (by simp) | exact bel_nil0 _ | exact bel_nil1 _ | exact bel_fn0 _ _ | assumption) ?_))), by repeat (first | exact BelL.nil | refine BelL.cons (by first | exact bel_Bd _ _ | exact Bd.bel _ _ | exact bel_int_tok _ (by simp) | exact bel_ints0 _ _ | exact bel_slice_ty _ _ | exact Ty.bel _ _ | exact bel_ty_tok _ (by simp) | exact Bel.int _ _ | exact Bel.bool _ | exact Bel.str _ | exact Bel.nilp | exact Bel.nilfn | exact Bel.optr _ _ (by simp) | exact bel_nil0 _ | exact bel_nil1 _ | exact bel_fn0 _ _ | assumption) ?_)⟩
    · intro i s hi hg
      have g1 := ix_nat hi
      have g2 := get_enc Ty.enc hi
      have hmem : t.args[i] ∈ t.args := List.getElem_mem hi
      repeat (refine awp_seq ?_)
      refine e_eval (by simp only [jA, jO, jN, seval, y27, y29, vint, TyS, TyF, BdS, Int.cast_ofNat_Int, d0, d1, d2, d3, d4, d5, d6, d7, d8, d9, d10, g1, g2, Int.toNat_natCast] <;> with_reducible rfl) (by decide) ?_
      repeat (refine awp_seq ?_)
      refine awp_region ?_
      refine e_take 1 (by simp only [jA, jO, jN, seval, y29, vint, TyS, TyF, BdS, Int.cast_ofNat_Int, d0, d1, d2, d3, d4, d5, d6, d7, d8, d9, d10, g1, g2, Int.toNat_natCast] <;> with_reducible rfl) (by decide) ?_
      refine aops_pure (by simp only [jC, jN, seval, vint, TyS, TyF, BdS, Int.cast_ofNat_Int, d0, d1, d2, d3, d4, d5, d6, d7, d8, d9, d10, g1, g2, Int.toNat_natCast] <;> with_reducible rfl) (by simp only [jC, jN, seval, vint, TyS, TyF, BdS, Int.cast_ofNat_Int, d0, d1, d2, d3, d4, d5, d6, d7, d8, d9, d10, g1, g2, Int.toNat_natCast]) (by decide) Trygo40 (ih t.args[i] hmem _) ?_
      refine e_end (by simp only [jA, jO, jN, seval, vint, TyS, TyF, BdS, Int.cast_ofNat_Int, d0, d1, d2, d3, d4, d5, d6, d7, d8, d9, d10, g1, g2, Int.toNat_natCast] <;> with_reducible rfl) (by decide) ?_
      repeat (refine awp_seq ?_)
      refine awp_cond rfl (by simp only [jN, seval, vint, TyS, TyF, BdS, Int.cast_ofNat_Int, d0, d1, d2, d3, d4, d5, d6, d7, d8, d9, d10, g1, g2, Int.toNat_natCast] <;> with_reducible rfl) (fun bt64 => ?_) (fun bt64 => ?_)
      ·
        have hbad : (t.args.any fun u => !wfT u) = true := List.any_eq_true.2 ⟨_, hmem, bt64⟩
        have hwf : wfT t = false := by rw [wfT_eq, hn, hbad]; rfl
        repeat (refine awp_seq ?_)
        refine e_eval (by simp only [jA, jO, jN, seval, vint, TyS, TyF, BdS, Int.cast_ofNat_Int, d0, d1, d2, d3, d4, d5, d6, d7, d8, d9, d10, g1, g2, Int.toNat_natCast] <;> with_reducible rfl) (by decide) ?_
        repeat (refine awp_seq ?_)
        refine awp_ret ⟨.inr rfl, _, rfl, ?_⟩
        rw [hwf]; rfl
      ·
        repeat (refine awp_seq ?_)
        refine awp_skip ?_
        exact ⟨⟨rfl, rfl, trivial⟩, (), _, ⟨rfl, trivial⟩, rfl, any_take_succ hi hg bt64⟩
    · intro s hg
      rw [List.take_length] at hg
      have hwf : wfT t = true := by rw [wfT_eq, hn, hg]; rfl
      repeat (refine awp_seq ?_)
      refine e_eval (by simp only [jA, jO, jN, seval, vint, TyS, TyF, BdS, Int.cast_ofNat_Int, d0, d1, d2, d3, d4, d5, d6, d7, d8, d9, d10] <;> with_reducible rfl) (by decide) ?_
      repeat (refine awp_seq ?_)
      refine awp_ret ⟨.inr rfl, _, rfl, ?_⟩
      rw [hwf]; rfl

theorem typeWF_10 (t : Ty) (hk : t.kind = 10) (hw : t.W) (ih : ∀ u ∈ t.args, PC Try.prog 40 [u.enc] (.bool (wfT u))) : PC Try.prog 40 [t.enc] (.bool (wfT t)) := by
  have hlen0 : (0 : Int) ≤ (t.args.length : Int) := by omega
  have d0 : decide (t.kind = 0) = false := decide_eq_false (by omega)
  have d1 : decide (t.kind = 1) = false := decide_eq_false (by omega)
  have d2 : decide (t.kind = 2) = false := decide_eq_false (by omega)
  have d3 : decide (t.kind = 3) = false := decide_eq_false (by omega)
  have d4 : decide (t.kind = 4) = false := decide_eq_false (by omega)
  have d5 : decide (t.kind = 5) = false := decide_eq_false (by omega)
  have d6 : decide (t.kind = 6) = false := decide_eq_false (by omega)
  have d7 : decide (t.kind = 7) = false := decide_eq_false (by omega)
  have d8 : decide (t.kind = 8) = false := decide_eq_false (by omega)
  have d9 : decide (t.kind = 9) = false := decide_eq_false (by omega)
  have d10 : decide (t.kind = 10) = true := decide_eq_true hk
  refine pc_of (N := 66) Try.func40 rfl rfl (by simp) (by simp [Ty.bel]) (.bool _) ?_
  repeat (refine awp_seq ?_)
  refine e_eval (by simp only [jA, jO, jN, seval, y29, vint, TyS, TyF, BdS, Int.cast_ofNat_Int, d0, d1, d2, d3, d4, d5, d6, d7, d8, d9, d10] <;> with_reducible rfl) (by decide) ?_
  repeat (refine awp_seq ?_)
  refine e_eval (by simp only [jA, jO, jN, seval, vint, TyS, TyF, BdS, Int.cast_ofNat_Int, d0, d1, d2, d3, d4, d5, d6, d7, d8, d9, d10] <;> with_reducible rfl) (by decide) ?_
  repeat (refine awp_seq ?_)
  refine e_eval (by simp only [jA, jO, jN, seval, y3, y29, vint, TyS, TyF, BdS, Int.cast_ofNat_Int, d0, d1, d2, d3, d4, d5, d6, d7, d8, d9, d10] <;> with_reducible rfl) (by decide) ?_
  repeat (refine awp_seq ?_)
  refine awp_block ?_
  repeat (refine awp_seq ?_)
  refine e_eval (by simp only [jA, jO, jN, seval, y3, vint, TyS, TyF, BdS, Int.cast_ofNat_Int, d0, d1, d2, d3, d4, d5, d6, d7, d8, d9, d10] <;> with_reducible rfl) (by decide) ?_
  repeat (refine awp_seq ?_)
  refine awp_cond_false rfl (by simp only [jN, seval, vint, TyS, TyF, BdS, Int.cast_ofNat_Int, d0, d1, d2, d3, d4, d5, d6, d7, d8, d9, d10] <;> with_reducible rfl) ?_
  repeat (refine awp_seq ?_)
  refine e_eval (by simp only [jA, jO, jN, seval, y3, vint, TyS, TyF, BdS, Int.cast_ofNat_Int, d0, d1, d2, d3, d4, d5, d6, d7, d8, d9, d10] <;> with_reducible rfl) (by decide) ?_
  repeat (refine awp_seq ?_)
  refine awp_cond_false rfl (by simp only [jN, seval, vint, TyS, TyF, BdS, Int.cast_ofNat_Int, d0, d1, d2, d3, d4, d5, d6, d7, d8, d9, d10] <;> with_reducible rfl) ?_
  repeat (refine awp_seq ?_)
  refine e_eval (by simp only [jA, jO, jN, seval, y3, vint, TyS, TyF, BdS, Int.cast_ofNat_Int, d0, d1, d2, d3, d4, d5, d6, d7, d8, d9, d10] <;> with_reducible rfl) (by decide) ?_
  repeat (refine awp_seq ?_)
  refine awp_cond_false rfl (by simp only [jN, seval, vint, TyS, TyF, BdS, Int.cast_ofNat_Int, d0, d1, d2, d3, d4, d5, d6, d7, d8, d9, d10] <;> with_reducible rfl) ?_
  repeat (refine awp_seq ?_)
  refine e_eval (by simp only [jA, jO, jN, seval, y3, vint, TyS, TyF, BdS, Int.cast_ofNat_Int, d0, d1, d2, d3, d4, d5, d6, d7, d8, d9, d10] <;> with_reducible rfl) (by decide) ?_
  repeat (refine awp_seq ?_)
  refine awp_cond_false rfl (by simp only [jN, seval, vint, TyS, TyF, BdS, Int.cast_ofNat_Int, d0, d1, d2, d3, d4, d5, d6, d7, d8, d9, d10] <;> with_reducible rfl) ?_
  refine awp_sel [1, 3, 4, 5, 9] (by simp only [jN, seval, vint, TyS, TyF, BdS, Int.cast_ofNat_Int, d0, d1, d2, d3, d4, d5, d6, d7, d8, d9, d10] <;> with_reducible rfl) ?_
  repeat (refine awp_seq ?_)
  refine e_eval (by simp only [jA, jO, jN, seval, y3, vint, TyS, TyF, BdS, Int.cast_ofNat_Int, d0, d1, d2, d3, d4, d5, d6, d7, d8, d9, d10] <;> with_reducible rfl) (by decide) ?_
  repeat (refine awp_seq ?_)
  refine awp_cond_false rfl (by simp only [jN, seval, vint, TyS, TyF, BdS, Int.cast_ofNat_Int, d0, d1, d2, d3, d4, d5, d6, d7, d8, d9, d10] <;> with_reducible rfl) ?_
  repeat (refine awp_seq ?_)
  refine e_eval (by simp only [jA, jO, jN, seval, y3, vint, TyS, TyF, BdS, Int.cast_ofNat_Int, d0, d1, d2, d3, d4, d5, d6, d7, d8, d9, d10] <;> with_reducible rfl) (by decide) ?_
  repeat (refine awp_seq ?_)
  refine awp_cond_false rfl (by simp only [jN, seval, vint, TyS, TyF, BdS, Int.cast_ofNat_Int, d0, d1, d2, d3, d4, d5, d6, d7, d8, d9, d10] <;> with_reducible rfl) ?_
  repeat (refine awp_seq ?_)
  refine e_eval (by simp only [jA, jO, jN, seval, y3, vint, TyS, TyF, BdS, Int.cast_ofNat_Int, d0, d1, d2, d3, d4, d5, d6, d7, d8, d9, d10] <;> with_reducible rfl) (by decide) ?_
  repeat (refine awp_seq ?_)
  refine awp_cond_false rfl (by simp only [jN, seval, vint, TyS, TyF, BdS, Int.cast_ofNat_Int, d0, d1, d2, d3, d4, d5, d6, d7, d8, d9, d10] <;> with_reducible rfl) ?_
  repeat (refine awp_seq ?_)
  refine e_eval (by simp only [jA, jO, jN, seval, y3, vint, TyS, TyF, BdS, Int.cast_ofNat_Int, d0, d1, d2, d3, d4, d5, d6, d7, d8, d9, d10] <;> with_reducible rfl) (by decide) ?_
  repeat (refine awp_seq ?_)
  refine awp_cond_false rfl (by simp only [jN, seval, vint, TyS, TyF, BdS, Int.cast_ofNat_Int, d0, d1, d2, d3, d4, d5, d6, d7, d8, d9, d10] <;> with_reducible rfl) ?_
  repeat (refine awp_seq ?_)
  refine e_eval (by simp only [jA, jO, jN, seval, y3, vint, TyS, TyF, BdS, Int.cast_ofNat_Int, d0, d1, d2, d3, d4, d5, d6, d7, d8, d9, d10] <;> with_reducible rfl) (by decide) ?_
  repeat (refine awp_seq ?_)
  refine awp_cond_false rfl (by simp only [jN, seval, vint, TyS, TyF, BdS, Int.cast_ofNat_Int, d0, d1, d2, d3, d4, d5, d6, d7, d8, d9, d10] <;> with_reducible rfl) ?_
  repeat (refine awp_seq ?_)
  refine e_eval (by simp only [jA, jO, jN, seval, y3, vint, TyS, TyF, BdS, Int.cast_ofNat_Int, d0, d1, d2, d3, d4, d5, d6, d7, d8, d9, d10] <;> with_reducible rfl) (by decide) ?_
  repeat (refine awp_seq ?_)
  refine awp_cond_false rfl (by simp only [jN, seval, vint, TyS, TyF, BdS, Int.cast_ofNat_Int, d0, d1, d2, d3, d4, d5, d6, d7, d8, d9, d10] <;> with_reducible rfl) ?_
  repeat (refine awp_seq ?_)
  refine e_eval (by simp only [jA, jO, jN, seval, y3, vint, TyS, TyF, BdS, Int.cast_ofNat_Int, d0, d1, d2, d3, d4, d5, d6, d7, d8, d9, d10] <;> with_reducible rfl) (by decide) ?_
  repeat (refine awp_seq ?_)
  refine awp_cond_true rfl (by simp only [jN, seval, vint, TyS, TyF, BdS, Int.cast_ofNat_Int, d0, d1, d2, d3, d4, d5, d6, d7, d8, d9, d10] <;> with_reducible rfl) ?_
  repeat (refine awp_seq ?_)
  refine e_eval (by simp only [jA, jO, jN, seval, vint, TyS, TyF, BdS, Int.cast_ofNat_Int, d0, d1, d2, d3, d4, d5, d6, d7, d8, d9, d10] <;> with_reducible rfl) (by decide) ?_
  refine awp_sel [1, 3, 4, 5] (by simp only [jN, seval, vint, TyS, TyF, BdS, Int.cast_ofNat_Int, d0, d1, d2, d3, d4, d5, d6, d7, d8, d9, d10] <;> with_reducible rfl) ?_
  repeat (refine awp_seq ?_)
  refine awp_region ?_
  refine aops_gstart ?_
  refine g_take 5 (by simp only [jG, jO, jN, seval, y27, y29, vint, TyS, TyF, BdS, Int.cast_ofNat_Int, d0, d1, d2, d3, d4, d5, d6, d7, d8, d9, d10] <;> with_reducible rfl) (by decide) ?_
  refine aops_gpure (by simp only [jE, jN, seval, vint, TyS, TyF, BdS, Int.cast_ofNat_Int, d0, d1, d2, d3, d4, d5, d6, d7, d8, d9, d10] <;> with_reducible rfl) (by simp only [jE, jN, seval, vint, TyS, TyF, BdS, Int.cast_ofNat_Int, d0, d1, d2, d3, d4, d5, d6, d7, d8, d9, d10] <;> with_reducible rfl) (by simp only [jE, jN, seval, vint, TyS, TyF, BdS, Int.cast_ofNat_Int, d0, d1, d2, d3, d4, d5, d6, d7, d8, d9, d10]) (by decide) Trygo67 (fun hc => inRange _ _ _ _) ?_
  refine g_end (by simp only [jG, jO, jN, seval, y3, y29, vint, TyS, TyF, BdS, Int.cast_ofNat_Int, d0, d1, d2, d3, d4, d5, d6, d7, d8, d9, d10] <;> with_reducible rfl) (by decide) (by repeat (first | exact Fin.base _ | with_reducible apply Fin.keep | apply Fin.drop)) ?_
  repeat (refine awp_seq ?_)
  refine awp_cond rfl (by simp only [jN, seval, vint, TyS, TyF, BdS, Int.cast_ofNat_Int, d0, d1, d2, d3, d4, d5, d6, d7, d8, d9, d10] <;> with_reducible rfl) (fun bt54 => ?_) (fun bt54 => ?_)
  ·
    have hn : nwf t = false := by
      unfold nwf
      simp only [d0, d1, d2, d3, d4, d5, d6, d7, d8, d9, d10, Bool.or_false, Bool.or_true, Bool.false_or, Bool.true_or, if_true, if_false, Bool.false_eq_true]
      rw [Bool.eq_false_iff]
      intro hh
      simp only [Bool.or_eq_true, Bool.and_eq_true, Bool.not_eq_true', Bool.and_eq_false_iff, Bool.or_eq_false_iff, Bool.not_eq_false', decide_eq_true_eq, decide_eq_false_iff_not] at hh bt54
      omega
    have hwf : wfT t = false := by rw [wfT_eq, hn]; rfl
    refine awp_sel [] (by simp only [jN, seval, vint, TyS, TyF, BdS, Int.cast_ofNat_Int, d0, d1, d2, d3, d4, d5, d6, d7, d8, d9, d10] <;> with_reducible rfl) ?_
    repeat (refine awp_seq ?_)
    refine e_eval (by simp only [jA, jO, jN, seval, vint, TyS, TyF, BdS, Int.cast_ofNat_Int, d0, d1, d2, d3, d4, d5, d6, d7, d8, d9, d10] <;> with_reducible rfl) (by decide) ?_
    repeat (refine awp_seq ?_)
    refine awp_ret ⟨.inr rfl, _, rfl, ?_⟩
    rw [hwf]; rfl
  ·
    have hn : nwf t = true := by
      unfold nwf
      simp only [d0, d1, d2, d3, d4, d5, d6, d7, d8, d9, d10, Bool.or_false, Bool.or_true, Bool.false_or, Bool.true_or, if_true, if_false, Bool.false_eq_true]
      simp only [Bool.or_eq_true, Bool.and_eq_true, Bool.not_eq_true', Bool.and_eq_false_iff, Bool.or_eq_false_iff, Bool.not_eq_false', decide_eq_true_eq, decide_eq_false_iff_not] at bt54 ⊢
      omega
    repeat (refine awp_seq ?_)
    refine awp_skip ?_
    refine awp_sel [1] (by simp only [jN, seval, vint, TyS, TyF, BdS, Int.cast_ofNat_Int, d0, d1, d2, d3, d4, d5, d6, d7, d8, d9, d10] <;> with_reducible rfl) ?_
    repeat (refine awp_seq ?_)
    refine e_eval (by simp only [jA, jO, jN, seval, y27, y29, vint, TyS, TyF, BdS, Int.cast_ofNat_Int, d0, d1, d2, d3, d4, d5, d6, d7, d8, d9, d10] <;> with_reducible rfl) (by decide) ?_
    repeat (refine awp_seq ?_)
    refine awp_forS (σ := Unit) (t.args.length) (fun (s : Unit) => [(56, .slice (t.args.map Ty.enc) .none)]) [56] ([]) (fun (s : Unit) => []) (fun (i : Nat) (s : Unit) => (t.args.take i).any (fun u => !wfT u) = false) (()) (_) rfl rfl rfl rfl rfl rfl rfl rfl rfl (by decide) (by decide) (by decide) (fun _ => rfl) (hw.lenMax) ⟨(by first | rfl | (simp only [jN, seval, vint, TyS, TyF, BdS, Int.cast_ofNat_Int, d0, d1, d2, d3, d4, d5, d6, d7, d8, d9, d10] <;> first | done | with_reducible rfl)), (by first | rfl | (simp only [jN, seval, vint, TyS, TyF, BdS, Int.cast_ofNat_Int, d0, d1, d2, d3, d4, d5, d6, d7, d8, d9, d10] <;> first | done | with_reducible rfl)), (by first | rfl | (simp only [jN, seval, vint, TyS, TyF, BdS, Int.cast_ofNat_Int, d0, d1, d2, d3, d4, d5, d6, d7, d8, d9, d10] <;> first | done | with_reducible rfl)), trivial⟩ (by first | rfl | (simp only [jN, seval, vint, TyS, TyF, BdS, Int.cast_ofNat_Int, d0, d1, d2, d3, d4, d5, d6, d7, d8, d9, d10] <;> first | done | with_reducible rfl)) (by simp) (fun _ _ _ => by first | exact Nat.zero_le _ | (simp only [List.length_append]; omega)) ?_ ?_ ?_
    · exact fun i s hg => ⟨by first | exact hbel_nil _ | (simp only [List.append_nil]; assumption) | (refine hbel_app' hb' (by simp) ?_; repeat (first | exact hbel_nil _ | exact trivial | exact obel_row_nil _ | (refine HBel.cons ?_ ?_) | (refine obel_row_cons (by first | exact bel_Bd _ _ | exact Bd.bel _ _ | exact bel_int_tok _ (by simp) | exact bel_ints0 _ _ | exact bel_slice_ty _ _ | exact Ty.bel _ _ | exact bel_ty_tok _ (by simp) | exact Bel.int _ _ | exact Bel.bool _ | exact Bel.str _ | exact Bel.nilp | exact Bel.nilfn | exact Bel.optr _ _ (by simp) | exact bel_nil0 _ | exact bel_nil1 _ | exact bel_fn0 _ _ | assumption) ?_))), by repeat (first | exact BelL.nil | refine BelL.cons (by first | exact bel_Bd _ _ | exact Bd.bel _ _ | exact bel_int_tok _ (by simp) | exact bel_ints0 _ _ | exact bel_slice_ty _ _ | exact Ty.bel _ _ | exact bel_ty_tok _ (by simp) | exact Bel.int _ _ | exact Bel.bool _ | exact Bel.str _ | exact Bel.nilp | exact Bel.nilfn | exact Bel.optr _ _ (by simp) | exact bel_nil0 _ | exact bel_nil1 _ | exact bel_fn0 _ _ | assumption) ?_)⟩
    · intro i s hi hg
      have g1 := ix_nat hi
      have g2 := get_enc Ty.enc hi
      have hmem : t.args[i] ∈ t.args := List.getElem_mem hi
      repeat (refine awp_seq ?_)
      refine e_eval (by simp only [jA, jO, jN, seval, y27, y29, vint, TyS, TyF, BdS, Int.cast_ofNat_Int, d0, d1, d2, d3, d4, d5, d6, d7, d8, d9, d10, g1, g2, Int.toNat_natCast] <;> with_reducible rfl) (by decide) ?_
      repeat (refine awp_seq ?_)
      refine awp_region ?_
      refine e_take 1 (by simp only [jA, jO, jN, seval, y29, vint, TyS, TyF, BdS, Int.cast_ofNat_Int, d0, d1, d2, d3, d4, d5, d6, d7, d8, d9, d10, g1, g2, Int.toNat_natCast] <;> with_reducible rfl) (by decide) ?_
      refine aops_pure (by simp only [jC, jN, seval, vint, TyS, TyF, BdS, Int.cast_ofNat_Int, d0, d1, d2, d3, d4, d5, d6, d7, d8, d9, d10, g1, g2, Int.toNat_natCast] <;> with_reducible rfl) (by simp only [jC, jN, seval, vint, TyS, TyF, BdS, Int.cast_ofNat_Int, d0, d1, d2, d3, d4, d5, d6, d7, d8, d9, d10, g1, g2, Int.toNat_natCast]) (by decide) Trygo40 (ih t.args[i] hmem _) ?_
      refine e_end (by simp only [jA, jO, jN, seval, vint, TyS, TyF, BdS, Int.cast_ofNat_Int, d0, d1, d2, d3, d4, d5, d6, d7, d8, d9, d10, g1, g2, Int.toNat_natCast] <;> with_reducible rfl) (by decide) ?_
      repeat (refine awp_seq ?_)
      refine awp_cond rfl (by simp only [jN, seval, vint, TyS, TyF, BdS, Int.cast_ofNat_Int, d0, d1, d2, d3, d4, d5, d6, d7, d8, d9, d10, g1, g2, Int.toNat_natCast] <;> with_reducible rfl) (fun bt64 => ?_) (fun bt64 => ?_)
      ·
        have hbad : (t.args.any fun u => !wfT u) = true := List.any_eq_true.2 ⟨_, hmem, bt64⟩
        have hwf : wfT t = false := by rw [wfT_eq, hn, hbad]; rfl
        repeat (refine awp_seq ?_)
        refine e_eval (by simp only [jA, jO, jN, seval, vint, TyS, TyF, BdS, Int.cast_ofNat_Int, d0, d1, d2, d3, d4, d5, d6, d7, d8, d9, d10, g1, g2, Int.toNat_natCast] <;> with_reducible rfl) (by decide) ?_
        repeat (refine awp_seq ?_)
        refine awp_ret ⟨.inr rfl, _, rfl, ?_⟩
        rw [hwf]; rfl
      ·
        repeat (refine awp_seq ?_)
        refine awp_skip ?_
        exact ⟨⟨rfl, rfl, trivial⟩, (), _, ⟨rfl, trivial⟩, rfl, any_take_succ hi hg bt64⟩
    · intro s hg
      rw [List.take_length] at hg
      have hwf : wfT t = true := by rw [wfT_eq, hn, hg]; rfl
      repeat (refine awp_seq ?_)
      refine e_eval (by simp only [jA, jO, jN, seval, vint, TyS, TyF, BdS, Int.cast_ofNat_Int, d0, d1, d2, d3, d4, d5, d6, d7, d8, d9, d10] <;> with_reducible rfl) (by decide) ?_
      repeat (refine awp_seq ?_)
      refine awp_ret ⟨.inr rfl, _, rfl, ?_⟩
      rw [hwf]; rfl

theorem typeWF_O (t : Ty) (hk : t.kind ≠ 0 ∧ t.kind ≠ 1 ∧ t.kind ≠ 2 ∧ t.kind ≠ 3 ∧ t.kind ≠ 4 ∧ t.kind ≠ 5 ∧ t.kind ≠ 6 ∧ t.kind ≠ 7 ∧ t.kind ≠ 8 ∧ t.kind ≠ 9 ∧ t.kind ≠ 10) (hw : t.W) (ih : ∀ u ∈ t.args, PC Try.prog 40 [u.enc] (.bool (wfT u))) : PC Try.prog 40 [t.enc] (.bool (wfT t)) := by
  have hlen0 : (0 : Int) ≤ (t.args.length : Int) := by omega
  have d0 : decide (t.kind = 0) = false := decide_eq_false (by omega)
  have d1 : decide (t.kind = 1) = false := decide_eq_false (by omega)
  have d2 : decide (t.kind = 2) = false := decide_eq_false (by omega)
  have d3 : decide (t.kind = 3) = false := decide_eq_false (by omega)
  have d4 : decide (t.kind = 4) = false := decide_eq_false (by omega)
  have d5 : decide (t.kind = 5) = false := decide_eq_false (by omega)
  have d6 : decide (t.kind = 6) = false := decide_eq_false (by omega)
  have d7 : decide (t.kind = 7) = false := decide_eq_false (by omega)
  have d8 : decide (t.kind = 8) = false := decide_eq_false (by omega)
  have d9 : decide (t.kind = 9) = false := decide_eq_false (by omega)
  have d10 : decide (t.kind = 10) = false := decide_eq_false (by omega)
  refine pc_of (N := 66) Try.func40 rfl rfl (by simp) (by simp [Ty.bel]) (.bool _) ?_
  repeat (refine awp_seq ?_)
  refine e_eval (by simp only [jA, jO, jN, seval, y29, vint, TyS, TyF, BdS, Int.cast_ofNat_Int, d0, d1, d2, d3, d4, d5, d6, d7, d8, d9, d10] <;> with_reducible rfl) (by decide) ?_
  repeat (refine awp_seq ?_)
  refine e_eval (by simp only [jA, jO, jN, seval, vint, TyS, TyF, BdS, Int.cast_ofNat_Int, d0, d1, d2, d3, d4, d5, d6, d7, d8, d9, d10] <;> with_reducible rfl) (by decide) ?_
  repeat (refine awp_seq ?_)
  refine e_eval (by simp only [jA, jO, jN, seval, y3, y29, vint, TyS, TyF, BdS, Int.cast_ofNat_Int, d0, d1, d2, d3, d4, d5, d6, d7, d8, d9, d10] <;> with_reducible rfl) (by decide) ?_
  repeat (refine awp_seq ?_)
  refine awp_block ?_
  repeat (refine awp_seq ?_)
  refine e_eval (by simp only [jA, jO, jN, seval, y3, vint, TyS, TyF, BdS, Int.cast_ofNat_Int, d0, d1, d2, d3, d4, d5, d6, d7, d8, d9, d10] <;> with_reducible rfl) (by decide) ?_
  repeat (refine awp_seq ?_)
  refine awp_cond_false rfl (by simp only [jN, seval, vint, TyS, TyF, BdS, Int.cast_ofNat_Int, d0, d1, d2, d3, d4, d5, d6, d7, d8, d9, d10] <;> with_reducible rfl) ?_
  repeat (refine awp_seq ?_)
  refine e_eval (by simp only [jA, jO, jN, seval, y3, vint, TyS, TyF, BdS, Int.cast_ofNat_Int, d0, d1, d2, d3, d4, d5, d6, d7, d8, d9, d10] <;> with_reducible rfl) (by decide) ?_
  repeat (refine awp_seq ?_)
  refine awp_cond_false rfl (by simp only [jN, seval, vint, TyS, TyF, BdS, Int.cast_ofNat_Int, d0, d1, d2, d3, d4, d5, d6, d7, d8, d9, d10] <;> with_reducible rfl) ?_
  repeat (refine awp_seq ?_)
  refine e_eval (by simp only [jA, jO, jN, seval, y3, vint, TyS, TyF, BdS, Int.cast_ofNat_Int, d0, d1, d2, d3, d4, d5, d6, d7, d8, d9, d10] <;> with_reducible rfl) (by decide) ?_
  repeat (refine awp_seq ?_)
  refine awp_cond_false rfl (by simp only [jN, seval, vint, TyS, TyF, BdS, Int.cast_ofNat_Int, d0, d1, d2, d3, d4, d5, d6, d7, d8, d9, d10] <;> with_reducible rfl) ?_
  repeat (refine awp_seq ?_)
  refine e_eval (by simp only [jA, jO, jN, seval, y3, vint, TyS, TyF, BdS, Int.cast_ofNat_Int, d0, d1, d2, d3, d4, d5, d6, d7, d8, d9, d10] <;> with_reducible rfl) (by decide) ?_
  repeat (refine awp_seq ?_)
  refine awp_cond_false rfl (by simp only [jN, seval, vint, TyS, TyF, BdS, Int.cast_ofNat_Int, d0, d1, d2, d3, d4, d5, d6, d7, d8, d9, d10] <;> with_reducible rfl) ?_
  refine awp_sel [1, 3, 4, 5, 9] (by simp only [jN, seval, vint, TyS, TyF, BdS, Int.cast_ofNat_Int, d0, d1, d2, d3, d4, d5, d6, d7, d8, d9, d10] <;> with_reducible rfl) ?_
  repeat (refine awp_seq ?_)
  refine e_eval (by simp only [jA, jO, jN, seval, y3, vint, TyS, TyF, BdS, Int.cast_ofNat_Int, d0, d1, d2, d3, d4, d5, d6, d7, d8, d9, d10] <;> with_reducible rfl) (by decide) ?_
  repeat (refine awp_seq ?_)
  refine awp_cond_false rfl (by simp only [jN, seval, vint, TyS, TyF, BdS, Int.cast_ofNat_Int, d0, d1, d2, d3, d4, d5, d6, d7, d8, d9, d10] <;> with_reducible rfl) ?_
  repeat (refine awp_seq ?_)
  refine e_eval (by simp only [jA, jO, jN, seval, y3, vint, TyS, TyF, BdS, Int.cast_ofNat_Int, d0, d1, d2, d3, d4, d5, d6, d7, d8, d9, d10] <;> with_reducible rfl) (by decide) ?_
  repeat (refine awp_seq ?_)
  refine awp_cond_false rfl (by simp only [jN, seval, vint, TyS, TyF, BdS, Int.cast_ofNat_Int, d0, d1, d2, d3, d4, d5, d6, d7, d8, d9, d10] <;> with_reducible rfl) ?_
  repeat (refine awp_seq ?_)
  refine e_eval (by simp only [jA, jO, jN, seval, y3, vint, TyS, TyF, BdS, Int.cast_ofNat_Int, d0, d1, d2, d3, d4, d5, d6, d7, d8, d9, d10] <;> with_reducible rfl) (by decide) ?_
  repeat (refine awp_seq ?_)
  refine awp_cond_false rfl (by simp only [jN, seval, vint, TyS, TyF, BdS, Int.cast_ofNat_Int, d0, d1, d2, d3, d4, d5, d6, d7, d8, d9, d10] <;> with_reducible rfl) ?_
  repeat (refine awp_seq ?_)
  refine e_eval (by simp only [jA, jO, jN, seval, y3, vint, TyS, TyF, BdS, Int.cast_ofNat_Int, d0, d1, d2, d3, d4, d5, d6, d7, d8, d9, d10] <;> with_reducible rfl) (by decide) ?_
  repeat (refine awp_seq ?_)
  refine awp_cond_false rfl (by simp only [jN, seval, vint, TyS, TyF, BdS, Int.cast_ofNat_Int, d0, d1, d2, d3, d4, d5, d6, d7, d8, d9, d10] <;> with_reducible rfl) ?_
  repeat (refine awp_seq ?_)
  refine e_eval (by simp only [jA, jO, jN, seval, y3, vint, TyS, TyF, BdS, Int.cast_ofNat_Int, d0, d1, d2, d3, d4, d5, d6, d7, d8, d9, d10] <;> with_reducible rfl) (by decide) ?_
  repeat (refine awp_seq ?_)
  refine awp_cond_false rfl (by simp only [jN, seval, vint, TyS, TyF, BdS, Int.cast_ofNat_Int, d0, d1, d2, d3, d4, d5, d6, d7, d8, d9, d10] <;> with_reducible rfl) ?_
  repeat (refine awp_seq ?_)
  refine e_eval (by simp only [jA, jO, jN, seval, y3, vint, TyS, TyF, BdS, Int.cast_ofNat_Int, d0, d1, d2, d3, d4, d5, d6, d7, d8, d9, d10] <;> with_reducible rfl) (by decide) ?_
  repeat (refine awp_seq ?_)
  refine awp_cond_false rfl (by simp only [jN, seval, vint, TyS, TyF, BdS, Int.cast_ofNat_Int, d0, d1, d2, d3, d4, d5, d6, d7, d8, d9, d10] <;> with_reducible rfl) ?_
  repeat (refine awp_seq ?_)
  refine e_eval (by simp only [jA, jO, jN, seval, y3, vint, TyS, TyF, BdS, Int.cast_ofNat_Int, d0, d1, d2, d3, d4, d5, d6, d7, d8, d9, d10] <;> with_reducible rfl) (by decide) ?_
  repeat (refine awp_seq ?_)
  refine awp_cond_false rfl (by simp only [jN, seval, vint, TyS, TyF, BdS, Int.cast_ofNat_Int, d0, d1, d2, d3, d4, d5, d6, d7, d8, d9, d10] <;> with_reducible rfl) ?_
  repeat (refine awp_seq ?_)
  refine e_eval (by simp only [jA, jO, jN, seval, vint, TyS, TyF, BdS, Int.cast_ofNat_Int, d0, d1, d2, d3, d4, d5, d6, d7, d8, d9, d10] <;> with_reducible rfl) (by decide) ?_
  repeat (refine awp_seq ?_)
  refine awp_ret ⟨.inr rfl, _, rfl, ?_⟩
  have hn : nwf t = false := by
    unfold nwf
    simp only [d0, d1, d2, d3, d4, d5, d6, d7, d8, d9, d10, Bool.or_false, Bool.or_true, Bool.false_or, Bool.true_or, if_true, if_false, Bool.false_eq_true]
  rw [wfT_eq, hn]; rfl

theorem typeWF_k : ∀ (k : Nat) (t : Ty), t.size ≤ k → t.W → PC Try.prog 40 [t.enc] (.bool (wfT t))
  | 0, t, h, _ => by cases t; simp [Ty.size] at h
  | k + 1, t, h, hw => by
    have ih : ∀ u ∈ t.args, PC Try.prog 40 [u.enc] (.bool (wfT u)) := fun u hu => typeWF_k k u (by have := Ty.size_arg hu; omega) (hw.arg hu)
    by_cases h0 : t.kind = 0
    · exact typeWF_0 t h0 hw ih
    by_cases h1 : t.kind = 1
    · exact typeWF_1 t h1 hw ih
    by_cases h2 : t.kind = 2
    · exact typeWF_2 t h2 hw ih
    by_cases h3 : t.kind = 3
    · exact typeWF_3 t h3 hw ih
    by_cases h4 : t.kind = 4
    · exact typeWF_4 t h4 hw ih
    by_cases h5 : t.kind = 5
    · exact typeWF_5 t h5 hw ih
    by_cases h6 : t.kind = 6
    · exact typeWF_6 t h6 hw ih
    by_cases h7 : t.kind = 7
    · exact typeWF_7 t h7 hw ih
    by_cases h8 : t.kind = 8
    · exact typeWF_8 t h8 hw ih
    by_cases h9 : t.kind = 9
    · exact typeWF_9 t h9 hw ih
    by_cases h10 : t.kind = 10
    · exact typeWF_10 t h10 hw ih
    exact typeWF_O t ⟨h0, h1, h2, h3, h4, h5, h6, h7, h8, h9, h10⟩ hw ih

theorem typeWF (t : Ty) (hw : t.W) : PC Try.prog 40 [t.enc] (.bool (wfT t)) := typeWF_k t.size t (Nat.le_refl _) hw

end Go.Abs
set_option maxRecDepth 4000
namespace Go.Abs
open Go.Proofs

theorem typeError (t : Ty) (hw : t.W) (hb : (t.size : Int) ≤ 4294967296) : PC Try.prog 10 [t.enc] (vint (valT t)) := by
  refine pc_of (N := 19) Try.func10 rfl rfl (by simp) (by simp [Ty.bel]) (.int _ _) ?_
  repeat (refine awp_seq ?_)
  refine e_eval (by simp only [jA, jO, jN, seval, y29, vint, TyS, TyF, BdS] <;> with_reducible rfl) (by decide) ?_
  repeat (refine awp_seq ?_)
  refine awp_region ?_
  refine e_take 1 (by simp only [jA, jO, jN, seval, y29, vint, TyS, TyF, BdS] <;> with_reducible rfl) (by decide) ?_
  refine aops_pure (by simp only [jC, jN, seval, vint, TyS, TyF, BdS] <;> with_reducible rfl) (by simp only [jC, jN, seval, vint, TyS, TyF, BdS]) (by decide) Trygo39 (typeSize_k t.size t (Nat.le_refl _) hw hb _) ?_
  refine e_end (by simp only [jA, jO, jN, seval, vint, TyS, TyF, BdS] <;> with_reducible rfl) (by decide) ?_
  repeat (refine awp_seq ?_)
  refine g_eval (by simp only [jG, jO, jN, seval, y3, vint, TyS, TyF, BdS] <;> with_reducible rfl) (by decide) (by repeat (first | exact Fin.base _ | with_reducible apply Fin.keep | apply Fin.drop)) ?_
  repeat (refine awp_seq ?_)
  refine awp_cond rfl (by simp only [jN, seval, vint, TyS, TyF, BdS] <;> with_reducible rfl) (fun b0 => ?_) (fun b0 => ?_)
  ·
    refine awp_sel [] (by simp only [jN, seval, vint, TyS, TyF, BdS] <;> with_reducible rfl) ?_
    repeat (refine awp_seq ?_)
    refine e_eval (by simp only [jA, jO, jN, seval, vint, TyS, TyF, BdS] <;> with_reducible rfl) (by decide) ?_
    repeat (refine awp_seq ?_)
    refine awp_ret ⟨.inr rfl, _, rfl, ?_⟩
    simp only [jN, seval, vint, TyS, TyF, BdS]
    rw [← val_eq]
    simp_all
  ·
    repeat (refine awp_seq ?_)
    refine awp_skip ?_
    refine awp_sel [1] (by simp only [jN, seval, vint, TyS, TyF, BdS] <;> with_reducible rfl) ?_
    repeat (refine awp_seq ?_)
    refine awp_region ?_
    refine e_take 1 (by simp only [jA, jO, jN, seval, y29, vint, TyS, TyF, BdS] <;> with_reducible rfl) (by decide) ?_
    refine aops_pure (by simp only [jC, jN, seval, vint, TyS, TyF, BdS] <;> with_reducible rfl) (by simp only [jC, jN, seval, vint, TyS, TyF, BdS]) (by decide) Trygo40 (typeWF t hw _) ?_
    refine e_end (by simp only [jA, jO, jN, seval, vint, TyS, TyF, BdS] <;> with_reducible rfl) (by decide) ?_
    repeat (refine awp_seq ?_)
    refine awp_cond rfl (by simp only [jN, seval, vint, TyS, TyF, BdS] <;> with_reducible rfl) (fun b1 => ?_) (fun b1 => ?_)
    ·
      repeat (refine awp_seq ?_)
      refine e_eval (by simp only [jA, jO, jN, seval, vint, TyS, TyF, BdS] <;> with_reducible rfl) (by decide) ?_
      repeat (refine awp_seq ?_)
      refine awp_ret ⟨.inr rfl, _, rfl, ?_⟩
      simp only [jN, seval, vint, TyS, TyF, BdS]
      rw [← val_eq]
      simp_all
    ·
      repeat (refine awp_seq ?_)
      refine awp_skip ?_
      repeat (refine awp_seq ?_)
      refine e_eval (by simp only [jA, jO, jN, seval, vint, TyS, TyF, BdS] <;> with_reducible rfl) (by decide) ?_
      repeat (refine awp_seq ?_)
      refine awp_ret ⟨.inr rfl, _, rfl, ?_⟩
      simp only [jN, seval, vint, TyS, TyF, BdS]
      rw [← val_eq]
      simp_all

end Go.Abs
