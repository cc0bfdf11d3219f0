/- Part 6 of a proof of the law UnifyOrderIndependent: Go data as trees, the walks of the functions that the law reaches, the plain laws. -/
import Derived.Test.YtgjpdplbjbgebaaGEUnifyOrderIndependent
import Derived.Shelf.Small.Wraps
import Derived.Shelf.SlSortCmp.WholeK
import Derived.Shelf.SlSortCmp.NoneTotal
import Derived.Ground.SlsfProg
import Derived.Ground.Names2Prog
import Derived.Test.YtgjpdplbjbgebaaProg
import Derived.JoinedOf
import Derived.KernelRfl
import Derived.Test.YtgjpdplbjbgebaaRows
set_option linter.unusedVariables false
set_option linter.unusedSimpArgs false
namespace Go.Proofs
open Go.Shelf
def Try.lays122_ren : Go.Shelf.Ren := ⟨fun | 122 => 38 | 215 => 66 | n => n, fun | 3 => 3 | 4 => 4 | n => n, fun | n => n⟩
theorem Try.lays122 : Go.Proofs.Lays.n122 Try.prog Try.lays122_ren := {
  mixed := by kernel_rfl
  f122 := Try.func38.trans (congrArg some (by kernel_rfl))
  f215 := Try.func66.trans (congrArg some (by kernel_rfl))
  t3 := Try.underlying3
  a3 := Try.isAgg3
  z3 := Try.sizeOf3
  v3 := Try.zeroValue3
  t4 := Try.underlying4
  a4 := Try.isAgg4
  z4 := Try.sizeOf4
  v4 := Try.zeroValue4 }
open Go.RowKit in
/-- cmp.Compare at int: "Compare returns -1 if x is less than y, 0 if x equals y, +1 if x is greater than y.": IT RETURNS 'Lib.compareInt x y'; the world is as it was. (LAID: no walk: one application.) -/
theorem Try.cmp_Compare_int (x y : Int) (w : World) :
    Calls Try.prog 38 #[.int .i64 x, .int .i64 y] w fun e w' => e = .returned (.int .i64 (Lib.compareInt x y)) ∧ w' = w := Any.cmp_Compare_int Try.lays122 x y w
def Try.laysSort36_ren : Go.Shelf.Ren := ⟨fun | 6 => 36 | 15 => 65 | 14 => 64 | 28 => 82 | 29 => 83 | 20 => 74 | 21 => 75 | 22 => 76 | 23 => 77 | 24 => 78 | 25 => 79 | 26 => 80 | 27 => 81 | 46 => 87 | 47 => 88 | 48 => 89 | 49 => 90 | 50 => 91 | 57 => 93 | n => n, fun | 22 => 24 | 24 => 42 | 25 => 65 | 3 => 3 | 39 => 85 | 0 => 0 | 53 => 101 | 55 => 103 | 4 => 4 | 46 => 94 | 45 => 93 | 50 => 98 | 5 => 5 | 9 => 9 | 66 => 108 | 70 => 112 | 76 => 114 | 77 => 66 | n => n, fun | n => n⟩
theorem Try.laysSort36 : Go.Proofs.SlLaysF0.n6 Try.prog Try.laysSort36_ren := {
  mixed := by kernel_rfl
  f6 := ⟨Try.f36.name, by decide, Try.func36.trans (congrArg some (by kernel_rfl))⟩
  f14 := ⟨Try.f64.name, by decide, Try.func64.trans (congrArg some (by kernel_rfl))⟩
  f15 := Try.func65.trans (congrArg some (by kernel_rfl))
  f20 := ⟨Try.f74.name, by decide, Try.func74.trans (congrArg some (by kernel_rfl))⟩
  f21 := ⟨Try.f75.name, by decide, Try.func75.trans (congrArg some (by kernel_rfl))⟩
  f22 := ⟨Try.f76.name, by decide, Try.func76.trans (congrArg some (by kernel_rfl))⟩
  f23 := ⟨Try.f77.name, by decide, Try.func77.trans (congrArg some (by kernel_rfl))⟩
  f24 := ⟨Try.f78.name, by decide, Try.func78.trans (congrArg some (by kernel_rfl))⟩
  f25 := ⟨Try.f79.name, by decide, Try.func79.trans (congrArg some (by kernel_rfl))⟩
  f26 := ⟨Try.f80.name, by decide, Try.func80.trans (congrArg some (by kernel_rfl))⟩
  f27 := ⟨Try.f81.name, by decide, Try.func81.trans (congrArg some (by kernel_rfl))⟩
  f28 := Try.func82.trans (congrArg some (by kernel_rfl))
  f29 := Try.func83.trans (congrArg some (by kernel_rfl))
  f46 := ⟨Try.f87.name, by decide, Try.func87.trans (congrArg some (by kernel_rfl))⟩
  f47 := Try.func88.trans (congrArg some (by kernel_rfl))
  f48 := Try.func89.trans (congrArg some (by kernel_rfl))
  f49 := ⟨Try.f90.name, by decide, Try.func90.trans (congrArg some (by kernel_rfl))⟩
  f50 := ⟨Try.f91.name, by decide, Try.func91.trans (congrArg some (by kernel_rfl))⟩
  f57 := ⟨Try.f93.name, by decide, Try.func93.trans (congrArg some (by kernel_rfl))⟩
  t0 := Try.underlying0
  a0 := Try.isAgg0
  z0 := Try.sizeOf0
  v0 := Try.zeroValue0
  t3 := Try.underlying3
  a3 := Try.isAgg3
  z3 := Try.sizeOf3
  v3 := Try.zeroValue3
  t4 := Try.underlying4
  a4 := Try.isAgg4
  z4 := Try.sizeOf4
  v4 := Try.zeroValue4
  t5 := Try.underlying5
  a5 := Try.isAgg5
  z5 := Try.sizeOf5
  v5 := Try.zeroValue5
  t9 := Try.underlying9
  a9 := Try.isAgg9
  z9 := Try.sizeOf9
  v9 := Try.zeroValue9
  t22 := Try.underlying24
  a22 := Try.isAgg24
  z22 := Try.sizeOf24
  v22 := Try.zeroValue24
  t25 := Try.underlying65
  a25 := Try.isAgg65
  z25 := Try.sizeOf65
  v25 := Try.zeroValue65
  t39 := Try.underlying85
  a39 := Try.isAgg85
  z39 := Try.sizeOf85
  v39 := Try.zeroValue85
  t45 := Try.underlying93
  a45 := Try.isAgg93
  z45 := Try.sizeOf93
  v45 := Try.zeroValue93
  t46 := Try.underlying94
  a46 := Try.isAgg94
  z46 := Try.sizeOf94
  v46 := Try.zeroValue94
  t50 := Try.underlying98
  a50 := Try.isAgg98
  z50 := Try.sizeOf98
  v50 := Try.zeroValue98
  t53 := Try.underlying101
  a53 := Try.isAgg101
  z53 := Try.sizeOf101
  v53 := Try.zeroValue101
  t55 := Try.underlying103
  a55 := Try.isAgg103
  z55 := Try.sizeOf103
  v55 := Try.zeroValue103
  t66 := Try.underlying108
  a66 := Try.isAgg108
  z66 := Try.sizeOf108
  v66 := Try.zeroValue108
  t70 := Try.underlying112
  a70 := Try.isAgg112
  z70 := Try.sizeOf112
  v70 := Try.zeroValue112
  t76 := Try.underlying114
  a76 := Try.isAgg114
  z76 := Try.sizeOf114
  v76 := Try.zeroValue114
  t77 := Try.underlying66
  a77 := Try.isAgg66
  z77 := Try.sizeOf66
  v77 := Try.zeroValue66 }
end Go.Proofs
namespace Go.Abs
open Go.Proofs Go.Shelf Go.RowKit Go.Lib Go.Sort
set_option maxHeartbeats 1000000 in
/-- The closure by which Unify sorts: two blocks are laid. -/
theorem closure37 (x y : XB) (W : World) : Calls Try.prog 37 #[.agg #[.int .i64 x.1, .int .i64 x.2.1, .int .i64 x.2.2.1, .slice x.2.2.2.1 x.2.2.2.2.1 x.2.2.2.2.2], .agg #[.int .i64 y.1, .int .i64 y.2.1, .int .i64 y.2.2.1, .slice y.2.2.2.1 y.2.2.2.2.1 y.2.2.2.2.2]] W fun e w' => e = .returned (.int .i64 (Lib.compareInt x.1 y.1)) ∧ ∃ q os', w' = grow (W.drewN q) os' := by
  have hcon := fun W' => Try.cmp_Compare_int x.1 y.1 W'
  generalize Lib.compareInt x.1 y.1 = r at hcon ⊢
  go_enter Try.func37, Try.ntmps37
  go_wp2_with (go_at_call 38; refine (hcon _).mono ?_; rintro e w' ⟨rfl, rfl⟩)
  go_ret
  exact ⟨rfl, 0, _, by rw [alloc_eq_grow, alloc_eq_grow, grow_grow]; rfl⟩
theorem sortsX : SortsX Try.prog 36 37 := fun blk cap d w hH hblk hsz =>
  AnyQ.slices_SortFunc Try.laysSort36 4 Try.isAgg42 Try.sizeOf42 encX (fun _ => rfl) (fun x v hv => by simp [encX] at hv; rcases hv with rfl | rfl | rfl | rfl <;> rfl) (fun x y => Lib.compareInt x.1 y.1) swoX 37 #[] blk 0 cap d w
    (enters_of Try.func37 (by kernel_rfl) rfl) (fun _ _ _ _ x y => closure37 x y _) hH hblk hsz
theorem sortsNil : SortsNil Try.prog 36 37 := fun ad cap w => AnyF.slices_SortFunc_none { Try.laysSort36 with } ad cap _ w
end Go.Abs
namespace Go.Abs
open Go.Proofs
def bdOf (s : Int → Ty) (e : Int × Ty) : Bd := ⟨e.1, s e.1⟩
/-- What Unify answers where all sides are valid. -/
def ansU (c : Bool) (B : Bs) (s : Int → Ty) : List Bd × Bool := if (c && B.all fun e => fits s e.2) = true then (sortB (B.map (bdOf s)), true) else ([], false)
theorem lk_of_mem {B : Bs} (h : BOk B) {e : Int × Ty} (he : e ∈ B) : lk B e.1 = some e.2 := lk_mem h.nd e he
theorem fuel_all {B : Bs} {s : Int → Ty} (h : Inv B s) (hB : BOk B) (hD : ∀ t, wfT t = true → t.size ≤ 100 → dep (ap s t) ≤ 4611686018427387904) : ∀ (L : Bs), (∀ e ∈ L, e ∈ B) → ∃ n, ∀ m, n ≤ m → ∀ e ∈ L, withinF m B e.2 = some (fits s e.2) ∧ okR m B e.2 ∧ rsvF m B e.2 = s e.1
  | [], _ => ⟨0, fun m _ e he => by cases he⟩
  | e :: L, hL => by
    obtain ⟨n1, h1⟩ := fuel_all h hB hD L fun x hx => hL x (.tail _ hx)
    have hl := lk_of_mem hB (hL e (.head _))
    obtain ⟨n2, h2⟩ := withinF_spec h hB hD (h.wf _ _ hl) (hB.lk hl)
    obtain ⟨n3, h3⟩ := rsvF_ok h e.2 (h.wf _ _ hl)
    refine ⟨n1 + n2 + n3, fun m hm x hx => ?_⟩
    rcases List.mem_cons.1 hx with rfl | hx
    · obtain ⟨g1, g2⟩ := h3 m (by omega)
      exact ⟨h2 m (by omega), g1, by rw [g2, ← h.bd _ _ hl]⟩
    · exact h1 m (by omega) x hx
theorem unify_c {eqs : List Eq2} (hw : ∀ e ∈ eqs, e.l.W ∧ e.r.W) (hlen : eqs.length ≤ maxLen) :
    ((decide (((eqs.length : Nat) : Int) > 100) || eqs.any bad) = true → PC Try.prog 9 [.slice (eqs.map Eq2.enc) .none] (.tup [.slice [] .none, .bool false])) ∧
    ((decide (((eqs.length : Nat) : Int) > 100) || eqs.any bad) = false → EGood eqs ∧ ∃ c B s, SSp eqs [] c B s ∧ PC Try.prog 9 [.slice (eqs.map Eq2.enc) .none] (.tup [.slice ((ansU c B s).1.map Bd.enc) .none, .bool (ansU c B s).2])) := by
  constructor
  · intro hb
    have := unify_k (n := 0) sortsX sortsNil hw hlen (fun q => by rw [hb] at q; cases q)
    have e : uniR 0 eqs = ([], false) := by unfold uniR; rw [if_pos hb]
    rw [e] at this
    exact this
  · intro hb
    rw [Bool.or_eq_false_iff] at hb
    have hl : eqs.length ≤ 100 := by have := of_decide_eq_false hb.1; omega
    have hg : EGood eqs := fun e he => good_of (by
      have := hb.2
      rw [List.any_eq_false] at this
      simpa using this e he)
    refine ⟨hg, ?_⟩
    obtain ⟨n1, ⟨c, B⟩, h1⟩ := solve_ex eqs hg [] vr inv_nil bok_nil
    obtain ⟨s, hs⟩ := solve_spec n1 eqs hg [] vr c B inv_nil bok_nil h1
    refine ⟨c, B, s, hs, ?_⟩
    cases c with
    | false =>
      have := unify_k (n := n1) sortsX sortsNil hw hlen (fun _ => ⟨false, B, h1, nofun⟩)
      have e : uniR n1 eqs = ansU false B s := by
        unfold uniR
        rw [if_neg (by rw [hb.1, hb.2]; simp), h1]; rfl
      rw [e] at this
      exact this
    | true =>
      have hln := hs.len rfl
      have hD : ∀ t, wfT t = true → t.size ≤ 100 → dep (ap s t) ≤ 4611686018427387904 := fun t ht hz => by
        have d1 := dep_bound hs.inv t ht
        have d2 := wsum_le (P := mle s t) B hs.ok.sz
        simp only [List.length_nil, Nat.zero_add] at hln
        omega
      obtain ⟨n2, h2⟩ := fuel_all hs.inv hs.ok hD B fun _ h => h
      have h1' := solveF_mono eqs h1 (Nat.le_max_left n1 n2)
      have h2' := h2 (max n1 n2) (Nat.le_max_right n1 n2)
      have ug : UGood (max n1 n2) B := ⟨hs.ok.nd, by simp only [List.length_nil, Nat.zero_add] at hln; omega, ?_, fun e he => ⟨_, (h2' e he).1, fun _ => (h2' e he).2.1⟩⟩
      · have := unify_k (n := max n1 n2) sortsX sortsNil hw hlen (fun _ => ⟨true, B, h1', fun _ => ug⟩)
        have e : uniR (max n1 n2) eqs = ansU true B s := by
          unfold uniR ansU
          rw [if_neg (by rw [hb.1, hb.2]; simp), h1']
          have e1 : B.all (inB (max n1 n2) B) = B.all fun e => fits s e.2 := by
            rw [Bool.eq_iff_iff, List.all_eq_true, List.all_eq_true]
            refine forall_congr' fun e => forall_congr' fun he => ?_
            unfold inB; rw [(h2' e he).1]; rfl
          have e2 : B.map (resB (max n1 n2) B) = B.map (bdOf s) := List.map_congr_left fun e he => by
            unfold resB bdOf; rw [(h2' e he).2.2]
          simp only [e1, e2, Bool.true_and]
        rw [e] at this
        exact this
      · -- sides and bindings fit into memory
        intro v t hl
        exact small_W t (hs.ok.lk hl)
where
  small_W : ∀ t : Ty, t.size ≤ 100 → t.W
    | .mk k i us, h => by
      refine .mk ?_ fun u hu => small_W u ?_
      · have : ∀ us : List Ty, us.length ≤ Ty.sizes us := fun us => by
          induction us with
          | nil => simp
          | cons u us ih => have := size_ge u; simp only [Ty.sizes, List.length_cons]; omega
        have h2 := this us
        rw [Ty.size] at h
        omega
      · have := Ty.size_arg (t := .mk k i us) hu; omega
end Go.Abs
namespace Go.Abs
open Go.Proofs
/-! What a list of bindings does to a type, and what is known of Unify's answer. -/
def lkS (ss : List Bd) (x : Int) : Ty := ((ss.find? fun b => decide (b.v = x)).map (·.t)).getD (vr x)
theorem lk_none_iff {α : Type} : ∀ {B : List (Int × α)} {v : Int}, lk B v = none ↔ ∀ e ∈ B, e.1 ≠ v
  | [], v => by simp [lk]
  | e :: B, v => by
    simp only [lk]
    by_cases h : e.1 = v
    · rw [if_pos h]; constructor
      · intro q; cases q
      · intro q; exact absurd h (q e (.head _))
    · rw [if_neg h, lk_none_iff]
      constructor
      · intro q x hx
        rcases List.mem_cons.1 hx with rfl | hx
        · exact h
        · exact q x hx
      · intro q x hx; exact q x (.tail _ hx)
theorem small_W : ∀ t : Ty, t.size ≤ 100 → t.W
  | .mk k i us, h => by
    refine .mk ?_ fun u hu => small_W u ?_
    · have : ∀ us : List Ty, us.length ≤ Ty.sizes us := fun us => by
        induction us with
        | nil => simp
        | cons u us ih => have := size_ge u; simp only [Ty.sizes, List.length_cons]; omega
      have h2 := this us
      rw [Ty.size] at h
      omega
    · have := Ty.size_arg (t := .mk k i us) hu; omega
/-- What is known of an answer. -/
structure Uni (eqs : List Eq2) (R : List Bd) (ok : Bool) : Prop where
  len : R.length ≤ 10000000
  w : ∀ b ∈ R, b.t.W
  no : ok = false → R = []
  badly : (decide (((eqs.length : Nat) : Int) > 100) || eqs.any bad) = true → ok = false
  good : (decide (((eqs.length : Nat) : Int) > 100) || eqs.any bad) = false → EGood eqs ∧ ∃ c B s, SSp eqs [] c B s ∧ ok = (c && B.all fun e => fits s e.2) ∧ (ok = true → R = sortB (B.map (bdOf s)) ∧ c = true ∧ ∀ e ∈ B, (s e.1).size ≤ 100 ∧ dep (s e.1) ≤ 12)
theorem Uni.yes {eqs : List Eq2} {R : List Bd} (h : Uni eqs R true) : EGood eqs ∧ ∃ B s, SSp eqs [] true B s ∧ R = sortB (B.map (bdOf s)) ∧ ∀ e ∈ B, (s e.1).size ≤ 100 ∧ dep (s e.1) ≤ 12 := by
  cases hb : (decide (((eqs.length : Nat) : Int) > 100) || eqs.any bad) with
  | true => have := h.badly hb; cases this
  | false =>
    obtain ⟨h1, c, B, s, h2, h3, h4⟩ := h.good hb
    obtain ⟨h5, rfl, h6⟩ := h4 rfl
    exact ⟨h1, B, s, h2, h5, h6⟩
theorem uni_c {eqs : List Eq2} (hw : ∀ e ∈ eqs, e.l.W ∧ e.r.W) (hlen : eqs.length ≤ maxLen) :
    ∃ R ok, PC Try.prog 9 [.slice (eqs.map Eq2.enc) .none] (.tup [.slice (R.map Bd.enc) .none, .bool ok]) ∧ Uni eqs R ok := by
  have hc := unify_c hw hlen
  cases hb : (decide (((eqs.length : Nat) : Int) > 100) || eqs.any bad) with
  | true => exact ⟨[], false, hc.1 hb, by simp, (by simp), fun _ => rfl, fun _ => rfl, (fun h => by rw [hb] at h; cases h)⟩
  | false =>
    obtain ⟨hg, c, B, s, h1, h2⟩ := hc.2 hb
    refine ⟨_, _, h2, ?_⟩
    have hl : eqs.length ≤ 100 := by
      rw [Bool.or_eq_false_iff] at hb
      have := of_decide_eq_false hb.1; omega
    unfold ansU
    by_cases hq : (c && B.all fun e => fits s e.2) = true
    · rw [if_pos hq]
      have hc1 : c = true := by rw [Bool.and_eq_true] at hq; exact hq.1
      have hf : ∀ e ∈ B, (s e.1).size ≤ 100 ∧ dep (s e.1) ≤ 12 := fun e he => by
        rw [Bool.and_eq_true, List.all_eq_true] at hq
        have := hq.2 e he
        unfold fits at this
        rw [Bool.and_eq_true, decide_eq_true_eq, decide_eq_true_eq] at this
        rw [h1.inv.bd _ _ (lk_of_mem h1.ok he)]
        exact ⟨by omega, this.2⟩
      refine ⟨?_, ?_, nofun, (fun h => by rw [hb] at h; cases h), fun _ => ⟨hg, c, B, s, h1, hq.symm, fun _ => ⟨rfl, hc1, hf⟩⟩⟩
      · rw [(sortB_perm _).length_eq, List.length_map]
        have := h1.len hc1
        simp only [List.length_nil, Nat.zero_add] at this
        omega
      · intro b hbm
        have := (sortB_perm _).mem_iff.1 hbm
        obtain ⟨e, he, rfl⟩ := List.mem_map.1 this
        exact small_W _ (hf e he).1
    · rw [if_neg hq]
      exact ⟨by simp, (by simp), fun _ => rfl, fun _ => rfl, fun _ => ⟨hg, c, B, s, h1, (by simpa using hq), nofun⟩⟩
/-- No error type inside. -/
def errT : Ty → Bool
  | .mk k _ us => decide (k = 0) || (us.map fun u => errT u).any fun b => b
theorem errT_eq (t : Ty) : errT t = (decide (t.kind = 0) || t.args.any errT) := by cases t; rw [errT, List.any_map]; rfl
theorem NE_of : ∀ t, errT t = false → NE t := fun t => by
  induction t using Ty.ind with
  | h t ih =>
    intro h
    rw [errT_eq, Bool.or_eq_false_iff, List.any_eq_false] at h
    have : All (fun u : Ty => u.kind ≠ 0) (.mk t.kind t.id t.args) := .mk (by simpa [Ty.kind] using of_decide_eq_false h.1) fun u hu => ih u hu (by simpa using h.2 u hu)
    rwa [mk_eta] at this
def errE (e : Eq2) : Bool := errT e.l || errT e.r
theorem ENE_of {eqs : List Eq2} (h : eqs.any errE = false) : ENE eqs := fun e he => by
  rw [List.any_eq_false] at h
  have := h e he
  unfold errE at this
  simp only [Bool.not_eq_true, Bool.or_eq_false_iff] at this
  exact ⟨NE_of _ this.1, NE_of _ this.2⟩
theorem neb_nil : NEB [] := nofun
end Go.Abs
namespace Go.Abs
open Go.Proofs
/-! UnifyMonotone, UnifyMostGeneral and UnifyOrderIndependent, in plain words. -/
theorem size_le_ap {θ : Int → Ty} : ∀ t, wfT t = true → t.size ≤ (ap θ t).size := fun t => by
  induction t using Ty.ind with
  | h t ih =>
    intro hw
    by_cases hk : t.kind = 1
    · rw [wf_vr hw hk, vr_size]; exact ap_pos θ _
    · have e : t.size = 1 + Ty.sizes t.args := by cases t; simp [Ty.size, Ty.args]
      rw [size_node θ hk, e, zs]
      have : ∀ us : List Ty, (∀ u ∈ us, u.size ≤ (ap θ u).size) → Ty.sizes us ≤ Ty.sizes (us.map (ap θ)) := fun us => by
        induction us with
        | nil => intro _; simp [Ty.sizes]
        | cons u us ih =>
          intro h
          have h1 := h u (.head _)
          have h2 := ih fun x hx => h x (.tail _ hx)
          simp only [List.map_cons, Ty.sizes]; omega
      have := this t.args fun u hu => ih u hu (wf_arg hw hu)
      omega
theorem depL_mono : ∀ (xs ys : List Int) (m k : Int), xs.length = ys.length → (∀ p ∈ xs.zip ys, p.1 ≤ p.2) → m ≤ k → depL xs m ≤ depL ys k
  | [], [], m, k, _, _, h => h
  | a :: xs, b :: ys, m, k, hl, h, hm => by
    rw [depL_cons, depL_cons]
    have h1 := h (a, b) (.head _)
    exact depL_mono xs ys _ _ (by simpa using hl) (fun p hp => h p (.tail _ hp)) (by simp only at h1; omega)
  | [], _ :: _, _, _, hl, _, _ => by cases hl
  | _ :: _, [], _, _, hl, _, _ => by cases hl
theorem dep_le_ap {θ : Int → Ty} : ∀ t, wfT t = true → dep t ≤ dep (ap θ t) := fun t => by
  induction t using Ty.ind with
  | h t ih =>
    intro hw
    by_cases hk : t.kind = 1
    · rw [wf_vr hw hk]
      have e : dep (vr t.id) = 1 := by rw [dep_eq]; rfl
      rw [e]; exact (dep_bd _).1
    · rw [ap_n hk, dep_eq, dep_eq (.mk _ _ _)]
      refine depL_mono _ _ _ _ (by simp [Ty.args]) (fun p hp => ?_) (Int.le_refl _)
      obtain ⟨i, hi, rfl⟩ := List.mem_iff_getElem.1 hp
      simp only [List.length_zip, List.length_map, Ty.args] at hi
      simp only [List.getElem_zip, List.getElem_map, Ty.args]
      exact ih _ (List.getElem_mem _) (wf_arg hw (List.getElem_mem _))
theorem size_ap_le {θ : Int → Ty} {m : Nat} (hm : 1 ≤ m) (h : ∀ x, 0 ≤ x → (θ x).size ≤ m) : ∀ t, wfT t = true → (ap θ t).size ≤ t.size * m := fun t => by
  induction t using Ty.ind with
  | h t ih =>
    intro hw
    by_cases hk : t.kind = 1
    · rw [ap_v hk]
      have h1 := h t.id (wf_pos hw hk)
      have h2 := size_ge t
      have := Nat.mul_le_mul_right m h2
      omega
    · have e : t.size = 1 + Ty.sizes t.args := by cases t; simp [Ty.size, Ty.args]
      rw [size_node θ hk, e, zs]
      have : ∀ us : List Ty, (∀ u ∈ us, (ap θ u).size ≤ u.size * m) → Ty.sizes (us.map (ap θ)) ≤ Ty.sizes us * m := fun us => by
        induction us with
        | nil => intro _; simp [Ty.sizes]
        | cons u us ih =>
          intro h
          have h1 := h u (.head _)
          have h2 := ih fun x hx => h x (.tail _ hx)
          simp only [List.map_cons, Ty.sizes, Nat.add_mul]; omega
      have := this t.args fun u hu => ih u hu (wf_arg hw hu)
      rw [Nat.add_mul]; omega
/-- All variables get small types. -/
def Small (θ : Int → Ty) : Prop := ∀ x, 0 ≤ x → (θ x).size ≤ 100 ∧ dep (θ x) ≤ 12
theorem vr_dep (x : Int) : dep (vr x) = 1 := by rw [dep_eq]; rfl
theorem small_ans {B : Bs} {s : Int → Ty} (h : Inv B s) (hf : ∀ e ∈ B, (s e.1).size ≤ 100 ∧ dep (s e.1) ≤ 12) : Small s := fun x _ => by
  cases hl : lk B x with
  | none => rw [h.un _ hl, vr_size, vr_dep]; omega
  | some t =>
    have : ¬ ∀ e ∈ B, e.1 ≠ x := fun q => by rw [lk_none_iff.2 q] at hl; cases hl
    simp only [Classical.not_forall] at this
    obtain ⟨e, he, hne⟩ := this
    have hne : e.1 = x := by simpa using hne
    rw [← hne]; exact hf e he
theorem mod_nil (θ : Int → Ty) : Mod θ [] := nofun
/-- A solution whose types are small shows that the unifier succeeds, and it is an instance. -/
theorem Uni.inst {eqs : List Eq2} {R : List Bd} {ok : Bool} (h : Uni eqs R ok) (hb : (decide (((eqs.length : Nat) : Int) > 100) || eqs.any bad) = false) (hn : eqs.any errE = false) {θ : Int → Ty} (hs : Solves θ eqs) :
    (Small θ → ok = true) ∧ (ok = true → ∃ B s, SSp eqs [] true B s ∧ R = sortB (B.map (bdOf s)) ∧ (∀ e ∈ B, (s e.1).size ≤ 100 ∧ dep (s e.1) ≤ 12) ∧ Mod θ B) := by
  obtain ⟨hg, c, B, s, h1, h2, h3⟩ := h.good hb
  obtain ⟨m1, m2⟩ := h1.mod (ENE_of hn) neb_nil θ (mod_nil θ) hs
  constructor
  · intro hsm
    have hc : c = true := m2 fun e he => by
      obtain ⟨⟨w1, z1⟩, _⟩ := hg e he
      have := size_ap_le (m := 100) (by decide) (fun x hx => (hsm x hx).1) e.l w1
      have := Nat.mul_le_mul_right 100 z1
      omega
    have hm := m1 hc
    rw [h2, hc, Bool.true_and, List.all_eq_true]
    intro e he
    have hl := lk_of_mem h1.ok he
    have hw := h1.inv.wf _ _ hl
    have hp := h1.inv.pos _ _ hl
    have e1 : θ e.1 = ap θ (ap s e.2) := by rw [hm.app h1.inv _ hw]; exact hm _ _ hl
    have hws : wfT (ap s e.2) = true := by rw [← h1.inv.bd _ _ hl]; exact h1.inv.wfs _ hp
    have s1 := size_le_ap (θ := θ) _ hws
    have d1 := dep_le_ap (θ := θ) _ hws
    rw [← e1] at s1 d1
    have := hsm e.1 hp
    unfold fits
    rw [decide_eq_true (by omega), decide_eq_true (by omega)]; rfl
  · intro ho
    obtain ⟨q1, rfl, q3⟩ := h3 ho
    exact ⟨B, s, h1, q1, q3, m1 rfl⟩
theorem Uni.not_bad {eqs : List Eq2} {R : List Bd} (h : Uni eqs R true) : (decide (((eqs.length : Nat) : Int) > 100) || eqs.any bad) = false := by
  cases hb : (decide (((eqs.length : Nat) : Int) > 100) || eqs.any bad) with
  | false => rfl
  | true => have := h.badly hb; cases this
theorem Mod.at_ {θ : Int → Ty} {B : Bs} {s : Int → Ty} (h : Mod θ B) (k : Inv B s) {v : Int} (hv : 0 ≤ v) : ap θ (s v) = θ v := by
  have := h.app k (vr v) (wf_vr' hv)
  rwa [ap_vr, ap_vr] at this
theorem Inv.var_le {B : Bs} {s : Int → Ty} (h : Inv B s) : ∀ t, wfT t = true → ∀ y, ap s t = vr y → t.kind = 1 ∧ y ≤ t.id := fun t => by
  induction t using m_ind (s := s) with
  | hp t ih =>
    intro hw y e
    by_cases hk : t.kind = 1
    · refine ⟨hk, ?_⟩
      rw [ap_v hk] at e
      cases hl : lk B t.id with
      | none =>
        rw [h.un _ hl] at e
        have : t.id = y := by unfold vr at e; injection e
        omega
      | some u =>
        rw [h.bd _ _ hl] at e
        obtain ⟨k1, k2⟩ := ih u (h.var_lt hk hl) (h.wf _ _ hl) y e
        have := h.lt _ _ hl k1
        omega
    · rw [ap_n hk] at e
      unfold vr at e
      injection e with e1 e2 e3
      exact absurd e1 hk
/-- Two solved forms that are instances of one another are one. -/
theorem same_sol {B B' : Bs} {s s' : Int → Ty} (h : Inv B s) (h' : Inv B' s') (m : Mod s B') (m' : Mod s' B) : ∀ x, 0 ≤ x → s x = s' x := fun x hx => by
  have e1 := m'.at_ h hx
  have key : ∀ y, occ y (s x) = true → s' y = vr y := fun y hy => by
    have hg : lk B y = none := h.gone (vr x) (wf_vr' hx) (by rwa [ap_vr])
    have hpy : 0 ≤ y := occ_pos _ (h.wfs _ hx) hy
    have e2 := m.at_ h' hpy
    rw [h.un _ hg] at e2
    obtain ⟨k1, k2⟩ := h.var_le (s' y) (h'.wfs _ hpy) y e2
    have e3 := wf_vr (h'.wfs _ hpy) k1
    obtain ⟨_, k3⟩ := h'.var_le (vr y) (wf_vr' hpy) (s' y).id (by rw [ap_vr]; exact e3)
    have : (s' y).id ≤ y := k3
    rw [e3]
    have : (s' y).id = y := by omega
    rw [this]
  rw [← e1, ap_congr (r := vr) _ key, ap_id _ (h.wfs _ hx)]
theorem sorted_ext : ∀ {xs ys : List Bd}, xs.Pairwise (fun a b => a.v < b.v) → ys.Pairwise (fun a b => a.v < b.v) → (∀ b, b ∈ xs ↔ b ∈ ys) → xs = ys
  | [], [], _, _, _ => rfl
  | [], b :: ys, _, _, h => by have := (h b).2 (.head _); cases this
  | a :: xs, [], _, _, h => by have := (h a).1 (.head _); cases this
  | a :: xs, b :: ys, h1, h2, h => by
    rw [List.pairwise_cons] at h1 h2
    have e : a = b := by
      have ha := (h a).1 (.head _)
      have hb := (h b).2 (.head _)
      rcases List.mem_cons.1 ha with e | ha
      · exact e
      · rcases List.mem_cons.1 hb with e | hb
        · exact e.symm
        · have := h2.1 a ha; have := h1.1 b hb; omega
    subst e
    congr 1
    refine sorted_ext h1.2 h2.2 fun c => ⟨fun hc => ?_, fun hc => ?_⟩
    · rcases List.mem_cons.1 ((h c).1 (.tail _ hc)) with rfl | k
      · have := h1.1 c hc; omega
      · exact k
    · rcases List.mem_cons.1 ((h c).2 (.tail _ hc)) with rfl | k
      · have := h2.1 c hc; omega
      · exact k
theorem ans_lt {eqs : List Eq2} {B : Bs} {s : Int → Ty} (h1 : SSp eqs [] true B s) : (sortB (B.map (bdOf s))).Pairwise fun a b => a.v < b.v := by
  refine lt_of_le_nodup (sortB_le _) ?_
  have : ((sortB (B.map (bdOf s))).map (·.v)).Perm (B.map (·.1)) := by
    have := (sortB_perm (B.map (bdOf s))).map (·.v)
    rwa [List.map_map] at this
  exact this.nodup_iff.2 h1.ok.nd
theorem ans_mem {eqs : List Eq2} {B : Bs} {s : Int → Ty} (h1 : SSp eqs [] true B s) (b : Bd) : b ∈ sortB (B.map (bdOf s)) ↔ (0 ≤ b.v ∧ s b.v ≠ vr b.v ∧ b.t = s b.v) := by
  rw [(sortB_perm _).mem_iff, List.mem_map]
  constructor
  · rintro ⟨e, he, rfl⟩
    have hl := lk_of_mem h1.ok he
    have hp := h1.inv.pos _ _ hl
    refine ⟨hp, fun q => ?_, rfl⟩
    have q : s e.1 = vr e.1 := q
    have := h1.inv.gone (x := e.1) (vr e.1) (wf_vr' hp) (by rw [ap_vr, q]; exact occ_vr.2 rfl)
    rw [hl] at this; cases this
  · rintro ⟨hp, hne, ht⟩
    cases hl : lk B b.v with
    | none => exact absurd (h1.inv.un _ hl) hne
    | some t =>
      have : ¬ ∀ e ∈ B, e.1 ≠ b.v := fun q => by rw [lk_none_iff.2 q] at hl; cases hl
      simp only [Classical.not_forall] at this
      obtain ⟨e, he, hq0⟩ := this
      have hq : e.1 = b.v := by simpa using hq0
      clear hq0
      refine ⟨e, he, ?_⟩
      obtain ⟨v, t⟩ := b
      simp only at hq ht; subst ht; unfold bdOf; rw [hq]
theorem ord_half {eqs fqs : List Eq2} {R R' : List Bd} {ok ok' : Bool} (h : Uni eqs R ok) (h' : Uni fqs R' ok') (hl : fqs.length = eqs.length) (hm : ∀ e ∈ fqs, (⟨e.r, e.l⟩ : Eq2) ∈ eqs) (hm' : ∀ e ∈ eqs, (⟨e.r, e.l⟩ : Eq2) ∈ fqs) (hn : eqs.any errE = false) (hn' : fqs.any errE = false) (ho : ok = true) :
    ok' = true ∧ R = R' := by
  subst ho
  have hb := h.not_bad
  obtain ⟨hg, B, s, j1, rfl, j3⟩ := h.yes
  have hs := j1.sol (ENE_of hn) neb_nil rfl
  have hb' : (decide (((fqs.length : Nat) : Int) > 100) || fqs.any bad) = false := by
    rw [Bool.or_eq_false_iff] at hb ⊢
    refine ⟨by rw [hl]; exact hb.1, ?_⟩
    have := hb.2
    rw [List.any_eq_false] at this ⊢
    intro e he
    have := this _ (hm e he)
    unfold bad at this ⊢
    rwa [Bool.or_comm] at this
  obtain ⟨k1, k2⟩ := h'.inst hb' hn' (θ := s) fun e he => (hs _ (hm e he)).symm
  have ho' := k1 (small_ans j1.inv j3)
  refine ⟨ho', ?_⟩
  subst ho'
  obtain ⟨B', s', i1, rfl, i3, m⟩ := k2 rfl
  have hs' := i1.sol (ENE_of hn') neb_nil rfl
  have m' : Mod s' B := (j1.mod (ENE_of hn) neb_nil s' (mod_nil _) fun e he => (hs' _ (hm' e he)).symm).1 rfl
  have hss := same_sol j1.inv i1.inv m m'
  refine sorted_ext (ans_lt j1) (ans_lt i1) fun b => ?_
  rw [ans_mem j1, ans_mem i1]
  constructor
  · rintro ⟨p, q, r⟩; rw [hss _ p] at q r; exact ⟨p, q, r⟩
  · rintro ⟨p, q, r⟩; rw [← hss _ p] at q r; exact ⟨p, q, r⟩
/-- UnifyOrderIndependent. -/
def Eq2.sw (e : Eq2) : Eq2 := ⟨e.r, e.l⟩
theorem ord_plain {eqs : List Eq2} {R R' : List Bd} {ok ok' : Bool} (h : Uni eqs R ok) (h' : Uni (eqs.reverse.map Eq2.sw) R' ok') (hn : eqs.any errE = false) : ok = ok' ∧ R = R' := by
  have hn' : (eqs.reverse.map Eq2.sw).any errE = false := by
    rw [List.any_eq_false] at hn ⊢
    intro e he
    obtain ⟨x, hx, rfl⟩ := List.mem_map.1 he
    have := hn x (List.mem_reverse.1 hx)
    unfold errE at this ⊢
    simp only [Eq2.sw]
    rwa [Bool.or_comm] at this
  have hl : (eqs.reverse.map Eq2.sw).length = eqs.length := by simp
  have hm : ∀ e ∈ eqs.reverse.map Eq2.sw, (⟨e.r, e.l⟩ : Eq2) ∈ eqs := fun e he => by
    obtain ⟨x, hx, rfl⟩ := List.mem_map.1 he
    exact List.mem_reverse.1 hx
  have hm' : ∀ e ∈ eqs, (⟨e.r, e.l⟩ : Eq2) ∈ eqs.reverse.map Eq2.sw := fun e he => List.mem_map.2 ⟨e, List.mem_reverse.2 he, rfl⟩
  cases ho : ok with
  | true =>
    obtain ⟨a, b⟩ := ord_half h h' hl hm hm' hn hn' ho
    exact ⟨a.symm, b⟩
  | false =>
    cases ho' : ok' with
    | true =>
      obtain ⟨a, b⟩ := ord_half h' h hl.symm hm' hm hn' hn ho'
      rw [ho] at a; cases a
    | false => exact ⟨rfl, by rw [h.no ho, h'.no ho']⟩
end Go.Abs
namespace Go.Abs
open Go.Proofs
def ti : Ty := .mk 3 0 []
def eqW1 : List Eq2 := [⟨.mk 9 0 [vr 1, vr 2], .mk 9 0 [ti, vr 1]⟩]
def eqW2 : List Eq2 := [⟨vr 0, .mk 8 0 [vr 0]⟩]
def bW : Bs := [(1, ti), (2, ti)]
theorem solveW1 : solveF 12 eqW1 [] = some (true, bW) := by
  kernel_rfl
theorem solveW2 : solveF 12 eqW2 [] = some (false, []) := by
  kernel_rfl
theorem withinW : withinF 12 bW ti = some true := by
  simp [withinF, extF, extL, ti, Ty.kind, Ty.args, IntKind.wrap, IntKind.bits, IntKind.signed]
theorem okW : okR 12 bW ti := .mk (fun h => by cases h) nofun
theorem goodW : UGood 12 bW := by
  refine ⟨by simp [bW], by simp [bW], fun n t h => ?_, fun e he => ?_⟩
  · simp only [bW, lk] at h
    split at h
    · cases h; exact .mk (by simp) nofun
    · split at h
      · cases h; exact .mk (by simp) nofun
      · cases h
  · simp only [bW, List.mem_cons, List.not_mem_nil, or_false] at he
    rcases he with rfl | rfl <;> exact ⟨true, withinW, fun _ => okW⟩
theorem rsvW : rsvF 12 bW ti = ti := by
  show mapT _ ti = ti
  rw [mapT_eq]; simp [resG, ti, Ty.kind, Ty.id, Ty.args]
def ansW : List Bd := [⟨1, ti⟩, ⟨2, ti⟩]
theorem sortW : sortB ansW = ansW := (eq_sortB (.refl _) (by simp [ansW]) (by simp [ansW])).symm
theorem goodW1 : eqW1.any bad = false := by
  have h1 : valT (.mk 9 0 [vr 1, vr 2]) = 0 := by
    simp [valT, measT, measL, wfT, nwf, vr, Ty.kind, Ty.id, Ty.args] <;> omega
  have h2 : valT (.mk 9 0 [ti, vr 1]) = 0 := by
    simp [valT, measT, measL, wfT, nwf, vr, ti, Ty.kind, Ty.id, Ty.args] <;> omega
  simp [eqW1, bad, h1, h2]
theorem goodW2 : eqW2.any bad = false := by
  have h1 : valT (vr 0) = 0 := by
    simp [valT, measT, measL, wfT, nwf, vr, Ty.kind, Ty.id, Ty.args] <;> omega
  have h2 : valT (.mk 8 0 [vr 0]) = 0 := by
    simp [valT, measT, measL, wfT, nwf, vr, Ty.kind, Ty.id, Ty.args] <;> omega
  simp [eqW2, bad, h1, h2]
theorem uniW1 : uniR 12 eqW1 = (ansW, true) := by
  unfold uniR
  rw [if_neg (by rw [goodW1]; simp [eqW1]), solveW1]
  have e1 : bW.all (inB 12 bW) = true := by
    simp only [bW, List.all_cons, List.all_nil, Bool.and_true, Bool.and_eq_true]
    constructor <;> (show (withinF 12 bW ti).getD false = true; rw [withinW]; rfl)
  have e2 : bW.map (resB 12 bW) = ansW := by
    show [resB 12 bW (1, ti), resB 12 bW (2, ti)] = ansW
    simp only [resB, rsvW]; rfl
  simp only [e1, e2, if_true, sortW]
theorem uniW2 : uniR 12 eqW2 = ([], false) := by
  unfold uniR
  rw [if_neg (by rw [goodW2]; simp [eqW2]), solveW2]
theorem WvrW (x : Int) : (vr x).W := .mk (by simp) nofun
theorem W2W {k i : Int} {a b : Ty} (ha : a.W) (hb : b.W) : (Ty.mk k i [a, b]).W := .mk (by simp) (by simp [ha, hb])
theorem unifyW1 : PC Try.prog 9 [.slice (eqW1.map Eq2.enc) .none] (.tup [.slice (ansW.map Bd.enc) .none, .bool true]) := by
  have := unify_k (n := 12) (eqs := eqW1) sortsX sortsNil (fun e he => by
    simp only [eqW1, List.mem_singleton] at he; subst he
    exact ⟨W2W (WvrW 1) (WvrW 2), W2W (.mk (by simp) nofun) (WvrW 1)⟩) (by simp [eqW1, maxLen]) (fun _ => ⟨true, bW, solveW1, fun _ => goodW⟩)
  rw [uniW1] at this
  exact this
theorem unifyW2 : PC Try.prog 9 [.slice (eqW2.map Eq2.enc) .none] (.tup [.slice [] .none, .bool false]) := by
  have := unify_k (n := 12) (eqs := eqW2) sortsX sortsNil (fun e he => by
    simp only [eqW2, List.mem_singleton] at he; subst he
    exact ⟨WvrW 0, .mk (by simp) (by simp [WvrW])⟩) (by simp [eqW2, maxLen]) (fun _ => ⟨false, [], solveW2, nofun⟩)
  rw [uniW2] at this
  exact this
end Go.Abs
set_option maxRecDepth 4000
namespace Go.Abs
open Go.Proofs

end Go.Abs
set_option maxRecDepth 4000
namespace Go.Abs
open Go.Proofs

end Go.Abs
set_option maxRecDepth 4000
namespace Go.Abs
open Go.Proofs

theorem typesEqual_k : ∀ (k : Nat) (a b : Ty), a.size ≤ k → a.W → PC Try.prog 45 [a.enc, b.enc] (.bool (a.eqb b))
  | 0, a, b, h, _ => by cases a; simp [Ty.size] at h
  | k + 1, a, b, h, hw => by
    refine pc_of (N := 46) Try.func45 rfl rfl (by simp) (by simp [Ty.bel]) (.bool _) ?_
    repeat (refine awp_seq ?_)
    refine e_eval (by simp only [jA, jO, jN, seval, y29, vint, TyS, TyF, BdS] <;> with_reducible rfl) (by decide) ?_
    repeat (refine awp_seq ?_)
    refine g_eval (by simp only [jG, jO, jN, seval, y3, y27, y29, vint, TyS, TyF, BdS] <;> with_reducible rfl) (by decide) (by repeat (first | exact Fin.base _ | with_reducible apply Fin.keep | apply Fin.drop)) ?_
    repeat (refine awp_seq ?_)
    refine awp_cond rfl (by simp only [jN, seval, vint, TyS, TyF, BdS] <;> with_reducible rfl) (fun bt26 => ?_) (fun bt26 => ?_)
    ·
      have hf : a.eqb b = false := by
        cases hq : a.eqb b with
        | false => rfl
        | true => have := (Ty.eqb_iff a b).1 hq; subst this; simp at bt26
      refine awp_sel [] (by simp only [jN, seval, vint, TyS, TyF, BdS] <;> with_reducible rfl) ?_
      repeat (refine awp_seq ?_)
      refine e_eval (by simp only [jA, jO, jN, seval, vint, TyS, TyF, BdS] <;> with_reducible rfl) (by decide) ?_
      repeat (refine awp_seq ?_)
      refine awp_ret ⟨.inr rfl, _, rfl, ?_⟩
      first | (rw [hf]; rfl) | (rw [ht]; rfl)
    ·
      have hq : a.kind = b.kind ∧ a.id = b.id ∧ (a.args.length : Int) = b.args.length := by simp at bt26; omega
      have hlen : a.args.length = b.args.length := by omega
      repeat (refine awp_seq ?_)
      refine awp_skip ?_
      refine awp_sel [2, 3] (by simp only [jN, seval, vint, TyS, TyF, BdS] <;> with_reducible rfl) ?_
      repeat (refine awp_seq ?_)
      refine e_eval (by simp only [jA, jO, jN, seval, y27, y29, vint, TyS, TyF, BdS] <;> with_reducible rfl) (by decide) ?_
      repeat (refine awp_seq ?_)
      refine awp_forS (σ := Unit) (a.args.length) (fun (s : Unit) => [(2, .optr 0 0), (3, .optr 1 0)]) [2, 3] ([]) (fun (s : Unit) => [.row a.enc.cells, .row b.enc.cells]) (fun (i : Nat) (s : Unit) => ((a.args.zip b.args).take i).all (fun p => p.1.eqb p.2) = true) (()) ([]) rfl rfl rfl rfl rfl rfl rfl rfl rfl (by decide) (by decide) (by decide) (fun _ => rfl) (hw.lenMax) ⟨(by first | rfl | (simp only [jN, seval, vint, TyS, TyF, BdS] <;> first | done | with_reducible rfl)), (by first | rfl | (simp only [jN, seval, vint, TyS, TyF, BdS] <;> first | done | with_reducible rfl)), (by first | rfl | (simp only [jN, seval, vint, TyS, TyF, BdS] <;> first | done | with_reducible rfl)), (by first | rfl | (simp only [jN, seval, vint, TyS, TyF, BdS] <;> first | done | with_reducible rfl)), trivial⟩ (by first | rfl | (simp only [jN, seval, vint, TyS, TyF, BdS] <;> first | done | with_reducible rfl)) (by simp) (fun _ _ _ => by first | exact Nat.zero_le _ | (simp only [List.length_append]; omega)) ?_ ?_ ?_
      · intro i s hg
        simp only [List.nil_append, TyS]
        refine ⟨?_, by repeat (first | exact BelL.nil | refine BelL.cons (by first | exact bel_Bd _ _ | exact Bd.bel _ _ | exact bel_int_tok _ (by simp) | exact bel_ints0 _ _ | exact bel_slice_ty _ _ | exact Ty.bel _ _ | exact bel_ty_tok _ (by simp) | exact Bel.int _ _ | exact Bel.bool _ | exact Bel.str _ | exact Bel.nilp | exact Bel.nilfn | exact Bel.optr _ _ (by simp) | exact bel_nil0 _ | exact bel_nil1 _ | exact bel_fn0 _ _ | assumption) ?_)⟩
        repeat (first | exact hbel_nil _ | exact trivial | exact obel_row_nil _ | (refine HBel.cons ?_ ?_) | (refine obel_row_cons (by first | exact bel_Bd _ _ | exact Bd.bel _ _ | exact bel_int_tok _ (by simp) | exact bel_ints0 _ _ | exact bel_slice_ty _ _ | exact Ty.bel _ _ | exact bel_ty_tok _ (by simp) | exact Bel.int _ _ | exact Bel.bool _ | exact Bel.str _ | exact Bel.nilp | exact Bel.nilfn | exact Bel.optr _ _ (by simp) | exact bel_nil0 _ | exact bel_nil1 _ | exact bel_fn0 _ _ | assumption) ?_))
      · intro i s hi hg
        have g1 := ix_nat hi
        have hi2 : i < b.args.length := by omega
        have g3 := ix_nat hi2
        have g2 := get_enc Ty.enc hi
        have g4 := get_enc Ty.enc hi2
        have hmem : a.args[i] ∈ a.args := List.getElem_mem hi
        have hsa := Ty.size_arg hmem
        repeat (refine awp_seq ?_)
        refine e_eval (by simp only [jA, jO, jN, seval, vint, TyS, TyF, BdS, g1, Int.toNat_natCast, g2, g3, g4] <;> with_reducible rfl) (by decide) ?_
        repeat (refine awp_seq ?_)
        refine awp_draw 0 (by kernel_rfl) ?_
        refine d_take (bm := [0, 1, 0, 7, 15, 0, 32, 0, 224, 480, 1023, 2047]) 10 (fresh := 0) (by kernel_rfl) (by simp only [jD, jO, jN, seval, y27, y29, vint, TyS, TyF, BdS, g1, Int.toNat_natCast, g2, g3, g4] <;> with_reducible rfl) (by decide) (by decide) ?_
        refine dops_keep (bm := [0, 1, 0, 7, 15, 0, 32, 0, 224, 480, 1023, 2047]) ([]) (by kernel_rfl) (by simp only [jC, jN, seval, vint, TyS, TyF, BdS, g1, Int.toNat_natCast, g2, g3, g4] <;> with_reducible rfl) (by simp only [jC, jN, seval, vint, TyS, TyF, BdS, g1, Int.toNat_natCast, g2, g3, g4]) (by decide) Trygo45 (fun H' _ => typesEqual_k k a.args[i] b.args[i] (by omega) (hw.arg hmem) H') (by simp only [jD, jO, jN, seval, vint, TyS, TyF, BdS, g1, Int.toNat_natCast, g2, g3, g4] <;> first | done | rfl) ?_
        refine d_end (bm := [0, 1, 0, 7, 15, 0, 32, 0, 224, 480, 1023, 2047]) (fresh := 0) (by kernel_rfl) (by simp only [jD, jO, jN, seval, vint, TyS, TyF, BdS, g1, Int.toNat_natCast, g2, g3, g4] <;> with_reducible rfl) (by decide) ?_
        repeat (refine awp_seq ?_)
        refine awp_cond rfl (by simp only [jN, seval, vint, TyS, TyF, BdS, g1, Int.toNat_natCast, g2, g3, g4] <;> with_reducible rfl) (fun bt44 => ?_) (fun bt44 => ?_)
        ·
          have hf : a.eqb b = false := by
            cases hq : a.eqb b with
            | false => rfl
            | true => have := (Ty.eqb_iff a b).1 hq; subst this; simp [Ty.eqb_self] at bt44
          repeat (refine awp_seq ?_)
          refine e_eval (by simp only [jA, jO, jN, seval, vint, TyS, TyF, BdS, g1, Int.toNat_natCast, g2, g3, g4] <;> with_reducible rfl) (by decide) ?_
          repeat (refine awp_seq ?_)
          refine awp_ret ⟨.inr rfl, _, rfl, ?_⟩
          first | (rw [hf]; rfl) | (rw [ht]; rfl)
        ·
          repeat (refine awp_seq ?_)
          refine awp_skip ?_
          have hgt : a.args[i].eqb b.args[i] = true := by simpa using bt44
          exact ⟨⟨rfl, rfl, trivial⟩, (), [], ⟨rfl, rfl, trivial⟩, by simp only [jN, seval, vint, TyS, TyF, BdS] <;> rfl, all_take_succ (by simp; omega) hg (by simpa using hgt)⟩
      · intro s hg
        rw [List.take_of_length_le (by simp; omega)] at hg
        have ht : a.eqb b = true := by
          rw [Ty.eqb_eq, eqbs_all2, decide_eq_true hq.1, decide_eq_true hq.2.1]
          simp [all2, hlen, hg]
        repeat (refine awp_seq ?_)
        refine e_eval (by simp only [jA, jO, jN, seval, vint, TyS, TyF, BdS] <;> with_reducible rfl) (by decide) ?_
        repeat (refine awp_seq ?_)
        refine awp_ret ⟨.inr rfl, _, rfl, ?_⟩
        first | (rw [hf]; rfl) | (rw [ht]; rfl)

end Go.Abs
set_option maxRecDepth 4000
namespace Go.Abs
open Go.Proofs
def eqBd (a b : Bd) : Bool := decide (a.v = b.v) && a.t.eqb b.t
def eqBs (xs ys : List Bd) : Bool := xs.length == ys.length && (xs.zip ys).all fun p => eqBd p.1 p.2
theorem eqBd_iff (a b : Bd) : eqBd a b = true ↔ a = b := by
  unfold eqBd
  rw [Bool.and_eq_true, decide_eq_true_eq, Ty.eqb_iff]
  constructor
  · rintro ⟨h1, h2⟩; cases a; cases b; simp only at h1 h2; rw [h1, h2]
  · rintro rfl; exact ⟨rfl, rfl⟩
theorem eqBs_iff : ∀ (xs ys : List Bd), eqBs xs ys = true ↔ xs = ys
  | [], [] => by simp [eqBs]
  | [], y :: ys => by simp [eqBs]
  | x :: xs, [] => by simp [eqBs]
  | x :: xs, y :: ys => by
    have ih := eqBs_iff xs ys
    have hx := eqBd_iff x y
    unfold eqBs at ih ⊢
    simp only [List.length_cons, List.zip_cons_cons, List.all_cons, Bool.and_eq_true, beq_iff_eq, List.cons.injEq, Nat.add_right_cancel_iff] at ih ⊢
    rw [hx, ← ih]
    constructor
    · rintro ⟨h1, h2, h3⟩; exact ⟨h2, h1, h3⟩
    · rintro ⟨h2, h1, h3⟩; exact ⟨h1, h2, h3⟩

theorem bindingsEqual (us vs : List Bd) (hx : us.length ≤ maxLen) (hw : ∀ b ∈ us, b.t.W) : PC Try.prog 12 [.slice (us.map Bd.enc) .none, .slice (vs.map Bd.enc) .none] (.bool (eqBs us vs)) := by
  refine pc_of (N := 42) Try.func12 rfl rfl (by simp) (by simp [bel_Bd]) (.bool _) ?_
  repeat (refine awp_seq ?_)
  refine e_eval (by simp only [jA, jO, jN, seval, vint, TyS, TyF, MapS, EqS, BdS] <;> with_reducible rfl) (by decide) ?_
  repeat (refine awp_seq ?_)
  refine e_eval (by simp only [jA, jO, jN, seval, y3, y24, y42, vint, TyS, TyF, MapS, EqS, BdS] <;> with_reducible rfl) (by decide) ?_
  repeat (refine awp_seq ?_)
  refine awp_cond rfl (by simp only [jN, seval, vint, TyS, TyF, MapS, EqS, BdS] <;> with_reducible rfl) (fun bt10 => ?_) (fun bt10 => ?_)
  ·
    skip
    repeat (refine awp_seq ?_)
    refine e_eval (by simp only [jA, jO, jN, seval, vint, TyS, TyF, MapS, EqS, BdS] <;> with_reducible rfl) (by decide) ?_
    repeat (refine awp_seq ?_)
    refine awp_ret ⟨.inr rfl, _, rfl, ?_⟩
    simp only [jN, seval, vint, TyS, TyF, MapS, EqS, BdS]
    have : us.length ≠ vs.length := by simp at bt10; omega
    simp [eqBs, this]
  ·
    have hlen : us.length = vs.length := by simp at bt10; omega
    repeat (refine awp_seq ?_)
    refine awp_skip ?_
    repeat (refine awp_seq ?_)
    refine e_eval (by simp only [jA, jO, jN, seval, y24, y42, vint, TyS, TyF, MapS, EqS, BdS] <;> with_reducible rfl) (by decide) ?_
    repeat (refine awp_seq ?_)
    refine awp_forS (σ := Unit) (us.length) (fun (s : Unit) => [(0, .slice (us.map Bd.enc) .none), (1, .slice (vs.map Bd.enc) .none)]) [0, 1] ([]) (fun (s : Unit) => []) (fun (i : Nat) (s : Unit) => ((us.zip vs).take i).all (fun p => eqBd p.1 p.2) = true) (()) ([]) rfl rfl rfl rfl rfl rfl rfl rfl rfl (by decide) (by decide) (by decide) (fun _ => rfl) (hx) ⟨(by first | rfl | (simp only [jN, seval, vint, TyS, TyF, MapS, EqS, BdS] <;> first | done | with_reducible rfl)), (by first | rfl | (simp only [jN, seval, vint, TyS, TyF, MapS, EqS, BdS] <;> first | done | with_reducible rfl)), (by first | rfl | (simp only [jN, seval, vint, TyS, TyF, MapS, EqS, BdS] <;> first | done | with_reducible rfl)), (by first | rfl | (simp only [jN, seval, vint, TyS, TyF, MapS, EqS, BdS] <;> first | done | with_reducible rfl)), trivial⟩ (by first | rfl | (simp only [jN, seval, vint, TyS, TyF, MapS, EqS, BdS] <;> first | done | with_reducible rfl)) (by simp) (fun _ _ _ => by first | exact Nat.zero_le _ | (simp only [List.length_append]; omega)) ?_ ?_ ?_
    · exact fun i s hg => ⟨by first | exact hbel_nil _ | (simp only [List.append_nil]; assumption) | (refine hbel_app' hb' (by simp) ?_; repeat (first | exact hbel_nil _ | exact trivial | exact obel_row_nil _ | (refine HBel.cons ?_ ?_) | (refine obel_row_cons (by first | exact bel_Bd _ _ | exact bel_Eq2 _ _ | exact bel_ints0 _ _ | exact bel_slice_ty _ _ | exact Ty.bel _ _ | exact bel_ty_tok _ (by simp) | exact Bel.int _ _ | exact Bel.bool _ | exact Bel.str _ | exact Bel.nilp | exact Bel.nilfn | exact Bel.optr _ _ (by simp) | exact bel_nil0 _ | exact bel_nil1 _ | exact bel_fn0 _ _ | assumption) ?_))), by repeat (first | exact BelL.nil | refine BelL.cons (by first | exact bel_Bd _ _ | exact bel_Eq2 _ _ | exact bel_ints0 _ _ | exact bel_slice_ty _ _ | exact Ty.bel _ _ | exact bel_ty_tok _ (by simp) | exact Bel.int _ _ | exact Bel.bool _ | exact Bel.str _ | exact Bel.nilp | exact Bel.nilfn | exact Bel.optr _ _ (by simp) | exact bel_nil0 _ | exact bel_nil1 _ | exact bel_fn0 _ _ | assumption) ?_)⟩
    · intro i s hi hg
      have g1 := ix_nat hi
      have hi2 : i < vs.length := by omega
      have g3 := ix_nat hi2
      have g2 := get_enc Bd.enc hi
      have g4 := get_enc Bd.enc hi2
      have hwi := hw _ (List.getElem_mem hi)
      repeat (refine awp_seq ?_)
      refine e_eval (by simp only [jA, jO, jN, seval, vint, TyS, TyF, MapS, EqS, BdS, g1, Int.toNat_natCast, g2, g3, g4] <;> with_reducible rfl) (by decide) ?_
      repeat (refine awp_seq ?_)
      refine dp_draw (by kernel_rfl) ?_
      refine dp_take 22 (by simp only [jP, jO, jN, seval, y3, y24, y29, y42, vint, TyS, TyF, MapS, EqS, BdS, g1, Int.toNat_natCast, g2, g3, g4] <;> with_reducible rfl) (by decide) ?_
      refine dp_keep (by simp only [jE, jN, seval, vint, TyS, TyF, MapS, EqS, BdS, g1, Int.toNat_natCast, g2, g3, g4] <;> with_reducible rfl) (by simp only [jE, jN, seval, vint, TyS, TyF, MapS, EqS, BdS, g1, Int.toNat_natCast, g2, g3, g4] <;> with_reducible rfl) (by simp only [jE, jN, seval, vint, TyS, TyF, MapS, EqS, BdS, g1, Int.toNat_natCast, g2, g3, g4]) (by decide) Trygo45 (fun hc => typesEqual_k _ us[i].t vs[i].t (Nat.le_refl _) hwi _) ?_
      refine dp_end (by simp only [jP, jO, jN, seval, vint, TyS, TyF, MapS, EqS, BdS, g1, Int.toNat_natCast, g2, g3, g4] <;> with_reducible rfl) (by decide) (by repeat (first | exact Fin.base _ | with_reducible apply Fin.keep | apply Fin.drop)) ?_
      repeat (refine awp_seq ?_)
      refine awp_cond rfl (by simp only [jN, seval, vint, TyS, TyF, MapS, EqS, BdS, g1, Int.toNat_natCast, g2, g3, g4] <;> with_reducible rfl) (fun bt40 => ?_) (fun bt40 => ?_)
      ·
        skip
        refine awp_sel [0, 1, 12, 13] (by simp only [jN, seval, vint, TyS, TyF, MapS, EqS, BdS, g1, Int.toNat_natCast, g2, g3, g4] <;> with_reducible rfl) ?_
        repeat (refine awp_seq ?_)
        refine e_eval (by simp only [jA, jO, jN, seval, vint, TyS, TyF, MapS, EqS, BdS, g1, Int.toNat_natCast, g2, g3, g4] <;> with_reducible rfl) (by decide) ?_
        repeat (refine awp_seq ?_)
        refine awp_ret ⟨.inr rfl, _, rfl, ?_⟩
        simp only [jN, seval, vint, TyS, TyF, MapS, EqS, BdS]
        have hgf : eqBd us[i] vs[i] = false := by unfold eqBd; revert bt40; cases decide (us[i].v = vs[i].v) <;> cases us[i].t.eqb vs[i].t <;> simp
        have hmem : (us[i], vs[i]) ∈ us.zip vs := by
          rw [List.mem_iff_getElem]; exact ⟨i, by simp; omega, by simp⟩
        have : ((us.zip vs).all fun p => eqBd p.1 p.2) = false := by
          rw [List.all_eq_false]; exact ⟨_, hmem, by simp [hgf]⟩
        simp [eqBs, this]
      ·
        repeat (refine awp_seq ?_)
        refine awp_skip ?_
        have hgt : eqBd us[i] vs[i] = true := by unfold eqBd; revert bt40; cases decide (us[i].v = vs[i].v) <;> cases us[i].t.eqb vs[i].t <;> simp
        exact ⟨⟨rfl, rfl, trivial⟩, (), _, ⟨rfl, rfl, trivial⟩, rfl, all_take_succ (by simp; omega) hg (by simpa using hgt)⟩
    · intro s hg
      repeat (refine awp_seq ?_)
      refine e_eval (by simp only [jA, jO, jN, seval, vint, TyS, TyF, MapS, EqS, BdS] <;> with_reducible rfl) (by decide) ?_
      repeat (refine awp_seq ?_)
      refine awp_ret ⟨.inr rfl, _, rfl, ?_⟩
      simp only [jN, seval, vint, TyS, TyF, MapS, EqS, BdS]
      rw [List.take_of_length_le (by simp; omega)] at hg
      simp [eqBs, hlen, hg]

end Go.Abs
set_option maxRecDepth 4000
namespace Go.Abs
open Go.Proofs
theorem unifyW1' : PC Try.prog 9 [.slice [.agg [.int .i64 9, .int .i64 0, .slice [(Ty.mk 1 1 []).enc, (Ty.mk 1 2 []).enc] .none, .int .i64 9, .int .i64 0, .slice [(Ty.mk 3 0 []).enc, (Ty.mk 1 1 []).enc] .none]] .none] (.tup [.slice [(Bd.mk 1 (Ty.mk 3 0 [])).enc, (Bd.mk 2 (Ty.mk 3 0 [])).enc] .none, .bool true]) := unifyW1
theorem unifyW2' : PC Try.prog 9 [.slice [.agg [.int .i64 1, .int .i64 0, .slice [] .none, .int .i64 8, .int .i64 0, .slice [(Ty.mk 1 0 []).enc] .none]] .none] (.tup [.slice [] .none, .bool false]) := unifyW2
theorem bindW' : PC Try.prog 12 [.slice [(Bd.mk 1 (Ty.mk 3 0 [])).enc, (Bd.mk 2 (Ty.mk 3 0 [])).enc] .none, .slice [(Bd.mk 1 (Ty.mk 3 0 [])).enc, (Bd.mk 2 (Ty.mk 3 0 [])).enc] .none] (.bool true) := by
  have := bindingsEqual ansW ansW (by simp [ansW, maxLen]) (by simp [ansW, ti, Ty.W_iff])
  rw [(eqBs_iff _ _).2 rfl] at this
  exact this
theorem worksK : PC Try.prog 13 [] (.bool true) := by
  refine pc_of (N := 43) Try.func13 rfl rfl (by simp) (by simp) (.bool _) ?_
  repeat (refine awp_seq ?_)
  refine e_eval (by simp only [jA, jO, jN, seval, vint, TyS, TyF, MapS, EqS, BdS] <;> with_reducible rfl) (by decide) ?_
  repeat (refine awp_seq ?_)
  refine awp_region ?_
  refine aops_pure (by simp only [jC, jN, seval, vint, TyS, TyF, MapS, EqS, BdS] <;> with_reducible rfl) (by simp only [jC, jN, seval, vint, TyS, TyF, MapS, EqS, BdS]) (by decide) Trygo19 (typeVarK 1 _) ?_
  refine aops_pure (by simp only [jC, jN, seval, vint, TyS, TyF, MapS, EqS, BdS] <;> with_reducible rfl) (by simp only [jC, jN, seval, vint, TyS, TyF, MapS, EqS, BdS]) (by decide) Trygo19 (typeVarK 2 _) ?_
  refine e_take 1 (by simp only [jA, jO, jN, seval, y27, y29, vint, TyS, TyF, MapS, EqS, BdS] <;> with_reducible rfl) (by decide) ?_
  refine aops_pure (by simp only [jC, jN, seval, vint, TyS, TyF, MapS, EqS, BdS] <;> with_reducible rfl) (by simp only [jC, jN, seval, vint, TyS, TyF, MapS, EqS, BdS]) (by decide) Trygo26 (typK 9 0 [.mk 1 1 [], .mk 1 2 []] _) ?_
  refine aops_pure (by simp only [jC, jN, seval, vint, TyS, TyF, MapS, EqS, BdS] <;> with_reducible rfl) (by simp only [jC, jN, seval, vint, TyS, TyF, MapS, EqS, BdS]) (by decide) Trygo46 (intTypeK _) ?_
  refine aops_pure (by simp only [jC, jN, seval, vint, TyS, TyF, MapS, EqS, BdS] <;> with_reducible rfl) (by simp only [jC, jN, seval, vint, TyS, TyF, MapS, EqS, BdS]) (by decide) Trygo19 (typeVarK 1 _) ?_
  refine e_take 1 (by simp only [jA, jO, jN, seval, y27, y29, vint, TyS, TyF, MapS, EqS, BdS] <;> with_reducible rfl) (by decide) ?_
  refine aops_pure (by simp only [jC, jN, seval, vint, TyS, TyF, MapS, EqS, BdS] <;> with_reducible rfl) (by simp only [jC, jN, seval, vint, TyS, TyF, MapS, EqS, BdS]) (by decide) Trygo26 (typK 9 0 [.mk 3 0 [], .mk 1 1 []] _) ?_
  refine e_take 2 (by simp only [jA, jO, jN, seval, y22, y31, vint, TyS, TyF, MapS, EqS, BdS] <;> with_reducible rfl) (by decide) ?_
  refine aops_pure (by simp only [jC, jN, seval, vint, TyS, TyF, MapS, EqS, BdS] <;> with_reducible rfl) (by simp only [jC, jN, seval, vint, TyS, TyF, MapS, EqS, BdS]) (by decide) Trygo9 (unifyW1' _) ?_
  refine e_end (by simp only [jA, jO, jN, seval, vint, TyS, TyF, MapS, EqS, BdS] <;> with_reducible rfl) (by decide) ?_
  refine awp_sel [1, 2] (by simp only [jN, seval, vint, TyS, TyF, MapS, EqS, BdS] <;> with_reducible rfl) ?_
  repeat (refine awp_seq ?_)
  refine awp_region ?_
  refine aops_pure (by simp only [jC, jN, seval, vint, TyS, TyF, MapS, EqS, BdS] <;> with_reducible rfl) (by simp only [jC, jN, seval, vint, TyS, TyF, MapS, EqS, BdS]) (by decide) Trygo19 (typeVarK 0 _) ?_
  refine aops_pure (by simp only [jC, jN, seval, vint, TyS, TyF, MapS, EqS, BdS] <;> with_reducible rfl) (by simp only [jC, jN, seval, vint, TyS, TyF, MapS, EqS, BdS]) (by decide) Trygo19 (typeVarK 0 _) ?_
  refine e_take 1 (by simp only [jA, jO, jN, seval, y27, y29, vint, TyS, TyF, MapS, EqS, BdS] <;> with_reducible rfl) (by decide) ?_
  refine aops_pure (by simp only [jC, jN, seval, vint, TyS, TyF, MapS, EqS, BdS] <;> with_reducible rfl) (by simp only [jC, jN, seval, vint, TyS, TyF, MapS, EqS, BdS]) (by decide) Trygo26 (typK 8 0 [.mk 1 0 []] _) ?_
  refine e_take 2 (by simp only [jA, jO, jN, seval, y22, y31, vint, TyS, TyF, MapS, EqS, BdS] <;> with_reducible rfl) (by decide) ?_
  refine aops_pure (by simp only [jC, jN, seval, vint, TyS, TyF, MapS, EqS, BdS] <;> with_reducible rfl) (by simp only [jC, jN, seval, vint, TyS, TyF, MapS, EqS, BdS]) (by decide) Trygo9 (unifyW2' _) ?_
  refine e_end (by simp only [jA, jO, jN, seval, vint, TyS, TyF, MapS, EqS, BdS] <;> with_reducible rfl) (by decide) ?_
  repeat (refine awp_seq ?_)
  refine awp_region ?_
  refine aops_gstart ?_
  refine g_take 7 (by simp only [jG, jO, jN, seval, vint, TyS, TyF, MapS, EqS, BdS] <;> with_reducible rfl) (by decide) ?_
  refine aops_gpure (by simp only [jE, jN, seval, vint, TyS, TyF, MapS, EqS, BdS] <;> with_reducible rfl) (by simp only [jE, jN, seval, vint, TyS, TyF, MapS, EqS, BdS] <;> with_reducible rfl) (by simp only [jE, jN, seval, vint, TyS, TyF, MapS, EqS, BdS]) (by decide) Trygo46 (fun hc => intTypeK _) ?_
  refine g_take 1 (by simp only [jG, jO, jN, seval, y42, vint, TyS, TyF, MapS, EqS, BdS] <;> with_reducible rfl) (by decide) ?_
  refine aops_gpure (by simp only [jE, jN, seval, vint, TyS, TyF, MapS, EqS, BdS] <;> with_reducible rfl) (by simp only [jE, jN, seval, vint, TyS, TyF, MapS, EqS, BdS] <;> with_reducible rfl) (by simp only [jE, jN, seval, vint, TyS, TyF, MapS, EqS, BdS]) (by decide) Trygo46 (fun hc => intTypeK _) ?_
  refine g_take 2 (by simp only [jG, jO, jN, seval, y24, y42, vint, TyS, TyF, MapS, EqS, BdS] <;> with_reducible rfl) (by decide) ?_
  refine aops_gpure (by simp only [jE, jN, seval, vint, TyS, TyF, MapS, EqS, BdS] <;> with_reducible rfl) (by simp only [jE, jN, seval, vint, TyS, TyF, MapS, EqS, BdS] <;> with_reducible rfl) (by simp only [jE, jN, seval, vint, TyS, TyF, MapS, EqS, BdS]) (by decide) Trygo12 (fun hc => bindW' _) ?_
  refine g_end (by simp only [jG, jO, jN, seval, vint, TyS, TyF, MapS, EqS, BdS] <;> with_reducible rfl) (by decide) (by repeat (first | exact Fin.base _ | with_reducible apply Fin.keep | apply Fin.drop)) ?_
  repeat (refine awp_seq ?_)
  refine awp_ret ⟨.inr rfl, _, rfl, ?_⟩
  simp only [jN, seval, vint, TyS, TyF, MapS, EqS, BdS]

end Go.Abs
set_option maxRecDepth 4000
namespace Go.Abs
open Go.Proofs

theorem errT_k : ∀ (k : Nat) (t : Ty), t.size ≤ k → t.W → PC Try.prog 48 [t.enc] (.bool (errT t))
  | 0, t, h, _ => by cases t; simp [Ty.size] at h
  | k + 1, t, h, hw => by
    refine pc_of (N := 11) Try.func48 rfl rfl (by simp) (by simp [Ty.bel]) (.bool _) ?_
    repeat (refine awp_seq ?_)
    refine e_eval (by simp only [jA, jO, jN, seval, y29, vint, TyS, TyF, MapS, EqS, BdS] <;> with_reducible rfl) (by decide) ?_
    repeat (refine awp_seq ?_)
    refine awp_region ?_
    refine aops_gstart ?_
    refine g_take 6 (by simp only [jG, jO, jN, seval, y3, y27, y29, vint, TyS, TyF, MapS, EqS, BdS] <;> with_reducible rfl) (by decide) ?_
    refine aops_gpure (by simp only [jE, jN, seval, vint, TyS, TyF, MapS, EqS, BdS] <;> with_reducible rfl) (by simp only [jE, jN, seval, vint, TyS, TyF, MapS, EqS, BdS] <;> with_reducible rfl) (by simp only [jE, jN, seval, vint, TyS, TyF, MapS, EqS, BdS]) (by decide) Trygo68 (fun hc => containsFuncTy (p := errT) ⟨Trygo48, by simp, fun u hu => errT_k k u (by have := Ty.size_arg hu; omega) (hw.arg hu) _⟩ hw.lenMax) ?_
    refine g_end (by simp only [jG, jO, jN, seval, vint, TyS, TyF, MapS, EqS, BdS] <;> with_reducible rfl) (by decide) (by repeat (first | exact Fin.base _ | with_reducible apply Fin.keep | apply Fin.drop)) ?_
    repeat (refine awp_seq ?_)
    refine awp_ret ⟨.inr rfl, _, rfl, ?_⟩
    simp only [jN, seval, vint, TyS, TyF, MapS, EqS, BdS]
    rw [errT_eq]

theorem errT_c (t : Ty) (hw : t.W) : PC Try.prog 48 [t.enc] (.bool (errT t)) := errT_k t.size t (Nat.le_refl _) hw

theorem errE_c (e : Eq2) (hl : e.l.W) (hr : e.r.W) : PC Try.prog 47 [e.enc] (.bool (errE e)) := by
  refine pc_of (N := 11) Try.func47 rfl rfl (by simp) (by simp [Eq2.bel]) (.bool _) ?_
  repeat (refine awp_seq ?_)
  refine e_eval (by simp only [jA, jO, jN, seval, y31, vint, TyS, TyF, MapS, EqS, BdS] <;> with_reducible rfl) (by decide) ?_
  repeat (refine awp_seq ?_)
  refine awp_region ?_
  refine aops_gstart ?_
  refine g_take 2 (by simp only [jG, jO, jN, seval, y29, y31, vint, TyS, TyF, MapS, EqS, BdS] <;> with_reducible rfl) (by decide) ?_
  refine aops_gpure (by simp only [jE, jN, seval, vint, TyS, TyF, MapS, EqS, BdS] <;> with_reducible rfl) (by simp only [jE, jN, seval, vint, TyS, TyF, MapS, EqS, BdS] <;> with_reducible rfl) (by simp only [jE, jN, seval, vint, TyS, TyF, MapS, EqS, BdS]) (by decide) Trygo48 (fun hc => errT_c e.l hl _) ?_
  refine g_take 3 (by simp only [jG, jO, jN, seval, y29, y31, vint, TyS, TyF, MapS, EqS, BdS] <;> with_reducible rfl) (by decide) ?_
  refine aops_gpure (by simp only [jE, jN, seval, vint, TyS, TyF, MapS, EqS, BdS] <;> with_reducible rfl) (by simp only [jE, jN, seval, vint, TyS, TyF, MapS, EqS, BdS] <;> with_reducible rfl) (by simp only [jE, jN, seval, vint, TyS, TyF, MapS, EqS, BdS]) (by decide) Trygo48 (fun hc => errT_c e.r hr _) ?_
  refine g_end (by simp only [jG, jO, jN, seval, vint, TyS, TyF, MapS, EqS, BdS] <;> with_reducible rfl) (by decide) (by repeat (first | exact Fin.base _ | with_reducible apply Fin.keep | apply Fin.drop)) ?_
  repeat (refine awp_seq ?_)
  refine awp_ret ⟨.inr rfl, _, rfl, ?_⟩
  simp only [jN, seval, vint, TyS, TyF, MapS, EqS, BdS]
  simp [errE]

theorem anyErr_c (eqs : List Eq2) (hw : ∀ e ∈ eqs, e.l.W ∧ e.r.W) (hlen : eqs.length ≤ maxLen) : PC Try.prog 14 [.slice (eqs.map Eq2.enc) .none] (.bool (eqs.any errE)) := by
  refine pc_of (N := 5) Try.func14 rfl rfl (by simp) (by simp [bel_Eq2]) (.bool _) ?_
  repeat (refine awp_seq ?_)
  refine e_eval (by simp only [jA, jO, jN, seval, vint, TyS, TyF, MapS, EqS, BdS] <;> with_reducible rfl) (by decide) ?_
  repeat (refine awp_seq ?_)
  refine awp_region ?_
  refine e_take 1 (by simp only [jA, jO, jN, seval, vint, TyS, TyF, MapS, EqS, BdS] <;> with_reducible rfl) (by decide) ?_
  refine aops_pure (by simp only [jC, jN, seval, vint, TyS, TyF, MapS, EqS, BdS] <;> with_reducible rfl) (by simp only [jC, jN, seval, vint, TyS, TyF, MapS, EqS, BdS]) (by decide) Trygo30 (containsFuncEq2 (p := errE) ⟨Trygo47, by simp, fun e he => errE_c e (hw e he).1 (hw e he).2 _⟩ hlen) ?_
  refine e_end (by simp only [jA, jO, jN, seval, vint, TyS, TyF, MapS, EqS, BdS] <;> with_reducible rfl) (by decide) ?_
  repeat (refine awp_seq ?_)
  refine awp_ret ⟨.inr rfl, _, rfl, ?_⟩
  simp only [jN, seval, vint, TyS, TyF, MapS, EqS, BdS]

end Go.Abs
set_option maxRecDepth 4000
namespace Go.Abs
open Go.Proofs

theorem back_c (xs : List Eq2) (H : Heap) : ACalls Try.prog 15 [.slice (xs.map Eq2.enc) .none] H fun r' H' => r' = .fn (.func 49) [] [.optr H.length 0] ∧ H' = H ++ [.row [.slice (xs.map Eq2.enc) .none]] := by
  refine acalls_of (N := 4) Try.func15 rfl rfl (by simp) fun hb' => ?_
  repeat (refine awp_seq ?_)
  refine e_eval (by simp only [jA, jO, jN, seval, y22, y31, vint, TyS, TyF, MapS, EqS, BdS] <;> with_reducible rfl) (by decide) ?_
  repeat (refine awp_seq ?_)
  refine e_eval (by simp only [jA, jO, jN, seval, vint, TyS, TyF, MapS, EqS, BdS] <;> with_reducible rfl) (by decide) ?_
  repeat (refine awp_seq ?_)
  refine awp_ret ⟨.inr rfl, _, rfl, ?_⟩
  exact ⟨rfl, rfl⟩

end Go.Abs
set_option maxRecDepth 4000
namespace Go.Abs
open Go.Proofs
theorem bd_get {bs : List Bd} (h : ∀ b ∈ bs, b.t.W) {i : Nat} (hi : i < bs.length) : bs[i].t.W := h _ (List.getElem_mem hi)

theorem indexFuncBd {f : FuncId} {caps : List PV} {H : Heap} {us : List Bd} {p : Bd → Bool} (hc : CloB Try.prog Bd.enc f caps H us p) (hl : us.length ≤ maxLen) : ACalls Try.prog 53 [.slice (us.map Bd.enc) .none, .fn (.func f) [] caps] H fun r' H' => r' = vint (idxI p us) ∧ H' = H := by
  have hgo := hc.go
  refine keeps_of (N := 19) Try.func53 rfl rfl (by simp) (.int _ _) fun hb' => ?_
  repeat (refine awp_seq ?_)
  refine e_eval (by simp only [jA, jO, jN, seval, vint, TyS, TyF, BdS] <;> with_reducible rfl) (by decide) ?_
  repeat (refine awp_seq ?_)
  refine e_eval (by simp only [jA, jO, jN, seval, y24, y42, vint, TyS, TyF, BdS] <;> with_reducible rfl) (by decide) ?_
  repeat (refine awp_seq ?_)
  refine awp_forS (σ := Unit) (us.length) (fun (s : Unit) => [(0, .slice (us.map Bd.enc) .none), (1, .fn (.func f) [] caps)]) [0, 1] (H) (fun (s : Unit) => []) (fun (i : Nat) (s : Unit) => (us.take i).any p = false) (()) ([]) rfl rfl rfl rfl rfl rfl rfl rfl rfl (by decide) (by decide) (by decide) (fun _ => rfl) (hl) ⟨(by first | rfl | (simp only [jN, seval, vint, TyS, TyF, BdS] <;> first | done | with_reducible rfl)), (by first | rfl | (simp only [jN, seval, vint, TyS, TyF, BdS] <;> first | done | with_reducible rfl)), (by first | rfl | (simp only [jN, seval, vint, TyS, TyF, BdS] <;> first | done | with_reducible rfl)), (by first | rfl | (simp only [jN, seval, vint, TyS, TyF, BdS] <;> first | done | with_reducible rfl)), trivial⟩ (by first | rfl | (simp only [jN, seval, vint, TyS, TyF, BdS] <;> first | done | with_reducible rfl)) (by simp) (fun _ _ _ => by first | exact Nat.zero_le _ | (simp only [List.length_append]; omega)) ?_ ?_ ?_
  · exact fun i s hg => ⟨by simp only [List.append_nil]; exact hb', .cons (bel_Bd _ _) (.cons (.fn _ _ _ (by simp) (fun c hc' => (hc.bel c hc').mono (by simp))) .nil)⟩
  · intro i s hi hg
    have g1 := ix_nat hi
    have g2 := get_enc Bd.enc hi
    repeat (refine awp_seq ?_)
    refine e_eval (by simp only [jA, jO, jN, seval, vint, TyS, TyF, BdS, g1, Int.toNat_natCast, g2] <;> with_reducible rfl) (by decide) ?_
    repeat (refine awp_seq ?_)
    refine awp_region ?_
    refine e_take 5 (by simp only [jA, jO, jN, seval, y24, y42, vint, TyS, TyF, BdS, g1, Int.toNat_natCast, g2] <;> with_reducible rfl) (by decide) ?_
    refine aops_pure (by simp only [jC, jN, seval, vint, TyS, TyF, BdS, g1, Int.toNat_natCast, g2] <;> with_reducible rfl) (by simp only [jC, jN, seval, vint, TyS, TyF, BdS, g1, Int.toNat_natCast, g2]) (by decide) (by assumption) (hc.call _ (List.getElem_mem hi)) ?_
    refine aops_nil ?_
    repeat (refine awp_seq ?_)
    refine awp_cond rfl (by simp only [jN, seval, vint, TyS, TyF, BdS, g1, Int.toNat_natCast, g2] <;> with_reducible rfl) (fun b0 => ?_) (fun b0 => ?_)
    ·
      repeat (refine awp_seq ?_)
      refine e_eval (by simp only [jA, jO, jN, seval, vint, TyS, TyF, BdS, g1, Int.toNat_natCast, g2] <;> with_reducible rfl) (by decide) ?_
      repeat (refine awp_seq ?_)
      refine awp_ret ⟨.inr rfl, _, _, rfl, ?_, (by first | exact (List.append_nil _).symm | rfl)⟩
      rw [idxI_at hi b0 hg]; rfl
    ·
      repeat (refine awp_seq ?_)
      refine awp_skip ?_
      exact ⟨⟨rfl, rfl, trivial⟩, (), [], ⟨rfl, rfl, trivial⟩, by simp only [List.append_nil], any_take_succ hi hg b0⟩
  · intro s hg
    rw [List.take_length] at hg
    repeat (refine awp_seq ?_)
    refine e_eval (by simp only [jA, jO, jN, seval, vint, TyS, TyF, BdS] <;> with_reducible rfl) (by decide) ?_
    repeat (refine awp_seq ?_)
    refine awp_ret ⟨.inr rfl, _, _, rfl, ?_, (by first | exact (List.append_nil _).symm | rfl)⟩
    rw [idxI_none hg]; rfl

theorem sub11 (u : Ty) (H : Heap) (id : Nat) (h1 : H[id]? = some (.row u.enc.cells)) (b : Bd) : ACalls Try.prog 54 [b.enc, .optr id 0] H fun r' H' => r' = .bool (decide (b.v = u.id)) ∧ H' = H := by
  simp only [TyS] at h1
  have q1 : ∀ L, (H ++ L)[id]? = some (.row [.int .i64 u.kind, .int .i64 u.id, .slice (u.args.map Ty.enc) .none]) := fun L => by rw [List.getElem?_append_left (len_of_get h1)]; exact h1
  refine keeps_of (N := 9) Try.func54 rfl rfl (by simp) (.bool _) fun hb' => ?_
  repeat (refine awp_seq ?_)
  refine e_eval (by simp only [jA, jO, jN, seval, y42, vint, TyS, TyF, BdS, q1, h1] <;> with_reducible rfl) (by decide) ?_
  repeat (refine awp_seq ?_)
  refine e_eval (by simp only [jA, jO, jN, seval, y3, y29, y42, vint, TyS, TyF, BdS, q1, h1] <;> with_reducible rfl) (by decide) ?_
  repeat (refine awp_seq ?_)
  refine awp_ret ⟨.inr rfl, _, _, rfl, ?_, (by first | exact (List.append_nil _).symm | rfl)⟩
  simp only [jN, seval, vint, TyS, TyF, BdS]

theorem sub1 (s : List Bd) (H : Heap) (i1 : Nat) (hx : s.length ≤ maxLen) (hw : ∀ b ∈ s, b.t.W) (h1 : H[i1]? = some (.row [.slice (s.map Bd.enc) .none])) (u : Ty) :
    ACalls Try.prog 52 [u.enc, .optr i1 0] H fun r' H' => r' = .tup [(subG s u).1.enc, .bool (subG s u).2] ∧ H' = H := by
  have q1 : ∀ L, (H ++ L)[i1]? = some (.row [.slice (s.map Bd.enc) .none]) := fun L => by rw [List.getElem?_append_left (len_of_get h1)]; exact h1
  refine keeps_of (N := 22) Try.func52 rfl rfl (by simp) (.tup _ (by simp [Ty.bel, Bel.bool])) fun hb' => ?_
  repeat (refine awp_seq ?_)
  refine e_eval (by simp only [jA, jO, jN, seval, y29, vint, TyS, TyF, BdS, q1] <;> with_reducible rfl) (by decide) ?_
  repeat (refine awp_seq ?_)
  refine e_eval (by simp only [jA, jO, jN, seval, y3, y29, vint, TyS, TyF, BdS, q1] <;> with_reducible rfl) (by decide) ?_
  repeat (refine awp_seq ?_)
  refine awp_cond rfl (by simp only [jN, seval, vint, TyS, TyF, BdS, q1] <;> with_reducible rfl) (fun b0 => ?_) (fun b0 => ?_)
  ·
    repeat (refine awp_seq ?_)
    refine e_eval (by simp only [jA, jO, jN, seval, y29, vint, TyS, TyF, BdS, q1] <;> with_reducible rfl) (by decide) ?_
    repeat (refine awp_seq ?_)
    refine awp_ret ⟨.inr rfl, _, _, (ares_two (.cell 3 29) (.tmp 4) rfl (ares_cell1 Tryti29 (by decide) (by simp only [jL, jN, seval, vint, TyS, TyF, BdS, q1] <;> with_reducible rfl)) (ares_tmp1 (by decide))), ?_, (by first | exact (List.append_nil _).symm | rfl)⟩
    simp only [jN, seval, vint, TyS, TyF, BdS]
    simp only [subG, b0, if_true]
  ·
    repeat (refine awp_seq ?_)
    refine awp_skip ?_
    repeat (refine awp_seq ?_)
    refine awp_region ?_
    refine e_take 2 (by simp only [jA, jO, jN, seval, y24, y42, vint, TyS, TyF, BdS, q1] <;> with_reducible rfl) (by decide) ?_
    refine aops_pure (by simp only [jC, jN, seval, vint, TyS, TyF, BdS, q1] <;> with_reducible rfl) (by simp only [jC, jN, seval, vint, TyS, TyF, BdS, q1]) (by decide) Trygo53 (indexFuncBd (p := fun b => decide (b.v = u.id)) ⟨Trygo54, by simp; exact .optr _ _ (by simp), fun b _ => sub11 u _ _ (by simp only [TyS]; simp) b⟩ hx) ?_
    refine e_end (by simp only [jA, jO, jN, seval, vint, TyS, TyF, BdS, q1] <;> with_reducible rfl) (by decide) ?_
    repeat (refine awp_seq ?_)
    refine e_eval (by simp only [jA, jO, jN, seval, y3, vint, TyS, TyF, BdS, q1] <;> with_reducible rfl) (by decide) ?_
    repeat (refine awp_seq ?_)
    refine awp_cond rfl (by simp only [jN, seval, vint, TyS, TyF, BdS, q1] <;> with_reducible rfl) (fun b1 => ?_) (fun b1 => ?_)
    ·
      repeat (refine awp_seq ?_)
      refine e_eval (by simp only [jA, jO, jN, seval, y29, vint, TyS, TyF, BdS, q1] <;> with_reducible rfl) (by decide) ?_
      repeat (refine awp_seq ?_)
      refine awp_ret ⟨.inr rfl, _, _, (ares_two (.cell 3 29) (.tmp 4) rfl (ares_cell1 Tryti29 (by decide) (by simp only [jL, jN, seval, vint, TyS, TyF, BdS, q1] <;> with_reducible rfl)) (ares_tmp1 (by decide))), ?_, (by first | exact (List.append_nil _).symm | rfl)⟩
      simp only [jN, seval, vint, TyS, TyF, BdS]
      simp only [subG, b0, b1, Bool.false_eq_true, if_false, if_true]
    ·
      have hge : 0 ≤ idxI (fun b : Bd => decide (b.v = u.id)) s := by have : ¬ idxI (fun b : Bd => decide (b.v = u.id)) s < 0 := of_decide_eq_false b1; omega
      have hlt0 := idxI_lt (p := fun b : Bd => decide (b.v = u.id)) hge
      have hb : 0 ≤ idxI (fun b : Bd => decide (b.v = u.id)) s ∧ idxI (fun b : Bd => decide (b.v = u.id)) s < s.length := ⟨hge, hlt0⟩
      have g1 : ((0 : Int) ≤ idxI (fun b : Bd => decide (b.v = u.id)) s ∧ idxI (fun b : Bd => decide (b.v = u.id)) s < s.length) = True := by simp only [hb, and_self]
      have hlt : (idxI (fun b : Bd => decide (b.v = u.id)) s).toNat < s.length := by omega
      have g2 := get_enc Bd.enc hlt
      have hwa := bd_get hw hlt
      repeat (refine awp_seq ?_)
      refine awp_skip ?_
      repeat (refine awp_seq ?_)
      refine awp_region ?_
      refine e_take 5 (by simp only [jA, jO, jN, seval, y24, y29, y42, vint, TyS, TyF, BdS, q1, g1, g2] <;> with_reducible rfl) (by decide) ?_
      refine aops_pure (by simp only [jC, jN, seval, vint, TyS, TyF, BdS, q1, g1, g2] <;> with_reducible rfl) (by simp only [jC, jN, seval, vint, TyS, TyF, BdS, q1, g1, g2]) (by decide) Trygo55 (clone _ hwa _) ?_
      refine e_end (by simp only [jA, jO, jN, seval, y29, vint, TyS, TyF, BdS, q1, g1, g2] <;> with_reducible rfl) (by decide) ?_
      repeat (refine awp_seq ?_)
      refine awp_ret ⟨.inr rfl, _, _, (ares_two (.cell 3 29) (.tmp 4) rfl (ares_cell1 Tryti29 (by decide) (by simp only [jL, jN, seval, vint, TyS, TyF, BdS, q1] <;> with_reducible rfl)) (ares_tmp1 (by decide))), ?_, (by first | exact (List.append_nil _).symm | rfl)⟩
      simp only [jN, seval, vint, TyS, TyF, BdS]
      simp only [subG, b0, b1, Bool.false_eq_true, if_false, List.getD_eq_getElem?_getD, List.getElem?_eq_getElem hlt, Option.getD_some]

theorem subst (t : Ty) (s : List Bd) (ht : t.W) (hx : s.length ≤ maxLen) (hw : ∀ b ∈ s, b.t.W) : PC Try.prog 17 [t.enc, .slice (s.map Bd.enc) .none] (mapT (subG s) t).enc := by
  refine pc_of (N := 8) Try.func17 rfl rfl (by simp) (by simp [Ty.bel, bel_Bd]) (Ty.bel _ _) ?_
  repeat (refine awp_seq ?_)
  refine e_eval (by simp only [jA, jO, jN, seval, y24, y29, y42, vint, TyS, TyF, BdS] <;> with_reducible rfl) (by decide) ?_
  repeat (refine awp_seq ?_)
  refine awp_region ?_
  refine e_take 2 (by simp only [jA, jO, jN, seval, y29, vint, TyS, TyF, BdS] <;> with_reducible rfl) (by decide) ?_
  refine aops_pure (by simp only [jC, jN, seval, vint, TyS, TyF, BdS] <;> with_reducible rfl) (by simp only [jC, jN, seval, vint, TyS, TyF, BdS]) (by decide) Trygo51 (map_k (D := fun _ => True) (rd := [(1, .row [.slice (s.map Bd.enc) .none])]) (g := subG s) ⟨Trygo52, fun H h => by have := len_of_get (h _ (.head _)); simp; exact .optr _ _ (by assumption), fun _ _ _ _ => trivial, fun H u _ h => sub1 s H 1 hx hw (h _ (.head _)) u⟩ _ t _ (Nat.le_refl _) ht trivial (by simp)) ?_
  refine e_end (by simp only [jA, jO, jN, seval, y29, vint, TyS, TyF, BdS] <;> with_reducible rfl) (by decide) ?_
  repeat (refine awp_seq ?_)
  refine awp_ret ⟨.inr rfl, _, (ares_cell 4 29 rfl Tryti29 (by decide) (by simp only [jL, jN, seval, vint, TyS, TyF, BdS] <;> with_reducible rfl)), ?_⟩
  exact Ty.enc_drop1 _

def tw1 : Ty := .mk 9 0 [.mk 1 3 [], .mk 7 7 [.mk 1 1 [], .mk 1 3 []]]
def tw2 : Ty := .mk 9 0 [.mk 3 0 [], .mk 7 7 [.mk 1 1 [], .mk 3 0 []]]
end Go.Abs
set_option maxRecDepth 4000
namespace Go.Abs
open Go.Proofs

end Go.Abs
set_option maxRecDepth 4000
namespace Go.Abs
open Go.Proofs
theorem app_Eq2 {us : List Eq2} {u : Eq2} {id : Nat} {tl : Tail} (hb : (us.length + 1) * 80 ≤ 2 ^ 47) (fresh : Nat) (H : Heap) (hH : H[id]? = some (.buf us.length 6)) :
    aappend ⟨true, 6, 80⟩ fresh H (.slice (us.map Eq2.enc) (.tok id)) (.slice [u.enc] tl) = some (.slice ((us ++ [u]).map Eq2.enc) (.tok id), some (id, .buf (us.length + 1) 6)) := by
  have hmx : maxLen = 9223372036854775807 := by decide
  rw [aappend_tok1 (n := us.length) hH (by simp) (by simpa using hb) (by simp; omega) (fun e he => by obtain ⟨v, _, rfl⟩ := List.mem_map.1 he; exact v.enc_len) u.enc_len rfl (by decide)]
  simp

end Go.Abs
set_option maxRecDepth 4000
namespace Go.Abs
open Go.RowKit Go.Proofs
theorem Eq2.sw_sw (e : Eq2) : e.sw.sw = e := rfl
def HPc : List Eq2 → Heap
  | [] => [.row [.slice [] .full]]
  | p :: ps => [.row [.slice (((p :: ps).map Eq2.sw).map Eq2.enc) (.tok 2)], .row p.enc.cells, .buf (ps.length + 1) 6]
def tailC : List Eq2 → Tail
  | [] => .full
  | _ :: _ => .tok 2
theorem HPc_0 : ∀ c, (HPc c)[0]? = some (.row [.slice ((c.map Eq2.sw).map Eq2.enc) (tailC c)])
  | [] => rfl
  | _ :: _ => rfl
theorem HPc_pos (c : List Eq2) : 1 ≤ (HPc c).length := by cases c <;> simp [HPc]
theorem HPc_noobj (c : List Eq2) (id : Nat) (k : OKind) : (HPc c)[id]? ≠ some (AObj.obj k) := by
  cases c with
  | nil => intro h; rcases id with _ | id <;> simp [HPc] at h
  | cons p ps => intro h; rcases id with _ | _ | _ | id <;> simp [HPc] at h
theorem obel_eq2' (n : Nat) (e : Eq2) : OBel n (.row e.enc.cells) :=
  obel_row_cons (.int _ _) (obel_row_cons (.int _ _) (obel_row_cons (bel_Ty _ _) (obel_row_cons (.int _ _) (obel_row_cons (.int _ _) (obel_row_cons (bel_Ty _ _) (obel_row_nil _))))))
theorem bel_Eq2t {n : Nat} {tl : Tail} (us : List Eq2) (h : ∀ id, tl = .tok id → id < n) : Bel n (.slice (us.map Eq2.enc) tl) := by
  have := bel_Eq2 n us
  cases this with
  | slice _ _ h1 h2 => exact .slice _ _ h1 h
theorem HPc_bel : ∀ c, HBel (HPc c).length (HPc c)
  | [] => HBel.cons (obel_row_cons (.slice _ _ (by simp) (by simp)) (obel_row_nil _)) (hbel_nil _)
  | p :: ps => HBel.cons (obel_row_cons (bel_Eq2t _ (by simp [HPc])) (obel_row_nil _)) (HBel.cons (obel_eq2' _ p) (HBel.cons trivial (hbel_nil _)))
theorem env_cell {E : Env} (a : Addr) (v : Value) (h : E.view.cell a = some v) : E.w.cell? a = some v := by
  simp only [Env.view] at h
  split at h
  · exact h
  · cases h
theorem content_same {E2 E' E'' : Env} {c1 c2 : List Eq2} {L : Heap} (hw : E''.w = E'.w) (hb : E2.view.born 0) (h1 : E2.le E') (o1 : E'.Ok) (e1 : E'.H = HPc c1) (h2 : E2.le E'') (o2 : E''.Ok) (e2 : E''.H = HPc c2 ++ L) : c1 = c2 := by
  obtain ⟨arr, el, a1, a2, a3, _⟩ := o1.rows 0 _ (by rw [e1]; exact HPc_0 c1)
  obtain ⟨arr', el', b1, b2, b3, _⟩ := o2.rows 0 _ (by rw [e2, List.getElem?_append_left (HPc_pos c2)]; exact HPc_0 c2)
  have r1 : E'.ρ 0 = E2.ρ 0 := h1.view.rho 0 hb
  have r2 : E''.ρ 0 = E2.ρ 0 := h2.view.rho 0 hb
  rw [r1] at a1; rw [r2, hw, a1] at b1
  cases b1
  have k1 := a3 0 (by simp)
  have k2 := b3 0 (by simp)
  have := eqs_same (f := E'.w.cell?) env_cell (by rw [← hw]; exact env_cell) k1 k2
  have q := congrArg (List.map Eq2.sw) this
  simpa [List.map_map, Function.comp_def, Eq2.sw_sw] using q
theorem le_of_leN1 {E E' : Env} (h : E.leN 1 E') (hH : E.H.length = 1) : E.le E' := by
  refine Env.leN.le ?_
  rw [hH]; exact h
theorem keeps_le {E E' : Env} {B : Nat} (ho : E.Ok) (hno : ∀ (id : Nat) (k : OKind), E.H[id]? ≠ some (AObj.obj k)) (h : E.le E') : KeepsFrom B E.w E'.w := by
  refine ⟨h.size, fun k o _ hk hc => ?_⟩
  refine ((h.other k (Array.getElem?_eq_some_iff.1 hk).1 ?_).2).trans hk
  rintro (⟨id, cs, h1, h2⟩ | ⟨id, m, sz, h1, h2⟩ | ⟨id, q, h1, h2⟩)
  · obtain ⟨arr, el, a1, _⟩ := ho.rows id cs h1
    rw [h2, hk] at a1; cases a1; cases hc
  · obtain ⟨arr, el, pos, a1, _⟩ := ho.bufs id m sz k h1 h2
    rw [hk] at a1; cases a1; cases hc
  · exact hno id q h1

theorem xp_fix {N : Nat} {ds : List Deferred} {C : Env → Prop} {K : Act → World → Prop} {T : Slots} {H : Heap} (l : List (Nat × PV)) (hf : Fits T l) (h : XP N ds C K (mkS l) H) : XP N ds C K T H :=
  fun E a hc ho hH ht hd => h E a hc ho hH (trel_weak ht (mkS_weak hf)) hd
theorem HPc_noobj2 (c : List Eq2) (cs : List PV) (id : Nat) (k : OKind) : (HPc c ++ [AObj.row cs])[id]? ≠ some (AObj.obj k) := by
  intro hq
  rcases Nat.lt_or_ge id (HPc c).length with q | q
  · rw [List.getElem?_append_left q] at hq; exact HPc_noobj _ _ _ hq
  · rw [List.getElem?_append_right q] at hq
    rcases hz : id - (HPc c).length with _ | z <;> rw [hz] at hq <;> simp at hq
/-- The loop over the reversed equations. -/
theorem back_loop {n : Nat} {C : Env → Prop} {K : Exit → Act → World → Prop} {T : Slots} {eqs : List Eq2} {asg bod : Code} (l : List (Nat × PV)) (hl : eqs.length ≤ maxLen) (h5 : T 5 = .optr 0 0) (h25 : T 25 = .fn (.func 49) [] [.optr 1 0]) (hf : Fits T l) (hbl : BelL 1 l)
    (hA : ∀ (lp m : Nat) (K' : Exit → Act → World → Prop) (C' : Env → Prop) (e : Eq2) (c : List Eq2), (∀ E E', C' E → E.le E' → C' E') → XP 49 [] C' (K' .normal) (mkS [(5, .optr 0 0), (7, .optr (HPc c).length 0)]) (HPc c ++ [.row e.enc.cells]) → X (Fence.wide.inRound lp) m Try.prog 49 [] C' K' asg (mkS [(5, .optr 0 0), (27, e.enc)]) (HPc c))
    (hB : ∀ (lp m : Nat) (K' : Exit → Act → World → Prop) (C' : Env → Prop) (e : Eq2) (c : List Eq2), c.length < eqs.length → (∀ E E', C' E → E.le E' → C' E') → (∀ L, XP 49 [] C' (K' .normal) (mkS []) (HPc (c ++ [e]) ++ L)) → X (Fence.wide.inRound lp) m Try.prog 49 [] C' K' bod (mkS [(5, .optr 0 0), (7, .optr (HPc c).length 0)]) (HPc c ++ [.row e.enc.cells]))
    (hrest : ∀ (E1 : Env) (a : Act) (E' : Env) (D : Nat), C E1 → E1.Ok → a.defers = [] → E1.leN 1 E' → E'.Ok → E'.H = HPc eqs.reverse → E1.w.heap.size ≤ D → E'.w.heap[D]? = some (.deferred (some [])) → TRel E'.view 49 (plainA a) (mkS l) → K .normal { a with defers := [{ target := .collected D, args := #[] }] } E'.w) :
    X Fence.wide (n + 3) Try.prog 49 [] C K (.block 0 (.rangeFunc (.tmp 25) #[26, 27] asg bod)) T [.row [.slice [] .full], .row [.slice (eqs.map Eq2.enc) .none]] := by
  intro E1 a hC ho hH ht hd
  obtain ⟨E2, hE2⟩ : ∃ E2, E2 = E1.frz [.row [.slice [] .full]] := ⟨_, rfl⟩
  have hH' : E1.H = [.row [.slice [] .full]] ++ [.row [.slice (eqs.map Eq2.enc) .none]] := hH
  have hb1 : HBel 1 [AObj.row [.slice [] .full]] := HPc_bel []
  have ho2 : E2.Ok := by rw [hE2]; exact ho.frz hH' hb1
  have hle12 : E1.leN 1 E2 := by rw [hE2]; exact Env.frz_leN ho hH' (Nat.le_refl _)
  have hH2 : E2.H = HPc [] := by rw [hE2]; rfl
  have hw2 : E2.w = E1.w := by rw [hE2]; rfl
  have born0 : E2.view.born 0 := ⟨.row [.slice [] .full], by rw [hH2]; rfl, by simp⟩
  have relF : ∀ {v : Value} {p : PV}, VRel E1.view v p → Bel 1 p → VRel E2.view v p := fun h hp => by rw [hE2]; exact Env.frz_rel ho hH' h hp
  have hv25 := ht.rel 25 (by omega)
  rw [h25] at hv25
  obtain ⟨pv, hpe, hpr⟩ : ∃ pv, (plainA a).tmps.getD 25 undef = .func (.func 49) #[] #[pv] ∧ VRel E1.view pv (.optr 1 0) := by
    generalize (plainA a).tmps.getD 25 undef = y at hv25
    cases hv25 with
    | fn _ first caps _ _ hf hc hrf hrc =>
      have e1 : first = #[] := by simpa using hf
      obtain ⟨ls⟩ := caps
      match ls, hc with
      | [u], _ => exact ⟨u, by rw [e1], hrc 0 (by simp)⟩
  obtain ⟨arr, el, r1, r2, r3, r4⟩ := ho.rows 1 [.slice (eqs.map Eq2.enc) .none] (by rw [hH]; rfl)
  have hpv := hpr.optr_inv.1
  have hk1 : E2.κ (E1.ρ 1) = .fixed := by
    rw [hE2]; simp only [Env.frz]
    rw [if_pos ⟨1, _, by simp, by rw [hH]; rfl, rfl⟩]
  have hit2 : VRel E2.view pv (.iptr [.slice (eqs.map Eq2.enc) .none]) := by
    rw [hpv]
    refine .iptr _ _ (fun _ => arr.getD 0 undef) (fun j hj => ?_) (fun j hj => ?_)
    · obtain rfl : j = 0 := by simpa using hj
      rw [add_plain]
      simp only [Env.view]
      rw [hk1]
      show (if true = true then E2.w.cell? ⟨E1.ρ 1, 0, none⟩ else none) = _
      rw [if_pos rfl, hw2, cell_row r1, Array.getD_eq_getD_getElem?, Array.getElem?_eq_getElem (by simp at r2; omega)]
      rfl
    · obtain rfl : j = 0 := by simpa using hj
      exact relF (r3 0 (by simp)) (bel_Eq2 _ _)
  obtain ⟨B, hBe⟩ : ∃ B : Nat → Prop, B = fun b => b < E1.w.heap.size ∧ ¬ E2.owns b := ⟨_, rfl⟩
  have owns2 : ∀ b, E2.owns b → E2.κ b = .mut := by
    rintro b (⟨id, cs, h1, h2⟩ | ⟨id, m, sz, h1, h2⟩ | ⟨id, q, h1, h2⟩)
    · obtain ⟨_, _, _, _, _, h⟩ := ho2.rows id cs h1
      rw [← h2]; exact h
    · rw [hH2] at h1; rcases id with _ | id <;> simp [HPc] at h1
    · rw [hH2] at h1; exact absurd h1 (HPc_noobj _ _ _)
  have v20 : ∀ ad v, E2.view.cell ad = some v → (envB E2.κ B E1.w).view.cell ad = some v := fun ad v hc => by
    have hst : (E2.κ ad.block).stable ad.off = true := by
      simp only [Env.view] at hc
      split at hc
      · assumption
      · cases hc
    have hcl := env_cell _ _ hc
    rw [hw2] at hcl
    have hbb : B ad.block := by
      rw [hBe]
      exact ⟨cell?_lt hcl, fun ho => by rw [owns2 _ ho] at hst; cases hst⟩
    simp only [Env.view, envB, hbb, if_true, hst]
    exact hcl
  have v02 : ∀ ad v, (envB E2.κ B E1.w).view.cell ad = some v → E2.view.cell ad = some v := fun ad v hc => by
    by_cases hbb : B ad.block
    · simp only [Env.view, envB, hbb, if_true] at hc ⊢
      rw [hw2]; exact hc
    · simp only [Env.view, envB, hbb, if_false] at hc
      cases hc
  have V0le : ∀ E', E2.le E' → (envB E2.κ B E1.w).view.le E'.view := fun E' h =>
    ⟨fun ad v hc => h.view.cell _ _ (v02 ad v hc), fun id ⟨o, h1, _⟩ => by simp [envB] at h1, fun id ⟨o, h1, _⟩ => by simp [envB] at h1, fun id t' ⟨o, h1, _⟩ _ => by simp [envB] at h1⟩
  have hit : VRel (envB E2.κ B E1.w).view pv (.iptr [.slice (eqs.map Eq2.enc) .none]) :=
    VRel.cut (n := 0) v20 (fun id hid => absurd hid (Nat.not_lt_zero _)) hit2 (.iptr _ fun c hc => by rw [List.mem_singleton] at hc; rw [hc]; exact bel_Eq2 _ _)
  have hBlt : ∀ b, B b → b < E1.w.heap.size := fun b hb => by rw [hBe] at hb; exact hb.1
  have kp_le : ∀ E' E'', E2.le E' → E'.le E'' → KpB B E'.w E''.w := fun E' E'' h h' b hb => by
    rw [hBe] at hb
    have hlt : b < E2.w.heap.size := by rw [hw2]; exact hb.1
    exact (h'.other b (Nat.lt_of_lt_of_le hlt h.size) fun ho => hb.2 (h.born b hlt ho)).2
  have h5r : VRel E2.view (a.tmps.getD 5 undef) (.optr 0 0) := by
    have := ht.rel 5 (by omega)
    rw [h5] at this
    exact relF this (.optr _ _ (by omega))
  have hlr : ∀ i, i < 49 → VRel E2.view (a.tmps.getD i undef) (mkS l i) := by
    intro i hi
    have hT := ht.rel i hi
    clear hrest
    induction l with
    | nil => exact .junk _
    | cons x l ih =>
      obtain ⟨d, v⟩ := x
      simp only [mkS, upd]
      split
      · rename_i e
        subst e
        rw [hf.1] at hT
        exact relF hT hbl.1
      · exact ih hf.2 hbl.2
  refine wpIn_block ?_
  refine wpIn_rangeFunc_ownH (w0 := E1.w) (α := It (envB E2.κ B E1.w).view) (encs := It.encs) (Kp := KpB B) (N := eqs.length) rfl (by omega) (gf := 49) (lb := #[pv]) hpe trivial (enters_of Try.func49 (by kernel_rfl) rfl)
    (back_stops hl hBlt hit) KpB.trans (fun W q o o' hq h _ _ b hb => World.putObj_heap_other (by have := hBlt b hb; omega)) (Below.refl _ _) (fun _ => rfl)
    (fun pre W => ∃ E' : Env, E'.w = W ∧ E2.le E' ∧ E'.Ok ∧ E'.H = HPc (pre.map It.item)) (fun _ _ _ => False)
    ?hI (fun c s W W' row h _ _ => h) ⟨E2, hw2, .refl E2, ho2, hH2⟩
    (fun x a' W => ∃ (E' : Env) (c : List Eq2), E'.w = W ∧ E2.le E' ∧ E'.Ok ∧ E'.H = HPc c ++ [.row x.item.enc.cells] ∧ TRel E'.view 49 (plainA a') (mkS [(5, .optr 0 0), (7, .optr (HPc c).length 0)]) ∧ a'.defers = [])
    ?hAx ?assign ?body ?done (fun D c pre W _ _ h => h.elim)
  case hI =>
    rintro s W W' row ⟨E', rfl, hle, ho', hHe⟩ hg hr
    obtain ⟨g1, g2, g3⟩ := env_grown hle ho' (fun id k => by rw [hHe]; exact HPc_noobj _ id k) hg (fun r e => by rw [hw2]; exact hr r e)
    exact ⟨_, rfl, g1, g2, hHe⟩
  case hAx =>
    rintro x a' s W W' row ⟨E', c, rfl, hle, ho', hHe, hta, hda⟩ hg hr
    obtain ⟨g1, g2, g3⟩ := env_grown hle ho' (fun id k => by rw [hHe]; exact HPc_noobj2 _ _ id k) hg (fun r e => by rw [hw2]; exact hr r e)
    exact ⟨_, c, rfl, g1, g2, hHe, hta.mono g3, hda⟩
  case assign =>
    rintro q pre x W Kk ⟨E', hWe, hle, ho', hHe⟩ hK
    subst hWe
    have hx : VRel E'.view x.1.2.1 x.item.enc := x.2.mono (V0le E' hle)
    have ef : (#[26, 27].zip x.encs).foldl (fun t (p : Nat × Value) => t.setIfInBounds p.1 p.2) a.tmps = (a.tmps.setIfInBounds 26 x.1.1).setIfInBounds 27 x.1.2.1 := by
      have ez : #[26, 27].zip x.encs = #[(26, x.1.1), (27, x.1.2.1)] := by simp [It.encs]
      rw [ez]; simp
    refine hA q _ _ (fun A => E'.le A) x.item (pre.map It.item) (fun A B h k => h.trans k) ?_ E' _ (.refl E') ho' hHe ?_ rfl
    · intro E'' a'' hle'' ho'' hH'' ht'' hd''
      exact hK a'' E''.w (keeps_le ho' (fun id k => by rw [hHe]; exact HPc_noobj _ id k) hle'') (kp_le E' E'' hle hle'')
        ⟨E''.cutH (HPc (pre.map It.item)), rfl, le_of_leN1 (((hle.trans hle'').leN 1).trans (Env.cutH_leN hH'' (HPc_pos _))) (by rw [hH2]; rfl), ho''.cutH hH'' (HPc_bel _), rfl⟩
        ⟨E'', _, rfl, hle.trans hle'', ho'', hH'', ht'', hd''⟩
    · have hsz : a.tmps.size = 49 := ht.size
      refine ⟨?_, rfl, fun i hi => ?_⟩
      · show (Array.foldl (fun t (p : Nat × Value) => t.setIfInBounds p.1 p.2) a.tmps (#[26, 27].zip x.encs)).size = 49
        rw [ef]; simp [hsz]
      · show VRel E'.view ((Array.foldl (fun t (p : Nat × Value) => t.setIfInBounds p.1 p.2) a.tmps (#[26, 27].zip x.encs)).getD i undef) _
        rw [ef]
        simp only [mkS, upd]
        split
        · rename_i e
          subst e
          have e5 : (((a.tmps.setIfInBounds 26 x.1.1).setIfInBounds 27 x.1.2.1).getD 5 undef) = a.tmps.getD 5 undef := by
            simp only [Array.getD_eq_getD_getElem?]
            rw [Array.getElem?_setIfInBounds_ne (by decide), Array.getElem?_setIfInBounds_ne (by decide)]
          rw [e5]; exact h5r.mono hle.view
        · split
          · rename_i e
            subst e
            have e27 : (((a.tmps.setIfInBounds 26 x.1.1).setIfInBounds 27 x.1.2.1).getD 27 undef) = x.1.2.1 := by
              simp only [Array.getD_eq_getD_getElem?]
              rw [Array.getElem?_setIfInBounds_self_of_lt (by simp [hsz])]; rfl
            rw [e27]; exact hx
          · exact .junk _
  case body =>
    rintro q pre x a' W hql hqr ⟨E', hWe, hle, ho', hHe⟩ ⟨E'', c, hWe2, hle'', ho'', hH'', ht'', hd''⟩ hlen
    have hcc : pre.map It.item = c := content_same (hWe2.trans hWe.symm) born0 hle ho' hHe hle'' ho'' hH''
    subst hWe2
    refine hB q _ _ (fun A => E''.le A) x.item c (by rw [← hcc]; simpa using hlen) (fun A B h k => h.trans k) (fun L => ?_) E'' a' (.refl E'') ho'' hH'' ht'' hd''
    intro A a3 hA' hoA hHA htA hdA
    exact ⟨keeps_le ho'' (fun id k => by rw [hH'']; exact HPc_noobj2 _ _ id k) hA', kp_le E'' A hle'' hA', A.cutH (HPc (c ++ [x.item])), rfl,
      le_of_leN1 (((hle''.trans hA').leN 1).trans (Env.cutH_leN hHA (HPc_pos _))) (by rw [hH2]; rfl), hoA.cutH hHA (HPc_bel _), by rw [List.map_append, hcc]; rfl⟩
  case done =>
    rintro D ys W hD hS ⟨E', rfl, hle, ho', hHe⟩ hK
    have := hrest E1 a E' D hC ho hd (hle12.trans (hle.leN 1)) ho' (by rw [hHe, hS]) hD hK ⟨ht.size, rfl, fun i hi => (hlr i hi).mono hle.view⟩
    show K .normal _ _
    rw [hd]
    exact this
end Go.Abs
set_option maxRecDepth 4000
namespace Go.Abs
open Go.RowKit Go.Proofs
theorem leN0_below {E E' : Env} (h : E.leN 0 E') (hH : E.H = []) : Below E.w.heap.size E.w E'.w :=
  ⟨h.os, h.tape, h.output, h.size, fun k hk => (h.other k hk (by
    rintro (⟨id, cs, h1, _⟩ | ⟨id, m, sz, h1, _⟩ | ⟨id, q, h1, _⟩) <;> rw [hH] at h1 <;> simp at h1)).2⟩
theorem Env.leN.weak {n m : Nat} {E E' : Env} (h : E.leN m E') (q : n ≤ m) : E.leN n E' := ⟨h.os, h.tape, h.output, h.size, h.other, h.cell, fun id hid => h.bornv id (by omega), h.born⟩
def CD (D : Nat) (A : Env) : Prop := A.w.heap[D]? = some (.deferred (some [])) ∧ ¬ A.owns D
theorem CD.le {D : Nat} {A B : Env} (h : CD D A) (k : A.le B) : CD D B := by
  have hlt := (Array.getElem?_eq_some_iff.1 h.1).1
  exact ⟨((k.other D hlt h.2).2).trans h.1, fun q => h.2 (k.born D hlt q)⟩
theorem cd_of {D : Nat} {A : Env} {c : List Eq2} (ho : A.Ok) (hH : A.H = HPc c) (h : A.w.heap[D]? = some (.deferred (some []))) : CD D A := by
  refine ⟨h, ?_⟩
  rintro (⟨id, cs, h1, h2⟩ | ⟨id, m, sz, h1, h2⟩ | ⟨id, q, h1, h2⟩)
  · obtain ⟨arr, el, a1, _⟩ := ho.rows id cs h1
    rw [h2, h] at a1; cases a1
  · obtain ⟨arr, el, pos, a1, _⟩ := ho.bufs id m sz D h1 h2
    rw [h] at a1; cases a1
  · rw [hH] at h1; exact HPc_noobj _ _ _ h1
/-- The law of order. -/
theorem law_ord (eqs : List Eq2) (hw : ∀ e ∈ eqs, e.l.W ∧ e.r.W) (hb : eqs.length * 80 ≤ 2 ^ 47) : PC Try.prog 4 [.slice (eqs.map Eq2.enc) .none] (.bool true) := by
  have em : maxLen = 9223372036854775807 := by decide
  have hlen : eqs.length ≤ maxLen := by omega
  have hw' : ∀ e ∈ eqs.reverse.map Eq2.sw, e.l.W ∧ e.r.W := fun e he => by
    obtain ⟨x, hx, rfl⟩ := List.mem_map.1 he
    exact (hw x (List.mem_reverse.1 hx)).symm
  have hlen' : (eqs.reverse.map Eq2.sw).length ≤ maxLen := by simpa using hlen
  obtain ⟨R, ok, hu, hU⟩ := uni_c hw hlen
  obtain ⟨R', ok', hu', hU'⟩ := uni_c hw' hlen'
  have hRl : R.length ≤ maxLen := by have := hU.len; omega
  have hRW := hU.w
  have herr := anyErr_c eqs hw hlen
  intro H
  refine ACalls.pure ((acalls_below fun E vargs ho hH hrl => ⟨.bool true, VRel.bool (V := E.view) true, ?_⟩).mono fun r H' h => by rw [h.1]; rfl) (by simp [bel_Eq2]) (.bool _) H
  refine (callsIn_wide (n := 9)).1 (callsIn_of_wp_marks Try.func4 rfl trivial ?_ rfl)
  refine (?_ : X Fence.wide 9 Try.prog 49 [] (fun E' => E.leN 0 E') _ _ (enter [.slice (eqs.map Eq2.enc) .none]) []) E _ (.refl 0 E) ho hH (trel_enter (N := 49) hrl (by simp)) rfl
  refine x_seq (x_reg (xl_end (fun _ => trivial) (fun A B h k => h.trans (k.leN 0)) (by simp only [jA, jO, jN, seval, y3, y4, y22, y24, y29, y31, y42, vint, TyS, TyF, MapS, EqS, BdS] <;> with_reducible rfl) (by decide) (xp_then ?_)))
  refine x_seq (x_seq (x_reg (xl_call (fun A B h k => h.trans (k.leN 0)) rfl rfl (by decide) rfl Trygo13 (by simp only [jN, seval, vint, TyS, TyF, MapS, EqS, BdS] <;> with_reducible rfl) (worksK _) ?_)))
  rintro _ _ ⟨rfl, rfl⟩
  refine xl_end (fun _ => trivial) (fun A B h k => h.trans (k.leN 0)) (by simp only [jA, jO, jN, seval, y3, y4, y22, y24, y29, y31, y42, vint, TyS, TyF, MapS, EqS, BdS] <;> with_reducible rfl) (by decide) (xp_then ?_)
  refine x_false rfl (by simp only [jN, seval, vint, TyS, TyF, MapS, EqS, BdS] <;> with_reducible rfl) (x_skip (xp_then ?_))
  refine x_seq (x_reg (xl_take 1 (fun _ => trivial) (fun A B h k => h.trans (k.leN 0)) (by simp only [jA, jO, jN, seval, y3, y4, y22, y24, y29, y31, y42, vint, TyS, TyF, MapS, EqS, BdS] <;> with_reducible rfl) (by decide) (xl_call (fun A B h k => h.trans (k.leN 0)) rfl rfl (by decide) rfl Trygo9 (by simp only [jN, seval, vint, TyS, TyF, MapS, EqS, BdS] <;> with_reducible rfl) (hu _) ?_)))
  rintro _ _ ⟨rfl, rfl⟩
  refine xl_end (fun _ => trivial) (fun A B h k => h.trans (k.leN 0)) (by simp only [jA, jO, jN, seval, y3, y4, y22, y24, y29, y31, y42, vint, TyS, TyF, MapS, EqS, BdS] <;> with_reducible rfl) (by decide) (xp_then ?_)
  refine x_seq (x_seq (x_reg (xl_call (fun A B h k => h.trans (k.leN 0)) rfl rfl (by decide) rfl Trygo13 (by simp only [jN, seval, vint, TyS, TyF, MapS, EqS, BdS] <;> with_reducible rfl) (worksK _) ?_)))
  rintro _ _ ⟨rfl, rfl⟩
  refine xl_take 3 (fun _ => trivial) (fun A B h k => h.trans (k.leN 0)) (by simp only [jA, jO, jN, seval, y3, y4, y22, y24, y29, y31, y42, vint, TyS, TyF, MapS, EqS, BdS] <;> with_reducible rfl) (by decide) (xl_call (fun A B h k => h.trans (k.leN 0)) rfl (by simp only [jA, jO, jN, seval, y3, y4, y22, y24, y29, y31, y42, vint, TyS, TyF, MapS, EqS, BdS] <;> with_reducible rfl) (by decide) rfl Trygo14 (by simp only [jN, seval, vint, TyS, TyF, MapS, EqS, BdS] <;> with_reducible rfl) (herr _) ?_)
  rintro _ _ ⟨rfl, rfl⟩
  refine xl_end (fun _ => trivial) (fun A B h k => h.trans (k.leN 0)) (by simp only [jA, jO, jN, seval, y3, y4, y22, y24, y29, y31, y42, vint, TyS, TyF, MapS, EqS, BdS] <;> with_reducible rfl) (by decide) (xp_then ?_)
  refine x_cond rfl (by simp only [jN, seval, vint, TyS, TyF, MapS, EqS, BdS] <;> with_reducible rfl) (fun bt => ?_) (fun bt => ?_)
  · refine x_seq (x_reg (xl_call (fun A B h k => h.trans (k.leN 0)) rfl rfl (by decide) rfl Trygo13 (by simp only [jN, seval, vint, TyS, TyF, MapS, EqS, BdS] <;> with_reducible rfl) (worksK _) ?_))
    rintro _ _ ⟨rfl, rfl⟩
    refine xl_end (fun _ => trivial) (fun A B h k => h.trans (k.leN 0)) (by simp only [jA, jO, jN, seval, y3, y4, y22, y24, y29, y31, y42, vint, TyS, TyF, MapS, EqS, BdS] <;> with_reducible rfl) (by decide) (xp_then ?_)
    refine x_ret ?_
    intro E' a' hle ho' hH' ht hd
    have h2 : VRel E'.view (a'.tmps.getD 2 undef) (.bool true) := ht.rel 2 (by omega)
    change LeavesInM _ _ _ _ _ _ a'.defers .returning _
    rw [hd]
    exact ⟨_, results_tmp rfl _ _ _, by rw [h2.bool_inv], leN0_below hle hH⟩
  refine x_skip (xp_then ?_)
  refine x_seq (x_reg (xl_end (fun _ => trivial) (fun A B h k => h.trans (k.leN 0)) (by simp only [jA, jO, jN, seval, y3, y4, y22, y24, y29, y31, y42, vint, TyS, TyF, MapS, EqS, BdS] <;> with_reducible rfl) (by decide) (xp_then ?_)))
  refine x_seq (x_seq (x_reg (xl_take 1 (fun _ => trivial) (fun A B h k => h.trans (k.leN 0)) (by simp only [jA, jO, jN, seval, y3, y4, y22, y24, y29, y31, y42, vint, TyS, TyF, MapS, EqS, BdS] <;> with_reducible rfl) (by decide) (xl_call (fun A B h k => h.trans (k.leN 0)) rfl rfl (by decide) rfl Trygo15 (by simp only [jN, seval, vint, TyS, TyF, MapS, EqS, BdS] <;> with_reducible rfl) (back_c eqs _) ?_))))
  rintro _ _ ⟨rfl, rfl⟩
  refine xl_nil (xp_then ?_)
  refine back_loop (n := 6) [(3, .slice (R.map Bd.enc) .none), (4, .bool ok), (5, .optr 0 0)] hlen rfl rfl ⟨rfl, rfl, rfl, trivial⟩ (.cons (bel_Bd _ _) (.cons (.bool _) (.cons (.optr _ _ (by omega)) .nil))) ?hA ?hB ?hrest
  case hA =>
    intro lp m K' C' e c hC h
    obtain ⟨H0, hH0⟩ : ∃ H0, H0 = HPc c := ⟨_, rfl⟩
    rw [← hH0] at h ⊢
    exact x_reg (xl_end (fun _ => trivial) hC (by simp only [jA, jO, jN, seval, y3, y4, y22, y24, y29, y31, y42, vint, TyS, TyF, MapS, EqS, BdS] <;> with_reducible rfl) (by decide) (xp_fix [(5, .optr 0 0), (7, .optr H0.length 0)] ⟨rfl, rfl, trivial⟩ h))
  case hB =>
    intro lp m K' C' e c hlt hC h
    rcases c with _ | ⟨p, ps⟩
    · have happ : ∀ (fr : Nat) (HH : Heap), aappend ⟨true, 6, 80⟩ fr HH (.slice [] .full) (.slice [(Eq2.mk e.r e.l).enc] .full) = some (.slice [(Eq2.mk e.r e.l).enc] (.tok fr), some (fr, .buf 1 6)) := fun fr HH =>
        aappend_all (i := ⟨true, 6, 80⟩) (fresh := fr) (H := HH) (tl := .full) (by simp) (by simp) (by simp; omega) (fun x hx => by rw [List.mem_singleton] at hx; subst hx; exact ⟨rfl, rfl⟩) (by decide)
      have h' := h []
      simp only [HPc, Eq2.sw, List.map_cons, List.map_nil, List.length_cons, List.length_nil, List.cons_append, List.nil_append] at h' ⊢
      exact x_block (x_reg (xl_end (fun _ => trivial) hC (by simp only [jA, jO, jN, seval, y3, y4, y22, y24, y29, y31, y42, vint, TyS, TyF, MapS, EqS, BdS, happ] <;> with_reducible rfl) (by decide) (xp_fix [] trivial h')))
    · obtain ⟨M, hM⟩ : ∃ M, M = (p :: ps).map Eq2.sw := ⟨_, rfl⟩
      have hMl : M.length = ps.length + 1 := by rw [hM]; simp
      have e1 : HPc (p :: ps) = [.row [.slice (M.map Eq2.enc) (.tok 2)], .row p.enc.cells, .buf M.length 6] := by rw [hM]; simp [HPc]
      have e2 : HPc (p :: ps ++ [e]) = [.row [.slice ((M ++ [Eq2.mk e.r e.l]).map Eq2.enc) (.tok 2)], .row p.enc.cells, .buf (M.length + 1) 6] := by rw [hM]; simp [HPc, Eq2.sw]
      have hlt' : M.length + 1 ≤ eqs.length := by simp at hlt; omega
      have happ := app_Eq2 (us := M) (u := ⟨e.r, e.l⟩) (id := 2) (tl := .full) (by omega)
      have h' := h [.row e.enc.cells]
      rw [e2] at h'
      rw [e1]
      simp only [List.length_cons, List.length_nil, List.cons_append, List.nil_append] at h' ⊢
      exact x_block (x_reg (xl_end (fun _ => trivial) hC (by simp only [jA, jO, jN, seval, y3, y4, y22, y24, y29, y31, y42, vint, TyS, TyF, MapS, EqS, BdS, happ] <;> with_reducible rfl) (by decide) (xp_fix [] trivial h')))
  case hrest =>
    intro E1 a E' D hC1 ho1 hd1 hle1 ho' hH' hD hK ht
    obtain ⟨rfl, rfl⟩ := ord_plain hU hU' bt
    have hsz : E.w.heap.size ≤ D := Nat.le_trans hC1.size hD
    have heb : eqBs R R = true := (eqBs_iff R R).2 rfl
    have hbe := bindingsEqual R R hRl hRW
    rw [heb] at hbe
    have h0 := HPc_0 eqs.reverse
    have hcd := cd_of ho' hH' hK
    obtain ⟨tl, htl⟩ : ∃ tl, tl = tailC eqs.reverse := ⟨_, rfl⟩
    obtain ⟨H0, hH0⟩ : ∃ H0, H0 = HPc eqs.reverse := ⟨_, rfl⟩
    obtain ⟨M, hM⟩ : ∃ M, M = eqs.reverse.map Eq2.sw := ⟨_, rfl⟩
    rw [← htl, ← hH0, ← hM] at h0
    rw [← hM] at hu'
    refine (?_ : X Fence.wide 9 Try.prog 49 [{ target := .collected D, args := #[] }] (fun A => E.leN 0 A ∧ CD D A) _ _ (mkS [(3, .slice (R.map Bd.enc) .none), (4, .bool ok), (5, .optr 0 0)]) H0) E' _ ⟨(hC1.trans (hle1.weak (Nat.zero_le _))), hcd⟩ ho' (hH'.trans hH0.symm) ht rfl
    refine x_seq (x_reg (xl_take 1 (fun _ => trivial) (fun A B h k => ⟨h.1.trans (k.leN 0), h.2.le k⟩) (by simp only [jA, jO, jN, seval, y3, y4, y22, y24, y29, y31, y42, vint, TyS, TyF, MapS, EqS, BdS, h0] <;> with_reducible rfl) (by decide) (xl_call (fun A B h k => ⟨h.1.trans (k.leN 0), h.2.le k⟩) rfl rfl (by decide) rfl Trygo9 (by simp only [jN, seval, vint, TyS, TyF, MapS, EqS, BdS] <;> with_reducible rfl) (hu' _) ?_)))
    rintro _ _ ⟨rfl, rfl⟩
    refine xl_end (fun _ => trivial) (fun A B h k => ⟨h.1.trans (k.leN 0), h.2.le k⟩) (by simp only [jA, jO, jN, seval, y3, y4, y22, y24, y29, y31, y42, vint, TyS, TyF, MapS, EqS, BdS] <;> with_reducible rfl) (by decide) (xp_then ?_)
    refine x_seq (x_reg (xl_take 6 (fun _ => trivial) (fun A B h k => ⟨h.1.trans (k.leN 0), h.2.le k⟩) (by simp only [jA, jO, jN, seval, y3, y4, y22, y24, y29, y31, y42, vint, TyS, TyF, MapS, EqS, BdS, beq_self_eq_true, decide_true] <;> with_reducible rfl) (by decide) (xl_call (fun A B h k => ⟨h.1.trans (k.leN 0), h.2.le k⟩) rfl (by simp only [jA, jO, jN, seval, y3, y4, y22, y24, y29, y31, y42, vint, TyS, TyF, MapS, EqS, BdS] <;> with_reducible rfl) (by decide) rfl Trygo12 (by simp only [jN, seval, vint, TyS, TyF, MapS, EqS, BdS] <;> with_reducible rfl) (hbe _) ?_)))
    rintro _ _ ⟨rfl, rfl⟩
    refine xl_end (fun _ => trivial) (fun A B h k => ⟨h.1.trans (k.leN 0), h.2.le k⟩) (by simp only [jA, jO, jN, seval, y3, y4, y22, y24, y29, y31, y42, vint, TyS, TyF, MapS, EqS, BdS] <;> with_reducible rfl) (by decide) (xp_then ?_)
    refine x_ret ?_
    rintro A a3 ⟨hleA, hcdA⟩ hoA hHA htA hdA
    have h2 : VRel A.view (a3.tmps.getD 2 undef) (.bool true) := htA.rel 2 (by omega)
    change LeavesInM _ _ _ _ _ _ a3.defers .returning _
    rw [hdA]
    refine ⟨by simp, .inl ⟨_, _, rfl, run_takeDeferred hcdA.1, ?_⟩⟩
    have hbl := leN0_below hleA hH
    exact ⟨_, results_tmp rfl _ _ _, by rw [h2.bool_inv], ⟨hbl.os, hbl.tape, hbl.output, by simpa using hbl.size, fun k hk => (World.putObj_heap_other (by omega)).trans (hbl.block k hk)⟩⟩
end Go.Abs
namespace Go.Abs
theorem strip (r : List (List Char)) : stripLifts liftWords ("cut".toList :: r) = ([], "cut".toList :: r) := by
  simp only [liftWords]
  repeat (rw [stripLifts, if_neg (by decide)])
  rfl
theorem mayEnter_of {P : Program} {r : List (List Char)} (h : behindMainWord (wordsSigns P.initOrder.toList) = "cut".toList :: r) (h1 : P.laysLater = false) (h2 : P.bearsReflect = false) (h3 : P.doorFits [] = true) : P.mayEnter = true := by
  unfold Program.mayEnter
  rw [h]
  simp only [strip, h1, h2, h3]
  rfl
theorem headLifts_of {P : Program} {r : List (List Char)} (h : behindMainWord (wordsSigns P.initOrder.toList) = "cut".toList :: r) : P.headLifts = [] := by
  unfold Program.headLifts
  rw [h, strip]
  rfl
theorem liftsFinal_of {P : Program} {r : List (List Char)} (h : behindMainWord (wordsSigns P.initOrder.toList) = "cut".toList :: r) : P.liftsFinal = false := by
  unfold Program.liftsFinal
  rw [headLifts_of h, h]
  rfl
theorem make_of {P : Program} {r : List (List Char)} (h : behindMainWord (wordsSigns P.initOrder.toList) = "cut".toList :: r) : P.make = some .cut := by
  unfold Program.make
  rw [h]
  rfl
def sg (l : List Nat) : List Char := l.map Char.ofNat
theorem words_cons (c : Char) (r : List Char) (h : (c == Char.ofNat 32) = false) : wordsSigns (c :: r) = match wordsSigns r with | w :: ws => (c :: w) :: ws | [] => [[c]] := by
  rw [wordsSigns]
  · rfl
  · intro e
    subst e
    simp at h
theorem words_word : ∀ (w r : List Char), w.all (fun c => !(c == Char.ofNat 32)) = true → wordsSigns (w ++ Char.ofNat 32 :: r) = w :: wordsSigns r
  | [], r, _ => by rfl
  | c :: w, r, h => by
    simp only [List.all_cons, Bool.and_eq_true, Bool.not_eq_true'] at h
    rw [List.cons_append, words_cons c _ h.1, words_word w r h.2]
/-- The head of a cut: 'harness', a sum, 'cut'. -/
theorem behind_of {P : Program} {a b c r : List Char} (hio : P.initOrder = String.ofList (a ++ Char.ofNat 32 :: (b ++ Char.ofNat 32 :: (c ++ Char.ofNat 32 :: r)))) (ha : a.all (fun c => !(c == Char.ofNat 32)) = true) (hb : b.all (fun c => !(c == Char.ofNat 32)) = true) (hc : c.all (fun c => !(c == Char.ofNat 32)) = true)
    (h : ((a == "harness".toList || a == "ownmain".toList) && isSumSigns b) = true) (hc2 : c = "cut".toList) : behindMainWord (wordsSigns P.initOrder.toList) = "cut".toList :: wordsSigns r := by
  rw [hio, String.toList_ofList, words_word _ _ ha, words_word _ _ hb, words_word _ _ hc]
  simp only [behindMainWord]
  rw [if_pos h, hc2]
end Go.Abs
set_option maxRecDepth 100000
namespace Go.Proofs.Ytgjpdplbjbgebaa.headFacts
open Go.Abs
def restC : List Char := sg [97, 116, 32, 103, 108, 111, 115, 115, 97, 116, 111, 114, 47, 103, 108, 111, 115, 115, 97, 116, 111, 114, 108, 97, 119, 50, 46, 85, 110, 105, 102, 121, 77, 97, 116, 99, 104, 101, 115, 82, 101, 102, 101, 114, 101, 110, 99, 101, 32, 103, 108, 111, 115, 115, 97, 116, 111, 114, 47, 103, 108, 111, 115, 115, 97, 116, 111, 114, 107, 101, 101, 112, 50, 46, 85, 110, 105, 102, 121, 79, 114, 100, 101, 114, 73, 110, 100, 101, 112, 101, 110, 100, 101, 110, 116, 32, 103, 108, 111, 115, 115, 97, 116, 111, 114, 47, 103, 108, 111, 115, 115, 97, 116, 111, 114, 107, 101, 101, 112, 50, 46, 85, 110, 105, 102, 121, 83, 111, 108, 118, 101, 115, 69, 113, 117, 97, 116, 105, 111, 110, 115, 32, 103, 108, 111, 115, 115, 97, 116, 111, 114, 47, 103, 108, 111, 115, 115, 97, 116, 111, 114, 107, 101, 101, 112, 50, 46, 85, 110, 105, 102, 121, 77, 111, 110, 111, 116, 111, 110, 101, 32, 103, 108, 111, 115, 115, 97, 116, 111, 114, 47, 103, 108, 111, 115, 115, 97, 116, 111, 114, 107, 101, 101, 112, 50, 46, 85, 110, 105, 102, 121, 77, 111, 115, 116, 71, 101, 110, 101, 114, 97, 108]
theorem io : Try.prog.initOrder = String.ofList (sg [104, 97, 114, 110, 101, 115, 115] ++ Char.ofNat 32 :: (sg [51, 50, 98, 56, 49, 49, 98, 97, 51, 101, 97, 99, 54, 102, 102, 97, 99, 54, 52, 98, 48, 101, 53, 53, 54, 98, 100, 101, 49, 99, 57, 52, 54, 50, 57, 55, 54, 52, 50, 52, 53, 53, 102, 99, 98, 50, 54, 54, 56, 97, 49, 101, 49, 102, 101, 48, 55, 48, 55, 102, 99, 48, 51, 55] ++ Char.ofNat 32 :: (sg [99, 117, 116] ++ Char.ofNat 32 :: restC))) := by kernel_rfl
theorem beh : behindMainWord (wordsSigns Try.prog.initOrder.toList) = "cut".toList :: wordsSigns restC := behind_of io (by decide) (by decide) (by decide) (by kernel_rfl) (by kernel_rfl)
theorem later : Try.prog.laysLater = false := by kernel_rfl
theorem refl : Try.prog.bearsReflect = false := by kernel_rfl
theorem door : Try.prog.doorFits [] = true := by kernel_rfl
theorem mayEnter : Try.prog.mayEnter = true := mayEnter_of beh later refl door
theorem liftsFinal : Try.prog.liftsFinal = false := liftsFinal_of beh
theorem make : Try.prog.make = some .cut := make_of beh
end Go.Proofs.Ytgjpdplbjbgebaa.headFacts
