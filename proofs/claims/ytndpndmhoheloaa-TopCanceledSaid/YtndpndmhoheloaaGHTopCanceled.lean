/- Part 8 of a proof of the law TopCanceled: Go data as trees, the walks of the functions that the law reaches, the plain laws. -/
import Derived.Test.YtndpndmhoheloaaGGTopCanceled
import Derived.Shelf.Small.Wraps
import Derived.Shelf.SlSortCmp.WholeK
import Derived.Shelf.SlSortCmp.NoneTotal
import Derived.Ground.SlsfProg
import Derived.Test.YtndpndmhoheloaaProg
import Derived.WalkKit
import Derived.RangeFuncGives
import Derived.BigQuiet
import Derived.BigCall
import Derived.Lib.Hide
import Derived.StillTailTactics
import Derived.Sort.Grow
import GoSem.ClaimJoined
import Derived.ChangeArms
import Derived.Carry
import Derived.SizedLaws
import Derived.JoinedCond
import Derived.Deep.CondSized
import Derived.JoinedOf
import Derived.KernelRfl
import Derived.Test.YtndpndmhoheloaaRows
set_option linter.unusedVariables false
set_option linter.unusedSimpArgs false
namespace Go.Proofs
open Go.Shelf
def Try.laysSort_ren : Go.Shelf.Ren := ⟨fun | 6 => 65 | 15 => 72 | 14 => 71 | 28 => 81 | 29 => 82 | 20 => 73 | 21 => 74 | 22 => 75 | 23 => 76 | 24 => 77 | 25 => 78 | 26 => 79 | 27 => 80 | 46 => 83 | 47 => 84 | 48 => 85 | 49 => 86 | 50 => 87 | 57 => 88 | n => n, fun | 22 => 82 | 24 => 37 | 25 => 113 | 3 => 3 | 39 => 129 | 0 => 0 | 53 => 71 | 55 => 139 | 4 => 4 | 46 => 132 | 45 => 131 | 50 => 116 | 5 => 5 | 9 => 9 | 66 => 140 | 70 => 144 | 76 => 146 | 77 => 147 | n => n, fun | n => n⟩
theorem Try.laysSort : Go.Proofs.SlLaysF0.n6 Try.prog Try.laysSort_ren := {
  mixed := by kernel_rfl
  f6 := ⟨Try.f65.name, by decide, Try.func65.trans (congrArg some (by kernel_rfl))⟩
  f14 := ⟨Try.f71.name, by decide, Try.func71.trans (congrArg some (by kernel_rfl))⟩
  f15 := Try.func72.trans (congrArg some (by kernel_rfl))
  f20 := ⟨Try.f73.name, by decide, Try.func73.trans (congrArg some (by kernel_rfl))⟩
  f21 := ⟨Try.f74.name, by decide, Try.func74.trans (congrArg some (by kernel_rfl))⟩
  f22 := ⟨Try.f75.name, by decide, Try.func75.trans (congrArg some (by kernel_rfl))⟩
  f23 := ⟨Try.f76.name, by decide, Try.func76.trans (congrArg some (by kernel_rfl))⟩
  f24 := ⟨Try.f77.name, by decide, Try.func77.trans (congrArg some (by kernel_rfl))⟩
  f25 := ⟨Try.f78.name, by decide, Try.func78.trans (congrArg some (by kernel_rfl))⟩
  f26 := ⟨Try.f79.name, by decide, Try.func79.trans (congrArg some (by kernel_rfl))⟩
  f27 := ⟨Try.f80.name, by decide, Try.func80.trans (congrArg some (by kernel_rfl))⟩
  f28 := Try.func81.trans (congrArg some (by kernel_rfl))
  f29 := Try.func82.trans (congrArg some (by kernel_rfl))
  f46 := ⟨Try.f83.name, by decide, Try.func83.trans (congrArg some (by kernel_rfl))⟩
  f47 := Try.func84.trans (congrArg some (by kernel_rfl))
  f48 := Try.func85.trans (congrArg some (by kernel_rfl))
  f49 := ⟨Try.f86.name, by decide, Try.func86.trans (congrArg some (by kernel_rfl))⟩
  f50 := ⟨Try.f87.name, by decide, Try.func87.trans (congrArg some (by kernel_rfl))⟩
  f57 := ⟨Try.f88.name, by decide, Try.func88.trans (congrArg some (by kernel_rfl))⟩
  t0 := Try.underlying0
  a0 := Try.isAgg0
  z0 := Try.sizeOf0
  v0 := Try.zeroValue0
  t3 := Try.underlying3
  a3 := Try.isAgg3
  z3 := Try.sizeOf3
  v3 := Try.zeroValue3
  t4 := Try.underlying4
  a4 := Try.isAgg4
  z4 := Try.sizeOf4
  v4 := Try.zeroValue4
  t5 := Try.underlying5
  a5 := Try.isAgg5
  z5 := Try.sizeOf5
  v5 := Try.zeroValue5
  t9 := Try.underlying9
  a9 := Try.isAgg9
  z9 := Try.sizeOf9
  v9 := Try.zeroValue9
  t22 := Try.underlying82
  a22 := Try.isAgg82
  z22 := Try.sizeOf82
  v22 := Try.zeroValue82
  t25 := Try.underlying113
  a25 := Try.isAgg113
  z25 := Try.sizeOf113
  v25 := Try.zeroValue113
  t39 := Try.underlying129
  a39 := Try.isAgg129
  z39 := Try.sizeOf129
  v39 := Try.zeroValue129
  t45 := Try.underlying131
  a45 := Try.isAgg131
  z45 := Try.sizeOf131
  v45 := Try.zeroValue131
  t46 := Try.underlying132
  a46 := Try.isAgg132
  z46 := Try.sizeOf132
  v46 := Try.zeroValue132
  t50 := Try.underlying116
  a50 := Try.isAgg116
  z50 := Try.sizeOf116
  v50 := Try.zeroValue116
  t53 := Try.underlying71
  a53 := Try.isAgg71
  z53 := Try.sizeOf71
  v53 := Try.zeroValue71
  t55 := Try.underlying139
  a55 := Try.isAgg139
  z55 := Try.sizeOf139
  v55 := Try.zeroValue139
  t66 := Try.underlying140
  a66 := Try.isAgg140
  z66 := Try.sizeOf140
  v66 := Try.zeroValue140
  t70 := Try.underlying144
  a70 := Try.isAgg144
  z70 := Try.sizeOf144
  v70 := Try.zeroValue144
  t76 := Try.underlying146
  a76 := Try.isAgg146
  z76 := Try.sizeOf146
  v76 := Try.zeroValue146
  t77 := Try.underlying147
  a77 := Try.isAgg147
  z77 := Try.sizeOf147
  v77 := Try.zeroValue147 }
end Go.Proofs
namespace Go.Proofs
open Go.Shelf Go.RowKit Go.Lib Go.Sort Go.Abs
abbrev KV := Int × Int × Int
theorem lookup_raw {P : Program} {t e : TypeId} (he : tmapg P t = some e) {w : World} {mb clk : Nat} {ms : List MapEntry} (hb : w.heap[mb]? = some (.map ms.toArray clk)) {V : View} {es : List GE} (hg : GRel V ms es) (n : KV) {p : PV} (hp : gget es n = some p) :
    ∃ val, (Instr.lookup t (.map (some mb)) (gkey n) false).run P w = .ok val w ∧ VRel V val p := by
  obtain ⟨kt, fa, fb, fc, ht, K⟩ := tmapg_some he
  unfold gget at hp
  rcases run_findKeyG K w n hg with ⟨f1, f2⟩ | ⟨i, v, bo, q, f1, f2, f3⟩
  · rw [f1] at hp; cases hp
  · rw [f1] at hp
    injection hp with hp
    subst hp
    exact ⟨v, by simp only [Instr.lookup, Sem.run_bind, run_under ht, run_getObj hb, run_key_ok K, Result.andThen_ok, Sem.run_pure, List.toList_toArray, f2, Bool.false_eq_true, if_false], f3⟩
theorem grow2 (W : World) (a b : Obj) (n : Nat) : ((W.alloc a).alloc b).drewN n = grow (W.drewN n) #[a, b] := by
  have : (W.heap.push a).push b = W.heap ++ #[a, b] := by
    apply Array.ext'
    simp only [Array.toList_push, Array.toList_append, List.append_assoc]
    rfl
  exact congrArg (fun h => ({ W with heap := h, drawn := W.drawn + n } : World)) this
set_option maxRecDepth 100000 in
set_option maxHeartbeats 4000000 in
theorem cmp54 (W : World) (Bd db mb : Nat) (x y : KV) (rx ry : Nat) (lx ly : Int) (hmb : mb < W.heap.size) (c1 : W.cell? ⟨Bd, 0, none⟩ = some (.pointer (some ⟨db, 0, none⟩))) (c2 : W.cell? ⟨db, 2, none⟩ = some (.map (some mb)))
    (hlx : ∀ W' : World, W'.heap[mb]? = W.heap[mb]? → (Instr.lookup 59 (.map (some mb)) (gkey x) false).run Try.prog W' = .ok (.pointer (some ⟨rx, 0, none⟩)) W')
    (hly : ∀ W' : World, W'.heap[mb]? = W.heap[mb]? → (Instr.lookup 59 (.map (some mb)) (gkey y) false).run Try.prog W' = .ok (.pointer (some ⟨ry, 0, none⟩)) W')
    (c3 : W.cell? ⟨rx, 6, none⟩ = some (.int .i64 lx)) (c4 : W.cell? ⟨ry, 6, none⟩ = some (.int .i64 ly)) :
    Calls Try.prog 54 #[gkey x, gkey y, .pointer (some ⟨Bd, 0, none⟩)] W fun e w' => e = .returned (.int .i64 (Go.RowKit.wrap64 (lx - ly))) ∧ ∃ q os', w' = grow (W.drewN q) os' := by
  have t28 := Try.underlying28; have a28 := Try.isAgg28; have z28 := Try.sizeOf28; have v28 := Try.zeroValue28
  have t37 := Try.underlying37; have a37 := Try.isAgg37; have z37 := Try.sizeOf37; have v37 := Try.zeroValue37
  have t59 := Try.underlying59; have a59 := Try.isAgg59; have z59 := Try.sizeOf59; have v59 := Try.zeroValue59
  have t62 := Try.underlying62; have a62 := Try.isAgg62; have z62 := Try.sizeOf62; have v62 := Try.zeroValue62
  have t84 := Try.underlying84; have a84 := Try.isAgg84; have z84 := Try.sizeOf84; have v84 := Try.zeroValue84
  have t85 := Try.underlying85; have a85 := Try.isAgg85; have z85 := Try.sizeOf85; have v85 := Try.zeroValue85
  have t3 := Try.underlying3; have a3 := Try.isAgg3; have z3 := Try.sizeOf3; have v3 := Try.zeroValue3
  unfold gkey at hlx hly ⊢
  go_enter Try.func54, Try.ntmps54
  go_wp2
  obtain ⟨W2, hW2⟩ : ∃ W2, (W.alloc (Obj.cells #[Value.int IntKind.i64 x.1, Value.int IntKind.i64 x.2.1, Value.int IntKind.i64 x.2.2] 37)).alloc (Obj.cells #[Value.int IntKind.i64 y.1, Value.int IntKind.i64 y.2.1, Value.int IntKind.i64 y.2.2] 37) = W2 := ⟨_, rfl⟩
  rw [hW2]
  have hb2 : Below W.heap.size W W2 := by rw [← hW2]; exact ((Below.refl _ W).alloc (Nat.le_refl _) _).alloc (by simp) _
  have d1 := (hb2.cell (p := ⟨Bd, 0, none⟩) (cell?_lt c1)).trans c1
  have d2 := (hb2.cell (p := ⟨db, 2, none⟩) (cell?_lt c2)).trans c2
  have d3 := (hb2.cell (p := ⟨rx, 6, none⟩) (cell?_lt c3)).trans c3
  have d4 := (hb2.cell (p := ⟨ry, 6, none⟩) (cell?_lt c4)).trans c4
  have hx2 : W2.heap[W.heap.size]? = some (Obj.cells #[Value.int IntKind.i64 x.1, Value.int IntKind.i64 x.2.1, Value.int IntKind.i64 x.2.2] 37) := by rw [← hW2]; exact (Below.heap_alloc _ _ _ (by simp)).trans (World.alloc_heap_new W _)
  have hy2 : W2.heap[W.heap.size + 1]? = some (Obj.cells #[Value.int IntKind.i64 y.1, Value.int IntKind.i64 y.2.1, Value.int IntKind.i64 y.2.2] 37) := by
    rw [← hW2]
    have := World.alloc_heap_new (W.alloc (Obj.cells #[Value.int IntKind.i64 x.1, Value.int IntKind.i64 x.2.1, Value.int IntKind.i64 x.2.2] 37)) (Obj.cells #[Value.int IntKind.i64 y.1, Value.int IntKind.i64 y.2.1, Value.int IntKind.i64 y.2.2] 37)
    simpa using this
  have x0 : W2.cell? ⟨W.heap.size, 0, none⟩ = some (.int .i64 x.1) := by simp [World.cell?, hx2]
  have x1 : W2.cell? ⟨W.heap.size, 1, none⟩ = some (.int .i64 x.2.1) := by simp [World.cell?, hx2]
  have x2 : W2.cell? ⟨W.heap.size, 2, none⟩ = some (.int .i64 x.2.2) := by simp [World.cell?, hx2]
  have y0 : W2.cell? ⟨W.heap.size + 1, 0, none⟩ = some (.int .i64 y.1) := by simp [World.cell?, hy2]
  have y1 : W2.cell? ⟨W.heap.size + 1, 1, none⟩ = some (.int .i64 y.2.1) := by simp [World.cell?, hy2]
  have y2 : W2.cell? ⟨W.heap.size + 1, 2, none⟩ = some (.int .i64 y.2.2) := by simp [World.cell?, hy2]
  have hm2 : W2.heap[mb]? = W.heap[mb]? := hb2.block mb hmb
  have lx2 : ∀ n, _ := fun n : Nat => hlx (W2.drewN n) hm2
  have ly2 : ∀ n, _ := fun n : Nat => hly (W2.drewN n) hm2
  have hfin : ∀ n, ∃ q os', W2.drewN n = grow (W.drewN q) os' := fun n => ⟨n, #[Obj.cells #[Value.int IntKind.i64 x.1, Value.int IntKind.i64 x.2.1, Value.int IntKind.i64 x.2.2] 37, Obj.cells #[Value.int IntKind.i64 y.1, Value.int IntKind.i64 y.2.1, Value.int IntKind.i64 y.2.2] 37], by rw [← hW2]; exact grow2 W _ _ n⟩
  clear hW2 hlx hly
  go_quiet (fail)
  go_wp2
  refine bodyPost_ret (results_tmp rfl _ _ _) rfl ?_
  exact ⟨rfl, hfin nq⟩
end Go.Proofs
namespace Go.Proofs
open Go.RowKit Go.Abs Go.Shelf Go.Lib Go.Sort
set_option maxRecDepth 100000 in
set_option maxHeartbeats 2000000 in
theorem collect64 (g : Nat) (lb : Array Value) (eg : ∀ args w, (callFunc g args).run Try.prog w = .ok (.enter g args) w) (p : KQ → Prop) (N : Nat) (hN : N ≤ 1000000) (w : World)
    (hseq : SeqStopsK Fence.wide 2 Try.prog g lb (fun x : { k : KQ // p k } => #[gkey x.1]) KeepsWalks (fun xs => xs.length ≤ N) (fun _ => True) N w) :
    Calls Try.prog 64 #[.func (.func g) #[] lb] w fun e w' => ∃ (v : Value) (ks : List { k : KQ // p k }), e = .returned v ∧ ks.length ≤ N ∧ w'.ownsRow w.heap.size 37 3 v ks.length (kCells (ks.map (·.1))) ∧ Below w.heap.size w w' := by
  refine (callsIn_wide (n := 4)).1 ?_
  refine callsIn_of_wp Try.func64 rfl trivial ?_ rfl
  have h70 : Fence.wide.fn 70 := trivial
  simp only [Try.ntmps64, List.size_toArray, List.length_cons, List.length_nil, Nat.reduceAdd, Nat.reduceSub, Array.replicate_succ, Array.replicate_zero, List.push_toArray, List.append_toArray, List.nil_append, List.cons_append]
  gi_wp2_with (gi_at_call 70; refine (append70 Fence.wide 3 trivial rfl (by omega) g lb trivial eg p N hN _ hseq).mono ?_; rintro e w' ⟨v, ks, rfl, h1, h2, h3⟩)
  go_ret
  exact ⟨v, ks, rfl, h1, h2, h3⟩
theorem keyOf_mem {V : View} : ∀ {ms : List MapEntry} {es : List GE}, GRel V ms es → ∀ e ∈ ms, ∃ x ∈ es, e.key = gkey x.2.1
  | [], [], _, e, he => by cases he
  | m :: ms, x :: es, h, e, he => by
    obtain ⟨h1, h2, h3, h4⟩ := h
    rcases List.mem_cons.1 he with rfl | he
    · exact ⟨x, by simp, h2⟩
    · obtain ⟨y, hy, hk⟩ := keyOf_mem h4 e he
      exact ⟨y, List.mem_cons_of_mem _ hy, hk⟩
theorem gkey_inj {x y : KQ} (h : gkey x = gkey y) : x = y := by
  obtain ⟨a, b, c⟩ := x
  obtain ⟨a', b', c'⟩ := y
  simp only [gkey, Value.agg.injEq] at h
  have := congrArg Array.toList h
  simp at this
  obtain ⟨rfl, rfl, rfl⟩ := this
  rfl
abbrev KA (ms : List MapEntry) := { k : KQ // ∃ e ∈ ms.toArray.toList, e.key = gkey k }
def cfK {ms : List MapEntry} (lu : KA ms → Int) (x y : KA ms) : Int := wrap64 (lu x - lu y)
theorem swoK {ms : List MapEntry} {lu : KA ms → Int} (h : ∀ x, 0 ≤ lu x ∧ lu x < 4611686018427387904) : SWO (ltOf (cfK lu)) where
  irrefl x := by unfold ltOf cfK wrap64; rw [decide_eq_false_iff_not]; omega
  trans x y z h1 h2 := by
    unfold ltOf cfK wrap64 at *
    rw [decide_eq_true_eq] at *
    have := h x; have := h y; have := h z
    omega
  ntrans x y z h1 h2 := by
    unfold ltOf cfK wrap64 at *
    rw [decide_eq_false_iff_not] at *
    have := h x; have := h y; have := h z
    omega
def encA {ms : List MapEntry} (x : KA ms) : List Value := [.int .i64 x.1.1, .int .i64 x.1.2.1, .int .i64 x.1.2.2]
theorem sort_other {α : Type} [Inhabited α] {enc : α → List Value} {k : Nat} {w : World} {blk n : Nat} {d' : Array α} {os : Array Obj} {x : Nat} (hx : x < w.heap.size) (hne : x ≠ blk) : (sortWorldK enc k w blk 0 n d' os).heap[x]? = w.heap[x]? := by
  show ((w.heap.modify blk (onCells (putCells id 0 (flatK enc k d')))) ++ os)[x]? = _
  rw [Array.getElem?_append_left (by simpa using hx), Array.getElem?_modify, if_neg (Ne.symm hne)]
theorem sort_blk {α : Type} [Inhabited α] {enc : α → List Value} {k : Nat} {w : World} {blk n : Nat} {d' : Array α} {os : Array Obj} {arr : Array Value} {elem : TypeId} (h1 : w.heap[blk]? = some (.cells arr elem (0, 0))) :
    (sortWorldK enc k w blk 0 n d' os).heap[blk]? = some (.cells (putCells id 0 (flatK enc k d') arr) elem (0, 0)) := by
  have hlt : blk < w.heap.size := (Array.getElem?_eq_some_iff.1 h1).1
  show ((w.heap.modify blk (onCells (putCells id 0 (flatK enc k d')))) ++ os)[blk]? = _
  rw [Array.getElem?_append_left (by simpa using hlt), Array.getElem?_modify, if_pos rfl, h1]; rfl
theorem kCells_get : ∀ (ks : List KQ) (i j : Nat) (hi : i < ks.length) (hj : j < 3), (kCells ks)[i * 3 + j]? = [Value.int .i64 ks[i].1, .int .i64 ks[i].2.1, .int .i64 ks[i].2.2][j]?
  | k :: ks, 0, j, _, hj => by
    simp only [kCells, List.flatMap_cons, Nat.zero_mul, Nat.zero_add, List.getElem_cons_zero]
    rw [List.getElem?_append_left (by simpa using hj)]
  | k :: ks, i + 1, j, hi, hj => by
    have : (i + 1) * 3 + j = 3 + (i * 3 + j) := by omega
    simp only [kCells, List.flatMap_cons, this]
    rw [List.getElem?_append_right (by simp)]
    have := kCells_get ks i j (by simpa using hi) hj
    simpa [kCells] using this
end Go.Proofs
namespace Go.Proofs
open Go.RowKit Go.Abs Go.Shelf Go.Lib Go.Sort
structure CmpW (w : World) (Bd db mb clk : Nat) (ms : List MapEntry) (V : View) (es : List GE) : Prop where
  c1 : w.cell? ⟨Bd, 0, none⟩ = some (.pointer (some ⟨db, 0, none⟩))
  c2 : w.cell? ⟨db, 2, none⟩ = some (.map (some mb))
  hb : w.heap[mb]? = some (.map ms.toArray clk)
  hg : GRel V ms es
  rcs : ∀ x ∈ es, ∃ v, gget es x.2.1 = some v ∧ ∃ rb lu, (∀ u, VRel V u v → u = .pointer (some ⟨rb, 0, none⟩)) ∧ w.cell? ⟨rb, 6, none⟩ = some (.int .i64 lu) ∧ 0 ≤ lu ∧ lu < 4611686018427387904
theorem CmpW.below {w w' : World} {Bd db mb clk : Nat} {ms : List MapEntry} {V : View} {es : List GE} (h : CmpW w Bd db mb clk ms V es) (hb : ∀ k, k < w.heap.size → w'.heap[k]? = w.heap[k]?) : CmpW w' Bd db mb clk ms V es := by
  have hc : ∀ {p : Addr} {v : Value}, w.cell? p = some v → w'.cell? p = some v := fun {p v} hp => by
    have := hb p.block (cell?_lt hp)
    unfold World.cell? at hp ⊢
    rw [this]; exact hp
  refine ⟨hc h.c1, hc h.c2, (hb mb (Array.getElem?_eq_some_iff.1 h.hb).1).trans h.hb, h.hg, fun x hx => ?_⟩
  obtain ⟨v, h1, rb, lu, h2, h3, h4⟩ := h.rcs x hx
  exact ⟨v, h1, rb, lu, h2, hc h3, h4⟩
theorem CmpW.look {w : World} {Bd db mb clk : Nat} {ms : List MapEntry} {V : View} {es : List GE} (h : CmpW w Bd db mb clk ms V es) (x : KA ms) :
    ∃ q : Nat × Int, (∀ W' : World, W'.heap[mb]? = w.heap[mb]? → (Instr.lookup 59 (.map (some mb)) (gkey x.1) false).run Try.prog W' = .ok (.pointer (some ⟨q.1, 0, none⟩)) W') ∧ w.cell? ⟨q.1, 6, none⟩ = some (.int .i64 q.2) ∧ 0 ≤ q.2 ∧ q.2 < 4611686018427387904 := by
  obtain ⟨k, e, he, hk⟩ := x
  obtain ⟨y, hy, hk2⟩ := keyOf_mem h.hg e (by simpa using he)
  have hky : k = y.2.1 := gkey_inj (hk.symm.trans hk2)
  subst hky
  obtain ⟨v, h1, rb, lu, h2, h3, h4⟩ := h.rcs y hy
  refine ⟨(rb, lu), fun W' hW => ?_, h3, h4⟩
  obtain ⟨val, h5, h6⟩ := lookup_raw Trytg59 (hW.trans h.hb) h.hg y.2.1 h1
  rw [h2 val h6] at h5
  exact h5
set_option maxHeartbeats 1000000 in
theorem sort65 {w : World} {Bd db mb clk : Nat} {ms : List MapEntry} {V : View} {es : List GE} (h : CmpW w Bd db mb clk ms V es) (g cap : Nat) (cur : Array Value) (ks : List (KA ms)) (hne : ks ≠ []) (hg : w.heap[g]? = some (.cells cur 37 (0, 0))) (hgo : g ≠ Bd ∧ g ≠ db ∧ g ≠ mb) (hrg : ∀ x ∈ es, ∀ v, gget es x.2.1 = some v → ∀ rb, (∀ u, VRel V u v → u = .pointer (some ⟨rb, 0, none⟩)) → g ≠ rb)
    (hl : ks.length ≤ 1000000) (hsz : ks.length * 3 ≤ cur.size) (hcells : cur.toList.take (ks.length * 3) = kCells (ks.map (·.1))) :
    Calls Try.prog 65 #[.slice (some ⟨g, 0, none⟩) ks.length cap, .func (.func 54) #[] #[.pointer (some ⟨Bd, 0, none⟩)]] w fun e w' => e = .returned (.tuple #[]) ∧ ∃ (ks' : List (KA ms)) (cur' : Array Value), ks'.length = ks.length ∧ w'.heap[g]? = some (.cells cur' 37 (0, 0)) ∧ ks.length * 3 ≤ cur'.size ∧
      (∀ i j, (hi : i < ks'.length) → j < 3 → cur'[i * 3 + j]? = (encA ks'[i])[j]?) ∧ w'.os = w.os ∧ w'.tape = w.tape ∧ w'.output = w.output ∧ w.heap.size ≤ w'.heap.size ∧ ∀ x, x < w.heap.size → x ≠ g → w'.heap[x]? = w.heap[x]? := by
  obtain ⟨k0, hk0⟩ : ∃ k0, k0 ∈ ks := by
    cases ks with
    | nil => exact (hne rfl).elim
    | cons k _ => exact ⟨k, by simp⟩
  haveI : Inhabited (KA ms) := ⟨k0⟩
  obtain ⟨q, hq⟩ := Classical.skolem.1 h.look
  have hswo : SWO (ltOf (cfK fun x => (q x).2)) := swoK fun x => (hq x).2.2
  have hlt : g < w.heap.size := (Array.getElem?_eq_some_iff.1 hg).1
  have hds : ks.toArray.size = ks.length := by simp
  have hcell : ∀ i j, (hi : i < ks.length) → j < 3 → cur[i * 3 + j]? = (encA ks[i])[j]? := fun i j hi hj => by
    have h1 := kCells_get (ks.map (·.1)) i j (by simpa using hi) hj
    have h2 : cur.toList[i * 3 + j]? = (cur.toList.take (ks.length * 3))[i * 3 + j]? := by
      rw [List.getElem?_take]; simp; omega
    rw [hcells, h1] at h2
    rw [← Array.getElem?_toList, h2]
    simp [encA]
  have hholds : HoldsK encA 3 w g 0 ks.toArray := by
    intro j hj
    rw [size_flatK, hds] at hj
    have hd : j / 3 < ks.length := by omega
    have hm : j % 3 < 3 := Nat.mod_lt _ (by omega)
    have hj3 : j / 3 * 3 + j % 3 = j := by omega
    have hc := hcell (j / 3) (j % 3) hd hm
    rw [hj3] at hc
    constructor
    · rw [get_flatK _ _ _ _ (by rw [hds]; exact hj)]
      unfold World.cell?
      simp only [Nat.zero_add, hg]
      rw [show (none : Option Nat).isSome = false from rfl]
      simp only [Bool.false_eq_true, if_false, _root_.id]
      have e1 : ks.toArray[j / 3]! = ks[j / 3] := by simp [hd]
      rw [e1, hc]
      have hl3 : j % 3 < (encA ks[j / 3]).length := by simpa [encA] using hm
      rw [List.getElem?_eq_getElem hl3]
      simp [hl3]
    · unfold World.frozen?
      simp only [hg]
      simp
  have hcw : ∀ {m : Nat} {os : Array Obj} {dk : Array (KA ms)} {p : Addr} {v : Value}, p.block ≠ g → w.cell? p = some v → (sortWorldK encA 3 w g 0 m dk os).cell? p = some v := fun {m os dk p v} hp hv => by
    have := sort_other (enc := encA) (k := 3) (n := m) (d' := dk) (os := os) (cell?_lt hv) hp
    unfold World.cell? at hv ⊢
    rw [this]; exact hv
  have hmb : mb < w.heap.size := (Array.getElem?_eq_some_iff.1 h.hb).1
  have hqg : ∀ x : KA ms, (q x).1 ≠ g := fun x e => by
    obtain ⟨k, e1, he, hk⟩ := x
    obtain ⟨y, hy, hk2⟩ := keyOf_mem h.hg e1 (by simpa using he)
    have hky : k = y.2.1 := gkey_inj (hk.symm.trans hk2)
    subst hky
    obtain ⟨v, h1, rb, lu, h2, h3, h4⟩ := h.rcs y hy
    have h5 := (hq ⟨y.2.1, e1, he, hk⟩).1 w rfl
    obtain ⟨val, h6, h7⟩ := lookup_raw Trytg59 h.hb h.hg y.2.1 h1
    rw [h2 val h7] at h6
    rw [h6] at h5
    simp at h5
    exact hrg y hy v h1 rb h2 (e.symm.trans h5.symm)
  have hcmp : CmpLays Try.prog 54 #[.pointer (some ⟨Bd, 0, none⟩)] encA 3 (cfK fun x => (q x).2) g 0 ks.toArray.size w := fun m os dk hs x y =>
    have hmx : (sortWorldK encA 3 w g 0 m dk os).heap[mb]? = w.heap[mb]? := sort_other hmb (Ne.symm hgo.2.2)
    cmp54 (sortWorldK encA 3 w g 0 m dk os) Bd db mb x.1 y.1 (q x).1 (q y).1 (q x).2 (q y).2
      (Array.getElem?_eq_some_iff.1 (hmx.trans h.hb)).1 (hcw (Ne.symm hgo.1) h.c1) (hcw (Ne.symm hgo.2.1) h.c2) (fun W' hW => (hq x).1 W' (hW.trans hmx)) (fun W' hW => (hq y).1 W' (hW.trans hmx)) (hcw (hqg x) (hq x).2.1) (hcw (hqg y) (hq y).2.1)
  have hs := AnyQ.slices_SortFunc Try.laysSort 3 Try.isAgg37 Try.sizeOf37 encA (fun _ => rfl) (fun x v hv => by simp [encA] at hv; rcases hv with rfl | rfl | rfl <;> rfl) (cfK fun x => (q x).2) hswo 54 #[.pointer (some ⟨Bd, 0, none⟩)] g 0 cap ks.toArray w
    (enters_of Try.func54 (by kernel_rfl) rfl) hcmp hholds hlt (by rw [hds]; omega)
  rw [hds] at hs
  refine hs.mono ?_
  rintro e w' ⟨rfl, d', n, os, ⟨hp1, -, -⟩, -, rfl⟩
  rw [hds] at hp1
  refine ⟨rfl, d'.toList, _, by simpa using hp1, sort_blk hg, by simp only [putCells, Array.size_mapIdx]; exact hsz, fun i j hi hj => ?_, rfl, rfl, rfl, ?_, fun x hx hxg => sort_other hx hxg⟩
  · have hi2 : i < d'.size := by simpa using hi
    have hlt2 : i * 3 + j < cur.size := by omega
    unfold putCells
    rw [Array.getElem?_mapIdx, Array.getElem?_eq_getElem hlt2]
    simp only [Option.map_some, size_flatK, Nat.zero_le, true_and, Nat.zero_add, Nat.sub_zero, _root_.id]
    rw [if_pos (by omega), get_flatK _ _ _ _ (by omega), show (i * 3 + j) / 3 = i by omega, show (i * 3 + j) % 3 = j by omega, getElem!_pos d' i hi2]
    have : j < (encA d'[i]).length := by simpa [encA] using hj
    simp [this, List.getElem?_eq_getElem]
  · show w.heap.size ≤ ((w.heap.modify g _) ++ os).size
    simp
end Go.Proofs
namespace Go.Proofs
open Go.RowKit Go.Abs Go.Shelf Go.Lib Go.Sort
def KeysIn (base : Nat) (v : Value) (ks : List KQ) (w : World) : Prop :=
  (v = .slice none 0 0 ∧ ks = []) ∨ ∃ g cap cur, v = .slice (some ⟨g, 0, none⟩) ks.length cap ∧ base ≤ g ∧ w.heap[g]? = some (.cells cur 37 (0, 0)) ∧ ks.length ≤ cap ∧ cap ≤ maxLen ∧
    ∀ i j, (hi : i < ks.length) → j < 3 → cur[i * 3 + j]? = [Value.int .i64 ks[i].1, .int .i64 ks[i].2.1, .int .i64 ks[i].2.2][j]?
theorem sortAny {w w1 : World} {Bd db mb clk : Nat} {ms : List MapEntry} {V : View} {es : List GE} (h : CmpW w Bd db mb clk ms V es) (hb : Below w.heap.size w w1) (v : Value) (ks : List (KA ms)) (hlen : ks.length ≤ 1000000) (hrow : w1.ownsRow w.heap.size 37 3 v ks.length (kCells (ks.map (·.1)))) :
    Calls Try.prog 65 #[v, .func (.func 54) #[] #[.pointer (some ⟨Bd, 0, none⟩)]] w1 fun e w' => e = .returned (.tuple #[]) ∧ Below w.heap.size w w' ∧ ∃ ks' : List KQ, ks'.length = ks.length ∧ KeysIn w.heap.size v ks' w' := by
  have hC := h.below hb.block
  by_cases hne : ks = []
  · subst hne
    rcases hrow.2 with ⟨rfl, _⟩ | ⟨g, cap, cur, rfl, hbg, hg, h1, h2, h3, h4⟩
    · refine (AnyF.slices_SortFunc_none { Try.laysSort with } none 0 _ w1).mono ?_
      rintro e w' ⟨rfl, rfl⟩
      exact ⟨rfl, hb, [], rfl, .inl ⟨rfl, rfl⟩⟩
    · refine (AnyF.slices_SortFunc_none { Try.laysSort with } (some ⟨g, 0, none⟩) cap _ w1).mono ?_
      rintro e w' ⟨rfl, rfl⟩
      exact ⟨rfl, hb, [], rfl, .inr ⟨g, cap, cur, rfl, hbg, hg, h1, h2, fun i j hi => absurd hi (by simp)⟩⟩
  · rcases hrow.2 with ⟨_, h0⟩ | ⟨g, cap, cur, rfl, hbg, hg, h1, h2, h3, h4⟩
    · exact (hne (List.eq_nil_of_length_eq_zero h0)).elim
    · have hlo : ∀ {p : Addr} {u : Value}, w.cell? p = some u → g ≠ p.block := fun hp e => by have := cell?_lt hp; omega
      refine (sort65 hC g cap cur ks hne hg ⟨hlo h.c1, hlo h.c2, fun e => by have := (Array.getElem?_eq_some_iff.1 h.hb).1; omega⟩ (fun x hx v hv rb hrb => ?_) hlen (by omega) h4).mono ?_
      · obtain ⟨v2, q1, rb2, lu, q2, q3, _⟩ := h.rcs x hx
        rw [hv] at q1; cases q1
        obtain ⟨val, q4, q5⟩ := lookup_raw Trytg59 h.hb h.hg x.2.1 hv
        have e1 := hrb val q5
        have e2 := q2 val q5
        rw [e1] at e2
        simp at e2
        subst e2
        exact hlo q3
      · rintro e w' ⟨rfl, ks', cur', hl', hg', hs', hc', ho, ht, hou, hsz, hot⟩
        refine ⟨rfl, ⟨ho.trans hb.os, ht.trans hb.tape, hou.trans hb.output, Nat.le_trans hb.size hsz, fun k hk => (hot k (Nat.lt_of_lt_of_le hk hb.size) (by omega)).trans (hb.block k hk)⟩, ks'.map (·.1), by simpa using hl', .inr ⟨g, cap, cur', by simp [hl'], hbg, hg', by simp [hl']; omega, h2, fun i j hi hj => ?_⟩⟩
        have := hc' i j (by simpa using hi) hj
        rw [this]
        simp [encA]
set_option maxRecDepth 100000 in
set_option maxHeartbeats 2000000 in
theorem sorted52 {w : World} {Bm Bd db mb clk : Nat} {ms : List MapEntry} {V : View} {es : List GE} (h : CmpW w Bd db mb clk ms V es) (hBm : w.cell? ⟨Bm, 0, none⟩ = some (.map (some mb))) (hlen : ms.length ≤ 1000000) (hold : ∀ x ∈ ms.toArray.toList, x.born < clk) (hnd : (ms.toArray.toList.map (·.born)).Nodup) :
    Calls Try.prog 52 #[.func (.func 66) #[] #[.pointer (some ⟨Bm, 0, none⟩)], .func (.func 54) #[] #[.pointer (some ⟨Bd, 0, none⟩)]] w fun e w' => ∃ (v : Value) (ks : List KQ), e = .returned v ∧ ks.length ≤ ms.length ∧ Below w.heap.size w w' ∧ KeysIn w.heap.size v ks w' := by
  have e64 := enters_of Try.func64 (by kernel_rfl) rfl
  have e65 := enters_of Try.func65 (by kernel_rfl) rfl
  have hkeys : ∀ e ∈ ms.toArray.toList, ∃ k, e.key = gkey k := fun e he => by
    obtain ⟨y, _, hk⟩ := keyOf_mem h.hg e (by simpa using he)
    exact ⟨_, hk⟩
  have hseq := keys66 Fence.wide 2 trivial rfl (by omega) Bm mb ms.toArray clk w (cell?_lt hBm) hBm h.hb hold hnd hkeys
  have hcol := collect64 66 #[.pointer (some ⟨Bm, 0, none⟩)] (enters_of Try.func66 (by kernel_rfl) rfl) (fun k => ∃ e ∈ ms.toArray.toList, e.key = gkey k) ms.toArray.size (by simpa using hlen) w hseq
  go_enter Try.func52, Try.ntmps52
  go_wp2_with (first
    | (go_at_call 64; refine hcol.mono ?_; rintro e w1 ⟨v, ks, rfl, h1, h2, h3⟩; have hsrt := sortAny h h3 v ks (by simp at h1; omega) h2)
    | (go_at_call 65; refine hsrt.mono ?_; rintro e w2 ⟨rfl, h4, ks', h5, h6⟩))
  go_ret
  exact ⟨v, ks', rfl, by simp at h1; omega, h4, h6⟩
end Go.Proofs
namespace Go.Proofs
open Go.RowKit Go.Abs Go.Shelf Go.Lib Go.Sort
set_option maxRecDepth 100000 in
set_option maxHeartbeats 1000000 in
theorem keys53 (mb : Nat) (W : World) : Calls Try.prog 53 #[.map (some mb)] W fun e w' => e = .returned (.func (.func 66) #[] #[.pointer (some ⟨W.heap.size, 0, none⟩)]) ∧ w' = W.alloc (.cells #[.map (some mb)] 59) := by
  have t59 := Try.underlying59; have a59 := Try.isAgg59; have z59 := Try.sizeOf59; have v59 := Try.zeroValue59
  go_enter Try.func53, Try.ntmps53
  go_wp2
  go_ret
  exact ⟨rfl, rfl⟩
set_option maxRecDepth 100000 in
set_option maxHeartbeats 2000000 in
theorem cached35 {w : World} {db mb clk : Nat} {ms : List MapEntry} {V : View} {es : List GE} (h : ∀ w' Bd, (∀ k, k < w.heap.size → w'.heap[k]? = w.heap[k]?) → w'.cell? ⟨Bd, 0, none⟩ = some (.pointer (some ⟨db, 0, none⟩)) → CmpW w' Bd db mb clk ms V es) (hm : w.cell? ⟨db, 2, none⟩ = some (.map (some mb))) (hlen : ms.length ≤ 1000000) (hold : ∀ x ∈ ms.toArray.toList, x.born < clk) (hnd : (ms.toArray.toList.map (·.born)).Nodup) :
    Calls Try.prog 35 #[.pointer (some ⟨db, 0, none⟩)] w fun e w' => ∃ (v : Value) (ks : List KQ), e = .returned v ∧ ks.length ≤ ms.length ∧ Below w.heap.size w w' ∧ KeysIn w.heap.size v ks w' := by
  have t28 := Try.underlying28; have a28 := Try.isAgg28; have z28 := Try.sizeOf28; have v28 := Try.zeroValue28
  have t59 := Try.underlying59; have a59 := Try.isAgg59; have z59 := Try.sizeOf59; have v59 := Try.zeroValue59
  have t62 := Try.underlying62; have a62 := Try.isAgg62; have z62 := Try.sizeOf62; have v62 := Try.zeroValue62
  have e53 := enters_of Try.func53 (by kernel_rfl) rfl
  have e52 := enters_of Try.func52 (by kernel_rfl) rfl
  obtain ⟨W1, hW1⟩ : ∃ W1, (w.alloc (.cells #[.pointer (some ⟨db, 0, none⟩)] 28)).alloc (.cells #[.map (some mb)] 59) = W1 := ⟨_, rfl⟩
  have hb1 : Below w.heap.size w W1 := by rw [← hW1]; exact ((Below.refl _ w).alloc (Nat.le_refl _) _).alloc (by simp) _
  have hd1 : W1.heap[w.heap.size]? = some (.cells #[.pointer (some ⟨db, 0, none⟩)] 28 (0, 0)) := by rw [← hW1]; exact (Below.heap_alloc _ _ _ (by simp)).trans (World.alloc_heap_new w _)
  have hm1 : W1.heap[w.heap.size + 1]? = some (.cells #[.map (some mb)] 59 (0, 0)) := by
    rw [← hW1]
    have := World.alloc_heap_new (w.alloc (.cells #[.pointer (some ⟨db, 0, none⟩)] 28)) (.cells #[.map (some mb)] 59)
    simpa using this
  have hC := h W1 w.heap.size hb1.block (by simp [World.cell?, hd1])
  have hs := sorted52 (Bm := w.heap.size + 1) hC (by simp [World.cell?, hm1]) hlen hold hnd
  have hdl := cell?_lt hm
  have hm' : (w.alloc (.cells #[.pointer (some ⟨db, 0, none⟩)] 28)).cell? ⟨db, 2, none⟩ = some (.map (some mb)) := (((Below.refl _ w).alloc (Nat.le_refl _) _).cell (p := ⟨db, 2, none⟩) hdl).trans hm
  have hdn : ¬ db = w.heap.size := by have : db < w.heap.size := hdl; omega
  clear hm
  go_enter Try.func35, Try.ntmps35
  go_wp2_with (first
    | (go_at_call 53; refine (keys53 mb _).mono ?_; rintro e w1 ⟨rfl, rfl⟩)
    | (go_at_call 52; refine hs.mono ?_; rintro e w2 ⟨v, ks, rfl, h1, h2, h3⟩))
  go_ret
  have hsz : w.heap.size ≤ W1.heap.size := hb1.size
  refine ⟨v, ks, rfl, h1, hb1.trans (h2.mono hsz), ?_⟩
  rcases h3 with h3 | ⟨g, cap, cur, q1, q2, q3⟩
  · exact .inl h3
  · exact .inr ⟨g, cap, cur, q1, Nat.le_trans hsz q2, q3⟩
end Go.Proofs
namespace Go.Abs
open Go.Proofs Go.Memo Go.RowKit
def Env.fixAll (E : Env) (w' : World) : Env := { E with w := w', κ := fun b => if b < E.w.heap.size then E.κ b else .fixed }
theorem Env.fixAll_view {E : Env} (h : E.Ok) {w' : World} (hb : Below E.w.heap.size E.w w') : E.view.le (E.fixAll w').view := by
  refine ⟨fun a v hc => ?_, fun id hb => hb, fun _ _ => rfl, fun id t' hbn ht => ⟨t', ?_, .inl rfl⟩⟩
  · have hw := Env.cell_stable hc
    have hl := cell?_lt hw
    simp only [Env.view] at hc ⊢
    split at hc
    · rename_i hs
      simp only [Env.fixAll, if_pos hl, hs, if_true]
      rw [cell?_congr (hb.block _ hl)]; exact hc
    · cases hc
  · simp only [Env.view, Env.fixAll] at ht ⊢
    split at ht
    · rename_i n sz hi
      rw [← ht]
      cases htb : E.tb id with
      | none => rfl
      | some b =>
        have := h.bufBlock hi htb
        simp only [Option.bind_some, if_pos this]
    · cases ht
theorem Env.fixAll_le {E : Env} (h : E.Ok) {w' : World} (hb : Below E.w.heap.size E.w w') : E.le (E.fixAll w') :=
  ⟨hb.os, hb.tape, hb.output, hb.size, fun b hl _ => ⟨by simp only [Env.fixAll, if_pos hl], hb.block b hl⟩, Env.fixAll_view h hb, fun b _ => id⟩
theorem Env.Ok.fixAll {E : Env} (h : E.Ok) {w' : World} (hb : Below E.w.heap.size E.w w') : (E.fixAll w').Ok := by
  have hview := Env.fixAll_view h hb
  refine ⟨?_, ?_, h.injr, h.injb, h.globs_of hview.cell fun _ _ _ hi => hi, h.objs.of hview fun id k hi => ⟨hi, rfl, hb.block _ (h.objs.lt hi), by simp only [Env.fixAll, if_pos (h.objs.lt hi)]⟩⟩
  · intro id cs hi
    have hl := h.rowBlock hi
    obtain ⟨arr, elem, h1, h2, h3, h4⟩ := h.rows id cs hi
    exact ⟨arr, elem, (hb.block _ hl).trans h1, h2, fun i hl => (h3 i hl).mono hview, by simp only [Env.fixAll]; rw [if_pos hl]; exact h4⟩
  · intro id n sz b hi hb'
    have hl := h.bufBlock hi hb'
    obtain ⟨arr, elem, pos, h1, h2⟩ := h.bufs id n sz b hi hb'
    exact ⟨arr, elem, pos, (hb.block _ hl).trans h1, by simp only [Env.fixAll]; rw [if_pos hl]; exact h2⟩
theorem acalls_newK {P : Program} {f : FuncId} {args : List PV} {H : Heap} {Q : PV → Prop} (h : ∀ (E : Env) (vargs : Array Value), E.Ok → E.H = H → RL E.view vargs args → Calls P f vargs E.w fun e w' => ∃ v, e = .returned v ∧ Below E.w.heap.size E.w w' ∧ ∃ r, Q r ∧ VRel (E.fixAll w').view v r) : ACalls P f args H fun r' H' => Q r' ∧ H' = H := by
  intro E vargs ho hH hrl
  refine (h E vargs ho hH hrl).mono ?_
  rintro e w' ⟨v, rfl, hb, r, hq, hv⟩
  exact ⟨E.fixAll w', v, r, rfl, rfl, Env.fixAll_le ho hb, ho.fixAll hb, hv, hq, hH⟩
theorem vrel_keys {E : Env} {w' : World} {v : Value} {ks : List KQ} (hk : KeysIn E.w.heap.size v ks w') : VRel (E.fixAll w').view v (.slice (ks.map kE) .none) := by
  rcases hk with ⟨rfl, rfl⟩ | ⟨g, cap, cur, rfl, hg, hc, h1, h2, h3⟩
  · exact .nils _ trivial
  · have hadd : ∀ n, (⟨g, 0, none⟩ : Addr).add n = ⟨g, n, none⟩ := by
      intro n; unfold Addr.add; split
      · rename_i e; subst e; rfl
      · simp
    refine .slice _ _ _ 3 _ _ (fun i j => ([Value.int .i64 (ks.getD i (0, 0, 0)).1, .int .i64 (ks.getD i (0, 0, 0)).2.1, .int .i64 (ks.getD i (0, 0, 0)).2.2]).getD j undef) (by simp) h1 h2 ?_ ?_ ?_ trivial
    · intro i hi
      simp only [List.getElem_map]; rfl
    · intro i j hi hj
      rw [hadd]
      have hgl : ¬ g < E.w.heap.size := by omega
      simp only [Env.view, Env.fixAll, if_neg hgl, Kind.stable, if_true]
      unfold World.cell?
      rw [hc]
      have := h3 i j hi hj
      simp only [Option.isSome_none, Bool.false_eq_true, if_false, this]
      rw [List.getD_eq_getElem?_getD, List.getD_eq_getElem?_getD, List.getElem?_eq_getElem hi, Option.getD_some]
      match j, hj with
      | 0, _ => rfl
      | 1, _ => rfl
      | 2, _ => rfl
    · intro i j hi hj
      simp only [List.getElem_map] at hj ⊢
      have hi' : i < ks.length := by simpa using hi
      rw [List.getD_eq_getElem?_getD (l := ks), List.getElem?_eq_getElem hi', Option.getD_some]
      have hj3 : j < 3 := hj
      match j, hj3 with
      | 0, _ => exact .int _ _
      | 1, _ => exact .int _ _
      | 2, _ => exact .int _ _
theorem nodup_len {α : Type} [BEq α] [LawfulBEq α] : ∀ (l L : List α), l.Nodup → (∀ x ∈ l, x ∈ L) → l.length ≤ L.length
  | [], L, _, _ => Nat.zero_le _
  | x :: l, L, hn, hs => by
    obtain ⟨h1, h2⟩ := List.nodup_cons.1 hn
    have hx := hs x (by simp)
    have := nodup_len l (L.erase x) h2 fun y hy => (List.mem_erase_of_ne (by rintro rfl; exact h1 hy)).2 (hs y (List.mem_cons_of_mem _ hy))
    rw [List.length_erase_of_mem hx] at this
    have := List.length_pos_of_mem hx
    simp only [List.length_cons]; omega
theorem grel_born {V : View} : ∀ {ms : List MapEntry} {es : List GE}, GRel V ms es → ms.map (·.born) = es.map (·.1)
  | [], [], _ => rfl
  | m :: ms, e :: es, h => by simp only [List.map_cons, h.1, grel_born h.2.2.2]
  | [], _ :: _, h => h.elim
  | _ :: _, [], h => h.elim
theorem gfind_mem : ∀ (es : List GE) (x : GE) (j : Nat), (es.map (·.2.1)).Nodup → x ∈ es → ∃ i, gfind es x.2.1 j = some (i, x.1, x.2.2)
  | e :: es, x, j, hn, hx => by
    simp only [List.map_cons, List.nodup_cons] at hn
    rcases List.mem_cons.1 hx with rfl | hx
    · exact ⟨j, by simp [gfind]⟩
    · obtain ⟨i, h⟩ := gfind_mem es x (j + 1) hn.2 hx
      refine ⟨i, ?_⟩
      rw [gfind, if_neg (fun e1 => hn.1 (by rw [← e1]; exact List.mem_map.2 ⟨x, hx, rfl⟩))]
      exact h
theorem cached_c {cx : Cx} (loc : QK → Nat) (act : List QK) (st : St) (b : Bool) (G : FPl) (H : Heap) (hclk : st.clk < 4611686018427387904) (hfin : ∃ Ks : List QK, Ks.length ≤ 1000000 ∧ ∀ k r, st.res k = some r → k ∈ Ks) (hW : WR cx loc act st b G H) :
    ACalls Try.prog 35 [.optr cx.ix.d 0] H fun r' H' => (∃ ks : List QK, r' = .slice (ks.map kE) .none ∧ ks.length ≤ 1000000) ∧ H' = H := by
  obtain ⟨F, D, _⟩ := hW
  obtain ⟨clock, hd⟩ := D.db
  obtain ⟨es, clk, hm, hgn, hgg⟩ := D.res
  refine acalls_newK fun E vargs ho hH hrl => ?_
  subst hH
  have hv : vargs = #[.pointer (some ⟨E.ρ cx.ix.d, 0, none⟩)] := by
    obtain ⟨hs, hv⟩ := hrl
    have v0 : VRel E.view (vargs.getD 0 undef) (.optr cx.ix.d 0) := hv 0 (by simp)
    have e0 : vargs.getD 0 undef = .pointer (some ⟨E.ρ cx.ix.d, 0, none⟩) := v0.optr_inv.1
    refine Array.ext (by simpa using hs) fun i hi hi' => ?_
    obtain rfl : i = 0 := by simp at hi'; omega
    simpa [Array.getD, hs] using e0
  subst hv
  obtain ⟨arr, elem, r1, r2, r3, r4⟩ := ho.rows cx.ix.d _ hd
  have hc2 : E.w.cell? ⟨E.ρ cx.ix.d, 2, none⟩ = some (.map (some (E.ρ cx.ix.m))) := by
    have ha : 2 < arr.size := by simp at r2; omega
    rw [cell_row r1, Array.getElem?_eq_getElem ha]
    have h2 := r3 2 (by simp)
    rw [Array.getD_eq_getD_getElem?, Array.getElem?_eq_getElem ha, Option.getD_some] at h2
    have h2 : VRel E.view arr[2] (.mapp cx.ix.m) := h2
    generalize arr[2] = q at h2
    cases h2; rfl
  obtain ⟨⟨o, b1, b2⟩, _⟩ := ho.objs.at_ cx.ix.m _ hm
  obtain ⟨ms, rfl, hgr, hgo⟩ := b2
  have hkn : (es.map (·.2.1)).Nodup := hgn
  obtain ⟨Ks, hKl, hK⟩ := hfin
  have hget : ∀ x ∈ es, gget es x.2.1 = some x.2.2 := fun x hx => by
    obtain ⟨i, h⟩ := gfind_mem es x 0 hkn hx
    unfold gget; rw [h]; rfl
  have hlen : ms.length ≤ 1000000 := by
    rw [GRel.length hgr, ← List.length_map (f := (·.2.1))]
    refine Nat.le_trans (nodup_len _ Ks hkn fun k hk => ?_) hKl
    obtain ⟨x, hx, rfl⟩ := List.mem_map.1 hk
    have h1 := hgg x.2.1
    rw [hget x hx] at h1
    cases hr : st.res x.2.1 with
    | none => rw [hr] at h1; cases h1
    | some r => exact hK _ r hr
  have hbl := ho.rowBlock hd
  have hbm := (Array.getElem?_eq_some_iff.1 b1).1
  refine (cached35 (V := E.view) (es := es) (ms := ms) (mb := E.ρ cx.ix.m) (clk := clk) (fun w' Bd hw hB => ?_) hc2 hlen ?_ ?_).mono ?_
  · have hcw : ∀ {p : Addr} {v : Value}, E.w.cell? p = some v → w'.cell? p = some v := fun {p v} hp => by
      have := hw p.block (cell?_lt hp)
      unfold World.cell? at hp ⊢
      rw [this]; exact hp
    refine ⟨hB, hcw hc2, (hw _ hbm).trans b1, hgr, fun x hx => ?_⟩
    have h1 := hgg x.2.1
    rw [hget x hx] at h1
    cases hr : st.res x.2.1 with
    | none => rw [hr] at h1; cases h1
    | some r =>
      rw [hr] at h1
      injection h1 with h1
      obtain ⟨⟨tl, lu, hrow⟩, _⟩ := D.recs _ r hr
      obtain ⟨m, hm1, hm2⟩ := D.lus _ r tl lu hr hrow
      refine ⟨x.2.2, hget x hx, E.ρ (loc x.2.1), lu, fun u hu => ?_, hcw ?_, ?_⟩
      · rw [h1] at hu
        exact hu.optr_inv.1
      · obtain ⟨arr2, elem2, s1, s2, s3, s4⟩ := ho.rows _ _ hrow
        have ha : 6 < arr2.size := by simp [recC] at s2; omega
        rw [cell_row s1, Array.getElem?_eq_getElem ha]
        have h2 := s3 6 (by simp [recC])
        rw [Array.getD_eq_getD_getElem?, Array.getElem?_eq_getElem ha, Option.getD_some] at h2
        have h2 : VRel E.view arr2[6] (.int .i64 lu) := h2
        rw [h2.int_inv]
      · rw [hm2]; unfold Memo.wrap64; omega
  · intro x hx
    have hx : x ∈ ms := by simpa using hx
    have : x.born ∈ es.map (·.1) := by rw [← grel_born hgr]; exact List.mem_map.2 ⟨x, hx, rfl⟩
    obtain ⟨y, hy, e⟩ := List.mem_map.1 this
    rw [← e]; exact hgo.lt y hy
  · have : ms.toArray.toList.map (·.born) = es.map (·.1) := by rw [← grel_born hgr]
    rw [this]
    exact hgo.born.imp fun h => Nat.ne_of_lt h
  · rintro e w' ⟨v, ks, rfl, h1, h2, h3⟩
    exact ⟨v, rfl, h2, _, ⟨ks, rfl, by omega⟩, vrel_keys h3⟩
end Go.Abs
set_option maxRecDepth 4000
set_option maxHeartbeats 1000000
namespace Go.Abs
open Go.Proofs Go.Memo
theorem trim_c {cx : Cx} (hx : CxOk cx) (cap : Nat) (hcap : cap ≤ 1000) (loc : QK → Nat) (act : List QK) (st : St) (b : Bool) (G : FPl) (H : Heap) (hclk : st.clk < 4611686018427387904) (hfin : ∃ Ks : List QK, Ks.length ≤ 1000000 ∧ ∀ k r, st.res k = some r → k ∈ Ks) (hW : WR cx loc act st b G H) :
    ACalls Try.prog 16 [.optr cx.ix.d 0, vint (cap : Int)] H (fun r H' => ∃ (f : QK → Option Rec) (n : Int), r = vint n ∧ (∀ q r, f q = some r → st.res q = some r) ∧ WR cx loc act { st with res := f } b G H' ∧ FrS G G H H') := by
  have gc0 : max (cap : Int) 0 = (cap : Int) := by omega
  refine acalls_of (N := 33) Try.func16 rfl rfl (by simp) fun hb' => ?_
  repeat (refine awp_seq ?_)
  refine e_eval (by simp only [jA, jO, jN, seval, vint, ksE_cells, kE_cells, ksE_drop1, kE_drop1, kE] <;> with_reducible rfl) (by decide) ?_
  repeat (refine awp_seq ?_)
  refine e_eval (by simp only [jA, jO, jN, seval, y28, vint, ksE_cells, kE_cells, ksE_drop1, kE_drop1, kE] <;> with_reducible rfl) (by decide) ?_
  repeat (refine awp_seq ?_)
  refine awp_cond_false rfl (by simp only [jN, seval, vint, ksE_cells, kE_cells, ksE_drop1, kE_drop1, kE] <;> with_reducible rfl) ?_
  repeat (refine awp_seq ?_)
  refine awp_skip ?_
  repeat (refine awp_seq ?_)
  refine awp_region ?_
  refine e_take 1 (by simp only [jA, jO, jN, seval, vint, ksE_cells, kE_cells, ksE_drop1, kE_drop1, kE] <;> with_reducible rfl) (by decide) ?_
  refine aops_acall (by simp only [jC, jN, seval, vint, ksE_cells, kE_cells, ksE_drop1, kE_drop1, kE] <;> with_reducible rfl) (by simp only [jC, jN, seval, vint, ksE_cells, kE_cells, ksE_drop1, kE_drop1, kE]) (by decide) Trygo35 (cached_c loc act st b G H hclk hfin hW) ?_
  rintro _ H8 ⟨⟨ks, rfl, hks⟩, hHe⟩
  rw [hHe]
  obtain ⟨m, hm⟩ : ∃ m, m = ks.length - cap := ⟨_, rfl⟩
  have gw : IntKind.i64.wrap ((ks.length : Int) - (cap : Int)) = (ks.length : Int) - (cap : Int) := wrap_id (by omega) (by omega)
  have gm : max 0 ((ks.length : Int) - (cap : Int)) = (m : Int) := by omega
  have gml : m ≤ ks.length := by omega
  obtain ⟨vs, hvs⟩ : ∃ vs, vs = ks.take m := ⟨_, rfl⟩
  have hk3 : (∀ e ∈ ks.map kE, e.cells.length = 3) = True := eq_true fun e he => by obtain ⟨k, _, rfl⟩ := List.mem_map.1 he; rfl
  have gb : (0 ≤ (m : Int) ∧ (m : Int) ≤ (ks.length : Int)) = True := by simp; omega
  have htk : List.take m (List.map kE ks) = List.map kE vs := by rw [hvs, List.map_take]
  have hvl : vs.length ≤ 1000000 := by rw [hvs, List.length_take]; omega
  refine e_end (by simp only [jA, jO, jN, seval, vint, ksE_cells, kE_cells, ksE_drop1, kE_drop1, kE, gc0, gw, gm, hk3, gb, htk, and_false, if_false, ite_self, Option.isNone_some, Bool.false_eq_true, false_and] <;> with_reducible rfl) (by decide) ?_
  repeat (refine awp_seq ?_)
  refine e_eval (by simp only [jA, jO, jN, seval, y3, y37, y82, vint, ksE_cells, kE_cells, ksE_drop1, kE_drop1, kE, gc0, gw, gm, hk3, gb, htk, and_false, if_false, ite_self, Option.isNone_some, Bool.false_eq_true, false_and] <;> with_reducible rfl) (by decide) ?_
  refine awp_sel [0, 6] (by simp only [jN, seval, vint, ksE_cells, kE_cells, ksE_drop1, kE_drop1, kE, gc0, gw, gm, hk3, gb, htk, and_false, if_false, ite_self, Option.isNone_some, Bool.false_eq_true, false_and] <;> with_reducible rfl) ?_
  repeat (refine awp_seq ?_)
  refine e_eval (by simp only [jA, jO, jN, seval, y37, y82, vint, ksE_cells, kE_cells, ksE_drop1, kE_drop1, kE, gc0, gw, gm, hk3, gb, htk, and_false, if_false, ite_self, Option.isNone_some, Bool.false_eq_true, false_and] <;> with_reducible rfl) (by decide) ?_
  repeat (refine awp_seq ?_)
  refine awp_block ?_
  refine awp_loopX (σ := Nat × (QK → Option Rec)) (fun (z : Nat × (QK → Option Rec)) => [(0, .optr cx.ix.d 0), (6, .slice (vs.map kE) .none), (21, .slice (vs.map kE) .none), (22, vint (vs.length : Int)), (23, vint (z.1 : Int))]) (fun (z : Nat × (QK → Option Rec)) =>  fun H2 => z.1 ≤ vs.length ∧ (∀ q r, z.2 q = some r → st.res q = some r) ∧ WR cx loc act { st with res := z.2 } b G H2 ∧ FrS G G H H2) (fun (z : Nat × (QK → Option Rec)) => vs.length - z.1) ((0, st.res)) ⟨(by first | rfl | (simp only [jN, seval, vint, ksE_cells, kE_cells, ksE_drop1, kE_drop1, kE, gc0, gw, gm, hk3, gb, htk, and_false, if_false, ite_self, Option.isNone_some, Bool.false_eq_true, false_and] <;> first | done | with_reducible rfl)), (by first | rfl | (simp only [jN, seval, vint, ksE_cells, kE_cells, ksE_drop1, kE_drop1, kE, gc0, gw, gm, hk3, gb, htk, and_false, if_false, ite_self, Option.isNone_some, Bool.false_eq_true, false_and] <;> first | done | with_reducible rfl)), (by first | rfl | (simp only [jN, seval, vint, ksE_cells, kE_cells, ksE_drop1, kE_drop1, kE, gc0, gw, gm, hk3, gb, htk, and_false, if_false, ite_self, Option.isNone_some, Bool.false_eq_true, false_and] <;> first | done | with_reducible rfl)), (by first | rfl | (simp only [jN, seval, vint, ksE_cells, kE_cells, ksE_drop1, kE_drop1, kE, gc0, gw, gm, hk3, gb, htk, and_false, if_false, ite_self, Option.isNone_some, Bool.false_eq_true, false_and] <;> first | done | with_reducible rfl)), (by first | rfl | (simp only [jN, seval, vint, ksE_cells, kE_cells, ksE_drop1, kE_drop1, kE, gc0, gw, gm, hk3, gb, htk, and_false, if_false, ite_self, Option.isNone_some, Bool.false_eq_true, false_and] <;> first | done | with_reducible rfl)), trivial⟩ (⟨Nat.zero_le _, fun _ _ h => h, hW, .refl _ _⟩) ?_
  intro z H2 hg
  obtain ⟨i, f⟩ := z
  obtain ⟨hi, hf, wf, ff⟩ := hg
  simp only at hi hf wf
  have gj : IntKind.i64.wrap ((i : Int) + 1) = ((i + 1 : Nat) : Int) := by rw [wrap_id (by omega) (by omega)]; omega
  have gl : decide ((i : Int) < (vs.length : Int)) = decide (i < vs.length) := by rw [decide_eq_decide]; omega
  repeat (refine awp_seq ?_)
  refine e_eval (by simp only [jA, jO, jN, seval, y3, vint, ksE_cells, kE_cells, ksE_drop1, kE_drop1, kE, gc0, gw, gm, hk3, gb, htk, and_false, if_false, ite_self, Option.isNone_some, Bool.false_eq_true, false_and, gj, gl] <;> with_reducible rfl) (by decide) ?_
  repeat (refine awp_seq ?_)
  refine awp_cond rfl (by simp only [jN, seval, vint, ksE_cells, kE_cells, ksE_drop1, kE_drop1, kE, gc0, gw, gm, hk3, gb, htk, and_false, if_false, ite_self, Option.isNone_some, Bool.false_eq_true, false_and, gj, gl] <;> with_reducible rfl) (fun bt24 => ?_) (fun bt24 => ?_)
  ·
    have hlt : i < vs.length := of_decide_eq_true bt24
    have gi := ix_nat hlt
    have ge := get_enc kE hlt
    obtain ⟨k, hk⟩ : ∃ k, k = vs[i] := ⟨_, rfl⟩
    rw [← hk] at ge
    obtain ⟨k1, k2, k3⟩ := k
    repeat (refine awp_seq ?_)
    refine awp_skip ?_
    repeat (refine awp_seq ?_)
    refine awp_block ?_
    repeat (refine awp_seq ?_)
    refine e_eval (by simp only [jA, jO, jN, seval, y37, y82, vint, ksE_cells, kE_cells, ksE_drop1, kE_drop1, kE, gc0, gw, gm, hk3, gb, htk, and_false, if_false, ite_self, Option.isNone_some, Bool.false_eq_true, false_and, gj, gl, gi, ge, Int.toNat_natCast] <;> with_reducible rfl) (by decide) ?_
    repeat (refine awp_seq ?_)
    refine awp_region ?_
    refine e_take 2 (by simp only [jA, jO, jN, seval, y37, vint, ksE_cells, kE_cells, ksE_drop1, kE_drop1, kE, gc0, gw, gm, hk3, gb, htk, and_false, if_false, ite_self, Option.isNone_some, Bool.false_eq_true, false_and, gj, gl] <;> with_reducible rfl) (by decide) ?_
    refine aops_acall (by simp only [jC, jN, seval, vint, ksE_cells, kE_cells, ksE_drop1, kE_drop1, kE, gc0, gw, gm, hk3, gb, htk, and_false, if_false, ite_self, Option.isNone_some, Bool.false_eq_true, false_and, gj, gl] <;> with_reducible rfl) (by simp only [jC, jN, seval, vint, ksE_cells, kE_cells, ksE_drop1, kE_drop1, kE, gc0, gw, gm, hk3, gb, htk, and_false, if_false, ite_self, Option.isNone_some, Bool.false_eq_true, false_and, gj, gl]) (by decide) Trygo36 (forget_c hx (k1, k2, k3) loc act { st with res := f } b G _ (wf.app hx _)) ?_
    rintro _ HF ⟨bb, rfl, wg, fg⟩
    refine aops_nil ?_
    repeat (refine awp_seq ?_)
    refine e_eval (by simp only [jA, jO, jN, seval, y3, vint, ksE_cells, kE_cells, ksE_drop1, kE_drop1, kE, gc0, gw, gm, hk3, gb, htk, and_false, if_false, ite_self, Option.isNone_some, Bool.false_eq_true, false_and, gj, gl] <;> with_reducible rfl) (by decide) ?_
    try simp only [thenQ, blockQ]
    exact ⟨(i + 1, setF f (k1, k2, k3) none), by show _ < _; omega, (by repeat (first | exact trivial | refine ⟨rfl, ?_⟩)), by omega, fun q r hq => hf q r (by simp only [setF] at hq; split at hq <;> first | cases hq | exact hq), wg, ff.trans fg.of_app⟩
  ·
    have hge := of_decide_eq_false bt24
    repeat (refine awp_seq ?_)
    refine awp_exit ?_
    simp only [thenQ, blockQ, reduceIte, Nat.reduceEqDiff, Nat.succ_ne_self, if_true, if_false]
    repeat (refine awp_seq ?_)
    refine e_eval (by simp only [jA, jO, jN, seval, y37, y82, vint, ksE_cells, kE_cells, ksE_drop1, kE_drop1, kE, gc0, gw, gm, hk3, gb, htk, and_false, if_false, ite_self, Option.isNone_some, Bool.false_eq_true, false_and, gj, gl] <;> with_reducible rfl) (by decide) ?_
    repeat (refine awp_seq ?_)
    refine awp_ret ⟨.inr rfl, _, rfl, ?_⟩
    exact ⟨f, _, rfl, hf, wf, ff⟩
end Go.Abs
namespace Go.Abs
open Go.Proofs Go.Memo
def exQ : List (List QK) := [[(2, 0, 0), (1, 2, 0), (8, 0, 0)]]
theorem exV : chkP 1 exQ = 0 := by decide
theorem exP : ValP 1 exQ := (valP_of exV).1
theorem exK : (1, 0, 0) ∈ KsQ exQ.length := ksQ_mem.2 ⟨rfl, rfl, by decide, by decide⟩
theorem exSem {i : QK → QV} (h : hdv (i (0, 0, 0)) = 21) : sem (cpQ exQ) rkQ i (1, 0, 0) = ⟨[42], []⟩ := by
  rw [sem_q (rankQ exP) i (by decide)]
  have h1 : cpQ exQ (1, 0, 0) = progQ 0 [(2, 0, 0), (1, 2, 0), (8, 0, 0)] [] := by unfold cpQ; rw [if_pos (by decide)]; rfl
  rw [h1]
  simp only [progQ, Prog.den, opKey, keyD, sem_in, h, List.nil_append, Int.reduceEq, or_false, false_or, if_false, if_true, reduceIte, Option.isSome_some, false_and, reduceCtorEq, Option.isSome_none, Bool.false_eq_true, or_self]
  rfl
theorem exC (H : Heap) : ACalls Try.prog 7 [.agg [.int .i64 1, .slice [.slice [.agg [.int .i64 2, .int .i64 0, .int .i64 0], .agg [.int .i64 1, .int .i64 2, .int .i64 0], .agg [.int .i64 8, .int .i64 0, .int .i64 0]] .none] .none]] H (fun r H' => r = cfQ H.length ∧ H' = H ++ [.row [vint 1, .slice (exQ.map ksE) .none], .row [.bool true], .row (rowQ exQ exQ.length), .row [.msl (H.length + 2) 0 exQ.length exQ.length]]) := compile_c 1 exQ exV H
theorem exSet {G : FPl} {H : Heap} (wB : WR (cxQ exQ 1 5) (fun _ => 0) [] St.new false G H) : ACalls Try.prog 9 [.optr 9 0, .agg [.int .i64 0, .int .i64 0, .int .i64 0], .agg [.slice [.int .i64 21] .none, .str []], .int .i64 0] H (fun r H' => r = .int .i64 0 ∧ WR (cxQ exQ 1 5) (fun _ => 0) [] (setI (0, 0, 0) ⟨[21], []⟩ 0 St.new) false G H' ∧ FrS G G H H') :=
  set_c (cxQ_ok exP 1 5) (0, 0, 0) rfl ⟨[21], []⟩ 0 (by decide) (by show 1 ≤ lim; unfold lim; omega) _ [] St.new false _ H (fun q => Nat.zero_le _) (by decide) wB
theorem exGet {G : FPl} {H : Heap} (wC : WR (cxQ exQ 1 5) (fun _ => 0) [] (setI (0, 0, 0) ⟨[21], []⟩ 0 St.new) false G H) : ACalls Try.prog 17 [.optr 9 0, .agg [.int .i64 1, .int .i64 0, .int .i64 0]] H (fun r H' => r = .tup [.agg [.slice [.int .i64 42] .none, .str []], .int .i64 0]) := by
  have lC := (Ls.new exQ 1).set (a := 0) (by decide) (b := 21) (by decide) (d := 0) (by decide)
  obtain ⟨rec, st', hu, lD, hv, hl⟩ := lC.got exP exK
  rw [exSem (by show hdv (((setI (0, ((0 : Nat) : Int), 0) ⟨[21], []⟩ 0 St.new).cell (0, 0, 0)).val) = 21; rw [lC.cells (0, 0, 0) rfl]; rfl)] at hv
  refine (get_c (cxQ_ok exP 1 5) 41 (1, 0, 0) (by decide) _ _ _ H (some rec) st' hu (fun r' e => by injection e with e; subst e; exact hl) wC).mono ?_
  rintro _ H' ⟨loc', G', rfl, w, f⟩
  rw [show ansV (some rec) = qvE ⟨[42], []⟩ from by rw [← hv]; rfl]
  rfl
theorem exE : PC Try.prog 19 [.slice [.int .i64 42] .none, .slice [.int .i64 42] .none] (.bool true) := equalR [42] [42] (by decide)
theorem example_c : PC Try.prog 4 [] (.bool true) := by
  refine pc_of (N := 35) Try.func4 rfl rfl (by simp) (by simp) (.bool _) ?_
  repeat (refine awp_seq ?_)
  refine e_eval (by simp only [jA, jO, jN, seval, vint, ksE_cells, kE_cells, ksE_drop1, kE_drop1, cfF, kE, qvE, ansE] <;> with_reducible rfl) (by decide) ?_
  repeat (refine awp_seq ?_)
  refine e_eval (by simp only [jA, jO, jN, seval, y22, y24, y52, y53, vint, ksE_cells, kE_cells, ksE_drop1, kE_drop1, cfF, kE, qvE, ansE] <;> with_reducible rfl) (by decide) ?_
  repeat (refine awp_seq ?_)
  refine awp_region ?_
  refine e_take 1 (by simp only [jA, jO, jN, seval, y24, vint, ksE_cells, kE_cells, ksE_drop1, kE_drop1, cfF, kE, qvE, ansE] <;> with_reducible rfl) (by decide) ?_
  refine aops_acall (by simp only [jC, jN, seval, vint, ksE_cells, kE_cells, ksE_drop1, kE_drop1, cfF, kE, qvE, ansE] <;> with_reducible rfl) (by simp only [jC, jN, seval, vint, ksE_cells, kE_cells, ksE_drop1, kE_drop1, cfF, kE, qvE, ansE]) (by decide) Trygo7 (exC _) ?_
  rintro r HA ⟨hr, hA⟩
  obtain rfl : r = cfQ 1 := hr
  refine aops_acall (by simp only [jC, jN, seval, vint, ksE_cells, kE_cells, ksE_drop1, kE_drop1, cfF, kE, qvE, ansE] <;> with_reducible rfl) (by simp only [jC, jN, seval, vint, ksE_cells, kE_cells, ksE_drop1, kE_drop1, cfF, kE, qvE, ansE]) (by decide) Trygo6 (memNewQ 1 HA) ?_
  rintro r HB ⟨hr, hB⟩
  have hlA : HA.length = 5 := by rw [hA]; rfl
  rw [hlA] at hr
  subst hr
  have heA : EnvAt exQ 1 HB := by rw [hB, hA]; exact (env_new 1 exQ [_]).app _
  have hdB : DbAt 1 5 HB := by rw [hB]; have := db_new 1 HA; rw [hlA] at this; rw [hlA]; exact this
  have wB := wr_new heA hdB (Nat.le_refl _)
  clear hB heA hdB
  refine e_end (by simp only [jA, jO, jN, seval, vint, ksE_cells, kE_cells, ksE_drop1, kE_drop1, cfF, kE, qvE, ansE] <;> with_reducible rfl) (by decide) ?_
  repeat (refine awp_seq ?_)
  refine e_eval (by simp only [jA, jO, jN, seval, y28, vint, ksE_cells, kE_cells, ksE_drop1, kE_drop1, cfF, kE, qvE, ansE] <;> with_reducible rfl) (by decide) ?_
  repeat (refine awp_seq ?_)
  refine awp_cond_false rfl (by simp only [jN, seval, vint, ksE_cells, kE_cells, ksE_drop1, kE_drop1, cfF, kE, qvE, ansE] <;> with_reducible rfl) ?_
  repeat (refine awp_seq ?_)
  refine awp_skip ?_
  repeat (refine awp_seq ?_)
  refine awp_region ?_
  refine e_take 4 (by simp only [jA, jO, jN, seval, y3, y32, y37, y41, vint, ksE_cells, kE_cells, ksE_drop1, kE_drop1, cfF, kE, qvE, ansE] <;> with_reducible rfl) (by decide) ?_
  refine aops_acall (by simp only [jC, jN, seval, vint, ksE_cells, kE_cells, ksE_drop1, kE_drop1, cfF, kE, qvE, ansE] <;> with_reducible rfl) (by simp only [jC, jN, seval, vint, ksE_cells, kE_cells, ksE_drop1, kE_drop1, cfF, kE, qvE, ansE]) (by decide) Trygo9 (exSet wB) ?_
  rintro _ HC ⟨rfl, wC, fC⟩
  refine aops_nil ?_
  refine awp_sel [2] (by simp only [jN, seval, vint, ksE_cells, kE_cells, ksE_drop1, kE_drop1, cfF, kE, qvE, ansE] <;> with_reducible rfl) ?_
  repeat (refine awp_seq ?_)
  refine awp_region ?_
  refine e_take 2 (by simp only [jA, jO, jN, seval, y37, vint, ksE_cells, kE_cells, ksE_drop1, kE_drop1, cfF, kE, qvE, ansE] <;> with_reducible rfl) (by decide) ?_
  refine aops_acall (by simp only [jC, jN, seval, vint, ksE_cells, kE_cells, ksE_drop1, kE_drop1, cfF, kE, qvE, ansE] <;> with_reducible rfl) (by simp only [jC, jN, seval, vint, ksE_cells, kE_cells, ksE_drop1, kE_drop1, cfF, kE, qvE, ansE]) (by decide) Trygo17 (exGet wC) ?_
  rintro _ HD rfl
  refine e_end (by simp only [jA, jO, jN, seval, y41, vint, ksE_cells, kE_cells, ksE_drop1, kE_drop1, cfF, kE, qvE, ansE] <;> with_reducible rfl) (by decide) ?_
  repeat (refine awp_seq ?_)
  refine awp_region ?_
  refine aops_gstart ?_
  refine g_take 6 (by simp only [jG, jO, jN, seval, y3, y32, y38, y41, vint, ksE_cells, kE_cells, ksE_drop1, kE_drop1, cfF, kE, qvE, ansE] <;> with_reducible rfl) (by decide) ?_
  refine aops_gpure (by simp only [jE, jN, seval, vint, ksE_cells, kE_cells, ksE_drop1, kE_drop1, cfF, kE, qvE, ansE] <;> with_reducible rfl) (by simp only [jE, jN, seval, vint, ksE_cells, kE_cells, ksE_drop1, kE_drop1, cfF, kE, qvE, ansE] <;> with_reducible rfl) (by simp only [jE, jN, seval, vint, ksE_cells, kE_cells, ksE_drop1, kE_drop1, cfF, kE, qvE, ansE]) (by decide) Trygo19 (fun hc => exE _) ?_
  refine g_end (by simp only [jG, jO, jN, seval, vint, ksE_cells, kE_cells, ksE_drop1, kE_drop1, cfF, kE, qvE, ansE] <;> with_reducible rfl) (by decide) (by repeat (first | exact Fin.base _ | with_reducible apply Fin.keep | apply Fin.drop)) ?_
  repeat (refine awp_seq ?_)
  refine awp_ret ⟨.inr rfl, _, rfl, ?_⟩
  simp only [jN, seval, vint, ksE_cells, kE_cells, ksE_drop1, kE_drop1, cfF]
end Go.Abs
namespace Go.Abs
open Go.Proofs Go.Memo
def bxQ (inp : Int) (qs : List (List QK)) : AObj := .row [vint inp, .slice (qs.map ksE) .none]
structure A5 (inp : Int) (qs : List (List QK)) (k : Nat) (al : Bool) (b1 n1 b2 n2 q : Nat) (H : Heap) : Prop where
  bx : H[0]? = some (bxQ inp qs)
  e1 : 1 ≤ k → 1 ≤ b1 ∧ b1 + 4 ≤ H.length ∧ EnvAt qs b1 H
  d1 : 2 ≤ k → b1 + 4 ≤ n1 ∧ n1 + 5 ≤ H.length ∧ DbAt b1 n1 H
  e2 : 3 ≤ k → n1 + 5 ≤ b2 ∧ b2 + 4 ≤ H.length ∧ EnvAt qs b2 H
  d2 : 4 ≤ k → b2 + 4 ≤ n2 ∧ n2 + 5 ≤ H.length ∧ DbAt b2 n2 H
  qa : al = true → 1 ≤ q ∧ H[q]? = some (.row [.nilp]) ∧ (1 ≤ k → q < b1 ∨ b1 + 4 ≤ q) ∧ (2 ≤ k → q < n1 ∨ n1 + 5 ≤ q) ∧ (3 ≤ k → q < b2 ∨ b2 + 4 ≤ q) ∧ (4 ≤ k → q < n2 ∨ n2 + 5 ≤ q)
section
variable {inp : Int} {qs : List (List QK)} {k : Nat} {al : Bool} {b1 n1 b2 n2 q : Nat} {H : Heap}
theorem A5.ln (h : A5 inp qs k al b1 n1 b2 n2 q H) : 1 ≤ H.length := len_of_get h.bx
theorem A5.app (h : A5 inp qs k al b1 n1 b2 n2 q H) (L : Heap) : A5 inp qs k al b1 n1 b2 n2 q (H ++ L) :=
  ⟨getL h.bx L, fun hk => ⟨(h.e1 hk).1, by have := (h.e1 hk).2.1; simp; omega, (h.e1 hk).2.2.app L⟩, fun hk => ⟨(h.d1 hk).1, by have := (h.d1 hk).2.1; simp; omega, (h.d1 hk).2.2.app L⟩,
   fun hk => ⟨(h.e2 hk).1, by have := (h.e2 hk).2.1; simp; omega, (h.e2 hk).2.2.app L⟩, fun hk => ⟨(h.d2 hk).1, by have := (h.d2 hk).2.1; simp; omega, (h.d2 hk).2.2.app L⟩,
   fun ha => ⟨(h.qa ha).1, getL (h.qa ha).2.1 L, (h.qa ha).2.2⟩⟩
abbrev LC (inp : Int) (qs : List (List QK)) (H : Heap) : Heap := [.row [vint inp, .slice (qs.map ksE) .none], .row [.bool true], .row (rowQ qs qs.length), .row [.msl (H.length + 2) 0 qs.length qs.length]]
abbrev LN (b : Nat) (H : Heap) : Heap := [.obj (.mapg [] 0), stRow 0 0 0 0 H.length, .obj (.mapg [] 0), .obj (.mapg [] 0), .row [cfQ b, .optr (H.length + 1) 0, .mapp (H.length + 2), .mapp (H.length + 3), .nilfn, vint 0, vint 0]]
theorem A5.c1 (h : A5 inp qs 0 al b1 n1 b2 n2 q H) : A5 inp qs 1 al H.length n1 b2 n2 q (H ++ LC inp qs H) :=
  ⟨(h.app _).bx, fun _ => ⟨h.ln, by simp, env_new inp qs H⟩, fun hk => by omega, fun hk => by omega, fun hk => by omega,
   fun ha => ⟨(h.qa ha).1, getL (h.qa ha).2.1 _, fun _ => .inl (len_of_get (h.qa ha).2.1), fun hk => by omega, fun hk => by omega, fun hk => by omega⟩⟩
theorem A5.c2 (h : A5 inp qs 1 al b1 n1 b2 n2 q H) : A5 inp qs 2 al b1 H.length b2 n2 q (H ++ LN b1 H) :=
  ⟨(h.app _).bx, fun _ => (h.app _).e1 (by omega), fun _ => ⟨(h.e1 (by omega)).2.1, by simp, db_new b1 H⟩, fun hk => by omega, fun hk => by omega,
   fun ha => ⟨(h.qa ha).1, getL (h.qa ha).2.1 _, fun _ => (h.qa ha).2.2.1 (by omega), fun _ => .inl (len_of_get (h.qa ha).2.1), fun hk => by omega, fun hk => by omega⟩⟩
theorem A5.c3 (h : A5 inp qs 2 al b1 n1 b2 n2 q H) : A5 inp qs 3 al b1 n1 H.length n2 q (H ++ LC inp qs H) :=
  ⟨(h.app _).bx, fun _ => (h.app _).e1 (by omega), fun _ => (h.app _).d1 (by omega), fun _ => ⟨(h.d1 (by omega)).2.1, by simp, env_new inp qs H⟩, fun hk => by omega,
   fun ha => ⟨(h.qa ha).1, getL (h.qa ha).2.1 _, fun _ => (h.qa ha).2.2.1 (by omega), fun _ => (h.qa ha).2.2.2.1 (by omega), fun _ => .inl (len_of_get (h.qa ha).2.1), fun hk => by omega⟩⟩
theorem A5.c4 (h : A5 inp qs 3 al b1 n1 b2 n2 q H) : A5 inp qs 4 al b1 n1 b2 H.length q (H ++ LN b2 H) :=
  ⟨(h.app _).bx, fun _ => (h.app _).e1 (by omega), fun _ => (h.app _).d1 (by omega), fun _ => (h.app _).e2 (by omega), fun _ => ⟨(h.e2 (by omega)).2.1, by simp, db_new b2 H⟩,
   fun ha => ⟨(h.qa ha).1, getL (h.qa ha).2.1 _, fun _ => (h.qa ha).2.2.1 (by omega), fun _ => (h.qa ha).2.2.2.1 (by omega), fun _ => (h.qa ha).2.2.2.2.1 (by omega), fun _ => .inl (len_of_get (h.qa ha).2.1)⟩⟩
theorem A5.qal (h : A5 inp qs k false b1 n1 b2 n2 q H) : A5 inp qs k true b1 n1 b2 n2 H.length (H ++ [.row [.nilp]]) :=
  ⟨(h.app _).bx, (h.app _).e1, (h.app _).d1, (h.app _).e2, (h.app _).d2, fun _ => ⟨h.ln, by simp, fun hk => .inr (h.e1 hk).2.1, fun hk => .inr (h.d1 hk).2.1, fun hk => .inr (h.e2 hk).2.1, fun hk => .inr (h.d2 hk).2.1⟩⟩
theorem A5.ini : A5 inp qs 0 false b1 n1 b2 n2 q [bxQ inp qs] := ⟨rfl, fun hk => by omega, fun hk => by omega, fun hk => by omega, fun hk => by omega, fun h => by cases h⟩
theorem A5.lws (hP : ValP inp qs) (h : A5 inp qs 4 true b1 n1 b2 n2 q H) (N : Nat) :
    LwS inp qs b1 n1 b2 n2 q H.length (List.replicate N 0) (fun _ => 0) St.new (GQ qs b1 n1) (fun _ => 0) St.new (GQ qs b2 n2) (H.set q (.row [.optr (n1 + 4) 0]) ++ [.row ((List.replicate N 0).map vint)]) := by
  obtain ⟨e1, e2, e3⟩ := h.e1 (by omega)
  obtain ⟨d1, d2, d3⟩ := h.d1 (by omega)
  obtain ⟨f1, f2, f3⟩ := h.e2 (by omega)
  obtain ⟨g1, g2, g3⟩ := h.d2 (by omega)
  obtain ⟨q1, q2, q3, q4, q5, q6⟩ := h.qa rfl
  replace q3 := q3 (by omega); replace q4 := q4 (by omega); replace q5 := q5 (by omega); replace q6 := q6 (by omega)
  have hq := len_of_get q2
  have hb := h.bx
  have w1 := wr_new e3 d3 d1
  have w2 := wr_new f3 g3 g1
  have n1' : ¬ GQ qs b1 n1 q := fun hg => by have := gq_rng hg; omega
  have n2' : ¬ GQ qs b2 n2 q := fun hg => by have := gq_rng hg; omega
  have l1 := w1.lt (cxQ_ok hP _ _)
  have l2 := w2.lt (cxQ_ok hP _ _)
  refine ⟨?_, ?_, ?_, w1.fr (cxQ_ok hP _ _) fun id hi => ?_, w2.fr (cxQ_ok hP _ _) fun id hi => ?_, fun id h1 h2 => ?_, ⟨fun hg => ?_, fun hg => ?_⟩, ⟨n1', n2'⟩, ⟨fun hg => ?_, fun hg => ?_⟩, ?_, ?_⟩
  · rw [List.getElem?_append_left (by simp; omega), List.getElem?_set_ne (by omega)]; exact hb
  · rw [List.getElem?_append_left (by simp; omega), List.getElem?_set_self hq]
  · rw [List.getElem?_append_right (by simp)]; simp
  · rw [List.getElem?_append_left (by rw [List.length_set]; exact l1 id hi), List.getElem?_set_ne (by rintro rfl; exact n1' hi)]
  · rw [List.getElem?_append_left (by rw [List.length_set]; exact l2 id hi), List.getElem?_set_ne (by rintro rfl; exact n2' hi)]
  · have := gq_rng h1; have := gq_rng h2; omega
  · have := gq_rng hg; omega
  · have := gq_rng hg; omega
  · have := l1 _ hg; omega
  · have := l2 _ hg; omega
  · omega
  · omega
end
structure A21 (B : Heap) (a0 a4 a5 : Bool) (tk i4 i5 : Nat) (H : Heap) : Prop where
  ln : B.length ≤ H.length
  sm : ∀ id, id < B.length → H[id]? = B[id]?
  t0 : a0 = true → B.length ≤ tk ∧ H[tk]? = some (tkRow false)
  t4 : a4 = true → B.length ≤ i4 ∧ H[i4]? = some (.row [.nilp])
  t5 : a5 = true → B.length ≤ i5 ∧ H[i5]? = some (.row [vint 0])
section
variable {B H : Heap} {a0 a4 a5 : Bool} {tk i4 i5 : Nat}
theorem A21.app (h : A21 B a0 a4 a5 tk i4 i5 H) (L : Heap) : A21 B a0 a4 a5 tk i4 i5 (H ++ L) :=
  ⟨by have := h.ln; simp; omega, fun id hi => by rw [List.getElem?_append_left (Nat.lt_of_lt_of_le hi h.ln)]; exact h.sm id hi, fun e => ⟨(h.t0 e).1, getL (h.t0 e).2 L⟩, fun e => ⟨(h.t4 e).1, getL (h.t4 e).2 L⟩, fun e => ⟨(h.t5 e).1, getL (h.t5 e).2 L⟩⟩
theorem A21.s0 (h : A21 B false a4 a5 tk i4 i5 H) : A21 B true a4 a5 H.length i4 i5 (H ++ [tkRow false]) :=
  ⟨(h.app _).ln, (h.app _).sm, fun _ => ⟨h.ln, by simp⟩, (h.app _).t4, (h.app _).t5⟩
theorem A21.s4 (h : A21 B a0 false a5 tk i4 i5 H) : A21 B a0 true a5 tk H.length i5 (H ++ [.row [.nilp]]) :=
  ⟨(h.app _).ln, (h.app _).sm, (h.app _).t0, fun _ => ⟨h.ln, by simp⟩, (h.app _).t5⟩
theorem A21.s5 (h : A21 B a0 a4 false tk i4 i5 H) : A21 B a0 a4 true tk i4 H.length (H ++ [.row [vint 0]]) :=
  ⟨(h.app _).ln, (h.app _).sm, (h.app _).t0, (h.app _).t4, fun _ => ⟨h.ln, by simp⟩⟩
theorem A21.ini : A21 B false false false tk i4 i5 B := ⟨Nat.le_refl _, fun _ _ => rfl, fun e => (by cases e), fun e => (by cases e), fun e => (by cases e)⟩
theorem A21.ne (h : A21 B true true true tk i4 i5 H) : tk ≠ i4 ∧ tk ≠ i5 ∧ i4 ≠ i5 := by
  have h1 := (h.t0 rfl).2; have h2 := (h.t4 rfl).2; have h3 := (h.t5 rfl).2
  refine ⟨?_, ?_, ?_⟩
  · rintro rfl; rw [h1] at h2; simp [tkRow] at h2
  · rintro rfl; rw [h1] at h3; simp [tkRow, vint] at h3
  · rintro rfl; rw [h2] at h3; simp [vint] at h3
theorem A21.fin (h : A21 B true true true tk i4 i5 H) (budget : Int) {H' : Heap} (hH : H' = (H.set i4 (.row [.optr tk 0])).set i5 (.row [vint budget])) :
    B.length ≤ H'.length ∧ (∀ id, id < B.length → H'[id]? = B[id]?) ∧ B.length ≤ tk ∧ B.length ≤ i4 ∧ B.length ≤ i5 ∧ tk ≠ i4 ∧ tk ≠ i5 ∧ H'[tk]? = some (tkRow false) ∧ H'[i4]? = some (.row [.optr tk 0]) ∧ H'[i5]? = some (.row [vint budget]) := by
  obtain ⟨n1, n2, n3⟩ := h.ne
  obtain ⟨p1, p2⟩ := h.t0 rfl; obtain ⟨p3, p4⟩ := h.t4 rfl; obtain ⟨p5, p6⟩ := h.t5 rfl
  have l4 := len_of_get p4; have l5 := len_of_get p6
  subst hH
  refine ⟨by have := h.ln; simp; omega, fun id hi => ?_, p1, p3, p5, n1, n2, ?_, ?_, ?_⟩
  · rw [List.getElem?_set_ne (by omega), List.getElem?_set_ne (by omega)]; exact h.sm id hi
  · rw [List.getElem?_set_ne (Ne.symm n2), List.getElem?_set_ne (Ne.symm n1)]; exact p2
  · rw [List.getElem?_set_ne (Ne.symm n3), List.getElem?_set_self l4]
  · rw [List.getElem?_set_self (by rw [List.length_set]; exact l5)]
end
section
variable {inp : Int} {qs : List (List QK)} (hP : ValP inp qs) {b1 n1 b2 n2 q vi : Nat} {vs : List Int} {loc loc2 : QK → Nat} {st st2 : St} {G G2 : FPl} {H H' : Heap}
include hP
theorem trim_s (h : LwS inp qs b1 n1 b2 n2 q vi vs loc st G loc2 st2 G2 H) {N i : Nat} {vs0 : List Int} (hL : Ls qs N i vs0 st) (hi : i < 100) (cap : Nat) (hcap : cap ≤ 1000) :
    ACalls Try.prog 16 [.optr (n1 + 4) 0, vint (cap : Int)] H (fun r H' => ∃ n st', r = vint n ∧ LwS inp qs b1 n1 b2 n2 q vi vs loc st' G loc2 st2 G2 H' ∧ Ls qs N (i + 1) vs0 st') := by
  have hclk : st.clk < 4611686018427387904 := by have := hL.clk; omega
  refine (trim_c (cxQ_ok hP b1 n1) cap hcap loc [] st false G H hclk (hL.fin hP.len) h.w1).mono ?_
  rintro r H' ⟨f, n, rfl, hf, w, fr⟩
  exact ⟨n, _, rfl, h.call hP w (p := fun _ => False) (fun _ h => h.elim) (fr.or _), (hL.less hf).mono (Nat.le_succ i)⟩
theorem trim_x (h : LwS inp qs b1 n1 b2 n2 q vi vs loc st G loc2 st2 G2 H) {N i : Nat} {vs0 : List Int} (hL : Ls qs N i vs0 st) (hi : i < 100) (cap : Nat) (hcap : cap ≤ 1000) :
    ACalls Try.prog 16 [.optr (n1 + 4) 0, .int .i64 (cap : Int)] H (fun r H' => ∃ n st', r = .int .i64 n ∧ LwS inp qs b1 n1 b2 n2 q vi vs loc st' G loc2 st2 G2 H' ∧ Ls qs N (i + 1) vs0 st') := trim_s hP h hL hi cap hcap
theorem set_x (h : LwS inp qs b1 n1 b2 n2 q vi vs loc st G loc2 st2 G2 H) {N i : Nat} {vs0 : List Int} (hL : Ls qs N i vs0 st) (hi : i < 100) {a : Nat} (ha : a < N) {b : Int} (hb : 0 ≤ b ∧ b < 1000003) {d : Nat} (hd : d ≤ 2) :
    ACalls Try.prog 9 [.optr (n1 + 4) 0, .agg [.int .i64 0, .int .i64 (a : Int), .int .i64 0], .agg [.slice [.int .i64 b] .none, .str []], .int .i64 (d : Int)] H (fun r H' => r = .int .i64 0 ∧ ∃ st', LwS inp qs b1 n1 b2 n2 q vi vs loc st' G loc2 st2 G2 H' ∧ Ls qs N (i + 1) (vs0.set a b) st') := set_s hP h hL hi ha hb hd
theorem set_x2 (h : LwS inp qs b1 n1 b2 n2 q vi vs loc st G loc2 st2 G2 H) {N i : Nat} {vs0 : List Int} (hL : Ls qs N i vs0 st2) (hi : i < 100) {a : Nat} (ha : a < N) {b : Int} (hb : 0 ≤ b ∧ b < 1000003) :
    ACalls Try.prog 9 [.optr (n2 + 4) 0, .agg [.int .i64 0, .int .i64 (a : Int), .int .i64 0], .agg [.slice [.int .i64 b] .none, .str []], .int .i64 0] H (fun r H' => r = .int .i64 0 ∧ ∃ st', LwS inp qs b1 n1 b2 n2 q vi vs loc st G loc2 st' G2 H' ∧ Ls qs N (i + 1) (vs0.set a b) st') := set_s2 hP h hL hi ha hb (Nat.zero_le _)
omit hP in
theorem ksQ_of {kq : Nat} (h : kq < qs.length) : ((1, (kq : Int), 0) : QK) ∈ KsQ qs.length := ksQ_mem.2 ⟨rfl, rfl, by show (0 : Int) ≤ (kq : Int); omega, by show (kq : Int) < _; omega⟩
theorem gu_x (h : LwS inp qs b1 n1 b2 n2 q vi vs loc st G loc2 st2 G2 H) {N i : Nat} {vs0 : List Int} (hL : Ls qs N i vs0 st) {kq : Nat} (hk : kq < qs.length) {tk b16 b15 b14 : Nat} {start budget : Int} {M : Nat}
    (ht : H[tk]? = some (tkRow false)) (h16 : H[b16]? = some (.row [vint start])) (h15 : H[b15]? = some (.row [vint budget])) (h14 : H[b14]? = some (.row [.optr tk 0])) (hG : ∀ id, G id → id < M) (hG2 : ∀ id, G2 id → id < M) (hM : q < M ∧ vi < M ∧ 0 < M) (hge : M ≤ tk ∧ M ≤ b16 ∧ M ≤ b15 ∧ M ≤ b14) (hne : tk ≠ b16 ∧ tk ≠ b15 ∧ tk ≠ b14) :
    ACalls Try.prog 12 [.optr (n1 + 4) 0, .agg [.int .i64 1, .int .i64 (kq : Int), .int .i64 0], .fn (.func 13) [] [.optr q 0, .optr b16 0, .optr b15 0, .optr b14 0]] H (fun r H' => ∃ (o : Option Rec) (st' : St) (loc' : QK → Nat) (G' : FPl), r = .tup [ansV o, vint (ansE o)] ∧ Ls qs N (i + 1) vs0 st' ∧
      LwS inp qs b1 n1 b2 n2 q vi vs loc' st' G' loc2 st2 G2 H' ∧ H'[tk]? = some (tkRow o.isNone) ∧ H'[b14]? = some (.row [.optr tk 0])) := by
  refine (gu_c hP hL (ksQ_of hk) h.w1 ⟨ht, h.bq, h16, h15, h14⟩ (fun id hg hf => ?_) ⟨by omega, hne.1, hne.2.1, hne.2.2⟩).mono ?_
  · have := hG id hg
    rcases hf with rfl | rfl | rfl | rfl | rfl
    · omega
    · exact h.nq.1 hg
    · omega
    · omega
    · omega
  · rintro r H' ⟨o, st', loc', G', rfl, h1, h2, h3, h4, h5⟩
    exact ⟨o, st', loc', G', rfl, h1, h.call hP h2 (p := fun id => id = tk) (fun id e => ⟨by omega, by omega, by omega, fun hg => by have := hG2 id hg; omega⟩) h5, h3, h4⟩
omit hP in
theorem ansV_q (o : Option Rec) : ∃ v, ansV o = qvE v := by
  cases o with
  | none => exact ⟨_, rfl⟩
  | some r => exact ⟨r.val, rfl⟩
theorem get_x (h : LwS inp qs b1 n1 b2 n2 q vi vs loc st G loc2 st2 G2 H) {N i : Nat} {vs0 : List Int} (hL : Ls qs N i vs0 st) {kq : Nat} (hk : kq < qs.length) {V : QV} (hV : sem (cpQ qs) rkQ (vals st.cell) (1, (kq : Int), 0) = V) :
    ACalls Try.prog 17 [.optr (n1 + 4) 0, .agg [.int .i64 1, .int .i64 (kq : Int), .int .i64 0]] H (fun r H' => r = .tup [.agg [.slice (V.nums.map vint) .none, .str V.text], .int .i64 0] ∧ FrS G (fun id => H.length ≤ id ∨ G id) H H' ∧ ∃ loc' st' G', LwS inp qs b1 n1 b2 n2 q vi vs loc' st' G' loc2 st2 G2 H') := by
  subst hV
  exact get_s hP h hL (ksQ_of hk)
theorem get_x2 (h : LwS inp qs b1 n1 b2 n2 q vi vs loc st G loc2 st2 G2 H) {N i : Nat} {vs0 : List Int} (hL : Ls qs N i vs0 st2) {kq : Nat} (hk : kq < qs.length) {V : QV} (hV : sem (cpQ qs) rkQ (vals st2.cell) (1, (kq : Int), 0) = V) :
    ACalls Try.prog 17 [.optr (n2 + 4) 0, .agg [.int .i64 1, .int .i64 (kq : Int), .int .i64 0]] H (fun r H' => r = .tup [.agg [.slice (V.nums.map vint) .none, .str V.text], .int .i64 0] ∧ FrS G2 (fun id => H.length ≤ id ∨ G2 id) H H') := by
  subst hV
  exact get_s2 hP h hL (ksQ_of hk)
end
end Go.Abs
set_option maxHeartbeats 2000000
namespace Go.Abs
open Go.Proofs Go.Memo
theorem rep_flat : ∀ N : Nat, (List.replicate N [PV.int .i64 0]).flatten = (List.replicate N (0 : Int)).map vint
  | 0 => rfl
  | n + 1 => by rw [List.replicate_succ, List.replicate_succ, List.flatten_cons, rep_flat n]; rfl
theorem law_c (inp : Int) (qs : List (List QK)) (sc : List QK) (qn : Int) (hq : qs.length ≤ maxLen) (hsc : sc.length ≤ maxLen) : PC Try.prog 3 [.agg [vint inp, .slice (qs.map ksE) .none], .slice (sc.map kE) .none, vint qn] (.bool true) := by
  obtain ⟨m, hm⟩ : ∃ m, m = min sc.length 20 := ⟨_, rfl⟩
  obtain ⟨ks, hks⟩ : ∃ ks, ks = sc.take m := ⟨_, rfl⟩
  have hm20 : m ≤ 20 := by omega
  have gm : min (sc.length : Int) 20 = (m : Int) := by omega
  have hk3 : (∀ e ∈ sc.map kE, e.cells.length = 3) = True := eq_true fun e he => by obtain ⟨k, _, rfl⟩ := List.mem_map.1 he; rfl
  have gmb : (0 ≤ (m : Int) ∧ (m : Int) ≤ (sc.length : Int)) = True := by simp; omega
  have htk : List.take m (List.map kE sc) = List.map kE ks := by rw [hks, List.map_take]
  have hkl : ks.length ≤ 20 := by rw [hks, List.length_take]; omega
  refine pc_of (N := 177) Try.func3 rfl rfl (by simp) (by simp [bel_pE, bel_K, Bel.int, vint]) (.bool _) ?_
  repeat (refine awp_seq ?_)
  refine e_eval (by simp only [jA, jO, jN, seval, y24, vint, ksE_cells, kE_cells, ksE_drop1, kE_drop1, cfF] <;> with_reducible rfl) (by decide) ?_
  repeat (refine awp_seq ?_)
  refine awp_region ?_
  refine aops_pure (by simp only [jC, jN, seval, vint, ksE_cells, kE_cells, ksE_drop1, kE_drop1, cfF] <;> with_reducible rfl) (by simp only [jC, jN, seval, vint, ksE_cells, kE_cells, ksE_drop1, kE_drop1, cfF]) (by decide) Trygo4 (example_c _) ?_
  refine e_end (by simp only [jA, jO, jN, seval, vint, ksE_cells, kE_cells, ksE_drop1, kE_drop1, cfF] <;> with_reducible rfl) (by decide) ?_
  repeat (refine awp_seq ?_)
  refine awp_cond_false rfl (by simp only [jN, seval, vint, ksE_cells, kE_cells, ksE_drop1, kE_drop1, cfF] <;> with_reducible rfl) ?_
  repeat (refine awp_seq ?_)
  refine awp_skip ?_
  repeat (refine awp_seq ?_)
  refine awp_region ?_
  refine e_take 1 (by simp only [jA, jO, jN, seval, y24, vint, ksE_cells, kE_cells, ksE_drop1, kE_drop1, cfF] <;> with_reducible rfl) (by decide) ?_
  refine aops_pure (by simp only [jC, jN, seval, vint, ksE_cells, kE_cells, ksE_drop1, kE_drop1, cfF] <;> with_reducible rfl) (by simp only [jC, jN, seval, vint, ksE_cells, kE_cells, ksE_drop1, kE_drop1, cfF]) (by decide) Trygo5 (usable_c inp qs hq _) ?_
  refine e_end (by simp only [jA, jO, jN, seval, vint, ksE_cells, kE_cells, ksE_drop1, kE_drop1, cfF] <;> with_reducible rfl) (by decide) ?_
  repeat (refine awp_seq ?_)
  refine awp_cond rfl (by simp only [jN, seval, vint, ksE_cells, kE_cells, ksE_drop1, kE_drop1, cfF] <;> with_reducible rfl) (fun bt29 => ?_) (fun bt29 => ?_)
  ·
    skip
    repeat (refine awp_seq ?_)
    refine awp_region ?_
    refine aops_pure (by simp only [jC, jN, seval, vint, ksE_cells, kE_cells, ksE_drop1, kE_drop1, cfF] <;> with_reducible rfl) (by simp only [jC, jN, seval, vint, ksE_cells, kE_cells, ksE_drop1, kE_drop1, cfF]) (by decide) Trygo4 (example_c _) ?_
    refine e_end (by simp only [jA, jO, jN, seval, vint, ksE_cells, kE_cells, ksE_drop1, kE_drop1, cfF] <;> with_reducible rfl) (by decide) ?_
    repeat (refine awp_seq ?_)
    refine awp_ret ⟨.inr rfl, _, rfl, ?_⟩
    simp only [jN, seval, vint, ksE_cells, kE_cells, ksE_drop1, kE_drop1, cfF]
    try simp
  ·
    have hus : (decide (chkP inp qs = 0) && decide ((qs.length : Int) > 0) && decide (inp > 0)) = true := by simpa using bt29
    simp only [Bool.and_eq_true, decide_eq_true_eq] at hus
    obtain ⟨⟨hV, hq0⟩, hi0⟩ := hus
    obtain ⟨N, rfl⟩ : ∃ N : Nat, inp = (N : Int) := ⟨inp.toNat, by omega⟩
    obtain ⟨hP, _, hN40⟩ := valP_of hV
    have hq40 := hP.len
    have gms : (0 ≤ (N : Int)) = True := by simp
    have gmr : ((N : Int) ≤ (N : Int)) = True := by simp
    have gm2 : ((N : Int) * 8 ≤ 140737488355328) = True := by simp only [eq_iff_iff, iff_true]; omega
    have gm3 : ((N : Int) ≤ maxLen) = True := by simp only [eq_iff_iff, iff_true, maxLen]; omega
    have hfl := rep_flat N
    repeat (refine awp_seq ?_)
    refine awp_skip ?_
    repeat (refine awp_seq ?_)
    refine awp_gosX (fun e T Hz => e = .normal ∧ ∃ b1 n1 b2 n2 q H, A5 (N : Int) qs 4 true b1 n1 b2 n2 q H ∧ Fits T [(1, .slice (sc.map kE) .none), (2, vint qn), (3, .optr 0 0), (7, .optr q 0), (8, .optr (n2 + 4) 0)] ∧ Hz = H.set q (.row [.optr (n1 + 4) 0])) (by kernel_rfl) (fun opr R' hops hR => ?_) (fun e T' H5 hr => ?_)
    · have g127 : ∀ (HH : Heap) (b1 n1 b2 n2 q : Nat), A5 (N : Int) qs 4 true b1 n1 b2 n2 q HH → GoS Try.prog 177 0 opr R' 2 #[true, true, true, true, true, true, true, false, false] (mkS [(1, .slice (sc.map kE) .none), (2, vint qn), (3, .optr 0 0), (31, (.agg [vint (N : Int), .slice (qs.map ksE) .none])), (32, cfQ b1), (33, .optr (n1 + 4) 0), (34, (.agg [vint (N : Int), .slice (qs.map ksE) .none])), (35, cfQ b2), (36, .optr (n2 + 4) 0), (7, .optr q 0)]) HH := by
        subst hops
        intro HH b1 n1 b2 n2 q hA
        have gq := (hA.qa rfl).2.1
        have nq : (q = HH.length) = False := by have := len_of_get gq; simp; omega
        refine zs1 7 rfl (go_one (m := [(1, .slice (sc.map kE) .none), (2, vint qn), (3, .optr 0 0), (31, (.agg [vint (N : Int), .slice (qs.map ksE) .none])), (32, cfQ b1), (33, .optr (n1 + 4) 0), (34, (.agg [vint (N : Int), .slice (qs.map ksE) .none])), (35, cfQ b2), (36, .optr (n2 + 4) 0), (7, .optr q 0)]) (by simp only [jA, jO, jN, seval, y28, vint, ksE_cells, kE_cells, ksE_drop1, kE_drop1, cfF, gq, nq] <;> with_reducible rfl) ?_)
        refine zs1 8 rfl (go_one (m := [(1, .slice (sc.map kE) .none), (2, vint qn), (3, .optr 0 0), (7, .optr q 0), (8, .optr (n2 + 4) 0)]) (by simp only [jA, jO, jN, seval, vint, ksE_cells, kE_cells, ksE_drop1, kE_drop1, cfF, gq, nq] <;> with_reducible rfl) (gos_nil ?_))
        rw [hR]
        exact ⟨rfl, b1, n1, b2, n2, q, HH, hA, by repeat (first | exact trivial | refine ⟨rfl, ?_⟩), rfl⟩
      have g95 : ∀ (HH : Heap) (b1 n1 b2 n2 q : Nat), A5 (N : Int) qs 3 true b1 n1 b2 n2 q HH → GoS Try.prog 177 0 opr R' 3 #[true, true, true, true, true, false, true, false, false] (mkS [(1, .slice (sc.map kE) .none), (2, vint qn), (3, .optr 0 0), (31, (.agg [vint (N : Int), .slice (qs.map ksE) .none])), (32, cfQ b1), (33, .optr (n1 + 4) 0), (34, (.agg [vint (N : Int), .slice (qs.map ksE) .none])), (35, cfQ b2), (7, .optr q 0)]) HH := by
        subst hops
        intro HH b1 n1 b2 n2 q hA
        have g0 := hA.bx
        simp only [bxQ] at g0
        refine zs1 5 rfl ?_
        · refine aops_acall (by simp only [jC, jN, seval, vint, ksE_cells, kE_cells, ksE_drop1, kE_drop1, cfF] <;> with_reducible rfl) (by simp only [jC, jN, seval, vint, ksE_cells, kE_cells, ksE_drop1, kE_drop1, cfF]) (by decide) Trygo6 (memNewQ b2 HH) ?_
          rintro _ _ ⟨rfl, rfl⟩
          refine aops_nil ?_
          exact (g127 _ b1 n1 b2 HH.length q hA.c4).weak (mkS_weak (by repeat (first | exact trivial | refine ⟨rfl, ?_⟩)))
      have g79 : ∀ (HH : Heap) (b1 n1 b2 n2 q : Nat), A5 (N : Int) qs 2 true b1 n1 b2 n2 q HH → GoS Try.prog 177 0 opr R' 4 #[true, true, true, true, false, false, true, false, false] (mkS [(1, .slice (sc.map kE) .none), (2, vint qn), (3, .optr 0 0), (31, (.agg [vint (N : Int), .slice (qs.map ksE) .none])), (32, cfQ b1), (33, .optr (n1 + 4) 0), (34, (.agg [vint (N : Int), .slice (qs.map ksE) .none])), (7, .optr q 0)]) HH := by
        subst hops
        intro HH b1 n1 b2 n2 q hA
        have g0 := hA.bx
        simp only [bxQ] at g0
        refine zs1 4 rfl ?_
        · refine aops_acall (by simp only [jC, jN, seval, vint, ksE_cells, kE_cells, ksE_drop1, kE_drop1, cfF] <;> with_reducible rfl) (by simp only [jC, jN, seval, vint, ksE_cells, kE_cells, ksE_drop1, kE_drop1, cfF]) (by decide) Trygo7 (compile_c (N : Int) qs hV HH) ?_
          rintro _ _ ⟨rfl, rfl⟩
          refine aops_nil ?_
          exact (g95 _ b1 n1 HH.length n2 q hA.c3).weak (mkS_weak (by repeat (first | exact trivial | refine ⟨rfl, ?_⟩)))
      have g75 : ∀ (HH : Heap) (b1 n1 b2 n2 q : Nat), A5 (N : Int) qs 1 true b1 n1 b2 n2 q HH → GoS Try.prog 177 0 opr R' 5 #[true, true, false, true, false, false, true, false, false] (mkS [(1, .slice (sc.map kE) .none), (2, vint qn), (3, .optr 0 0), (31, (.agg [vint (N : Int), .slice (qs.map ksE) .none])), (32, cfQ b1), (34, (.agg [vint (N : Int), .slice (qs.map ksE) .none])), (7, .optr q 0)]) HH := by
        subst hops
        intro HH b1 n1 b2 n2 q hA
        have g0 := hA.bx
        simp only [bxQ] at g0
        refine zs1 2 rfl ?_
        · refine aops_acall (by simp only [jC, jN, seval, vint, ksE_cells, kE_cells, ksE_drop1, kE_drop1, cfF] <;> with_reducible rfl) (by simp only [jC, jN, seval, vint, ksE_cells, kE_cells, ksE_drop1, kE_drop1, cfF]) (by decide) Trygo6 (memNewQ b1 HH) ?_
          rintro _ _ ⟨rfl, rfl⟩
          refine aops_nil ?_
          exact (g79 _ b1 HH.length b2 n2 q hA.c2).weak (mkS_weak (by repeat (first | exact trivial | refine ⟨rfl, ?_⟩)))
      have g73 : ∀ (HH : Heap) (b1 n1 b2 n2 q : Nat), A5 (N : Int) qs 0 true b1 n1 b2 n2 q HH → GoS Try.prog 177 0 opr R' 6 #[true, false, false, true, false, false, true, false, false] (mkS [(1, .slice (sc.map kE) .none), (2, vint qn), (3, .optr 0 0), (31, (.agg [vint (N : Int), .slice (qs.map ksE) .none])), (34, (.agg [vint (N : Int), .slice (qs.map ksE) .none])), (7, .optr q 0)]) HH := by
        subst hops
        intro HH b1 n1 b2 n2 q hA
        have g0 := hA.bx
        simp only [bxQ] at g0
        refine zs1 1 rfl ?_
        · refine aops_acall (by simp only [jC, jN, seval, vint, ksE_cells, kE_cells, ksE_drop1, kE_drop1, cfF] <;> with_reducible rfl) (by simp only [jC, jN, seval, vint, ksE_cells, kE_cells, ksE_drop1, kE_drop1, cfF]) (by decide) Trygo7 (compile_c (N : Int) qs hV HH) ?_
          rintro _ _ ⟨rfl, rfl⟩
          refine aops_nil ?_
          exact (g75 _ HH.length n1 b2 n2 q hA.c1).weak (mkS_weak (by repeat (first | exact trivial | refine ⟨rfl, ?_⟩)))
      have g72 : ∀ (HH : Heap) (b1 n1 b2 n2 q : Nat), A5 (N : Int) qs 0 true b1 n1 b2 n2 q HH → GoS Try.prog 177 0 opr R' 7 #[false, false, false, true, false, false, true, false, false] (mkS [(1, .slice (sc.map kE) .none), (2, vint qn), (3, .optr 0 0), (34, (.agg [vint (N : Int), .slice (qs.map ksE) .none])), (7, .optr q 0)]) HH := by
        subst hops
        intro HH b1 n1 b2 n2 q hA
        have g0 := hA.bx
        simp only [bxQ] at g0
        refine zs1 0 rfl (go_one (by simp only [jA, jO, jN, seval, y24, vint, ksE_cells, kE_cells, ksE_drop1, kE_drop1, cfF, g0] <;> with_reducible rfl) (g73 HH b1 n1 b2 n2 q hA))
      have g71 : ∀ (HH : Heap) (b1 n1 b2 n2 q : Nat), A5 (N : Int) qs 2 true b1 n1 b2 n2 q HH → GoS Try.prog 177 0 opr R' 5 #[true, true, true, false, false, false, true, false, false] (mkS [(1, .slice (sc.map kE) .none), (2, vint qn), (3, .optr 0 0), (31, (.agg [vint (N : Int), .slice (qs.map ksE) .none])), (32, cfQ b1), (33, .optr (n1 + 4) 0), (7, .optr q 0)]) HH := by
        subst hops
        intro HH b1 n1 b2 n2 q hA
        have g0 := hA.bx
        simp only [bxQ] at g0
        refine zs1 3 rfl (go_one (by simp only [jA, jO, jN, seval, y24, vint, ksE_cells, kE_cells, ksE_drop1, kE_drop1, cfF, g0] <;> with_reducible rfl) (g79 HH b1 n1 b2 n2 q hA))
      have g67 : ∀ (HH : Heap) (b1 n1 b2 n2 q : Nat), A5 (N : Int) qs 1 true b1 n1 b2 n2 q HH → GoS Try.prog 177 0 opr R' 6 #[true, true, false, false, false, false, true, false, false] (mkS [(1, .slice (sc.map kE) .none), (2, vint qn), (3, .optr 0 0), (31, (.agg [vint (N : Int), .slice (qs.map ksE) .none])), (32, cfQ b1), (7, .optr q 0)]) HH := by
        subst hops
        intro HH b1 n1 b2 n2 q hA
        have g0 := hA.bx
        simp only [bxQ] at g0
        refine zs2 2 3 rfl rfl ?_ (go_one (by simp only [jA, jO, jN, seval, y24, vint, ksE_cells, kE_cells, ksE_drop1, kE_drop1, cfF, g0] <;> with_reducible rfl) (g75 HH b1 n1 b2 n2 q hA))
        · refine aops_acall (by simp only [jC, jN, seval, vint, ksE_cells, kE_cells, ksE_drop1, kE_drop1, cfF] <;> with_reducible rfl) (by simp only [jC, jN, seval, vint, ksE_cells, kE_cells, ksE_drop1, kE_drop1, cfF]) (by decide) Trygo6 (memNewQ b1 HH) ?_
          rintro _ _ ⟨rfl, rfl⟩
          refine aops_nil ?_
          exact (g71 _ b1 HH.length b2 n2 q hA.c2).weak (mkS_weak (by repeat (first | exact trivial | refine ⟨rfl, ?_⟩)))
      have g65 : ∀ (HH : Heap) (b1 n1 b2 n2 q : Nat), A5 (N : Int) qs 0 true b1 n1 b2 n2 q HH → GoS Try.prog 177 0 opr R' 7 #[true, false, false, false, false, false, true, false, false] (mkS [(1, .slice (sc.map kE) .none), (2, vint qn), (3, .optr 0 0), (31, (.agg [vint (N : Int), .slice (qs.map ksE) .none])), (7, .optr q 0)]) HH := by
        subst hops
        intro HH b1 n1 b2 n2 q hA
        have g0 := hA.bx
        simp only [bxQ] at g0
        refine zs2 1 3 rfl rfl ?_ (go_one (by simp only [jA, jO, jN, seval, y24, vint, ksE_cells, kE_cells, ksE_drop1, kE_drop1, cfF, g0] <;> with_reducible rfl) (g73 HH b1 n1 b2 n2 q hA))
        · refine aops_acall (by simp only [jC, jN, seval, vint, ksE_cells, kE_cells, ksE_drop1, kE_drop1, cfF] <;> with_reducible rfl) (by simp only [jC, jN, seval, vint, ksE_cells, kE_cells, ksE_drop1, kE_drop1, cfF]) (by decide) Trygo7 (compile_c (N : Int) qs hV HH) ?_
          rintro _ _ ⟨rfl, rfl⟩
          refine aops_nil ?_
          exact (g67 _ HH.length n1 b2 n2 q hA.c1).weak (mkS_weak (by repeat (first | exact trivial | refine ⟨rfl, ?_⟩)))
      have g64 : ∀ (HH : Heap) (b1 n1 b2 n2 q : Nat), A5 (N : Int) qs 0 true b1 n1 b2 n2 q HH → GoS Try.prog 177 0 opr R' 8 #[false, false, false, false, false, false, true, false, false] (mkS [(1, .slice (sc.map kE) .none), (2, vint qn), (3, .optr 0 0), (7, .optr q 0)]) HH := by
        subst hops
        intro HH b1 n1 b2 n2 q hA
        have g0 := hA.bx
        simp only [bxQ] at g0
        refine zs2 0 3 rfl rfl (go_one (by simp only [jA, jO, jN, seval, y24, vint, ksE_cells, kE_cells, ksE_drop1, kE_drop1, cfF, g0] <;> with_reducible rfl) (g65 HH b1 n1 b2 n2 q hA)) (go_one (by simp only [jA, jO, jN, seval, y24, vint, ksE_cells, kE_cells, ksE_drop1, kE_drop1, cfF, g0] <;> with_reducible rfl) (g72 HH b1 n1 b2 n2 q hA))
      have g63 : ∀ (HH : Heap) (b1 n1 b2 n2 q : Nat), A5 (N : Int) qs 4 false b1 n1 b2 n2 q HH → GoS Try.prog 177 0 opr R' 3 #[true, true, true, true, true, true, false, false, false] (mkS [(1, .slice (sc.map kE) .none), (2, vint qn), (3, .optr 0 0), (31, (.agg [vint (N : Int), .slice (qs.map ksE) .none])), (32, cfQ b1), (33, .optr (n1 + 4) 0), (34, (.agg [vint (N : Int), .slice (qs.map ksE) .none])), (35, cfQ b2), (36, .optr (n2 + 4) 0)]) HH := by
        subst hops
        intro HH b1 n1 b2 n2 q hA
        have g0 := hA.bx
        simp only [bxQ] at g0
        refine zs1 6 rfl (go_one (by simp only [jA, jO, jN, seval, y28, vint, ksE_cells, kE_cells, ksE_drop1, kE_drop1, cfF, g0] <;> with_reducible rfl) (g127 _ b1 n1 b2 n2 HH.length hA.qal))
      have g31 : ∀ (HH : Heap) (b1 n1 b2 n2 q : Nat), A5 (N : Int) qs 3 false b1 n1 b2 n2 q HH → GoS Try.prog 177 0 opr R' 4 #[true, true, true, true, true, false, false, false, false] (mkS [(1, .slice (sc.map kE) .none), (2, vint qn), (3, .optr 0 0), (31, (.agg [vint (N : Int), .slice (qs.map ksE) .none])), (32, cfQ b1), (33, .optr (n1 + 4) 0), (34, (.agg [vint (N : Int), .slice (qs.map ksE) .none])), (35, cfQ b2)]) HH := by
        subst hops
        intro HH b1 n1 b2 n2 q hA
        have g0 := hA.bx
        simp only [bxQ] at g0
        refine zs2 5 6 rfl rfl ?_ (go_one (by simp only [jA, jO, jN, seval, y28, vint, ksE_cells, kE_cells, ksE_drop1, kE_drop1, cfF, g0] <;> with_reducible rfl) (g95 _ b1 n1 b2 n2 HH.length hA.qal))
        · refine aops_acall (by simp only [jC, jN, seval, vint, ksE_cells, kE_cells, ksE_drop1, kE_drop1, cfF] <;> with_reducible rfl) (by simp only [jC, jN, seval, vint, ksE_cells, kE_cells, ksE_drop1, kE_drop1, cfF]) (by decide) Trygo6 (memNewQ b2 HH) ?_
          rintro _ _ ⟨rfl, rfl⟩
          refine aops_nil ?_
          exact (g63 _ b1 n1 b2 HH.length q hA.c4).weak (mkS_weak (by repeat (first | exact trivial | refine ⟨rfl, ?_⟩)))
      have g15 : ∀ (HH : Heap) (b1 n1 b2 n2 q : Nat), A5 (N : Int) qs 2 false b1 n1 b2 n2 q HH → GoS Try.prog 177 0 opr R' 5 #[true, true, true, true, false, false, false, false, false] (mkS [(1, .slice (sc.map kE) .none), (2, vint qn), (3, .optr 0 0), (31, (.agg [vint (N : Int), .slice (qs.map ksE) .none])), (32, cfQ b1), (33, .optr (n1 + 4) 0), (34, (.agg [vint (N : Int), .slice (qs.map ksE) .none]))]) HH := by
        subst hops
        intro HH b1 n1 b2 n2 q hA
        have g0 := hA.bx
        simp only [bxQ] at g0
        refine zs2 4 6 rfl rfl ?_ (go_one (by simp only [jA, jO, jN, seval, y28, vint, ksE_cells, kE_cells, ksE_drop1, kE_drop1, cfF, g0] <;> with_reducible rfl) (g79 _ b1 n1 b2 n2 HH.length hA.qal))
        · refine aops_acall (by simp only [jC, jN, seval, vint, ksE_cells, kE_cells, ksE_drop1, kE_drop1, cfF] <;> with_reducible rfl) (by simp only [jC, jN, seval, vint, ksE_cells, kE_cells, ksE_drop1, kE_drop1, cfF]) (by decide) Trygo7 (compile_c (N : Int) qs hV HH) ?_
          rintro _ _ ⟨rfl, rfl⟩
          refine aops_nil ?_
          exact (g31 _ b1 n1 HH.length n2 q hA.c3).weak (mkS_weak (by repeat (first | exact trivial | refine ⟨rfl, ?_⟩)))
      have g11 : ∀ (HH : Heap) (b1 n1 b2 n2 q : Nat), A5 (N : Int) qs 1 false b1 n1 b2 n2 q HH → GoS Try.prog 177 0 opr R' 6 #[true, true, false, true, false, false, false, false, false] (mkS [(1, .slice (sc.map kE) .none), (2, vint qn), (3, .optr 0 0), (31, (.agg [vint (N : Int), .slice (qs.map ksE) .none])), (32, cfQ b1), (34, (.agg [vint (N : Int), .slice (qs.map ksE) .none]))]) HH := by
        subst hops
        intro HH b1 n1 b2 n2 q hA
        have g0 := hA.bx
        simp only [bxQ] at g0
        refine zs2 2 6 rfl rfl ?_ (go_one (by simp only [jA, jO, jN, seval, y28, vint, ksE_cells, kE_cells, ksE_drop1, kE_drop1, cfF, g0] <;> with_reducible rfl) (g75 _ b1 n1 b2 n2 HH.length hA.qal))
        · refine aops_acall (by simp only [jC, jN, seval, vint, ksE_cells, kE_cells, ksE_drop1, kE_drop1, cfF] <;> with_reducible rfl) (by simp only [jC, jN, seval, vint, ksE_cells, kE_cells, ksE_drop1, kE_drop1, cfF]) (by decide) Trygo6 (memNewQ b1 HH) ?_
          rintro _ _ ⟨rfl, rfl⟩
          refine aops_nil ?_
          exact (g15 _ b1 HH.length b2 n2 q hA.c2).weak (mkS_weak (by repeat (first | exact trivial | refine ⟨rfl, ?_⟩)))
      have g9 : ∀ (HH : Heap) (b1 n1 b2 n2 q : Nat), A5 (N : Int) qs 0 false b1 n1 b2 n2 q HH → GoS Try.prog 177 0 opr R' 7 #[true, false, false, true, false, false, false, false, false] (mkS [(1, .slice (sc.map kE) .none), (2, vint qn), (3, .optr 0 0), (31, (.agg [vint (N : Int), .slice (qs.map ksE) .none])), (34, (.agg [vint (N : Int), .slice (qs.map ksE) .none]))]) HH := by
        subst hops
        intro HH b1 n1 b2 n2 q hA
        have g0 := hA.bx
        simp only [bxQ] at g0
        refine zs2 1 6 rfl rfl ?_ (go_one (by simp only [jA, jO, jN, seval, y28, vint, ksE_cells, kE_cells, ksE_drop1, kE_drop1, cfF, g0] <;> with_reducible rfl) (g73 _ b1 n1 b2 n2 HH.length hA.qal))
        · refine aops_acall (by simp only [jC, jN, seval, vint, ksE_cells, kE_cells, ksE_drop1, kE_drop1, cfF] <;> with_reducible rfl) (by simp only [jC, jN, seval, vint, ksE_cells, kE_cells, ksE_drop1, kE_drop1, cfF]) (by decide) Trygo7 (compile_c (N : Int) qs hV HH) ?_
          rintro _ _ ⟨rfl, rfl⟩
          refine aops_nil ?_
          exact (g11 _ HH.length n1 b2 n2 q hA.c1).weak (mkS_weak (by repeat (first | exact trivial | refine ⟨rfl, ?_⟩)))
      have g8 : ∀ (HH : Heap) (b1 n1 b2 n2 q : Nat), A5 (N : Int) qs 0 false b1 n1 b2 n2 q HH → GoS Try.prog 177 0 opr R' 8 #[false, false, false, true, false, false, false, false, false] (mkS [(1, .slice (sc.map kE) .none), (2, vint qn), (3, .optr 0 0), (34, (.agg [vint (N : Int), .slice (qs.map ksE) .none]))]) HH := by
        subst hops
        intro HH b1 n1 b2 n2 q hA
        have g0 := hA.bx
        simp only [bxQ] at g0
        refine zs2 0 6 rfl rfl (go_one (by simp only [jA, jO, jN, seval, y24, vint, ksE_cells, kE_cells, ksE_drop1, kE_drop1, cfF, g0] <;> with_reducible rfl) (g9 HH b1 n1 b2 n2 q hA)) (go_one (by simp only [jA, jO, jN, seval, y28, vint, ksE_cells, kE_cells, ksE_drop1, kE_drop1, cfF, g0] <;> with_reducible rfl) (g72 _ b1 n1 b2 n2 HH.length hA.qal))
      have g7 : ∀ (HH : Heap) (b1 n1 b2 n2 q : Nat), A5 (N : Int) qs 2 false b1 n1 b2 n2 q HH → GoS Try.prog 177 0 opr R' 6 #[true, true, true, false, false, false, false, false, false] (mkS [(1, .slice (sc.map kE) .none), (2, vint qn), (3, .optr 0 0), (31, (.agg [vint (N : Int), .slice (qs.map ksE) .none])), (32, cfQ b1), (33, .optr (n1 + 4) 0)]) HH := by
        subst hops
        intro HH b1 n1 b2 n2 q hA
        have g0 := hA.bx
        simp only [bxQ] at g0
        refine zs2 3 6 rfl rfl (go_one (by simp only [jA, jO, jN, seval, y24, vint, ksE_cells, kE_cells, ksE_drop1, kE_drop1, cfF, g0] <;> with_reducible rfl) (g15 HH b1 n1 b2 n2 q hA)) (go_one (by simp only [jA, jO, jN, seval, y28, vint, ksE_cells, kE_cells, ksE_drop1, kE_drop1, cfF, g0] <;> with_reducible rfl) (g71 _ b1 n1 b2 n2 HH.length hA.qal))
      have g3 : ∀ (HH : Heap) (b1 n1 b2 n2 q : Nat), A5 (N : Int) qs 1 false b1 n1 b2 n2 q HH → GoS Try.prog 177 0 opr R' 7 #[true, true, false, false, false, false, false, false, false] (mkS [(1, .slice (sc.map kE) .none), (2, vint qn), (3, .optr 0 0), (31, (.agg [vint (N : Int), .slice (qs.map ksE) .none])), (32, cfQ b1)]) HH := by
        subst hops
        intro HH b1 n1 b2 n2 q hA
        have g0 := hA.bx
        simp only [bxQ] at g0
        refine zs3 2 3 6 rfl rfl rfl ?_ (go_one (by simp only [jA, jO, jN, seval, y24, vint, ksE_cells, kE_cells, ksE_drop1, kE_drop1, cfF, g0] <;> with_reducible rfl) (g11 HH b1 n1 b2 n2 q hA)) (go_one (by simp only [jA, jO, jN, seval, y28, vint, ksE_cells, kE_cells, ksE_drop1, kE_drop1, cfF, g0] <;> with_reducible rfl) (g67 _ b1 n1 b2 n2 HH.length hA.qal))
        · refine aops_acall (by simp only [jC, jN, seval, vint, ksE_cells, kE_cells, ksE_drop1, kE_drop1, cfF] <;> with_reducible rfl) (by simp only [jC, jN, seval, vint, ksE_cells, kE_cells, ksE_drop1, kE_drop1, cfF]) (by decide) Trygo6 (memNewQ b1 HH) ?_
          rintro _ _ ⟨rfl, rfl⟩
          refine aops_nil ?_
          exact (g7 _ b1 HH.length b2 n2 q hA.c2).weak (mkS_weak (by repeat (first | exact trivial | refine ⟨rfl, ?_⟩)))
      have g1 : ∀ (HH : Heap) (b1 n1 b2 n2 q : Nat), A5 (N : Int) qs 0 false b1 n1 b2 n2 q HH → GoS Try.prog 177 0 opr R' 8 #[true, false, false, false, false, false, false, false, false] (mkS [(1, .slice (sc.map kE) .none), (2, vint qn), (3, .optr 0 0), (31, (.agg [vint (N : Int), .slice (qs.map ksE) .none]))]) HH := by
        subst hops
        intro HH b1 n1 b2 n2 q hA
        have g0 := hA.bx
        simp only [bxQ] at g0
        refine zs3 1 3 6 rfl rfl rfl ?_ (go_one (by simp only [jA, jO, jN, seval, y24, vint, ksE_cells, kE_cells, ksE_drop1, kE_drop1, cfF, g0] <;> with_reducible rfl) (g9 HH b1 n1 b2 n2 q hA)) (go_one (by simp only [jA, jO, jN, seval, y28, vint, ksE_cells, kE_cells, ksE_drop1, kE_drop1, cfF, g0] <;> with_reducible rfl) (g65 _ b1 n1 b2 n2 HH.length hA.qal))
        · refine aops_acall (by simp only [jC, jN, seval, vint, ksE_cells, kE_cells, ksE_drop1, kE_drop1, cfF] <;> with_reducible rfl) (by simp only [jC, jN, seval, vint, ksE_cells, kE_cells, ksE_drop1, kE_drop1, cfF]) (by decide) Trygo7 (compile_c (N : Int) qs hV HH) ?_
          rintro _ _ ⟨rfl, rfl⟩
          refine aops_nil ?_
          exact (g3 _ HH.length n1 b2 n2 q hA.c1).weak (mkS_weak (by repeat (first | exact trivial | refine ⟨rfl, ?_⟩)))
      have g0 : ∀ (HH : Heap) (b1 n1 b2 n2 q : Nat), A5 (N : Int) qs 0 false b1 n1 b2 n2 q HH → GoS Try.prog 177 0 opr R' 9 #[false, false, false, false, false, false, false, false, false] (mkS [(1, .slice (sc.map kE) .none), (2, vint qn), (3, .optr 0 0)]) HH := by
        subst hops
        intro HH b1 n1 b2 n2 q hA
        have g0 := hA.bx
        simp only [bxQ] at g0
        refine zs3 0 3 6 rfl rfl rfl (go_one (by simp only [jA, jO, jN, seval, y24, vint, ksE_cells, kE_cells, ksE_drop1, kE_drop1, cfF, g0] <;> with_reducible rfl) (g1 HH b1 n1 b2 n2 q hA)) (go_one (by simp only [jA, jO, jN, seval, y24, vint, ksE_cells, kE_cells, ksE_drop1, kE_drop1, cfF, g0] <;> with_reducible rfl) (g8 HH b1 n1 b2 n2 q hA)) (go_one (by simp only [jA, jO, jN, seval, y28, vint, ksE_cells, kE_cells, ksE_drop1, kE_drop1, cfF, g0] <;> with_reducible rfl) (g64 _ b1 n1 b2 n2 HH.length hA.qal))
      subst hops
      exact GoS.weak (T2 := (mkS [(1, .slice (sc.map kE) .none), (2, vint qn), (3, .optr 0 0)])) (g0 _ 0 0 0 0 0 A5.ini) (mkS_weak (by repeat (first | exact trivial | refine ⟨rfl, ?_⟩)))
    obtain ⟨rfl, b1, n1, b2, n2, q, H, hA, hfit, hH5⟩ := hr
    refine awp_weak (mkS_weak hfit) ?_
    obtain ⟨vi, hvi⟩ : ∃ vi, vi = H5.length := ⟨_, rfl⟩
    have hvl : H5.length = H.length := by rw [hH5]; simp
    have h5q : H5[q]? = some (.row [.optr (n1 + 4) 0]) := by rw [hH5]; exact List.getElem?_set_self (len_of_get (hA.qa rfl).2.1)
    have h50 : H5[0]? = some (.row [vint (N : Int), .slice (qs.map ksE) .none]) := by rw [hH5, List.getElem?_set_ne (by have := (hA.qa rfl).1; omega)]; exact hA.bx
    have h50L := getL h50
    refine awp_sel [1, 2, 3, 7, 8] (by simp only [jN, seval, vint, ksE_cells, kE_cells, ksE_drop1, kE_drop1, cfF, h5q, h50, h50L] <;> with_reducible rfl) ?_
    repeat (refine awp_seq ?_)
    refine g_eval (by simp only [jG, jO, jN, seval, y28, vint, ksE_cells, kE_cells, ksE_drop1, kE_drop1, cfF, h5q, h50, h50L] <;> with_reducible rfl) (by decide) (by repeat (first | exact Fin.base _ | with_reducible apply Fin.keep | apply Fin.drop)) ?_
    repeat (refine awp_seq ?_)
    refine awp_cond_false rfl (by simp only [jN, seval, vint, ksE_cells, kE_cells, ksE_drop1, kE_drop1, cfF, h5q, h50, h50L] <;> with_reducible rfl) ?_
    repeat (refine awp_seq ?_)
    refine awp_skip ?_
    repeat (refine awp_seq ?_)
    refine awp_ext ?_
    refine awp_region ?_
    refine e_take 2 (by simp only [jA, jO, jN, seval, y3, y24, vint, ksE_cells, kE_cells, ksE_drop1, kE_drop1, cfF, h5q, h50, h50L] <;> with_reducible rfl) (by decide) ?_
    refine aops_opF true vi (by rw [hvi]; simp) rfl (by decide) (v := .msl vi 0 N N) (e := some (vi, .row ((List.replicate N (0 : Int)).map vint))) (H' := H5 ++ [.row ((List.replicate N (0 : Int)).map vint)]) (by simp only [jD, jO, jN, seval, y3, y32, vint, ksE_cells, kE_cells, ksE_drop1, kE_drop1, cfF, gms, gmr, gm2, gm3, hfl, PV.fits, PV.cells, Int.toNat_natCast, amakeSlice] <;> rfl) (by rw [hvi]; simp [Eff.app]) ?_
    refine e_end (by simp only [jA, jO, jN, seval, vint, ksE_cells, kE_cells, ksE_drop1, kE_drop1, cfF, h5q, h50, h50L] <;> with_reducible rfl) (by decide) ?_
    repeat (refine awp_seq ?_)
    refine awp_abs (fun HL => LwS (N : Int) qs b1 n1 b2 n2 q vi (List.replicate N 0) (fun _ => 0) St.new (GQ qs b1 n1) (fun _ => 0) St.new (GQ qs b2 n2) HL) (by rw [hvi, hvl, hH5]; exact hA.lws hP N) ?_
    rintro HL hS0
    refine e_eval (by simp only [jA, jO, jN, seval, y3, y25, y34, vint, ksE_cells, kE_cells, ksE_drop1, kE_drop1, cfF, h5q, h50, h50L, gm, hk3, gmb, htk, and_false, if_false, ite_self, Option.isNone_some, Bool.false_eq_true, false_and, Int.toNat_natCast] <;> with_reducible rfl) (by decide) ?_
    repeat (refine awp_seq ?_)
    refine awp_block ?_
    refine awp_loopX (σ := Nat × List Int) (fun (z : Nat × List Int) => [(2, vint qn), (3, .optr 0 0), (7, .optr q 0), (8, .optr (n2 + 4) 0), (9, .msl vi 0 N N), (50, .slice (ks.map kE) .none), (51, vint (ks.length : Int)), (52, vint (z.1 : Int))]) (fun (z : Nat × List Int) =>  fun H1 => z.1 ≤ ks.length ∧ ∃ loc st G, LwS (N : Int) qs b1 n1 b2 n2 q vi z.2 loc st G (fun _ => 0) St.new (GQ qs b2 n2) H1 ∧ Ls qs N z.1 z.2 st) (fun (z : Nat × List Int) => ks.length - z.1) ((0, List.replicate N 0)) ⟨(by first | rfl | (simp only [jN, seval, vint, ksE_cells, kE_cells, ksE_drop1, kE_drop1, cfF, h5q, h50, h50L] <;> first | done | with_reducible rfl)), (by first | rfl | (simp only [jN, seval, vint, ksE_cells, kE_cells, ksE_drop1, kE_drop1, cfF, h5q, h50, h50L] <;> first | done | with_reducible rfl)), (by first | rfl | (simp only [jN, seval, vint, ksE_cells, kE_cells, ksE_drop1, kE_drop1, cfF, h5q, h50, h50L] <;> first | done | with_reducible rfl)), (by first | rfl | (simp only [jN, seval, vint, ksE_cells, kE_cells, ksE_drop1, kE_drop1, cfF, h5q, h50, h50L] <;> first | done | with_reducible rfl)), (by first | rfl | (simp only [jN, seval, vint, ksE_cells, kE_cells, ksE_drop1, kE_drop1, cfF, h5q, h50, h50L] <;> first | done | with_reducible rfl)), (by first | rfl | (simp only [jN, seval, vint, ksE_cells, kE_cells, ksE_drop1, kE_drop1, cfF, h5q, h50, h50L] <;> first | done | with_reducible rfl)), (by first | rfl | (simp only [jN, seval, vint, ksE_cells, kE_cells, ksE_drop1, kE_drop1, cfF, h5q, h50, h50L] <;> first | done | with_reducible rfl)), (by first | rfl | (simp only [jN, seval, vint, ksE_cells, kE_cells, ksE_drop1, kE_drop1, cfF, h5q, h50, h50L] <;> first | done | with_reducible rfl)), trivial⟩ (⟨Nat.zero_le _, _, _, _, hS0, Ls.new qs N⟩) ?_
    intro z H1 hg
    obtain ⟨HO, rfl⟩ : ∃ HO, HO = H1 := ⟨_, rfl⟩
    obtain ⟨i, vs⟩ := z
    obtain ⟨hi, loc, st, G, hS, hL⟩ := hg
    simp only at hi hS hL
    have gj : IntKind.i64.wrap ((i : Int) + 1) = ((i + 1 : Nat) : Int) := by rw [wrap_id (by omega) (by omega)]; omega
    have gl : decide ((i : Int) < (ks.length : Int)) = decide (i < ks.length) := by rw [decide_eq_decide]; omega
    have b0 := hS.bx
    have b0L := getL b0
    have hvs := hL.vl
    repeat (refine awp_seq ?_)
    refine e_eval (by simp only [jA, jO, jN, seval, y3, vint, ksE_cells, kE_cells, ksE_drop1, kE_drop1, cfF, h5q, h50, h50L, gj, gl, b0, b0L] <;> with_reducible rfl) (by decide) ?_
    repeat (refine awp_seq ?_)
    refine awp_cond rfl (by simp only [jN, seval, vint, ksE_cells, kE_cells, ksE_drop1, kE_drop1, cfF, h5q, h50, h50L, gj, gl, b0, b0L] <;> with_reducible rfl) (fun bt53 => ?_) (fun bt53 => ?_)
    ·
      have hlt : i < ks.length := of_decide_eq_true bt53
      have gi := ix_nat hlt
      have ge := get_enc kE hlt
      obtain ⟨k, hk⟩ : ∃ k, k = ks[i] := ⟨_, rfl⟩
      rw [← hk] at ge
      obtain ⟨k1, k2, k3⟩ := k
      obtain ⟨kq, hkq, hkq2⟩ : ∃ kq : Nat, k2 % (qs.length : Int) = (kq : Int) ∧ kq < qs.length := ⟨(k2 % (qs.length : Int)).toNat, by have := Int.emod_nonneg k2 (by omega : (qs.length : Int) ≠ 0); omega, by have := Int.emod_nonneg k2 (by omega : (qs.length : Int) ≠ 0); have := Int.emod_lt_of_pos k2 (by omega : (0 : Int) < (qs.length : Int)); omega⟩
      obtain ⟨a, ha, ha2⟩ : ∃ a : Nat, k2 % (N : Int) = (a : Int) ∧ a < N := ⟨(k2 % (N : Int)).toNat, by have := Int.emod_nonneg k2 (by omega : (N : Int) ≠ 0); omega, by have := Int.emod_nonneg k2 (by omega : (N : Int) ≠ 0); have := Int.emod_lt_of_pos k2 (by omega : (0 : Int) < (N : Int)); omega⟩
      obtain ⟨d, hd, hd2⟩ : ∃ d : Nat, k3 % 3 = (d : Int) ∧ d ≤ 2 := ⟨(k3 % 3).toNat, by omega, by omega⟩
      obtain ⟨c, hc, hc2⟩ : ∃ c : Nat, k3 % 5 = (c : Int) ∧ c < 5 := ⟨(k3 % 5).toNat, by omega, by omega⟩
      obtain ⟨bg, hbg⟩ : ∃ bg : Nat, k3 % 6 = (bg : Int) := ⟨(k3 % 6).toNat, by omega⟩
      have mkq : PC Try.prog 8 [vint k2, vint (qs.length : Int)] (vint (kq : Int)) := by rw [← hkq]; exact mod_c _ _ (by omega) (by omega)
      have ma : PC Try.prog 8 [vint k2, vint (N : Int)] (vint (a : Int)) := by rw [← ha]; exact mod_c _ _ (by omega) (by omega)
      have md : PC Try.prog 8 [vint k3, vint 3] (vint (d : Int)) := by rw [← hd]; exact mod_c _ _ (by omega) (by omega)
      have mc : PC Try.prog 8 [vint k3, vint 5] (vint (c : Int)) := by rw [← hc]; exact mod_c _ _ (by omega) (by omega)
      have mbg : PC Try.prog 8 [vint k3, vint 6] (vint (bg : Int)) := by rw [← hbg]; exact mod_c _ _ (by omega) (by omega)
      repeat (refine awp_seq ?_)
      refine awp_skip ?_
      repeat (refine awp_seq ?_)
      refine awp_block ?_
      repeat (refine awp_seq ?_)
      refine e_eval (by simp only [jA, jO, jN, seval, y25, y34, vint, ksE_cells, kE_cells, ksE_drop1, kE_drop1, cfF, h5q, h50, h50L, gj, gl, b0, b0L, gi, ge, Int.toNat_natCast, kE] <;> with_reducible rfl) (by decide) ?_
      repeat (refine awp_seq ?_)
      refine awp_region ?_
      refine e_take 5 (by simp only [jA, jO, jN, seval, y3, y22, y24, y34, y53, vint, ksE_cells, kE_cells, ksE_drop1, kE_drop1, cfF, h5q, h50, h50L, gj, gl, b0, b0L] <;> with_reducible rfl) (by decide) ?_
      refine aops_pure (by simp only [jC, jN, seval, vint, ksE_cells, kE_cells, ksE_drop1, kE_drop1, cfF, h5q, h50, h50L, gj, gl, b0, b0L] <;> with_reducible rfl) (by simp only [jC, jN, seval, vint, ksE_cells, kE_cells, ksE_drop1, kE_drop1, cfF, h5q, h50, h50L, gj, gl, b0, b0L]) (by decide) Trygo8 (mkq _) ?_
      refine e_end (by simp only [jA, jO, jN, seval, y37, vint, ksE_cells, kE_cells, ksE_drop1, kE_drop1, cfF, h5q, h50, h50L, gj, gl, b0, b0L] <;> with_reducible rfl) (by decide) ?_
      repeat (refine awp_seq ?_)
      obtain ⟨s, hs⟩ : ∃ s, s = HO.length := ⟨_, rfl⟩
      refine awp_abs (fun HA => LwS (N : Int) qs b1 n1 b2 n2 q vi vs loc st G (fun _ => 0) St.new (GQ qs b2 n2) HA ∧ HA[s]? = some (.row [vint k1, vint k2, vint k3]) ∧ HA[s + 1]? = some (.row [vint 1, vint (kq : Int), vint 0])) ⟨hS.fr hP fun id hid => by first | exact List.getElem?_append_left hid | (simp only [List.append_assoc]; exact List.getElem?_append_left hid), by rw [hs]; simp, by rw [hs]; simp⟩ ?_
      rw [← hs]
      rintro HA ⟨hSA, c1, c2⟩
      have hs1 := len_of_get c1
      have hs2 := len_of_get c2
      have a0 := hSA.bx
      have a7 := hSA.bq
      have av := hSA.bv
      have hvs1 : vi < s := by have := len_of_get hS.bv; omega
      have hqs1 : q < s := by have := len_of_get hS.bq; omega
      have h0s : 0 < s := by omega
      refine awp_region ?_
      refine e_take 2 (by simp only [jA, jO, jN, seval, y3, y34, vint, ksE_cells, kE_cells, ksE_drop1, kE_drop1, cfF, h5q, h50, h50L, gj, gl, b0, b0L, c1] <;> with_reducible rfl) (by decide) ?_
      refine aops_pure (by simp only [jC, jN, seval, vint, ksE_cells, kE_cells, ksE_drop1, kE_drop1, cfF, h5q, h50, h50L, gj, gl, b0, b0L, c1] <;> with_reducible rfl) (by simp only [jC, jN, seval, vint, ksE_cells, kE_cells, ksE_drop1, kE_drop1, cfF, h5q, h50, h50L, gj, gl, b0, b0L, c1]) (by decide) Trygo8 (mod_c k1 4 (by decide) (by decide) _) ?_
      refine aops_nil ?_
      repeat (refine awp_seq ?_)
      refine awp_block ?_
      refine awp_sel [2, 3, 7, 8, 9, 11, 12, 50, 51, 52, 65] (by simp only [jN, seval, vint, ksE_cells, kE_cells, ksE_drop1, kE_drop1, cfF, h5q, h50, h50L, gj, gl, b0, b0L] <;> with_reducible rfl) ?_
      repeat (refine awp_seq ?_)
      refine awp_join2 (σ := Unit) (fun (z : Unit) => [(2, vint qn), (3, .optr 0 0), (7, .optr q 0), (8, .optr (n2 + 4) 0), (9, .msl vi 0 N N), (50, .slice (ks.map kE) .none), (51, vint (ks.length : Int)), (52, vint (i : Int)), (11, .optr s 0), (12, .optr (s + 1) 0), (65, vint (k1 % 4)), (71, .bool (decide (k1 % 4 = 0 ∨ k1 % 4 = 1)))]) (fun (z : Unit) =>  fun HJ => HJ = HA) ?_ ?_
      · -- to the meeting
        repeat (refine awp_seq ?_)
        refine e_eval (by simp only [jA, jO, jN, seval, y3, vint, ksE_cells, kE_cells, ksE_drop1, kE_drop1, cfF, h5q, h50, h50L, gj, gl, b0, b0L] <;> with_reducible rfl) (by decide) ?_
        repeat (refine awp_seq ?_)
        refine awp_cond rfl (by simp only [jN, seval, vint, ksE_cells, kE_cells, ksE_drop1, kE_drop1, cfF, h5q, h50, h50L, gj, gl, b0, b0L] <;> with_reducible rfl) (fun bt71 => ?_) (fun bt71 => ?_)
        ·
          skip
          repeat (refine awp_seq ?_)
          refine awp_skip ?_
          refine ⟨(), ?_, rfl⟩
          first
            | (rw [show decide (k1 % 4 = 0 ∨ k1 % 4 = 1) = decide (k1 % 4 = 0) from by rw [decide_eq_decide]; have := of_decide_eq_true bt71; omega]; repeat (first | exact trivial | refine ⟨rfl, ?_⟩))
            | (rw [show decide (k1 % 4 = 0 ∨ k1 % 4 = 1) = decide (k1 % 4 = 1) from by rw [decide_eq_decide]; have := of_decide_eq_false bt71; omega]; repeat (first | exact trivial | refine ⟨rfl, ?_⟩))
        ·
          skip
          repeat (refine awp_seq ?_)
          refine e_eval (by simp only [jA, jO, jN, seval, y3, vint, ksE_cells, kE_cells, ksE_drop1, kE_drop1, cfF, h5q, h50, h50L, gj, gl, b0, b0L] <;> with_reducible rfl) (by decide) ?_
          refine ⟨(), ?_, rfl⟩
          first
            | (rw [show decide (k1 % 4 = 0 ∨ k1 % 4 = 1) = decide (k1 % 4 = 0) from by rw [decide_eq_decide]; have := of_decide_eq_true bt71; omega]; repeat (first | exact trivial | refine ⟨rfl, ?_⟩))
            | (rw [show decide (k1 % 4 = 0 ∨ k1 % 4 = 1) = decide (k1 % 4 = 1) from by rw [decide_eq_decide]; have := of_decide_eq_false bt71; omega]; repeat (first | exact trivial | refine ⟨rfl, ?_⟩))
      · intro z HJ hg
        have hg2 := hg.symm
        subst hg2
        repeat (refine awp_seq ?_)
        refine awp_cond rfl (by simp only [jN, seval, vint, ksE_cells, kE_cells, ksE_drop1, kE_drop1, cfF, h5q, h50, h50L, gj, gl, b0, b0L] <;> with_reducible rfl) (fun bt71 => ?_) (fun bt71 => ?_)
        ·
          skip
          repeat (refine awp_seq ?_)
          refine awp_region ?_
          refine e_take 4 (by simp only [jA, jO, jN, seval, y3, y24, y34, vint, ksE_cells, kE_cells, ksE_drop1, kE_drop1, cfF, h5q, h50, h50L, gj, gl, b0, b0L, c1, a0] <;> with_reducible rfl) (by decide) ?_
          refine aops_pure (by simp only [jC, jN, seval, vint, ksE_cells, kE_cells, ksE_drop1, kE_drop1, cfF, h5q, h50, h50L, gj, gl, b0, b0L, c1, a0] <;> with_reducible rfl) (by simp only [jC, jN, seval, vint, ksE_cells, kE_cells, ksE_drop1, kE_drop1, cfF, h5q, h50, h50L, gj, gl, b0, b0L, c1, a0]) (by decide) Trygo8 (ma _) ?_
          refine e_end (by simp only [jA, jO, jN, seval, vint, ksE_cells, kE_cells, ksE_drop1, kE_drop1, cfF, h5q, h50, h50L, gj, gl, b0, b0L, c1, a0] <;> with_reducible rfl) (by decide) ?_
          repeat (refine awp_seq ?_)
          have gav : (vs.map vint).length = N := by rw [List.length_map]; exact hvs
          have gia : ((0 : Int) ≤ (a : Int) ∧ (a : Int) < (N : Int)) = True := by simp; omega
          have gma : (a + 1 ≤ N) = True := by simp; omega
          have nvi : (vi = HA.length) = False := by have := len_of_get av; simp; omega
          have gst : (vs.map vint).set a (.int .i64 (c : Int)) = (vs.set a (c : Int)).map vint := by rw [List.map_set]
          refine awp_region ?_
          refine e_take 4 (by simp only [jA, jO, jN, seval, y3, y34, vint, ksE_cells, kE_cells, ksE_drop1, kE_drop1, cfF, h5q, h50, h50L, gj, gl, b0, b0L, c1, av, nvi, gav, gia, gma, gst, Int.toNat_natCast, Nat.mul_one, Nat.zero_add, splice] <;> with_reducible rfl) (by decide) ?_
          refine aops_pure (by simp only [jC, jN, seval, vint, ksE_cells, kE_cells, ksE_drop1, kE_drop1, cfF, h5q, h50, h50L, gj, gl, b0, b0L, c1, av, nvi, gav, gia, gma, gst, Int.toNat_natCast, Nat.mul_one, Nat.zero_add, splice] <;> with_reducible rfl) (by simp only [jC, jN, seval, vint, ksE_cells, kE_cells, ksE_drop1, kE_drop1, cfF, h5q, h50, h50L, gj, gl, b0, b0L, c1, av, nvi, gav, gia, gma, gst, Int.toNat_natCast, Nat.mul_one, Nat.zero_add, splice]) (by decide) Trygo8 (mc _) ?_
          refine e_end (by simp only [jA, jO, jN, seval, y3, y32, vint, ksE_cells, kE_cells, ksE_drop1, kE_drop1, cfF, h5q, h50, h50L, gj, gl, b0, b0L, c1, av, nvi, gav, gia, gma, gst, Int.toNat_natCast, Nat.mul_one, Nat.zero_add, splice] <;> with_reducible rfl) (by decide) ?_
          have hSB := hSA.setv hP (vs.set a (c : Int))
          have e7 := hSB.bq
          have ev := hSB.bv
          have e1 : (HA.set vi (.row ((vs.set a (c : Int)).map vint)))[s]? = some (.row [vint k1, vint k2, vint k3]) := by rw [List.getElem?_set_ne (by omega)]; exact c1
          have gvl : ((vs.set a (c : Int)).map vint).length = N := by simp [hvs]
          have gev : ((vs.set a (c : Int)).map vint)[a]? = some (.int .i64 (c : Int)) := by rw [List.getElem?_map, List.getElem?_set_self (by omega)]; rfl
          repeat (refine awp_seq ?_)
          refine awp_drawB 0 (by kernel_rfl) ?_
          simp only [List.replicate_zero, List.append_nil]
          refine seg_pure 12 (bm := [0, 0, 2, 0, 0, 24, 56, 120, 248, 0, 512, 1536, 4095]) (by kernel_rfl) (by decide) (by kernel_rfl) (by kernel_rfl) ?_
          refine dp_take 11 (by simp only [jP, jO, jN, seval, y3, y28, y32, y34, y37, y41, vint, ksE_cells, kE_cells, ksE_drop1, kE_drop1, cfF, e7, ev, e1, gvl, gev, gia, gma, Int.toNat_natCast, Nat.mul_one, Nat.zero_add] <;> with_reducible rfl) (by decide) ?_
          refine dp_keep (by simp only [jE, jN, seval, vint, ksE_cells, kE_cells, ksE_drop1, kE_drop1, cfF] <;> with_reducible rfl) (by simp only [jE, jN, seval, vint, ksE_cells, kE_cells, ksE_drop1, kE_drop1, cfF] <;> with_reducible rfl) (by simp only [jE, jN, seval, vint, ksE_cells, kE_cells, ksE_drop1, kE_drop1, cfF]) (by decide) Trygo8 (fun hc => md _) ?_
          refine dp_end (by simp only [jP, jO, jN, seval, vint, ksE_cells, kE_cells, ksE_drop1, kE_drop1, cfF, e7, ev, e1, gvl, gev, gia, gma, Int.toNat_natCast, Nat.mul_one, Nat.zero_add] <;> with_reducible rfl) (by decide) (by repeat (first | exact Fin.base _ | with_reducible apply Fin.keep | apply Fin.drop)) ?_
          refine seg_op (k := 12) (bm := [0, 0, 2, 0, 0, 24, 56, 120, 248, 0, 512, 1536, 4095]) (by kernel_rfl) rfl (by kernel_rfl) (by kernel_rfl) ?_
          refine aops_acall (by simp only [jC, jN, seval, vint, ksE_cells, kE_cells, ksE_drop1, kE_drop1, cfF] <;> with_reducible rfl) (by simp only [jC, jN, seval, vint, ksE_cells, kE_cells, ksE_drop1, kE_drop1, cfF]) (by decide) Trygo9 (set_x hP hSB hL (by omega) ha2 (b := (c : Int)) (by omega) hd2) ?_
          rintro _ HC ⟨rfl, st3, hS3, hL3⟩
          refine aops_nil ?_
          show GoAt _ _ _ _ _ _ _ _
          refine goat_end ?_
          refine awp_sel [2, 3, 7, 8, 9, 50, 51, 52] (by simp only [jN, seval, vint, ksE_cells, kE_cells, ksE_drop1, kE_drop1, cfF, h5q, h50, h50L, gj, gl, b0, b0L] <;> with_reducible rfl) ?_
          repeat (refine awp_seq ?_)
          refine e_eval (by simp only [jA, jO, jN, seval, y3, vint, ksE_cells, kE_cells, ksE_drop1, kE_drop1, cfF, h5q, h50, h50L, gj, gl, b0, b0L] <;> with_reducible rfl) (by decide) ?_
          try simp only [thenQ, blockQ]
          exact ⟨(i + 1, vs.set a (c : Int)), by show _ < _; omega, (by repeat (first | exact trivial | refine ⟨rfl, ?_⟩)), by show i + 1 ≤ _; omega, loc, st3, G, hS3, hL3⟩
        ·
          skip
          repeat (refine awp_seq ?_)
          refine e_eval (by simp only [jA, jO, jN, seval, y3, vint, ksE_cells, kE_cells, ksE_drop1, kE_drop1, cfF, h5q, h50, h50L, gj, gl, b0, b0L] <;> with_reducible rfl) (by decide) ?_
          repeat (refine awp_seq ?_)
          refine awp_cond rfl (by simp only [jN, seval, vint, ksE_cells, kE_cells, ksE_drop1, kE_drop1, cfF, h5q, h50, h50L, gj, gl, b0, b0L] <;> with_reducible rfl) (fun bt98 => ?_) (fun bt98 => ?_)
          ·
            skip
            repeat (refine awp_seq ?_)
            refine awp_gosX (fun e T Hz => e = .normal ∧ ∃ tk i4 i5, Fits T [(2, vint qn), (3, .optr 0 0), (7, .optr q 0), (8, .optr (n2 + 4) 0), (9, .msl vi 0 N N), (50, .slice (ks.map kE) .none), (51, vint (ks.length : Int)), (52, vint (i : Int)), (11, .optr s 0), (12, .optr (s + 1) 0), (14, .optr i4 0), (15, .optr i5 0)] ∧ HA.length ≤ Hz.length ∧ (∀ id, id < HA.length → Hz[id]? = HA[id]?) ∧ HA.length ≤ tk ∧ HA.length ≤ i4 ∧ HA.length ≤ i5 ∧ tk ≠ i4 ∧ tk ≠ i5 ∧ Hz[tk]? = some (tkRow false) ∧ Hz[i4]? = some (.row [.optr tk 0]) ∧ Hz[i5]? = some (.row [vint (bg : Int)])) (by kernel_rfl) (fun opr R' hops hR => ?_) (fun e T' HG hr => ?_)
            · have ya63 : ∀ (HH : Heap) (tk i4 i5 : Nat), A21 HA true true true tk i4 i5 HH → GoS Try.prog 177 0 opr R' 2 #[true, true, true, true, true, true, false, false] (mkS [(2, vint qn), (3, .optr 0 0), (7, .optr q 0), (8, .optr (n2 + 4) 0), (9, .msl vi 0 N N), (50, .slice (ks.map kE) .none), (51, vint (ks.length : Int)), (52, vint (i : Int)), (11, .optr s 0), (12, .optr (s + 1) 0), (100, .optr tk 0), (101, .optr s 2), (102, vint k3), (103, vint (bg : Int)), (14, .optr i4 0), (15, .optr i5 0)]) HH := by
                subst hops
                intro HH tk i4 i5 hA
                have q4 := (hA.t4 rfl).2
                have q5 := (hA.t5 rfl).2
                have n45 : (i4 = i5) = False := eq_false hA.ne.2.2
                have nl4 : (i4 = HH.length) = False := by have := len_of_get q4; simp; omega
                have nl5 : (i5 = (HH.set i4 (.row [.optr tk 0])).length) = False := by have := len_of_get q5; simp; omega
                have q5' : (HH.set i4 (.row [.optr tk 0]))[i5]? = some (.row [.int .i64 0]) := by rw [List.getElem?_set_ne hA.ne.2.2]; exact q5
                refine zs1 6 rfl (go_one (m := [(2, vint qn), (3, .optr 0 0), (7, .optr q 0), (8, .optr (n2 + 4) 0), (9, .msl vi 0 N N), (50, .slice (ks.map kE) .none), (51, vint (ks.length : Int)), (52, vint (i : Int)), (11, .optr s 0), (12, .optr (s + 1) 0), (100, .optr tk 0), (101, .optr s 2), (102, vint k3), (103, vint (bg : Int)), (14, .optr i4 0), (15, .optr i5 0)]) (by simp only [jA, jO, jN, seval, y42, vint, ksE_cells, kE_cells, ksE_drop1, kE_drop1, cfF, q4, nl4] <;> with_reducible rfl) ?_)
                refine zs1 7 rfl (go_one (m := [(2, vint qn), (3, .optr 0 0), (7, .optr q 0), (8, .optr (n2 + 4) 0), (9, .msl vi 0 N N), (50, .slice (ks.map kE) .none), (51, vint (ks.length : Int)), (52, vint (i : Int)), (11, .optr s 0), (12, .optr (s + 1) 0), (14, .optr i4 0), (15, .optr i5 0)]) (by simp only [jA, jO, jN, seval, y3, vint, ksE_cells, kE_cells, ksE_drop1, kE_drop1, cfF, q5', nl5] <;> with_reducible rfl) (gos_nil ?_))
                rw [hR]
                exact ⟨rfl, tk, i4, i5, by repeat (first | exact trivial | refine ⟨rfl, ?_⟩), hA.fin (bg : Int) rfl⟩
              have ya31 : ∀ (HH : Heap) (tk i4 i5 : Nat), A21 HA true true false tk i4 i5 HH → GoS Try.prog 177 0 opr R' 3 #[true, true, true, true, true, false, false, false] (mkS [(2, vint qn), (3, .optr 0 0), (7, .optr q 0), (8, .optr (n2 + 4) 0), (9, .msl vi 0 N N), (50, .slice (ks.map kE) .none), (51, vint (ks.length : Int)), (52, vint (i : Int)), (11, .optr s 0), (12, .optr (s + 1) 0), (100, .optr tk 0), (101, .optr s 2), (102, vint k3), (103, vint (bg : Int)), (14, .optr i4 0)]) HH := by
                subst hops
                intro HH tk i4 i5 hA
                have g1 := (hA.sm s hs1).trans c1
                refine zs1 5 rfl (go_one (by simp only [jA, jO, jN, seval, y3, vint, ksE_cells, kE_cells, ksE_drop1, kE_drop1, cfF, g1] <;> with_reducible rfl) (ya63 _ tk i4 HH.length hA.s5))
              have ya47 : ∀ (HH : Heap) (tk i4 i5 : Nat), A21 HA true false true tk i4 i5 HH → GoS Try.prog 177 0 opr R' 3 #[true, true, true, true, false, true, false, false] (mkS [(2, vint qn), (3, .optr 0 0), (7, .optr q 0), (8, .optr (n2 + 4) 0), (9, .msl vi 0 N N), (50, .slice (ks.map kE) .none), (51, vint (ks.length : Int)), (52, vint (i : Int)), (11, .optr s 0), (12, .optr (s + 1) 0), (100, .optr tk 0), (101, .optr s 2), (102, vint k3), (103, vint (bg : Int)), (15, .optr i5 0)]) HH := by
                subst hops
                intro HH tk i4 i5 hA
                have g1 := (hA.sm s hs1).trans c1
                refine zs1 4 rfl (go_one (by simp only [jA, jO, jN, seval, y42, vint, ksE_cells, kE_cells, ksE_drop1, kE_drop1, cfF, g1] <;> with_reducible rfl) (ya63 _ tk HH.length i5 hA.s4))
              have ya15 : ∀ (HH : Heap) (tk i4 i5 : Nat), A21 HA true false false tk i4 i5 HH → GoS Try.prog 177 0 opr R' 4 #[true, true, true, true, false, false, false, false] (mkS [(2, vint qn), (3, .optr 0 0), (7, .optr q 0), (8, .optr (n2 + 4) 0), (9, .msl vi 0 N N), (50, .slice (ks.map kE) .none), (51, vint (ks.length : Int)), (52, vint (i : Int)), (11, .optr s 0), (12, .optr (s + 1) 0), (100, .optr tk 0), (101, .optr s 2), (102, vint k3), (103, vint (bg : Int))]) HH := by
                subst hops
                intro HH tk i4 i5 hA
                have g1 := (hA.sm s hs1).trans c1
                refine zs2 4 5 rfl rfl (go_one (by simp only [jA, jO, jN, seval, y42, vint, ksE_cells, kE_cells, ksE_drop1, kE_drop1, cfF, g1] <;> with_reducible rfl) (ya31 _ tk HH.length i5 hA.s4)) (go_one (by simp only [jA, jO, jN, seval, y3, vint, ksE_cells, kE_cells, ksE_drop1, kE_drop1, cfF, g1] <;> with_reducible rfl) (ya47 _ tk i4 HH.length hA.s5))
              have ya55 : ∀ (HH : Heap) (tk i4 i5 : Nat), A21 HA true true true tk i4 i5 HH → GoS Try.prog 177 0 opr R' 3 #[true, true, true, false, true, true, false, false] (mkS [(2, vint qn), (3, .optr 0 0), (7, .optr q 0), (8, .optr (n2 + 4) 0), (9, .msl vi 0 N N), (50, .slice (ks.map kE) .none), (51, vint (ks.length : Int)), (52, vint (i : Int)), (11, .optr s 0), (12, .optr (s + 1) 0), (100, .optr tk 0), (101, .optr s 2), (102, vint k3), (14, .optr i4 0), (15, .optr i5 0)]) HH := by
                subst hops
                intro HH tk i4 i5 hA
                have g1 := (hA.sm s hs1).trans c1
                refine zs1 3 rfl ?_
                · refine aops_pure (by simp only [jC, jN, seval, vint, ksE_cells, kE_cells, ksE_drop1, kE_drop1, cfF] <;> with_reducible rfl) (by simp only [jC, jN, seval, vint, ksE_cells, kE_cells, ksE_drop1, kE_drop1, cfF]) (by decide) Trygo8 (mbg _) ?_
                  refine aops_nil ?_
                  exact (ya63 HH tk i4 i5 hA).weak (mkS_weak (by repeat (first | exact trivial | refine ⟨rfl, ?_⟩)))
              have ya23 : ∀ (HH : Heap) (tk i4 i5 : Nat), A21 HA true true false tk i4 i5 HH → GoS Try.prog 177 0 opr R' 4 #[true, true, true, false, true, false, false, false] (mkS [(2, vint qn), (3, .optr 0 0), (7, .optr q 0), (8, .optr (n2 + 4) 0), (9, .msl vi 0 N N), (50, .slice (ks.map kE) .none), (51, vint (ks.length : Int)), (52, vint (i : Int)), (11, .optr s 0), (12, .optr (s + 1) 0), (100, .optr tk 0), (101, .optr s 2), (102, vint k3), (14, .optr i4 0)]) HH := by
                subst hops
                intro HH tk i4 i5 hA
                have g1 := (hA.sm s hs1).trans c1
                refine zs2 3 5 rfl rfl ?_ (go_one (by simp only [jA, jO, jN, seval, y3, vint, ksE_cells, kE_cells, ksE_drop1, kE_drop1, cfF, g1] <;> with_reducible rfl) (ya55 _ tk i4 HH.length hA.s5))
                · refine aops_pure (by simp only [jC, jN, seval, vint, ksE_cells, kE_cells, ksE_drop1, kE_drop1, cfF] <;> with_reducible rfl) (by simp only [jC, jN, seval, vint, ksE_cells, kE_cells, ksE_drop1, kE_drop1, cfF]) (by decide) Trygo8 (mbg _) ?_
                  refine aops_nil ?_
                  exact (ya31 HH tk i4 i5 hA).weak (mkS_weak (by repeat (first | exact trivial | refine ⟨rfl, ?_⟩)))
              have ya39 : ∀ (HH : Heap) (tk i4 i5 : Nat), A21 HA true false true tk i4 i5 HH → GoS Try.prog 177 0 opr R' 4 #[true, true, true, false, false, true, false, false] (mkS [(2, vint qn), (3, .optr 0 0), (7, .optr q 0), (8, .optr (n2 + 4) 0), (9, .msl vi 0 N N), (50, .slice (ks.map kE) .none), (51, vint (ks.length : Int)), (52, vint (i : Int)), (11, .optr s 0), (12, .optr (s + 1) 0), (100, .optr tk 0), (101, .optr s 2), (102, vint k3), (15, .optr i5 0)]) HH := by
                subst hops
                intro HH tk i4 i5 hA
                have g1 := (hA.sm s hs1).trans c1
                refine zs2 3 4 rfl rfl ?_ (go_one (by simp only [jA, jO, jN, seval, y42, vint, ksE_cells, kE_cells, ksE_drop1, kE_drop1, cfF, g1] <;> with_reducible rfl) (ya55 _ tk HH.length i5 hA.s4))
                · refine aops_pure (by simp only [jC, jN, seval, vint, ksE_cells, kE_cells, ksE_drop1, kE_drop1, cfF] <;> with_reducible rfl) (by simp only [jC, jN, seval, vint, ksE_cells, kE_cells, ksE_drop1, kE_drop1, cfF]) (by decide) Trygo8 (mbg _) ?_
                  refine aops_nil ?_
                  exact (ya47 HH tk i4 i5 hA).weak (mkS_weak (by repeat (first | exact trivial | refine ⟨rfl, ?_⟩)))
              have ya7 : ∀ (HH : Heap) (tk i4 i5 : Nat), A21 HA true false false tk i4 i5 HH → GoS Try.prog 177 0 opr R' 5 #[true, true, true, false, false, false, false, false] (mkS [(2, vint qn), (3, .optr 0 0), (7, .optr q 0), (8, .optr (n2 + 4) 0), (9, .msl vi 0 N N), (50, .slice (ks.map kE) .none), (51, vint (ks.length : Int)), (52, vint (i : Int)), (11, .optr s 0), (12, .optr (s + 1) 0), (100, .optr tk 0), (101, .optr s 2), (102, vint k3)]) HH := by
                subst hops
                intro HH tk i4 i5 hA
                have g1 := (hA.sm s hs1).trans c1
                refine zs3 3 4 5 rfl rfl rfl ?_ (go_one (by simp only [jA, jO, jN, seval, y42, vint, ksE_cells, kE_cells, ksE_drop1, kE_drop1, cfF, g1] <;> with_reducible rfl) (ya23 _ tk HH.length i5 hA.s4)) (go_one (by simp only [jA, jO, jN, seval, y3, vint, ksE_cells, kE_cells, ksE_drop1, kE_drop1, cfF, g1] <;> with_reducible rfl) (ya39 _ tk i4 HH.length hA.s5))
                · refine aops_pure (by simp only [jC, jN, seval, vint, ksE_cells, kE_cells, ksE_drop1, kE_drop1, cfF] <;> with_reducible rfl) (by simp only [jC, jN, seval, vint, ksE_cells, kE_cells, ksE_drop1, kE_drop1, cfF]) (by decide) Trygo8 (mbg _) ?_
                  refine aops_nil ?_
                  exact (ya15 HH tk i4 i5 hA).weak (mkS_weak (by repeat (first | exact trivial | refine ⟨rfl, ?_⟩)))
              have ya54 : ∀ (HH : Heap) (tk i4 i5 : Nat), A21 HA false true true tk i4 i5 HH → GoS Try.prog 177 0 opr R' 4 #[false, true, true, false, true, true, false, false] (mkS [(2, vint qn), (3, .optr 0 0), (7, .optr q 0), (8, .optr (n2 + 4) 0), (9, .msl vi 0 N N), (50, .slice (ks.map kE) .none), (51, vint (ks.length : Int)), (52, vint (i : Int)), (11, .optr s 0), (12, .optr (s + 1) 0), (101, .optr s 2), (102, vint k3), (14, .optr i4 0), (15, .optr i5 0)]) HH := by
                subst hops
                intro HH tk i4 i5 hA
                have g1 := (hA.sm s hs1).trans c1
                refine zs1 0 rfl ?_
                · refine aops_acall (by simp only [jC, jN, seval, vint, ksE_cells, kE_cells, ksE_drop1, kE_drop1, cfF] <;> with_reducible rfl) (by simp only [jC, jN, seval, vint, ksE_cells, kE_cells, ksE_drop1, kE_drop1, cfF]) (by decide) Trygo10 (tokNew HH) ?_
                  rintro _ _ ⟨rfl, rfl⟩
                  refine aops_nil ?_
                  exact (ya55 _ HH.length i4 i5 hA.s0).weak (mkS_weak (by repeat (first | exact trivial | refine ⟨rfl, ?_⟩)))
              have ya22 : ∀ (HH : Heap) (tk i4 i5 : Nat), A21 HA false true false tk i4 i5 HH → GoS Try.prog 177 0 opr R' 5 #[false, true, true, false, true, false, false, false] (mkS [(2, vint qn), (3, .optr 0 0), (7, .optr q 0), (8, .optr (n2 + 4) 0), (9, .msl vi 0 N N), (50, .slice (ks.map kE) .none), (51, vint (ks.length : Int)), (52, vint (i : Int)), (11, .optr s 0), (12, .optr (s + 1) 0), (101, .optr s 2), (102, vint k3), (14, .optr i4 0)]) HH := by
                subst hops
                intro HH tk i4 i5 hA
                have g1 := (hA.sm s hs1).trans c1
                refine zs2 0 5 rfl rfl ?_ (go_one (by simp only [jA, jO, jN, seval, y3, vint, ksE_cells, kE_cells, ksE_drop1, kE_drop1, cfF, g1] <;> with_reducible rfl) (ya54 _ tk i4 HH.length hA.s5))
                · refine aops_acall (by simp only [jC, jN, seval, vint, ksE_cells, kE_cells, ksE_drop1, kE_drop1, cfF] <;> with_reducible rfl) (by simp only [jC, jN, seval, vint, ksE_cells, kE_cells, ksE_drop1, kE_drop1, cfF]) (by decide) Trygo10 (tokNew HH) ?_
                  rintro _ _ ⟨rfl, rfl⟩
                  refine aops_nil ?_
                  exact (ya23 _ HH.length i4 i5 hA.s0).weak (mkS_weak (by repeat (first | exact trivial | refine ⟨rfl, ?_⟩)))
              have ya38 : ∀ (HH : Heap) (tk i4 i5 : Nat), A21 HA false false true tk i4 i5 HH → GoS Try.prog 177 0 opr R' 5 #[false, true, true, false, false, true, false, false] (mkS [(2, vint qn), (3, .optr 0 0), (7, .optr q 0), (8, .optr (n2 + 4) 0), (9, .msl vi 0 N N), (50, .slice (ks.map kE) .none), (51, vint (ks.length : Int)), (52, vint (i : Int)), (11, .optr s 0), (12, .optr (s + 1) 0), (101, .optr s 2), (102, vint k3), (15, .optr i5 0)]) HH := by
                subst hops
                intro HH tk i4 i5 hA
                have g1 := (hA.sm s hs1).trans c1
                refine zs2 0 4 rfl rfl ?_ (go_one (by simp only [jA, jO, jN, seval, y42, vint, ksE_cells, kE_cells, ksE_drop1, kE_drop1, cfF, g1] <;> with_reducible rfl) (ya54 _ tk HH.length i5 hA.s4))
                · refine aops_acall (by simp only [jC, jN, seval, vint, ksE_cells, kE_cells, ksE_drop1, kE_drop1, cfF] <;> with_reducible rfl) (by simp only [jC, jN, seval, vint, ksE_cells, kE_cells, ksE_drop1, kE_drop1, cfF]) (by decide) Trygo10 (tokNew HH) ?_
                  rintro _ _ ⟨rfl, rfl⟩
                  refine aops_nil ?_
                  exact (ya39 _ HH.length i4 i5 hA.s0).weak (mkS_weak (by repeat (first | exact trivial | refine ⟨rfl, ?_⟩)))
              have ya6 : ∀ (HH : Heap) (tk i4 i5 : Nat), A21 HA false false false tk i4 i5 HH → GoS Try.prog 177 0 opr R' 6 #[false, true, true, false, false, false, false, false] (mkS [(2, vint qn), (3, .optr 0 0), (7, .optr q 0), (8, .optr (n2 + 4) 0), (9, .msl vi 0 N N), (50, .slice (ks.map kE) .none), (51, vint (ks.length : Int)), (52, vint (i : Int)), (11, .optr s 0), (12, .optr (s + 1) 0), (101, .optr s 2), (102, vint k3)]) HH := by
                subst hops
                intro HH tk i4 i5 hA
                have g1 := (hA.sm s hs1).trans c1
                refine zs3 0 4 5 rfl rfl rfl ?_ (go_one (by simp only [jA, jO, jN, seval, y42, vint, ksE_cells, kE_cells, ksE_drop1, kE_drop1, cfF, g1] <;> with_reducible rfl) (ya22 _ tk HH.length i5 hA.s4)) (go_one (by simp only [jA, jO, jN, seval, y3, vint, ksE_cells, kE_cells, ksE_drop1, kE_drop1, cfF, g1] <;> with_reducible rfl) (ya38 _ tk i4 HH.length hA.s5))
                · refine aops_acall (by simp only [jC, jN, seval, vint, ksE_cells, kE_cells, ksE_drop1, kE_drop1, cfF] <;> with_reducible rfl) (by simp only [jC, jN, seval, vint, ksE_cells, kE_cells, ksE_drop1, kE_drop1, cfF]) (by decide) Trygo10 (tokNew HH) ?_
                  rintro _ _ ⟨rfl, rfl⟩
                  refine aops_nil ?_
                  exact (ya7 _ HH.length i4 i5 hA.s0).weak (mkS_weak (by repeat (first | exact trivial | refine ⟨rfl, ?_⟩)))
              have ya51 : ∀ (HH : Heap) (tk i4 i5 : Nat), A21 HA true true true tk i4 i5 HH → GoS Try.prog 177 0 opr R' 4 #[true, true, false, false, true, true, false, false] (mkS [(2, vint qn), (3, .optr 0 0), (7, .optr q 0), (8, .optr (n2 + 4) 0), (9, .msl vi 0 N N), (50, .slice (ks.map kE) .none), (51, vint (ks.length : Int)), (52, vint (i : Int)), (11, .optr s 0), (12, .optr (s + 1) 0), (100, .optr tk 0), (101, .optr s 2), (14, .optr i4 0), (15, .optr i5 0)]) HH := by
                subst hops
                intro HH tk i4 i5 hA
                have g1 := (hA.sm s hs1).trans c1
                refine zs1 2 rfl (go_one (by simp only [jA, jO, jN, seval, y3, vint, ksE_cells, kE_cells, ksE_drop1, kE_drop1, cfF, g1] <;> with_reducible rfl) (ya55 HH tk i4 i5 hA))
              have ya19 : ∀ (HH : Heap) (tk i4 i5 : Nat), A21 HA true true false tk i4 i5 HH → GoS Try.prog 177 0 opr R' 5 #[true, true, false, false, true, false, false, false] (mkS [(2, vint qn), (3, .optr 0 0), (7, .optr q 0), (8, .optr (n2 + 4) 0), (9, .msl vi 0 N N), (50, .slice (ks.map kE) .none), (51, vint (ks.length : Int)), (52, vint (i : Int)), (11, .optr s 0), (12, .optr (s + 1) 0), (100, .optr tk 0), (101, .optr s 2), (14, .optr i4 0)]) HH := by
                subst hops
                intro HH tk i4 i5 hA
                have g1 := (hA.sm s hs1).trans c1
                refine zs2 2 5 rfl rfl (go_one (by simp only [jA, jO, jN, seval, y3, vint, ksE_cells, kE_cells, ksE_drop1, kE_drop1, cfF, g1] <;> with_reducible rfl) (ya23 HH tk i4 i5 hA)) (go_one (by simp only [jA, jO, jN, seval, y3, vint, ksE_cells, kE_cells, ksE_drop1, kE_drop1, cfF, g1] <;> with_reducible rfl) (ya51 _ tk i4 HH.length hA.s5))
              have ya35 : ∀ (HH : Heap) (tk i4 i5 : Nat), A21 HA true false true tk i4 i5 HH → GoS Try.prog 177 0 opr R' 5 #[true, true, false, false, false, true, false, false] (mkS [(2, vint qn), (3, .optr 0 0), (7, .optr q 0), (8, .optr (n2 + 4) 0), (9, .msl vi 0 N N), (50, .slice (ks.map kE) .none), (51, vint (ks.length : Int)), (52, vint (i : Int)), (11, .optr s 0), (12, .optr (s + 1) 0), (100, .optr tk 0), (101, .optr s 2), (15, .optr i5 0)]) HH := by
                subst hops
                intro HH tk i4 i5 hA
                have g1 := (hA.sm s hs1).trans c1
                refine zs2 2 4 rfl rfl (go_one (by simp only [jA, jO, jN, seval, y3, vint, ksE_cells, kE_cells, ksE_drop1, kE_drop1, cfF, g1] <;> with_reducible rfl) (ya39 HH tk i4 i5 hA)) (go_one (by simp only [jA, jO, jN, seval, y42, vint, ksE_cells, kE_cells, ksE_drop1, kE_drop1, cfF, g1] <;> with_reducible rfl) (ya51 _ tk HH.length i5 hA.s4))
              have ya3 : ∀ (HH : Heap) (tk i4 i5 : Nat), A21 HA true false false tk i4 i5 HH → GoS Try.prog 177 0 opr R' 6 #[true, true, false, false, false, false, false, false] (mkS [(2, vint qn), (3, .optr 0 0), (7, .optr q 0), (8, .optr (n2 + 4) 0), (9, .msl vi 0 N N), (50, .slice (ks.map kE) .none), (51, vint (ks.length : Int)), (52, vint (i : Int)), (11, .optr s 0), (12, .optr (s + 1) 0), (100, .optr tk 0), (101, .optr s 2)]) HH := by
                subst hops
                intro HH tk i4 i5 hA
                have g1 := (hA.sm s hs1).trans c1
                refine zs3 2 4 5 rfl rfl rfl (go_one (by simp only [jA, jO, jN, seval, y3, vint, ksE_cells, kE_cells, ksE_drop1, kE_drop1, cfF, g1] <;> with_reducible rfl) (ya7 HH tk i4 i5 hA)) (go_one (by simp only [jA, jO, jN, seval, y42, vint, ksE_cells, kE_cells, ksE_drop1, kE_drop1, cfF, g1] <;> with_reducible rfl) (ya19 _ tk HH.length i5 hA.s4)) (go_one (by simp only [jA, jO, jN, seval, y3, vint, ksE_cells, kE_cells, ksE_drop1, kE_drop1, cfF, g1] <;> with_reducible rfl) (ya35 _ tk i4 HH.length hA.s5))
              have ya50 : ∀ (HH : Heap) (tk i4 i5 : Nat), A21 HA false true true tk i4 i5 HH → GoS Try.prog 177 0 opr R' 5 #[false, true, false, false, true, true, false, false] (mkS [(2, vint qn), (3, .optr 0 0), (7, .optr q 0), (8, .optr (n2 + 4) 0), (9, .msl vi 0 N N), (50, .slice (ks.map kE) .none), (51, vint (ks.length : Int)), (52, vint (i : Int)), (11, .optr s 0), (12, .optr (s + 1) 0), (101, .optr s 2), (14, .optr i4 0), (15, .optr i5 0)]) HH := by
                subst hops
                intro HH tk i4 i5 hA
                have g1 := (hA.sm s hs1).trans c1
                refine zs2 0 2 rfl rfl ?_ (go_one (by simp only [jA, jO, jN, seval, y3, vint, ksE_cells, kE_cells, ksE_drop1, kE_drop1, cfF, g1] <;> with_reducible rfl) (ya54 HH tk i4 i5 hA))
                · refine aops_acall (by simp only [jC, jN, seval, vint, ksE_cells, kE_cells, ksE_drop1, kE_drop1, cfF] <;> with_reducible rfl) (by simp only [jC, jN, seval, vint, ksE_cells, kE_cells, ksE_drop1, kE_drop1, cfF]) (by decide) Trygo10 (tokNew HH) ?_
                  rintro _ _ ⟨rfl, rfl⟩
                  refine aops_nil ?_
                  exact (ya51 _ HH.length i4 i5 hA.s0).weak (mkS_weak (by repeat (first | exact trivial | refine ⟨rfl, ?_⟩)))
              have ya18 : ∀ (HH : Heap) (tk i4 i5 : Nat), A21 HA false true false tk i4 i5 HH → GoS Try.prog 177 0 opr R' 6 #[false, true, false, false, true, false, false, false] (mkS [(2, vint qn), (3, .optr 0 0), (7, .optr q 0), (8, .optr (n2 + 4) 0), (9, .msl vi 0 N N), (50, .slice (ks.map kE) .none), (51, vint (ks.length : Int)), (52, vint (i : Int)), (11, .optr s 0), (12, .optr (s + 1) 0), (101, .optr s 2), (14, .optr i4 0)]) HH := by
                subst hops
                intro HH tk i4 i5 hA
                have g1 := (hA.sm s hs1).trans c1
                refine zs3 0 2 5 rfl rfl rfl ?_ (go_one (by simp only [jA, jO, jN, seval, y3, vint, ksE_cells, kE_cells, ksE_drop1, kE_drop1, cfF, g1] <;> with_reducible rfl) (ya22 HH tk i4 i5 hA)) (go_one (by simp only [jA, jO, jN, seval, y3, vint, ksE_cells, kE_cells, ksE_drop1, kE_drop1, cfF, g1] <;> with_reducible rfl) (ya50 _ tk i4 HH.length hA.s5))
                · refine aops_acall (by simp only [jC, jN, seval, vint, ksE_cells, kE_cells, ksE_drop1, kE_drop1, cfF] <;> with_reducible rfl) (by simp only [jC, jN, seval, vint, ksE_cells, kE_cells, ksE_drop1, kE_drop1, cfF]) (by decide) Trygo10 (tokNew HH) ?_
                  rintro _ _ ⟨rfl, rfl⟩
                  refine aops_nil ?_
                  exact (ya19 _ HH.length i4 i5 hA.s0).weak (mkS_weak (by repeat (first | exact trivial | refine ⟨rfl, ?_⟩)))
              have ya34 : ∀ (HH : Heap) (tk i4 i5 : Nat), A21 HA false false true tk i4 i5 HH → GoS Try.prog 177 0 opr R' 6 #[false, true, false, false, false, true, false, false] (mkS [(2, vint qn), (3, .optr 0 0), (7, .optr q 0), (8, .optr (n2 + 4) 0), (9, .msl vi 0 N N), (50, .slice (ks.map kE) .none), (51, vint (ks.length : Int)), (52, vint (i : Int)), (11, .optr s 0), (12, .optr (s + 1) 0), (101, .optr s 2), (15, .optr i5 0)]) HH := by
                subst hops
                intro HH tk i4 i5 hA
                have g1 := (hA.sm s hs1).trans c1
                refine zs3 0 2 4 rfl rfl rfl ?_ (go_one (by simp only [jA, jO, jN, seval, y3, vint, ksE_cells, kE_cells, ksE_drop1, kE_drop1, cfF, g1] <;> with_reducible rfl) (ya38 HH tk i4 i5 hA)) (go_one (by simp only [jA, jO, jN, seval, y42, vint, ksE_cells, kE_cells, ksE_drop1, kE_drop1, cfF, g1] <;> with_reducible rfl) (ya50 _ tk HH.length i5 hA.s4))
                · refine aops_acall (by simp only [jC, jN, seval, vint, ksE_cells, kE_cells, ksE_drop1, kE_drop1, cfF] <;> with_reducible rfl) (by simp only [jC, jN, seval, vint, ksE_cells, kE_cells, ksE_drop1, kE_drop1, cfF]) (by decide) Trygo10 (tokNew HH) ?_
                  rintro _ _ ⟨rfl, rfl⟩
                  refine aops_nil ?_
                  exact (ya35 _ HH.length i4 i5 hA.s0).weak (mkS_weak (by repeat (first | exact trivial | refine ⟨rfl, ?_⟩)))
              have ya2 : ∀ (HH : Heap) (tk i4 i5 : Nat), A21 HA false false false tk i4 i5 HH → GoS Try.prog 177 0 opr R' 7 #[false, true, false, false, false, false, false, false] (mkS [(2, vint qn), (3, .optr 0 0), (7, .optr q 0), (8, .optr (n2 + 4) 0), (9, .msl vi 0 N N), (50, .slice (ks.map kE) .none), (51, vint (ks.length : Int)), (52, vint (i : Int)), (11, .optr s 0), (12, .optr (s + 1) 0), (101, .optr s 2)]) HH := by
                subst hops
                intro HH tk i4 i5 hA
                have g1 := (hA.sm s hs1).trans c1
                refine zs4 0 2 4 5 rfl rfl rfl rfl ?_ (go_one (by simp only [jA, jO, jN, seval, y3, vint, ksE_cells, kE_cells, ksE_drop1, kE_drop1, cfF, g1] <;> with_reducible rfl) (ya6 HH tk i4 i5 hA)) (go_one (by simp only [jA, jO, jN, seval, y42, vint, ksE_cells, kE_cells, ksE_drop1, kE_drop1, cfF, g1] <;> with_reducible rfl) (ya18 _ tk HH.length i5 hA.s4)) (go_one (by simp only [jA, jO, jN, seval, y3, vint, ksE_cells, kE_cells, ksE_drop1, kE_drop1, cfF, g1] <;> with_reducible rfl) (ya34 _ tk i4 HH.length hA.s5))
                · refine aops_acall (by simp only [jC, jN, seval, vint, ksE_cells, kE_cells, ksE_drop1, kE_drop1, cfF] <;> with_reducible rfl) (by simp only [jC, jN, seval, vint, ksE_cells, kE_cells, ksE_drop1, kE_drop1, cfF]) (by decide) Trygo10 (tokNew HH) ?_
                  rintro _ _ ⟨rfl, rfl⟩
                  refine aops_nil ?_
                  exact (ya3 _ HH.length i4 i5 hA.s0).weak (mkS_weak (by repeat (first | exact trivial | refine ⟨rfl, ?_⟩)))
              have ya49 : ∀ (HH : Heap) (tk i4 i5 : Nat), A21 HA true true true tk i4 i5 HH → GoS Try.prog 177 0 opr R' 5 #[true, false, false, false, true, true, false, false] (mkS [(2, vint qn), (3, .optr 0 0), (7, .optr q 0), (8, .optr (n2 + 4) 0), (9, .msl vi 0 N N), (50, .slice (ks.map kE) .none), (51, vint (ks.length : Int)), (52, vint (i : Int)), (11, .optr s 0), (12, .optr (s + 1) 0), (100, .optr tk 0), (14, .optr i4 0), (15, .optr i5 0)]) HH := by
                subst hops
                intro HH tk i4 i5 hA
                have g1 := (hA.sm s hs1).trans c1
                refine zs1 1 rfl (go_one (by simp only [jA, jO, jN, seval, y34, vint, ksE_cells, kE_cells, ksE_drop1, kE_drop1, cfF, g1] <;> with_reducible rfl) (ya51 HH tk i4 i5 hA))
              have ya17 : ∀ (HH : Heap) (tk i4 i5 : Nat), A21 HA true true false tk i4 i5 HH → GoS Try.prog 177 0 opr R' 6 #[true, false, false, false, true, false, false, false] (mkS [(2, vint qn), (3, .optr 0 0), (7, .optr q 0), (8, .optr (n2 + 4) 0), (9, .msl vi 0 N N), (50, .slice (ks.map kE) .none), (51, vint (ks.length : Int)), (52, vint (i : Int)), (11, .optr s 0), (12, .optr (s + 1) 0), (100, .optr tk 0), (14, .optr i4 0)]) HH := by
                subst hops
                intro HH tk i4 i5 hA
                have g1 := (hA.sm s hs1).trans c1
                refine zs2 1 5 rfl rfl (go_one (by simp only [jA, jO, jN, seval, y34, vint, ksE_cells, kE_cells, ksE_drop1, kE_drop1, cfF, g1] <;> with_reducible rfl) (ya19 HH tk i4 i5 hA)) (go_one (by simp only [jA, jO, jN, seval, y3, vint, ksE_cells, kE_cells, ksE_drop1, kE_drop1, cfF, g1] <;> with_reducible rfl) (ya49 _ tk i4 HH.length hA.s5))
              have ya33 : ∀ (HH : Heap) (tk i4 i5 : Nat), A21 HA true false true tk i4 i5 HH → GoS Try.prog 177 0 opr R' 6 #[true, false, false, false, false, true, false, false] (mkS [(2, vint qn), (3, .optr 0 0), (7, .optr q 0), (8, .optr (n2 + 4) 0), (9, .msl vi 0 N N), (50, .slice (ks.map kE) .none), (51, vint (ks.length : Int)), (52, vint (i : Int)), (11, .optr s 0), (12, .optr (s + 1) 0), (100, .optr tk 0), (15, .optr i5 0)]) HH := by
                subst hops
                intro HH tk i4 i5 hA
                have g1 := (hA.sm s hs1).trans c1
                refine zs2 1 4 rfl rfl (go_one (by simp only [jA, jO, jN, seval, y34, vint, ksE_cells, kE_cells, ksE_drop1, kE_drop1, cfF, g1] <;> with_reducible rfl) (ya35 HH tk i4 i5 hA)) (go_one (by simp only [jA, jO, jN, seval, y42, vint, ksE_cells, kE_cells, ksE_drop1, kE_drop1, cfF, g1] <;> with_reducible rfl) (ya49 _ tk HH.length i5 hA.s4))
              have ya1 : ∀ (HH : Heap) (tk i4 i5 : Nat), A21 HA true false false tk i4 i5 HH → GoS Try.prog 177 0 opr R' 7 #[true, false, false, false, false, false, false, false] (mkS [(2, vint qn), (3, .optr 0 0), (7, .optr q 0), (8, .optr (n2 + 4) 0), (9, .msl vi 0 N N), (50, .slice (ks.map kE) .none), (51, vint (ks.length : Int)), (52, vint (i : Int)), (11, .optr s 0), (12, .optr (s + 1) 0), (100, .optr tk 0)]) HH := by
                subst hops
                intro HH tk i4 i5 hA
                have g1 := (hA.sm s hs1).trans c1
                refine zs3 1 4 5 rfl rfl rfl (go_one (by simp only [jA, jO, jN, seval, y34, vint, ksE_cells, kE_cells, ksE_drop1, kE_drop1, cfF, g1] <;> with_reducible rfl) (ya3 HH tk i4 i5 hA)) (go_one (by simp only [jA, jO, jN, seval, y42, vint, ksE_cells, kE_cells, ksE_drop1, kE_drop1, cfF, g1] <;> with_reducible rfl) (ya17 _ tk HH.length i5 hA.s4)) (go_one (by simp only [jA, jO, jN, seval, y3, vint, ksE_cells, kE_cells, ksE_drop1, kE_drop1, cfF, g1] <;> with_reducible rfl) (ya33 _ tk i4 HH.length hA.s5))
              have ya48 : ∀ (HH : Heap) (tk i4 i5 : Nat), A21 HA false true true tk i4 i5 HH → GoS Try.prog 177 0 opr R' 6 #[false, false, false, false, true, true, false, false] (mkS [(2, vint qn), (3, .optr 0 0), (7, .optr q 0), (8, .optr (n2 + 4) 0), (9, .msl vi 0 N N), (50, .slice (ks.map kE) .none), (51, vint (ks.length : Int)), (52, vint (i : Int)), (11, .optr s 0), (12, .optr (s + 1) 0), (14, .optr i4 0), (15, .optr i5 0)]) HH := by
                subst hops
                intro HH tk i4 i5 hA
                have g1 := (hA.sm s hs1).trans c1
                refine zs2 0 1 rfl rfl ?_ (go_one (by simp only [jA, jO, jN, seval, y34, vint, ksE_cells, kE_cells, ksE_drop1, kE_drop1, cfF, g1] <;> with_reducible rfl) (ya50 HH tk i4 i5 hA))
                · refine aops_acall (by simp only [jC, jN, seval, vint, ksE_cells, kE_cells, ksE_drop1, kE_drop1, cfF] <;> with_reducible rfl) (by simp only [jC, jN, seval, vint, ksE_cells, kE_cells, ksE_drop1, kE_drop1, cfF]) (by decide) Trygo10 (tokNew HH) ?_
                  rintro _ _ ⟨rfl, rfl⟩
                  refine aops_nil ?_
                  exact (ya49 _ HH.length i4 i5 hA.s0).weak (mkS_weak (by repeat (first | exact trivial | refine ⟨rfl, ?_⟩)))
              have ya16 : ∀ (HH : Heap) (tk i4 i5 : Nat), A21 HA false true false tk i4 i5 HH → GoS Try.prog 177 0 opr R' 7 #[false, false, false, false, true, false, false, false] (mkS [(2, vint qn), (3, .optr 0 0), (7, .optr q 0), (8, .optr (n2 + 4) 0), (9, .msl vi 0 N N), (50, .slice (ks.map kE) .none), (51, vint (ks.length : Int)), (52, vint (i : Int)), (11, .optr s 0), (12, .optr (s + 1) 0), (14, .optr i4 0)]) HH := by
                subst hops
                intro HH tk i4 i5 hA
                have g1 := (hA.sm s hs1).trans c1
                refine zs3 0 1 5 rfl rfl rfl ?_ (go_one (by simp only [jA, jO, jN, seval, y34, vint, ksE_cells, kE_cells, ksE_drop1, kE_drop1, cfF, g1] <;> with_reducible rfl) (ya18 HH tk i4 i5 hA)) (go_one (by simp only [jA, jO, jN, seval, y3, vint, ksE_cells, kE_cells, ksE_drop1, kE_drop1, cfF, g1] <;> with_reducible rfl) (ya48 _ tk i4 HH.length hA.s5))
                · refine aops_acall (by simp only [jC, jN, seval, vint, ksE_cells, kE_cells, ksE_drop1, kE_drop1, cfF] <;> with_reducible rfl) (by simp only [jC, jN, seval, vint, ksE_cells, kE_cells, ksE_drop1, kE_drop1, cfF]) (by decide) Trygo10 (tokNew HH) ?_
                  rintro _ _ ⟨rfl, rfl⟩
                  refine aops_nil ?_
                  exact (ya17 _ HH.length i4 i5 hA.s0).weak (mkS_weak (by repeat (first | exact trivial | refine ⟨rfl, ?_⟩)))
              have ya32 : ∀ (HH : Heap) (tk i4 i5 : Nat), A21 HA false false true tk i4 i5 HH → GoS Try.prog 177 0 opr R' 7 #[false, false, false, false, false, true, false, false] (mkS [(2, vint qn), (3, .optr 0 0), (7, .optr q 0), (8, .optr (n2 + 4) 0), (9, .msl vi 0 N N), (50, .slice (ks.map kE) .none), (51, vint (ks.length : Int)), (52, vint (i : Int)), (11, .optr s 0), (12, .optr (s + 1) 0), (15, .optr i5 0)]) HH := by
                subst hops
                intro HH tk i4 i5 hA
                have g1 := (hA.sm s hs1).trans c1
                refine zs3 0 1 4 rfl rfl rfl ?_ (go_one (by simp only [jA, jO, jN, seval, y34, vint, ksE_cells, kE_cells, ksE_drop1, kE_drop1, cfF, g1] <;> with_reducible rfl) (ya34 HH tk i4 i5 hA)) (go_one (by simp only [jA, jO, jN, seval, y42, vint, ksE_cells, kE_cells, ksE_drop1, kE_drop1, cfF, g1] <;> with_reducible rfl) (ya48 _ tk HH.length i5 hA.s4))
                · refine aops_acall (by simp only [jC, jN, seval, vint, ksE_cells, kE_cells, ksE_drop1, kE_drop1, cfF] <;> with_reducible rfl) (by simp only [jC, jN, seval, vint, ksE_cells, kE_cells, ksE_drop1, kE_drop1, cfF]) (by decide) Trygo10 (tokNew HH) ?_
                  rintro _ _ ⟨rfl, rfl⟩
                  refine aops_nil ?_
                  exact (ya33 _ HH.length i4 i5 hA.s0).weak (mkS_weak (by repeat (first | exact trivial | refine ⟨rfl, ?_⟩)))
              have ya0 : ∀ (HH : Heap) (tk i4 i5 : Nat), A21 HA false false false tk i4 i5 HH → GoS Try.prog 177 0 opr R' 8 #[false, false, false, false, false, false, false, false] (mkS [(2, vint qn), (3, .optr 0 0), (7, .optr q 0), (8, .optr (n2 + 4) 0), (9, .msl vi 0 N N), (50, .slice (ks.map kE) .none), (51, vint (ks.length : Int)), (52, vint (i : Int)), (11, .optr s 0), (12, .optr (s + 1) 0)]) HH := by
                subst hops
                intro HH tk i4 i5 hA
                have g1 := (hA.sm s hs1).trans c1
                refine zs4 0 1 4 5 rfl rfl rfl rfl ?_ (go_one (by simp only [jA, jO, jN, seval, y34, vint, ksE_cells, kE_cells, ksE_drop1, kE_drop1, cfF, g1] <;> with_reducible rfl) (ya2 HH tk i4 i5 hA)) (go_one (by simp only [jA, jO, jN, seval, y42, vint, ksE_cells, kE_cells, ksE_drop1, kE_drop1, cfF, g1] <;> with_reducible rfl) (ya16 _ tk HH.length i5 hA.s4)) (go_one (by simp only [jA, jO, jN, seval, y3, vint, ksE_cells, kE_cells, ksE_drop1, kE_drop1, cfF, g1] <;> with_reducible rfl) (ya32 _ tk i4 HH.length hA.s5))
                · refine aops_acall (by simp only [jC, jN, seval, vint, ksE_cells, kE_cells, ksE_drop1, kE_drop1, cfF] <;> with_reducible rfl) (by simp only [jC, jN, seval, vint, ksE_cells, kE_cells, ksE_drop1, kE_drop1, cfF]) (by decide) Trygo10 (tokNew HH) ?_
                  rintro _ _ ⟨rfl, rfl⟩
                  refine aops_nil ?_
                  exact (ya1 _ HH.length i4 i5 hA.s0).weak (mkS_weak (by repeat (first | exact trivial | refine ⟨rfl, ?_⟩)))
              subst hops
              exact GoS.weak (T2 := (mkS [(2, vint qn), (3, .optr 0 0), (7, .optr q 0), (8, .optr (n2 + 4) 0), (9, .msl vi 0 N N), (50, .slice (ks.map kE) .none), (51, vint (ks.length : Int)), (52, vint (i : Int)), (11, .optr s 0), (12, .optr (s + 1) 0)])) (ya0 _ 0 0 0 A21.ini) (mkS_weak (by repeat (first | exact trivial | refine ⟨rfl, ?_⟩)))
            obtain ⟨rfl, tk, i4, i5, hfit, hln, hsm, p1, p4, p5, n4, n5, ht, h4, h5⟩ := hr
            refine awp_weak (mkS_weak hfit) ?_
            have hSG := hSA.fr hP hsm
            have b7G := hSG.bq
            have b7GL := getL b7G
            have c2G := (hsm (s + 1) hs2).trans c2
            have c2GL := getL c2G
            have h4L := getL h4
            obtain ⟨FD, DD, _, _, _, _⟩ := id hSG.w1
            obtain ⟨clkD, hdb⟩ := DD.db
            have hcomp := computations_c (id := n1 + 4) hdb
            repeat (refine awp_seq ?_)
            refine e_eval (by simp only [jA, jO, jN, seval, y42, vint, ksE_cells, kE_cells, ksE_drop1, kE_drop1, cfF, h5q, h50, h50L, gj, gl, b0, b0L, h4] <;> with_reducible rfl) (by decide) ?_
            repeat (refine awp_seq ?_)
            refine awp_cond_false rfl (by simp only [jN, seval, vint, ksE_cells, kE_cells, ksE_drop1, kE_drop1, cfF, h5q, h50, h50L, gj, gl, b0, b0L] <;> with_reducible rfl) ?_
            repeat (refine awp_seq ?_)
            refine awp_skip ?_
            repeat (refine awp_seq ?_)
            refine awp_region ?_
            refine e_take 1 (by simp only [jA, jO, jN, seval, y28, vint, ksE_cells, kE_cells, ksE_drop1, kE_drop1, cfF, h5q, h50, h50L, gj, gl, b0, b0L, b7G] <;> with_reducible rfl) (by decide) ?_
            refine aops_acall (by simp only [jC, jN, seval, vint, ksE_cells, kE_cells, ksE_drop1, kE_drop1, cfF, h5q, h50, h50L, gj, gl, b0, b0L, b7G] <;> with_reducible rfl) (by simp only [jC, jN, seval, vint, ksE_cells, kE_cells, ksE_drop1, kE_drop1, cfF, h5q, h50, h50L, gj, gl, b0, b0L, b7G]) (by decide) Trygo11 (hcomp) ?_
            rintro _ HX ⟨rfl, hX⟩
            rw [hX]
            clear hX
            refine e_end (by simp only [jA, jO, jN, seval, y3, vint, ksE_cells, kE_cells, ksE_drop1, kE_drop1, cfF, h5q, h50, h50L, gj, gl, b0, b0L, b7G] <;> with_reducible rfl) (by decide) ?_
            repeat (refine awp_seq ?_)
            refine awp_region ?_
            refine e_take 3 (by simp only [jA, jO, jN, seval, y28, y37, vint, ksE_cells, kE_cells, ksE_drop1, kE_drop1, cfF, h5q, h50, h50L, gj, gl, b0, b0L, b7GL, c2GL, c2G] <;> with_reducible rfl) (by decide) ?_
            refine aops_acall (by simp only [jC, jN, seval, vint, ksE_cells, kE_cells, ksE_drop1, kE_drop1, cfF, h5q, h50, h50L, gj, gl, b0, b0L, b7GL, c2GL, c2G] <;> with_reducible rfl) (by simp only [jC, jN, seval, vint, ksE_cells, kE_cells, ksE_drop1, kE_drop1, cfF, h5q, h50, h50L, gj, gl, b0, b0L, b7GL, c2GL, c2G]) (by decide) Trygo12 (gu_x hP (hSG.fr hP (H' := HG ++ [.row [vint st.comps]]) fun id hid => List.getElem?_append_left hid) hL hkq2 (tk := tk) (b16 := HG.length) (b15 := i5) (b14 := i4) (start := st.comps) (budget := (bg : Int)) (M := HO.length) (getL ht _) (by simp) (getL h5 _) (h4L _) (hS.w1.lt (cxQ_ok hP _ _)) (hS.w2.lt (cxQ_ok hP _ _)) ⟨by omega, by omega, by omega⟩ ⟨by omega, by omega, by omega, by omega⟩ ⟨by have := len_of_get ht; omega, n5, n4⟩) ?_
            rintro _ HD ⟨o, st4, loc4, G4, rfl, hL4, hS4, ht4, h44⟩
            obtain ⟨v4, hv4⟩ := ansV_q o
            rw [hv4]
            have h44L := getL h44
            refine e_end (by simp only [jA, jO, jN, seval, y41, vint, ksE_cells, kE_cells, ksE_drop1, kE_drop1, cfF, h5q, h50, h50L, gj, gl, b0, b0L, qvE, b7GL, c2GL, c2G] <;> with_reducible rfl) (by decide) ?_
            refine awp_sel [2, 3, 7, 8, 9, 14, 18, 50, 51, 52] (by simp only [jN, seval, vint, ksE_cells, kE_cells, ksE_drop1, kE_drop1, cfF, h5q, h50, h50L, gj, gl, b0, b0L, qvE] <;> with_reducible rfl) ?_
            rcases o with _ | rec
            ·
              have htk := tokCanceled tk true _ (getL ht4 [.row [.slice (v4.nums.map vint) .none, .str v4.text]])
              repeat (refine awp_seq ?_)
              refine awp_region ?_
              refine e_take 10 (by simp only [jA, jO, jN, seval, y38, y42, vint, ksE_cells, kE_cells, ksE_drop1, kE_drop1, cfF, h5q, h50, h50L, gj, gl, b0, b0L, qvE, h44L, ansE] <;> with_reducible rfl) (by decide) ?_
              refine aops_acall (by simp only [jC, jN, seval, vint, ksE_cells, kE_cells, ksE_drop1, kE_drop1, cfF, h5q, h50, h50L, gj, gl, b0, b0L, qvE, h44L, ansE] <;> with_reducible rfl) (by simp only [jC, jN, seval, vint, ksE_cells, kE_cells, ksE_drop1, kE_drop1, cfF, h5q, h50, h50L, gj, gl, b0, b0L, qvE, h44L, ansE]) (by decide) Trygo15 (htk) ?_
              rintro _ _ ⟨rfl, rfl⟩
              refine e_end (by simp only [jA, jO, jN, seval, y4, vint, ksE_cells, kE_cells, ksE_drop1, kE_drop1, cfF, h5q, h50, h50L, gj, gl, b0, b0L, qvE, h44L, ansE] <;> with_reducible rfl) (by decide) ?_
              repeat (refine awp_seq ?_)
              refine awp_cond_false rfl (by simp only [jN, seval, vint, ksE_cells, kE_cells, ksE_drop1, kE_drop1, cfF, h5q, h50, h50L, gj, gl, b0, b0L, qvE, h44L, ansE] <;> with_reducible rfl) ?_
              repeat (refine awp_seq ?_)
              refine awp_skip ?_
              repeat (refine awp_seq ?_)
              refine e_eval (by simp only [jA, jO, jN, seval, y3, vint, ksE_cells, kE_cells, ksE_drop1, kE_drop1, cfF, h5q, h50, h50L, gj, gl, b0, b0L, qvE, h44L, ansE] <;> with_reducible rfl) (by decide) ?_
              try simp only [thenQ, blockQ]
              exact ⟨(i + 1, vs), by show _ < _; omega, (by repeat (first | exact trivial | refine ⟨rfl, ?_⟩)), by show i + 1 ≤ _; omega, loc4, st4, G4, hS4.fr hP fun id hid => List.getElem?_append_left hid, hL4⟩
            ·
              have htk := tokCanceled tk false _ (getL ht4 [.row [.slice (v4.nums.map vint) .none, .str v4.text]])
              repeat (refine awp_seq ?_)
              refine awp_region ?_
              refine e_take 3 (by simp only [jA, jO, jN, seval, y38, vint, ksE_cells, kE_cells, ksE_drop1, kE_drop1, cfF, h5q, h50, h50L, gj, gl, b0, b0L, qvE, h44L, ansE] <;> with_reducible rfl) (by decide) ?_
              refine aops_skip (by simp only [jC, jN, seval, vint, ksE_cells, kE_cells, ksE_drop1, kE_drop1, cfF, ansE]) ?_
              refine aops_skip (by simp only [jC, jN, seval, vint, ksE_cells, kE_cells, ksE_drop1, kE_drop1, cfF, ansE]) ?_
              refine e_take 5 (by simp only [jA, jO, jN, seval, y38, y42, vint, ksE_cells, kE_cells, ksE_drop1, kE_drop1, cfF, h5q, h50, h50L, gj, gl, b0, b0L, qvE, h44L, ansE] <;> with_reducible rfl) (by decide) ?_
              refine aops_acall (by simp only [jC, jN, seval, vint, ksE_cells, kE_cells, ksE_drop1, kE_drop1, cfF, h5q, h50, h50L, gj, gl, b0, b0L, qvE, h44L, ansE] <;> with_reducible rfl) (by simp only [jC, jN, seval, vint, ksE_cells, kE_cells, ksE_drop1, kE_drop1, cfF, h5q, h50, h50L, gj, gl, b0, b0L, qvE, h44L, ansE]) (by decide) Trygo15 (htk) ?_
              rintro _ _ ⟨rfl, rfl⟩
              refine e_end (by simp only [jA, jO, jN, seval, y4, vint, ksE_cells, kE_cells, ksE_drop1, kE_drop1, cfF, h5q, h50, h50L, gj, gl, b0, b0L, qvE, h44L, ansE] <;> with_reducible rfl) (by decide) ?_
              repeat (refine awp_seq ?_)
              refine awp_cond_false rfl (by simp only [jN, seval, vint, ksE_cells, kE_cells, ksE_drop1, kE_drop1, cfF, h5q, h50, h50L, gj, gl, b0, b0L, qvE, h44L, ansE] <;> with_reducible rfl) ?_
              repeat (refine awp_seq ?_)
              refine awp_skip ?_
              repeat (refine awp_seq ?_)
              refine e_eval (by simp only [jA, jO, jN, seval, y3, vint, ksE_cells, kE_cells, ksE_drop1, kE_drop1, cfF, h5q, h50, h50L, gj, gl, b0, b0L, qvE, h44L, ansE] <;> with_reducible rfl) (by decide) ?_
              try simp only [thenQ, blockQ]
              exact ⟨(i + 1, vs), by show _ < _; omega, (by repeat (first | exact trivial | refine ⟨rfl, ?_⟩)), by show i + 1 ≤ _; omega, loc4, st4, G4, hS4.fr hP fun id hid => List.getElem?_append_left hid, hL4⟩
          ·
            skip
            repeat (refine awp_seq ?_)
            refine awp_drawB 0 (by kernel_rfl) ?_
            simp only [List.replicate_zero, List.append_nil]
            refine seg_pure 4 (bm := [0, 0, 2, 6, 15]) (by kernel_rfl) (by decide) (by kernel_rfl) (by kernel_rfl) ?_
            refine dp_take 3 (by simp only [jP, jO, jN, seval, y3, y28, y34, vint, ksE_cells, kE_cells, ksE_drop1, kE_drop1, cfF, a7, c1] <;> with_reducible rfl) (by decide) ?_
            refine dp_keep (by simp only [jE, jN, seval, vint, ksE_cells, kE_cells, ksE_drop1, kE_drop1, cfF] <;> with_reducible rfl) (by simp only [jE, jN, seval, vint, ksE_cells, kE_cells, ksE_drop1, kE_drop1, cfF] <;> with_reducible rfl) (by simp only [jE, jN, seval, vint, ksE_cells, kE_cells, ksE_drop1, kE_drop1, cfF]) (by decide) Trygo8 (fun hc => mc _) ?_
            refine dp_end (by simp only [jP, jO, jN, seval, vint, ksE_cells, kE_cells, ksE_drop1, kE_drop1, cfF, a7, c1] <;> with_reducible rfl) (by decide) (by repeat (first | exact Fin.base _ | with_reducible apply Fin.keep | apply Fin.drop)) ?_
            refine seg_op (k := 4) (bm := [0, 0, 2, 6, 15]) (by kernel_rfl) rfl (by kernel_rfl) (by kernel_rfl) ?_
            refine aops_acall (by simp only [jC, jN, seval, vint, ksE_cells, kE_cells, ksE_drop1, kE_drop1, cfF] <;> with_reducible rfl) (by simp only [jC, jN, seval, vint, ksE_cells, kE_cells, ksE_drop1, kE_drop1, cfF]) (by decide) Trygo16 (trim_x hP hSA hL (by omega) c (by omega)) ?_
            rintro _ HC ⟨n, st3, rfl, hS3, hL3⟩
            refine aops_nil ?_
            show GoAt _ _ _ _ _ _ _ _
            refine goat_end ?_
            repeat (refine awp_seq ?_)
            refine e_eval (by simp only [jA, jO, jN, seval, y3, vint, ksE_cells, kE_cells, ksE_drop1, kE_drop1, cfF, h5q, h50, h50L, gj, gl, b0, b0L] <;> with_reducible rfl) (by decide) ?_
            try simp only [thenQ, blockQ]
            exact ⟨(i + 1, vs), by show _ < _; omega, (by repeat (first | exact trivial | refine ⟨rfl, ?_⟩)), by show i + 1 ≤ _; omega, loc, st3, G, hS3, hL3⟩
    ·
      have hge := of_decide_eq_false bt53
      obtain rfl : i = ks.length := by omega
      repeat (refine awp_seq ?_)
      refine awp_exit ?_
      simp only [thenQ, blockQ, reduceIte, Nat.reduceEqDiff, Nat.succ_ne_self, if_true, if_false]
      repeat (refine awp_seq ?_)
      refine e_eval (by simp only [jA, jO, jN, seval, y3, y32, vint, ksE_cells, kE_cells, ksE_drop1, kE_drop1, cfF, h5q, h50, h50L, gj, gl, b0, b0L] <;> with_reducible rfl) (by decide) ?_
      repeat (refine awp_seq ?_)
      refine awp_block ?_
      refine awp_loopX (σ := Nat) (fun (z : Nat) => [(2, vint qn), (3, .optr 0 0), (7, .optr q 0), (8, .optr (n2 + 4) 0), (9, .msl vi 0 N N), (130, vint (N : Int)), (131, vint (z : Int))]) (fun (z : Nat) =>  fun H4 => z ≤ N ∧ ∃ loc2 st2 G2, LwS (N : Int) qs b1 n1 b2 n2 q vi vs loc st G loc2 st2 G2 H4 ∧ Ls qs N z (vs.take z ++ List.replicate (N - z) 0) st2) (fun (z : Nat) => N - z) (0) ⟨(by first | rfl | (simp only [jN, seval, vint, ksE_cells, kE_cells, ksE_drop1, kE_drop1, cfF, h5q, h50, h50L, gj, gl, b0, b0L] <;> first | done | with_reducible rfl)), (by first | rfl | (simp only [jN, seval, vint, ksE_cells, kE_cells, ksE_drop1, kE_drop1, cfF, h5q, h50, h50L, gj, gl, b0, b0L] <;> first | done | with_reducible rfl)), (by first | rfl | (simp only [jN, seval, vint, ksE_cells, kE_cells, ksE_drop1, kE_drop1, cfF, h5q, h50, h50L, gj, gl, b0, b0L] <;> first | done | with_reducible rfl)), (by first | rfl | (simp only [jN, seval, vint, ksE_cells, kE_cells, ksE_drop1, kE_drop1, cfF, h5q, h50, h50L, gj, gl, b0, b0L] <;> first | done | with_reducible rfl)), (by first | rfl | (simp only [jN, seval, vint, ksE_cells, kE_cells, ksE_drop1, kE_drop1, cfF, h5q, h50, h50L, gj, gl, b0, b0L] <;> first | done | with_reducible rfl)), (by first | rfl | (simp only [jN, seval, vint, ksE_cells, kE_cells, ksE_drop1, kE_drop1, cfF, h5q, h50, h50L, gj, gl, b0, b0L] <;> first | done | with_reducible rfl)), (by first | rfl | (simp only [jN, seval, vint, ksE_cells, kE_cells, ksE_drop1, kE_drop1, cfF, h5q, h50, h50L, gj, gl, b0, b0L] <;> first | done | with_reducible rfl)), trivial⟩ (⟨Nat.zero_le _, _, _, _, hS, Ls.new qs N⟩) ?_
      intro z H4 hg
      obtain ⟨HF, rfl⟩ : ∃ HF, HF = H4 := ⟨_, rfl⟩
      obtain ⟨hz, loc2, st2, G2, hT, hM⟩ := hg
      have gj3 : IntKind.i64.wrap ((z : Int) + 1) = ((z + 1 : Nat) : Int) := by rw [wrap_id (by omega) (by omega)]; omega
      have gl3 : decide ((z : Int) < (N : Int)) = decide (z < N) := by rw [decide_eq_decide]; omega
      have t0 := hT.bx
      have t7 := hT.bq
      have tv := hT.bv
      have t0L := getL t0
      have t7L := getL t7
      repeat (refine awp_seq ?_)
      refine e_eval (by simp only [jA, jO, jN, seval, y3, vint, ksE_cells, kE_cells, ksE_drop1, kE_drop1, cfF, h5q, h50, h50L, gj, gl, b0, b0L, gj3, gl3, t0, t7, tv, t0L, t7L] <;> with_reducible rfl) (by decide) ?_
      repeat (refine awp_seq ?_)
      refine awp_cond rfl (by simp only [jN, seval, vint, ksE_cells, kE_cells, ksE_drop1, kE_drop1, cfF, h5q, h50, h50L, gj, gl, b0, b0L, gj3, gl3, t0, t7, tv, t0L, t7L] <;> with_reducible rfl) (fun bt132 => ?_) (fun bt132 => ?_)
      ·
        have hlt3 : z < N := of_decide_eq_true bt132
        have giz : ((0 : Int) ≤ (z : Int) ∧ (z : Int) < (N : Int)) = True := by simp; omega
        have gzm : (z + 1 ≤ N) = True := by simp; omega
        have gvz : (vs.map vint).length = N := by rw [List.length_map]; exact hvs
        obtain ⟨y, hy⟩ : ∃ y, y = vs[z]'(by omega) := ⟨_, rfl⟩
        have gez : (vs.map vint)[z]? = some (.int .i64 y) := by rw [List.getElem?_map, List.getElem?_eq_getElem (by omega), hy]; rfl
        have hyr := hL.vr y (by rw [hy]; exact List.getElem_mem _)
        repeat (refine awp_seq ?_)
        refine awp_skip ?_
        repeat (refine awp_seq ?_)
        refine awp_block ?_
        repeat (refine awp_seq ?_)
        refine e_eval (by simp only [jA, jO, jN, seval, vint, ksE_cells, kE_cells, ksE_drop1, kE_drop1, cfF, h5q, h50, h50L, gj, gl, b0, b0L, gj3, gl3, t0, t7, tv, t0L, t7L] <;> with_reducible rfl) (by decide) ?_
        repeat (refine awp_seq ?_)
        refine awp_region ?_
        refine e_take 9 (by simp only [jA, jO, jN, seval, y3, y32, y37, y41, vint, ksE_cells, kE_cells, ksE_drop1, kE_drop1, cfF, h5q, h50, h50L, gj, gl, b0, b0L, gj3, gl3, t0, t7, tv, t0L, t7L, giz, gzm, gvz, gez, Int.toNat_natCast, Nat.mul_one, Nat.zero_add] <;> with_reducible rfl) (by decide) ?_
        refine aops_acall (by simp only [jC, jN, seval, vint, ksE_cells, kE_cells, ksE_drop1, kE_drop1, cfF, h5q, h50, h50L, gj, gl, b0, b0L, gj3, gl3, t0, t7, tv, t0L, t7L, giz, gzm, gvz, gez, Int.toNat_natCast, Nat.mul_one, Nat.zero_add] <;> with_reducible rfl) (by simp only [jC, jN, seval, vint, ksE_cells, kE_cells, ksE_drop1, kE_drop1, cfF, h5q, h50, h50L, gj, gl, b0, b0L, gj3, gl3, t0, t7, tv, t0L, t7L, giz, gzm, gvz, gez, Int.toNat_natCast, Nat.mul_one, Nat.zero_add]) (by decide) Trygo9 (set_x2 hP hT hM (by omega) hlt3 hyr) ?_
        rintro _ HC ⟨rfl, st3, hS3, hL3⟩
        refine aops_nil ?_
        repeat (refine awp_seq ?_)
        refine e_eval (by simp only [jA, jO, jN, seval, y3, vint, ksE_cells, kE_cells, ksE_drop1, kE_drop1, cfF, h5q, h50, h50L, gj, gl, b0, b0L, gj3, gl3, t0, t7, tv, t0L, t7L] <;> with_reducible rfl) (by decide) ?_
        try simp only [thenQ, blockQ]
        have hstep : (vs.take z ++ List.replicate (N - z) 0).set z y = vs.take (z + 1) ++ List.replicate (N - (z + 1)) 0 := by
          obtain ⟨m', hm'⟩ : ∃ m', N - z = m' + 1 := ⟨N - z - 1, by omega⟩
          have e0 : z - (vs.take z).length = 0 := by simp; omega
          rw [List.set_append_right _ _ (by simp; omega), e0, hm', List.replicate_succ, List.set_cons_zero, show N - (z + 1) = m' from by omega, List.take_succ_eq_append_getElem (by omega), ← hy]
          simp
        rw [hstep] at hL3
        exact ⟨z + 1, by show _ < _; omega, (by repeat (first | exact trivial | refine ⟨rfl, ?_⟩)), by omega, _, st3, _, hS3, hL3⟩
      ·
        have hge3 := of_decide_eq_false bt132
        have hzN : z = N := by omega
        repeat (refine awp_seq ?_)
        refine awp_exit ?_
        simp only [thenQ, blockQ, reduceIte, Nat.reduceEqDiff, Nat.succ_ne_self, if_true, if_false]
        repeat (refine awp_seq ?_)
        have hvN : vs.take z ++ List.replicate (N - z) 0 = vs := by rw [hzN, Nat.sub_self, List.replicate_zero, List.append_nil, List.take_of_length_le (by omega)]
        rw [hvN] at hM
        obtain ⟨kf, hkf, hkf2⟩ : ∃ kf : Nat, qn % (qs.length : Int) = (kf : Int) ∧ kf < qs.length := ⟨(qn % (qs.length : Int)).toNat, by have := Int.emod_nonneg qn (by omega : (qs.length : Int) ≠ 0); omega, by have := Int.emod_nonneg qn (by omega : (qs.length : Int) ≠ 0); have := Int.emod_lt_of_pos qn (by omega : (0 : Int) < (qs.length : Int)); omega⟩
        have mkf : PC Try.prog 8 [vint qn, vint (qs.length : Int)] (vint (kf : Int)) := by rw [← hkf]; exact mod_c _ _ (by omega) (by omega)
        have hag := hL.agree hP hM (ksQ_of hkf2)
        have hsl := sem_len hP _ hL.good (1, (kf : Int), 0)
        obtain ⟨V, hV1⟩ : ∃ V, sem (cpQ qs) rkQ (vals st.cell) (1, (kf : Int), 0) = V := ⟨_, rfl⟩
        have hV2 : sem (cpQ qs) rkQ (vals st2.cell) (1, (kf : Int), 0) = V := by rw [← hag]; exact hV1
        rw [hV1] at hsl
        have hT1 := hT.fr hP (H' := HF ++ [.row [vint 1, vint (kf : Int), vint 0]]) fun id hid => List.getElem?_append_left hid
        refine awp_region ?_
        refine e_take 4 (by simp only [jA, jO, jN, seval, y22, y24, y53, vint, ksE_cells, kE_cells, ksE_drop1, kE_drop1, cfF, h5q, h50, h50L, gj, gl, b0, b0L, gj3, gl3, t0, t7, tv, t0L, t7L] <;> with_reducible rfl) (by decide) ?_
        refine aops_pure (by simp only [jC, jN, seval, vint, ksE_cells, kE_cells, ksE_drop1, kE_drop1, cfF, h5q, h50, h50L, gj, gl, b0, b0L, gj3, gl3, t0, t7, tv, t0L, t7L] <;> with_reducible rfl) (by simp only [jC, jN, seval, vint, ksE_cells, kE_cells, ksE_drop1, kE_drop1, cfF, h5q, h50, h50L, gj, gl, b0, b0L, gj3, gl3, t0, t7, tv, t0L, t7L]) (by decide) Trygo8 (mkf _) ?_
        refine e_end (by simp only [jA, jO, jN, seval, y37, vint, ksE_cells, kE_cells, ksE_drop1, kE_drop1, cfF, h5q, h50, h50L, gj, gl, b0, b0L, gj3, gl3, t0, t7, tv, t0L, t7L] <;> with_reducible rfl) (by decide) ?_
        repeat (refine awp_seq ?_)
        refine awp_region ?_
        refine e_take 2 (by simp only [jA, jO, jN, seval, y28, y37, vint, ksE_cells, kE_cells, ksE_drop1, kE_drop1, cfF, h5q, h50, h50L, gj, gl, b0, b0L, gj3, gl3, t0, t7, tv, t0L, t7L] <;> with_reducible rfl) (by decide) ?_
        refine aops_acall (by simp only [jC, jN, seval, vint, ksE_cells, kE_cells, ksE_drop1, kE_drop1, cfF, h5q, h50, h50L, gj, gl, b0, b0L, gj3, gl3, t0, t7, tv, t0L, t7L] <;> with_reducible rfl) (by simp only [jC, jN, seval, vint, ksE_cells, kE_cells, ksE_drop1, kE_drop1, cfF, h5q, h50, h50L, gj, gl, b0, b0L, gj3, gl3, t0, t7, tv, t0L, t7L]) (by decide) Trygo17 (get_x hP hT1 hL hkf2 hV1) ?_
        rintro _ HE ⟨rfl, fE, loc5, st5, G5, hS5⟩
        have hb5 : HE[HF.length]? = some (.row [vint 1, vint (kf : Int), vint 0]) := by rw [fE.same _ (by simp) fun hg => by have := hT.w1.lt (cxQ_ok hP _ _) _ hg; omega]; simp
        have hb5L := getL hb5
        have hS6 := hS5.fr hP (H' := HE ++ [.row [.slice (V.nums.map vint) .none, .str V.text]]) fun id hid => List.getElem?_append_left hid
        obtain ⟨e, he⟩ : ∃ e, e = HE.length := ⟨_, rfl⟩
        refine e_end (by simp only [jA, jO, jN, seval, y41, vint, ksE_cells, kE_cells, ksE_drop1, kE_drop1, cfF, h5q, h50, h50L, gj, gl, b0, b0L, gj3, gl3, t0, t7, tv, t0L, t7L, hb5, hb5L] <;> with_reducible rfl) (by decide) ?_
        refine awp_sel [2, 3, 7, 8, 9, 20, 21, 22, 50, 51, 52, 130, 131] (by simp only [jN, seval, vint, ksE_cells, kE_cells, ksE_drop1, kE_drop1, cfF, h5q, h50, h50L, gj, gl, b0, b0L, gj3, gl3, t0, t7, tv, t0L, t7L, hb5, hb5L] <;> with_reducible rfl) ?_
        repeat (refine awp_seq ?_)
        refine awp_region ?_
        refine e_take 2 (by simp only [jA, jO, jN, seval, y37, vint, ksE_cells, kE_cells, ksE_drop1, kE_drop1, cfF, h5q, h50, h50L, gj, gl, b0, b0L, gj3, gl3, t0, t7, tv, t0L, t7L, hb5, hb5L] <;> with_reducible rfl) (by decide) ?_
        refine aops_acall (by simp only [jC, jN, seval, vint, ksE_cells, kE_cells, ksE_drop1, kE_drop1, cfF, h5q, h50, h50L, gj, gl, b0, b0L, gj3, gl3, t0, t7, tv, t0L, t7L, hb5, hb5L] <;> with_reducible rfl) (by simp only [jC, jN, seval, vint, ksE_cells, kE_cells, ksE_drop1, kE_drop1, cfF, h5q, h50, h50L, gj, gl, b0, b0L, gj3, gl3, t0, t7, tv, t0L, t7L, hb5, hb5L]) (by decide) Trygo17 (get_x2 hP hS6 hM hkf2 hV2) ?_
        rintro _ HW ⟨rfl, fW⟩
        have hb6 : HW[HE.length]? = some (.row [.slice (V.nums.map vint) .none, .str V.text]) := by rw [fW.same _ (by simp) fun hg => by have := hS5.w2.lt (cxQ_ok hP _ _) _ hg; omega]; simp
        have hb6L := getL hb6
        refine e_end (by simp only [jA, jO, jN, seval, y41, vint, ksE_cells, kE_cells, ksE_drop1, kE_drop1, cfF, h5q, h50, h50L, gj, gl, b0, b0L, gj3, gl3, t0, t7, tv, t0L, t7L, hb5, hb5L, hb6, hb6L] <;> with_reducible rfl) (by decide) ?_
        repeat (refine awp_seq ?_)
        refine awp_region ?_
        refine aops_pure (by simp only [jC, jN, seval, vint, ksE_cells, kE_cells, ksE_drop1, kE_drop1, cfF, h5q, h50, h50L, gj, gl, b0, b0L, gj3, gl3, t0, t7, tv, t0L, t7L, hb5, hb5L, hb6, hb6L] <;> with_reducible rfl) (by simp only [jC, jN, seval, vint, ksE_cells, kE_cells, ksE_drop1, kE_drop1, cfF, h5q, h50, h50L, gj, gl, b0, b0L, gj3, gl3, t0, t7, tv, t0L, t7L, hb5, hb5L, hb6, hb6L]) (by decide) Trygo4 (example_c _) ?_
        refine e_take 11 (by simp only [jA, jO, jN, seval, y38, y41, vint, ksE_cells, kE_cells, ksE_drop1, kE_drop1, cfF, h5q, h50, h50L, gj, gl, b0, b0L, gj3, gl3, t0, t7, tv, t0L, t7L, hb5, hb5L, hb6, hb6L] <;> with_reducible rfl) (by decide) ?_
        refine aops_pure (by simp only [jC, jN, seval, vint, ksE_cells, kE_cells, ksE_drop1, kE_drop1, cfF, h5q, h50, h50L, gj, gl, b0, b0L, gj3, gl3, t0, t7, tv, t0L, t7L, hb5, hb5L, hb6, hb6L] <;> with_reducible rfl) (by simp only [jC, jN, seval, vint, ksE_cells, kE_cells, ksE_drop1, kE_drop1, cfF, h5q, h50, h50L, gj, gl, b0, b0L, gj3, gl3, t0, t7, tv, t0L, t7L, hb5, hb5L, hb6, hb6L]) (by decide) Trygo18 (r3Equal V.nums V.nums V.text V.text (by unfold maxLen; omega) _) ?_
        refine e_end (by simp only [jA, jO, jN, seval, vint, ksE_cells, kE_cells, ksE_drop1, kE_drop1, cfF, h5q, h50, h50L, gj, gl, b0, b0L, gj3, gl3, t0, t7, tv, t0L, t7L, hb5, hb5L, hb6, hb6L] <;> with_reducible rfl) (by decide) ?_
        repeat (refine awp_seq ?_)
        refine awp_ret ⟨.inr rfl, _, rfl, ?_⟩
        simp only [jN, seval, vint, ksE_cells, kE_cells, ksE_drop1, kE_drop1, cfF]
        try simp
end Go.Abs
namespace Go.Abs
def env0 (W : World) : Env := { w := W, κ := fun _ => .fixed, ρ := fun _ => 0, tb := fun _ => none, H := [] }
theorem env0_ok (W : World) : (env0 W).Ok := by
  constructor
  · intro id cs h; simp [env0] at h
  · intro id n sz b h; simp [env0] at h
  · intro id id' cs cs' h; simp [env0] at h
  · intro id id' n sz n' sz' b h; simp [env0] at h
  · intro id b vs h; simp [env0] at h
  · exact ⟨fun id k h => by simp [env0] at h, fun id id' k k' h => by simp [env0] at h⟩
theorem env0_cell (W : World) (a : Addr) : (env0 W).view.cell a = W.cell? a := rfl
theorem calls_of_pc {P : Program} {f : FuncId} {args : List PV} {b : Bool} (h : PC P f args (.bool b)) (W : World) (vargs : Array Value) (hr : RL (env0 W).view vargs args) :
    Calls P f vargs W fun e w' => e = .returned (.bool b) ∧ Go.RowKit.Below W.heap.size W w' := by
  refine (h [] (env0 W) vargs (env0_ok W) rfl hr).mono ?_
  rintro e w' ⟨E', v, r, rfl, rfl, hle, hok, hv, rfl, _⟩
  refine ⟨by rw [hv.bool_inv], hle.os, hle.tape, hle.output, hle.size, fun k hk => (hle.other k hk ?_).2⟩
  rintro (⟨id, cs, h, _⟩ | ⟨id, n, sz, h, _⟩ | ⟨id, k, h, _⟩) <;> simp [env0] at h
def RLl (V : View) (cs : List Value) (ps : List PV) : Prop := cs.length = ps.length ∧ ∀ i (h : i < ps.length), VRel V (cs.getD i undef) ps[i]
theorem RLl.nil {V : View} : RLl V [] [] := ⟨rfl, fun i h => by cases h⟩
theorem RLl.cons {V : View} {c : Value} {cs : List Value} {p : PV} {ps : List PV} (h : VRel V c p) (hs : RLl V cs ps) : RLl V (c :: cs) (p :: ps) := by
  refine ⟨by simp [hs.1], fun i hi => ?_⟩
  cases i with
  | zero => exact h
  | succ i => exact hs.2 i (by simpa using hi)
theorem RLl.app {V : View} {c1 c2 : List Value} {p1 p2 : List PV} (h1 : RLl V c1 p1) (h2 : RLl V c2 p2) : RLl V (c1 ++ c2) (p1 ++ p2) := by
  refine ⟨by simp [h1.1, h2.1], fun i hi => ?_⟩
  by_cases h : i < p1.length
  · have := h1.2 i h
    simp only [List.getD_eq_getElem?_getD] at this ⊢
    rw [List.getElem?_append_left (by rw [h1.1]; exact h), List.getElem_append_left h]; exact this
  · have := h2.2 (i - p1.length) (by simp at hi; omega)
    simp only [List.getD_eq_getElem?_getD] at this ⊢
    rw [List.getElem?_append_right (by rw [h1.1]; omega), List.getElem_append_right (by omega), h1.1]; exact this
theorem RLl.agg {V : View} {arr : Array Value} {ps : List PV} (h : RLl V arr.toList ps) : VRel V (.agg arr) (.agg ps) := by
  refine .agg _ _ (by have := h.1; simpa using this) fun i hi => ?_
  have := h.2 i hi
  rw [List.getD_eq_getElem?_getD, Array.getElem?_toList] at this
  rw [Array.getD_eq_getD_getElem?]; exact this
theorem RLl.one {V : View} {v : Value} {p : PV} (h : RLl V [v] [p]) : VRel V v p := h.2 0 (by simp)
theorem exists_list {α : Type} {n : Nat} {p : Nat → α → Prop} (h : ∀ i, i < n → ∃ a, p i a) : ∃ xs : List α, xs.length = n ∧ ∀ i (hi : i < xs.length), p i xs[i] := by
  induction n with
  | zero => exact ⟨[], rfl, fun i hi => by cases hi⟩
  | succ n ih =>
    obtain ⟨xs, h1, h2⟩ := ih fun i hi => h i (by omega)
    obtain ⟨a, ha⟩ := h n (by omega)
    refine ⟨xs ++ [a], by simp [h1], fun i hi => ?_⟩
    by_cases hlt : i < xs.length
    · rw [List.getElem_append_left hlt]; exact h2 i hlt
    · rw [List.getElem_append_right (by omega)]
      simp at hi
      obtain rfl : i = n := by omega
      simpa using ha
def SlD {α : Type} {H : Type} (D : α → DataW H → Prop) (xs : List α) (d : DataW H) : Prop :=
  (xs = [] ∧ d = .nil) ∨ ∃ els sp, d = .slice els sp ∧ xs.length = els.length ∧ ∀ i (h1 : i < xs.length) (h2 : i < els.length), D xs[i] els[i]
section
variable {H : Type} {enc : TypeId × Value → H} {P : Program} {W : World} {spare : Nat → Bool} {held : Bool}
theorem rd_slice {α : Type} (en : α → PV) (D : α → DataW H → Prop) {t e : TypeId} {fuel : Nat} {cs : List Value} {x : DataW H × List MemPlace} (ht : P.underlying t = some (.slice e)) (hsz : ∀ a, (en a).cells.length = P.cellsOf e)
    (h : DataW.trod enc P W 0 spare held fuel t cs = some x) (ih : ∀ n cs' x', n < fuel → DataW.trod enc P W 0 spare held n e cs' = some x' → ∃ a, RLl (env0 W).view cs' (en a).cells ∧ D a x'.1) :
    ∃ (xs : List α) (v : Value), cs = [v] ∧ VRel (env0 W).view v (.slice (xs.map en) .none) ∧ SlD D xs x.1 := by
  rcases DataW.trod_slice ht h with ⟨rfl, rfl⟩ | ⟨a, len, cap, elems, rest, n, rfl, rfl, rfl, hb, hl, hm, hlen, hel, _, _⟩
  · exact ⟨[], _, rfl, .nils .none trivial, .inl ⟨rfl, rfl⟩⟩
  · obtain ⟨ys, hys, hp⟩ := exists_list (α := α × List Value) (n := len) (p := fun i y => W.cells? 0 (a.add (i * P.cellsOf e)) (P.cellsOf e) = some y.2 ∧ RLl (env0 W).view y.2 (en y.1).cells ∧ ∀ h : i < elems.length, D y.1 elems[i].1) (fun i hi => by
      have := hel i hi
      rw [List.getElem?_eq_getElem (by omega)] at this
      obtain ⟨cs', h1, h2⟩ := Option.bind_eq_some_iff.1 this
      obtain ⟨y, h3, h4⟩ := ih n cs' _ (by omega) h2
      exact ⟨(y, cs'), h1, h3, fun _ => h4⟩)
    refine ⟨ys.map (·.1), _, rfl, ?_, .inr ⟨_, _, rfl, by simp [hys, hlen], fun i h1 h2 => ?_⟩⟩
    · have hget : ∀ i (hi : i < ys.length), ys[i]? = some ys[i] := fun i hi => List.getElem?_eq_getElem hi
      refine .slice a len cap (P.cellsOf e) _ .none (fun i j => match ys[i]? with | some y => y.2.getD j undef | none => undef) (by simp [hys]) hl hm ?_ ?_ ?_ trivial
      · intro i hi; simp only [List.getElem_map]; exact hsz _
      · intro i j hi hj
        have hi' : i < ys.length := by omega
        obtain ⟨h1, h2, _⟩ := hp i hi'
        obtain ⟨_, h4, h5⟩ := World.cells?_some h1
        have := h5 j hj
        rw [hget i hi']
        simp only
        rw [env0_cell, ← add_add, this, List.getD_eq_getElem?_getD, List.getElem?_eq_getElem (by omega)]; rfl
      · intro i j hi hj
        have hi' : i < ys.length := by simpa using hi
        simp only [List.getElem_map] at hj ⊢
        rw [hget i hi']
        exact (hp i hi').2.1.2 j hj
    · simp only [List.getElem_map]
      exact (hp i (by simpa using h1)).2.2 _
theorem rd_fields {t : TypeId} {fs : Array Field} {fuel : Nat} {cs : List Value} {x : DataW H × List MemPlace} (ht : P.underlying t = some (.struct fs)) (h : DataW.trod enc P W 0 spare held fuel t cs = some x) :
    ∃ (ds : List (DataW H)) (n : Nat), fuel = n + 1 ∧ x.1 = .agg ds ∧ cs.length = P.cellsOf t ∧ ds.length = fs.size ∧ ∀ (i : Nat) (f : Field), fs[i]? = some f → ∃ d ps, ds[i]? = some d ∧ DataW.trod enc P W 0 spare held n f.type ((cs.drop f.offset).take (P.cellsOf f.type)) = some (d, ps) := by
  obtain ⟨xs, n, h1, rfl, h3, h4, h5⟩ := DataW.trod_struct ht h
  refine ⟨xs.map (·.1), n, h1, rfl, h3, by simpa using h4, fun i f hf => ?_⟩
  have hi : i < xs.length := by
    rw [h4]
    rcases Nat.lt_or_ge i fs.size with hl | hl
    · exact hl
    · rw [Array.getElem?_eq_none hl] at hf; cases hf
  have := h5 i f hf
  rw [List.getElem?_eq_getElem hi] at this
  exact ⟨xs[i].1, xs[i].2, by simp [hi], this⟩
theorem rd_int {t : TypeId} {k : IntKind} {fuel : Nat} {cs : List Value} {x : DataW H × List MemPlace} (ht : P.underlying t = some (.int k)) (h : DataW.trod enc P W 0 spare held fuel t cs = some x) : ∃ n, RLl (env0 W).view cs [.int k n] ∧ x.1 = .lit (.int k n) ∧ (Lit.int k n).wf = true ∧ cs = [.int k n] := by
  obtain ⟨n, rfl, rfl, h3⟩ := DataW.trod_int ht h
  exact ⟨n, .cons (.int _ _) .nil, rfl, h3, rfl⟩
end
inductive TyD {H : Type} : Ty → DataW H → Prop
  | nil (k i : Int) : TyD (.mk k i []) (.agg [.lit (.int .i64 k), .lit (.int .i64 i), .nil])
  | slice (k i : Int) (xs : List Ty) (es sp : List (DataW H)) (hl : xs.length = es.length) (h : ∀ j (h1 : j < xs.length) (h2 : j < es.length), TyD xs[j] es[j]) : TyD (.mk k i xs) (.agg [.lit (.int .i64 k), .lit (.int .i64 i), .slice es sp])
theorem TyD.of {H : Type} {k i : Int} {xs : List Ty} {d : DataW H} (h : SlD TyD xs d) : TyD (.mk k i xs) (.agg [.lit (.int .i64 k), .lit (.int .i64 i), d]) := by
  rcases h with ⟨rfl, rfl⟩ | ⟨es, sp, rfl, h1, h2⟩
  · exact .nil k i
  · exact .slice k i xs es sp h1 h2
structure TyAt (P : Program) (T S : TypeId) : Prop where
  st : ∃ f0 f1 f2 : Field, P.underlying T = some (.struct #[f0, f1, f2]) ∧ P.underlying f0.type = some (.int .i64) ∧ P.underlying f1.type = some (.int .i64) ∧ f2.type = S ∧ f0.offset = 0 ∧ f1.offset = 1 ∧ f2.offset = 2 ∧ P.cellsOf f0.type = 1 ∧ P.cellsOf f1.type = 1
  sl : P.underlying S = some (.slice T)
  c : P.cellsOf T = 3
  cs : P.cellsOf S = 1
  by40 : P.bytesOf T = 40
section
variable {H : Type} {enc : TypeId × Value → H} {P : Program} {W : World} {spare : Nat → Bool} {held : Bool} {T S : TypeId}
theorem rd_ty (F : TyAt P T S) : ∀ (fuel : Nat) (cs : List Value) (x : DataW H × List MemPlace), DataW.trod enc P W 0 spare held fuel T cs = some x → ∃ t : Ty, RLl (env0 W).view cs t.enc.cells ∧ TyD t x.1 := by
  intro fuel
  induction fuel using Nat.strongRecOn with
  | _ fuel ih =>
  intro cs x h
  obtain ⟨f0, f1, f2, hst, u0, u1, e2, o0, o1, o2, c0, c1⟩ := F.st
  obtain ⟨ds, n, rfl, hx, hlen, hdl, hf⟩ := rd_fields hst h
  rw [F.c] at hlen
  match cs, hlen with
  | [v0, v1, v2], _ =>
  obtain ⟨d0, p0, g0, r0⟩ := hf 0 f0 rfl
  obtain ⟨d1, p1, g1, r1⟩ := hf 1 f1 rfl
  obtain ⟨d2, p2, g2, r2⟩ := hf 2 f2 rfl
  rw [o0, c0] at r0
  rw [o1, c1] at r1
  rw [o2, e2, F.cs] at r2
  obtain ⟨k, q0, rfl, w0, _⟩ := rd_int u0 r0
  obtain ⟨i, q1, rfl, w1, _⟩ := rd_int u1 r1
  obtain ⟨xs, v, hv, hr, hd⟩ := rd_slice Ty.enc TyD F.sl (fun a => by rw [F.c, Ty.enc_len]) r2 (fun m cs' x' hm h' => ih m (by omega) cs' x' h')
  simp only [List.drop_succ_cons, List.drop_zero, List.take_succ_cons, List.take_zero, List.cons.injEq, and_true] at hv
  subst hv
  refine ⟨.mk k i xs, ?_, ?_⟩
  · rw [Ty.enc_cells]
    exact .cons q0.one (.cons q1.one (.cons hr .nil))
  · rw [hx]
    have : ds = [.lit (.int .i64 k), .lit (.int .i64 i), d2] := by
      match ds, hdl with
      | [a, b, c], _ =>
        simp at g0 g1 g2
        rw [g0, g1, g2]
    rw [this]
    exact .of hd
theorem weights_mem {l : List (DataW H)} {e : TypeId} {d : DataW H} (hd : d ∈ l) (h : (DataW.weightsAll P e l).all (· ≤ reachBytes) = true) : (d.weights P e).all (· ≤ reachBytes) = true := by
  rw [List.all_eq_true] at h ⊢
  intro x hx
  refine h x ?_
  clear h
  induction l with
  | nil => cases hd
  | cons a l ih =>
    simp only [DataW.weightsAll, List.mem_append]
    rcases List.mem_cons.1 hd with rfl | hd
    · exact .inl hx
    · exact .inr (ih hd)
theorem sl_weights {α : Type} {D : α → DataW H → Prop} {Sl E : TypeId} (hs : P.underlying Sl = some (.slice E)) {xs : List α} {d : DataW H} (h : SlD D xs d) (hw : (d.weights P Sl).all (· ≤ reachBytes) = true) :
    xs.length * P.bytesOf E ≤ reachBytes ∧ ∀ a ∈ xs, ∃ d', D a d' ∧ (d'.weights P E).all (· ≤ reachBytes) = true := by
  rcases h with ⟨rfl, rfl⟩ | ⟨els, sp, rfl, h1, h2⟩
  · simp
  · simp only [DataW.weights, hs, List.all_cons, List.all_append, Bool.and_eq_true, decide_eq_true_eq] at hw
    refine ⟨?_, fun a ha => ?_⟩
    · rw [h1]
      refine Nat.le_trans (Nat.mul_le_mul_right _ (Nat.le_add_right _ _)) hw.1
    · obtain ⟨j, hj, rfl⟩ := List.mem_iff_getElem.1 ha
      exact ⟨_, h2 j hj (by omega), weights_mem (List.getElem_mem _) hw.2.1⟩
end
end Go.Abs
namespace Go.Abs
theorem RLl.rl {V : View} {arr : Array Value} {ps : List PV} (h : RLl V arr.toList ps) : RL V arr ps := by
  refine ⟨by have := h.1; simpa using this, fun i hi => ?_⟩
  have := h.2 i hi
  rw [List.getD_eq_getElem?_getD, Array.getElem?_toList] at this
  rw [Array.getD_eq_getD_getElem?]; exact this
end Go.Abs
namespace Go.Abs
def Agr (s : MSt) (xs : List Ty) : Prop := ∀ i, s.2.getD i false = true → xs.getD i .zero = s.1.getD i .zero
def MLe (s s' : MSt) : Prop := ∀ i, s.2.getD i false = true → s'.2.getD i false = true ∧ s'.1.getD i .zero = s.1.getD i .zero
theorem MLe.refl (s : MSt) : MLe s s := fun i h => ⟨h, rfl⟩
theorem MLe.trans {a b c : MSt} (h : MLe a b) (k : MLe b c) : MLe a c := fun i hi => ⟨(k i (h i hi).1).1, (k i (h i hi).1).2.trans (h i hi).2⟩
theorem Agr.mono {s s' : MSt} {xs : List Ty} (h : MLe s s') (k : Agr s' xs) : Agr s xs := fun i hi => (k i (h i hi).1).trans (h i hi).2
structure MRt (ps : List Int) (xs : List Ty) (s : MSt) : Prop where
  agr : Agr s xs
  zero : ∀ i, s.2.getD i false = false → s.1.getD i .zero = .zero
end Go.Abs
namespace Go.Abs
structure Bd where
  v : Int
  t : Ty
def Bd.enc (b : Bd) : PV := .agg [.int .i64 b.v, .int .i64 b.t.kind, .int .i64 b.t.id, .slice (b.t.args.map Ty.enc) .none]
theorem Bd.enc_len (b : Bd) : b.enc.cells.length = 4 := rfl
theorem Bd.bel (n : Nat) (b : Bd) : Bel n b.enc := .agg _ (by
  intro c hc
  simp at hc
  rcases hc with rfl | rfl | rfl | rfl
  · exact .int _ _
  · exact .int _ _
  · exact .int _ _
  · exact bel_slice_ty _ _)
end Go.Abs
namespace Go.Abs
end Go.Abs
namespace Go.Abs
structure BdAt (P : Program) (B T : TypeId) : Prop where
  st : ∃ f0 f1 : Field, P.underlying B = some (.struct #[f0, f1]) ∧ P.underlying f0.type = some (.int .i64) ∧ f1.type = T ∧ f0.offset = 0 ∧ f1.offset = 1 ∧ P.cellsOf f0.type = 1
  c : P.cellsOf B = 4
section
variable {H : Type} {enc : TypeId × Value → H} {P : Program} {W : World} {spare : Nat → Bool} {held : Bool} {B T S : TypeId}
end
end Go.Abs
namespace Go.Abs
theorem strip (r : List (List Char)) : stripLifts liftWords ("cut".toList :: r) = ([], "cut".toList :: r) := by
  simp only [liftWords]
  repeat (rw [stripLifts, if_neg (by decide)])
  rfl
theorem mayEnter_of {P : Program} {r : List (List Char)} (h : behindMainWord (wordsSigns P.initOrder.toList) = "cut".toList :: r) (h1 : P.laysLater = false) (h2 : P.bearsReflect = false) (h3 : P.doorFits [] = true) : P.mayEnter = true := by
  unfold Program.mayEnter
  rw [h]
  simp only [strip, h1, h2, h3]
  rfl
theorem headLifts_of {P : Program} {r : List (List Char)} (h : behindMainWord (wordsSigns P.initOrder.toList) = "cut".toList :: r) : P.headLifts = [] := by
  unfold Program.headLifts
  rw [h, strip]
  rfl
theorem liftsFinal_of {P : Program} {r : List (List Char)} (h : behindMainWord (wordsSigns P.initOrder.toList) = "cut".toList :: r) : P.liftsFinal = false := by
  unfold Program.liftsFinal
  rw [headLifts_of h, h]
  rfl
theorem make_of {P : Program} {r : List (List Char)} (h : behindMainWord (wordsSigns P.initOrder.toList) = "cut".toList :: r) : P.make = some .cut := by
  unfold Program.make
  rw [h]
  rfl
def sg (l : List Nat) : List Char := l.map Char.ofNat
theorem words_cons (c : Char) (r : List Char) (h : (c == Char.ofNat 32) = false) : wordsSigns (c :: r) = match wordsSigns r with | w :: ws => (c :: w) :: ws | [] => [[c]] := by
  rw [wordsSigns]
  · rfl
  · intro e
    subst e
    simp at h
theorem words_word : ∀ (w r : List Char), w.all (fun c => !(c == Char.ofNat 32)) = true → wordsSigns (w ++ Char.ofNat 32 :: r) = w :: wordsSigns r
  | [], r, _ => by rfl
  | c :: w, r, h => by
    simp only [List.all_cons, Bool.and_eq_true, Bool.not_eq_true'] at h
    rw [List.cons_append, words_cons c _ h.1, words_word w r h.2]
theorem behind_of {P : Program} {a b c r : List Char} (hio : P.initOrder = String.ofList (a ++ Char.ofNat 32 :: (b ++ Char.ofNat 32 :: (c ++ Char.ofNat 32 :: r)))) (ha : a.all (fun c => !(c == Char.ofNat 32)) = true) (hb : b.all (fun c => !(c == Char.ofNat 32)) = true) (hc : c.all (fun c => !(c == Char.ofNat 32)) = true)
    (h : ((a == "harness".toList || a == "ownmain".toList) && isSumSigns b) = true) (hc2 : c = "cut".toList) : behindMainWord (wordsSigns P.initOrder.toList) = "cut".toList :: wordsSigns r := by
  rw [hio, String.toList_ofList, words_word _ _ ha, words_word _ _ hb, words_word _ _ hc]
  simp only [behindMainWord]
  rw [if_pos h, hc2]
end Go.Abs
set_option maxRecDepth 100000
namespace Go.Proofs.Ytndpndmhoheloaa.headFacts
open Go.Abs
def restC : List Char := sg [97, 116, 32, 103, 108, 111, 115, 115, 97, 116, 111, 114, 47, 103, 108, 111, 115, 115, 97, 116, 111, 114, 116, 111, 112, 46, 84, 111, 112, 67, 97, 110, 99, 101, 108, 101, 100]
theorem io : Try.prog.initOrder = String.ofList (sg [104, 97, 114, 110, 101, 115, 115] ++ Char.ofNat 32 :: (sg [98, 56, 49, 54, 51, 56, 101, 48, 50, 52, 49, 102, 102, 102, 53, 53, 52, 99, 98, 97, 51, 53, 49, 49, 53, 48, 49, 99, 55, 102, 48, 49, 51, 49, 97, 98, 53, 100, 102, 50, 52, 56, 101, 55, 99, 55, 56, 52, 50, 52, 51, 101, 55, 49, 55, 100, 100, 53, 48, 49, 100, 99, 98, 98] ++ Char.ofNat 32 :: (sg [99, 117, 116] ++ Char.ofNat 32 :: restC))) := by kernel_rfl
theorem beh : behindMainWord (wordsSigns Try.prog.initOrder.toList) = "cut".toList :: wordsSigns restC := behind_of io (by decide) (by decide) (by decide) (by kernel_rfl) (by kernel_rfl)
theorem later : Try.prog.laysLater = false := by kernel_rfl
theorem refl : Try.prog.bearsReflect = false := by kernel_rfl
theorem door : Try.prog.doorFits [] = true := by kernel_rfl
theorem mayEnter : Try.prog.mayEnter = true := mayEnter_of beh later refl door
theorem liftsFinal : Try.prog.liftsFinal = false := liftsFinal_of beh
theorem make : Try.prog.make = some .cut := make_of beh
end Go.Proofs.Ytndpndmhoheloaa.headFacts
set_option maxRecDepth 4000
namespace Go.Abs
open Go.Proofs Go.Memo
section
variable {H : Type} {enc : TypeId × Value → H} {W : World} {spare : Nat → Bool} {held : Bool}
theorem rd_k52 (fuel : Nat) (cs : List Value) (x : DataW H × List MemPlace) (h : DataW.trod enc Try.prog W 0 spare held fuel 52 cs = some x) : ∃ k : QK, RLl (env0 W).view cs (kE k).cells ∧ True := by
  obtain ⟨ds, n, rfl, hx, hlen, hdl, hf⟩ := rd_fields Try.underlying52 h
  rw [show Try.prog.cellsOf 52 = 3 from by kernel_rfl] at hlen
  match cs, hlen with
  | [v0, v1, v2], _ =>
  obtain ⟨d0, p0, g0, r0⟩ := hf 0 _ rfl
  have r0 : DataW.trod enc Try.prog W 0 spare held n 3 [v0] = some (d0, p0) := by
    have e : Try.prog.cellsOf 3 = 1 := by kernel_rfl
    have r0 : DataW.trod enc Try.prog W 0 spare held n 3 (List.take (Try.prog.cellsOf 3) (List.drop 0 [v0, v1, v2])) = some (d0, p0) := r0
    rw [e] at r0
    exact r0
  obtain ⟨a0, q0, rfl, _, _⟩ := rd_int Try.underlying3 r0
  obtain ⟨d1, p1, g1, r1⟩ := hf 1 _ rfl
  have r1 : DataW.trod enc Try.prog W 0 spare held n 3 [v1] = some (d1, p1) := by
    have e : Try.prog.cellsOf 3 = 1 := by kernel_rfl
    have r1 : DataW.trod enc Try.prog W 0 spare held n 3 (List.take (Try.prog.cellsOf 3) (List.drop 1 [v0, v1, v2])) = some (d1, p1) := r1
    rw [e] at r1
    exact r1
  obtain ⟨a1, q1, rfl, _, _⟩ := rd_int Try.underlying3 r1
  obtain ⟨d2, p2, g2, r2⟩ := hf 2 _ rfl
  have r2 : DataW.trod enc Try.prog W 0 spare held n 3 [v2] = some (d2, p2) := by
    have e : Try.prog.cellsOf 3 = 1 := by kernel_rfl
    have r2 : DataW.trod enc Try.prog W 0 spare held n 3 (List.take (Try.prog.cellsOf 3) (List.drop 2 [v0, v1, v2])) = some (d2, p2) := r2
    rw [e] at r2
    exact r2
  obtain ⟨a2, q2, rfl, _, _⟩ := rd_int Try.underlying3 r2
  exact ⟨(a0, a1, a2), (RLl.app q0 (RLl.app q1 q2)), trivial⟩
theorem rd_k34 (fuel : Nat) (cs : List Value) (x : DataW H × List MemPlace) (h : DataW.trod enc Try.prog W 0 spare held fuel 34 cs = some x) : ∃ k : QK, RLl (env0 W).view cs (kE k).cells ∧ True := by
  obtain ⟨ds, n, rfl, hx, hlen, hdl, hf⟩ := rd_fields Try.underlying34 h
  rw [show Try.prog.cellsOf 34 = 3 from by kernel_rfl] at hlen
  match cs, hlen with
  | [v0, v1, v2], _ =>
  obtain ⟨d0, p0, g0, r0⟩ := hf 0 _ rfl
  have r0 : DataW.trod enc Try.prog W 0 spare held n 3 [v0] = some (d0, p0) := by
    have e : Try.prog.cellsOf 3 = 1 := by kernel_rfl
    have r0 : DataW.trod enc Try.prog W 0 spare held n 3 (List.take (Try.prog.cellsOf 3) (List.drop 0 [v0, v1, v2])) = some (d0, p0) := r0
    rw [e] at r0
    exact r0
  obtain ⟨a0, q0, rfl, _, _⟩ := rd_int Try.underlying3 r0
  obtain ⟨d1, p1, g1, r1⟩ := hf 1 _ rfl
  have r1 : DataW.trod enc Try.prog W 0 spare held n 3 [v1] = some (d1, p1) := by
    have e : Try.prog.cellsOf 3 = 1 := by kernel_rfl
    have r1 : DataW.trod enc Try.prog W 0 spare held n 3 (List.take (Try.prog.cellsOf 3) (List.drop 1 [v0, v1, v2])) = some (d1, p1) := r1
    rw [e] at r1
    exact r1
  obtain ⟨a1, q1, rfl, _, _⟩ := rd_int Try.underlying3 r1
  obtain ⟨d2, p2, g2, r2⟩ := hf 2 _ rfl
  have r2 : DataW.trod enc Try.prog W 0 spare held n 3 [v2] = some (d2, p2) := by
    have e : Try.prog.cellsOf 3 = 1 := by kernel_rfl
    have r2 : DataW.trod enc Try.prog W 0 spare held n 3 (List.take (Try.prog.cellsOf 3) (List.drop 2 [v0, v1, v2])) = some (d2, p2) := r2
    rw [e] at r2
    exact r2
  obtain ⟨a2, q2, rfl, _, _⟩ := rd_int Try.underlying3 r2
  exact ⟨(a0, a1, a2), (RLl.app q0 (RLl.app q1 q2)), trivial⟩
theorem rd_ks (fuel : Nat) (cs : List Value) (x : DataW H × List MemPlace) (h : DataW.trod enc Try.prog W 0 spare held fuel 53 cs = some x) : ∃ l : List QK, RLl (env0 W).view cs (ksE l).cells ∧ True := by
  obtain ⟨xs, v, rfl, hr, _⟩ := rd_slice kE (fun _ _ => True) Try.underlying53 (fun a => by rw [kE_cells]; kernel_rfl) h (fun n cs' x' _ h' => rd_k52 n cs' x' h')
  exact ⟨xs, .cons hr .nil, trivial⟩
def qpE (t : Int × List (List QK)) : PV := .agg [vint t.1, .slice (t.2.map ksE) .none]
theorem qp_agg (t : Int × List (List QK)) : PV.agg (qpE t).cells = qpE t := rfl
def QpD {H : Type} (t : Int × List (List QK)) (d : DataW H) : Prop := ∃ d1, d = .agg [.lit (.int .i64 t.1), d1] ∧ SlD (fun _ _ => True) t.2 d1
theorem rd_qp (fuel : Nat) (cs : List Value) (x : DataW H × List MemPlace) (h : DataW.trod enc Try.prog W 0 spare held fuel 24 cs = some x) : ∃ t : Int × List (List QK), RLl (env0 W).view cs (qpE t).cells ∧ QpD t x.1 := by
  obtain ⟨ds, n, rfl, hx, hlen, hdl, hf⟩ := rd_fields Try.underlying24 h
  rw [show Try.prog.cellsOf 24 = 2 from by kernel_rfl] at hlen
  match cs, hlen with
  | [v0, v1], _ =>
  obtain ⟨d0, p0, g0, r0⟩ := hf 0 _ rfl
  have r0 : DataW.trod enc Try.prog W 0 spare held n 3 [v0] = some (d0, p0) := by
    have e : Try.prog.cellsOf 3 = 1 := by kernel_rfl
    have r0 : DataW.trod enc Try.prog W 0 spare held n 3 (List.take (Try.prog.cellsOf 3) (List.drop 0 [v0, v1])) = some (d0, p0) := r0
    rw [e] at r0
    exact r0
  obtain ⟨a0, q0, rfl, _, _⟩ := rd_int Try.underlying3 r0
  obtain ⟨d1, p1, g1, r1⟩ := hf 1 _ rfl
  have r1 : DataW.trod enc Try.prog W 0 spare held n 22 [v1] = some (d1, p1) := by
    have e : Try.prog.cellsOf 22 = 1 := by kernel_rfl
    have r1 : DataW.trod enc Try.prog W 0 spare held n 22 (List.take (Try.prog.cellsOf 22) (List.drop 1 [v0, v1])) = some (d1, p1) := r1
    rw [e] at r1
    exact r1
  obtain ⟨xs, v, hv, hr, hd⟩ := rd_slice ksE (fun _ _ => True) Try.underlying22 (fun a => by rw [ksE_cells]; kernel_rfl) r1 (fun n cs' x' _ h' => rd_ks n cs' x' h')
  refine ⟨(a0, xs), ?_, ?_⟩
  · rw [hv]; exact RLl.app q0 (.cons hr .nil)
  · rw [hx]
    have e : ds = [.lit (.int .i64 a0), d1] := by
      match ds, hdl with
      | [e0, e1], _ =>
        simp at g0 g1
        rw [g0, g1]
    rw [e]
    exact ⟨d1, rfl, hd⟩
theorem qp_weights {t : Int × List (List QK)} {d : DataW H} (h : QpD t d) (hw : (d.weights Try.prog 24).all (· ≤ reachBytes) = true) : t.2.length * Try.prog.bytesOf 53 ≤ reachBytes := by
  obtain ⟨d1, rfl, hs⟩ := h
  simp only [DataW.weights, Try.underlying24, DataW.weightsEach, List.map_cons, List.map_nil, List.nil_append, List.append_nil, List.all_append, List.all_cons, List.all_nil, Bool.and_eq_true, Bool.and_true, decide_eq_true_eq] at hw
  exact (sl_weights Try.underlying22 hs (by first | exact hw | exact hw.2)).1
end
end Go.Abs
