/- Part 7 of a proof of the law RelexReference: Go data as trees, the walks of the functions that the law reaches, the plain laws. -/
import Derived.Test.YtihcoegdfbpngaaGreatDoorGFRelexReference
import Derived.Shelf.Slices.SearchI
import Derived.Shelf.Slices.Empties
import Derived.Ground.Names2Prog
import Derived.Test.YtihcoegdfbpngaaGreatDoorProg
import Derived.Shelf.Strings.Builder1
import Derived.Shelf.Strings.BuilderF
import Derived.Lib.FrozenHead2
import Derived.Lib.OthersKept
import Derived.WalkKit
import Derived.BigCall
import Derived.Lib.Hide
set_option linter.unusedVariables false
set_option linter.unusedSimpArgs false
namespace Go.Proofs
open Go.Shelf
def Tryz.laysNm225_ren : Go.Shelf.Ren := ⟨fun | 25 => 42 | 31 => 76 | 32 => 77 | 37 => 98 | n => n, fun | 22 => 50 | 3 => 3 | 4 => 4 | 40 => 105 | 0 => 0 | n => n, fun | n => n⟩
theorem Tryz.laysNm225 : Go.Proofs.Lays2.n25 Tryz.prog Tryz.laysNm225_ren := {
  mixed := by kernel_rfl
  f25 := Tryz.func42.trans (congrArg some (by kernel_rfl))
  f31 := Tryz.func76.trans (congrArg some (by kernel_rfl))
  f32 := Tryz.func77.trans (congrArg some (by kernel_rfl))
  f37 := Tryz.func98.trans (congrArg some (by kernel_rfl))
  t0 := Tryz.underlying0
  a0 := Tryz.isAgg0
  z0 := Tryz.sizeOf0
  v0 := Tryz.zeroValue0
  t3 := Tryz.underlying3
  a3 := Tryz.isAgg3
  z3 := Tryz.sizeOf3
  v3 := Tryz.zeroValue3
  t4 := Tryz.underlying4
  a4 := Tryz.isAgg4
  z4 := Tryz.sizeOf4
  v4 := Tryz.zeroValue4
  t22 := Tryz.underlying50
  a22 := Tryz.isAgg50
  z22 := Tryz.sizeOf50
  v22 := Tryz.zeroValue50
  t40 := Tryz.underlying105
  a40 := Tryz.isAgg105
  z40 := Tryz.sizeOf105
  v40 := Tryz.zeroValue105 }
open Go.RowKit Go.Lib in
theorem Tryz.slices_BinarySearch_int (b off n c : Nat) (zs : List Int) (x : Int) (w : World) (hz : n ≤ zs.length) (hbig : n < 4611686018427387904) (hc : ∀ j, j < zs.length → w.cell? ⟨b, off + j, none⟩ = some (.int .i64 (zs.getD j 0))) (hs : (zs.take n).Pairwise (· ≤ ·)) :
    Calls Tryz.prog 42 #[.slice (some ⟨b, off, none⟩) n c, .int .i64 x] w fun e w' => e = .returned (.tuple #[.int .i64 ((zs.take n).countP (· < x) : Nat), .bool ((zs.take n).contains x)]) ∧ ∃ q, w' = w.drewN q := Any.slices_BinarySearch_int Tryz.laysNm225 b off n c zs x w hz hbig hc hs
open Go.RowKit Go.Lib in
theorem Tryz.slices_BinarySearch_int_empty (a : Option Addr) (c : Nat) (x : Int) (w : World) :
    Calls Tryz.prog 42 #[.slice a 0 c, .int .i64 x] w fun e w' => e = .returned (.tuple #[.int .i64 0, .bool false]) ∧ w' = w := Any.slices_BinarySearch_int_empty Tryz.laysNm225 a c x w
end Go.Proofs
namespace Go.Proofs
open Go.Shelf
def Tryz.lays169_ren : Go.Shelf.Ren := ⟨fun | 169 => 41 | n => n, fun | 70 => 75 | 9 => 9 | 0 => 0 | 72 => 78 | 37 => 76 | 127 => 104 | 3 => 3 | 5 => 5 | n => n, fun | n => n⟩
theorem Tryz.lays169 : Go.Proofs.Lays.n169 Tryz.prog Tryz.lays169_ren := {
 mixed := by kernel_rfl
 f169 := Tryz.func41.trans (congrArg some (by kernel_rfl))
 t0 := Tryz.underlying0
 a0 := Tryz.isAgg0
 z0 := Tryz.sizeOf0
 v0 := Tryz.zeroValue0
 t3 := Tryz.underlying3
 a3 := Tryz.isAgg3
 z3 := Tryz.sizeOf3
 v3 := Tryz.zeroValue3
 t9 := Tryz.underlying9
 a9 := Tryz.isAgg9
 z9 := Tryz.sizeOf9
 v9 := Tryz.zeroValue9
 t37 := Tryz.underlying76
 a37 := Tryz.isAgg76
 z37 := Tryz.sizeOf76
 v37 := Tryz.zeroValue76
 t70 := Tryz.underlying75
 a70 := Tryz.isAgg75
 z70 := Tryz.sizeOf75
 v70 := Tryz.zeroValue75
 t72 := Tryz.underlying78
 a72 := Tryz.isAgg78
 z72 := Tryz.sizeOf78
 v72 := Tryz.zeroValue78
 t127 := Tryz.underlying104
 a127 := Tryz.isAgg104
 z127 := Tryz.sizeOf104
 v127 := Tryz.zeroValue104 }
theorem Tryz.Builder_Extra_169 : Builder.Extra Tryz.prog Tryz.lays169_ren := {
 sizeBuilder := by kernel_rfl
 liesBuilder := by kernel_rfl
 t5 := Tryz.underlying5
 a5 := Tryz.isAgg5
 z5 := Tryz.sizeOf5
 v5 := Tryz.zeroValue5
 infoByte := by kernel_rfl
 cellsByte := by kernel_rfl
 sizeByte := by kernel_rfl
 neB5 := by decide }
open Go.RowKit in
theorem Tryz.Builder_String_any_f (B b : Nat) (l : List UInt8) (w : World) (h : Lib.IsBuilderF 78 5 B b (Lib.byteCells l) w) (hBw : B ≤ w.heap.size) :
  Calls Tryz.prog 41 #[.pointer (some ⟨b, 0, none⟩)] w fun e w' => e = .returned (.string ⟨l.toArray⟩) ∧ (Lib.IsBuilderF 78 5 B b (Lib.byteCells l) w' ∧ Below B w w') := Any.Builder_String_any_f Tryz.lays169 Tryz.Builder_Extra_169 B b l w h hBw
open Go.RowKit
set_option maxHeartbeats 1000000 in
set_option maxRecDepth 100000 in
theorem Tryz.copyCheck_used (b : Nat) (w : World) (h0 : w.cell? ⟨b, 0, none⟩ = some (.pointer (some ⟨b, 0, none⟩))) :
  Calls Tryz.prog 75 #[.pointer (some ⟨b, 0, none⟩)] w fun e w' => e = .returned (.tuple #[]) ∧ w' = w := by
 obtain ⟨j, hj, _⟩ := Option.map_eq_some_iff.1 Tryz.Builder_Extra_169.sizeBuilder
 have mixed := Tryz.lays169.mixed
 have t72 := Tryz.underlying78; have a72 := Tryz.isAgg78; have z72 := Tryz.sizeOf78; have v72 := Tryz.zeroValue78; have u72 := run_underlying Tryz.underlying78
 have t70 := Tryz.underlying75; have a70 := Tryz.isAgg75; have z70 := Tryz.sizeOf75; have v70 := Tryz.zeroValue75; have u70 := run_underlying Tryz.underlying75
 have t9 := Tryz.underlying9; have a9 := Tryz.isAgg9; have z9 := Tryz.sizeOf9; have v9 := Tryz.zeroValue9; have u9 := run_underlying Tryz.underlying9
 have t4 := Tryz.underlying4; have a4 := Tryz.isAgg4; have z4 := Tryz.sizeOf4; have v4 := Tryz.zeroValue4; have u4 := run_underlying Tryz.underlying4
 have t164 := Tryz.underlying112; have a164 := Tryz.isAgg112; have z164 := Tryz.sizeOf112; have v164 := Tryz.zeroValue112; have u164 := run_underlying Tryz.underlying112
 go_enter Tryz.func75, Tryz.ntmps75
 go_wp2
 rw [Lib.run_neq_ptr_same w _ Tryz.underlying75 hj]
 go_wp2
 go_end0
 exact ⟨rfl, rfl⟩
set_option maxHeartbeats 1000000 in
set_option maxRecDepth 100000 in
theorem Tryz.copyCheck_fresh (b : Nat) (w : World) (h0 : w.cell? ⟨b, 0, none⟩ = some (.pointer none)) (hsh : w.shape? b = some (78, 2)) (hfz : w.frozen? ⟨b, 0, none⟩ = false) :
  Calls Tryz.prog 75 #[.pointer (some ⟨b, 0, none⟩)] w fun e w' => e = .returned (.tuple #[]) ∧ w' = w.setCell ⟨b, 0, none⟩ (.pointer (some ⟨b, 0, none⟩)) := by
 obtain ⟨j, hj, hjs⟩ := Option.map_eq_some_iff.1 Tryz.Builder_Extra_169.sizeBuilder
 have mixed := Tryz.lays169.mixed
 have t72 := Tryz.underlying78; have a72 := Tryz.isAgg78; have z72 := Tryz.sizeOf78; have v72 := Tryz.zeroValue78; have u72 := run_underlying Tryz.underlying78
 have t70 := Tryz.underlying75; have a70 := Tryz.isAgg75; have z70 := Tryz.sizeOf75; have v70 := Tryz.zeroValue75; have u70 := run_underlying Tryz.underlying75
 have t9 := Tryz.underlying9; have a9 := Tryz.isAgg9; have z9 := Tryz.sizeOf9; have v9 := Tryz.zeroValue9; have u9 := run_underlying Tryz.underlying9
 have t4 := Tryz.underlying4; have a4 := Tryz.isAgg4; have z4 := Tryz.sizeOf4; have v4 := Tryz.zeroValue4; have u4 := run_underlying Tryz.underlying4
 have t164 := Tryz.underlying112; have a164 := Tryz.isAgg112; have z164 := Tryz.sizeOf112; have v164 := Tryz.zeroValue112; have u164 := run_underlying Tryz.underlying112
 go_enter Tryz.func75, Tryz.ntmps75
 go_wp2
 rw [Lib.run_to_unsafe w ⟨b, 0, none⟩ Tryz.underlying75 Tryz.underlying112 hj (by rw [hjs]; decide) hsh (Nat.zero_lt_succ 1)]
 simp only [Result.andThen]
 rw [Oper.upon_value]
 go_wp2
 rw [run_callFunc_extern Tryz.func97 (by kernel_rfl) (by kernel_rfl) (by kernel_rfl) (e := Extern.AbiNoEscape.same) (by kernel_rfl)]
 rw [Lib.run_noEscape]
 simp only [Result.andThen]
 rw [Oper.upon_value]
 go_wp2
 rw [Lib.run_from_unsafe w ⟨b, 0, none⟩ Tryz.underlying112 Tryz.underlying75 hj hsh Tryz.Builder_Extra_169.liesBuilder]
 simp only [Result.andThen]
 rw [Oper.upon_value]
 go_wp2
 go_end0
 exact ⟨rfl, rfl⟩
theorem Tryz.copyCheck_k (B b : Nat) (bs : List Value) (w : World) (h : Lib.IsBuilderF 78 5 B b bs w) :
  Calls Tryz.prog 75 #[.pointer (some ⟨b, 0, none⟩)] w fun e w' => e = .returned (.tuple #[]) ∧ (Lib.BuilderAtF 78 5 B b (.pointer (some ⟨b, 0, none⟩)) bs w' ∧ Below B w w' ∧ Lib.OthersKept 5 (some b) w w') := by
 rcases h with h | h
 ·refine (Tryz.copyCheck_fresh b w h.cell0 h.shape h.frozen0).mono ?_
  rintro e w' ⟨rfl, rfl⟩
  exact ⟨rfl, h.used _, (Below.refl B w).setCell (p := ⟨b, 0, none⟩) h.1 _, (Lib.OthersKept.refl _ _ w).setCell ⟨b, 0, none⟩ rfl _⟩
 ·refine (Tryz.copyCheck_used b w h.cell0).mono ?_
  rintro e w' ⟨rfl, rfl⟩
  exact ⟨rfl, h, Below.refl B _, Lib.OthersKept.refl _ _ _⟩
set_option maxHeartbeats 2000000 in
set_option maxRecDepth 100000 in
theorem Tryz.wrk (B b : Nat) (bs : List Value) (s : ByteArray) (w : World) (h : Lib.IsBuilderF 78 5 B b bs w) (hlen : bs.length + s.size ≤ 140737488355328) (hBw : B ≤ w.heap.size) :
  Calls Tryz.prog 40 #[.pointer (some ⟨b, 0, none⟩), .string s] w fun e w' => e = .returned (.tuple #[.int .i64 s.size, .nilIface]) ∧ (Lib.BuilderAtF 78 5 B b (.pointer (some ⟨b, 0, none⟩)) (bs ++ Lib.strCells s) w' ∧ Below B w w' ∧ Lib.OthersKept 5 (some b) w w') := by
 obtain ⟨i0, hi, hz0, hz1, hz2⟩ := info_parts Tryz.Builder_Extra_169.infoByte
 have mixed := Tryz.lays169.mixed
 have t72 := Tryz.underlying78; have a72 := Tryz.isAgg78; have z72 := Tryz.sizeOf78; have v72 := Tryz.zeroValue78; have u72 := run_underlying Tryz.underlying78
 have t70 := Tryz.underlying75; have a70 := Tryz.isAgg75; have z70 := Tryz.sizeOf75; have v70 := Tryz.zeroValue75; have u70 := run_underlying Tryz.underlying75
 have t9 := Tryz.underlying9; have a9 := Tryz.isAgg9; have z9 := Tryz.sizeOf9; have v9 := Tryz.zeroValue9; have u9 := run_underlying Tryz.underlying9
 have t4 := Tryz.underlying4; have a4 := Tryz.isAgg4; have z4 := Tryz.sizeOf4; have v4 := Tryz.zeroValue4; have u4 := run_underlying Tryz.underlying4
 have t164 := Tryz.underlying112; have a164 := Tryz.isAgg112; have z164 := Tryz.sizeOf112; have v164 := Tryz.zeroValue112; have u164 := run_underlying Tryz.underlying112
 have t37 := Tryz.underlying76; have a37 := Tryz.isAgg76; have z37 := Tryz.sizeOf76; have v37 := Tryz.zeroValue76; have u37 := run_underlying Tryz.underlying76
 have t3 := Tryz.underlying3; have a3 := Tryz.isAgg3; have z3 := Tryz.sizeOf3; have v3 := Tryz.zeroValue3; have u3 := run_underlying Tryz.underlying3
 have t5 := Tryz.underlying5; have a5 := Tryz.isAgg5; have z5 := Tryz.sizeOf5; have v5 := Tryz.zeroValue5; have u5 := run_underlying Tryz.underlying5
 have e240 : ∀ args w, (callFunc 75 args).run Tryz.prog w = .ok (.enter 75 args) w := enters_of Tryz.func75 (by kernel_rfl) rfl
 go_enter Tryz.func40, Tryz.ntmps40
 go_wp2_with (go_at_fn 75; refine (Tryz.copyCheck_k B b bs _ h).mono ?_)
 rintro e w1 ⟨rfl, h1, hb1, hk1⟩
 obtain ⟨hB, v, hbk, hown, hne⟩ := h1
 have c0 : w1.cell? ⟨b, 0, none⟩ = some (.pointer (some ⟨b, 0, none⟩)) := by rw [Lib.cell_of_heap hbk]; rfl
 have c1 : w1.cell? ⟨b, 1, none⟩ = some v := by rw [Lib.cell_of_heap hbk]; rfl
 go_wp2_with (at_builtin; refine Lib.wpList_append_own_stringF _ rfl _ _ 76 9 rfl B 5 i0 Tryz.underlying76 Tryz.underlying9 hi hz0 hz1 hz2 _ _ _ rfl hown s rfl ?c3 ?c4 ?c5 ?_)
 case c3 => unfold maxLen; omega
 case c4 => omega
 case c5 => have := hb1.size; omega
 intro v' w2 hown' hgrow _
 have hlt : b < w1.heap.size := by
  rcases Nat.lt_or_ge b w1.heap.size with h' | h'
  ·exact h'
  ·simp [Array.getElem?_eq_none h'] at hbk
 have hb2 : w2.heap[b]? = some (.cells #[.pointer (some ⟨b, 0, none⟩), v] 78 (0, 0)) := by
  rw [hgrow.block b hlt (fun e => hne e.symm)]
  exact hbk
 have d0 : w2.cell? ⟨b, 0, none⟩ = some (.pointer (some ⟨b, 0, none⟩)) := by rw [Lib.cell_of_heap hb2]; rfl
 have d1 : w2.cell? ⟨b, 1, none⟩ = some v := by rw [Lib.cell_of_heap hb2]; rfl
 have f1 : w2.frozen? ⟨b, 1, none⟩ = false := Lib.frozen_of_heap hb2 1
 obtain ⟨ao, n', cap, rfl⟩ : ∃ ao n' cap, v' = .slice ao n' cap := by
  rcases hown'.2 with ⟨hv, _⟩ | ⟨g, cap, cur, fz, hv, _⟩
  ·exact ⟨_, _, _, hv⟩
  ·exact ⟨_, _, _, hv⟩
 go_wp2
 go_ret2
 refine ⟨rfl, ?_, ?_, (hk1.grown hgrow (Lib.ownsRowF_kind hown)).setCell ⟨b, 1, none⟩ rfl _⟩
 ·exact Lib.BuilderAtF.put (T := 78) (e := 5) hB hb2 (bs' := bs ++ Lib.strCells s) (by simpa [Lib.strCells_length] using hown') (by decide)
 ·exact (hb1.grown hgrow (by have := hb1.size; omega) (fun k hk => (hown.lt k hk).1)).setCell (p := ⟨b, 1, none⟩) hB _
theorem Tryz.wr (B b : Nat) (bs : List Value) (s : ByteArray) (w : World) (h : Lib.IsBuilderF 78 5 B b bs w) (hlen : bs.length + s.size ≤ 140737488355328) (hBw : B ≤ w.heap.size) :
  Calls Tryz.prog 40 #[.pointer (some ⟨b, 0, none⟩), .string s] w fun e w' => e = .returned (.tuple #[.int .i64 s.size, .nilIface]) ∧ (Lib.BuilderAtF 78 5 B b (.pointer (some ⟨b, 0, none⟩)) (bs ++ Lib.strCells s) w' ∧ Below B w w') :=
 (Tryz.wrk B b bs s w h hlen hBw).mono fun _ _ h => ⟨h.1, h.2.1, h.2.2.1⟩
end Go.Proofs
namespace Go.Abs
open Go.Proofs Go.RowKit
mutual
def srcB : St → List UInt8
 | .mk k x ch => if k ≥ 100 then x else srcBs ch
def srcBs : List St → List UInt8
 | [] => []
 | t :: ts => srcB t ++ srcBs ts
end
theorem srcBs_app : ∀ a b, srcBs (a ++ b) = srcBs a ++ srcBs b
 | [], b => by simp [srcBs]
 | t :: a, b => by simp only [List.cons_append, srcBs, srcBs_app a b, List.append_assoc]
theorem srcBs_succ {tc : List St} {i : Nat} (h : i < tc.length) : srcBs (tc.take (i + 1)) = srcBs (tc.take i) ++ srcB tc[i] := by
 rw [List.take_add_one, List.getElem?_eq_getElem h, srcBs_app]
 simp [srcBs]
theorem srcBs_le {tc : List St} (i : Nat) : (srcBs (tc.take i)).length ≤ (srcBs tc).length := by
 conv => rhs; rw [← List.take_append_drop i tc, srcBs_app, List.length_append]
 omega
theorem add_at1 (a : Addr) (k : Nat) : a.add (k + 1) = ⟨(a.add k).block, (a.add k).off + 1, none⟩ := by
 unfold Addr.add
 rw [if_neg (by omega)]
 by_cases h : k = 0
 ·simp [h]
 ·simp only [if_neg h, Addr.mk.injEq, true_and, and_true]; omega
theorem add_at2 (a : Addr) (k : Nat) : a.add (k + 2) = ⟨(a.add k).block, (a.add k).off + 2, none⟩ := by
 unfold Addr.add
 rw [if_neg (by omega)]
 by_cases h : k = 0
 ·simp [h]
 ·simp only [if_neg h, Addr.mk.injEq, true_and, and_true]; omega
theorem bld_below {T e : TypeId} {B b : Nat} {bs : List Value} {w w' : World} (h : Lib.IsBuilderF T e B b bs w) (hb : Below w.heap.size w w') : Lib.IsBuilderF T e B b bs w' := by
 have key : ∀ p, Lib.BuilderAtF T e B b p bs w → Lib.BuilderAtF T e B b p bs w' := by
  rintro p ⟨hB, v, h1, h2, h3⟩
  refine ⟨hB, v, ?_, h2.kept (row := none) ⟨hb.os, hb.tape, hb.output, hb.size, fun k hk _ => hb.block k hk⟩ ?_, h3⟩
  ·rw [hb.block _ (Array.getElem?_eq_some_iff.1 h1).1]; exact h1
  ·cases h : v.ownBlock <;> simp
 exact h.imp (key _) (key _)
theorem meas {n i : Nat} (h : i < n) : n - ((i : Int) + 1).toNat < n - (i : Int).toNat := by
 rw [show ((i : Int) + 1).toNat = i + 1 from rfl, show (i : Int).toNat = i from rfl]; omega
def intOf : Value → Nat
 | .int _ n => n.toNat
 | _ => 0
theorem tree_inv {V : View} {v : Value} {t : St} (h : VRel V v t.enc) : ∃ z sl, v = .agg #[.int .i64 t.kind, .string z, sl] ∧ z.data.toList = t.text ∧ VRel V sl (.slice (t.ch.map St.enc) .none) := by
 rw [St.enc_eq] at h
 cases h with
 | agg arr cs hl hr =>
  have h0 := hr 0 (by simp)
  have h1 := hr 1 (by simp)
  have h2 := hr 2 (by simp)
  simp only [List.getElem_cons_zero, List.getElem_cons_succ] at h0 h1 h2
  obtain ⟨x0, x1, x2, rfl⟩ : ∃ x0 x1 x2, arr = #[x0, x1, x2] := by
   have hl' : arr.size = 3 := by simpa using hl
   exact ⟨arr[0], arr[1], arr[2], by apply Array.ext <;> simp [hl']; intro i hi hi2; match i, hi2 with | 0, _ => rfl | 1, _ => rfl | 2, _ => rfl⟩
  simp only [Array.getD_eq_getD_getElem?, List.getElem?_toArray, List.getElem?_cons_zero, List.getElem?_cons_succ, Option.getD_some] at h0 h1 h2
  cases h0
  generalize hs : t.text = s at h1
  cases h1 with
  | str z => exact ⟨z, x2, rfl, rfl, h2⟩
theorem kids_inv {V : View} {sl : Value} {tc : List St} (h : VRel V sl (.slice (tc.map St.enc) .none)) : ∃ ao cap, sl = .slice ao tc.length cap ∧ tc.length ≤ maxLen ∧ ∀ i (hi : i < tc.length), ∃ a x0 x1 x2, ao = some a ∧
  V.cell (a.add (i * 3)) = some x0 ∧ V.cell (a.add (i * 3 + 1)) = some x1 ∧ V.cell (a.add (i * 3 + 2)) = some x2 ∧ VRel V (.agg #[x0, x1, x2]) tc[i].enc := by
 generalize he : tc.map St.enc = es at h
 cases h with
 | nils _ _ =>
  obtain rfl : tc = [] := by simpa using he
  exact ⟨none, 0, rfl, Nat.zero_le _, fun i hi => by simp at hi⟩
 | slice a len cap sz _ _ vs hl hcap hmax hsz hc hr ht =>
  subst he
  rw [List.length_map] at hl
  subst hl
  refine ⟨some a, cap, rfl, by omega, fun i hi => ?_⟩
  have hi' : i < (tc.map St.enc).length := by simpa using hi
  have hz := hsz i hi'
  simp only [List.getElem_map, St.enc_cells, List.length_cons, List.length_nil] at hz
  subst hz
  have hce : ((tc.map St.enc)[i]).cells = [.int .i64 tc[i].kind, .str tc[i].text, .slice (tc[i].ch.map St.enc) .none] := by rw [List.getElem_map, St.enc_cells]
  refine ⟨a, vs i 0, vs i 1, vs i 2, rfl, hc i 0 hi (by omega), hc i 1 hi (by omega), hc i 2 hi (by omega), ?_⟩
  have hg : ∀ j (hj : j < 3), VRel V (vs i j) ((tc[i].enc.cells)[j]'(by rw [St.enc_cells]; exact hj)) := fun j hj => by
   have := hr i j hi' (by rw [hce]; exact hj)
   simp only [List.getElem_map] at this; exact this
  rw [St.enc_eq]
  have g0 := hg 0 (by omega)
  have g1 := hg 1 (by omega)
  have g2 := hg 2 (by omega)
  simp only [St.enc_cells, List.getElem_cons_zero, List.getElem_cons_succ] at g0 g1 g2
  refine .agg _ _ rfl fun j hj => ?_
  match j, hj with
  | 0, _ => exact g0
  | 1, _ => exact g1
  | 2, _ => exact g2
set_option maxHeartbeats 4000000 in
set_option maxRecDepth 100000 in
theorem src_k (V : View) : ∀ (k : Nat) (t : St), t.size ≤ k → ∀ (v : Value) (w : World), VRel V v t.enc → (∀ a x, V.cell a = some x → w.cell? a = some x) → (srcB t).length ≤ 140737488355328 →
  Calls Tryz.prog 68 #[v] w fun e w' => e = .returned (.string ⟨(srcB t).toArray⟩) ∧ Below w.heap.size w w' := by
 intro k
 induction k with
 | zero => intro t ht; cases t; simp [St.size] at ht
 | succ k ih =>
 intro t ht v w hv hw hlen
 obtain ⟨z, sl, rfl, hz, hs⟩ := tree_inv hv
 obtain ⟨tk, tx, tc⟩ := t
 simp only [St.kind, St.text, St.ch] at hz hs
 have hv : Calls Tryz.prog 68 #[.agg #[.int .i64 tk, .string z, sl]] w fun e w' => e = .returned (.string ⟨(srcB (.mk tk tx tc)).toArray⟩) ∧ Below w.heap.size w w' := by
  by_cases h1 : tk < 100
  ·have h2 : ¬ (100 ≤ tk) := by omega
   have hsr : srcB (.mk tk tx tc) = srcBs tc := by rw [srcB, if_neg (by omega)]
   rw [hsr] at hlen ⊢
   clear hv
   obtain ⟨ao, cap, rfl, hmx, hk⟩ := kids_inv hs
   have h0 : Lib.IsBuilderF 78 5 (w.heap.size + 1) (w.heap.size + 1) (Lib.byteCells []) ((w.alloc (.cells #[.int .i64 tk, .string z, .slice ao tc.length cap] 38)).alloc (.cells #[.pointer none, .slice none 0 0] 78)) := by
    have := Lib.IsBuilderF.of (Lib.fresh_isBuilder 78 5 (w.alloc (.cells #[.int .i64 tk, .string z, .slice ao tc.length cap] 38)))
    rw [show Lib.byteCells [] = [] from rfl]; simpa using this
   have b0 : Below w.heap.size w ((w.alloc (.cells #[.int .i64 tk, .string z, .slice ao tc.length cap] 38)).alloc (.cells #[.pointer none, .slice none 0 0] 78)) := ((Below.refl _ w).alloc (Nat.le_refl _) _).alloc (by simp) _
   have HI := Lib.hid ih
   have HK := Lib.hid hk
   have HW := Lib.hid hw
   clear ih hk hw hs
   go_enter Tryz.func68, Tryz.ntmps68
   go_wp2
   go_loopw [14] (fun tv wr => ∃ i : Nat, tv = .int .i64 (i : Int) ∧ i ≤ tc.length ∧ Lib.IsBuilderF 78 5 (w.heap.size + 1) (w.heap.size + 1) (Lib.byteCells (srcBs (tc.take i))) wr ∧ Below w.heap.size w wr) (fun tv _ => tc.length - intOf tv)
   case atStart => exact ⟨0, rfl, Nat.zero_le _, h0, b0⟩
   case round =>
    obtain ⟨i, rfl, hi, hI, hbw⟩ := hrel
    have hsize := hbw.size
    have hb1 : w.heap.size + 1 < wr.heap.size := by
     rcases hI with ⟨_, v, hb, _⟩ | ⟨_, v, hb, _⟩ <;> exact (Array.getElem?_eq_some_iff.1 hb).1
    by_cases hl : i < tc.length
    ·have hli : (i : Int) < (tc.length : Int) := by omega
     obtain ⟨a, x0, x1, x2, rfl, c0, c1, c2, hv⟩ := HK.out i hl
     have hm : ∀ q x, V.cell q = some x → wr.cell? q = some x := fun q x h => by
      have h' := HW.out q x h
      rw [hbw.cell (World.block_lt_of_cell? _ _ h')]; exact h'
     have c0 := hm _ _ c0
     have c1 : wr.cell? ⟨(a.add (i * 3)).block, (a.add (i * 3)).off + 1, none⟩ = some x1 := by have := hm _ _ c1; rw [add_at1] at this; exact this
     have c2 : wr.cell? ⟨(a.add (i * 3)).block, (a.add (i * 3)).off + 2, none⟩ = some x2 := by have := hm _ _ c2; rw [add_at2] at this; exact this
     have hst : srcBs (tc.take (i + 1)) = srcBs (tc.take i) ++ srcB tc[i] := srcBs_succ hl
     have hle : (srcBs (tc.take i)).length + (srcB tc[i]).length ≤ 140737488355328 := by
      have := srcBs_le (tc := tc) (i + 1)
      rw [hst, List.length_append] at this; omega
     have hsz : tc[i].size ≤ k := by have := St.size_ch (t := .mk tk tx tc) (List.getElem_mem hl); omega
     obtain ⟨z', sl', hx, hz', hs'⟩ := tree_inv hv
     obtain ⟨ao', cap', rfl, _, _⟩ := kids_inv hs'
     have HV := Lib.hid hv
     clear hv hs'
     simp only [Value.agg.injEq, Array.mk.injEq, List.cons.injEq, and_true] at hx
     obtain ⟨rfl, rfl, rfl⟩ := hx
     have hw64 : wrap64 ((i : Int) + 1) = (i : Int) + 1 := by
      have e2 : maxLen = 9223372036854775807 := by decide
      unfold wrap64; omega
     have HM := Lib.hid hm
     clear hm
     go_wp2_with (go_at_call 68; refine (HI.out tc[i] hsz _ _ HV.out (fun q x h => ?_) (by omega)).mono ?_)
     ·have h' := HM.out q x h
      rw [((Below.refl wr.heap.size wr).alloc (Nat.le_refl _) _).cell (World.block_lt_of_cell? _ _ h')]; exact h'
     rintro e W1 ⟨rfl, b1⟩
     have bW : Below w.heap.size w W1 := (hbw.alloc hsize _).trans (b1.mono (by simp; omega))
     have hI1 := bld_below (Lib.IsBuilderF.alloc hI _) b1
     have hB1 : w.heap.size + 1 ≤ W1.heap.size := by have := b1.size; simp at this; omega
     have hle' : (Lib.byteCells (srcBs (tc.take i))).length + (⟨(srcB tc[i]).toArray⟩ : ByteArray).size ≤ 140737488355328 := by
      rw [Lib.byteCells_length]; simpa [ByteArray.size] using hle
     have HST := Lib.hid hst
     clear hst hle
     go_wp2_with (go_at_call 40; refine (Tryz.wr (w.heap.size + 1) (w.heap.size + 1) _ _ _ hI1 hle' hB1).mono ?_)
     rintro e W2 ⟨rfl, h2, b2⟩
     go_wp2
     go_roundw
     case rel =>
      refine ⟨i + 1, by simp [hw64], Nat.succ_le_of_lt hl, ?_, bW.trans (b2.mono (Nat.le_succ _))⟩
      rw [HST.out]
      rw [Lib.strCells_eq, ← Lib.byteCells_append] at h2
      exact Or.inr h2
     case measure => simp only [hw64, intOf, Array.getD_eq_getD_getElem?, List.getElem?_toArray, List.getElem?_cons_succ, List.getElem?_cons_zero, Option.getD_some]; exact meas hl
    ·have hli : ¬ ((i : Int) < (tc.length : Int)) := by omega
     obtain rfl : i = tc.length := by omega
     rw [List.take_length] at hI
     clear h0 b0 HI HK HW
     go_wp2_with (go_at_call 41; refine (Tryz.Builder_String_any_f (w.heap.size + 1) (w.heap.size + 1) (srcBs tc) _ hI (by omega)).mono ?_)
     rintro e W1 rfl hI1 b1
     have hb := hbw.trans (b1.mono (Nat.le_succ _))
     clear hI1 hI b1 hbw
     go_wp2
     first | go_ret | go_ret2 | go_end0
     exact ⟨rfl, hb⟩
  ·have hsr : srcB (.mk tk tx tc) = tx := by rw [srcB, if_pos (by omega)]
   rw [hsr]
   have h2 : (100 ≤ tk) := by omega
   clear hv ih hlen
   go_enter Tryz.func68, Tryz.ntmps68
   go_wp2
   ·go_ret
    subst hz
    exact ⟨rfl, (Below.refl _ w).alloc (Nat.le_refl _) _⟩
 exact hv
theorem env_cell {E : Env} {a : Addr} {x : Value} (h : E.view.cell a = some x) : E.w.cell? a = some x := by
 simp only [Env.view] at h
 split at h
 ·exact h
 ·cases h
theorem src_c {H : Heap} (t : St) (h : (srcB t).length ≤ 140737488355328) : ACalls Tryz.prog 68 [t.enc] H fun r H' => r = .str (srcB t) ∧ H' = H := by
 refine acalls_below fun E vargs ho hH hrl => ?_
 obtain ⟨hsz, hr⟩ := hrl
 have h0 := hr 0 (by simp)
 simp only [List.getElem_cons_zero] at h0
 obtain ⟨v0, rfl⟩ : ∃ v0, vargs = #[v0] := by
  have : vargs.size = 1 := by simpa using hsz
  exact ⟨vargs[0], by apply Array.ext <;> simp [this]; intro i hi; subst hi; rfl⟩
 simp only [Array.getD_eq_getD_getElem?, List.getElem?_toArray, List.getElem?_cons_zero, Option.getD_some] at h0
 exact ⟨_, VRel.str ⟨(srcB t).toArray⟩, src_k E.view _ t (Nat.le_refl _) v0 E.w h0 (fun _ _ => env_cell) h⟩
end Go.Abs
namespace Go.Abs
open Go.Proofs Go.RowKit
theorem two_args {vargs : Array Value} (h : vargs.size = 2) : ∃ v0 v1, vargs = #[v0, v1] :=
 ⟨vargs[0], vargs[1], by apply Array.ext <;> simp [h]; intro i hi hi2; match i, hi2 with | 0, _ => rfl | 1, _ => rfl⟩
theorem below_drewN (w : World) (q : Nat) : Below w.heap.size w (w.drewN q) := ⟨rfl, rfl, rfl, Nat.le_refl _, fun _ _ => rfl⟩
theorem bs_c {xs : List Int} {x : Int} {H : Heap} {id sz : Nat} (hid : H[id]? = some (.buf xs.length sz)) (hN : xs.length < 4611686018427387904) (hs : xs.Pairwise (· ≤ ·)) :
  ACalls Tryz.prog 42 [.slice (xs.map vint) (.tok id), vint x] H fun r H' => r = .tup [vint ((xs.countP (· < x) : Nat) : Int), .bool (xs.contains x)] ∧ H' = H := by
 refine acalls_below fun E vargs ho hH hrl => ?_
 obtain ⟨hsz, hr⟩ := hrl
 have h0 := hr 0 (by simp)
 have h1 := hr 1 (by simp)
 simp only [List.getElem_cons_zero, List.getElem_cons_succ] at h0 h1
 obtain ⟨v0, v1, rfl⟩ := two_args hsz
 simp only [Array.getD_eq_getD_getElem?, List.getElem?_toArray, List.getElem?_cons_zero, List.getElem?_cons_succ, Option.getD_some] at h0 h1
 have hv : ∀ (n : Int) (b : Bool), VRel E.view (.tuple #[.int .i64 n, .bool b]) (.tup [vint n, .bool b]) := fun n b => .tup _ _ rfl fun j hj => by
  match j, hj with
  | 0, _ => exact .int _ _
  | 1, _ => exact .bool _
 cases h1 with
 | int k n =>
 by_cases hxs : xs = []
 ·subst hxs
  obtain ⟨a, c, rfl⟩ : ∃ a c, v0 = .slice a 0 c := by
   cases h0 with
   | nils _ _ => exact ⟨_, _, rfl⟩
   | slice a len cap sz _ _ vs hl => simp at hl; subst hl; exact ⟨_, _, rfl⟩
  exact ⟨_, hv 0 false, (Tryz.slices_BinarySearch_int_empty a c x E.w).mono fun e w' ⟨h1, h2⟩ => ⟨h1, h2 ▸ Below.refl _ _⟩⟩
 ·generalize hes : xs.map vint = es at h0
  cases h0 with
  | nils _ _ => exact absurd (by simpa using hes) hxs
  | slice a len cap sz2 _ _ vs hl hcap hmax hsz2 hc hr2 ht =>
   subst hes
   rw [List.length_map] at hl
   subst hl
   have hpos : 0 < xs.length := List.length_pos_iff.2 hxs
   have hsz1 : sz2 = 1 := by
    have := hsz2 0 (by simpa using hpos)
    simp only [List.getElem_map] at this
    exact this.symm
   subst hsz1
   obtain ⟨hborn, ht⟩ := ht
   have htok : E.view.tok id = some ⟨xs.length, sz, (E.tb id).bind fun b => match E.κ b with | .buf pos cend => some (b, pos, cend) | _ => none⟩ := by
    simp only [Env.view, hH, hid]
    rfl
   obtain ⟨_, ht⟩ := ht _ htok
   obtain ⟨bk, o, rfl⟩ : ∃ bk o, a = ⟨bk, o, none⟩ := by
    rcases ht rfl with ⟨_, h⟩ | ⟨b, pos, cend, off, _, h, _⟩
    ·obtain ⟨b, off, h⟩ := h hpos
     exact ⟨b, off, by cases h; rfl⟩
    ·exact ⟨b, off, by cases h; rfl⟩
   have hadd : ∀ n, (⟨bk, o, none⟩ : Addr).add n = ⟨bk, o + n, none⟩ := by
    intro n; unfold Addr.add; split
    ·rename_i e; subst e; rfl
    ·rfl
   have hcell : ∀ j, j < xs.length → E.w.cell? ⟨bk, o + j, none⟩ = some (.int .i64 (xs.getD j 0)) := by
    intro j hj
    have h1 := hc j 0 hj (by omega)
    have h2 := hr2 j 0 (by simpa using hj) (by simp [vint, PV.cells])
    simp only [List.getElem_map] at h2
    have h2 : VRel E.view (vs j 0) (.int .i64 xs[j]) := h2
    rw [hadd, Nat.mul_one, Nat.add_zero] at h1
    have h1 := env_cell h1
    generalize vs j 0 = q at h2 h1
    cases h2
    rw [h1, List.getD_eq_getElem?_getD, List.getElem?_eq_getElem hj]; rfl
   have hk := Tryz.slices_BinarySearch_int bk o xs.length cap xs x E.w (Nat.le_refl _) hN hcell (by rw [List.take_length]; exact hs)
   rw [List.take_length] at hk
   exact ⟨_, hv _ _, hk.mono fun e w' ⟨h1, q, h2⟩ => ⟨h1, h2 ▸ below_drewN _ _⟩⟩
end Go.Abs
set_option maxRecDepth 4000
namespace Go.Abs
open Go.Proofs
theorem bH_bel0 {m : Nat} {H : Heap} {id n sz : Nat} (hb : HBel m H) : HBel m (bH H id n sz) := fun o ho => by
 rcases List.mem_or_eq_of_mem_set ho with h | rfl
 ·exact hb o h
 ·trivial
theorem endsT_c (H : Heap) (id : Nat) (hid : H[id]? = some .unborn) (ts : List Tk) (hx : ts.length ≤ 1048576) (hz : szL ts ≤ 4611686018427387904) : ACalls Tryz.prog 17 [.slice (ts.map Tk.enc) .none] H fun r H' => r = .slice ((enI 0 ts).map vint) (.tok id) ∧ H' = bH H id ts.length 1 := by
 have em : maxLen = 9223372036854775807 := by decide
 have hil := lG hid
 have BH := bH_rules (sz := 1) hil
 refine aF (N := 24) Tryz.func17 rfl rfl (by simp) fun hb' => ?_
 refine qE BH ?_
 refine qE BH ?_
 refine qE BH ?_
 refine qE (a3 y24 y32 BH) ?_
 repeat refine wS ?_
 refine awp_retokF id 3 1 (es := []) hid (by simp only [kC, seval, vint, qC] <;> rfl) ?_
 change AWP _ _ _ _ _ _ (bH H id 0 1)
 refine awp_forS (σ := List Int × Nat) (ts.length) (fun (q : List Int × Nat) => [(3, .slice (q.1.map vint) (.tok id)), (4, .int .i64 (q.2 : Int)), (7, .slice (ts.map Tk.enc) .none)]) [3, 4, 7] ([]) (fun (q : List Int × Nat) => bH H id q.1.length 1) (fun (i : Nat) (q : List Int × Nat) => q = (enI 0 (ts.take i), szL (ts.take i))) (([], 0)) ([]) rfl rfl rfl rfl rfl rfl rfl rfl rfl (by decide) (by decide) (by decide) (fun _ => rfl) (by omega) ⟨(by first | rfl | (simp only [jN, seval, vint, qC, BH] <;> first | done | with_reducible rfl)), (by first | rfl | (simp only [jN, seval, vint, qC, BH] <;> first | done | with_reducible rfl)), (by first | rfl | (simp only [jN, seval, vint, qC, BH] <;> first | done | with_reducible rfl)), (by first | rfl | (simp only [jN, seval, vint, qC, BH] <;> first | done | with_reducible rfl)), (by first | rfl | (simp only [jN, seval, vint, qC, BH] <;> first | done | with_reducible rfl)), trivial⟩ (by first | rfl | (simp only [jN, seval, vint, qC, BH] <;> first | done | with_reducible rfl)) (rfl) (fun i q hg => by simp only [List.nil_append, bH_len]; omega) ?_ ?_ ?_
 ·intro i q hg
  refine ⟨?_, .cons (bel_int_tok _ (by simp [bH_len]; omega)) (.cons (.int _ _) (.cons (bel_Tk _ _) .nil))⟩
  simp only [List.nil_append]
  rw [bH_len]; exact bH_bel0 hb'
 ·intro i q hi hg
  have g1 := ix_nat hi
  have g2 := get_enc Tk.enc hi
  have hq1 : q.2 = szL (ts.take i) := by rw [hg]
  have hq2 : q.1 = enI 0 (ts.take i) := by rw [hg]
  have hsz1 : szL (ts.take (i + 1)) = szL (ts.take i) + ts[i].text.length := by rw [take_snoc hi, szL_snoc]
  have hsz2 : szL (ts.take (i + 1)) ≤ szL ts := by (conv => rhs; rw [← List.take_length (l := ts)]); exact szL_take_le hi
  have gw : IntKind.i64.wrap ((q.2 : Int) + (ts[i].text.length : Int)) = ((szL (ts.take (i + 1)) : Nat) : Int) := by rw [wrap_id (by omega) (by omega)]; omega
  have hsl : q.1.length = i := by rw [hq2, enI_len, List.length_take]; omega
  have happ := fun fresh L => app_int (us := q.1) (u := ((szL (ts.take (i + 1)) : Nat) : Int)) (id := id) (tl := .full) (by omega) fresh (bH H id q.1.length 1 ++ L) (BH.1 _ _)
  refine qE (a5 y24 y32 BH g1 (a4 g2 tN gw happ)) ?_
  refine qE (a5 y3 y9 y32 BH (a5 g1 g2 tN gw happ)) ?_
  refine qE (a5 y3 y50 BH g1 (a4 g2 tN gw happ)) ?_
  exact ⟨⟨rfl, rfl, trivial⟩, (q.1 ++ [((szL (ts.take (i + 1)) : Nat) : Int)], szL (ts.take (i + 1))), _, ⟨rfl, rfl, rfl, trivial⟩, by simp only [jN, seval, vint, qC, List.length_append, List.length_singleton] <;> rfl, by rw [enI_succ hi, hq2]⟩
 ·intro q hg
  rw [List.take_length] at hg
  subst hg
  refine qE BH ?_
  repeat refine wS ?_
  refine wT ⟨.inr rfl, _, rfl, ?_⟩
  exact ⟨rfl, by rw [enI_len]⟩
def resM (xs : List Int) (x : Int) : Int := if decide (x = 0) = true then 0 else if xs.contains x = true then ((xs.countP (· < x) : Nat) : Int) + 1 else -1
theorem res_c {xs : List Int} {x : Int} {H : Heap} {id sz : Nat} (hid : H[id]? = some (.buf xs.length sz)) (hN : xs.length < 4611686018427387904) (hs : xs.Pairwise (· ≤ ·)) : ACalls Tryz.prog 19 [.slice (xs.map vint) (.tok id), vint x] H fun r H' => r = vint (resM xs x) ∧ H' = H := by
 have hc : xs.countP (· < x) ≤ xs.length := List.countP_le_length
 have gw : IntKind.i64.wrap (((xs.countP (· < x) : Nat) : Int) + 1) = ((xs.countP (· < x) : Nat) : Int) + 1 := by rw [wrap_id (by omega) (by omega)]
 unfold resM
 refine aF (N := 18) Tryz.func19 rfl rfl (by simp) fun hb' => ?_
 refine qE0 ?_
 refine qE y3 ?_
 refine qI0 (fun bt8 => ?_) (fun bt8 => ?_)
 ·-- if t8
  rw [if_pos bt8]
  refine qE0 ?_
  repeat refine wS ?_
  refine wT ⟨.inr rfl, _, rfl, ?_⟩
  exact ⟨rfl, rfl⟩
 ·-- else t8
  rw [if_neg (by rw [bt8]; simp)]
  refine qK ?_
  refine qT0 2 ?_
  refine aops_callR (by simp only [kC, seval, vint, qC] <;> with_reducible rfl) (by simp only [kC, seval, vint, qC]) (by decide) zgo42 (bs_c hid hN hs) ?_
  rintro _ _ ⟨rfl, rfl⟩
  refine qX0 ?_
  refine qE0 ?_
  refine qI0 (fun bt15 => ?_) (fun bt15 => ?_)
  ·-- if t15
   rw [if_pos bt15]
   refine qE (a2 y3 gw) ?_
   repeat refine wS ?_
   refine wT ⟨.inr rfl, _, rfl, ?_⟩
   exact ⟨rfl, rfl⟩
  ·-- else t15
   rw [if_neg (by rw [bt15]; simp)]
   refine qK ?_
   refine qE0 ?_
   repeat refine wS ?_
   refine wT ⟨.inr rfl, _, rfl, ?_⟩
   exact ⟨rfl, rfl⟩
end Go.Abs
set_option maxRecDepth 4000
namespace Go.Abs
open Go.Proofs
def badE (src : List UInt8) (e : Ed) : Bool := (decide (e.st ≤ -1) || decide (e.en < e.st)) || decide (e.en > (src.length : Int))
def newLen (src : List UInt8) (e : Ed) : Int := (src.length : Int) + ((e.tx.length : Int) - (e.en - e.st))
def valE (src : List UInt8) (e : Ed) : Int := if (src.length : Int) > 2000 then 2 else if badE src e = true then 3 else if newLen src e > 2000 then 2 else 0
theorem val_k (src : List UInt8) (es : List Ed) (e : Ed) (hes : es = [e]) (hs : src.length ≤ 1048576) (ht : e.tx.length ≤ 1048576) : PC Tryz.prog 26 [.str src, .slice (es.map Ed.enc) .none] (vint (valE src e)) := by
 have em : maxLen = 9223372036854775807 := by decide
 have hel : es.length = 1 := by rw [hes]; rfl
 have g50 : decide ((es.length : Int) > 50) = false := by rw [hel]; rfl
 unfold valE
 refine pc_of (N := 59) Tryz.func26 rfl rfl (by simp) (by simp [Bel.int, Bel.str, bel_Tk, bel_ints0, bel_Ed, bel_St, St.bel]) (.int _ _) ?_
 refine qE (a2 qR g50) ?_
 refine gE (a5 y3 y9 y23 y47 (a2 qR g50)) ?_
 refine qI qR (fun bt16 => ?_) (fun bt16 => ?_)
 ·-- if t16
  rw [if_pos (by simpa using bt16)]
  refine qE qR ?_
  repeat refine wS ?_
  refine wT ⟨.inr rfl, _, rfl, ?_⟩
  rfl
 ·-- else t16
  rw [if_neg (by simpa using bt16)]
  refine qK ?_
  refine qE (a2 y9 qR) ?_
  refine qE (a3 y23 y47 qR) ?_
  repeat refine wS ?_
  refine awp_forS (σ := Int × Int) (es.length) (fun (q : Int × Int) => [(0, .str src), (5, .int .i64 q.1), (6, .int .i64 q.2), (19, .slice (es.map Ed.enc) .none)]) [0, 5, 6, 19] ([]) (fun (q : Int × Int) => []) (fun (i : Nat) (q : Int × Int) => (i = 0 ∧ q = (-1, (src.length : Int))) ∨ (i = 1 ∧ q.2 = newLen src e ∧ badE src e = false)) ((-1, src.length)) ([]) rfl rfl rfl rfl rfl rfl rfl rfl rfl (by decide) (by decide) (by decide) (fun _ => rfl) (by omega) ⟨(by first | rfl | (simp only [jN, seval, vint, qC, qR] <;> first | done | with_reducible rfl)), (by first | rfl | (simp only [jN, seval, vint, qC, qR] <;> first | done | with_reducible rfl)), (by first | rfl | (simp only [jN, seval, vint, qC, qR] <;> first | done | with_reducible rfl)), (by first | rfl | (simp only [jN, seval, vint, qC, qR] <;> first | done | with_reducible rfl)), (by first | rfl | (simp only [jN, seval, vint, qC, qR] <;> first | done | with_reducible rfl)), (by first | rfl | (simp only [jN, seval, vint, qC, qR] <;> first | done | with_reducible rfl)), trivial⟩ (by first | rfl | (simp only [jN, seval, vint, qC, qR] <;> first | done | with_reducible rfl)) (.inl ⟨rfl, rfl⟩) (fun _ _ _ => by first | exact Nat.zero_le _ | (simp only [List.length_append]; omega)) ?_ ?_ ?_
  ·exact fun i s hg => ⟨by first | exact hbel_nil _ | (simp only [List.append_nil]; assumption) | (refine hbel_app' hb' (by simp) ?_; repeat (first | exact hbel_nil _ | exact trivial | exact obel_row_nil _ | (refine HBel.cons ?_ ?_) | (refine obel_row_cons (by first | exact bel_Ed _ _ | exact bel_ints _ _ _ (fun _ h => by cases h; first | (simp; done) | (simp; omega)) | exact Tk.bel _ _ | exact St.bel _ _ | exact Ed.bel _ _ | exact Cd.bel _ _ | exact bel_strs0 _ _ | exact bel_St _ _ | exact bel_Tk _ _ | exact bel_Cd _ _ | exact bel_ints0 _ _ | exact bel_nil0 _ | exact bel_nil1 _ | exact Bel.optr _ _ (by first | (simp; done) | (simp; omega)) | exact Bel.int _ _ | exact Bel.bool _ | exact Bel.str _ | exact Bel.nilp | exact Bel.nilfn | exact Bel.optr _ _ (by simp) | exact bel_nil0 _ | exact bel_nil1 _ | exact bel_fn0 _ _ | assumption) ?_))), by repeat (first | exact BelL.nil | refine BelL.cons (by first | exact bel_Ed _ _ | exact bel_ints _ _ _ (fun _ h => by cases h; first | (simp; done) | (simp; omega)) | exact Tk.bel _ _ | exact St.bel _ _ | exact Ed.bel _ _ | exact Cd.bel _ _ | exact bel_strs0 _ _ | exact bel_St _ _ | exact bel_Tk _ _ | exact bel_Cd _ _ | exact bel_ints0 _ _ | exact bel_nil0 _ | exact bel_nil1 _ | exact Bel.optr _ _ (by first | (simp; done) | (simp; omega)) | exact Bel.int _ _ | exact Bel.bool _ | exact Bel.str _ | exact Bel.nilp | exact Bel.nilfn | exact Bel.optr _ _ (by simp) | exact bel_nil0 _ | exact bel_nil1 _ | exact bel_fn0 _ _ | assumption) ?_)⟩
  ·intro i q hi hg
   have g1 := ix_nat hi
   have g2 := get_enc Ed.enc hi
   have hi0 : i = 0 := by omega
   have he : es[i] = e := by subst hes; subst hi0; rfl
   rw [he] at g2
   have hq : q = (-1, (src.length : Int)) := by rcases hg with h | h; exact h.2; omega
   subst hq
   refine qE (a5 y23 y47 qR g1 (a2 g2 tN)) ?_
   refine gE (a5 y3 y9 y23 qR (a3 g1 g2 tN)) ?_
   refine qI (a4 qR g1 g2 tN) (fun bt42 => ?_) (fun bt42 => ?_)
   ·-- if t42
    rw [if_pos (show badE src e = true from bt42)]
    refine qL [0, 5, 6, 19, 20, 21] (a4 qR g1 g2 tN) ?_
    refine qE (a4 qR g1 g2 tN) ?_
    repeat refine wS ?_
    refine wT ⟨.inr rfl, _, rfl, ?_⟩
    rfl
   ·-- else t42
    have hbad : badE src e = false := bt42
    have hb1 : 0 ≤ e.st ∧ e.st ≤ e.en ∧ e.en ≤ (src.length : Int) := by
     simp only [badE, Bool.or_eq_false_iff, decide_eq_false_iff_not] at hbad; omega
    have gw1 : IntKind.i64.wrap (e.en - e.st) = e.en - e.st := wrap_id (by omega) (by omega)
    have gw2 : IntKind.i64.wrap ((e.tx.length : Int) - (e.en - e.st)) = (e.tx.length : Int) - (e.en - e.st) := wrap_id (by omega) (by omega)
    have gw3 : IntKind.i64.wrap ((src.length : Int) + ((e.tx.length : Int) - (e.en - e.st))) = newLen src e := by rw [wrap_id (by omega) (by omega)]; rfl
    refine qK ?_
    refine qL [0, 5, 6, 8, 19, 20, 21] (a4 qR g1 g2 tN) ?_
    refine qE (a5 y3 y23 qR g1 (a2 g2 tN)) ?_
    refine qE (a5 y3 y9 y23 qR (a5 g1 g2 tN gw1 (a2 gw2 gw3))) ?_
    exact ⟨⟨rfl, rfl, trivial⟩, (e.en, newLen src e), _, ⟨rfl, rfl, rfl, rfl, trivial⟩, rfl, .inr ⟨by omega, rfl, hbad⟩⟩
  ·intro q hg
   obtain ⟨_, hg1, hg2⟩ : es.length = 1 ∧ q.2 = newLen src e ∧ badE src e = false := by rcases hg with h | h; (omega); exact h
   rw [if_neg (by rw [hg2]; simp)]
   refine qE (a2 y3 qR) ?_
   refine qI qR (fun bt58 => ?_) (fun bt58 => ?_)
   ·-- if t58
    rw [if_pos (by rw [← hg1]; simpa using bt58)]
    refine qE qR ?_
    repeat refine wS ?_
    refine wT ⟨.inr rfl, _, rfl, ?_⟩
    rfl
   ·-- else t58
    rw [if_neg (by rw [← hg1]; simpa using bt58)]
    refine qK ?_
    refine qE qR ?_
    repeat refine wS ?_
    refine wT ⟨.inr rfl, _, rfl, ?_⟩
    rfl
theorem val_c (src : List UInt8) (e : Ed) (hs : src.length ≤ 1048576) (ht : e.tx.length ≤ 1048576) : PC Tryz.prog 26 [.str src, .slice [e.enc] .none] (vint (valE src e)) := val_k src [e] e rfl hs ht
end Go.Abs
namespace Go.Abs
open Go.Proofs Go.RowKit
def spl (src : List UInt8) (e : Ed) : List UInt8 := src.take e.st.toNat ++ e.tx ++ src.drop e.en.toNat
theorem env_below {E : Env} {w' : World} (ho : E.Ok) (hb : Below E.w.heap.size E.w w') : E.le { E with w := w' } ∧ Env.Ok { E with w := w' } := by
 let E' : Env := { E with w := w' }
 have hview : E.view.le E'.view := by
  refine ⟨fun a v hc => ?_, fun id h => h, fun id _ => rfl, fun id t' _ ht => ⟨t', ht, .inl rfl⟩⟩
  simp only [Env.view, E'] at hc ⊢
  split at hc
  ·rename_i hs
   rw [if_pos hs]; exact below_cell hb _ _ hc
  ·cases hc
 refine ⟨⟨hb.os, hb.tape, hb.output, hb.size, fun b hlt _ => ⟨rfl, hb.block b hlt⟩, hview, fun b _ => id⟩, ?_, ?_, ho.injr, ho.injb, ho.globs_of hview.cell fun _ _ _ h => h, ho.objs.of hview fun id k hi => ⟨hi, rfl, hb.block _ (ho.objs.lt hi), rfl⟩⟩
 ·intro id cs hi
  obtain ⟨arr, elem, h1, h2, h3, h4⟩ := ho.rows id cs hi
  exact ⟨arr, elem, (hb.block _ (ho.rowBlock hi)).trans h1, h2, fun i hl => (h3 i hl).mono hview, h4⟩
 ·intro id n sz b hi hb'
  obtain ⟨arr, elem, pos, h1, h2⟩ := ho.bufs id n sz b hi hb'
  exact ⟨arr, elem, pos, (hb.block _ (ho.bufBlock hi hb')).trans h1, h2⟩
theorem ed_inv {V : View} {sl : Value} {e : Ed} (h : VRel V sl (.slice [e.enc] .none)) : ∃ (a : Addr) (cap : Nat) (t : ByteArray), sl = .slice (some a) 1 cap ∧ t.data.toList = e.tx ∧
  V.cell (a.add 0) = some (.int .i64 e.st) ∧ V.cell (a.add 1) = some (.int .i64 e.en) ∧ V.cell (a.add 2) = some (.string t) := by
 generalize he : [e.enc] = es at h
 cases h with
 | nils _ _ => cases he
 | slice a len cap sz _ _ vs hl hcap hmax hsz hc hr ht =>
  subst he
  have hl : len = 1 := by simpa using hl.symm
  subst hl
  have hz := hsz 0 (by simp)
  simp only [List.getElem_cons_zero, Ed.enc_cells, List.length_cons, List.length_nil] at hz
  subst hz
  have c0 := hc 0 0 (by omega) (by omega)
  have c1 := hc 0 1 (by omega) (by omega)
  have c2 := hc 0 2 (by omega) (by omega)
  have hg : ∀ j (hj : j < 3), VRel V (vs 0 j) ((e.enc.cells)[j]'(by rw [Ed.enc_cells]; exact hj)) := fun j hj => hr 0 j (by simp) (by simpa [Ed.enc_cells] using hj)
  have g0 := hg 0 (by omega)
  have g1 := hg 1 (by omega)
  have g2 := hg 2 (by omega)
  simp only [Ed.enc_cells, List.getElem_cons_zero, List.getElem_cons_succ] at g0 g1 g2
  simp only [Nat.zero_mul, Nat.zero_add] at c0 c1 c2
  generalize vs 0 0 = q0 at *
  generalize vs 0 1 = q1 at *
  generalize vs 0 2 = q2 at *
  cases g0
  cases g1
  generalize htx : e.tx = tx at g2
  cases g2 with
  | str t => exact ⟨a, cap, t, rfl, rfl, c0, c1, c2⟩
theorem isb_drew {T e : TypeId} {B b : Nat} {bs : List Value} {w : World} (h : Lib.IsBuilderF T e B b bs w) : Lib.IsBuilderF T e B b bs w.drew := h.imp (·.drew) (·.drew)
set_option maxHeartbeats 4000000 in
set_option maxRecDepth 100000 in
theorem app_c (src : List UInt8) (e : Ed) (hs : src.length ≤ 1048576) (ht : e.tx.length ≤ 1048576) {H : Heap} :
  ACalls Tryz.prog 14 [.str src, .slice [e.enc] .none] H fun r H' => r = .tup [.str (if valE src e = 0 then spl src e else []), vint (valE src e)] ∧ H' = H := by
 intro E vargs ho hH hrl
 have hrl0 := hrl
 obtain ⟨hsz, hr⟩ := hrl
 have h0 := hr 0 (by simp)
 have h1 := hr 1 (by simp)
 simp only [List.getElem_cons_zero, List.getElem_cons_succ] at h0 h1
 obtain ⟨v0, v1, rfl⟩ := two_args hsz
 simp only [Array.getD_eq_getD_getElem?, List.getElem?_toArray, List.getElem?_cons_zero, List.getElem?_cons_succ, Option.getD_some] at h0 h1
 cases h0 with
 | str z =>
 obtain ⟨a, cap, t, rfl, htx, c0, c1, c2⟩ := ed_inv h1
 go_enter Tryz.func14, Tryz.ntmps14
 go_wp2_with (go_at_call 26; refine (val_c z.data.toList e hs ht H E _ ho hH hrl0).mono ?_)
 intro q w1 E1 v hq hw hle hok r hv hr1 hH1
 subst hq hw hr1
 cases hv
 have HL := Lib.hid hle
 have HO := Lib.hid hok
 clear hle hok hrl0 hr h1
 by_cases hval : valE z.data.toList e = 0
 ·have hpost : spl z.data.toList e = z.data.toList.take e.st.toNat ++ e.tx ++ z.data.toList.drop e.en.toNat := rfl
  have hbad : 0 ≤ e.st ∧ e.st ≤ e.en ∧ e.en ≤ (z.size : Int) := by
   unfold valE at hval
   split at hval
   ·cases hval
   ·split at hval
    ·cases hval
    ·rename_i hb
     simp only [badE, Bool.or_eq_true, decide_eq_true_eq, not_or] at hb
     have : (z.data.toList.length : Int) = z.size := by rw [Array.length_toList]; rfl
     omega
  obtain ⟨hb1, hb2, hb3⟩ := hbad
  obtain ⟨sN, hsN⟩ := Int.eq_ofNat_of_zero_le hb1
  obtain ⟨eN, heN⟩ := Int.eq_ofNat_of_zero_le (Int.le_trans hb1 hb2)
  have hse : sN ≤ eN := by omega
  have hez : eN ≤ z.size := by omega
  have hsz' : sN ≤ z.size := by omega
  rw [hsN, heN] at hpost
  simp only [tN] at hpost
  rw [hsN] at c0
  rw [heN] at c1
  clear hb1 hb2 hb3
  have m0 : E1.w.cell? (a.add 0) = some (.int .i64 (sN : Int)) := env_cell (HL.out.view.cell _ _ c0)
  have m1 : E1.w.cell? (a.add 1) = some (.int .i64 (eN : Int)) := env_cell (HL.out.view.cell _ _ c1)
  have m2 : E1.w.cell? (a.add 2) = some (.string t) := env_cell (HL.out.view.cell _ _ c2)
  have h0 : Lib.IsBuilderF 78 5 E1.w.heap.size E1.w.heap.size (Lib.byteCells []) (E1.w.alloc (.cells #[.pointer none, .slice none 0 0] 78)) := by
   rw [show Lib.byteCells [] = [] from rfl]; exact Lib.IsBuilderF.of (Lib.fresh_isBuilder 78 5 E1.w)
  have b0 : Below E1.w.heap.size E1.w (E1.w.alloc (.cells #[.pointer none, .slice none 0 0] 78)) := (Below.refl _ _).alloc (Nat.le_refl _) _
  clear c0 c1 c2
  have HVA := Lib.hid hval
  rw [hval]
  clear hval
  go_wp2
  go_loopw [8, 19] (fun t8 t19 wr => ∃ acc, Lib.IsBuilderF 78 5 E1.w.heap.size E1.w.heap.size (Lib.byteCells acc) wr ∧ Below E1.w.heap.size E1.w wr ∧
    ((t19 = .int .i64 0 ∧ t8 = .int .i64 0 ∧ acc = []) ∨ (t19 = .int .i64 1 ∧ t8 = .int .i64 (eN : Int) ∧ acc = z.data.toList.take sN ++ e.tx))) (fun _ t19 _ => 1 - intOf t19)
  case atStart => exact ⟨[], h0, b0, .inl ⟨rfl, rfl, rfl⟩⟩
  case round =>
   obtain ⟨acc, hI, hbw, ⟨rfl, rfl, rfl⟩ | ⟨rfl, rfl, rfl⟩⟩ := hrel
   ·have k0 : wr.cell? a = some (.int .i64 (sN : Int)) := (hbw.cell (World.block_lt_of_cell? _ _ m0)).trans m0
    have k1 : wr.cell? ⟨a.block, a.off + 1, none⟩ = some (.int .i64 (eN : Int)) := (hbw.cell (World.block_lt_of_cell? _ _ m1)).trans m1
    have k2 : wr.cell? ⟨a.block, a.off + 2, none⟩ = some (.string t) := (hbw.cell (World.block_lt_of_cell? _ _ m2)).trans m2
    clear m0 m1 m2 h0 b0
    have hP := Lib.hid hpost
    have mixed := Tryz.lays169.mixed
    have htz : t.size = e.tx.length := by rw [← htx, Array.length_toList]; rfl
    have hzz : z.data.toList.length = z.size := by rw [Array.length_toList]; rfl
    have hsum : ¬ (9223372036854775807 < sN + t.size) := by omega
    clear hpost
    have hl2 : (Lib.byteCells []).length + (z.extract 0 sN ++ t).size ≤ 140737488355328 := by
     have e1 : (Lib.byteCells []).length = 0 := rfl
     rw [e1, ByteArray.size_append, ByteArray.size_extract]; omega
    have hB2 := hbw.size
    have hb1 : E1.w.heap.size < wr.heap.size := by
     rcases hI with ⟨_, v, hb, _⟩ | ⟨_, v, hb, _⟩ <;> exact (Array.getElem?_eq_some_iff.1 hb).1
    go_wp2
    go_region_with (go_at_call 40; refine (Tryz.wrk E1.w.heap.size E1.w.heap.size _ _ _ (isb_drew (Lib.IsBuilderF.alloc hI _)) hl2 (Nat.le_trans hB2 (by simp [World.drew]))).mono ?_; rintro e w' ⟨rfl, h2, b2, k2⟩)
    all_goals
     have hnew : (wr.alloc (.cells #[.int .i64 (sN : Int), .int .i64 (eN : Int), .string t] 23)).drew.heap[wr.heap.size]? = some (.cells #[.int .i64 (sN : Int), .int .i64 (eN : Int), .string t] 23 (0, 0)) := heap_alloc_new _ _
     have hk2 := k2 _ _ hnew (fun h => by injection h with h; omega) (fun c fz h => by injection h with _ h _; cases h)
     have d1 : w'.cell? ⟨wr.heap.size, 1, none⟩ = some (.int .i64 (eN : Int)) := by rw [Lib.cell_of_heap hk2]; rfl
     clear hnew hk2 k2
     go_wp2
     go_roundw
     case rel =>
      refine ⟨z.data.toList.take sN ++ e.tx, ?_, (hbw.alloc hB2 _).drew.trans b2, .inr ⟨rfl, rfl, rfl⟩⟩
      rw [Lib.strCells_eq, ← Lib.byteCells_append, ByteArray.data_append, Array.toList_append, Lib.extract_data] at h2
      simp only [List.nil_append, List.drop_zero, Nat.sub_zero, htx] at h2
      exact Or.inr h2
     case measure => simp [intOf]
   ·have mixed := Tryz.lays169.mixed
    have htz : t.size = e.tx.length := by rw [← htx, Array.length_toList]; rfl
    have hzz : z.data.toList.length = z.size := by rw [Array.length_toList]; rfl
    have hB2 := hbw.size
    have hl2 : (Lib.byteCells (z.data.toList.take sN ++ e.tx)).length + (z.extract eN z.size).size ≤ 140737488355328 := by
     rw [Lib.byteCells_length, ByteArray.size_extract, List.length_append, List.length_take]; omega
    have hP := Lib.hid hpost
    clear hpost m0 m1 m2 h0 b0
    go_wp2_with (go_at_call 40; refine (Tryz.wr E1.w.heap.size E1.w.heap.size _ _ _ hI hl2 hB2).mono ?_)
    rintro q W1 ⟨rfl, h2, b2⟩
    have hsp : z.data.toList.take sN ++ e.tx ++ (z.extract eN z.size).data.toList = spl z.data.toList e := by rw [hP.out, Lib.extract_to_end]
    rw [Lib.strCells_eq, ← Lib.byteCells_append, hsp] at h2
    have h2 : Lib.IsBuilderF 78 5 E1.w.heap.size E1.w.heap.size (Lib.byteCells (spl z.data.toList e)) W1 := Or.inr h2
    have b3 := hbw.trans b2
    have hB3 := b3.size
    clear hI hl2 hbw b2 hB2
    go_wp2_with (go_at_call 41; refine (Tryz.Builder_String_any_f E1.w.heap.size E1.w.heap.size (spl z.data.toList e) _ h2 hB3).mono ?_)
    first | rintro q W2 ⟨rfl, h4, b4⟩ | rintro q W2 rfl h4 b4
    have b5 := b3.trans b4
    clear h2 h4 b3 b4 hB3
    go_wp2
    first | go_ret | go_ret2 | go_end0
    refine ⟨{ E1 with w := W2 }, _, rfl, rfl, HL.out.trans (env_below HO.out b5).1, (env_below HO.out b5).2, .tup [.str (spl z.data.toList e), vint 0], .tup _ _ rfl (fun j hj => by
     match j, hj with
     | 0, _ => exact .str ⟨(spl z.data.toList e).toArray⟩
     | 1, _ => exact .int _ _), by first | rfl | (rw [if_pos HVA.out, HVA.out]) | simp [HVA.out], hH1⟩
 ·have HV := hval
  go_wp2
  ·first | go_ret | go_ret2 | go_end0
   exact ⟨E1, _, rfl, rfl, HL.out, HO.out, _, .tup _ _ rfl (fun j hj => by
    match j, hj with
    | 0, _ => exact .str ⟨#[]⟩
    | 1, _ => exact .int _ _), rfl, hH1⟩
end Go.Abs
set_option maxRecDepth 4000
namespace Go.Abs
open Go.Proofs
theorem spl_c (src tx : List UInt8) (s n : Nat) (h1 : s ≤ n) (h2 : n ≤ src.length) (hs : src.length ≤ 1048576) (ht : tx.length ≤ 1048576) : PC Tryz.prog 8 [.str src, (Ed.mk s n tx).enc] (.str (src.take s ++ (tx ++ src.drop n))) := by
 have em : maxLen = 9223372036854775807 := by decide
 have h3 : ((s : Int) ≤ (src.length : Int)) = True := by simp; omega
 have h4 : ((n : Int) ≤ (src.length : Int)) = True := by simp; omega
 have h5 : ((0 : Int) ≤ (s : Int)) = True := by simp
 have h6 : ((0 : Int) ≤ (n : Int)) = True := by simp
 have h7 : (s ≤ src.length) = True := by simp; omega
 have h8 : (n ≤ src.length) = True := by simp; omega
 have h9 : ((src.take s).length + tx.length ≤ maxLen) = True := eq_true (by rw [List.length_take]; omega)
 have h10 : ((src.take s).length + tx.length + (src.drop n).length ≤ maxLen) = True := eq_true (by rw [List.length_take, List.length_drop]; omega)
 refine pc_of (N := 17) Tryz.func8 rfl rfl (by simp) (by simp [Bel.int, Bel.str, bel_Tk, bel_ints0, Ed.bel, bel_St, St.bel]) (.str _) ?_
 refine qE (a2 y23 qR) ?_
 repeat refine wS ?_
 refine dp_draw (by kernel_rfl) ?_
 refine dp_end (by simp only [jP, jO, jN, seval, y3, y9, y23, jS, vint, qC, qR, jS, h3, h4, h5, h6, h7, h8, h9, h10, tN, List.take_length, List.drop_zero] <;> with_reducible rfl) (by decide) (by repeat (first | exact Fin.base _ | with_reducible apply Fin.keep | apply Fin.drop)) ?_
 repeat refine wS ?_
 refine wT ⟨.inr rfl, _, rfl, ?_⟩
 first | rfl | trace_state
end Go.Abs
set_option maxRecDepth 4000
namespace Go.Abs
open Go.Proofs
theorem enL_ge : ∀ (ts : List Tk) (o : Nat), ∀ x ∈ enL o ts, o ≤ x
 | [], o, x, h => by cases h
 | t :: ts, o, x, h => by
  rcases List.mem_cons.1 h with rfl | h
  ·omega
  ·have := enL_ge ts _ x h; omega
theorem countP_pre (S : Int) : ∀ (ts : List Tk) (o : Nat), (enI o ts).countP (· < S) = preN S o ts
 | [], o => rfl
 | t :: ts, o => by
  have ih := countP_pre S ts (o + t.text.length)
  simp only [enI, enL, List.map_cons, preN] at ih ⊢
  by_cases h : ((o + t.text.length : Nat) : Int) < S
  ·rw [List.countP_cons_of_pos (by simpa using h), ih, if_pos h]
  ·rw [List.countP_cons_of_neg (by simpa using h), if_neg h, List.countP_eq_zero]
   intro x hx
   obtain ⟨y, hy, rfl⟩ := List.mem_map.1 hx
   have := enL_ge ts _ y hy
   simp only [decide_eq_true_eq]; omega
theorem hit_eq (old new : List Tk) (E shift : Int) (i : Nat) : hitR old new E shift i = (decide (((szL (old.take i) : Nat) : Int) ≥ E) && (stI 0 new).any fun x => decide (((szL (old.take i) : Nat) : Int) + shift = x)) := by
 unfold hitR stI
 rw [List.any_map]
 congr 1
 congr 1
 funext k
 simp only [Function.comp, decide_eq_decide]
 omega
theorem findR_none {p : Nat → Bool} {n : Nat} (h : (List.range n).any p = false) : (List.range n).find? p = none := by
 rw [List.find?_eq_none]
 intro x hx
 have := List.any_eq_false.1 h x hx
 simpa using this
theorem anyR_succ {p : Nat → Bool} {i : Nat} (h : (List.range i).any p = false) (hp : p i = false) : (List.range (i + 1)).any p = false := by
 rw [List.range_succ, List.any_append, h]; simp [hp]
theorem stI_get {ts : List Tk} {i : Nat} (h : i < ts.length) : (stI 0 ts)[i]? = some ((szL (ts.take i) : Nat) : Int) := by
 unfold stI; rw [List.getElem?_map, stL_get _ _ _ h]; simp
theorem enI_get {ts : List Tk} {i : Nat} (h : i < ts.length) : (enI 0 ts)[i]? = some ((szL (ts.take (i + 1)) : Nat) : Int) := by
 unfold enI; rw [List.getElem?_map, enL_get _ _ _ h]; simp
theorem countP_snoc {l : List Int} {i : Nat} {x : Int} {S : Int} (h : l[i]? = some x) : (l.take (i + 1)).countP (· < S) = (l.take i).countP (· < S) + if x < S then 1 else 0 := by
 rw [List.take_add_one, h, List.countP_append]
 by_cases hx : x < S <;> simp [hx]
theorem len_szL : ∀ {ts : List Tk}, PosL ts → ts.length ≤ szL ts
 | [], _ => Nat.le_refl _
 | t :: ts, h => by
  have := len_szL (ts := ts) fun x hx => h x (List.mem_cons_of_mem _ hx)
  have := h t List.mem_cons_self
  simp only [List.length_cons, szL]; omega
theorem reu_c (src next : List UInt8) (e : Ed) (h1 : src.length ≤ 1048576) (h2 : next.length ≤ 1048576) : PC Tryz.prog 9 [.str src, .str next, e.enc] (vint (refR (toks src) (toks next) e.st e.en ((next.length : Int) - src.length))) := by
 have em : maxLen = 9223372036854775807 := by decide
 have pos := toks_pos _ src (Nat.le_refl _)
 have zo := toks_sz _ src (Nat.le_refl _)
 have zn := toks_sz _ next (Nat.le_refl _)
 obtain ⟨old, hold⟩ : ∃ old, toks src = old := ⟨_, rfl⟩
 obtain ⟨new, hnew⟩ : ∃ new, toks next = new := ⟨_, rfl⟩
 have k1 := tokR_c src (by omega)
 have k2 := tokR_c next (by omega)
 rw [hold] at k1 pos zo ⊢
 rw [hnew] at k2 zn ⊢
 have ol : old.length ≤ src.length := by rw [← zo]; exact len_szL pos
 have nl : new.length ≤ next.length := by rw [← zn]; exact len_szL (hnew ▸ toks_pos _ next (Nat.le_refl _))
 have k3 := starts_c old (by omega) (by omega)
 have k4 := starts_c new (by omega) (by omega)
 have gws : IntKind.i64.wrap ((next.length : Int) - (src.length : Int)) = (next.length : Int) - src.length := wrap_id (by omega) (by omega)
 have hsl := stI_len old 0
 refine pc_of (N := 76) Tryz.func9 rfl rfl (by simp) (by simp [Bel.int, Bel.str, bel_Tk, bel_ints0, Ed.bel, bel_St, St.bel]) (.int _ _) ?_
 refine qE (a2 y23 qR) ?_
 refine qT 1 qR ?_
 refine qP qR zgo5 (k1 _) ?_
 refine qP qR zgo21 (k3 _) ?_
 refine qX qR ?_
 refine qE (a4 y3 y9 qR gws) ?_
 refine qE qR ?_
 refine qE (a3 y3 y50 qR) ?_
 repeat refine wS ?_
 refine awp_forS (σ := Nat) ((stI 0 old).length) (fun (q : Nat) => [(0, .str src), (1, .str next), (5, .optr 0 0), (7, .slice ((stI 0 old).map vint) .none), (8, .int .i64 ((next.length : Int) - src.length)), (9, .int .i64 (q : Int)), (23, .slice ((stI 0 old).map vint) .none)]) [0, 1, 5, 7, 8, 9, 23] ([]) (fun (q : Nat) => [.row e.enc.cells]) (fun (i : Nat) (q : Nat) => q = ((enI 0 old).take i).countP (· < e.st)) (0) ([]) rfl rfl rfl rfl rfl rfl rfl rfl rfl (by decide) (by decide) (by decide) (fun _ => rfl) (by omega) ⟨(by first | rfl | (simp only [jN, seval, vint, qC, qR] <;> first | done | with_reducible rfl)), (by first | rfl | (simp only [jN, seval, vint, qC, qR] <;> first | done | with_reducible rfl)), (by first | rfl | (simp only [jN, seval, vint, qC, qR] <;> first | done | with_reducible rfl)), (by first | rfl | (simp only [jN, seval, vint, qC, qR] <;> first | done | with_reducible rfl)), (by first | rfl | (simp only [jN, seval, vint, qC, qR] <;> first | done | with_reducible rfl)), (by first | rfl | (simp only [jN, seval, vint, qC, qR] <;> first | done | with_reducible rfl)), (by first | rfl | (simp only [jN, seval, vint, qC, qR] <;> first | done | with_reducible rfl)), (by first | rfl | (simp only [jN, seval, vint, qC, qR] <;> first | done | with_reducible rfl)), (by first | rfl | (simp only [jN, seval, vint, qC, qR] <;> first | done | with_reducible rfl)), trivial⟩ (by first | rfl | (simp only [jN, seval, vint, qC, qR] <;> first | done | with_reducible rfl)) (rfl) (fun _ _ _ => by first | exact Nat.zero_le _ | (simp only [List.length_append]; omega)) ?_ ?_ ?_
 ·intro i q hg
  simp only [List.nil_append, EdS]
  refine ⟨?_, xR⟩
  exact xH
 ·intro i q hi hg
  have hi2 : i < old.length := by omega
  have g1 := ix_nat hi
  have gq : q ≤ i := by rw [hg]; exact Nat.le_trans List.countP_le_length (by rw [List.length_take]; omega)
  have gw1 : IntKind.i64.wrap ((i : Int) + 1) = ((i + 1 : Nat) : Int) := by rw [wrap_id (by omega) (by omega)]; omega
  have gw2 : IntKind.i64.wrap ((q : Int) + 1) = ((q + 1 : Nat) : Int) := by rw [wrap_id (by omega) (by omega)]; omega
  have gs := countP_snoc (S := e.st) (enI_get hi2)
  refine qE (a5 qR g1 tN gw1 gw2) ?_
  refine qE (a5 y9 qR g1 tN (a2 gw1 gw2)) ?_
  refine qE (a5 y3 y50 qR g1 (a3 tN gw1 gw2)) ?_
  refine qI (a5 qR g1 tN gw1 gw2) (fun bt34 => ?_) (fun bt34 => ?_)
  ·-- if t34
   have hi3 : i + 1 < (stI 0 old).length := by have := of_decide_eq_true bt34; omega
   have g4 := ix_nat hi3
   have g5 : ((stI 0 old).map vint)[i + 1]? = some (vint ((szL (old.take (i + 1)) : Nat) : Int)) := by rw [List.getElem?_map, stI_get (by omega)]; rfl
   have hlast : ((szL (old.take (i + 1)) : Nat) : Int) = ((szL (old.take (i + 1)) : Nat) : Int) := rfl
   refine qE (a5 y3 y50 qR g1 (a5 tN gw1 gw2 g4 g5)) ?_
   refine qL [0, 1, 5, 7, 8, 9, 11, 23, 24, 25] (a5 qR g1 tN gw1 gw2) ?_
   refine qE (a5 y3 y23 qR g1 (a3 tN gw1 gw2)) ?_
   refine qI (a5 qR g1 tN gw1 gw2) (fun bt43 => ?_) (fun bt43 => ?_)
   ·-- if t43
    have hc : ((szL (old.take (i + 1)) : Nat) : Int) < e.st := by rw [← hlast]; exact of_decide_eq_true bt43
    refine qE (a5 y3 qR g1 tN (a2 gw1 gw2)) ?_
    first | (exact ⟨⟨rfl, rfl, trivial⟩, q + 1, _, ⟨rfl, rfl, rfl, rfl, rfl, rfl, rfl, trivial⟩, by simp only [jN, seval, vint, qC, qR] <;> rfl, by rw [gs, ← hg, if_pos hc]⟩) | (exact ⟨⟨rfl, rfl, trivial⟩, q, _, ⟨rfl, rfl, rfl, rfl, rfl, rfl, rfl, trivial⟩, by simp only [jN, seval, vint, qC, qR] <;> rfl, by rw [gs, ← hg, if_neg hc]; rfl⟩)
   ·-- else t43
    have hc : ¬ ((szL (old.take (i + 1)) : Nat) : Int) < e.st := by rw [← hlast]; exact of_decide_eq_false bt43
    refine qK ?_
    first | (exact ⟨⟨rfl, rfl, trivial⟩, q + 1, _, ⟨rfl, rfl, rfl, rfl, rfl, rfl, rfl, trivial⟩, by simp only [jN, seval, vint, qC, qR] <;> rfl, by rw [gs, ← hg, if_pos hc]⟩) | (exact ⟨⟨rfl, rfl, trivial⟩, q, _, ⟨rfl, rfl, rfl, rfl, rfl, rfl, rfl, trivial⟩, by simp only [jN, seval, vint, qC, qR] <;> rfl, by rw [gs, ← hg, if_neg hc]; rfl⟩)
  ·-- else t34
   have hi3 : ¬ i + 1 < (stI 0 old).length := by have := of_decide_eq_false bt34; omega
   have hlast : (src.length : Int) = ((szL (old.take (i + 1)) : Nat) : Int) := by rw [List.take_of_length_le (by omega)]; omega
   refine qK ?_
   refine qE (a5 y3 y23 qR g1 (a3 tN gw1 gw2)) ?_
   refine qI (a5 qR g1 tN gw1 gw2) (fun bt43 => ?_) (fun bt43 => ?_)
   ·-- if t43
    have hc : ((szL (old.take (i + 1)) : Nat) : Int) < e.st := by rw [← hlast]; exact of_decide_eq_true bt43
    refine qE (a5 y3 qR g1 tN (a2 gw1 gw2)) ?_
    first | (exact ⟨⟨rfl, rfl, trivial⟩, q + 1, _, ⟨rfl, rfl, rfl, rfl, rfl, rfl, rfl, trivial⟩, by simp only [jN, seval, vint, qC, qR] <;> rfl, by rw [gs, ← hg, if_pos hc]⟩) | (exact ⟨⟨rfl, rfl, trivial⟩, q, _, ⟨rfl, rfl, rfl, rfl, rfl, rfl, rfl, trivial⟩, by simp only [jN, seval, vint, qC, qR] <;> rfl, by rw [gs, ← hg, if_neg hc]; rfl⟩)
   ·-- else t43
    have hc : ¬ ((szL (old.take (i + 1)) : Nat) : Int) < e.st := by rw [← hlast]; exact of_decide_eq_false bt43
    refine qK ?_
    first | (exact ⟨⟨rfl, rfl, trivial⟩, q + 1, _, ⟨rfl, rfl, rfl, rfl, rfl, rfl, rfl, trivial⟩, by simp only [jN, seval, vint, qC, qR] <;> rfl, by rw [gs, ← hg, if_pos hc]⟩) | (exact ⟨⟨rfl, rfl, trivial⟩, q, _, ⟨rfl, rfl, rfl, rfl, rfl, rfl, rfl, trivial⟩, by simp only [jN, seval, vint, qC, qR] <;> rfl, by rw [gs, ← hg, if_neg hc]; rfl⟩)
 ·intro q hg
  have hcnt : q = preN e.st 0 old := by rw [hg, hsl, ← enI_len old 0, List.take_length, countP_pre]
  subst hcnt
  have hpl := preN_le e.st old 0
  refine qT 1 qR ?_
  refine qP qR zgo5 (k2 _) ?_
  refine qP qR zgo21 (k4 _) ?_
  refine qX qR ?_
  refine qE (a3 y3 y50 qR) ?_
  repeat refine wS ?_
  refine awp_forS (σ := Unit) ((stI 0 old).length) (fun (s : Unit) => [(5, .optr 0 0), (7, .slice ((stI 0 old).map vint) .none), (8, .int .i64 ((next.length : Int) - src.length)), (9, .int .i64 ((preN e.st 0 old : Nat) : Int)), (12, .slice ((stI 0 new).map vint) .none), (50, .slice ((stI 0 old).map vint) .none)]) [5, 7, 8, 9, 12, 50] ([]) (fun (s : Unit) => [.row e.enc.cells]) (fun (i : Nat) (s : Unit) => (List.range i).any (hitR old new e.en ((next.length : Int) - src.length)) = false) (()) ([]) rfl rfl rfl rfl rfl rfl rfl rfl rfl (by decide) (by decide) (by decide) (fun _ => rfl) (by omega) ⟨(by first | rfl | (simp only [jN, seval, vint, qC, qR] <;> first | done | with_reducible rfl)), (by first | rfl | (simp only [jN, seval, vint, qC, qR] <;> first | done | with_reducible rfl)), (by first | rfl | (simp only [jN, seval, vint, qC, qR] <;> first | done | with_reducible rfl)), (by first | rfl | (simp only [jN, seval, vint, qC, qR] <;> first | done | with_reducible rfl)), (by first | rfl | (simp only [jN, seval, vint, qC, qR] <;> first | done | with_reducible rfl)), (by first | rfl | (simp only [jN, seval, vint, qC, qR] <;> first | done | with_reducible rfl)), (by first | rfl | (simp only [jN, seval, vint, qC, qR] <;> first | done | with_reducible rfl)), (by first | rfl | (simp only [jN, seval, vint, qC, qR] <;> first | done | with_reducible rfl)), trivial⟩ (by first | rfl | (simp only [jN, seval, vint, qC, qR] <;> first | done | with_reducible rfl)) (rfl) (fun _ _ _ => by first | exact Nat.zero_le _ | (simp only [List.length_append]; omega)) ?_ ?_ ?_
  ·intro i s hg
   simp only [List.nil_append, EdS]
   refine ⟨?_, xR⟩
   exact xH
  ·intro i s hi hg
   have hi2 : i < old.length := by omega
   have g1 := ix_nat hi
   have g2 : ((stI 0 old).map vint)[i]? = some (vint ((szL (old.take i) : Nat) : Int)) := by rw [List.getElem?_map, stI_get hi2]; rfl
   have hsle : szL (old.take i) ≤ szL old := by (conv => rhs; rw [← List.take_length (l := old)]); exact szL_take_le (by omega)
   have gw3 : IntKind.i64.wrap (((szL (old.take i) : Nat) : Int) + ((next.length : Int) - (src.length : Int))) = ((szL (old.take i) : Nat) : Int) + ((next.length : Int) - src.length) := wrap_id (by omega) (by omega)
   have gw4 : IntKind.i64.wrap (((preN e.st 0 old : Nat) : Int) + ((stI 0 old).length : Int)) = ((preN e.st 0 old : Nat) : Int) + (stI 0 old).length := wrap_id (by omega) (by omega)
   have gw5 : IntKind.i64.wrap (((preN e.st 0 old : Nat) : Int) + ((stI 0 old).length : Int) - (i : Int)) = ((preN e.st 0 old : Nat) : Int) + (stI 0 old).length - i := wrap_id (by omega) (by omega)
   have hh := hit_eq old new e.en ((next.length : Int) - src.length) i
   refine qE (a5 y3 y50 qR g1 (a5 g2 tN gw3 gw4 gw5)) ?_
   repeat refine wS ?_
   refine wR ?_
   refine aops_gstart ?_
   refine gT 9 (a5 y3 y23 qR g1 (a5 g2 tN gw3 gw4 gw5)) ?_
   refine gP (a5 qR g1 g2 tN (a3 gw3 gw4 gw5)) zgo22 (fun hc => contI (stI 0 new) (((szL (old.take i) : Nat) : Int) + ((next.length : Int) - src.length)) (by rw [stI_len]; omega) _) ?_
   refine gX (a5 qR g1 g2 tN (a3 gw3 gw4 gw5)) ?_
   refine qI (a5 qR g1 g2 tN (a3 gw3 gw4 gw5)) (fun bt67 => ?_) (fun bt67 => ?_)
   ·-- if t67
    have hr : refR old new e.st e.en ((next.length : Int) - src.length) = ((preN e.st 0 old : Nat) : Int) + (stI 0 old).length - i := by
     rw [hsl]; unfold refR; rw [find_range hi2 (by rw [hh]; exact bt67) (fun k hk => by have := List.any_eq_false.1 hg k (List.mem_range.2 hk); simpa using this)]
    rw [hr]
    refine qL [5, 7, 8, 9, 12, 13, 50, 51, 52] (a5 qR g1 g2 tN (a3 gw3 gw4 gw5)) ?_
    refine qE (a5 y3 y50 qR g1 (a5 g2 tN gw3 gw4 gw5)) ?_
    repeat refine wS ?_
    refine wT ⟨.inr rfl, _, rfl, ?_⟩
    first | rfl | trace_state
   ·-- else t67
    refine qK ?_
    exact ⟨⟨rfl, rfl, trivial⟩, (), _, ⟨rfl, rfl, rfl, rfl, rfl, rfl, trivial⟩, by simp only [jN, seval, vint, qC, qR] <;> rfl, anyR_succ hg (by rw [hh]; exact bt67)⟩
  ·intro s hg
   have hr : refR old new e.st e.en ((next.length : Int) - src.length) = ((preN e.st 0 old : Nat) : Int) := by unfold refR; rw [findR_none (by rw [← hsl]; exact hg)]
   rw [hr]
   refine qE qR ?_
   repeat refine wS ?_
   refine wT ⟨.inr rfl, _, rfl, ?_⟩
   first | rfl | trace_state
end Go.Abs
namespace Go.Abs
theorem enI_lt {ts : List Tk} (hp : PosL ts) {i j : Nat} (h : i < j) (hj : j < ts.length) : ((szL (ts.take (i + 1)) : Nat) : Int) < ((szL (ts.take (j + 1)) : Nat) : Int) := by
 have := szL_take_lt hp (i := i + 1) (j := j + 1) (by omega) (by omega)
 omega
theorem enI_getElem {ts : List Tk} {i : Nat} (h : i < (enI 0 ts).length) : (enI 0 ts)[i] = ((szL (ts.take (i + 1)) : Nat) : Int) := by
 have := enI_get (ts := ts) (i := i) (by rw [enI_len] at h; exact h)
 rw [List.getElem?_eq_getElem h] at this
 exact Option.some.inj this
theorem enI_sorted {ts : List Tk} (hp : PosL ts) : (enI 0 ts).Pairwise (· ≤ ·) := by
 rw [List.pairwise_iff_getElem]
 intro i j hi hj h
 rw [enI_getElem hi, enI_getElem hj]
 have := enI_lt hp h (by rw [enI_len] at hj; exact hj)
 omega
theorem countP_at {ts : List Tk} (hp : PosL ts) {j : Nat} (hj : j < ts.length) : (enI 0 ts).countP (· < ((szL (ts.take (j + 1)) : Nat) : Int)) = j := by
 have hl := enI_len ts 0
 rw [← List.take_append_drop j (enI 0 ts), List.countP_append]
 have h1 : ((enI 0 ts).take j).countP (· < ((szL (ts.take (j + 1)) : Nat) : Int)) = j := by
  rw [List.countP_eq_length.2]
  ·rw [List.length_take]; omega
  ·intro x hx
   obtain ⟨k, hk, rfl⟩ := List.mem_iff_getElem.1 hx
   rw [List.length_take] at hk
   rw [List.getElem_take, enI_getElem (by omega)]
   exact decide_eq_true (enI_lt hp (by omega) hj)
 have h2 : ((enI 0 ts).drop j).countP (· < ((szL (ts.take (j + 1)) : Nat) : Int)) = 0 := by
  rw [List.countP_eq_zero]
  intro x hx
  obtain ⟨k, hk, rfl⟩ := List.mem_iff_getElem.1 hx
  rw [List.length_drop] at hk
  rw [List.getElem_drop, enI_getElem (by omega)]
  simp only [decide_eq_true_eq]
  have := szL_take_le (ts := ts) (i := j + 1) (j := j + k + 1) (by omega)
  omega
 rw [h1, h2, Nat.add_zero]
theorem resM_ge {ts : List Tk} (hp : PosL ts) {x : Int} (h : 0 ≤ resM (enI 0 ts) x) : ∃ i, i ≤ ts.length ∧ resM (enI 0 ts) x = (i : Int) ∧ ((szL (ts.take i) : Nat) : Int) = x := by
 unfold resM at h ⊢
 by_cases h0 : x = 0
 ·rw [if_pos (decide_eq_true h0)]
  exact ⟨0, Nat.zero_le _, rfl, by simp [szL, h0]⟩
 ·rw [if_neg (by simpa using h0)] at h ⊢
  by_cases hc : (enI 0 ts).contains x = true
  ·rw [if_pos hc] at h ⊢
   obtain ⟨j, hj, e⟩ := List.mem_iff_getElem.1 (List.contains_iff_mem.1 hc)
   rw [enI_getElem hj] at e
   have hj' : j < ts.length := by rw [enI_len] at hj; exact hj
   refine ⟨j + 1, hj', ?_, e⟩
   rw [← e, countP_at hp hj']; simp
  ·rw [if_neg hc] at h; omega
theorem resM_none {ts : List Tk} {x : Int} (h : ¬ 0 ≤ resM (enI 0 ts) x) : ¬ ∃ i, i ≤ ts.length ∧ ((szL (ts.take i) : Nat) : Int) = x := by
 rintro ⟨i, hi, rfl⟩
 unfold resM at h
 by_cases h0 : ((szL (ts.take i) : Nat) : Int) = 0
 ·rw [if_pos (decide_eq_true h0)] at h; omega
 ·rw [if_neg (by simpa using h0)] at h
  have hi0 : i ≠ 0 := by rintro rfl; simp [szL] at h0
  have hc : (enI 0 ts).contains ((szL (ts.take i) : Nat) : Int) = true := by
   rw [List.contains_iff_mem, List.mem_iff_getElem]
   refine ⟨i - 1, by rw [enI_len]; omega, ?_⟩
   rw [enI_getElem, Nat.sub_add_cancel (by omega)]
  rw [if_pos hc] at h
  omega
end Go.Abs
set_option maxRecDepth 4000
namespace Go.Abs
open Go.Proofs
theorem spl_len {src : List UInt8} {e : Ed} (h : badE src e = false) : ((spl src e).length : Int) = newLen src e := by
 simp only [badE, Bool.or_eq_false_iff, decide_eq_false_iff_not] at h
 unfold spl newLen
 simp only [List.length_append, List.length_take, List.length_drop]; omega
theorem preN_succ {S : Int} {ts : List Tk} {r : Nat} (h : r ≤ preN S 0 ts) (hr : r < ts.length) (hc : ((szL (ts.take (r + 1)) : Nat) : Int) < S) : r + 1 ≤ preN S 0 ts := by
 rcases Nat.lt_or_ge r (preN S 0 ts) with q | q
 ·exact q
 ·obtain rfl : r = preN S 0 ts := by omega
  have := preN_ge (S := S) (ts := ts) (o := 0) hr
  rw [Nat.zero_add] at this; omega
theorem app_TkL {us vs : List Tk} {id : Nat} {tl : Tail} (hv : vs ≠ []) (hb : (us.length + vs.length) * 24 ≤ 2 ^ 47) (fresh : Nat) (H : Heap) (hH : H[id]? = some (.buf us.length 2)) :
  aappend ⟨true, 2, 24⟩ fresh H (.slice (us.map Tk.enc) (.tok id)) (.slice (vs.map Tk.enc) tl) = some (.slice ((us ++ vs).map Tk.enc) (.tok id), some (id, .buf (us.length + vs.length) 2)) := by
 have hmx : maxLen = 9223372036854775807 := by decide
 unfold aappend
 simp only [List.length_map]
 rw [if_neg (by simpa using hv), if_pos ⟨hb, by omega, fun e he => by obtain ⟨v, _, rfl⟩ := List.mem_map.1 he; exact v.enc_len, fun e he => by obtain ⟨v, _, rfl⟩ := List.mem_map.1 he; exact ⟨v.enc_len, by rw [Tk.enc_cells]; rfl⟩, by decide⟩]
 simp only [hH, and_self, if_true, List.map_append]
theorem tok_at {s : List UInt8} {j : Nat} (hj : j < (toks s).length) : s.drop (szL ((toks s).take j)) ≠ [] ∧ (toks s).take (j + 1) = (toks s).take j ++ [⟨(firstT (s.drop (szL ((toks s).take j)))).2, (s.drop (szL ((toks s).take j))).take (firstT (s.drop (szL ((toks s).take j)))).1⟩] := by
 have hd := toks_drop j s (by omega)
 have hne : s.drop (szL ((toks s).take j)) ≠ [] := by
  intro e; rw [e, toks_nil] at hd
  have := congrArg List.length hd
  simp only [List.length_drop, List.length_nil] at this; omega
 refine ⟨hne, ?_⟩
 rw [toks_step hne] at hd
 have h0 := congrArg (fun l => l[0]?) hd
 simp only [List.getElem?_drop, Nat.add_zero, List.getElem?_cons_zero] at h0
 rw [List.take_add_one, h0]; rfl
def shE (src : List UInt8) (e : Ed) : Int := ((spl src e).length : Int) - src.length
def updM (src : List UInt8) (tk : List Tk) (e : Ed) : List Tk × Int × Int :=
 if decide ((src.length : Int) > 2000) = true then ([], 0, 2) else if (!decide (valE src e = 0)) = true then ([], 0, valE src e)
 else if (!tkEqs (toks src) tk) = true then ([], 0, 3) else (toks (spl src e), refR (toks src) (toks (spl src e)) e.st e.en (shE src e), 0)
theorem upd_c (src : List UInt8) (tk : List Tk) (e : Ed) (hs : src.length ≤ 1048576) (ht : e.tx.length ≤ 1048576) : PG G0 Tryz.prog 6 [.str src, .slice (tk.map Tk.enc) .none, e.enc] (.tup [.slice ((updM src tk e).1.map Tk.enc) .none, vint (updM src tk e).2.1, vint (updM src tk e).2.2]) := by
 have em : maxLen = 9223372036854775807 := by decide
 have kz := tokz_c src (by omega)
 unfold updM
 refine pg_of (N := 131) Tryz.func6 rfl rfl (by simp) (.tup _ (by simp [Bel.int, bel_Tk])) fun H hG hb' => ?_
 refine qE (a2 y23 qR) ?_
 refine qE (a3 y3 y9 qR) ?_
 refine qI qR (fun bt23 => ?_) (fun bt23 => ?_)
 ·-- if t23
  rw [if_pos bt23]
  refine qE qR ?_
  repeat refine wS ?_
  refine wT ⟨.inr rfl, _, _, (ares_three (.tmp 6) (.tmp 7) (.tmp 8) rfl (ares_tmp1 (by decide)) (ares_tmp1 (by decide)) (ares_tmp1 (by decide))), ?_, (by first | exact (List.append_nil _).symm | rfl)⟩
  first | exact rfl | trace_state
 ·-- else t23
  rw [if_neg (by rw [bt23]; simp)]
  have h2k : (src.length : Int) ≤ 2000 := by have := of_decide_eq_false bt23; omega
  rw [if_neg (by omega), if_neg (by omega)] at kz
  refine qK ?_
  refine qT 3 (a3 y23 y47 qR) ?_
  refine qP qR zgo14 (app_c src e hs ht) ?_
  refine qX qR ?_
  refine qL [0, 1, 5, 9, 10] qR ?_
  refine qE (a2 y27 qR) ?_
  refine qI qR (fun bt32 => ?_) (fun bt32 => ?_)
  ·-- if t32
   rw [if_pos bt32]
   refine qE qR ?_
   repeat refine wS ?_
   refine wT ⟨.inr rfl, _, _, (ares_three (.tmp 6) (.tmp 7) (.tmp 8) rfl (ares_tmp1 (by decide)) (ares_tmp1 (by decide)) (ares_tmp1 (by decide))), ?_, (by first | exact (List.append_nil _).symm | rfl)⟩
   first | exact rfl | trace_state
  ·-- else t32
   rw [if_neg (by rw [bt32]; simp)]
   have hv0 : valE src e = 0 := by simpa using bt32
   rw [if_pos hv0]
   refine qK ?_
   refine qT 1 qR ?_
   refine qP qR zgo15 (kz _ (fun k o h => getL (hG k o h) _)) ?_
   refine qX qR ?_
   refine qB ?_
   refine qT 2 qR ?_
   refine qP qR zgo16 (eqTk_c (toks src) tk (by have := len_szL (toks_pos _ src (Nat.le_refl _)); rw [toks_sz _ src (Nat.le_refl _)] at this; omega) _) ?_
   refine qX qR ?_
   refine qI qR (fun bt39 => ?_) (fun bt39 => ?_)
   ·-- if t39
    rw [if_pos bt39]
    refine qE qR ?_
    repeat refine wS ?_
    refine wT ⟨.inr rfl, _, _, (ares_three (.tmp 6) (.tmp 7) (.tmp 8) rfl (ares_tmp1 (by decide)) (ares_tmp1 (by decide)) (ares_tmp1 (by decide))), ?_, (by first | exact (List.append_nil _).symm | rfl)⟩
    first | exact rfl | trace_state
   ·-- else t39
    rw [if_neg (by rw [bt39]; simp)]
    have htk : toks src = tk := tkEqs_iff.1 (by simpa using bt39)
    have hbad : badE src e = false := by
     unfold valE at hv0; split at hv0
     ·cases hv0
     ·split at hv0
      ·cases hv0
      ·rename_i hb; simpa using hb
    have hnl : newLen src e ≤ 2000 := by
     unfold valE at hv0; rw [if_neg (by omega), if_neg (by rw [hbad]; simp)] at hv0; split at hv0
     ·cases hv0
     ·omega
    have hsl := spl_len hbad
    have gsl : decide (((spl src e).length : Int) > 2000) = false := decide_eq_false (by omega)
    refine qE (a4 y3 y9 qR gsl) ?_
    refine qF qR ?_
    refine qK ?_
    refine qL [0, 5, 9, 11] qR ?_
    repeat refine wS ?_
    refine awp_ext ?_
    refine wR ?_
    refine qU 1 qR ?_
    refine qA qR zgo17 (endsT_c _ (H.length + 1) (by simp) (toks src) (by have := len_szL (toks_pos _ src (Nat.le_refl _)); rw [toks_sz _ src (Nat.le_refl _)] at this; omega) (by rw [toks_sz _ src (Nat.le_refl _)]; omega)) ?_
    rintro _ _ ⟨rfl, rfl⟩
    refine qX qR ?_
    refine qE qR ?_
    repeat refine wS ?_
    refine awp_joinT (σ := Nat) (fun (r : Nat) => [(0, .str src), (5, .optr H.length 0), (9, .str (spl src e)), (11, .slice ((toks src).map Tk.enc) .none), (13, .slice ((enI 0 (toks src)).map vint) (.tok (H.length + 1))), (14, .int .i64 (r : Int)), (15, .int .i64 ((szL ((toks src).take r) : Nat) : Int))]) (fun (r : Nat) => H ++ [.row [.int .i64 e.st, .int .i64 e.en, .str e.tx], .buf (toks src).length 1]) (fun (r : Nat) => r = preN e.st 0 (toks src)) ?_ ?_ ?_
    ·intro r hg
     exact ⟨by first | exact Nat.zero_le _ | (simp only [List.length_append]; omega), by first | exact hbel_nil _ | (simp only [List.append_nil]; assumption) | (refine hbel_app' hb' (by simp) ?_; repeat (first | exact hbel_nil _ | exact trivial | exact obel_row_nil _ | (refine HBel.cons ?_ ?_) | (refine obel_row_cons (by first | exact bel_int_tok _ (by simp) | exact bel_Tk_tok _ (by simp) | exact bel_ints _ _ _ (fun _ h => by cases h; first | (simp; done) | (simp; omega)) | exact Tk.bel _ _ | exact St.bel _ _ | exact Ed.bel _ _ | exact Cd.bel _ _ | exact bel_strs0 _ _ | exact bel_St _ _ | exact bel_Tk _ _ | exact bel_Cd _ _ | exact bel_ints0 _ _ | exact bel_nil0 _ | exact bel_nil1 _ | exact Bel.optr _ _ (by first | (simp; done) | (simp; omega)) | exact Bel.int _ _ | exact Bel.bool _ | exact Bel.str _ | exact Bel.nilp | exact Bel.nilfn | exact Bel.optr _ _ (by simp) | exact bel_nil0 _ | exact bel_nil1 _ | exact bel_fn0 _ _ | assumption) ?_))), by repeat (first | exact BelL.nil | refine BelL.cons (by first | exact bel_int_tok _ (by simp) | exact bel_Tk_tok _ (by simp) | exact bel_ints _ _ _ (fun _ h => by cases h; first | (simp; done) | (simp; omega)) | exact Tk.bel _ _ | exact St.bel _ _ | exact Ed.bel _ _ | exact Cd.bel _ _ | exact bel_strs0 _ _ | exact bel_St _ _ | exact bel_Tk _ _ | exact bel_Cd _ _ | exact bel_ints0 _ _ | exact bel_nil0 _ | exact bel_nil1 _ | exact Bel.optr _ _ (by first | (simp; done) | (simp; omega)) | exact Bel.int _ _ | exact Bel.bool _ | exact Bel.str _ | exact Bel.nilp | exact Bel.nilfn | exact Bel.optr _ _ (by simp) | exact bel_nil0 _ | exact bel_nil1 _ | exact bel_fn0 _ _ | assumption) ?_)⟩
    ·-- to the meeting
     repeat refine wS ?_
     have eb2 : ∀ c : AObj, bH (H ++ [c, .unborn]) (H.length + 1) (toks src).length 1 = H ++ [c, .buf (toks src).length 1] := fun c => by simp [bH]
     simp only [List.append_assoc, List.cons_append, List.nil_append]
     rw [eb2]
     refine awp_block ?_
     refine awp_loopS (σ := Nat) (fun (r : Nat) => [(0, .str src), (5, .optr H.length 0), (9, .str (spl src e)), (11, .slice ((toks src).map Tk.enc) .none), (13, .slice ((enI 0 (toks src)).map vint) (.tok (H.length + 1))), (14, .int .i64 (r : Int)), (15, .int .i64 ((szL ((toks src).take r) : Nat) : Int))]) (H) (fun (r : Nat) => [.row [.int .i64 e.st, .int .i64 e.en, .str e.tx], .buf (toks src).length 1]) (fun (r : Nat) => (toks src).length - r) (fun (r : Nat) => r ≤ preN e.st 0 (toks src)) (0) ([]) ⟨(by first | rfl | (simp only [jN, seval, vint, qC, qR] <;> first | done | with_reducible rfl)), (by first | rfl | (simp only [jN, seval, vint, qC, qR] <;> first | done | with_reducible rfl)), (by first | rfl | (simp only [jN, seval, vint, qC, qR] <;> first | done | with_reducible rfl)), (by first | rfl | (simp only [jN, seval, vint, qC, qR] <;> first | done | with_reducible rfl)), (by first | rfl | (simp only [jN, seval, vint, qC, qR] <;> first | done | with_reducible rfl)), (by first | rfl | (simp only [jN, seval, vint, qC, qR] <;> first | done | with_reducible rfl)), (by first | rfl | (simp only [jN, seval, vint, qC, qR] <;> first | done | with_reducible rfl)), trivial⟩ (by first | rfl | (simp only [jN, seval, vint, qC, qR] <;> first | done | with_reducible rfl)) (Nat.zero_le _) (fun _ _ => by first | exact Nat.zero_le _ | (simp only [List.length_append]; omega)) ?_ ?_
     ·exact fun r hg => ⟨by first | exact hbel_nil _ | (simp only [List.append_nil]; assumption) | (refine hbel_app' hb' (by simp) ?_; repeat (first | exact hbel_nil _ | exact trivial | exact obel_row_nil _ | (refine HBel.cons ?_ ?_) | (refine obel_row_cons (by first | exact bel_int_tok _ (by simp) | exact bel_Tk_tok _ (by simp) | exact bel_ints _ _ _ (fun _ h => by cases h; first | (simp; done) | (simp; omega)) | exact Tk.bel _ _ | exact St.bel _ _ | exact Ed.bel _ _ | exact Cd.bel _ _ | exact bel_strs0 _ _ | exact bel_St _ _ | exact bel_Tk _ _ | exact bel_Cd _ _ | exact bel_ints0 _ _ | exact bel_nil0 _ | exact bel_nil1 _ | exact Bel.optr _ _ (by first | (simp; done) | (simp; omega)) | exact Bel.int _ _ | exact Bel.bool _ | exact Bel.str _ | exact Bel.nilp | exact Bel.nilfn | exact Bel.optr _ _ (by simp) | exact bel_nil0 _ | exact bel_nil1 _ | exact bel_fn0 _ _ | assumption) ?_))), by repeat (first | exact BelL.nil | refine BelL.cons (by first | exact bel_int_tok _ (by simp) | exact bel_Tk_tok _ (by simp) | exact bel_ints _ _ _ (fun _ h => by cases h; first | (simp; done) | (simp; omega)) | exact Tk.bel _ _ | exact St.bel _ _ | exact Ed.bel _ _ | exact Cd.bel _ _ | exact bel_strs0 _ _ | exact bel_St _ _ | exact bel_Tk _ _ | exact bel_Cd _ _ | exact bel_ints0 _ _ | exact bel_nil0 _ | exact bel_nil1 _ | exact Bel.optr _ _ (by first | (simp; done) | (simp; omega)) | exact Bel.int _ _ | exact Bel.bool _ | exact Bel.str _ | exact Bel.nilp | exact Bel.nilfn | exact Bel.optr _ _ (by simp) | exact bel_nil0 _ | exact bel_nil1 _ | exact bel_fn0 _ _ | assumption) ?_)⟩
     ·intro r hg
      rcases Nat.lt_or_ge r (toks src).length with hr | hr
      ·-- case
       have gr1 : (0 ≤ (r : Int) ∧ (r : Int) < ((enI 0 (toks src)).length : Int)) = True := by rw [enI_len]; simp; omega
       have gr2 : ((enI 0 (toks src)).map vint)[r]? = some (vint ((szL ((toks src).take (r + 1)) : Nat) : Int)) := by rw [List.getElem?_map, enI_get hr]; rfl
       have gr3 : decide ((r : Int) < ((toks src).length : Int)) = true := decide_eq_true (by omega)
       repeat refine wS ?_
       refine dp_draw (by kernel_rfl) ?_
       refine pX (a5 y3 y23 y24 y32 (a5 y50 qR gr1 gr2 (a2 gr3 tN))) ?_
       refine qI (a5 qR gr1 gr2 gr3 tN) (fun bt62 => ?_) (fun bt62 => ?_)
       ·-- if t62
        have hpl := preN_le e.st (toks src) 0
        have hln := len_szL (toks_pos _ src (Nat.le_refl _))
        rw [toks_sz _ src (Nat.le_refl _)] at hln
        have gwr : IntKind.i64.wrap ((r : Int) + 1) = ((r + 1 : Nat) : Int) := by rw [wrap_id (by omega) (by omega)]; omega
        have hsc := preN_succ hg hr (of_decide_eq_true bt62)
        refine qK ?_
        refine qB ?_
        refine qE (a5 y3 y50 qR gr1 (a3 gr2 gr3 tN)) ?_
        refine qL [0, 5, 9, 11, 13, 14, 15] (a5 qR gr1 gr2 gr3 tN) ?_
        refine qE (a5 y3 qR gr1 gr2 (a3 gr3 tN gwr)) ?_
        try simp only [thenQ, blockQ]
        exact ⟨r + 1, _, by omega, ⟨rfl, rfl, rfl, rfl, rfl, rfl, rfl, trivial⟩, by simp only [jN, seval, vint, qC, qR] <;> rfl, hsc⟩
       ·-- else t62
        repeat refine wS ?_
        refine awp_exit ?_
        simp only [thenQ, blockQ, reduceIte, Nat.reduceEqDiff, Nat.succ_ne_self, if_true, if_false]
        have hjn : r = preN e.st 0 (toks src) := by
         have hnl2 := of_decide_eq_false bt62
         rcases Nat.lt_or_ge r (preN e.st 0 (toks src)) with q | q
         ·have := preN_lt (S := e.st) (ts := toks src) (o := 0) q
          rw [Nat.zero_add] at this; omega
         ·omega
        exact ⟨r, [], ⟨(by first | rfl | (simp only [jN, seval, vint, qC, qR] <;> first | done | with_reducible rfl)), (by first | rfl | (simp only [jN, seval, vint, qC, qR] <;> first | done | with_reducible rfl)), (by first | rfl | (simp only [jN, seval, vint, qC, qR] <;> first | done | with_reducible rfl)), (by first | rfl | (simp only [jN, seval, vint, qC, qR] <;> first | done | with_reducible rfl)), (by first | rfl | (simp only [jN, seval, vint, qC, qR] <;> first | done | with_reducible rfl)), (by first | rfl | (simp only [jN, seval, vint, qC, qR] <;> first | done | with_reducible rfl)), (by first | rfl | (simp only [jN, seval, vint, qC, qR] <;> first | done | with_reducible rfl)), trivial⟩, by simp, hjn⟩
      ·-- case
       have gr3 : decide ((r : Int) < ((toks src).length : Int)) = false := decide_eq_false (by omega)
       have gr1 : (0 ≤ (r : Int) ∧ (r : Int) < ((enI 0 (toks src)).length : Int)) = False := by rw [enI_len]; simp; omega
       repeat refine wS ?_
       refine dp_draw (by kernel_rfl) ?_
       refine dp_take 7 (by simp only [jP, jO, jN, seval, y3, y24, y32, vint, qC, qR, gr3, gr1, Option.bind_none] <;> with_reducible rfl) (by decide) ?_
       refine dp_skip (r := .tup []) (by simp only [kE, seval, vint, qC, qR, gr3, gr1, Option.bind_none] <;> with_reducible rfl) ?_
       refine dp_skip (r := .tup []) (by simp only [kE, seval, vint, qC, qR, gr3, gr1, Option.bind_none] <;> with_reducible rfl) ?_
       refine dp_take 2 (by simp only [jP, jO, jN, seval, y3, y23, vint, qC, qR, gr3, gr1, Option.bind_none] <;> with_reducible rfl) (by decide) ?_
       refine dp_skip (r := .tup []) (by simp only [kE, seval, vint, qC, qR, gr3, gr1, Option.bind_none] <;> with_reducible rfl) ?_
       refine dp_end (by simp only [jP, jO, jN, seval, vint, qC, qR, gr3, gr1, Option.bind_none] <;> with_reducible rfl) (by decide) (by repeat (first | exact Fin.base _ | with_reducible apply Fin.keep | apply Fin.drop)) ?_
       repeat refine wS ?_
       refine wF rfl (by simp only [jN, seval, vint, qC, qR, gr3, gr1, Option.bind_none] <;> with_reducible rfl) ?_
       repeat refine wS ?_
       refine awp_exit ?_
       simp only [thenQ, blockQ, reduceIte, Nat.reduceEqDiff, Nat.succ_ne_self, if_true, if_false]
       have hjn : r = preN e.st 0 (toks src) := by
        have hpl := preN_le e.st (toks src) 0
        have hgood2 : preN e.st 0 (toks src) ≤ (toks src).length := hpl
        omega
       exact ⟨r, [], ⟨(by first | rfl | (simp only [jN, seval, vint, qC, qR] <;> first | done | with_reducible rfl)), (by first | rfl | (simp only [jN, seval, vint, qC, qR] <;> first | done | with_reducible rfl)), (by first | rfl | (simp only [jN, seval, vint, qC, qR] <;> first | done | with_reducible rfl)), (by first | rfl | (simp only [jN, seval, vint, qC, qR] <;> first | done | with_reducible rfl)), (by first | rfl | (simp only [jN, seval, vint, qC, qR] <;> first | done | with_reducible rfl)), (by first | rfl | (simp only [jN, seval, vint, qC, qR] <;> first | done | with_reducible rfl)), (by first | rfl | (simp only [jN, seval, vint, qC, qR] <;> first | done | with_reducible rfl)), trivial⟩, by simp, hjn⟩
    ·intro r hg
     have hbd := hbad
     simp only [badE, Bool.or_eq_false_iff, decide_eq_false_iff_not] at hbd
     have hst : ((e.st.toNat : Nat) : Int) = e.st := by omega
     have hen : ((e.en.toNat : Nat) : Int) = e.en := by omega
     have hE : Edit src (spl src e) e.tx e.st.toNat e.en.toNat (shE src e) := ⟨by omega, by omega, rfl, by unfold shE; rw [hsl]; unfold newLen; omega⟩
     have hpt := hE.pre_toks (r := r) (by rw [hst, hg]; exact Nat.le_refl _)
     have hrl : r ≤ (toks (spl src e)).length := by have := hE.pre_len; rw [hst, ← hg] at this; exact this
     have pn := toks_pos _ (spl src e) (Nat.le_refl _)
     have zn := toks_sz _ (spl src e) (Nat.le_refl _)
     have nl : (toks (spl src e)).length ≤ (spl src e).length := by rw [← zn]; exact len_szL pn
     have po := toks_pos _ src (Nat.le_refl _)
     have zo := toks_sz _ src (Nat.le_refl _)
     have ol : (toks src).length ≤ src.length := by rw [← zo]; exact len_szL po
     have gsh : IntKind.i64.wrap (((spl src e).length : Int) - (src.length : Int)) = shE src e := wrap_id (by omega) (by omega)
     have shd : shE src e = ((spl src e).length : Int) - src.length := rfl
     have hpl := preN_le e.st (toks src) 0
     have hlr : ((toks src).take r).length = r := by rw [List.length_take]; omega
     repeat refine wS ?_
     have hpl := preN_le e.st (toks src) 0
     have hs1 : ((0 : Int) ≤ (r : Int)) = True := by simp
     have hs2 : ((r : Int) ≤ ((toks src).length : Int)) = True := by simp; omega
     have hs3 : ((toks src).map Tk.enc).take r = ((toks src).take r).map Tk.enc := List.map_take.symm
     have ga : (∀ (q : PV), q ∈ List.map Tk.enc (toks src) → q.cells.length = 2) = True := eq_true fun q hq => by obtain ⟨v, _, rfl⟩ := List.mem_map.1 hq; exact v.enc_len
     refine awp_ext ?_
     refine wR ?_
     refine eT 3 (by simp only [kA, seval, y24, y32, vint, qC, qR, ga, hs1, hs2, hs3, tN, List.drop_zero] <;> with_reducible rfl) (by decide) ?_
     refine oC (by simp only [kC, seval, vint, qC, qR, ga, hs1, hs2, hs3, tN, List.drop_zero] <;> with_reducible rfl) (by simp only [kC, seval, vint, qC, qR, ga, hs1, hs2, hs3, tN, List.drop_zero]) (by decide) zgo18 (cloneTk _ (H.length + 2) ((toks src).take r) (by simp) (by have := len_szL (toks_pos _ src (Nat.le_refl _)); rw [toks_sz _ src (Nat.le_refl _)] at this; rw [List.length_take]; omega)) ?_
     rintro _ _ ⟨rfl, rfl⟩
     refine e_end (by simp only [kA, seval, vint, qC, qR, ga, hs1, hs2, hs3, tN, List.drop_zero] <;> with_reducible rfl) (by decide) ?_
     refine qE (a4 y3 y9 qR gsh) ?_
     repeat refine wS ?_
     rw [hlr, ← hpt]
     refine awp_block ?_
     refine awp_loopS (σ := Nat) (fun (j : Nat) => [(5, .optr H.length 0), (9, .str (spl src e)), (11, .slice ((toks src).map Tk.enc) .none), (13, .slice ((enI 0 (toks src)).map vint) (.tok (H.length + 1))), (14, .int .i64 (r : Int)), (15, .int .i64 ((szL ((toks (spl src e)).take j) : Nat) : Int)), (16, .slice (((toks (spl src e)).take j).map Tk.enc) (.tok (H.length + 2))), (17, .int .i64 (shE src e))]) (H) (fun (j : Nat) => [.row [.int .i64 e.st, .int .i64 e.en, .str e.tx], .buf (toks src).length 1, .buf j 2]) (fun (j : Nat) => (toks (spl src e)).length - j) (fun (j : Nat) => r ≤ j ∧ j ≤ (toks (spl src e)).length ∧ ∀ k, r ≤ k → k < j → ¬ Edit.Hit (toks src) (toks (spl src e)) e.en.toNat (shE src e) k) (r) ([]) ⟨(by first | rfl | (simp only [jN, seval, vint, qC, qR] <;> first | done | with_reducible rfl)), (by first | rfl | (simp only [jN, seval, vint, qC, qR] <;> first | done | with_reducible rfl)), (by first | rfl | (simp only [jN, seval, vint, qC, qR] <;> first | done | with_reducible rfl)), (by first | rfl | (simp only [jN, seval, vint, qC, qR] <;> first | done | with_reducible rfl)), (by first | rfl | (simp only [jN, seval, vint, qC, qR] <;> first | done | with_reducible rfl)), (by first | rfl | (simp only [jN, seval, vint, qC, qR] <;> first | done | with_reducible rfl)), (by first | rfl | (simp only [jN, seval, vint, qC, qR] <;> first | done | with_reducible rfl)), (by first | rfl | (simp only [jN, seval, vint, qC, qR] <;> first | done | with_reducible rfl)), trivial⟩ (by first | rfl | (simp only [jN, seval, vint, qC, qR] <;> first | done | with_reducible rfl)) (⟨Nat.le_refl _, hrl, fun k h1 h2 => by omega⟩) (fun _ _ => by first | exact Nat.zero_le _ | (simp only [List.length_append]; omega)) ?_ ?_
     ·exact fun j hg => ⟨by first | exact hbel_nil _ | (simp only [List.append_nil]; assumption) | (refine hbel_app' hb' (by simp) ?_; repeat (first | exact hbel_nil _ | exact trivial | exact obel_row_nil _ | (refine HBel.cons ?_ ?_) | (refine obel_row_cons (by first | exact bel_int_tok _ (by simp) | exact bel_Tk_tok _ (by simp) | exact bel_ints _ _ _ (fun _ h => by cases h; first | (simp; done) | (simp; omega)) | exact Tk.bel _ _ | exact St.bel _ _ | exact Ed.bel _ _ | exact Cd.bel _ _ | exact bel_strs0 _ _ | exact bel_St _ _ | exact bel_Tk _ _ | exact bel_Cd _ _ | exact bel_ints0 _ _ | exact bel_nil0 _ | exact bel_nil1 _ | exact Bel.optr _ _ (by first | (simp; done) | (simp; omega)) | exact Bel.int _ _ | exact Bel.bool _ | exact Bel.str _ | exact Bel.nilp | exact Bel.nilfn | exact Bel.optr _ _ (by simp) | exact bel_nil0 _ | exact bel_nil1 _ | exact bel_fn0 _ _ | assumption) ?_))), by repeat (first | exact BelL.nil | refine BelL.cons (by first | exact bel_int_tok _ (by simp) | exact bel_Tk_tok _ (by simp) | exact bel_ints _ _ _ (fun _ h => by cases h; first | (simp; done) | (simp; omega)) | exact Tk.bel _ _ | exact St.bel _ _ | exact Ed.bel _ _ | exact Cd.bel _ _ | exact bel_strs0 _ _ | exact bel_St _ _ | exact bel_Tk _ _ | exact bel_Cd _ _ | exact bel_ints0 _ _ | exact bel_nil0 _ | exact bel_nil1 _ | exact Bel.optr _ _ (by first | (simp; done) | (simp; omega)) | exact Bel.int _ _ | exact Bel.bool _ | exact Bel.str _ | exact Bel.nilp | exact Bel.nilfn | exact Bel.optr _ _ (by simp) | exact bel_nil0 _ | exact bel_nil1 _ | exact bel_fn0 _ _ | assumption) ?_)⟩
     ·intro j hg3
      obtain ⟨hj1, hj2, hno⟩ := hg3
      have szj : szL ((toks (spl src e)).take j) ≤ (spl src e).length := by
       conv => rhs; rw [← zn, ← List.take_length (l := toks (spl src e))]
       exact szL_take_le hj2
      have hjlen : ((toks (spl src e)).take j).length = j := by rw [List.length_take]; omega
      have gw3 : IntKind.i64.wrap (((szL ((toks (spl src e)).take j) : Nat) : Int) - shE src e) = ((szL ((toks (spl src e)).take j) : Nat) : Int) - shE src e := wrap_id (by omega) (by omega)
      refine qE (a4 y3 y9 qR gw3) ?_
      refine qI (a2 qR gw3) (fun bt81 => ?_) (fun bt81 => ?_)
      ·-- if t81
       have hjl : j < (toks (spl src e)).length := by
        rcases Nat.lt_or_ge j (toks (spl src e)).length with q | q
        ·exact q
        ·rw [List.take_of_length_le q, zn] at bt81; simp at bt81
       obtain ⟨hne, htk1⟩ := tok_at hjl
       have hfs := first_s (s := (spl src e).drop (szL ((toks (spl src e)).take j))) (by rw [List.length_drop]; omega) hne
       have hfb := firstT_bd hne
       obtain ⟨o, ho⟩ : ∃ o, szL ((toks (spl src e)).take j) = o := ⟨_, rfl⟩
       rw [ho] at hne htk1 hfs hfb szj gw3 ⊢
       obtain ⟨n, hn⟩ : ∃ n, (firstT ((spl src e).drop o)).1 = n := ⟨_, rfl⟩
       obtain ⟨kd, hkd⟩ : ∃ kd, (firstT ((spl src e).drop o)).2 = kd := ⟨_, rfl⟩
       rw [hn, hkd] at htk1 hfs
       rw [hn] at hfb
       have hon : o + n ≤ (spl src e).length := by have := hfb.2; rw [List.length_drop] at this; omega
       obtain ⟨x, hx⟩ : ∃ x, ((o : Nat) : Int) - shE src e = x := ⟨_, rfl⟩
       replace gw3 := gw3.trans hx
       have hap : ∀ fresh tl, aappend ⟨true, 2, 24⟩ fresh (H ++ [.row [.int .i64 e.st, .int .i64 e.en, .str e.tx], .buf (toks src).length 1, .buf j 2]) (.slice (((toks (spl src e)).take j).map Tk.enc) (.tok (H.length + 2))) (.slice [(Tk.mk kd (((spl src e).drop o).take n)).enc] tl) = some (.slice (((toks (spl src e)).take (j + 1)).map Tk.enc) (.tok (H.length + 2)), some (H.length + 2, .buf (j + 1) 2)) := fun fresh tl => by
        rw [app_Tk (by rw [hjlen]; omega) fresh _ (by simp [hjlen]), htk1, hjlen]
       have ho1 : ((o : Int) ≤ ((spl src e).length : Int)) = True := by simp; omega
       have ho2 : (o ≤ (spl src e).length) = True := by simp; omega
       have ho3 : ((0 : Int) ≤ (o : Int)) = True := by simp
       have gon : IntKind.i64.wrap ((o : Int) + (n : Int)) = ((o + n : Nat) : Int) := by rw [wrap_id (by omega) (by omega)]; omega
       have ho4 : (((o + n : Nat) : Int) ≤ ((spl src e).length : Int)) = True := by simp; omega
       have ho5 : ((0 : Int) ≤ ((o + n : Nat) : Int)) = True := by simp; omega
       have ho6 : ((o : Int) ≤ ((o + n : Nat) : Int)) = True := by simp; omega
       have ho7 : (o + n ≤ (spl src e).length) = True := by simp; omega
       have ho8 : ((spl src e).take (o + n)).drop o = ((spl src e).drop o).take n := by rw [List.drop_take]; congr 1; omega
       have hso : szL ((toks (spl src e)).take (j + 1)) = o + n := by rw [htk1, szL_snoc, ho, List.length_take]; omega
       refine qK ?_
       refine qB ?_
       refine qT 4 (a3 y3 qR gw3) ?_
       refine aops_callR (by simp only [kC, seval, vint, qC, qR, gw3] <;> with_reducible rfl) (by simp only [kC, seval, vint, qC, qR, gw3]) (by decide) zgo19 (res_c (sz := 1) (id := H.length + 1) (by simp [enI_len]) (by rw [enI_len]; omega) (enI_sorted po)) ?_
       rintro _ _ ⟨rfl, rfl⟩
       refine qX (a2 qR gw3) ?_
       refine gE (a4 y3 y23 qR gw3) ?_
       refine qI (a2 qR gw3) (fun bt96 => ?_) (fun bt96 => ?_)
       ·-- if t96
        simp only [Bool.and_eq_true, decide_eq_true_eq] at bt96
        obtain ⟨hb1, hb2⟩ := bt96
        obtain ⟨i, hi, hei, hsz⟩ := resM_ge po (x := x) hb2
        rw [hei]
        obtain ⟨hr1, hr2⟩ := hE.resume hjl hi (by rw [ho, hx, hen]; exact hb1) (by rw [ho, hx]; exact hsz) (fun k h1 h2 => by rw [hst, ← hg] at h1; exact hno k h1 h2)
        rw [hst, hen, ← hg] at hr2
        have hil : i < (toks src).length := by
         rcases Nat.lt_or_ge i (toks src).length with q | q
         ·exact q
         ·rw [List.take_of_length_le q, zo] at hsz
          have := szL_take_lt pn hjl (Nat.le_refl _)
          rw [ho, List.take_length, zn] at this; omega
        have hi1 : ((0 : Int) ≤ (i : Int)) = True := by simp
        have hi2 : ((i : Int) ≤ ((toks src).length : Int)) = True := by simp; omega
        have hi3 : ((toks src).map Tk.enc).drop i = ((toks src).drop i).map Tk.enc := List.map_drop.symm
        have hi4 : ((toks src).map Tk.enc).take (toks src).length = (toks src).map Tk.enc := List.take_of_length_le (by simp)
        have gw4 : IntKind.i64.wrap ((r : Int) + ((toks src).length : Int)) = (r : Int) + (toks src).length := wrap_id (by omega) (by omega)
        have gw5 : IntKind.i64.wrap ((r : Int) + ((toks src).length : Int) - (i : Int)) = refR (toks src) (toks (spl src e)) e.st e.en (shE src e) := by rw [← hr2, wrap_id (by omega) (by omega)]
        have hap2 : ∀ fresh tl, aappend ⟨true, 2, 24⟩ fresh (H ++ [.row [.int .i64 e.st, .int .i64 e.en, .str e.tx], .buf (toks src).length 1, .buf j 2]) (.slice (((toks (spl src e)).take j).map Tk.enc) (.tok (H.length + 2))) (.slice (((toks src).drop i).map Tk.enc) tl) = some (.slice ((toks (spl src e)).map Tk.enc) (.tok (H.length + 2)), some (H.length + 2, .buf (j + ((toks src).drop i).length) 2)) := fun fresh tl => by
         rw [app_TkL (by intro q; have := congrArg List.length q; simp only [List.length_drop, List.length_nil] at this; omega) (by rw [hjlen, List.length_drop]; omega) fresh _ (by simp [hjlen]), hr1, hjlen]
        refine qL [5, 9, 11, 13, 14, 15, 16, 17, 18] (a2 qR gw3) ?_
        repeat refine wS ?_
        refine eE (by simp only [kA, seval, y3, y24, y32, vint, qC, qR, gw3, gw4, gw5, ga, hi1, hi2, hi3, hi4, hap2, tN, jS, List.length_map] <;> with_reducible rfl) (by decide) ?_
        repeat refine wS ?_
        refine wT ⟨.inr rfl, _, _, (ares_three (.tmp 6) (.tmp 7) (.tmp 8) rfl (ares_tmp1 (by decide)) (ares_tmp1 (by decide)) (ares_tmp1 (by decide))), ?_, (by first | exact (List.append_nil _).symm | rfl)⟩
        first | exact rfl | trace_state
       ·-- else t96
        have hnh : ¬ Edit.Hit (toks src) (toks (spl src e)) e.en.toNat (shE src e) j := by
         rintro ⟨q1, i, hi, q2⟩
         rw [ho, hx, hen] at q1
         rw [ho, hx] at q2
         simp only [Bool.and_eq_false_iff, decide_eq_false_iff_not] at bt96
         rcases bt96 with q | q
         ·omega
         ·exact resM_none q ⟨i, hi, q2⟩
        refine qK ?_
        refine qL [5, 9, 11, 13, 14, 15, 16, 17] (a2 qR gw3) ?_
        repeat refine wS ?_
        refine wR ?_
        refine eT 3 (by simp only [kA, seval, y9, vint, qC, qR, gw3, ho1, ho2, ho3, tN, jS, List.take_length] <;> with_reducible rfl) (by decide) ?_
        refine oP (by simp only [kC, seval, vint, qC, qR, gw3, ho1, ho2, ho3, tN, jS, List.take_length] <;> with_reducible rfl) (by simp only [kC, seval, vint, qC, qR, gw3, ho1, ho2, ho3, tN, jS, List.take_length]) (by decide) zgo20 (hfs _ (hG.app _)) ?_
        refine e_end (by simp only [kA, seval, vint, qC, qR, gw3, ho1, ho2, ho3, tN, jS, List.take_length] <;> with_reducible rfl) (by decide) ?_
        refine qE (a5 y3 y9 y24 y32 (a5 qR gw3 gon ho1 (a5 ho2 ho3 ho4 ho5 (a5 ho6 ho7 ho8 hap (a2 tN jS))))) ?_
        refine qL [5, 9, 11, 13, 14, 15, 16, 17, 19] (a2 qR gw3) ?_
        refine qE (a4 y3 qR gw3 gon) ?_
        try simp only [thenQ, blockQ]
        exact ⟨j + 1, [], by omega, ⟨rfl, rfl, rfl, rfl, rfl, by rw [hso]; rfl, rfl, rfl, trivial⟩, (List.append_nil _).symm, by omega, by omega, fun k h1 h2 => by rcases Nat.lt_or_ge k j with q | q; exact hno k h1 q; have e2 : k = j := (by omega); subst e2; exact hnh⟩
      ·-- else t81
       have hjl : j = (toks (spl src e)).length := by
        rcases Nat.lt_or_ge j (toks (spl src e)).length with q | q
        ·have := szL_take_lt pn q (Nat.le_refl _)
         rw [List.take_length, zn] at this
         have := of_decide_eq_false bt81; omega
        ·omega
       have hfr := hE.fresh (fun k h1 h2 => by rw [hst, ← hg] at h1; exact hno k h1 (by omega))
       rw [hst, hen, ← hg] at hfr
       rw [← hfr, hjl, List.take_length]
       repeat refine wS ?_
       refine awp_exit ?_
       simp only [thenQ, blockQ, reduceIte, Nat.reduceEqDiff, Nat.succ_ne_self, if_true, if_false]
       refine qE (a2 qR gw3) ?_
       repeat refine wS ?_
       refine wT ⟨.inr rfl, _, _, (ares_three (.tmp 6) (.tmp 7) (.tmp 8) rfl (ares_tmp1 (by decide)) (ares_tmp1 (by decide)) (ares_tmp1 (by decide))), ?_, (by first | exact (List.append_nil _).symm | rfl)⟩
       first | exact rfl | trace_state
end Go.Abs
set_option maxRecDepth 4000
namespace Go.Abs
open Go.Proofs
theorem isTok_c (t : St) : PC Tryz.prog 70 [t.enc] (.bool (decide (t.kind ≥ 100))) := by
 refine pc_of (N := 6) Tryz.func70 rfl rfl (by simp) (by simp [St.bel]) (.bool _) ?_
 refine qE (a2 y38 qR) ?_
 refine qE (a3 y3 y38 qR) ?_
 repeat refine wS ?_
 refine wT ⟨.inr rfl, _, rfl, ?_⟩
 first | rfl | trace_state
def sigW : List Tk → Nat
 | [] => 0
 | t :: ts => t.text.length + if trivB t.kind = true then sigW ts else 0
theorem sigW_step {s : List UInt8} (h : s ≠ []) : sigW (toks s) = (firstT s).1 + if trivB (firstT s).2 = true then sigW (toks (s.drop (firstT s).1)) else 0 := by
 rw [toks_step h, sigW]
 have hb := firstT_bd h
 simp only [List.length_take, Nat.min_eq_left hb.2]
theorem sigW_le : ∀ (n : Nat) (s : List UInt8), s.length ≤ n → sigW (toks s) ≤ s.length
 | 0, s, h => by
  obtain rfl : s = [] := List.eq_nil_of_length_eq_zero (by omega)
  rw [toks_nil]; exact Nat.le_refl _
 | n + 1, s, h => by
  by_cases hs : s = []
  ·subst hs; rw [toks_nil]; exact Nat.le_refl _
  ·rw [sigW_step hs]
   have hb := firstT_bd hs
   have := sigW_le n (s.drop (firstT s).1) (by rw [List.length_drop]; omega)
   rw [List.length_drop] at this
   split <;> omega
theorem sigW_c (s : List UInt8) (hs : s.length ≤ 1048576) : PG G0 Tryz.prog 69 [.str s] (vint (sigW (toks s))) := by
 have em : maxLen = 9223372036854775807 := by decide
 refine pg_of (N := 27) Tryz.func69 rfl rfl (by simp) (.int _ _) fun H hG hb' => ?_
 refine qE qR ?_
 refine qE qR ?_
 refine qB ?_
 refine awp_loopS (σ := Nat) (fun (o : Nat) => [(0, .str s), (3, .int .i64 (o : Int))]) (H) (fun (o : Nat) => []) (fun (o : Nat) => s.length - o) (fun (o : Nat) => o ≤ s.length ∧ sigW (toks s) = o + sigW (toks (s.drop o))) (0) ([]) ⟨(by first | rfl | (simp only [jN, seval, vint, qC, qR] <;> first | done | with_reducible rfl)), (by first | rfl | (simp only [jN, seval, vint, qC, qR] <;> first | done | with_reducible rfl)), trivial⟩ (by first | rfl | (simp only [jN, seval, vint, qC, qR] <;> first | done | with_reducible rfl)) (⟨Nat.zero_le _, by simp⟩) (fun _ _ => by first | exact Nat.zero_le _ | (simp only [List.length_append]; omega)) ?_ ?_
 ·exact fun o hg => ⟨by first | exact hbel_nil _ | (simp only [List.append_nil]; assumption) | (refine hbel_app' hb' (by simp) ?_; exact xH), xR⟩
 ·intro o hg
  obtain ⟨ho, hv⟩ := hg
  refine qE (a3 y3 y9 qR) ?_
  refine qI qR (fun bt9 => ?_) (fun bt9 => ?_)
  ·-- if t9
   have hol : o < s.length := by have := of_decide_eq_true bt9; omega
   have hne : s.drop o ≠ [] := by intro q; have := congrArg List.length q; simp only [List.length_drop, List.length_nil] at this; omega
   have hfs := first_s (s := s.drop o) (by rw [List.length_drop]; omega) hne
   have hfb := firstT_bd hne
   have hst := sigW_step hne
   obtain ⟨n, hn⟩ : ∃ n, (firstT (s.drop o)).1 = n := ⟨_, rfl⟩
   obtain ⟨kd, hkd⟩ : ∃ kd, (firstT (s.drop o)).2 = kd := ⟨_, rfl⟩
   rw [hn, hkd] at hfs hst
   rw [hn] at hfb
   have hon : o + n ≤ s.length := by have := hfb.2; rw [List.length_drop] at this; omega
   have ho1 : ((o : Int) ≤ (s.length : Int)) = True := by simp; omega
   have ho2 : ((0 : Int) ≤ (o : Int)) = True := by simp
   have gon : IntKind.i64.wrap ((o : Int) + (n : Int)) = ((o + n : Nat) : Int) := by rw [wrap_id (by omega) (by omega)]; omega
   rw [List.drop_drop] at hst
   refine qK ?_
   refine qB ?_
   repeat refine wS ?_
   refine wR ?_
   refine eT 3 (by simp only [kA, seval, y9, vint, qC, qR, ho1, ho2, tN, jS, List.take_length] <;> with_reducible rfl) (by decide) ?_
   refine oP (by simp only [kC, seval, vint, qC, qR, ho1, ho2, tN, jS, List.take_length] <;> with_reducible rfl) (by simp only [kC, seval, vint, qC, qR, ho1, ho2, tN, jS, List.take_length]) (by decide) zgo20 (hfs _ hG) ?_
   refine e_end (by simp only [kA, seval, vint, qC, qR, ho1, ho2, tN, jS, List.take_length] <;> with_reducible rfl) (by decide) ?_
   refine qE (a3 y3 qR gon) ?_
   refine qL [0, 3, 5] qR ?_
   refine gE (a2 y3 qR) ?_
   refine qI qR (fun bt25 => ?_) (fun bt25 => ?_)
   ·-- if t25
    have htr : trivB kd = false := by
     simp only [Bool.and_eq_true, Bool.not_eq_true', decide_eq_false_iff_not, decide_eq_true_eq] at bt25
     unfold trivB; simp only [Bool.or_eq_false_iff, decide_eq_false_iff_not]; exact bt25
    rw [if_neg (by rw [htr]; simp)] at hst
    have hv2 : sigW (toks s) = o + n := by rw [hv, hst]; omega
    rw [hv2]
    repeat refine wS ?_
    refine awp_exit ?_
    simp only [thenQ, blockQ, reduceIte, Nat.reduceEqDiff, Nat.succ_ne_self, if_true, if_false]
    refine qE qR ?_
    repeat refine wS ?_
    refine wT ⟨.inr rfl, _, _, rfl, ?_, (by first | exact (List.append_nil _).symm | rfl)⟩
    first | rfl | trace_state
   ·-- else t25
    have htr : trivB kd = true := by
     unfold trivB
     simp only [Bool.and_eq_false_iff, Bool.not_eq_false', decide_eq_true_eq] at bt25
     simp only [Bool.or_eq_true, decide_eq_true_eq]
     exact bt25
    rw [if_pos htr] at hst
    refine qK ?_
    try simp only [thenQ, blockQ]
    exact ⟨o + n, [], by omega, ⟨rfl, rfl, trivial⟩, by simp, by omega, by rw [hv, hst]; omega⟩
  ·-- else t9
   have hol : o = s.length := by have := of_decide_eq_false bt9; omega
   rw [hol, List.drop_length, toks_nil] at hv
   rw [hv, hol]
   repeat refine wS ?_
   refine awp_exit ?_
   simp only [thenQ, blockQ, reduceIte, Nat.reduceEqDiff, Nat.succ_ne_self, if_true, if_false]
   refine qE qR ?_
   repeat refine wS ?_
   refine wT ⟨.inr rfl, _, _, rfl, ?_, (by first | exact (List.append_nil _).symm | rfl)⟩
   first | rfl | trace_state
theorem ch_le (t : St) : t.ch.length < t.size := by
 cases t with
 | mk k x ch =>
  simp only [St.size, St.ch]
  have : ∀ l : List St, l.length ≤ stSizes l := by
   intro l; induction l with
   | nil => exact Nat.le_refl _
   | cons u us ih =>
    have hu : 1 ≤ u.size := by cases u; simp [St.size]
    simp only [List.length_cons, stSizes]; omega
  have := this ch; omega
theorem eqF (us : List St) (f : FuncId) (hgo : goFn Tryz.prog f = true) (ha : us.length ≤ maxLen) (hf : ∀ a ∈ us, PC Tryz.prog f [a.enc, a.enc] (.bool true)) : PC Tryz.prog 67 [.slice (us.map St.enc) .none, .slice (us.map St.enc) .none, .fn (.func f) [] []] (.bool true) := by
 refine pc_of (N := 32) Tryz.func67 rfl rfl (by simp) (by simp [bel_St, St.bel, bel_fn0]) (.bool _) ?_
 repeat refine wS ?_
 refine eE (by simp only [kA, seval, vint, qC, qR, decide_true, Bool.not_true, Bool.or_false, Bool.or_self, Bool.and_self] <;> with_reducible rfl) (by decide) ?_
 repeat refine wS ?_
 refine eE (by simp only [kA, seval, y3, y36, y38, vint, qC, qR, decide_true, Bool.not_true, Bool.or_false, Bool.or_self, Bool.and_self] <;> with_reducible rfl) (by decide) ?_
 repeat refine wS ?_
 refine wF rfl (by simp only [jN, seval, vint, qC, qR, decide_true, Bool.not_true, Bool.or_false, Bool.or_self, Bool.and_self] <;> with_reducible rfl) ?_
 refine qK ?_
 repeat refine wS ?_
 refine eE (by simp only [kA, seval, y36, y38, vint, qC, qR, decide_true, Bool.not_true, Bool.or_false, Bool.or_self, Bool.and_self] <;> with_reducible rfl) (by decide) ?_
 repeat refine wS ?_
 refine awp_forS (σ := Unit) (us.length) (fun (s : Unit) => [(1, .slice (us.map St.enc) .none), (2, .fn (.func f) [] []), (15, .slice (us.map St.enc) .none)]) [1, 2, 15] ([]) (fun (s : Unit) => []) (fun (i : Nat) (s : Unit) => True) (()) ([]) rfl rfl rfl rfl rfl rfl rfl rfl rfl (by decide) (by decide) (by decide) (fun _ => rfl) (ha) ⟨(by first | rfl | (simp only [jN, seval, vint, qC, qR, decide_true, Bool.not_true, Bool.or_false, Bool.or_self, Bool.and_self] <;> first | done | with_reducible rfl)), (by first | rfl | (simp only [jN, seval, vint, qC, qR, decide_true, Bool.not_true, Bool.or_false, Bool.or_self, Bool.and_self] <;> first | done | with_reducible rfl)), (by first | rfl | (simp only [jN, seval, vint, qC, qR, decide_true, Bool.not_true, Bool.or_false, Bool.or_self, Bool.and_self] <;> first | done | with_reducible rfl)), (by first | rfl | (simp only [jN, seval, vint, qC, qR, decide_true, Bool.not_true, Bool.or_false, Bool.or_self, Bool.and_self] <;> first | done | with_reducible rfl)), (by first | rfl | (simp only [jN, seval, vint, qC, qR, decide_true, Bool.not_true, Bool.or_false, Bool.or_self, Bool.and_self] <;> first | done | with_reducible rfl)), trivial⟩ (by first | rfl | (simp only [jN, seval, vint, qC, qR, decide_true, Bool.not_true, Bool.or_false, Bool.or_self, Bool.and_self] <;> first | done | with_reducible rfl)) (by simp) (fun _ _ _ => by first | exact Nat.zero_le _ | (simp only [List.length_append]; omega)) ?_ ?_ ?_
 ·exact fun i s hg => ⟨by first | exact hbel_nil _ | (simp only [List.append_nil]; assumption) | (refine hbel_app' hb' (by simp) ?_; exact xH), xR⟩
 ·intro i s hi hg
  have g1 := ix_nat hi
  have g2 := get_enc St.enc hi
  repeat refine wS ?_
  refine eE (by simp only [kA, seval, y36, y38, vint, qC, qR, decide_true, Bool.not_true, Bool.or_false, Bool.or_self, Bool.and_self, g1, tN, g2] <;> with_reducible rfl) (by decide) ?_
  repeat refine wS ?_
  refine eE (by simp only [kA, seval, y36, y38, vint, qC, qR, decide_true, Bool.not_true, Bool.or_false, Bool.or_self, Bool.and_self, g1, tN, g2] <;> with_reducible rfl) (by decide) ?_
  repeat refine wS ?_
  refine wR ?_
  refine eT 3 (by simp only [kA, seval, y38, vint, qC, qR, decide_true, Bool.not_true, Bool.or_false, Bool.or_self, Bool.and_self, g1, tN, g2] <;> with_reducible rfl) (by decide) ?_
  refine oP (by simp only [kC, seval, vint, qC, qR, decide_true, Bool.not_true, Bool.or_false, Bool.or_self, Bool.and_self, g1, tN, g2] <;> with_reducible rfl) (by simp only [kC, seval, vint, qC, qR, decide_true, Bool.not_true, Bool.or_false, Bool.or_self, Bool.and_self, g1, tN, g2]) (by decide) (by assumption) (hf us[i] (List.getElem_mem hi) _) ?_
  refine e_end (by simp only [kA, seval, vint, qC, qR, decide_true, Bool.not_true, Bool.or_false, Bool.or_self, Bool.and_self, g1, tN, g2] <;> with_reducible rfl) (by decide) ?_
  repeat refine wS ?_
  refine wF rfl (by simp only [jN, seval, vint, qC, qR, decide_true, Bool.not_true, Bool.or_false, Bool.or_self, Bool.and_self, g1, tN, g2] <;> with_reducible rfl) ?_
  refine qK ?_
  exact ⟨⟨rfl, rfl, trivial⟩, (), _, ⟨rfl, rfl, rfl, trivial⟩, rfl, trivial⟩
 ·intro s hg
  repeat refine wS ?_
  refine eE (by simp only [kA, seval, vint, qC, qR, decide_true, Bool.not_true, Bool.or_false, Bool.or_self, Bool.and_self] <;> with_reducible rfl) (by decide) ?_
  repeat refine wS ?_
  refine wT ⟨.inr rfl, _, rfl, ?_⟩
  first | rfl | trace_state
theorem eqT : ∀ (k : Nat) (t : St), t.size ≤ k → k ≤ 1048576 → PC Tryz.prog 27 [t.enc, t.enc] (.bool true)
 | 0, t, h, _ => by cases t; simp [St.size] at h
 | k + 1, t, h, hk => by
  have em : maxLen = 9223372036854775807 := by decide
  have hcl := ch_le t
  have ih := eqF t.ch 27 zgo27 (by omega) (fun a ha => eqT k a (by have := St.size_ch ha; omega) (by omega))
  refine pc_of (N := 24) Tryz.func27 rfl rfl (by simp) (by simp [bel_St, St.bel, bel_fn0]) (.bool _) ?_
  repeat refine wS ?_
  refine eE (by simp only [kA, seval, y38, vint, qC, qR, decide_true, Bool.not_true, Bool.or_false, Bool.or_self, Bool.and_self] <;> with_reducible rfl) (by decide) ?_
  repeat refine wS ?_
  refine wR ?_
  refine aops_gstart ?_
  refine g_take 17 (by simp only [jG, jO, jN, seval, y3, y9, y36, y38, vint, qC, qR, decide_true, Bool.not_true, Bool.or_false, Bool.or_self, Bool.and_self] <;> with_reducible rfl) (by decide) ?_
  refine aops_gpure (by simp only [kE, seval, vint, qC, qR, decide_true, Bool.not_true, Bool.or_false, Bool.or_self, Bool.and_self] <;> with_reducible rfl) (by simp only [kE, seval, vint, qC, qR, decide_true, Bool.not_true, Bool.or_false, Bool.or_self, Bool.and_self] <;> with_reducible rfl) (by simp only [kE, seval, vint, qC, qR, decide_true, Bool.not_true, Bool.or_false, Bool.or_self, Bool.and_self]) (by decide) zgo67 (fun hc => ih _) ?_
  refine g_end (by simp only [jG, jO, jN, seval, vint, qC, qR, decide_true, Bool.not_true, Bool.or_false, Bool.or_self, Bool.and_self] <;> with_reducible rfl) (by decide) (by repeat (first | exact Fin.base _ | with_reducible apply Fin.keep | apply Fin.drop)) ?_
  repeat refine wS ?_
  refine wT ⟨.inr rfl, _, rfl, ?_⟩
  first | rfl | trace_state
theorem sameT : ∀ (k : Nat) (t : St), t.size ≤ k → k ≤ 1048576 → PC Tryz.prog 12 [t.enc, t.enc] (.bool true)
 | 0, t, h, _ => by cases t; simp [St.size] at h
 | k + 1, t, h, hk => by
  have em : maxLen = 9223372036854775807 := by decide
  have hcl := ch_le t
  refine pc_of (N := 46) Tryz.func12 rfl rfl (by simp) (by simp [bel_St, St.bel, bel_fn0]) (.bool _) ?_
  repeat refine wS ?_
  refine eE (by simp only [kA, seval, y38, vint, qC, qR, decide_true, Bool.not_true, Bool.or_false, Bool.or_self, Bool.and_self] <;> with_reducible rfl) (by decide) ?_
  repeat refine wS ?_
  refine g_eval (by simp only [jG, jO, jN, seval, y3, y9, y36, y38, vint, qC, qR, decide_true, Bool.not_true, Bool.or_false, Bool.or_self, Bool.and_self] <;> with_reducible rfl) (by decide) (by repeat (first | exact Fin.base _ | with_reducible apply Fin.keep | apply Fin.drop)) ?_
  repeat refine wS ?_
  refine wF rfl (by simp only [jN, seval, vint, qC, qR, decide_true, Bool.not_true, Bool.or_false, Bool.or_self, Bool.and_self] <;> with_reducible rfl) ?_
  refine qK ?_
  refine wL [2, 3] (by simp only [jN, seval, vint, qC, qR, decide_true, Bool.not_true, Bool.or_false, Bool.or_self, Bool.and_self] <;> with_reducible rfl) ?_
  repeat refine wS ?_
  refine eE (by simp only [kA, seval, y36, y38, vint, qC, qR, decide_true, Bool.not_true, Bool.or_false, Bool.or_self, Bool.and_self] <;> with_reducible rfl) (by decide) ?_
  repeat refine wS ?_
  refine awp_forS (σ := Unit) (t.ch.length) (fun (u_ : Unit) => [(2, .optr 0 0), (3, .optr 1 0)]) [2, 3] ([]) (fun (u_ : Unit) => [.row t.enc.cells, .row t.enc.cells]) (fun (i : Nat) (u_ : Unit) => True) (()) ([]) rfl rfl rfl rfl rfl rfl rfl rfl rfl (by decide) (by decide) (by decide) (fun _ => rfl) (by omega) ⟨(by first | rfl | (simp only [jN, seval, vint, qC, qR, decide_true, Bool.not_true, Bool.or_false, Bool.or_self, Bool.and_self] <;> first | done | with_reducible rfl)), (by first | rfl | (simp only [jN, seval, vint, qC, qR, decide_true, Bool.not_true, Bool.or_false, Bool.or_self, Bool.and_self] <;> first | done | with_reducible rfl)), (by first | rfl | (simp only [jN, seval, vint, qC, qR, decide_true, Bool.not_true, Bool.or_false, Bool.or_self, Bool.and_self] <;> first | done | with_reducible rfl)), (by first | rfl | (simp only [jN, seval, vint, qC, qR, decide_true, Bool.not_true, Bool.or_false, Bool.or_self, Bool.and_self] <;> first | done | with_reducible rfl)), trivial⟩ (by first | rfl | (simp only [jN, seval, vint, qC, qR, decide_true, Bool.not_true, Bool.or_false, Bool.or_self, Bool.and_self] <;> first | done | with_reducible rfl)) (by simp) (fun _ _ _ => by first | exact Nat.zero_le _ | (simp only [List.length_append]; omega)) ?_ ?_ ?_
  ·intro i u_ hg
   refine ⟨?_, xR⟩
   simp only [List.nil_append, StS]
   exact xH
  ·intro i u_ hi hg
   have g1 := ix_nat hi
   have g2 := get_enc St.enc hi
   have hsz := St.size_ch (List.getElem_mem hi)
   obtain ⟨m, hme⟩ : ∃ m, t.ch[i] = m := ⟨_, rfl⟩
   rw [hme] at g2 hsz
   repeat refine wS ?_
   refine eE (by simp only [kA, seval, vint, qC, qR, decide_true, Bool.not_true, Bool.or_false, Bool.or_self, Bool.and_self, g1, g2, tN] <;> with_reducible rfl) (by decide) ?_
   repeat refine wS ?_
   refine dp_draw (by kernel_rfl) ?_
   refine dp_take 10 (by simp only [jP, jO, jN, seval, y36, y38, vint, qC, qR, decide_true, Bool.not_true, Bool.or_false, Bool.or_self, Bool.and_self, g1, g2, tN] <;> with_reducible rfl) (by decide) ?_
   refine dp_keep (by simp only [kE, seval, vint, qC, qR, decide_true, Bool.not_true, Bool.or_false, Bool.or_self, Bool.and_self, g1, g2, tN] <;> with_reducible rfl) (by simp only [kE, seval, vint, qC, qR, decide_true, Bool.not_true, Bool.or_false, Bool.or_self, Bool.and_self, g1, g2, tN] <;> with_reducible rfl) (by simp only [kE, seval, vint, qC, qR, decide_true, Bool.not_true, Bool.or_false, Bool.or_self, Bool.and_self, g1, g2, tN]) (by decide) zgo12 (fun hc => sameT k m (by omega) (by omega) _) ?_
   refine dp_end (by simp only [jP, jO, jN, seval, vint, qC, qR, decide_true, Bool.not_true, Bool.or_false, Bool.or_self, Bool.and_self, g1, g2, tN] <;> with_reducible rfl) (by decide) (by repeat (first | exact Fin.base _ | with_reducible apply Fin.keep | apply Fin.drop)) ?_
   repeat refine wS ?_
   refine wF rfl (by simp only [jN, seval, vint, qC, qR, decide_true, Bool.not_true, Bool.or_false, Bool.or_self, Bool.and_self, g1, g2, tN] <;> with_reducible rfl) ?_
   refine qK ?_
   exact ⟨⟨rfl, rfl, trivial⟩, (), _, ⟨rfl, rfl, trivial⟩, by simp only [jN, seval, vint, qC, qR] <;> rfl, trivial⟩
  ·intro u_ hg
   repeat refine wS ?_
   refine eE (by simp only [kA, seval, vint, qC, qR, decide_true, Bool.not_true, Bool.or_false, Bool.or_self, Bool.and_self] <;> with_reducible rfl) (by decide) ?_
   repeat refine wS ?_
   refine wT ⟨.inr rfl, _, rfl, ?_⟩
   simp only [jN, seval, vint, qC, qR]
def skipO : List Tk → Int → Option (List Tk)
 | ts, o => if o ≤ 0 then some ts else match ts with
  | [] => none
  | t :: ts => skipO ts (o - t.text.length)
theorem skip_c (ts ts' : List Tk) (o : Int) (ho : o ≤ 1048576) (ht : ∀ t ∈ ts, t.text.length ≤ 1048576) (hm : skipO ts o = some ts') : PC Tryz.prog 31 [.slice (ts.map Tk.enc) .none, vint o] (.slice (ts'.map Tk.enc) .none) := by
 have em : maxLen = 9223372036854775807 := by decide
 refine pc_of (N := 17) Tryz.func31 rfl rfl (by simp) (by simp [Bel.int, Bel.str, bel_Tk, bel_ints0, Ed.bel, bel_St, St.bel]) (bel_Tk _ _) ?_
 refine qE qR ?_
 refine qB ?_
 refine awp_loopS (σ := List Tk × Int) (fun (q : List Tk × Int) => [(0, .slice (q.1.map Tk.enc) .none), (1, vint q.2)]) ([]) (fun (q : List Tk × Int) => []) (fun (q : List Tk × Int) => q.1.length) (fun (q : List Tk × Int) => skipO q.1 q.2 = some ts' ∧ q.2 ≤ 1048576 ∧ ∀ t ∈ q.1, t.text.length ≤ 1048576) ((ts, o)) ([]) ⟨(by first | rfl | (simp only [jN, seval, vint, qC, qR] <;> first | done | with_reducible rfl)), (by first | rfl | (simp only [jN, seval, vint, qC, qR] <;> first | done | with_reducible rfl)), trivial⟩ (by first | rfl | (simp only [jN, seval, vint, qC, qR] <;> first | done | with_reducible rfl)) (⟨hm, ho, ht⟩) (fun _ _ => by first | exact Nat.zero_le _ | (simp only [List.length_append]; omega)) ?_ ?_
 ·exact fun q hg => ⟨by first | exact hbel_nil _ | (simp only [List.append_nil]; assumption) | (refine hbel_app' hb' (by simp) ?_; exact xH), xR⟩
 ·intro q hg
  obtain ⟨us, v⟩ := q
  obtain ⟨hq, hv, hu⟩ := hg
  simp only at hq hv hu
  refine qE (a2 y3 qR) ?_
  refine qI qR (fun bt6 => ?_) (fun bt6 => ?_)
  ·-- if t6
   have hv0 := of_decide_eq_true bt6
   cases us with
   | nil => unfold skipO at hq; rw [if_neg (by omega)] at hq; cases hq
   | cons u us => ?_
   have hu1 := hu u List.mem_cons_self
   unfold skipO at hq
   rw [if_neg (by omega)] at hq
   simp only at hq
   have g1 : ((0 : Int) < ((us.length + 1 : Nat) : Int)) = True := eq_true (by omega)
   have gw : IntKind.i64.wrap (v - (u.text.length : Int)) = v - u.text.length := wrap_id (by omega) (by omega)
   have h1 : ((1 : Int) ≤ ((us.length + 1 : Nat) : Int)) = True := eq_true (by omega)
   have ga : (∀ (q : PV), q ∈ u.enc :: List.map Tk.enc us → q.cells.length = 2) = True := eq_true fun q hq => by
    rcases List.mem_cons.1 hq with rfl | hq
    ·exact u.enc_len
    ·obtain ⟨v, _, rfl⟩ := List.mem_map.1 hq; exact v.enc_len
   have h2 : List.take us.length (us.map Tk.enc) = us.map Tk.enc := List.take_of_length_le (by simp)
   refine qK ?_
   refine qB ?_
   repeat refine wS ?_
   refine eE (by simp only [kA, seval, y3, y9, y24, y32, vint, qC, qR, g1, gw, List.getElem?_cons_zero] <;> with_reducible rfl) (by decide) ?_
   repeat refine wS ?_
   refine eE (by simp only [kA, seval, y24, y32, vint, qC, qR, h1, h2, ga, if_true, jS, List.take_length] <;> with_reducible rfl) (by decide) ?_
   try simp only [thenQ, blockQ]
   exact ⟨(us, v - u.text.length), [], by simp, ⟨rfl, rfl, trivial⟩, rfl, hq, by simp only; omega, fun t h => hu t (List.mem_cons_of_mem _ h)⟩
  ·-- else t6
   have hv0 := of_decide_eq_false bt6
   unfold skipO at hq
   rw [if_pos (by omega)] at hq
   injection hq with hq
   subst hq
   repeat refine wS ?_
   refine awp_exit ?_
   simp only [thenQ, blockQ, reduceIte, Nat.reduceEqDiff, Nat.succ_ne_self, if_true, if_false]
   refine qE qR ?_
   repeat refine wS ?_
   refine wT ⟨.inr rfl, _, rfl, ?_⟩
   first | rfl | trace_state
end Go.Abs
set_option maxRecDepth 4000
namespace Go.Abs
open Go.Proofs
def lkE (src : List UInt8) (e : Nat) : Nat → Nat
 | 0 => e
 | k + 1 => lkE src e k + sigW (toks (src.drop (lkE src e k)))
theorem lkE_le {src : List UInt8} {e : Nat} (h : e ≤ src.length) : ∀ k, lkE src e k ≤ src.length
 | 0 => h
 | k + 1 => by
  have h1 := lkE_le h k
  have := sigW_le _ (src.drop (lkE src e k)) (Nat.le_refl _)
  rw [List.length_drop] at this
  simp only [lkE]; omega
def szC : List St → Nat
 | [] => 0
 | t :: ts => (srcB t).length + szC ts
def fcL (src : List UInt8) : List St → Nat → List Cd
 | [], _ => []
 | t :: ts, o => ⟨t, o, (o + (srcB t).length : Nat), (lkE src (o + (srcB t).length) 2 : Nat)⟩ :: fcL src ts (o + (srcB t).length)
theorem szC_app : ∀ a b, szC (a ++ b) = szC a + szC b
 | [], b => by simp [szC]
 | t :: a, b => by simp only [List.cons_append, szC, szC_app a b]; omega
theorem szC_take_le {ts : List St} {i : Nat} : szC (ts.take i) ≤ szC ts := by
 conv => rhs; rw [← List.take_append_drop i ts, szC_app]
 omega
theorem fcL_snoc (src : List UInt8) : ∀ (a : List St) (t : St) (o : Nat), fcL src (a ++ [t]) o = fcL src a o ++ [⟨t, (o + szC a : Nat), (o + szC a + (srcB t).length : Nat), (lkE src (o + szC a + (srcB t).length) 2 : Nat)⟩]
 | [], t, o => by simp [fcL, szC]
 | x :: a, t, o => by
  simp only [List.cons_append, fcL, fcL_snoc src a t, szC]
  rw [show o + (srcB x).length + szC a = o + ((srcB x).length + szC a) by omega]
theorem fcL_len (src : List UInt8) : ∀ (a : List St) (o : Nat), (fcL src a o).length = a.length
 | [], o => rfl
 | x :: a, o => by simp [fcL, fcL_len src a]
theorem fc_c (src : List UInt8) (t : St) (hs : src.length ≤ 1048576) (hc : t.ch.length ≤ 1048576) (hz : szC t.ch ≤ src.length) : PG G0 Tryz.prog 28 [.str src, t.enc] (.slice ((fcL src t.ch 0).map Cd.enc) .none) := by
 have em : maxLen = 9223372036854775807 := by decide
 refine pg_of (N := 44) Tryz.func28 rfl rfl (by simp) (bel_Cd _ _) fun H hG hb' => ?_
 refine qE (a2 y38 qR) ?_
 refine qE qR ?_
 refine qE qR ?_
 refine qE (a3 y36 y38 qR) ?_
 repeat refine wS ?_
 refine awp_retok 5 6 (es := []) (by simp only [kC, seval, vint, qC, qR] <;> rfl) ?_
 refine awp_forS (σ := List Cd × Nat) (t.ch.length) (fun (q : List Cd × Nat) => [(0, .str src), (3, .optr H.length 0), (5, .slice (q.1.map Cd.enc) (.tok (H.length + 1))), (6, .int .i64 (q.2 : Int)), (12, .slice (t.ch.map St.enc) .none)]) [0, 3, 5, 6, 12] (H) (fun (q : List Cd × Nat) => [.row [.int .i64 t.kind, .str t.text, .slice (t.ch.map St.enc) .none], .buf q.1.length 6]) (fun (i : Nat) (q : List Cd × Nat) => q = (fcL src (t.ch.take i) 0, szC (t.ch.take i))) (([], 0)) ([]) rfl rfl rfl rfl rfl rfl rfl rfl rfl (by decide) (by decide) (by decide) (fun _ => rfl) (by omega) ⟨(by first | rfl | (simp only [jN, seval, vint, qC, qR] <;> first | done | with_reducible rfl)), (by first | rfl | (simp only [jN, seval, vint, qC, qR] <;> first | done | with_reducible rfl)), (by first | rfl | (simp only [jN, seval, vint, qC, qR] <;> first | done | with_reducible rfl)), (by first | rfl | (simp only [jN, seval, vint, qC, qR] <;> first | done | with_reducible rfl)), (by first | rfl | (simp only [jN, seval, vint, qC, qR] <;> first | done | with_reducible rfl)), (by first | rfl | (simp only [jN, seval, vint, qC, qR] <;> first | done | with_reducible rfl)), (by first | rfl | (simp only [jN, seval, vint, qC, qR] <;> first | done | with_reducible rfl)), trivial⟩ (by first | rfl | (simp only [jN, seval, vint, qC, qR] <;> first | done | with_reducible rfl)) (rfl) (fun _ _ _ => by first | exact Nat.zero_le _ | (simp only [List.length_append]; omega)) ?_ ?_ ?_
 ·exact fun i q hg => ⟨by first | exact hbel_nil _ | (simp only [List.append_nil]; assumption) | (refine hbel_app' hb' (by simp) ?_; repeat (first | exact hbel_nil _ | exact trivial | exact obel_row_nil _ | (refine HBel.cons ?_ ?_) | (refine obel_row_cons (by first | exact bel_Cd_tok _ (by simp) | exact bel_Cd_tok _ (by simp only [List.length_append, List.length_cons, List.length_nil]; omega) | exact bel_ints _ _ _ (fun _ h => by cases h; first | (simp; done) | (simp; omega)) | exact Tk.bel _ _ | exact St.bel _ _ | exact Ed.bel _ _ | exact Cd.bel _ _ | exact bel_strs0 _ _ | exact bel_St _ _ | exact bel_Tk _ _ | exact bel_Cd _ _ | exact bel_ints0 _ _ | exact bel_nil0 _ | exact bel_nil1 _ | exact Bel.optr _ _ (by first | (simp; done) | (simp; omega)) | exact Bel.int _ _ | exact Bel.bool _ | exact Bel.str _ | exact Bel.nilp | exact Bel.nilfn | exact Bel.optr _ _ (by simp) | exact bel_nil0 _ | exact bel_nil1 _ | exact bel_fn0 _ _ | assumption) ?_))), by repeat (first | exact BelL.nil | refine BelL.cons (by first | exact bel_Cd_tok _ (by simp) | exact bel_Cd_tok _ (by simp only [List.length_append, List.length_cons, List.length_nil]; omega) | exact bel_ints _ _ _ (fun _ h => by cases h; first | (simp; done) | (simp; omega)) | exact Tk.bel _ _ | exact St.bel _ _ | exact Ed.bel _ _ | exact Cd.bel _ _ | exact bel_strs0 _ _ | exact bel_St _ _ | exact bel_Tk _ _ | exact bel_Cd _ _ | exact bel_ints0 _ _ | exact bel_nil0 _ | exact bel_nil1 _ | exact Bel.optr _ _ (by first | (simp; done) | (simp; omega)) | exact Bel.int _ _ | exact Bel.bool _ | exact Bel.str _ | exact Bel.nilp | exact Bel.nilfn | exact Bel.optr _ _ (by simp) | exact bel_nil0 _ | exact bel_nil1 _ | exact bel_fn0 _ _ | assumption) ?_)⟩
 ·intro i q hi hg
  have g1 := ix_nat hi
  have g2 := get_enc St.enc hi
  have hsl := szC_take_le (ts := t.ch) (i := i + 1)
  have hsn : t.ch.take (i + 1) = t.ch.take i ++ [t.ch[i]] := by rw [List.take_add_one, List.getElem?_eq_getElem hi]; rfl
  have hfs := fcL_snoc src (t.ch.take i) t.ch[i] 0
  rw [← hsn] at hfs
  rw [hsn, szC_app] at hsl
  simp only [szC, Nat.add_zero, Nat.zero_add] at hsl hfs
  have hql : q.1.length = i := by rw [hg]; simp only [fcL_len, List.length_take]; omega
  have hq2 : q.2 = szC (t.ch.take i) := by rw [hg]
  have hsz2 : szC (t.ch.take (i + 1)) = q.2 + (srcB t.ch[i]).length := by rw [hsn, szC_app, hq2]; simp [szC]
  obtain ⟨u, hu⟩ : ∃ u, t.ch[i] = u := ⟨_, rfl⟩
  rw [hu] at g2 hsl hfs hsz2
  rw [← hq2] at hfs hsl
  obtain ⟨e, he⟩ : ∃ e, q.2 + (srcB u).length = e := ⟨_, rfl⟩
  rw [he] at hsl hfs hsz2
  have gwe : IntKind.i64.wrap ((q.2 : Int) + ((srcB u).length : Int)) = ((e : Nat) : Int) := by rw [wrap_id (by omega) (by omega)]; omega
  have hq1 : q.1 = fcL src (t.ch.take i) 0 := by rw [hg]
  rw [← hq1] at hfs
  have hlk := lkE_le (src := src) (e := e) (by omega)
  have hap := app_Cd (us := q.1) (u := ⟨u, (q.2 : Int), (e : Int), (lkE src e 2 : Nat)⟩) (id := H.length + 1) (tl := .full) (by omega)
  refine qE (a5 y36 y38 qR g1 (a3 g2 tN gwe)) ?_
  refine qT 2 (a5 y38 qR g1 g2 (a2 tN gwe)) ?_
  refine qP (a5 qR g1 g2 tN gwe) zgo68 (src_c u (by omega)) ?_
  refine qX (a5 y3 y9 qR g1 (a3 g2 tN gwe)) ?_
  refine qE (a5 qR g1 g2 tN gwe) ?_
  refine qE (a5 qR g1 g2 tN gwe) ?_
  refine qB ?_
  refine awp_loopS (σ := Nat × Nat) (fun (z : Nat × Nat) => [(0, .str src), (3, .optr H.length 0), (5, .slice (q.1.map Cd.enc) (.tok (H.length + 1))), (6, .int .i64 (q.2 : Int)), (12, .slice (t.ch.map St.enc) .none), (13, .int .i64 (t.ch.length : Int)), (14, .int .i64 (i : Int)), (8, .optr (H.length + 2) 0), (9, .int .i64 (e : Int)), (24, .int .i64 (z.1 : Int)), (10, .int .i64 (z.2 : Int))]) (H) (fun (z : Nat × Nat) => [.row [.int .i64 t.kind, .str t.text, .slice (t.ch.map St.enc) .none], .buf q.1.length 6, .row [.int .i64 u.kind, .str u.text, .slice (u.ch.map St.enc) .none]]) (fun (z : Nat × Nat) => 2 - z.1) (fun (z : Nat × Nat) => z.1 ≤ 2 ∧ z.2 = lkE src e z.1) ((0, e)) ([]) ⟨(by first | rfl | (simp only [jN, seval, vint, qC, qR, g1, g2, tN, gwe] <;> first | done | with_reducible rfl)), (by first | rfl | (simp only [jN, seval, vint, qC, qR, g1, g2, tN, gwe] <;> first | done | with_reducible rfl)), (by first | rfl | (simp only [jN, seval, vint, qC, qR, g1, g2, tN, gwe] <;> first | done | with_reducible rfl)), (by first | rfl | (simp only [jN, seval, vint, qC, qR, g1, g2, tN, gwe] <;> first | done | with_reducible rfl)), (by first | rfl | (simp only [jN, seval, vint, qC, qR, g1, g2, tN, gwe] <;> first | done | with_reducible rfl)), (by first | rfl | (simp only [jN, seval, vint, qC, qR, g1, g2, tN, gwe] <;> first | done | with_reducible rfl)), (by first | rfl | (simp only [jN, seval, vint, qC, qR, g1, g2, tN, gwe] <;> first | done | with_reducible rfl)), (by first | rfl | (simp only [jN, seval, vint, qC, qR, g1, g2, tN, gwe] <;> first | done | with_reducible rfl)), (by first | rfl | (simp only [jN, seval, vint, qC, qR, g1, g2, tN, gwe] <;> first | done | with_reducible rfl)), (by first | rfl | (simp only [jN, seval, vint, qC, qR, g1, g2, tN, gwe] <;> first | done | with_reducible rfl)), (by first | rfl | (simp only [jN, seval, vint, qC, qR, g1, g2, tN, gwe] <;> first | done | with_reducible rfl)), trivial⟩ (by first | rfl | (simp only [jN, seval, vint, qC, qR, g1, g2, tN, gwe] <;> first | done | with_reducible rfl)) (⟨Nat.zero_le _, rfl⟩) (fun _ _ => by first | exact Nat.zero_le _ | (simp only [List.length_append]; omega)) ?_ ?_
  ·exact fun z hgz => ⟨by first | exact hbel_nil _ | (simp only [List.append_nil]; assumption) | (refine hbel_app' hb' (by simp) ?_; repeat (first | exact hbel_nil _ | exact trivial | exact obel_row_nil _ | (refine HBel.cons ?_ ?_) | (refine obel_row_cons (by first | exact bel_Cd_tok _ (by simp) | exact bel_Cd_tok _ (by simp only [List.length_append, List.length_cons, List.length_nil]; omega) | exact bel_ints _ _ _ (fun _ h => by cases h; first | (simp; done) | (simp; omega)) | exact Tk.bel _ _ | exact St.bel _ _ | exact Ed.bel _ _ | exact Cd.bel _ _ | exact bel_strs0 _ _ | exact bel_St _ _ | exact bel_Tk _ _ | exact bel_Cd _ _ | exact bel_ints0 _ _ | exact bel_nil0 _ | exact bel_nil1 _ | exact Bel.optr _ _ (by first | (simp; done) | (simp; omega)) | exact Bel.int _ _ | exact Bel.bool _ | exact Bel.str _ | exact Bel.nilp | exact Bel.nilfn | exact Bel.optr _ _ (by simp) | exact bel_nil0 _ | exact bel_nil1 _ | exact bel_fn0 _ _ | assumption) ?_))), by repeat (first | exact BelL.nil | refine BelL.cons (by first | exact bel_Cd_tok _ (by simp) | exact bel_Cd_tok _ (by simp only [List.length_append, List.length_cons, List.length_nil]; omega) | exact bel_ints _ _ _ (fun _ h => by cases h; first | (simp; done) | (simp; omega)) | exact Tk.bel _ _ | exact St.bel _ _ | exact Ed.bel _ _ | exact Cd.bel _ _ | exact bel_strs0 _ _ | exact bel_St _ _ | exact bel_Tk _ _ | exact bel_Cd _ _ | exact bel_ints0 _ _ | exact bel_nil0 _ | exact bel_nil1 _ | exact Bel.optr _ _ (by first | (simp; done) | (simp; omega)) | exact Bel.int _ _ | exact Bel.bool _ | exact Bel.str _ | exact Bel.nilp | exact Bel.nilfn | exact Bel.optr _ _ (by simp) | exact bel_nil0 _ | exact bel_nil1 _ | exact bel_fn0 _ _ | assumption) ?_)⟩
  ·intro z hgz
   obtain ⟨k, l⟩ := z
   obtain ⟨hk2, hl⟩ := hgz
   simp only at hk2 hl
   have hll := hlk k
   rw [← hl] at hll
   have ho1 : ((l : Int) ≤ (src.length : Int)) = True := by simp; omega
   have ho2 : ((0 : Int) ≤ (l : Int)) = True := by simp
   have hsw := sigW_le _ (src.drop l) (Nat.le_refl _)
   rw [List.length_drop] at hsw
   have gwl : IntKind.i64.wrap ((l : Int) + ((sigW (toks (src.drop l)) : Nat) : Int)) = ((lkE src e (k + 1) : Nat) : Int) := by
    rw [wrap_id (by omega) (by omega)]; simp only [lkE]; rw [← hl]; omega
   have gwk : IntKind.i64.wrap ((k : Int) + 1) = ((k + 1 : Nat) : Int) := by rw [wrap_id (by omega) (by omega)]; omega
   refine qE (a5 y3 qR g1 g2 (a2 tN gwe)) ?_
   refine qI (a5 qR g1 g2 tN gwe) (fun bt25 => ?_) (fun bt25 => ?_)
   ·-- if t25
    have hk3 : k < 2 := by have := of_decide_eq_true bt25; omega
    refine qK ?_
    refine qB ?_
    repeat refine wS ?_
    refine wR ?_
    refine eT 4 (by simp only [kA, seval, y9, vint, qC, qR, g1, g2, tN, gwe, ho1, ho2, tN, jS, List.take_length, gwl] <;> with_reducible rfl) (by decide) ?_
    refine oP (by simp only [kC, seval, vint, qC, qR, g1, g2, tN, gwe, ho1, ho2, tN, jS, List.take_length, gwl] <;> with_reducible rfl) (by simp only [kC, seval, vint, qC, qR, g1, g2, tN, gwe, ho1, ho2, tN, jS, List.take_length, gwl]) (by decide) zgo69 (sigW_c (src.drop l) (by rw [List.length_drop]; omega) _ (hG.app _)) ?_
    refine e_end (by simp only [kA, seval, y3, vint, qC, qR, g1, g2, tN, gwe, ho1, ho2, tN, jS, List.take_length, gwl] <;> with_reducible rfl) (by decide) ?_
    refine qE (a5 y3 qR g1 g2 (a3 tN gwe gwk)) ?_
    try simp only [thenQ, blockQ]
    exact ⟨(k + 1, lkE src e (k + 1)), [], by simp only; omega, ⟨rfl, rfl, rfl, rfl, rfl, rfl, rfl, rfl, rfl, rfl, rfl, trivial⟩, (List.append_nil _).symm, by simp only; omega, rfl⟩
   ·-- else t25
    have hk3 : k = 2 := by have := of_decide_eq_false bt25; omega
    subst hk3
    subst hl
    repeat refine wS ?_
    refine awp_exit ?_
    simp only [thenQ, blockQ, reduceIte, Nat.reduceEqDiff, Nat.succ_ne_self, if_true, if_false]
    refine qE (a5 y38 y62 y98 qR (a5 g1 g2 tN gwe hap)) ?_
    refine qE (a5 qR g1 g2 tN gwe) ?_
    exact ⟨⟨rfl, rfl, trivial⟩, (q.1 ++ [⟨u, (q.2 : Int), (e : Int), (lkE src e 2 : Nat)⟩], e), [.row [.int .i64 u.kind, .str u.text, .slice (u.ch.map St.enc) .none]], ⟨rfl, rfl, rfl, rfl, rfl, trivial⟩, by simp, by rw [hfs, hsz2]⟩
 ·intro q hg
  rw [List.take_length] at hg
  subst hg
  refine qE qR ?_
  repeat refine wS ?_
  refine wT ⟨.inr rfl, _, _, rfl, ?_, (by first | exact (List.append_nil _).symm | rfl)⟩
  first | rfl | trace_state
end Go.Abs
set_option maxRecDepth 4000
namespace Go.Abs
open Go.Proofs
theorem dp_eqlIS {P : Program} {N : Nat} {ops : Array Oper} {Q : Post} {k : Nat} {o : Oper} {l : List Oper} {T : Slots} {G : Nat → Bool} {H : Heap} {t y' : TypeId} {x y : Operand} {a b : Int} {s s' : List UInt8} (F : ISAt P t)
  (hop : o.op = .binOp .eql t x y y') (hx : aev T x = .agg [.int .i64 a, .str s]) (hy : aev T y = .agg [.int .i64 b, .str s']) (hc : gcond ops.toList T G N o = some true) (hg : o.op.operands.toList.all (gOk true G) = true) (okx : okOpnd N x = true) (oky : okOpnd N y = true)
  (h : DP P N ops Q (k + 1) l (msk (.tup []) (updO T o.dst (.bool (decide (a = b) && decide (s = s')))) (ugO G o.dst true)) H) : DP P N ops Q k (o :: l) (msk (.tup []) T G) H := by
 refine dp_val hc hg (fun E A ho he => ?_) h
 have rx := he x (by rw [hop]; simp [Op.operands]) okx
 have ry := he y (by rw [hop]; simp [Op.operands]) oky
 rw [hx] at rx; rw [hy] at ry
 obtain ⟨z, hvx, hz⟩ := inv_IS rx
 obtain ⟨z', hvy, hz'⟩ := inv_IS ry
 have hb : ((a == b) && (z.toList == z'.toList)) = (decide (a = b) && decide (s = s')) := by
  have e : ∀ (q : ByteArray), q.toList = q.data.toList := fun q => by rw [ByteArray.toList_eq]
  rw [e, e, hz, hz', Bool.eq_iff_iff]
  simp
 refine ⟨.bool (decide (a = b) && decide (s = s')), ?_, .bool _⟩
 unfold execOp
 rw [hop]
 simp only [Sem.run_bind, hvx, hvy, guard_is F, Result.andThen_ok, binOp, run_eqIS F, Sem.run_pure, hb]
def stR : List Tk → List Tk → Int → Int → Nat
 | a :: us, b :: vs, en, E => if tkEq a b = true then (if en - a.text.length < E then 0 else stR us vs (en - a.text.length) E + 1) else 0
 | _, _, _, _ => 0
theorem stR_nil1 (vs : List Tk) (en E : Int) : stR [] vs en E = 0 := by cases vs <;> rfl
theorem stR_nil2 (us : List Tk) (en E : Int) : stR us [] en E = 0 := by cases us <;> rfl
theorem rev_get {α : Type} {l : List α} {n : Nat} (h : n < l.length) : l[l.length - 1 - n]? = some (l.reverse[n]'(by simpa using h)) := by
 rw [List.getElem_reverse, List.getElem?_eq_getElem (by omega)]
theorem rev_drop {α : Type} {l : List α} {n : Nat} (h : n < l.length) : l.reverse.drop n = l.reverse[n]'(by simpa using h) :: l.reverse.drop (n + 1) := List.drop_eq_getElem_cons (by simpa using h)
theorem szL_cut {l : List Tk} {n : Nat} (h : n < l.length) : szL (l.take (l.length - n)) = szL (l.take (l.length - (n + 1))) + (l.reverse[n]'(by simpa using h)).text.length := by
 have e : l.length - n = (l.length - (n + 1)) + 1 := by omega
 rw [e, take_snoc (by omega), szL_snoc, List.getElem_reverse]
 have : l.length - (n + 1) = l.length - 1 - n := by omega
 simp only [this]
theorem stab_c (us vs : List Tk) (e : Ed) (h1 : us.length ≤ 1048576) (h2 : vs.length ≤ 1048576) (hz : szL us ≤ 1048576) : PC Tryz.prog 29 [.slice (us.map Tk.enc) .none, .slice (vs.map Tk.enc) .none, e.enc] (vint (stR us.reverse vs.reverse (szL us) e.en)) := by
 have em : maxLen = 9223372036854775807 := by decide
 refine pc_of (N := 71) Tryz.func29 rfl rfl (by simp) (by simp [Bel.int, Bel.str, bel_Tk, bel_ints0, Ed.bel, bel_St, St.bel]) (.int _ _) ?_
 repeat refine wS ?_
 refine eE (by simp only [kA, seval, y23, vint, qC, qR, Nat.sub_zero, List.take_length] <;> with_reducible rfl) (by decide) ?_
 repeat refine wS ?_
 refine eE (by simp only [kA, seval, vint, qC, qR, Nat.sub_zero, List.take_length] <;> with_reducible rfl) (by decide) ?_
 repeat refine wS ?_
 refine eE (by simp only [kA, seval, y24, y32, vint, qC, qR, Nat.sub_zero, List.take_length] <;> with_reducible rfl) (by decide) ?_
 repeat refine wS ?_
 refine awp_forS (σ := Nat) (us.length) (fun (o : Nat) => [(0, .slice (us.map Tk.enc) .none), (1, .slice (vs.map Tk.enc) .none), (5, .optr 0 0), (7, .int .i64 0), (8, .int .i64 (o : Int)), (11, .slice (us.map Tk.enc) .none)]) [0, 1, 5, 7, 8, 11] ([]) (fun (o : Nat) => [.row [.int .i64 e.st, .int .i64 e.en, .str e.tx]]) (fun (i : Nat) (o : Nat) => o = szL (us.take i)) (0) ([]) rfl rfl rfl rfl rfl rfl rfl rfl rfl (by decide) (by decide) (by decide) (fun _ => rfl) (by omega) ⟨(by first | rfl | (simp only [jN, seval, vint, qC, qR, Nat.sub_zero, List.take_length] <;> first | done | with_reducible rfl)), (by first | rfl | (simp only [jN, seval, vint, qC, qR, Nat.sub_zero, List.take_length] <;> first | done | with_reducible rfl)), (by first | rfl | (simp only [jN, seval, vint, qC, qR, Nat.sub_zero, List.take_length] <;> first | done | with_reducible rfl)), (by first | rfl | (simp only [jN, seval, vint, qC, qR, Nat.sub_zero, List.take_length] <;> first | done | with_reducible rfl)), (by first | rfl | (simp only [jN, seval, vint, qC, qR, Nat.sub_zero, List.take_length] <;> first | done | with_reducible rfl)), (by first | rfl | (simp only [jN, seval, vint, qC, qR, Nat.sub_zero, List.take_length] <;> first | done | with_reducible rfl)), (by first | rfl | (simp only [jN, seval, vint, qC, qR, Nat.sub_zero, List.take_length] <;> first | done | with_reducible rfl)), (by first | rfl | (simp only [jN, seval, vint, qC, qR, Nat.sub_zero, List.take_length] <;> first | done | with_reducible rfl)), trivial⟩ (by first | rfl | (simp only [jN, seval, vint, qC, qR, Nat.sub_zero, List.take_length] <;> first | done | with_reducible rfl)) (rfl) (fun _ _ _ => by first | exact Nat.zero_le _ | (simp only [List.length_append]; omega)) ?_ ?_ ?_
 ·intro i o hg
  refine ⟨?_, xR⟩
  simp only [List.nil_append]
  exact xH
 ·intro i o hi hg
  have g1 := ix_nat hi
  have g2 := get_enc Tk.enc hi
  have hs1 : szL (us.take (i + 1)) = o + us[i].text.length := by rw [take_snoc hi, szL_snoc, hg]
  have hs2 : szL (us.take (i + 1)) ≤ szL us := by (conv => rhs; rw [← List.take_length (l := us)]); exact szL_take_le hi
  have gw : IntKind.i64.wrap ((o : Int) + (us[i].text.length : Int)) = ((o + us[i].text.length : Nat) : Int) := by rw [wrap_id (by omega) (by omega)]; omega
  repeat refine wS ?_
  refine eE (by simp only [kA, seval, y24, y32, vint, qC, qR, Nat.sub_zero, List.take_length, g1, g2, tN, gw] <;> with_reducible rfl) (by decide) ?_
  repeat refine wS ?_
  refine eE (by simp only [kA, seval, y3, y9, y32, vint, qC, qR, Nat.sub_zero, List.take_length, g1, g2, tN, gw] <;> with_reducible rfl) (by decide) ?_
  exact ⟨⟨rfl, rfl, trivial⟩, o + us[i].text.length, _, ⟨rfl, rfl, rfl, rfl, rfl, rfl, trivial⟩, by simp only [jN, seval, vint, qC, qR] <;> rfl, hs1.symm⟩
 ·intro o hg
  rw [List.take_length] at hg
  subst hg
  refine qB ?_
  refine awp_loopS (σ := Nat) (fun (n : Nat) => [(0, .slice (us.map Tk.enc) .none), (1, .slice (vs.map Tk.enc) .none), (5, .optr 0 0), (7, .int .i64 (n : Int)), (8, .int .i64 ((szL (us.take (us.length - n)) : Nat) : Int))]) ([]) (fun (n : Nat) => [.row [.int .i64 e.st, .int .i64 e.en, .str e.tx]]) (fun (n : Nat) => us.length - n) (fun (n : Nat) => n ≤ us.length ∧ n ≤ vs.length ∧ stR us.reverse vs.reverse (szL us) e.en = n + stR (us.reverse.drop n) (vs.reverse.drop n) (szL (us.take (us.length - n)) : Nat) e.en) (0) ([]) ⟨(by first | rfl | (simp only [jN, seval, vint, qC, qR, Nat.sub_zero, List.take_length] <;> first | done | with_reducible rfl)), (by first | rfl | (simp only [jN, seval, vint, qC, qR, Nat.sub_zero, List.take_length] <;> first | done | with_reducible rfl)), (by first | rfl | (simp only [jN, seval, vint, qC, qR, Nat.sub_zero, List.take_length] <;> first | done | with_reducible rfl)), (by first | rfl | (simp only [jN, seval, vint, qC, qR, Nat.sub_zero, List.take_length] <;> first | done | with_reducible rfl)), (by first | rfl | (simp only [jN, seval, vint, qC, qR, Nat.sub_zero, List.take_length] <;> first | done | with_reducible rfl)), trivial⟩ (by first | rfl | (simp only [jN, seval, vint, qC, qR, Nat.sub_zero, List.take_length] <;> first | done | with_reducible rfl)) (⟨Nat.zero_le _, Nat.zero_le _, by simp⟩) (fun _ _ => by first | exact Nat.zero_le _ | (simp only [List.length_append]; omega)) ?_ ?_
  ·intro n hgn
   refine ⟨?_, xR⟩
   simp only [List.nil_append]
   exact xH
  ·intro n hgn
   obtain ⟨hn1, hn2, hv⟩ := hgn
   have hsl : szL (us.take (us.length - n)) ≤ szL us := by (conv => rhs; rw [← List.take_length (l := us)]); exact szL_take_le (by omega)
   rcases Nat.lt_or_ge n us.length with q1 | q1
   rcases Nat.lt_or_ge n vs.length with q2 | q2
   ·-- case
    have c1 : decide ((n : Int) < (us.length : Int)) = true := decide_eq_true (by omega)
    have c2 : decide ((n : Int) < (vs.length : Int)) = true := decide_eq_true (by omega)
    have w1 : IntKind.i64.wrap ((us.length : Int) - 1) = ((us.length - 1 : Nat) : Int) := by rw [wrap_id (by omega) (by omega)]; omega
    have w2 : IntKind.i64.wrap ((vs.length : Int) - 1) = ((vs.length - 1 : Nat) : Int) := by rw [wrap_id (by omega) (by omega)]; omega
    have w3 : IntKind.i64.wrap (((us.length - 1 : Nat) : Int) - (n : Int)) = ((us.length - 1 - n : Nat) : Int) := by rw [wrap_id (by omega) (by omega)]; omega
    have w4 : IntKind.i64.wrap (((vs.length - 1 : Nat) : Int) - (n : Int)) = ((vs.length - 1 - n : Nat) : Int) := by rw [wrap_id (by omega) (by omega)]; omega
    have g1 : (0 ≤ ((us.length - 1 - n : Nat) : Int) ∧ ((us.length - 1 - n : Nat) : Int) < (us.length : Int)) = True := eq_true (by omega)
    have g2 : (0 ≤ ((vs.length - 1 - n : Nat) : Int) ∧ ((vs.length - 1 - n : Nat) : Int) < (vs.length : Int)) = True := eq_true (by omega)
    have r1 := rev_get q1
    have r2 := rev_get q2
    have d1 := rev_drop q1
    have d2 := rev_drop q2
    have sc := szL_cut q1
    obtain ⟨a, ha⟩ : ∃ a, us.reverse[n]'(by simpa using q1) = a := ⟨_, rfl⟩
    obtain ⟨b, hb⟩ : ∃ b, vs.reverse[n]'(by simpa using q2) = b := ⟨_, rfl⟩
    rw [ha] at r1 d1 sc
    rw [hb] at r2 d2
    have e1 : (us.map Tk.enc)[us.length - 1 - n]? = some a.enc := by rw [List.getElem?_map, r1]; rfl
    have e2 : (vs.map Tk.enc)[vs.length - 1 - n]? = some b.enc := by rw [List.getElem?_map, r2]; rfl
    rw [d1, d2] at hv
    simp only [stR] at hv
    have gw5 : IntKind.i64.wrap (((szL (us.take (us.length - n)) : Nat) : Int) - (a.text.length : Int)) = ((szL (us.take (us.length - (n + 1))) : Nat) : Int) := by rw [wrap_id (by omega) (by omega)]; omega
    have gw6 : ((szL (us.take (us.length - n)) : Nat) : Int) - (a.text.length : Int) = ((szL (us.take (us.length - (n + 1))) : Nat) : Int) := by omega
    have gw7 : IntKind.i64.wrap ((n : Int) + 1) = ((n + 1 : Nat) : Int) := by rw [wrap_id (by omega) (by omega)]; omega
    rw [gw6] at hv
    repeat refine wS ?_
    refine dp_draw (by kernel_rfl) ?_
    refine dp_take 27 (by simp only [jP, jO, jN, seval, y3, y24, y32, vint, qC, qR, Nat.sub_zero, List.take_length, c1, c2, w1, w2, w3, w4, g1, g2, e1, e2, gw5, gw7, tN] <;> with_reducible rfl) (by decide) ?_
    refine dp_eqlIS (a := a.kind) (b := b.kind) (s := a.text) (s' := b.text) isAt32 rfl (by simp only [kC, seval, vint, qC, qR, c1, c2] <;> first | done | rfl) (by simp only [kC, seval, vint, qC, qR, c1, c2] <;> first | done | rfl) (by simp only [kE, seval, vint, qC, qR, c1, c2] <;> first | done | rfl) (by simp only [kE, seval, vint, qC, qR, c1, c2] <;> first | done | rfl) (by decide) (by decide) ?_
    refine dp_end (by simp only [jP, jO, jN, seval, vint, qC, qR, Nat.sub_zero, List.take_length, c1, c2, w1, w2, w3, w4, g1, g2, e1, e2, gw5, gw7, tN] <;> with_reducible rfl) (by decide) (by repeat (first | exact Fin.base _ | with_reducible apply Fin.keep | apply Fin.drop)) ?_
    repeat refine wS ?_
    refine wC rfl (by simp only [jN, seval, vint, qC, qR, Nat.sub_zero, List.take_length, c1, c2, w1, w2, w3, w4, g1, g2, e1, e2, gw5, gw7, tN] <;> with_reducible rfl) (fun bt51 => ?_) (fun bt51 => ?_)
    ·-- if t51
     have hk : tkEq a b = true := by unfold tkEq; simpa using bt51
     rw [if_pos hk] at hv
     refine qK ?_
     refine qB ?_
     refine wL [0, 1, 5, 7, 8] (by simp only [jN, seval, vint, qC, qR, Nat.sub_zero, List.take_length, c1, c2, w1, w2, w3, w4, g1, g2, e1, e2, gw5, gw7, tN] <;> with_reducible rfl) ?_
     repeat refine wS ?_
     refine eE (by simp only [kA, seval, y3, y9, y24, y32, vint, qC, qR, Nat.sub_zero, List.take_length, c1, c2, w1, w2, w3, w4, g1, g2, e1, e2, gw5, gw7, tN] <;> with_reducible rfl) (by decide) ?_
     repeat refine wS ?_
     refine eE (by simp only [kA, seval, y3, y23, vint, qC, qR, Nat.sub_zero, List.take_length, c1, c2, w1, w2, w3, w4, g1, g2, e1, e2, gw5, gw7, tN] <;> with_reducible rfl) (by decide) ?_
     repeat refine wS ?_
     refine wC rfl (by simp only [jN, seval, vint, qC, qR, Nat.sub_zero, List.take_length, c1, c2, w1, w2, w3, w4, g1, g2, e1, e2, gw5, gw7, tN] <;> with_reducible rfl) (fun bt67 => ?_) (fun bt67 => ?_)
     ·-- if t67
      rw [if_pos (of_decide_eq_true bt67)] at hv
      rw [hv]
      repeat refine wS ?_
      refine awp_exit ?_
      simp only [thenQ, blockQ, reduceIte, Nat.reduceEqDiff, Nat.succ_ne_self, if_true, if_false]
      refine wL [0, 1, 5, 7, 8] (by simp only [jN, seval, vint, qC, qR, Nat.sub_zero, List.take_length, c1, c2, w1, w2, w3, w4, g1, g2, e1, e2, gw5, gw7, tN] <;> with_reducible rfl) ?_
      repeat refine wS ?_
      refine eE (by simp only [kA, seval, vint, qC, qR, Nat.sub_zero, List.take_length, c1, c2, w1, w2, w3, w4, g1, g2, e1, e2, gw5, gw7, tN] <;> with_reducible rfl) (by decide) ?_
      repeat refine wS ?_
      refine wT ⟨.inr rfl, _, rfl, ?_⟩
      first | rfl | trace_state
     ·-- else t67
      rw [if_neg (of_decide_eq_false bt67)] at hv
      refine qK ?_
      refine wL [0, 1, 5, 7, 8] (by simp only [jN, seval, vint, qC, qR, Nat.sub_zero, List.take_length, c1, c2, w1, w2, w3, w4, g1, g2, e1, e2, gw5, gw7, tN] <;> with_reducible rfl) ?_
      repeat refine wS ?_
      refine eE (by simp only [kA, seval, y3, vint, qC, qR, Nat.sub_zero, List.take_length, c1, c2, w1, w2, w3, w4, g1, g2, e1, e2, gw5, gw7, tN] <;> with_reducible rfl) (by decide) ?_
      try simp only [thenQ, blockQ]
      exact ⟨n + 1, _, by omega, ⟨rfl, rfl, rfl, rfl, rfl, trivial⟩, by simp only [jN, seval, vint, qC, qR] <;> rfl, by omega, by omega, by omega⟩
    ·-- else t51
     have hk : tkEq a b = false := by unfold tkEq; simpa using bt51
     rw [if_neg (by rw [hk]; simp)] at hv
     rw [hv]
     repeat refine wS ?_
     refine awp_exit ?_
     simp only [thenQ, blockQ, reduceIte, Nat.reduceEqDiff, Nat.succ_ne_self, if_true, if_false]
     refine wL [0, 1, 5, 7, 8] (by simp only [jN, seval, vint, qC, qR, Nat.sub_zero, List.take_length, c1, c2, w1, w2, w3, w4, g1, g2, e1, e2, gw5, gw7, tN] <;> with_reducible rfl) ?_
     repeat refine wS ?_
     refine eE (by simp only [kA, seval, vint, qC, qR, Nat.sub_zero, List.take_length, c1, c2, w1, w2, w3, w4, g1, g2, e1, e2, gw5, gw7, tN] <;> with_reducible rfl) (by decide) ?_
     repeat refine wS ?_
     refine wT ⟨.inr rfl, _, rfl, ?_⟩
     first | rfl | trace_state
   ·-- case
    have c1 : decide ((n : Int) < (us.length : Int)) = true := decide_eq_true (by omega)
    have c2 : decide ((n : Int) < (vs.length : Int)) = false := decide_eq_false (by omega)
    rw [show vs.reverse.drop n = [] from List.drop_eq_nil_of_le (by rw [List.length_reverse]; omega), stR_nil2] at hv
    rw [hv]
    repeat refine wS ?_
    refine dp_draw (by kernel_rfl) ?_
    refine dp_take 11 (by simp only [jP, jO, jN, seval, y3, y24, y32, vint, qC, qR, Nat.sub_zero, List.take_length, c1, c2] <;> with_reducible rfl) (by decide) ?_
    refine dp_skip (r := .tup []) (by simp only [kE, seval, vint, qC, qR, Nat.sub_zero, List.take_length, c1, c2] <;> with_reducible rfl) ?_
    refine dp_skip (r := .tup []) (by simp only [kE, seval, vint, qC, qR, Nat.sub_zero, List.take_length, c1, c2] <;> with_reducible rfl) ?_
    refine dp_skip (r := .tup []) (by simp only [kE, seval, vint, qC, qR, Nat.sub_zero, List.take_length, c1, c2] <;> with_reducible rfl) ?_
    refine dp_skip (r := .tup []) (by simp only [kE, seval, vint, qC, qR, Nat.sub_zero, List.take_length, c1, c2] <;> with_reducible rfl) ?_
    refine dp_skip (r := .tup []) (by simp only [kE, seval, vint, qC, qR, Nat.sub_zero, List.take_length, c1, c2] <;> with_reducible rfl) ?_
    refine dp_skip (r := .tup []) (by simp only [kE, seval, vint, qC, qR, Nat.sub_zero, List.take_length, c1, c2] <;> with_reducible rfl) ?_
    refine dp_skip (r := .tup []) (by simp only [kE, seval, vint, qC, qR, Nat.sub_zero, List.take_length, c1, c2] <;> with_reducible rfl) ?_
    refine dp_skip (r := .tup []) (by simp only [kE, seval, vint, qC, qR, Nat.sub_zero, List.take_length, c1, c2] <;> with_reducible rfl) ?_
    refine dp_skip (r := .tup []) (by simp only [kE, seval, vint, qC, qR, Nat.sub_zero, List.take_length, c1, c2] <;> with_reducible rfl) ?_
    refine dp_skip (r := .tup []) (by simp only [kE, seval, vint, qC, qR, Nat.sub_zero, List.take_length, c1, c2] <;> with_reducible rfl) ?_
    refine dp_skip (r := .tup []) (by simp only [kE, seval, vint, qC, qR, Nat.sub_zero, List.take_length, c1, c2] <;> with_reducible rfl) ?_
    refine dp_skip (r := .tup []) (by simp only [kE, seval, vint, qC, qR, Nat.sub_zero, List.take_length, c1, c2] <;> with_reducible rfl) ?_
    refine dp_skip (r := .tup []) (by simp only [kE, seval, vint, qC, qR, Nat.sub_zero, List.take_length, c1, c2] <;> with_reducible rfl) ?_
    refine dp_skip (r := .tup []) (by simp only [kE, seval, vint, qC, qR, Nat.sub_zero, List.take_length, c1, c2] <;> with_reducible rfl) ?_
    refine dp_skip (r := .tup []) (by simp only [kE, seval, vint, qC, qR, Nat.sub_zero, List.take_length, c1, c2] <;> with_reducible rfl) ?_
    refine dp_skip (r := .tup []) (by simp only [kE, seval, vint, qC, qR, Nat.sub_zero, List.take_length, c1, c2] <;> with_reducible rfl) ?_
    refine dp_skip (r := .tup []) (by simp only [kE, seval, vint, qC, qR, Nat.sub_zero, List.take_length, c1, c2] <;> with_reducible rfl) ?_
    refine dp_end (by simp only [jP, jO, jN, seval, vint, qC, qR, Nat.sub_zero, List.take_length, c1, c2] <;> with_reducible rfl) (by decide) (by repeat (first | exact Fin.base _ | with_reducible apply Fin.keep | apply Fin.drop)) ?_
    repeat refine wS ?_
    refine wF rfl (by simp only [jN, seval, vint, qC, qR, Nat.sub_zero, List.take_length, c1, c2] <;> with_reducible rfl) ?_
    repeat refine wS ?_
    refine awp_exit ?_
    simp only [thenQ, blockQ, reduceIte, Nat.reduceEqDiff, Nat.succ_ne_self, if_true, if_false]
    refine wL [0, 1, 5, 7, 8] (by simp only [jN, seval, vint, qC, qR, Nat.sub_zero, List.take_length, c1, c2] <;> with_reducible rfl) ?_
    repeat refine wS ?_
    refine eE (by simp only [kA, seval, vint, qC, qR, Nat.sub_zero, List.take_length, c1, c2] <;> with_reducible rfl) (by decide) ?_
    repeat refine wS ?_
    refine wT ⟨.inr rfl, _, rfl, ?_⟩
    first | rfl | trace_state
   ·-- case
    have c1 : decide ((n : Int) < (us.length : Int)) = false := decide_eq_false (by omega)
    rw [show us.reverse.drop n = [] from List.drop_eq_nil_of_le (by rw [List.length_reverse]; omega), stR_nil1] at hv
    rw [hv]
    repeat refine wS ?_
    refine dp_draw (by kernel_rfl) ?_
    refine dp_take 5 (by simp only [jP, jO, jN, seval, y3, y24, y32, vint, qC, qR, Nat.sub_zero, List.take_length, c1] <;> with_reducible rfl) (by decide) ?_
    refine dp_skip (r := .tup []) (by simp only [kE, seval, vint, qC, qR, Nat.sub_zero, List.take_length, c1] <;> with_reducible rfl) ?_
    refine dp_skip (r := .tup []) (by simp only [kE, seval, vint, qC, qR, Nat.sub_zero, List.take_length, c1] <;> with_reducible rfl) ?_
    refine dp_skip (r := .tup []) (by simp only [kE, seval, vint, qC, qR, Nat.sub_zero, List.take_length, c1] <;> with_reducible rfl) ?_
    refine dp_skip (r := .tup []) (by simp only [kE, seval, vint, qC, qR, Nat.sub_zero, List.take_length, c1] <;> with_reducible rfl) ?_
    refine dp_take 2 (by simp only [jP, jO, jN, seval, vint, qC, qR, Nat.sub_zero, List.take_length, c1] <;> with_reducible rfl) (by decide) ?_
    refine dp_skip (r := .tup []) (by simp only [kE, seval, vint, qC, qR, Nat.sub_zero, List.take_length, c1] <;> with_reducible rfl) ?_
    refine dp_skip (r := .tup []) (by simp only [kE, seval, vint, qC, qR, Nat.sub_zero, List.take_length, c1] <;> with_reducible rfl) ?_
    refine dp_skip (r := .tup []) (by simp only [kE, seval, vint, qC, qR, Nat.sub_zero, List.take_length, c1] <;> with_reducible rfl) ?_
    refine dp_skip (r := .tup []) (by simp only [kE, seval, vint, qC, qR, Nat.sub_zero, List.take_length, c1] <;> with_reducible rfl) ?_
    refine dp_skip (r := .tup []) (by simp only [kE, seval, vint, qC, qR, Nat.sub_zero, List.take_length, c1] <;> with_reducible rfl) ?_
    refine dp_skip (r := .tup []) (by simp only [kE, seval, vint, qC, qR, Nat.sub_zero, List.take_length, c1] <;> with_reducible rfl) ?_
    refine dp_skip (r := .tup []) (by simp only [kE, seval, vint, qC, qR, Nat.sub_zero, List.take_length, c1] <;> with_reducible rfl) ?_
    refine dp_skip (r := .tup []) (by simp only [kE, seval, vint, qC, qR, Nat.sub_zero, List.take_length, c1] <;> with_reducible rfl) ?_
    refine dp_skip (r := .tup []) (by simp only [kE, seval, vint, qC, qR, Nat.sub_zero, List.take_length, c1] <;> with_reducible rfl) ?_
    refine dp_skip (r := .tup []) (by simp only [kE, seval, vint, qC, qR, Nat.sub_zero, List.take_length, c1] <;> with_reducible rfl) ?_
    refine dp_skip (r := .tup []) (by simp only [kE, seval, vint, qC, qR, Nat.sub_zero, List.take_length, c1] <;> with_reducible rfl) ?_
    refine dp_skip (r := .tup []) (by simp only [kE, seval, vint, qC, qR, Nat.sub_zero, List.take_length, c1] <;> with_reducible rfl) ?_
    refine dp_skip (r := .tup []) (by simp only [kE, seval, vint, qC, qR, Nat.sub_zero, List.take_length, c1] <;> with_reducible rfl) ?_
    refine dp_skip (r := .tup []) (by simp only [kE, seval, vint, qC, qR, Nat.sub_zero, List.take_length, c1] <;> with_reducible rfl) ?_
    refine dp_skip (r := .tup []) (by simp only [kE, seval, vint, qC, qR, Nat.sub_zero, List.take_length, c1] <;> with_reducible rfl) ?_
    refine dp_skip (r := .tup []) (by simp only [kE, seval, vint, qC, qR, Nat.sub_zero, List.take_length, c1] <;> with_reducible rfl) ?_
    refine dp_skip (r := .tup []) (by simp only [kE, seval, vint, qC, qR, Nat.sub_zero, List.take_length, c1] <;> with_reducible rfl) ?_
    refine dp_end (by simp only [jP, jO, jN, seval, vint, qC, qR, Nat.sub_zero, List.take_length, c1] <;> with_reducible rfl) (by decide) (by repeat (first | exact Fin.base _ | with_reducible apply Fin.keep | apply Fin.drop)) ?_
    repeat refine wS ?_
    refine wF rfl (by simp only [jN, seval, vint, qC, qR, Nat.sub_zero, List.take_length, c1] <;> with_reducible rfl) ?_
    repeat refine wS ?_
    refine awp_exit ?_
    simp only [thenQ, blockQ, reduceIte, Nat.reduceEqDiff, Nat.succ_ne_self, if_true, if_false]
    refine wL [0, 1, 5, 7, 8] (by simp only [jN, seval, vint, qC, qR, Nat.sub_zero, List.take_length, c1] <;> with_reducible rfl) ?_
    repeat refine wS ?_
    refine eE (by simp only [kA, seval, vint, qC, qR, Nat.sub_zero, List.take_length, c1] <;> with_reducible rfl) (by decide) ?_
    repeat refine wS ?_
    refine wT ⟨.inr rfl, _, rfl, ?_⟩
    first | rfl | trace_state
end Go.Abs
set_option maxRecDepth 4000
namespace Go.Abs
open Go.Proofs
def itemT (tk : List Tk) (k n : Nat) : Option (St × Nat) := if eofM tk ⟨0, [⟨1, []⟩], false⟩ = true then none else (recN tk n k .item ⟨0, [⟨1, []⟩], false⟩).bind fun s => match s.stack with
 | [f] => match f.kids with
  | t :: _ => some (t, s.pos)
  | [] => none
 | _ => none
theorem itemT_inv {tk : List Tk} {k n : Nat} {t : St} {p : Nat} (h : itemT tk k n = some (t, p)) : eofM tk ⟨0, [⟨1, []⟩], false⟩ = false ∧ ∃ s kd ks, recN tk n k .item ⟨0, [⟨1, []⟩], false⟩ = some s ∧ s.stack = [⟨kd, t :: ks⟩] ∧ s.pos = p := by
 unfold itemT at h
 split at h
 ·cases h
 ·rename_i h0
  obtain ⟨s, hs, h⟩ := oB h
  refine ⟨by simpa using h0, s, ?_⟩
  split at h
  ·rename_i f hf
   split at h
   ·rename_i t' ks hk
    injection h with h
    injection h with h1 h2
    subst h1
    exact ⟨f.kind, ks, hs, by rw [hf]; cases f; simp only at hk; rw [hk], h2⟩
   ·cases h
  ·cases h
theorem item_c (tk : List Tk) (k n : Nat) {t : St} {p : Nat} {H0 : Heap} (hlim : tk.length ≤ lim) (hG : Pre G0 H0) (hm : itemT tk k n = some (t, p)) : ACalls Tryz.prog 73 [.slice (tk.map Tk.enc) .none] H0 fun r H' => r = .tup [t.enc, vint p] ∧ Fr [] [] H0 H' := by
 obtain ⟨he, s, kd, ks, hr, hst, hps⟩ := itemT_inv hm
 refine aF (N := 28) Tryz.func73 rfl rfl (by simp) fun hb' => ?_
 refine qE (a4 y38 qR zStf zStd) ?_
 refine qT 2 (a4 y38 qR zStf zStd) ?_
 refine aops_bsK (t := 36) (n := 1) (es := [.agg [.int .i64 1, .str [], .slice [] .full]]) (by simp only [kC, seval, vint, qC, qR, zStf, zStd]) rfl (by decide) zte36 ztz38 rfl (by decide) (by decide) (by decide) (by simp only [kC, seval, vint, qC, qR, zStf, zStd, abuildSK, y38] <;> first | done | rfl) ?_
 have ea1 : ∀ (a b : AObj), (H0 ++ [a]) ++ [b] = H0 ++ [a, b] := fun a b => by simp
 have ea2 : ∀ a : AObj, List.length (H0 ++ [a]) = H0.length + 1 := fun a => by simp
 rw [ea1, ea2]
 refine qX (a4 y59 qR zStf zStd) ?_
 repeat refine wS ?_
 have p0 : PSt tk (H0.length + 2) ⟨0, [⟨1, []⟩], false⟩ [H0.length + 2, H0.length + 1] (H0 ++ [.row [.int .i64 0, .str [], .slice [] .full], .row (flatE [.agg [.int .i64 1, .str [], .slice [] .full]]), .row [.slice (tk.map Tk.enc) .none, .int .i64 ((0 : Nat) : Int), .msl (H0.length + 1) 0 1 1]]) := ⟨H0.length + 1, 1, [.int .i64 1, .str [], .slice [] .full], [], [], by simp, by simp [flatE, PV.cells], rfl, by decide, StkOk.cons (f := ⟨1, []⟩) .nil .nil (fun i hi => by cases hi), rfl, by omega, by simp, by simp, by simp, hlim⟩
 have hG0 := hG 0 _ rfl
 have k0a := getL hG0 [.row [.int .i64 0, .str [], .slice [] .full], .row (flatE [.agg [.int .i64 1, .str [], .slice [] .full]]), .row [.slice (tk.map Tk.enc) .none, .int .i64 ((0 : Nat) : Int), .msl (H0.length + 1) 0 1 1]]
 have hH0 := lG hG0
 have n0a : 0 ∉ [H0.length + 2, H0.length + 1] := by simp
 have k0b : (H0 ++ [.row [.int .i64 0, .str [], .slice [] .full], .row (flatE [.agg [.int .i64 1, .str [], .slice [] .full]]), .row [.slice (tk.map Tk.enc) .none, .int .i64 ((0 : Nat) : Int), .msl (H0.length + 1) 0 1 1]])[H0.length]? = some (.row [.int .i64 0, .str [], .slice [] .full]) := by simp
 have n0b : H0.length ∉ [H0.length + 2, H0.length + 1] := by simp
 have f0 := Fr.refl [H0.length + 2, H0.length + 1] (H0 ++ [.row [.int .i64 0, .str [], .slice [] .full], .row (flatE [.agg [.int .i64 1, .str [], .slice [] .full]]), .row [.slice (tk.map Tk.enc) .none, .int .i64 ((0 : Nat) : Int), .msl (H0.length + 1) 0 1 1]])
 have hl := lim_le p0.len
 obtain ⟨st1, r1⟩ := p0.row
 have q1 := getL r1
 have he2 : decide ((peekT tk 0).kind = 100) = false := he
 refine wR ?_
 refine qU 1 (a3 qR zStf zStd) ?_
 refine qN (a3 qR zStf zStd) (atEOF_c (gtH r1) hl p0.pos) ?_
 rintro _ _ ⟨rfl, rfl⟩
 refine qF (a4 qR zStf zStd he2) ?_
 refine qK ?_
 refine qW 1 (a3 qR zStf zStd) ((by exact FG.ap0 (ihs tk (H0.length + 2) n k .item) hr p0 ⟨k0a, n0a⟩)) ?_
 rintro _ H2 ⟨rfl, F2, p2, g2⟩
 have f2 := f0.trans g2
 obtain ⟨k2b, n2b⟩ := g2.get k0b n0b
 repeat refine wS ?_
 obtain ⟨is, c, R, ids, cid, cv, cells0, rest, sp⟩ := p2.split hst
 have h1 := sp.h1
 have h2 := sp.h2
 have htop := sp.top
 have hch := sp.ch
 have h4 := sp.h4
 have h3 := sp.h3
 rw [hps] at h1
 simp only at hch
 simp only [List.length_nil, Nat.zero_mul, List.drop_zero, Nat.zero_add] at htop h1 h4
 have gR2 : R[2]? = some cv := by
  have := congrArg (fun l => l[2]?) htop
  simpa using this
 have b3 : (3 ≤ R.length) = True := by simp; omega
 cases hch with
 | @msl ic c' kids rest' hH hcl' hmx => ?_
 have hgk : (flatE ((t :: ks).map St.enc) ++ rest').take 3 = [.int .i64 t.kind, .str t.text, .slice (t.ch.map St.enc) .none] := by simp [flatE, St.enc_cells]
 have gD1 : ((flatE ((t :: ks).map St.enc) ++ rest').take 3).map PV.drop1 = [.int .i64 t.kind, .str t.text, .slice (t.ch.map St.enc) .none] := by rw [hgk]; rfl
 have gl3 : (3 ≤ (flatE ((t :: ks).map St.enc) ++ rest').length) = True := eq_true (by rw [List.length_append, flatSt_len, List.length_cons]; omega)
 have hg0 : ((0 : Int) < (((t :: ks).length : Nat) : Int)) = True := eq_true (by simp only [List.length_cons]; omega)
 obtain ⟨RR, hRR⟩ : ∃ RR, flatE ((t :: ks).map St.enc) ++ rest' = RR := ⟨_, rfl⟩
 rw [hRR] at hH gD1 gl3
 obtain ⟨nk, hnk⟩ : ∃ nk, (t :: ks).length = nk := ⟨_, rfl⟩
 rw [hnk] at hg0 gR2
 have hb1 := lG k2b
 have hne1 : (H0.length = H2.length) = False := eq_false (by omega)
 have hne0 : (H0.length = 0) = False := eq_false (by omega)
 have hn2 : (H0.length + 2 == H0.length) = false := by simp
 have hn3 : (is == H0.length) = false := by
  have : is ∈ F2 := by rw [sp.eF]; simp
  have : is ≠ H0.length := fun e => n2b (e ▸ this)
  simpa using this
 have hn4 : (ic == H0.length) = false := by
  have : ic ∈ F2 := by rw [sp.eF]; simp
  have : ic ≠ H0.length := fun e => n2b (e ▸ this)
  simpa using this
 have hs1 : ∀ o, (H2.set H0.length o)[H0.length]? = some o := fun o => List.getElem?_set_self hb1
 have hold : ∀ i, i < H0.length → H2[i]? = H0[i]? := fun i hi => by
  rw [f2.same i (by simp; omega) (by simp; omega), List.getElem?_append_left hi]
 refine awp_draw 0 (by kernel_rfl) ?_
 refine d_take (bm := [0, 1, 3, 7, 15, 31, 63, 127, 255, 0, 512, 1536, 3584, 511, 16383]) 10 (fresh := 0) (by kernel_rfl) (by simp only [jD, jO, jN, seval, y36, y38, y59, vint, qC, qR, zStf, zStd, h1, h2, gR2, b3, hH, gD1, gl3, hg0, k2b, hne1, hne0, hn2, hn3, hn4] <;> with_reducible rfl) (by decide) (by decide) ?_
 refine d_end (bm := [0, 1, 3, 7, 15, 31, 63, 127, 255, 0, 512, 1536, 3584, 511, 16383]) (fresh := 0) (by kernel_rfl) (by simp only [jD, jO, jN, seval, y3, y38, y59, vint, qC, qR, zStf, zStd, h1, h2, gR2, b3, hH, gD1, gl3, hg0, k2b, hne1, hne0, hn2, hn3, hn4] <;> with_reducible rfl) (by decide) ?_
 repeat refine wS ?_
 refine wT ⟨.inr rfl, _, (ares_two (.cell 2 38) (.tmp 3) rfl (ares_cell1 zti38 (by decide) (by simp only [jL, jN, seval, vint, qC, qR, zStf, zStd, hs1] <;> with_reducible rfl)) (ares_tmp1 (by decide))), ?_⟩
 refine ⟨by rw [St.enc_eq]; rfl, by have := f2.len; simp at this ⊢; omega, fun i hi _ => ?_, fun i hi => by cases hi⟩
 show (H2.set H0.length _)[i]? = _
 rw [List.getElem?_set_ne (by omega)]; exact hold i hi
end Go.Abs
namespace Go.Abs
inductive RwOk {α : Type} (enc : α → PV) (sz : Nat) (H : Heap) : PV → List α → List Nat → Prop
 | nil : RwOk enc sz H (.slice [] .full) [] []
 | msl {ic c : Nat} {xs : List α} {rest : List PV} (hH : H[ic]? = some (.row (flatE (xs.map enc) ++ rest))) (hc : xs.length * sz + rest.length = c * sz) (hm : c ≤ maxLen) : RwOk enc sz H (.msl ic 0 xs.length c) xs [ic]
section
variable {α : Type} {enc : α → PV} {sz : Nat}
theorem RwOk.of {H : Heap} {ic c n : Nat} {xs : List α} {rest : List PV} (hn : xs.length = n) (hH : H[ic]? = some (.row (flatE (xs.map enc) ++ rest))) (hc : n * sz + rest.length = c * sz) (hm : c ≤ maxLen) : RwOk enc sz H (.msl ic 0 n c) xs [ic] := by
 subst hn; exact .msl hH hc hm
theorem RwOk.fr {H H' : Heap} {cv : PV} {xs : List α} {cid : List Nat} (h : RwOk enc sz H cv xs cid) (he : ∀ i ∈ cid, H'[i]? = H[i]?) : RwOk enc sz H' cv xs cid := by
 cases h with
 | nil => exact .nil
 | msl hH hc hm => exact .msl (by rw [he _ (by simp)]; exact hH) hc hm
theorem RwOk.lt {H : Heap} {cv : PV} {xs : List α} {cid : List Nat} (h : RwOk enc sz H cv xs cid) : ∀ i ∈ cid, i < H.length := by
 cases h with
 | nil => intro i hi; cases hi
 | msl hH hc hm => intro i hi; rw [List.mem_singleton] at hi; subst hi; exact lG hH
theorem RwOk.app {H : Heap} {cv : PV} {xs : List α} {cid : List Nat} (h : RwOk enc sz H cv xs cid) (L : Heap) : RwOk enc sz (H ++ L) cv xs cid := h.fr fun i hi => List.getElem?_append_left (h.lt i hi)
theorem RwOk.cases2 {H : Heap} {cv : PV} {xs : List α} {cid : List Nat} (h : RwOk enc sz H cv xs cid) : (xs = [] ∧ cv = .slice [] .full ∧ cid = []) ∨
  ∃ ic c rest, cv = .msl ic 0 xs.length c ∧ cid = [ic] ∧ H[ic]? = some (.row (flatE (xs.map enc) ++ rest)) ∧ xs.length * sz + rest.length = c * sz ∧ c ≤ maxLen := by
 cases h with
 | nil => exact .inl ⟨rfl, rfl, rfl⟩
 | msl hH hc hm => exact .inr ⟨_, _, _, rfl, rfl, hH, hc, hm⟩
theorem splice_app : ∀ (vs A B : List PV), vs.length ≤ B.length → splice (A ++ B) A.length vs = A ++ vs ++ B.drop vs.length
 | [], A, B, _ => by simp [splice]
 | v :: vs, A, [], h => by simp at h
 | v :: vs, A, b :: B, h => by
  have h1 := splice_app vs (A ++ [v]) B (by simpa using h)
  simp only [splice]
  rw [List.set_append_right _ _ (Nat.le_refl _), Nat.sub_self, List.set_cons_zero]
  simp only [List.length_append, List.length_singleton, List.append_assoc, List.singleton_append] at h1
  rw [h1]; simp
theorem flat_enc_len (henc : ∀ a, (enc a).cells.length = sz) (xs : List α) : (flatE (xs.map enc)).length = xs.length * sz := by
 rw [flatE_length (sz := sz) _ (fun e he => by obtain ⟨v, _, rfl⟩ := List.mem_map.1 he; exact henc v), List.length_map]
variable {P : Program} {N nb : Nat} {ops : Array Oper} {Q : Post}
theorem first_fullK {E : Env} {v : Value} {es : List PV} {n : Nat} (hn : es.length = n) (hes : ∀ e ∈ es, e.cells.length = sz) (hv : VRel E.view v (.slice es .full)) : ∃ ad, v = .slice ad n n ∧ ∃ arrs, (Builtin.firstCells sz n (.slice ad n n)).run P E.w = .ok arrs E.w ∧ RL E.view arrs (flatE es) := by
 obtain ⟨arrs, r1, r2, ad, cap, rfl, hc1, hc2, hc3⟩ := run_first (P := P) hv hes
 subst hn
 have : cap = es.length := hc3
 subst this
 exact ⟨ad, rfl, arrs, r1, r2⟩
theorem aops_appRw (henc : ∀ a, (enc a).cells.length = sz) (hcell : ∀ a, (enc a).cells.all PV.isCell = true) (hs0 : 0 < sz) {o : Oper} {l : List Oper} {T : Slots} {H : Heap} {x y : Operand} {t u : TypeId} {ei : TypeId × TI} {z : PV} {tl : Tail} {cv : PV} {xs : List α} {cid : List Nat} {a : α}
  (hw : awanted ops.toList T N o = some true) (hop : o.op = .call ⟨.builtin .append, #[x, y], #[t, u]⟩) (okx : okOpnd N x = true) (oky : okOpnd N y = true) (hx : aev T x = cv) (hy : aev T y = .slice [enc a] tl) (hk : RwOk enc sz H cv xs cid)
  (hte : telem P t = some ei) (hei : ei.2.sz = sz) (hb : (xs.length + 1) * ei.2.bytes ≤ 2 ^ 47) (hm : xs.length + 1 ≤ maxLen) (htu : (telem P u).isSome = true) (hz : tzero P ei.1 = some z) (hzf : z.fits ei.2 = true)
  (h : ∀ (cv' : PV) (cid' : List Nat) (H' : Heap), RwOk enc sz H' cv' (xs ++ [a]) cid' → (∀ i ∈ cid', i ∈ cid ∨ H.length ≤ i) → H.length ≤ H'.length → (∀ j, j < H.length → j ∉ cid → H'[j]? = H[j]?) → AOps P N nb ops Q l (updO T o.dst cv') H') :
  AOps P N nb ops Q (o :: l) T H := by
 have hzs : z.cells.length = sz := by rw [(PV.fits_spec hzf).1, hei]
 have hnew : ∀ oc, oc = flatE (xs.map enc) → (∀ (E : Env) (v : Value), E.Ok → E.H = H → VRel E.view v (aev T x) → ∃ ad, v = .slice ad xs.length xs.length ∧ ∃ arrs, (Builtin.firstCells ei.2.sz xs.length (.slice ad xs.length xs.length)).run P E.w = .ok arrs E.w ∧ RL E.view arrs oc) → AOps P N nb ops Q (o :: l) T H := by
  intro oc hoc hold
  refine aops_appNew (n := xs.length) (oc := oc) (e1 := enc a) (tl := tl) hw hop okx oky hy hb hm (by rw [henc, hei]) hte htu hz hzf hold fun c rest hc1 hc2 hrest => ?_
  refine h _ [H.length] _ (.of (rest := rest) (by simp) ?_ ?_ hc2) (fun i hi => by rw [List.mem_singleton] at hi; exact .inr (by omega)) (by simp) (fun j hj _ => List.getElem?_append_left hj)
  ·rw [List.getElem?_append_right (Nat.le_refl _), Nat.sub_self, hoc, List.map_append, flatE_append]
   simp [flatE]
  ·rw [hrest]
   have : (List.replicate (c - (xs.length + 1)) z.cells).flatten.length = (c - (xs.length + 1)) * sz := by simp [hzs]
   rw [this, ← Nat.add_mul]
   congr 1; omega
 rcases hk.cases2 with ⟨rfl, rfl, rfl⟩ | ⟨ic, c, rest, rfl, rfl, hH, hc, hmx⟩
 ·exact hnew _ rfl fun E v ho hE hv => by
   rw [hx] at hv
   exact first_fullK (es := []) rfl (by simp) hv
 ·have hfl := flat_enc_len (enc := enc) henc xs
  rcases Nat.lt_or_ge xs.length c with hlt | hge
  ·have hr : sz ≤ rest.length := by
    have : (xs.length + 1) * sz ≤ c * sz := Nat.mul_le_mul_right _ hlt
    rw [Nat.succ_mul] at this; omega
   refine aops_appIn (id := ic) (n := xs.length) (c := c) (cs := flatE (xs.map enc) ++ rest) (e1 := enc a) (tl := tl) hH hw hop okx oky hx hy hlt (by rw [List.length_append, hfl, hei]; exact hc) (by rw [henc, hei]) (hcell a) hte htu ?_
   have hil := lG hH
   refine h _ [ic] _ (.of (rest := rest.drop sz) (by simp) ?_ ?_ hmx) (fun i hi => .inl hi) (by simp) (fun j hj hn => by rw [List.getElem?_set_ne (by rintro rfl; exact hn (by simp))])
   ·rw [List.getElem?_set_self hil, hei, ← hfl, splice_app _ _ _ (by rw [henc]; exact hr), henc, List.map_append, flatE_append]
    simp [flatE]
   ·rw [List.length_drop, Nat.succ_mul]; omega
  ·have hr : rest = [] := by
    have : c * sz ≤ xs.length * sz := Nat.mul_le_mul_right _ hge
    exact List.length_eq_zero_iff.1 (by omega)
   subst hr
   have hcl : c = xs.length := by
    simp only [List.length_nil, Nat.add_zero] at hc
    exact (Nat.eq_of_mul_eq_mul_right hs0 hc).symm
   subst hcl
   rw [List.append_nil] at hH
   exact hnew _ rfl fun E v ho hE hv => by
    rw [hx] at hv
    exact first_msl ho (cs := flatE (xs.map enc)) (by rw [hE]; exact hH) (by rw [hfl, hei]) hv
end
end Go.Abs
set_option maxRecDepth 4000
namespace Go.Abs
open Go.Proofs
structure UOk (iu : Nat) (old : List Cd) (tv : PV) (off sh st re : Int) (nodes : List St) (F : List Nat) (H : Heap) : Prop where
 ex : ∃ cv cid, H[iu]? = some (.row [.slice (old.map Cd.enc) .none, tv, .int .i64 off, .int .i64 sh, .int .i64 st, .int .i64 re, cv]) ∧ RwOk St.enc 3 H cv nodes cid ∧ F = iu :: cid ∧ iu ∉ cid
theorem cellSt (a : St) : a.enc.cells.all PV.isCell = true := by rw [St.enc_cells]; rfl
section
variable {iu : Nat} {old : List Cd} {tv tv' : PV} {off sh st re off' sh' st' re' : Int} {nodes : List St} {F : List Nat} {H : Heap}
theorem UOk.mem (h : UOk iu old tv off sh st re nodes F H) : iu ∈ F := by obtain ⟨cv, cid, _, _, rfl, _⟩ := h.ex; simp
theorem UOk.lt (h : UOk iu old tv off sh st re nodes F H) : ∀ i ∈ F, i < H.length := by
 obtain ⟨cv, cid, h1, h2, rfl, _⟩ := h.ex
 intro i hi
 rcases List.mem_cons.1 hi with rfl | hi
 ·exact lG h1
 ·exact h2.lt i hi
theorem UOk.fr {H' : Heap} (h : UOk iu old tv off sh st re nodes F H) (he : ∀ i ∈ F, H'[i]? = H[i]?) : UOk iu old tv off sh st re nodes F H' := by
 obtain ⟨cv, cid, h1, h2, rfl, h4⟩ := h.ex
 exact ⟨cv, cid, by rw [he _ (by simp)]; exact h1, h2.fr fun i hi => he i (by simp [hi]), rfl, h4⟩
theorem UOk.app (h : UOk iu old tv off sh st re nodes F H) (L : Heap) : UOk iu old tv off sh st re nodes F (H ++ L) := h.fr fun i hi => List.getElem?_append_left (h.lt i hi)
end
theorem u_fin {iu ic c n : Nat} {old : List Cd} {tv : PV} {off sh st re : Int} {nodes : List St} {t : St} {F cid : List Nat} {H1 H3 : Heap} {rest : List PV} (hn : nodes.length = n)
  (hF : F = iu :: cid) (e1 : H3[iu]? = some (.row [.slice (old.map Cd.enc) .none, tv, .int .i64 off, .int .i64 sh, .int .i64 st, .int .i64 re, .msl ic 0 (n + 1) c])) (e2 : H3[ic]? = some (.row (flatE ((nodes ++ [t]).map St.enc) ++ rest)))
  (hc : (n + 1) * 3 + rest.length = c * 3) (hm : c ≤ maxLen) (hne : iu ≠ ic) (hic : ic ∈ cid ∨ H1.length ≤ ic) (hl : H1.length ≤ H3.length) (same : ∀ j, j < H1.length → j ∉ F → H3[j]? = H1[j]?) :
  UOk iu old tv off sh st re (nodes ++ [t]) [iu, ic] H3 ∧ Fr F [iu, ic] H1 H3 :=
 ⟨⟨_, [ic], e1, .of (rest := rest) (by simp [hn]) e2 hc hm, rfl, by simpa using hne⟩, hl, same, fun id hi hlt => by
  rw [hF]
  simp only [List.mem_cons, List.not_mem_nil, or_false] at hi ⊢
  rcases hi with rfl | rfl
  ·exact .inl rfl
  ·rcases hic with h | h
   ·exact .inr h
   ·omega⟩
theorem u_fin2 {iu ic c n : Nat} {old : List Cd} {tv cv : PV} {off sh st re : Int} {nodes : List St} {t : St} {F cid : List Nat} {H1 HA : Heap} {RR rest : List PV} (hn : nodes.length = n)
  (hF : F = iu :: cid) (hu3 : HA[iu]? = some (.row [.slice (old.map Cd.enc) .none, tv, .int .i64 off, .int .i64 sh, .int .i64 st, .int .i64 re, cv])) (hil : ic < HA.length) (hne : ic ≠ iu)
  (hRR : RR = flatE (nodes.map St.enc) ++ PV.int .i64 0 :: PV.str [] :: PV.slice [] .none :: rest) (hc : (n + 1) * 3 + rest.length = c * 3) (hm : c ≤ maxLen) (hic : ic ∈ cid ∨ H1.length ≤ ic) (hl : H1.length ≤ HA.length)
  (same : ∀ j, j < H1.length → j ∉ cid → HA[j]? = H1[j]?) :
  UOk iu old tv off sh st re (nodes ++ [t]) [iu, ic] ((HA.set ic (.row (((RR.set (n * 3) (.int .i64 t.kind)).set (n * 3 + 1) (.str t.text)).set (n * 3 + 1 + 1) (.slice (t.ch.map St.enc) .none)))).set iu (.row [.slice (old.map Cd.enc) .none, tv, .int .i64 off, .int .i64 sh, .int .i64 st, .int .i64 re, .msl ic 0 (n + 1) c])) ∧
   Fr F [iu, ic] H1 ((HA.set ic (.row (((RR.set (n * 3) (.int .i64 t.kind)).set (n * 3 + 1) (.str t.text)).set (n * 3 + 1 + 1) (.slice (t.ch.map St.enc) .none)))).set iu (.row [.slice (old.map Cd.enc) .none, tv, .int .i64 off, .int .i64 sh, .int .i64 st, .int .i64 re, .msl ic 0 (n + 1) c])) := by
 have hul := lG hu3
 refine u_fin hn hF (List.getElem?_set_self (by simpa using hul)) ?_ hc hm (Ne.symm hne) hic (by simpa using hl) fun j hj hjF => ?_
 ·rw [List.getElem?_set_ne (Ne.symm hne), List.getElem?_set_self hil, hRR, flatSt_snoc]
  refine congrArg (fun z => some (AObj.row z)) ?_
  exact set3 (by rw [flatSt_len, hn])
 ·rw [hF] at hjF
  have h1 : j ≠ iu := fun e => hjF (by simp [e])
  have h2 : j ∉ cid := fun e => hjF (by simp [e])
  have h3 : j ≠ ic := fun e => by
   rcases hic with h | h
   ·exact h2 (e ▸ h)
   ·omega
  rw [List.getElem?_set_ne (Ne.symm h1), List.getElem?_set_ne (Ne.symm h3)]; exact same j hj h2
theorem rw_cases {H : Heap} {cv : PV} {ns : List St} {cid : List Nat} (h : RwOk St.enc 3 H cv ns cid) : (cv = .slice (ns.map St.enc) .full ∧ cid = []) ∨ ∃ ic c, cv = .msl ic 0 ns.length c ∧ cid = [ic] := by
 cases h with
 | nil => exact .inl ⟨rfl, rfl⟩
 | msl _ _ _ => exact .inr ⟨_, _, rfl, rfl⟩
theorem awp_joinX {P : Program} {N nb : Nat} {Q : Post} {x y : Code} {Q0 : Post} {T : Slots} {H : Heap} {σ : Type} (rep : σ → List (Nat × PV)) (I : σ → Heap → Prop)
  (hx : AWP P N nb x (thenQ (fun T' H' => ∃ s, Fits T' (rep s) ∧ I s H') Q) T H)
  (hy : ∀ s H', I s H' → AWP P N nb y Q0 (mkS (rep s)) H') : AWP P N nb x (thenQ (AWP P N nb y Q0) Q) T H := by
 refine hx.mono fun e T' H' he => ?_
 cases e with
 | normal =>
  obtain ⟨s, h1, h2⟩ := he
  exact awp_weak (mkS_weak h1) (hy s H' h2)
 | _ => exact he
def rpM (start : Int) : List Cd → Int → Int → List St → Int × Int × List St
 | [], off, re, ns => (off, re, ns)
 | c :: cs, off, re, ns => if (decide (c.look ≥ start) || decide (c.tree.kind ≥ 100)) = true then (off, re, ns) else rpM start cs c.fin (re + 1) (ns ++ [c.tree])
theorem rp_c {iu : Nat} {old : List Cd} {tv : PV} {off sh st re start : Int} {nodes : List St} {F0 : List Nat} {H0 : Heap} {off1 re1 : Int} {ns1 : List St} (hU : UOk iu old tv off sh st re nodes F0 H0) (hl : old.length ≤ 1048576) (hln : nodes.length ≤ 1048576) (hre : 0 ≤ re ∧ re ≤ 1048576) (hm : rpM start old off re nodes = (off1, re1, ns1)) : ACalls Tryz.prog 30 [.optr iu 0, vint start] H0 fun r H' => r = .tup [] ∧ ∃ F', UOk iu old tv off1 sh st re1 ns1 F' H' ∧ Fr F0 F' H0 H' := by
 have em : maxLen = 9223372036854775807 := by decide
 obtain ⟨cv0, cid0, hu0, hk0, hF0, hn0⟩ := hU.ex
 refine aF (N := 49) Tryz.func30 rfl rfl (by simp) fun hb' => ?_
 refine qE (a5 y62 y66 y98 qR (a3 zStf zStd hu0)) ?_
 refine qB ?_
 refine awp_loopX (σ := Nat × Int × Int × List St × List Nat) (fun (z : Nat × Int × Int × List St × List Nat) => [(0, .optr iu 0), (1, vint start), (9, .slice (old.map Cd.enc) .none), (10, .int .i64 (old.length : Int)), (11, .int .i64 (z.1 : Int))]) (fun (z : Nat × Int × Int × List St × List Nat) =>  fun H1 => z.1 ≤ old.length ∧ rpM start (old.drop z.1) z.2.1 z.2.2.1 z.2.2.2.1 = (off1, re1, ns1) ∧ UOk iu old tv z.2.1 sh st z.2.2.1 z.2.2.2.1 z.2.2.2.2 H1 ∧ Fr F0 z.2.2.2.2 H0 H1 ∧ z.2.2.2.1.length ≤ nodes.length + z.1 ∧ z.2.2.1 = re + (z.1 : Int)) (fun (z : Nat × Int × Int × List St × List Nat) => old.length - z.1) ((0, off, re, nodes, F0)) ⟨(by first | rfl | (simp only [jN, seval, vint, qC, qR, zStf, zStd] <;> first | done | with_reducible rfl)), (by first | rfl | (simp only [jN, seval, vint, qC, qR, zStf, zStd] <;> first | done | with_reducible rfl)), (by first | rfl | (simp only [jN, seval, vint, qC, qR, zStf, zStd] <;> first | done | with_reducible rfl)), (by first | rfl | (simp only [jN, seval, vint, qC, qR, zStf, zStd] <;> first | done | with_reducible rfl)), (by first | rfl | (simp only [jN, seval, vint, qC, qR, zStf, zStd] <;> first | done | with_reducible rfl)), trivial⟩ (⟨Nat.zero_le _, hm, hU, Fr.refl _ _, by simp, by simp⟩) ?_
 intro z H1 hg
 obtain ⟨i, ov, re', ns, F1⟩ := z
 obtain ⟨hi1, hv, hU1, f1, hln1, hre1⟩ := hg
 simp only at hi1 hv hU1 f1 hln1 hre1
 obtain ⟨cv, cid, hu, hk, hF1, hn4⟩ := hU1.ex
 have hul := lG hu
 subst hre1
 obtain ⟨rv, hrr⟩ : ∃ x, re + (i : Int) = x := ⟨_, rfl⟩
 rw [hrr] at hv hU1 hu
 refine qE (a4 y3 qR zStf zStd) ?_
 refine qI (a3 qR zStf zStd) (fun bt12 => ?_) (fun bt12 => ?_)
 ·-- if t12
  have hi : i < old.length := by have := of_decide_eq_true bt12; omega
  have g1 := ix_nat hi
  have g2 := get_enc Cd.enc hi
  rw [List.drop_eq_getElem_cons hi] at hv
  obtain ⟨u, hu_⟩ : ∃ u, old[i] = u := ⟨_, rfl⟩
  rw [hu_] at g2 hv
  simp only [rpM] at hv
  have qu := getL hu
  have qb : ∀ L, (H1 ++ .row u.enc.cells :: L)[H1.length]? = some (.row u.enc.cells) := fun L => by simp
  have gwi : IntKind.i64.wrap ((i : Int) + 1) = ((i + 1 : Nat) : Int) := by rw [wrap_id (by omega) (by omega)]; omega
  have gwr : IntKind.i64.wrap (rv + 1) = rv + 1 := wrap_id (by omega) (by omega)
  refine qK ?_
  refine qB ?_
  refine qE (a5 y62 y98 qR zStf (a4 zStd g1 g2 tN)) ?_
  repeat refine wS ?_
  refine wR ?_
  refine aops_gstart ?_
  refine gT 7 (a5 y3 y38 y98 qR (a2 zStf zStd)) ?_
  refine gP (a3 qR zStf zStd) zgo70 (fun hc => isTok_c _ _) ?_
  refine gX (a3 qR zStf zStd) ?_
  refine qI (a3 qR zStf zStd) (fun bt23 => ?_) (fun bt23 => ?_)
  ·-- if t23
   rw [if_pos bt23] at hv
   simp only [Prod.mk.injEq] at hv
   obtain ⟨rfl, rfl, rfl⟩ := hv
   repeat refine wS ?_
   refine wT ⟨.inr rfl, _, rfl, ?_⟩
   exact ⟨rfl, _, (by first | exact hU1.app _ | exact hU1), (by first | exact f1.app _ | exact f1)⟩
  ·-- else t23
   rw [if_neg (by rw [bt23]; simp)] at hv
   refine qK ?_
   repeat refine wS ?_
   refine awp_joinX (σ := List Nat) (fun (F2 : List Nat) => [(0, .optr iu 0), (1, vint start), (9, .slice (old.map Cd.enc) .none), (10, .int .i64 (old.length : Int)), (11, .int .i64 (i : Int)), (5, .optr H1.length 0)]) (fun (F2 : List Nat) =>  fun H2 => UOk iu old tv ov sh st rv (ns ++ [u.tree]) F2 H2 ∧ Fr F1 F2 H1 H2 ∧ H2[H1.length]? = some (.row u.enc.cells) ∧ H1.length ∉ F2) ?_ ?_
   ·-- to the meeting
    rcases rw_cases hk with ⟨hcv, hcid⟩ | ⟨ic0, c0, hcv, hcid⟩
    ·-- case
     subst hcv hcid
     repeat refine wS ?_
     refine awp_drawB 0 (by kernel_rfl) ?_
     refine seg_pure 8 (bm := [0, 1, 3, 7, 0, 16, 15, 0, 255, 511, 1023, 511, 2559, 6655]) (by kernel_rfl) (by decide) (by kernel_rfl) (by kernel_rfl) ?_
     refine dp_end (by simp only [jP, jO, jN, seval, y36, y38, y66, y98, vint, qC, qR, zStf, zStd, qu, qb, List.length_map] <;> with_reducible rfl) (by decide) (by repeat (first | exact Fin.base _ | with_reducible apply Fin.keep | apply Fin.drop)) ?_
     refine seg_op (k := 8) (bm := [0, 1, 3, 7, 0, 16, 15, 0, 255, 511, 1023, 511, 2559, 6655]) (by kernel_rfl) rfl (by kernel_rfl) (by kernel_rfl) ?_
     refine aops_appRw (enc := St.enc) (sz := 3) St.enc_len cellSt (by decide) (xs := ns) (a := St.mk 0 [] []) (by simp only [kC, seval, vint, qC, qR, zStf, zStd]) rfl (by decide) (by decide) (by simp only [kC, seval, vint, qC, qR, zStf, zStd] <;> first | done | rfl) (by simp only [kC, seval, vint, qC, qR, zStf, zStd] <;> first | done | rfl) (hk.app _) zte36 rfl (by show (_ + 1) * 48 ≤ _; omega) (by omega) (by rw [zte36]; rfl) ztz38 zStf ?_
     intro cv3 cid3 HA hk3 hc3 hl3 hs3
     refine oN ?_
     show GoAt _ _ _ _ _ _ _ _
     simp only [List.length_append, List.length_cons, List.length_nil] at hl3
     obtain ⟨he1, _⟩ | ⟨ic, c3, rest3, rfl, rfl, hA, hc3', hm3⟩ := hk3.cases2
     ·simp at he1
     have hu3 : HA[iu]? = some (.row [.slice (old.map Cd.enc) .none, tv, .int .i64 ov, .int .i64 sh, .int .i64 st, .int .i64 rv, .slice (ns.map St.enc) .full]) := by
      rw [hs3 iu (by simp; omega) hn4]; exact qu _
     have hb3 : HA[H1.length]? = some (.row u.enc.cells) := by
      rw [hs3 H1.length (by simp) (fun h => by have := hk.lt _ h; omega)]; simp [Cd.enc_cells]
     have hic : ic ≠ iu := fun e => by
      rcases hc3 ic (by simp) with h | h
      ·exact hn4 (e ▸ h)
      ·simp at h; omega
     have hicb : ic ≠ H1.length := fun e => by
      rcases hc3 ic (by simp) with h | h
      ·have := hk.lt _ h; omega
      ·simp at h; omega
     have hil := lG hA
     have hul := lG hu3
     have n1 : (ic == iu) = false := by simpa using hic
     have n2 : (iu == ic) = false := by simpa using Ne.symm hic
     have n3 : (ic = iu) = False := by simpa using hic
     have n4 : (iu = ic) = False := by simpa using Ne.symm hic
     have n5 : ∀ k, (ic = HA.length + k) = False := fun k => eq_false (by omega)
     have n6 : ∀ k, (iu = HA.length + k) = False := fun k => eq_false (by omega)
     have qq1 : ∀ o, (HA.set ic o)[iu]? = some (.row [.slice (old.map Cd.enc) .none, tv, .int .i64 ov, .int .i64 sh, .int .i64 st, .int .i64 rv, .slice (ns.map St.enc) .full]) := fun o => by rw [List.getElem?_set_ne hic]; exact hu3
     have hfl : (flatE ((ns ++ [St.mk 0 [] []]).map St.enc)).length = (ns.length + 1) * 3 := by rw [flatSt_len]; simp
     have hll : (ns ++ [St.mk 0 [] []]).length = ns.length + 1 := by simp
     rw [hll] at hc3'
     obtain ⟨RR, hRR⟩ : ∃ RR, flatE ((ns ++ [St.mk 0 [] []]).map St.enc) ++ rest3 = RR := ⟨_, rfl⟩
     rw [hRR] at hA
     have lRR : RR.length = c3 * 3 := by rw [← hRR, List.length_append, hfl]; omega
     have gk := ix_nat (n := ns.length + 1) (i := ns.length) (by omega)
     have hb4 : (ns.length * 3 + 3 ≤ c3 * 3) = True := eq_true (by omega)
     have hRR2 : RR = flatE (ns.map St.enc) ++ PV.int .i64 0 :: PV.str [] :: PV.slice [] .none :: rest3 := by rw [← hRR, flatSt_snoc]; simp [St.kind, St.text, St.ch]
     rw [hll]
     refine seg_draw 5 (bm := [0, 1, 3, 7, 0, 16, 15, 0, 255, 511, 1023, 511, 2559, 6655]) (by kernel_rfl) (by decide) (by kernel_rfl) (by kernel_rfl) ?_
     refine d_end (bm := [0, 1, 3, 7, 0, 16, 15, 0, 255, 511, 1023, 511, 2559, 6655]) (fresh := HA.length + 7) (by kernel_rfl) (by simp only [jD, jO, jN, seval, y36, y38, y66, vint, qC, qR, zStf, zStd, qu, qb, hA, hu3, hb3, n1, n2, n3, n4, n5, n6, qq1, lRR, gk, hb4, tN] <;> with_reducible rfl) (by decide) ?_
     refine goat_end ?_
     have hfin := u_fin2 (t := u.tree) (H1 := H1) rfl hF1 hu3 hil hic hRR2 hc3' hm3 ((hc3 ic (by simp)).imp id (fun h => by simp at h; omega)) (by omega) (fun j hj hn => by rw [hs3 j (by simp; omega) hn, List.getElem?_append_left hj])
     refine ⟨[iu, ic], ⟨(by first | rfl | (simp only [jN, seval, vint, qC, qR, zStf, zStd] <;> first | done | with_reducible rfl)), (by first | rfl | (simp only [jN, seval, vint, qC, qR, zStf, zStd] <;> first | done | with_reducible rfl)), (by first | rfl | (simp only [jN, seval, vint, qC, qR, zStf, zStd] <;> first | done | with_reducible rfl)), (by first | rfl | (simp only [jN, seval, vint, qC, qR, zStf, zStd] <;> first | done | with_reducible rfl)), (by first | rfl | (simp only [jN, seval, vint, qC, qR, zStf, zStd] <;> first | done | with_reducible rfl)), (by first | rfl | (simp only [jN, seval, vint, qC, qR, zStf, zStd] <;> first | done | with_reducible rfl)), trivial⟩, hfin.1, hfin.2, ?_, ?_⟩
     ·rw [List.getElem?_set_ne (by omega), List.getElem?_set_ne hicb]; exact hb3
     ·simp only [List.mem_cons, List.not_mem_nil, or_false, not_or]; exact ⟨by omega, Ne.symm hicb⟩
    ·-- case
     subst hcv hcid
     repeat refine wS ?_
     refine awp_drawB 0 (by kernel_rfl) ?_
     refine seg_pure 8 (bm := [0, 1, 3, 7, 0, 16, 15, 0, 255, 511, 1023, 511, 2559, 6655]) (by kernel_rfl) (by decide) (by kernel_rfl) (by kernel_rfl) ?_
     refine dp_end (by simp only [jP, jO, jN, seval, y36, y38, y66, y98, vint, qC, qR, zStf, zStd, qu, qb, List.length_map] <;> with_reducible rfl) (by decide) (by repeat (first | exact Fin.base _ | with_reducible apply Fin.keep | apply Fin.drop)) ?_
     refine seg_op (k := 8) (bm := [0, 1, 3, 7, 0, 16, 15, 0, 255, 511, 1023, 511, 2559, 6655]) (by kernel_rfl) rfl (by kernel_rfl) (by kernel_rfl) ?_
     refine aops_appRw (enc := St.enc) (sz := 3) St.enc_len cellSt (by decide) (xs := ns) (a := St.mk 0 [] []) (by simp only [kC, seval, vint, qC, qR, zStf, zStd]) rfl (by decide) (by decide) (by simp only [kC, seval, vint, qC, qR, zStf, zStd] <;> first | done | rfl) (by simp only [kC, seval, vint, qC, qR, zStf, zStd] <;> first | done | rfl) (hk.app _) zte36 rfl (by show (_ + 1) * 48 ≤ _; omega) (by omega) (by rw [zte36]; rfl) ztz38 zStf ?_
     intro cv3 cid3 HA hk3 hc3 hl3 hs3
     refine oN ?_
     show GoAt _ _ _ _ _ _ _ _
     simp only [List.length_append, List.length_cons, List.length_nil] at hl3
     obtain ⟨he1, _⟩ | ⟨ic, c3, rest3, rfl, rfl, hA, hc3', hm3⟩ := hk3.cases2
     ·simp at he1
     have hu3 : HA[iu]? = some (.row [.slice (old.map Cd.enc) .none, tv, .int .i64 ov, .int .i64 sh, .int .i64 st, .int .i64 rv, .msl ic0 0 ns.length c0]) := by
      rw [hs3 iu (by simp; omega) hn4]; exact qu _
     have hb3 : HA[H1.length]? = some (.row u.enc.cells) := by
      rw [hs3 H1.length (by simp) (fun h => by have := hk.lt _ h; omega)]; simp [Cd.enc_cells]
     have hic : ic ≠ iu := fun e => by
      rcases hc3 ic (by simp) with h | h
      ·exact hn4 (e ▸ h)
      ·simp at h; omega
     have hicb : ic ≠ H1.length := fun e => by
      rcases hc3 ic (by simp) with h | h
      ·have := hk.lt _ h; omega
      ·simp at h; omega
     have hil := lG hA
     have hul := lG hu3
     have n1 : (ic == iu) = false := by simpa using hic
     have n2 : (iu == ic) = false := by simpa using Ne.symm hic
     have n3 : (ic = iu) = False := by simpa using hic
     have n4 : (iu = ic) = False := by simpa using Ne.symm hic
     have n5 : ∀ k, (ic = HA.length + k) = False := fun k => eq_false (by omega)
     have n6 : ∀ k, (iu = HA.length + k) = False := fun k => eq_false (by omega)
     have qq1 : ∀ o, (HA.set ic o)[iu]? = some (.row [.slice (old.map Cd.enc) .none, tv, .int .i64 ov, .int .i64 sh, .int .i64 st, .int .i64 rv, .msl ic0 0 ns.length c0]) := fun o => by rw [List.getElem?_set_ne hic]; exact hu3
     have hfl : (flatE ((ns ++ [St.mk 0 [] []]).map St.enc)).length = (ns.length + 1) * 3 := by rw [flatSt_len]; simp
     have hll : (ns ++ [St.mk 0 [] []]).length = ns.length + 1 := by simp
     rw [hll] at hc3'
     obtain ⟨RR, hRR⟩ : ∃ RR, flatE ((ns ++ [St.mk 0 [] []]).map St.enc) ++ rest3 = RR := ⟨_, rfl⟩
     rw [hRR] at hA
     have lRR : RR.length = c3 * 3 := by rw [← hRR, List.length_append, hfl]; omega
     have gk := ix_nat (n := ns.length + 1) (i := ns.length) (by omega)
     have hb4 : (ns.length * 3 + 3 ≤ c3 * 3) = True := eq_true (by omega)
     have hRR2 : RR = flatE (ns.map St.enc) ++ PV.int .i64 0 :: PV.str [] :: PV.slice [] .none :: rest3 := by rw [← hRR, flatSt_snoc]; simp [St.kind, St.text, St.ch]
     rw [hll]
     refine seg_draw 5 (bm := [0, 1, 3, 7, 0, 16, 15, 0, 255, 511, 1023, 511, 2559, 6655]) (by kernel_rfl) (by decide) (by kernel_rfl) (by kernel_rfl) ?_
     refine d_end (bm := [0, 1, 3, 7, 0, 16, 15, 0, 255, 511, 1023, 511, 2559, 6655]) (fresh := HA.length + 7) (by kernel_rfl) (by simp only [jD, jO, jN, seval, y36, y38, y66, vint, qC, qR, zStf, zStd, qu, qb, hA, hu3, hb3, n1, n2, n3, n4, n5, n6, qq1, lRR, gk, hb4, tN] <;> with_reducible rfl) (by decide) ?_
     refine goat_end ?_
     have hfin := u_fin2 (t := u.tree) (H1 := H1) rfl hF1 hu3 hil hic hRR2 hc3' hm3 ((hc3 ic (by simp)).imp id (fun h => by simp at h; omega)) (by omega) (fun j hj hn => by rw [hs3 j (by simp; omega) hn, List.getElem?_append_left hj])
     refine ⟨[iu, ic], ⟨(by first | rfl | (simp only [jN, seval, vint, qC, qR, zStf, zStd] <;> first | done | with_reducible rfl)), (by first | rfl | (simp only [jN, seval, vint, qC, qR, zStf, zStd] <;> first | done | with_reducible rfl)), (by first | rfl | (simp only [jN, seval, vint, qC, qR, zStf, zStd] <;> first | done | with_reducible rfl)), (by first | rfl | (simp only [jN, seval, vint, qC, qR, zStf, zStd] <;> first | done | with_reducible rfl)), (by first | rfl | (simp only [jN, seval, vint, qC, qR, zStf, zStd] <;> first | done | with_reducible rfl)), (by first | rfl | (simp only [jN, seval, vint, qC, qR, zStf, zStd] <;> first | done | with_reducible rfl)), trivial⟩, hfin.1, hfin.2, ?_, ?_⟩
     ·rw [List.getElem?_set_ne (by omega), List.getElem?_set_ne hicb]; exact hb3
     ·simp only [List.mem_cons, List.not_mem_nil, or_false, not_or]; exact ⟨by omega, Ne.symm hicb⟩
   ·intro F2 H2 hg
    obtain ⟨hU2, g2', hb2, hnb⟩ := hg
    obtain ⟨cv2, cid2, hu2, hk2, hF2, hn2⟩ := hU2.ex
    have hs2 : ∀ o, (H2.set iu o)[iu]? = some o := fun o => List.getElem?_set_self (lG hu2)
    have hs3 : ∀ o p, (H2.set iu o).set iu p = H2.set iu p := fun o p => List.set_set ..
    have hbi : (H1.length = iu) = False := eq_false (by omega)
    have hbj : (iu = H1.length) = False := eq_false (by omega)
    have hul2 := lG hu2
    have hbk : (iu = H2.length) = False := eq_false (by omega)
    have hs4 : ∀ o, (H2.set iu o)[H1.length]? = some (.row u.enc.cells) := fun o => by rw [List.getElem?_set_ne (by omega)]; exact hb2
    repeat refine wS ?_
    refine eE (by simp only [kA, seval, y3, y66, y98, vint, qC, qR, zStf, zStd, hu2, hb2, hs2, hs3, hs4, hbk, gwr, gwi, lS] <;> with_reducible rfl) (by decide) ?_
    repeat refine wS ?_
    refine eE (by simp only [kA, seval, y3, y66, vint, qC, qR, zStf, zStd, hu2, hb2, hs2, hs3, hs4, hbk, gwr, gwi, lS] <;> with_reducible rfl) (by decide) ?_
    repeat refine wS ?_
    refine eE (by simp only [kA, seval, y3, vint, qC, qR, zStf, zStd, hu2, hb2, hs2, hs3, hs4, hbk, gwr, gwi, lS] <;> with_reducible rfl) (by decide) ?_
    try simp only [thenQ, blockQ]
    refine ⟨(i + 1, u.fin, rv + 1, ns ++ [u.tree], F2), by simp only; omega, ⟨(by first | rfl | (simp only [jN, seval, vint, qC, qR, zStf, zStd] <;> first | done | with_reducible rfl)), (by first | rfl | (simp only [jN, seval, vint, qC, qR, zStf, zStd] <;> first | done | with_reducible rfl)), (by first | rfl | (simp only [jN, seval, vint, qC, qR, zStf, zStd] <;> first | done | with_reducible rfl)), (by first | rfl | (simp only [jN, seval, vint, qC, qR, zStf, zStd] <;> first | done | with_reducible rfl)), (by first | rfl | (simp only [jN, seval, vint, qC, qR, zStf, zStd] <;> first | done | with_reducible rfl)), trivial⟩, by simp only; omega, hv, ⟨cv2, cid2, hs2 _, hk2.fr fun j hj => ?_, hF2, hn2⟩, (f1.trans g2').trans (Fr.set (by rw [hF2]; simp)), by simp; omega, by simp; omega⟩
    have hji : iu ≠ j := by rintro rfl; exact hn2 hj
    rw [List.getElem?_set_ne hji]
 ·-- else t12
  have hi : i = old.length := by have := of_decide_eq_false bt12; omega
  rw [hi, List.drop_length] at hv
  simp only [rpM, Prod.mk.injEq] at hv
  obtain ⟨rfl, rfl, rfl⟩ := hv
  repeat refine wS ?_
  refine awp_exit ?_
  simp only [thenQ, blockQ, reduceIte, Nat.reduceEqDiff, Nat.succ_ne_self, if_true, if_false]
  refine enX ?_
  exact ⟨rfl, _, (by first | exact hU1.app _ | exact hU1), (by first | exact f1.app _ | exact f1)⟩
end Go.Abs
set_option maxRecDepth 4000
namespace Go.Abs
open Go.Proofs
theorem UOk.upd {iu : Nat} {old : List Cd} {tv tv2 cv : PV} {off sh st re off2 sh2 st2 re2 : Int} {nodes : List St} {F cid : List Nat} {H : Heap} (hu : H[iu]? = some (.row [.slice (old.map Cd.enc) .none, tv, .int .i64 off, .int .i64 sh, .int .i64 st, .int .i64 re, cv])) (hk : RwOk St.enc 3 H cv nodes cid) (hF : F = iu :: cid) (hn : iu ∉ cid) :
  UOk iu old tv2 off2 sh2 st2 re2 nodes F (H.set iu (.row [.slice (old.map Cd.enc) .none, tv2, .int .i64 off2, .int .i64 sh2, .int .i64 st2, .int .i64 re2, cv])) :=
 ⟨cv, cid, List.getElem?_set_self (lG hu), hk.fr fun j hj => by rw [List.getElem?_set_ne (by rintro rfl; exact hn hj)], hF, hn⟩
theorem pi_c {iu : Nat} {old : List Cd} {tk : List Tk} {off sh st re : Int} {nodes : List St} {F0 : List Nat} {H0 : Heap} {t : St} {p k n : Nat} {off1 : Int} (hU : UOk iu old (.slice (tk.map Tk.enc) .none) off sh st re nodes F0 H0) (hG : Pre G0 H0) (hlt : tk.length ≤ 1048576) (hz : szL tk ≤ 1048576) (hof : 0 ≤ off ∧ off ≤ 1048576) (hln : nodes.length ≤ 1048576) (hm : itemT tk k n = some (t, p)) (hp : 0 < p) (hpl : p ≤ tk.length) (ho1 : off1 = off + (szL (tk.take p) : Nat)) : ACalls Tryz.prog 33 [.optr iu 0] H0 fun r H' => r = .tup [] ∧ ∃ F', UOk iu old (.slice ((tk.drop p).map Tk.enc) .none) off1 sh st re (nodes ++ [t]) F' H' ∧ Fr F0 F' H0 H' := by
 have em : maxLen = 9223372036854775807 := by decide
 obtain ⟨cv0, cid0, hu0, hk0, hF0, hn0⟩ := hU.ex
 have hul0 := lG hu0
 refine aF (N := 88) Tryz.func33 rfl rfl (by simp) fun hb' => ?_
 refine qT 4 (a5 y24 y32 y66 qR (a3 zStf zStd hu0)) ?_
 refine qA (a4 qR zStf zStd hu0) zgo73 (item_c tk k n (by simp only [lim]; omega) hG hm) ?_
 rintro _ HB ⟨rfl, g1⟩
 have he0 : (HB.length = iu) = False := eq_false (by have := g1.len; omega)
 have heb : (iu = HB.length) = False := eq_false (by have := g1.len; omega)
 refine qX (a5 y38 qR zStf zStd hu0) ?_
 repeat refine wS ?_
 have hp0 : decide ((p : Int) = 0) = false := decide_eq_false (by omega)
 have hu1 : HB[iu]? = some (.row [.slice (old.map Cd.enc) .none, .slice (tk.map Tk.enc) .none, .int .i64 off, .int .i64 sh, .int .i64 st, .int .i64 re, cv0]) := by rw [g1.same iu hul0 (by simp)]; exact hu0
 have hU1 : UOk iu old (.slice (tk.map Tk.enc) .none) off sh st re nodes F0 (HB ++ [.row [.int .i64 t.kind, .str t.text, .slice (t.ch.map St.enc) .none]]) := UOk.app (hU.fr fun i hi => g1.same i (hU.lt i hi) (by simp)) _
 have hbn1 : HB.length ∉ F0 := fun h => by have := hU.lt _ h; have := g1.len; omega
 have f1 : Fr F0 F0 H0 (HB ++ [.row [.int .i64 t.kind, .str t.text, .slice (t.ch.map St.enc) .none]]) := ⟨by have := g1.len; simp; omega, fun id h1 h2 => by have := g1.len; rw [List.getElem?_append_left (by omega)]; exact g1.same id h1 (by simp), fun id h _ => h⟩
 refine awp_abs (fun H => UOk iu old (.slice (tk.map Tk.enc) .none) off sh st re nodes F0 H ∧ Fr F0 F0 H0 H ∧ H[HB.length]? = some (.row [.int .i64 t.kind, .str t.text, .slice (t.ch.map St.enc) .none])) ⟨hU1, f1, by simp⟩ ?_
 rintro H2 ⟨hU2, f2, hb2⟩
 obtain ⟨cv, cid, hu2, hk2, hF1, hn4⟩ := hU2.ex
 have hp1 : ((0 : Int) ≤ (p : Int)) = True := by simp
 have hp2 : ((p : Int) ≤ (tk.length : Int)) = True := eq_true (by omega)
 have hp3 : (tk.map Tk.enc).take p = (tk.take p).map Tk.enc := List.map_take.symm
 have hp5 : (tk.map Tk.enc).drop p = (tk.drop p).map Tk.enc := List.map_drop.symm
 have hp4 : (tk.take p).length = p := by rw [List.length_take]; omega
 have hp6 : (tk.map Tk.enc).take tk.length = tk.map Tk.enc := List.take_of_length_le (by simp)
 have ga : (∀ (q : PV), q ∈ List.map Tk.enc tk → q.cells.length = 2) = True := eq_true fun q hq => by obtain ⟨v, _, rfl⟩ := List.mem_map.1 hq; exact v.enc_len
 refine eE (by simp only [kA, seval, y3, vint, qC, qR, zStf, zStd] <;> with_reducible rfl) (by decide) ?_
 refine qF (a4 qR zStf zStd hp0) ?_
 refine qK ?_
 repeat refine wS ?_
 refine eE (by simp only [kA, seval, y24, y32, y66, vint, qC, qR, zStf, zStd, hu2, hp1, hp2, hp3, ga, jS, tN, List.drop_zero, List.length_map, hp4] <;> with_reducible rfl) (by decide) ?_
 refine qB ?_
 refine awp_loopX (σ := Nat × Int) (fun (z : Nat × Int) => [(0, .optr iu 0), (2, .optr HB.length 0), (3, .int .i64 (p : Int)), (51, .slice ((tk.take p).map Tk.enc) .none), (52, .int .i64 (p : Int)), (53, .int .i64 (z.1 : Int))]) (fun (z : Nat × Int) =>  fun H1 => z.1 ≤ p ∧ z.2 = off + (szL (tk.take z.1) : Nat) ∧ UOk iu old (.slice (tk.map Tk.enc) .none) z.2 sh st re nodes F0 H1 ∧ Fr F0 F0 H0 H1 ∧ H1[HB.length]? = some (.row [.int .i64 t.kind, .str t.text, .slice (t.ch.map St.enc) .none])) (fun (z : Nat × Int) => p - z.1) ((0, off)) ⟨(by first | rfl | (simp only [jN, seval, vint, qC, qR, zStf, zStd] <;> first | done | with_reducible rfl)), (by first | rfl | (simp only [jN, seval, vint, qC, qR, zStf, zStd] <;> first | done | with_reducible rfl)), (by first | rfl | (simp only [jN, seval, vint, qC, qR, zStf, zStd] <;> first | done | with_reducible rfl)), (by first | rfl | (simp only [jN, seval, vint, qC, qR, zStf, zStd] <;> first | done | with_reducible rfl)), (by first | rfl | (simp only [jN, seval, vint, qC, qR, zStf, zStd] <;> first | done | with_reducible rfl)), (by first | rfl | (simp only [jN, seval, vint, qC, qR, zStf, zStd] <;> first | done | with_reducible rfl)), trivial⟩ (⟨Nat.zero_le _, by simp [szL], hU2, f2, hb2⟩) ?_
 intro z H1 hg
 obtain ⟨i, ov⟩ := z
 obtain ⟨hi1, hov, hU3, f3, hb3⟩ := hg
 simp only at hi1 hov hU3
 obtain ⟨cv, cid, hu3, hk3, hF3, hn3⟩ := hU3.ex
 have hul3 := lG hu3
 have qu3 := getL hu3
 have hbl3 := lG hb3
 refine qE (a4 y3 qR zStf zStd) ?_
 refine qI (a3 qR zStf zStd) (fun bt54 => ?_) (fun bt54 => ?_)
 ·-- if t54
  have hi : i < p := by have := of_decide_eq_true bt54; omega
  have hi2 : i < tk.length := by omega
  have g1' := ix_nat hi
  have g2' : ((tk.take p).map Tk.enc)[i]? = some tk[i].enc := by rw [List.getElem?_map, List.getElem?_take_of_lt hi, List.getElem?_eq_getElem hi2]; rfl
  have hs1 : szL (tk.take (i + 1)) = szL (tk.take i) + tk[i].text.length := by rw [take_snoc hi2, szL_snoc]
  have hs2 : szL (tk.take (i + 1)) ≤ szL tk := by (conv => rhs; rw [← List.take_length (l := tk)]); exact szL_take_le hi2
  have gw : IntKind.i64.wrap (ov + (tk[i].text.length : Int)) = ov + tk[i].text.length := wrap_id (by omega) (by omega)
  have gwi : IntKind.i64.wrap ((i : Int) + 1) = ((i + 1 : Nat) : Int) := by rw [wrap_id (by omega) (by omega)]; omega
  have hn7 : ∀ k, (iu = H1.length + k) = False := fun k => eq_false (by omega)
  have hA6 : ∀ o L, (H1 ++ L).set iu o = H1.set iu o ++ L := fun o L => ap6 hul3
  have hlp : (((tk.take p).map Tk.enc).length) = p := by simp; omega
  refine qK ?_
  refine qB ?_
  refine qE (a5 y24 y32 qR zStf (a5 zStd g1' g2' tN hp4)) ?_
  repeat refine wS ?_
  refine awp_draw 0 (by kernel_rfl) ?_
  refine d_end (bm := [0, 1, 3, 7, 0, 16, 48, 127, 255, 511, 1023]) (fresh := (H1.length + 7)) (by kernel_rfl) (by simp only [jD, jO, jN, seval, y3, y9, y32, y66, vint, qC, qR, zStf, zStd, qu3, gw, hA6, hn7] <;> with_reducible rfl) (by decide) ?_
  refine qE (a5 y3 qR zStf zStd gwi) ?_
  try simp only [thenQ, blockQ]
  have hU4 := UOk.upd (tv2 := .slice (tk.map Tk.enc) .none) (off2 := ov + tk[i].text.length) (sh2 := sh) (st2 := st) (re2 := re) hu3 hk3 hF3 hn3
  refine ⟨(i + 1, ov + tk[i].text.length), by simp only; omega, ⟨(by first | rfl | (simp only [jN, seval, vint, qC, qR, zStf, zStd] <;> first | done | with_reducible rfl)), (by first | rfl | (simp only [jN, seval, vint, qC, qR, zStf, zStd] <;> first | done | with_reducible rfl)), (by first | rfl | (simp only [jN, seval, vint, qC, qR, zStf, zStd] <;> first | done | with_reducible rfl)), (by first | rfl | (simp only [jN, seval, vint, qC, qR, zStf, zStd] <;> first | done | with_reducible rfl)), (by first | rfl | (simp only [jN, seval, vint, qC, qR, zStf, zStd] <;> first | done | with_reducible rfl)), (by first | rfl | (simp only [jN, seval, vint, qC, qR, zStf, zStd] <;> first | done | with_reducible rfl)), trivial⟩, by omega, by rw [hs1]; simp only; omega, hU4.app _, (f3.trans (Fr.set (i := iu) (by rw [hF3]; simp))).app _, ?_⟩
  have hbi : iu ≠ HB.length := fun e => hbn1 (e ▸ hU.mem)
  rw [List.getElem?_append_left (by simpa using hbl3), List.getElem?_set_ne hbi]; exact hb3
 ·-- else t54
  have hi : i = p := by have := of_decide_eq_false bt54; omega
  rw [hi, ← ho1] at hov
  rw [hov] at hu3 hU3
  have hs2 : ∀ o, (H1.set iu o)[iu]? = some o := fun o => List.getElem?_set_self hul3
  have hn8 : (iu = H1.length) = False := eq_false (by omega)
  have hbi : iu ≠ HB.length := fun e => hbn1 (e ▸ hU.mem)
  have hs4 : ∀ o, (H1.set iu o)[HB.length]? = some (.row [.int .i64 t.kind, .str t.text, .slice (t.ch.map St.enc) .none]) := fun o => by rw [List.getElem?_set_ne hbi]; exact hb3
  have hbn := hbn1
  have hbl := hbl3
  have f1 := f3
  have hx := hk3
  repeat refine wS ?_
  refine awp_exit ?_
  simp only [thenQ, blockQ, reduceIte, Nat.reduceEqDiff, Nat.succ_ne_self, if_true, if_false]
  repeat refine wS ?_
  refine eE (by simp only [kA, seval, y24, y32, y66, vint, qC, qR, zStf, zStd, hu3, hn8, hp1, hp2, hp5, hp6, ga, jS, tN, List.length_map] <;> with_reducible rfl) (by decide) ?_
  refine awp_abs (fun H => UOk iu old (.slice ((tk.drop p).map Tk.enc) .none) off1 sh st re nodes F0 H ∧ Fr F0 F0 H0 H ∧ H[HB.length]? = some (.row [.int .i64 t.kind, .str t.text, .slice (t.ch.map St.enc) .none]) ∧ HB.length ∉ F0 ∧ HB.length < H.length) ⟨⟨cv, cid, hs2 _, hk3.fr fun j hj => ?_, hF3, hn3⟩, f1.trans (Fr.set (by rw [hF3]; simp)), hs4 _, hbn, by simpa using hbl⟩ ?_
  ·have hji : iu ≠ j := by rintro rfl; exact hn3 hj
   rw [List.getElem?_set_ne hji]
  rintro H5 ⟨hU5, f5, hb, hbn5, hbl5⟩
  obtain ⟨cv, cid, hu, hk, hF1, hn4⟩ := hU5.ex
  have hbn : HB.length ∉ cid := fun h => hbn5 (by rw [hF1]; simp [h])
  rcases rw_cases hk with ⟨hcv, hcid⟩ | ⟨ic0, c0, hcv, hcid⟩
  ·-- case
   subst hcv hcid
   repeat refine wS ?_
   refine awp_drawB 0 (by kernel_rfl) ?_
   refine seg_pure 7 (bm := [0, 1, 3, 7, 0, 15, 0, 127, 255, 511, 255, 1279, 3327]) (by kernel_rfl) (by decide) (by kernel_rfl) (by kernel_rfl) ?_
   refine dp_end (by simp only [jP, jO, jN, seval, y36, y38, y66, vint, qC, qR, zStf, zStd, hu, hb, List.length_map] <;> with_reducible rfl) (by decide) (by repeat (first | exact Fin.base _ | with_reducible apply Fin.keep | apply Fin.drop)) ?_
   refine seg_op (k := 7) (bm := [0, 1, 3, 7, 0, 15, 0, 127, 255, 511, 255, 1279, 3327]) (by kernel_rfl) rfl (by kernel_rfl) (by kernel_rfl) ?_
   refine aops_appRw (enc := St.enc) (sz := 3) St.enc_len cellSt (by decide) (xs := nodes) (a := St.mk 0 [] []) (by simp only [kC, seval, vint, qC, qR, zStf, zStd]) rfl (by decide) (by decide) (by simp only [kC, seval, vint, qC, qR, zStf, zStd] <;> first | done | rfl) (by simp only [kC, seval, vint, qC, qR, zStf, zStd] <;> first | done | rfl) hk zte36 rfl (by show (_ + 1) * 48 ≤ _; omega) (by omega) (by rw [zte36]; rfl) ztz38 zStf ?_
   intro cv3 cid3 HA hk3 hc3 hl3 hs3
   refine oN ?_
   show GoAt _ _ _ _ _ _ _ _
   obtain ⟨he1, _⟩ | ⟨ic, c3, rest3, rfl, rfl, hA, hc3', hm3⟩ := hk3.cases2
   ·simp at he1
   have hu3 : HA[iu]? = some (.row [.slice (old.map Cd.enc) .none, .slice ((tk.drop p).map Tk.enc) .none, .int .i64 off1, .int .i64 sh, .int .i64 st, .int .i64 re, .slice (nodes.map St.enc) .full]) := by rw [hs3 iu (lG hu) hn4]; exact hu
   have hb3 : HA[HB.length]? = some (.row [.int .i64 t.kind, .str t.text, .slice (t.ch.map St.enc) .none]) := by
    rw [hs3 HB.length (lG hb) hbn]; exact hb
   have hic : ic ≠ iu := fun e => by
    rcases hc3 ic (by simp) with h | h
    ·exact hn4 (e ▸ h)
    ·have := lG hu; omega
   have hicb : ic ≠ HB.length := fun e => by
    rcases hc3 ic (by simp) with h | h
    ·exact hbn (e ▸ h)
    ·have := lG hb; omega
   have hil := lG hA
   have hul := lG hu3
   have hbl := lG hb3
   have n1 : (ic == iu) = false := by simpa using hic
   have n2 : (iu == ic) = false := by simpa using Ne.symm hic
   have n3 : (ic = iu) = False := by simpa using hic
   have n4 : (iu = ic) = False := by simpa using Ne.symm hic
   have n5 : ∀ k, (ic = HA.length + k) = False := fun k => eq_false (by omega)
   have n6 : ∀ k, (iu = HA.length + k) = False := fun k => eq_false (by omega)
   have qq1 : ∀ o, (HA.set ic o)[iu]? = some (.row [.slice (old.map Cd.enc) .none, .slice ((tk.drop p).map Tk.enc) .none, .int .i64 off1, .int .i64 sh, .int .i64 st, .int .i64 re, .slice (nodes.map St.enc) .full]) := fun o => by rw [List.getElem?_set_ne hic]; exact hu3
   have hfl : (flatE ((nodes ++ [St.mk 0 [] []]).map St.enc)).length = (nodes.length + 1) * 3 := by rw [flatSt_len]; simp
   have hll : (nodes ++ [St.mk 0 [] []]).length = nodes.length + 1 := by simp
   rw [hll] at hc3'
   obtain ⟨RR, hRR⟩ : ∃ RR, flatE ((nodes ++ [St.mk 0 [] []]).map St.enc) ++ rest3 = RR := ⟨_, rfl⟩
   rw [hRR] at hA
   have lRR : RR.length = c3 * 3 := by rw [← hRR, List.length_append, hfl]; omega
   have gk := ix_nat (n := nodes.length + 1) (i := nodes.length) (by omega)
   have hb4 : (nodes.length * 3 + 3 ≤ c3 * 3) = True := eq_true (by omega)
   have hRR2 : RR = flatE (nodes.map St.enc) ++ PV.int .i64 0 :: PV.str [] :: PV.slice [] .none :: rest3 := by rw [← hRR, flatSt_snoc]; simp [St.kind, St.text, St.ch]
   rw [hll]
   refine seg_draw 5 (bm := [0, 1, 3, 7, 0, 15, 0, 127, 255, 511, 255, 1279, 3327]) (by kernel_rfl) (by decide) (by kernel_rfl) (by kernel_rfl) ?_
   refine d_end (bm := [0, 1, 3, 7, 0, 15, 0, 127, 255, 511, 255, 1279, 3327]) (fresh := HA.length + 7) (by kernel_rfl) (by simp only [jD, jO, jN, seval, y36, y38, y66, vint, qC, qR, zStf, zStd, hA, hu3, hb3, n1, n2, n3, n4, n5, n6, qq1, lRR, gk, hb4, tN] <;> with_reducible rfl) (by decide) ?_
   refine goat_end ?_
   refine enX ?_
   have hfin := u_fin2 (t := t) (H1 := H5) rfl hF1 hu3 hil hic hRR2 hc3' hm3 (hc3 ic (by simp)) hl3 (fun j hj hn => hs3 j hj hn)
   exact ⟨rfl, _, hfin.1, f5.trans hfin.2⟩
  ·-- case
   subst hcv hcid
   repeat refine wS ?_
   refine awp_drawB 0 (by kernel_rfl) ?_
   refine seg_pure 7 (bm := [0, 1, 3, 7, 0, 15, 0, 127, 255, 511, 255, 1279, 3327]) (by kernel_rfl) (by decide) (by kernel_rfl) (by kernel_rfl) ?_
   refine dp_end (by simp only [jP, jO, jN, seval, y36, y38, y66, vint, qC, qR, zStf, zStd, hu, hb, List.length_map] <;> with_reducible rfl) (by decide) (by repeat (first | exact Fin.base _ | with_reducible apply Fin.keep | apply Fin.drop)) ?_
   refine seg_op (k := 7) (bm := [0, 1, 3, 7, 0, 15, 0, 127, 255, 511, 255, 1279, 3327]) (by kernel_rfl) rfl (by kernel_rfl) (by kernel_rfl) ?_
   refine aops_appRw (enc := St.enc) (sz := 3) St.enc_len cellSt (by decide) (xs := nodes) (a := St.mk 0 [] []) (by simp only [kC, seval, vint, qC, qR, zStf, zStd]) rfl (by decide) (by decide) (by simp only [kC, seval, vint, qC, qR, zStf, zStd] <;> first | done | rfl) (by simp only [kC, seval, vint, qC, qR, zStf, zStd] <;> first | done | rfl) hk zte36 rfl (by show (_ + 1) * 48 ≤ _; omega) (by omega) (by rw [zte36]; rfl) ztz38 zStf ?_
   intro cv3 cid3 HA hk3 hc3 hl3 hs3
   refine oN ?_
   show GoAt _ _ _ _ _ _ _ _
   obtain ⟨he1, _⟩ | ⟨ic, c3, rest3, rfl, rfl, hA, hc3', hm3⟩ := hk3.cases2
   ·simp at he1
   have hu3 : HA[iu]? = some (.row [.slice (old.map Cd.enc) .none, .slice ((tk.drop p).map Tk.enc) .none, .int .i64 off1, .int .i64 sh, .int .i64 st, .int .i64 re, .msl ic0 0 nodes.length c0]) := by rw [hs3 iu (lG hu) hn4]; exact hu
   have hb3 : HA[HB.length]? = some (.row [.int .i64 t.kind, .str t.text, .slice (t.ch.map St.enc) .none]) := by
    rw [hs3 HB.length (lG hb) hbn]; exact hb
   have hic : ic ≠ iu := fun e => by
    rcases hc3 ic (by simp) with h | h
    ·exact hn4 (e ▸ h)
    ·have := lG hu; omega
   have hicb : ic ≠ HB.length := fun e => by
    rcases hc3 ic (by simp) with h | h
    ·exact hbn (e ▸ h)
    ·have := lG hb; omega
   have hil := lG hA
   have hul := lG hu3
   have hbl := lG hb3
   have n1 : (ic == iu) = false := by simpa using hic
   have n2 : (iu == ic) = false := by simpa using Ne.symm hic
   have n3 : (ic = iu) = False := by simpa using hic
   have n4 : (iu = ic) = False := by simpa using Ne.symm hic
   have n5 : ∀ k, (ic = HA.length + k) = False := fun k => eq_false (by omega)
   have n6 : ∀ k, (iu = HA.length + k) = False := fun k => eq_false (by omega)
   have qq1 : ∀ o, (HA.set ic o)[iu]? = some (.row [.slice (old.map Cd.enc) .none, .slice ((tk.drop p).map Tk.enc) .none, .int .i64 off1, .int .i64 sh, .int .i64 st, .int .i64 re, .msl ic0 0 nodes.length c0]) := fun o => by rw [List.getElem?_set_ne hic]; exact hu3
   have hfl : (flatE ((nodes ++ [St.mk 0 [] []]).map St.enc)).length = (nodes.length + 1) * 3 := by rw [flatSt_len]; simp
   have hll : (nodes ++ [St.mk 0 [] []]).length = nodes.length + 1 := by simp
   rw [hll] at hc3'
   obtain ⟨RR, hRR⟩ : ∃ RR, flatE ((nodes ++ [St.mk 0 [] []]).map St.enc) ++ rest3 = RR := ⟨_, rfl⟩
   rw [hRR] at hA
   have lRR : RR.length = c3 * 3 := by rw [← hRR, List.length_append, hfl]; omega
   have gk := ix_nat (n := nodes.length + 1) (i := nodes.length) (by omega)
   have hb4 : (nodes.length * 3 + 3 ≤ c3 * 3) = True := eq_true (by omega)
   have hRR2 : RR = flatE (nodes.map St.enc) ++ PV.int .i64 0 :: PV.str [] :: PV.slice [] .none :: rest3 := by rw [← hRR, flatSt_snoc]; simp [St.kind, St.text, St.ch]
   rw [hll]
   refine seg_draw 5 (bm := [0, 1, 3, 7, 0, 15, 0, 127, 255, 511, 255, 1279, 3327]) (by kernel_rfl) (by decide) (by kernel_rfl) (by kernel_rfl) ?_
   refine d_end (bm := [0, 1, 3, 7, 0, 15, 0, 127, 255, 511, 255, 1279, 3327]) (fresh := HA.length + 7) (by kernel_rfl) (by simp only [jD, jO, jN, seval, y36, y38, y66, vint, qC, qR, zStf, zStd, hA, hu3, hb3, n1, n2, n3, n4, n5, n6, qq1, lRR, gk, hb4, tN] <;> with_reducible rfl) (by decide) ?_
   refine goat_end ?_
   refine enX ?_
   have hfin := u_fin2 (t := t) (H1 := H5) rfl hF1 hu3 hil hic hRR2 hc3' hm3 (hc3 ic (by simp)) hl3 (fun j hj hn => hs3 j hj hn)
   exact ⟨rfl, _, hfin.1, f5.trans hfin.2⟩
end Go.Abs
set_option maxRecDepth 4000
namespace Go.Abs
open Go.Proofs
section
variable {P : Program} {N nb : Nat} {ops : Array Oper} {Q : Post}
def allS (ops : Array Oper) : Nat → Array Bool → List (List Nat)
 | 0, _ => [[]]
 | f + 1, listed => match (List.range ops.size).filter (ready ops listed) with
  | [] => [[]]
  | r :: rs => (r :: rs).flatMap fun i => (allS ops f (listed.setIfInBounds i true)).map (i :: ·)
theorem goRem_mem : ∀ (f t : Nat) (listed : Array Bool), goRem ops f t listed ∈ allS ops f listed
 | 0, t, listed => by simp [goRem, allS]
 | f + 1, t, listed => by
  unfold goRem allS
  generalize (List.range ops.size).filter (ready ops listed) = rs
  cases rs with
  | nil => simp
  | cons r rs =>
   have hlt : t % (r :: rs).length < (r :: rs).length := Nat.mod_lt _ (by simp)
   rw [List.getElem?_eq_getElem hlt]
   simp only [List.mem_flatMap, List.mem_map]
   exact ⟨_, List.getElem_mem hlt, _, goRem_mem f _ _, rfl⟩
theorem wpOps_list {Q : Exit → Act → World → Prop} : ∀ (is : List Nat), wpOps P ops Q is = wpList P ops Q (is.filterMap fun i => ops[i]?) := by
 intro is
 induction is with
 | nil => funext a w; simp [wpList, wpOps]
 | cons i is ih =>
  funext a w
  cases ho : ops[i]? with
  | none => simp only [List.filterMap_cons, ho, wpOps, ih]
  | some o => simp only [List.filterMap_cons, ho, wpOps, wpList, ih]
theorem awp_sched {id : Nat} {T : Slots} {H : Heap} (hf : P.follows .mixedOrders = true) (ls : List (List Nat)) (hls : allS ops ops.size (Array.replicate ops.size false) = ls) (h : ∀ is ∈ ls, AOps P N nb ops Q (is.filterMap fun i => ops[i]?) T H) : AWP P N nb (.region id ops true) Q T H := by
 intro E a ho hH ht
 refine wp_region_draw fun t => ?_
 rw [hf]
 simp only [Region.schedule, Bool.true_or, if_true, Region.linearise, go_eq, List.reverse_nil, List.nil_append]
 rw [wpOps_list]
 have hm := goRem_mem (ops := ops) ops.size t (Array.replicate ops.size false)
 rw [hls] at hm
 exact wpList_mono (fun e a w hl => lift_mono (E.drew_le.leN nb) (fun _ _ _ q => q) hl) _ _ _ (h _ hm E.drew a ho.drew hH ht)
theorem awp_coin {id : Nat} {T : Slots} {H : Heap} (d0 d3 : Nat) (hf : P.follows .mixedOrders = true) (hls : allS ops ops.size (Array.replicate ops.size false) = [[0, 1, 2, 3], [0, 2, 1, 3]]) (hok : ops.toList.all (fun o => okOp N o.op) = true)
  (h1 : ∀ l, l = ([0, 1, 2, 3] : List Nat).filterMap (fun i => ops[i]?) → asq P N ops.toList l (some (T, H)) = some (upd (upd T d0 (.optr H.length 0)) d3 (.bool false), H ++ [.row [.bool false]]))
  (h2 : ∀ l, l = ([0, 2, 1, 3] : List Nat).filterMap (fun i => ops[i]?) → asq P N ops.toList l (some (T, H)) = some (upd (upd T d0 (.optr H.length 0)) d3 (.bool true), H ++ [.row [.bool true]]))
  (h : ∀ b : Bool, Q .normal (upd (upd T d0 (.optr H.length 0)) d3 (.bool b)) (H ++ [.row [.bool b]])) : AWP P N nb (.region id ops true) Q T H := by
 refine awp_sched hf _ hls fun is hi => ?_
 have hall : ∀ is : List Nat, (is.filterMap fun i => ops[i]?).all (fun o => okOp N o.op) = true := fun is => by
  rw [List.all_eq_true]
  intro o ho
  obtain ⟨i, _, hi⟩ := List.mem_filterMap.1 ho
  exact List.all_eq_true.1 hok o (by rw [List.mem_iff_getElem?]; exact ⟨i, by simpa using hi⟩)
 simp only [List.mem_cons, List.not_mem_nil, or_false] at hi
 rcases hi with rfl | rfl
 ·exact e_end (h1 _ rfl) (hall _) (h false)
 ·exact e_end (h2 _ rfl) (hall _) (h true)
end
end Go.Abs
namespace Go.Abs
open Go.Proofs
section
variable {P : Program} {N nb : Nat} {ops : Array Oper} {Q : Post}
def GoS (P : Program) (N nb : Nat) (ops : Array Oper) (Q : Post) (f : Nat) (listed : Array Bool) (T : Slots) (H : Heap) : Prop :=
 ∀ (E0 : Env) (t : Nat) (E : Env) (a : Act), E0.leN nb E → E.Ok → E.H = H → TRel E.view N a T → wpOps P ops (lift N nb E0 Q) (goRem ops f t listed) a E.w
def NQ (R : Slots → Heap → Prop) : Post := fun e T H => e = .normal ∧ R T H
theorem GoS.weak {f : Nat} {listed : Array Bool} {T T2 : Slots} {H : Heap} (h : GoS P N nb ops Q f listed T2 H) (hw : ∀ i, T2 i = .junk ∨ T2 i = T i) : GoS P N nb ops Q f listed T H :=
 fun E0 t E a hle ho hH ht => h E0 t E a hle ho hH (trel_weak ht hw)
theorem gos_nil {listed : Array Bool} {T : Slots} {H : Heap} (h : Q .normal T H) : GoS P N nb ops Q 0 listed T H :=
 fun E0 t E a hle ho hH ht => ⟨E, T, rfl, hle, ho, ht, hH ▸ h⟩
theorem gos_step {f : Nat} {listed : Array Bool} {T : Slots} {H : Heap} (rs : List Nat) (hrs : (List.range ops.size).filter (ready ops listed) = rs) (hne : rs ≠ [])
  (h : ∀ i ∈ rs, ∀ o, ops[i]? = some o → AOps P N nb ops (thenQ (GoS P N nb ops Q f (listed.setIfInBounds i true)) Q) [o] T H) : GoS P N nb ops Q (f + 1) listed T H := by
 intro E0 t E a hle ho hH ht
 unfold goRem
 rw [hrs]
 have hlt : t % rs.length < rs.length := Nat.mod_lt _ (List.length_pos_iff.2 hne)
 rw [List.getElem?_eq_getElem hlt]
 have hm := List.getElem_mem hlt
 generalize rs[t % rs.length] = i at hm
 generalize t / rs.length = t2
 have hi : i < ops.size := by rw [← hrs] at hm; exact List.mem_range.1 (List.mem_filter.1 hm).1
 have hok' : ops[i]? = some ops[i] := Array.getElem?_eq_getElem hi
 have hgo := h i hm _ hok' E a ho hH ht
 generalize ops[i] = o at hok' hgo
 unfold wpList at hgo
 simp only
 unfold wpOps
 rw [hok']
 simp only
 have hnorm : ∀ a w, lift N nb E (thenQ (GoS P N nb ops Q f (listed.setIfInBounds i true)) Q) .normal a w → wpOps P ops (lift N nb E0 Q) (goRem ops f t2 (listed.setIfInBounds i true)) a w := by
  rintro a w ⟨E', T', rfl, h2, h3, h4, h5⟩
  exact h5 E0 t2 E' a (hle.trans h2) h3 rfl h4
 have hbad : ∀ e a w, e ≠ .normal → lift N nb E (thenQ (GoS P N nb ops Q f (listed.setIfInBounds i true)) Q) e a w → lift N nb E0 Q e a w := by
  intro e a w hne hx
  obtain ⟨E', T', h1, h2, h3, h4, h5⟩ := hx
  refine ⟨E', T', h1, hle.trans h2, h3, h4, ?_⟩
  cases e with
  | normal => exact (hne rfl).elim
  | _ => exact h5
 have hout : LetsOut (lift N nb E (thenQ (GoS P N nb ops Q f (listed.setIfInBounds i true)) Q)) → LetsOut (lift N nb E0 Q) := fun ⟨a, w, x⟩ => ⟨a, w, hbad _ _ _ (by simp) x⟩
 split at hgo
 ·rename_i hw
  rw [if_pos hw]
  rcases hgo with hgo | ⟨h1, h2⟩
  ·left
   unfold Oper.wp at hgo ⊢
   generalize (execOp a.eval o).run P E.w = r at hgo ⊢
   unfold Oper.upon at hgo ⊢
   split at hgo
   ·exact hnorm _ _ hgo
   ·exact hnorm _ _ hgo
   ·exact hnorm _ _ hgo
   ·refine hgo.mono fun e w'' he => ?_
    cases e with
    | returned v => exact hnorm _ _ he
    | panicked ch => exact hbad _ _ _ (by simp) he
    | outgrown => exact hout he
   ·exact hgo.mono fun v w'' he => hnorm _ _ he
   ·exact hbad _ _ _ (by simp) hgo
   ·exact hgo.elim
  ·exact .inr ⟨h1, hout h2⟩
 ·rename_i hw
  rw [if_neg hw]
  exact hnorm _ _ hgo
theorem awp_gos {id : Nat} {T : Slots} {H : Heap} (R : Slots → Heap → Prop) (hf : P.follows .mixedOrders = true) (h : ∀ ops' R', ops' = ops → R' = R → GoS P N nb ops' (NQ R') ops.size (Array.replicate ops.size false) T H) (hr : ∀ T' H', R T' H' → Q .normal T' H') : AWP P N nb (.region id ops true) Q T H := by
 intro E a ho hH ht
 refine wp_region_draw fun t => ?_
 rw [hf]
 simp only [Region.schedule, Bool.true_or, if_true, Region.linearise, go_eq, List.reverse_nil, List.nil_append]
 rw [wpOps_list]
 have := h ops R rfl rfl E t E.drew a (E.drew_le.leN nb) ho.drew hH ht
 rw [wpOps_list] at this
 refine wpList_mono (fun e a w hl => ?_) _ _ _ this
 obtain ⟨E', T', h1, h2, h3, h4, rfl, h6⟩ := hl
 exact ⟨E', T', h1, h2, h3, h4, hr _ _ h6⟩
theorem zX {X : Prop} {f : Nat} {listed : Array Bool} {T T' : Slots} {H H' : Heap} {l : List Oper} {m : List (Nat × PV)} (x : X) (h : GoS P N nb ops Q f listed (mkS m) H') (hs : X → asq P N ops.toList l (some (T, H)) = some (T', H') := by intro z; simp only [kA, seval, vint, qC, z] <;> with_reducible rfl) (hok : l.all (fun o => okOp N o.op) = true := by decide)
  (hw : Fits T' m := by
   try simp only [List.cons_append, List.nil_append]
   repeat (first | exact trivial | refine ⟨rfl, ?_⟩)) : AOps P N nb ops (thenQ (GoS P N nb ops Q f listed) Q) l T H := e_end (hs x) hok (h.weak (mkS_weak hw))
section
variable {f : Nat} {listed : Array Bool} {T : Slots} {H : Heap} {o1 o2 o3 : Oper}
theorem zs1 (i1 : Nat) (e1 : ops[i1]? = some o1) (h1 : AOps P N nb ops (thenQ (GoS P N nb ops Q f (listed.setIfInBounds i1 true)) Q) [o1] T H) (hrs : (List.range ops.size).filter (ready ops listed) = [i1] := by kernel_rfl) : GoS P N nb ops Q (f + 1) listed T H :=
 gos_step _ hrs (by simp) fun i hi o ho => by
  simp only [List.mem_cons, List.not_mem_nil, or_false] at hi
  subst hi
  obtain rfl := Option.some.inj (e1.symm.trans ho)
  exact h1
theorem zs2 (i1 i2 : Nat) (e1 : ops[i1]? = some o1) (e2 : ops[i2]? = some o2) (h1 : AOps P N nb ops (thenQ (GoS P N nb ops Q f (listed.setIfInBounds i1 true)) Q) [o1] T H) (h2 : AOps P N nb ops (thenQ (GoS P N nb ops Q f (listed.setIfInBounds i2 true)) Q) [o2] T H) (hrs : (List.range ops.size).filter (ready ops listed) = [i1, i2] := by kernel_rfl) : GoS P N nb ops Q (f + 1) listed T H :=
 gos_step _ hrs (by simp) fun i hi o ho => by
  simp only [List.mem_cons, List.not_mem_nil, or_false] at hi
  rcases hi with rfl | rfl
  ·obtain rfl := Option.some.inj (e1.symm.trans ho); exact h1
  ·obtain rfl := Option.some.inj (e2.symm.trans ho); exact h2
theorem zs3 (i1 i2 i3 : Nat) (e1 : ops[i1]? = some o1) (e2 : ops[i2]? = some o2) (e3 : ops[i3]? = some o3) (h1 : AOps P N nb ops (thenQ (GoS P N nb ops Q f (listed.setIfInBounds i1 true)) Q) [o1] T H) (h2 : AOps P N nb ops (thenQ (GoS P N nb ops Q f (listed.setIfInBounds i2 true)) Q) [o2] T H) (h3 : AOps P N nb ops (thenQ (GoS P N nb ops Q f (listed.setIfInBounds i3 true)) Q) [o3] T H) (hrs : (List.range ops.size).filter (ready ops listed) = [i1, i2, i3] := by kernel_rfl) : GoS P N nb ops Q (f + 1) listed T H :=
 gos_step _ hrs (by simp) fun i hi o ho => by
  simp only [List.mem_cons, List.not_mem_nil, or_false] at hi
  rcases hi with rfl | rfl | rfl
  ·obtain rfl := Option.some.inj (e1.symm.trans ho); exact h1
  ·obtain rfl := Option.some.inj (e2.symm.trans ho); exact h2
  ·obtain rfl := Option.some.inj (e3.symm.trans ho); exact h3
end
end
end Go.Abs
