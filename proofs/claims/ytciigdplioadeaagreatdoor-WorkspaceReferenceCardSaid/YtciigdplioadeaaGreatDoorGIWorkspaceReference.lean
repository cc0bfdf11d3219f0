/- Part 9 of a proof of the law WorkspaceReference: Go data as trees, the walks of the functions that the law reaches, the plain laws. -/
import Derived.Test.YtciigdplioadeaaGreatDoorGHWorkspaceReference
import Derived.Laws.StructEq
import Derived.KernelRfl
import GoSem.ClaimJoined
import Derived.ChangeArms
import Derived.Carry
import Derived.SizedLaws
import Derived.JoinedCond
import Derived.Deep.CondSized
import Derived.OpenShut
import Derived.JoinedOf
set_option linter.unusedVariables false
set_option linter.unusedSimpArgs false
set_option maxRecDepth 4000
namespace Go.Abs
open Go.Proofs
def builtS : List Sy := [⟨15, -1, -1, -1, [105, 110, 116], false⟩, ⟨15, -1, -1, -1, [98, 111, 111, 108], false⟩, ⟨15, -1, -1, -1, [115, 116, 114, 105, 110, 103], false⟩, ⟨15, -1, -1, -1, [83, 101, 108, 102], false⟩]
def modSym (ms : List Md) (i : Nat) : Sy := ⟨1, (i : Int), -1, -1, (ms.getD i ⟨[], []⟩).name, true⟩
def listS (ms : List Md) : List Nd → Nat → List Sy → List Sy
 | [], _, ss => ss
 | t :: ts, i, ss => listS ms ts (i + 1) (visS (i : Int) t (ss.length : Int) false (ss ++ [modSym ms i]))
theorem Fr.split {F' : List Nat} {H H' : Heap} (a : Fr [] F' H H') : ∃ L, H' = H ++ L := by
 refine ⟨H'.drop H.length, List.ext_getElem? fun i => ?_⟩
 rcases Nat.lt_or_ge i H.length with h | h
 ·rw [List.getElem?_append_left h]; exact a.same i h (by simp)
 ·rw [List.getElem?_append_right h, List.getElem?_drop]; congr 1; omega
theorem list_s {H0 : Heap} (ms : List Md) (ts : List Nd) (hl : ts.length ≤ ms.length) (hsz : 4 + ndSizes ts + (ts.length - 0) ≤ lim) : ACalls Tryz.prog 18 [.slice (ms.map Md.enc) .none, .slice (ts.map Nd.enc) .none] H0 fun r H' => r = .slice ((listS ms ts 0 builtS).map Sy.enc) .none ∧ H' = H0 := by
 have hmx : maxLen = 9223372036854775807 := by decide
 have hlm' : lim = 1099511627776 := rfl
 have hkl := ndSizes_len ts
 refine keeps_of (N := 71) Tryz.func18 rfl rfl (by simp) (bel_Sy _ _) fun hb' => ?_
 repeat refine wS ?_
 refine eE (by simp only [kA, seval, vint, NdS, NdF, qW, qM] <;> with_reducible rfl) (by decide) ?_
 repeat refine wS ?_
 refine eE (by simp only [kA, seval, y55, vint, NdS, NdF, qW, qM] <;> with_reducible rfl) (by decide) ?_
 repeat refine wS ?_
 refine awp_retok_row H0.length 1 6 (cs := [.int .i64 0, .slice [] .full]) (by simp) rfl ?_
 refine awp_abs (fun H2 => CS H0.length (H0.length + 1) 0 [] H2 ∧ Fr [] [H0.length, H0.length + 1] H0 H2) ?_ ?_
 ·refine ⟨⟨?_, ?_, by omega⟩, ⟨by simp, fun id h1 h2 => ?_, fun id h hl => ?_⟩⟩
  ·simp
  ·simp
  ·simp [List.getElem?_append_left, h1, Nat.lt_succ_of_lt h1, List.getElem?_set, Nat.ne_of_gt h1]
  ·simp only [List.mem_cons, List.not_mem_nil, or_false] at h; omega
 rintro H2 ⟨hS2, f2⟩
 refine eE (by simp only [kA, seval, y9, y56, vint, NdS, NdF, qW, qM] <;> with_reducible rfl) (by decide) ?_
 repeat refine wS ?_
 refine awp_block ?_
 refine awp_loopX (σ := Nat) (fun (z : Nat) => [(0, .slice (ms.map Md.enc) .none), (1, .slice (ts.map Nd.enc) .none), (5, .optr H0.length 0), (12, .slice (builtS.map fun s => PV.str s.name) .full), (13, vint 4), (14, vint (z : Int))]) (fun (z : Nat) =>  fun H1 => z ≤ 4 ∧ CS H0.length (H0.length + 1) 0 (builtS.take z) H1 ∧ Fr [] [H0.length, H0.length + 1] H0 H1) (fun (z : Nat) => 4 - z) (0) ⟨(by first | rfl | (simp only [jN, seval, vint, NdS, NdF, qW, qM] <;> first | done | with_reducible rfl)), (by first | rfl | (simp only [jN, seval, vint, NdS, NdF, qW, qM] <;> first | done | with_reducible rfl)), (by first | rfl | (simp only [jN, seval, vint, NdS, NdF, qW, qM] <;> first | done | with_reducible rfl)), (by first | rfl | (simp only [jN, seval, vint, NdS, NdF, qW, qM] <;> first | done | with_reducible rfl)), (by first | rfl | (simp only [jN, seval, vint, NdS, NdF, qW, qM] <;> first | done | with_reducible rfl)), (by first | rfl | (simp only [jN, seval, vint, NdS, NdF, qW, qM] <;> first | done | with_reducible rfl)), trivial⟩ (⟨Nat.zero_le _, hS2, f2⟩) ?_
 intro z H1 hg
 obtain ⟨hj, hSj, fj⟩ := hg
 rcases Nat.lt_or_ge z 4 with hi | hi
 ·-- case
  obtain ⟨hC, hB, hne⟩ := id hSj
  have lic := lG hC
  have lit := lG hB
  have qC := getL hC
  have qB := getL hB
  have nic : (H0.length = H1.length) = False := by simp; omega
  have nit : (H0.length + 1 = H1.length) = False := by simp; omega
  have nib : ∀ k, (H0.length = H1.length + k) = False := fun k => by simp; omega
  have nitk : ∀ k, (H0.length + 1 = H1.length + k) = False := fun k => by simp; omega
  have bic : (H0.length == H1.length) = false := by simp; omega
  have bit : (H0.length + 1 == H1.length) = false := by simp; omega
  have gi : (0 ≤ ((z : Nat) : Int) ∧ ((z : Nat) : Int) < 4) = True := by simp; omega
  have gl : decide ((z : Int) < 4) = true := decide_eq_true (by omega)
  have gwj : IntKind.i64.wrap ((z : Int) + 1) = ((z + 1 : Nat) : Int) := by rw [wrap_id (by omega) (by omega)]; omega
  have hb4 : z < builtS.length := hi
  have ge : (builtS.map fun s => PV.str s.name)[z]? = some (.str builtS[z].name) := by rw [List.getElem?_map, List.getElem?_eq_getElem hb4]; rfl
  have gb : builtS[z] = ⟨15, -1, -1, -1, builtS[z].name, false⟩ := by
   have : z = 0 ∨ z = 1 ∨ z = 2 ∨ z = 3 := by omega
   rcases this with rfl | rfl | rfl | rfl <;> rfl
  have htk : builtS.take (z + 1) = builtS.take z ++ [⟨15, -1, -1, -1, builtS[z].name, false⟩] := by rw [List.take_succ_eq_append_getElem hb4, ← gb]
  have hlt : (builtS.take z).length = z := by simp [builtS]; omega
  have hap := app_Sy (us := builtS.take z) (u := ⟨15, -1, -1, -1, builtS[z].name, false⟩) (id := H0.length + 1) (tl := .full) (by rw [hlt]; omega)
  have g4 : (builtS.map fun s => PV.str s.name).length = 4 := rfl
  have qS : ∀ (o : AObj), (H1.set (H0.length + 1) o)[H0.length]? = some (.row [.int .i64 0, .slice ((builtS.take z).map Sy.enc) (.tok (H0.length + 1))]) := fun o => by rw [List.getElem?_set_ne (by omega)]; exact hC
  repeat refine wS ?_
  refine eE (by simp only [kA, seval, y3, vint, NdS, NdF, qW, qM, gi, ge, gl, gwj, tN, g4, hap, qS, lS, nitk, hC, hB, qC, qB, nic, nit, nib, bic, bit] <;> with_reducible rfl) (by decide) ?_
  repeat refine wS ?_
  refine awp_cond_true rfl (by simp only [jN, seval, vint, NdS, NdF, qW, qM, gi, ge, gl, gwj, tN, g4, hap, qS, lS, nitk, hC, hB, qC, qB, nic, nit, nib, bic, bit] <;> with_reducible rfl) ?_
  repeat refine wS ?_
  refine wK ?_
  repeat refine wS ?_
  refine awp_block ?_
  repeat refine wS ?_
  refine eE (by simp only [kA, seval, y9, y56, vint, NdS, NdF, qW, qM, gi, ge, gl, gwj, tN, g4, hap, qS, lS, nitk, hC, hB, qC, qB, nic, nit, nib, bic, bit] <;> with_reducible rfl) (by decide) ?_
  repeat refine wS ?_
  refine eE (by simp only [kA, seval, y28, y33, y55, vint, NdS, NdF, qW, qM, gi, ge, gl, gwj, tN, g4, hap, qS, lS, nitk, hC, hB, qC, qB, nic, nit, nib, bic, bit] <;> with_reducible rfl) (by decide) ?_
  refine wL [0, 1, 5, 12, 13, 14] (by simp only [jN, seval, vint, NdS, NdF, qW, qM, gi, ge, gl, gwj, tN, g4, hap, qS, lS, nitk, hC, hB, qC, qB, nic, nit, nib, bic, bit] <;> with_reducible rfl) ?_
  repeat refine wS ?_
  refine eE (by simp only [kA, seval, y3, vint, NdS, NdF, qW, qM, gi, ge, gl, gwj, tN, g4, hap, qS, lS, nitk, hC, hB, qC, qB, nic, nit, nib, bic, bit] <;> with_reducible rfl) (by decide) ?_
  try simp only [thenQ, blockQ]
  refine ⟨z + 1, by omega, ⟨rfl, rfl, rfl, rfl, rfl, rfl, trivial⟩, by omega, ?_⟩
  rw [htk]
  refine ⟨⟨?_, ?_, hne⟩, ⟨?_, fun id h1 h2 => ?_, fun id h hl => ?_⟩⟩
  ·simp [List.getElem?_set, lic, lit]
  ·simp [List.getElem?_set, lic, lit, hlt]
  ·have := fj.len; simp; omega
  ·have hlj := fj.len
   have e1 : id ≠ H0.length := by omega
   have e2 : id ≠ H0.length + 1 := by omega
   rw [← fj.same id h1 h2]
   simp [List.getElem?_set, Ne.symm e1, Ne.symm e2]
  ·simp only [List.mem_cons, List.not_mem_nil, or_false] at h; omega
 ·-- case
  have gl : decide ((z : Int) < 4) = false := decide_eq_false (by omega)
  obtain rfl : z = 4 := by omega
  have hS4 : CS H0.length (H0.length + 1) 0 builtS H1 := hSj
  have f4 := fj
  repeat refine wS ?_
  refine eE (by simp only [kA, seval, y3, vint, NdS, NdF, qW, qM, gl] <;> with_reducible rfl) (by decide) ?_
  repeat refine wS ?_
  refine wF rfl (by simp only [jN, seval, vint, NdS, NdF, qW, qM, gl] <;> with_reducible rfl) ?_
  repeat refine wS ?_
  refine awp_exit ?_
  simp only [thenQ, blockQ, reduceIte, Nat.reduceEqDiff, Nat.succ_ne_self, if_true, if_false]
  repeat refine wS ?_
  refine eE (by simp only [kA, seval, y40, y48, vint, NdS, NdF, qW, qM, gl] <;> with_reducible rfl) (by decide) ?_
  repeat refine wS ?_
  refine awp_block ?_
  refine awp_loopX (σ := Nat × Int × List Sy) (fun (z : Nat × Int × List Sy) => [(0, .slice (ms.map Md.enc) .none), (5, .optr H0.length 0), (30, .slice (ts.map Nd.enc) .none), (31, vint (ts.length : Int)), (32, vint (z.1 : Int))]) (fun (z : Nat × Int × List Sy) =>  fun H2 => z.1 ≤ ts.length ∧ z.2.2.length + ndSizes (ts.drop z.1) + (ts.length - z.1) ≤ lim ∧ listS ms (ts.drop z.1) z.1 z.2.2 = listS ms ts 0 builtS ∧ CS H0.length (H0.length + 1) z.2.1 z.2.2 H2 ∧ Fr [] [H0.length, H0.length + 1] H0 H2) (fun (z : Nat × Int × List Sy) => ts.length - z.1) ((0, 0, builtS)) ⟨(by first | rfl | (simp only [jN, seval, vint, NdS, NdF, qW, qM, gl] <;> first | done | with_reducible rfl)), (by first | rfl | (simp only [jN, seval, vint, NdS, NdF, qW, qM, gl] <;> first | done | with_reducible rfl)), (by first | rfl | (simp only [jN, seval, vint, NdS, NdF, qW, qM, gl] <;> first | done | with_reducible rfl)), (by first | rfl | (simp only [jN, seval, vint, NdS, NdF, qW, qM, gl] <;> first | done | with_reducible rfl)), (by first | rfl | (simp only [jN, seval, vint, NdS, NdF, qW, qM, gl] <;> first | done | with_reducible rfl)), trivial⟩ (⟨Nat.zero_le _, by simp only [List.drop_zero]; exact hsz, rfl, hS4, f4⟩) ?_
  intro z H2 hg
  obtain ⟨j, mj, sj⟩ := z
  obtain ⟨hj, hlj, hmj, hSj, fj⟩ := hg
  simp only at hj hlj hmj hSj fj
  rcases Nat.lt_or_ge j ts.length with hi | hi
  ·-- case
   obtain ⟨hC, hB, hne⟩ := id hSj
   have lic := lG hC
   have lit := lG hB
   have qC := getL hC
   have qB := getL hB
   have nic : (H0.length = H2.length) = False := by simp; omega
   have nit : (H0.length + 1 = H2.length) = False := by simp; omega
   have nib : ∀ k, (H0.length = H2.length + k) = False := fun k => by simp; omega
   have nitk : ∀ k, (H0.length + 1 = H2.length + k) = False := fun k => by simp; omega
   have bic : (H0.length == H2.length) = false := by simp; omega
   have bit : (H0.length + 1 == H2.length) = false := by simp; omega
   have gi := ix_nat hi
   have ge := get_enc Nd.enc hi
   have him : j < ms.length := by omega
   have gi2 := ix_nat him
   have ge2 := get_enc Md.enc him
   have gl : decide ((j : Int) < (ts.length : Int)) = true := decide_eq_true (by omega)
   have gwj : IntKind.i64.wrap ((j : Int) + 1) = ((j + 1 : Nat) : Int) := by rw [wrap_id (by omega) (by omega)]; omega
   rw [List.drop_eq_getElem_cons hi, listS] at hmj
   rw [List.drop_eq_getElem_cons hi, ndSizes] at hlj
   have hms : modSym ms j = ⟨1, (j : Int), -1, -1, ms[j].name, true⟩ := by unfold modSym; rw [List.getD_eq_getElem?_getD, List.getElem?_eq_getElem him]; rfl
   have hap := app_Sy (us := sj) (u := ⟨1, (j : Int), -1, -1, ms[j].name, true⟩) (id := H0.length + 1) (tl := .full) (by omega)
   have hvl := visS_len (j : Int) ts[j] (sj.length : Int) false (sj ++ [modSym ms j])
   have qS : ∀ (L : Heap) (o : AObj), ((H2 ++ L).set H0.length o)[H0.length]? = some o := fun L o => List.getElem?_set_self (by simp; omega)
   have qSb : ∀ (L : Heap) (o : AObj), ((H2 ++ L).set H0.length o)[H0.length + 1]? = some (.buf sj.length 6) := fun L o => by rw [List.getElem?_set_ne (by omega)]; exact qB L
   have qSS : ∀ (L : Heap) (o o2 : AObj), (((H2 ++ L).set H0.length o).set (H0.length + 1) o2)[H0.length]? = some o := fun L o o2 => by rw [List.getElem?_set_ne (by omega)]; exact qS L o
   repeat refine wS ?_
   refine eE (by simp only [kA, seval, y3, vint, NdS, NdF, qW, qM, gl, gi, ge, gl, gwj, tN, Nd.enc_len, gi2, ge2, Md.enc_len, hap, qS, qSb, qSS, nitk, hC, hB, qC, qB, nic, nit, nib, bic, bit] <;> with_reducible rfl) (by decide) ?_
   repeat refine wS ?_
   refine awp_cond_true rfl (by simp only [jN, seval, vint, NdS, NdF, qW, qM, gl, gi, ge, gl, gwj, tN, Nd.enc_len, gi2, ge2, Md.enc_len, hap, qS, qSb, qSS, nitk, hC, hB, qC, qB, nic, nit, nib, bic, bit] <;> with_reducible rfl) ?_
   repeat refine wS ?_
   refine wK ?_
   repeat refine wS ?_
   refine awp_block ?_
   repeat refine wS ?_
   refine eE (by simp only [kA, seval, y40, y48, vint, NdS, NdF, qW, qM, gl, gi, ge, gl, gwj, tN, Nd.enc_len, gi2, ge2, Md.enc_len, hap, qS, qSb, qSS, nitk, hC, hB, qC, qB, nic, nit, nib, bic, bit] <;> with_reducible rfl) (by decide) ?_
   repeat refine wS ?_
   refine eE (by simp only [kA, seval, y3, y55, vint, NdS, NdF, qW, qM, gl, gi, ge, gl, gwj, tN, Nd.enc_len, gi2, ge2, Md.enc_len, hap, qS, qSb, qSS, nitk, hC, hB, qC, qB, nic, nit, nib, bic, bit] <;> with_reducible rfl) (by decide) ?_
   repeat refine wS ?_
   refine awp_draw 0 (by kernel_rfl) ?_
   refine d_take (bm := [0, 0, 2, 6, 14, 0, 0, 0, 192, 448, 960, 2016, 4064, 8190, 16383, 32767, 65535]) 10 (fresh := (H2.length + 1)) (by kernel_rfl) (by simp only [jD, jO, jN, seval, y22, y28, y33, y36, y55, vint, NdS, NdF, qW, qM, gl, gi, ge, gl, gwj, tN, Nd.enc_len, gi2, ge2, Md.enc_len, hap, qS, qSb, qSS, nitk, hC, hB, qC, qB, nic, nit, nib, bic, bit] <;> with_reducible rfl) (by decide) (by decide) ?_
   refine d_end (bm := [0, 0, 2, 6, 14, 0, 0, 0, 192, 448, 960, 2016, 4064, 8190, 16383, 32767, 65535]) (fresh := (H2.length + 1)) (by kernel_rfl) (by simp only [jD, jO, jN, seval, y9, y28, y33, y55, vint, NdS, NdF, qW, qM, gl, gi, ge, gl, gwj, tN, Nd.enc_len, gi2, ge2, Md.enc_len, hap, qS, qSb, qSS, nitk, hC, hB, qC, qB, nic, nit, nib, bic, bit] <;> with_reducible rfl) (by decide) ?_
   refine wL [0, 1, 5, 9, 12, 13, 14, 30, 31, 32] (by simp only [jN, seval, vint, NdS, NdF, qW, qM, gl, gi, ge, gl, gwj, tN, Nd.enc_len, gi2, ge2, Md.enc_len, hap, qS, qSb, qSS, nitk, hC, hB, qC, qB, nic, nit, nib, bic, bit] <;> with_reducible rfl) ?_
   repeat refine wS ?_
   refine awp_abs (fun H3 => CS H0.length (H0.length + 1) (j : Int) (sj ++ [modSym ms j]) H3 ∧ Fr [] [H0.length, H0.length + 1] H0 H3 ∧ H3[H2.length]? = some (.row [.int .i64 ts[j].kind, .int .i64 ts[j].value, .str ts[j].text, .int .i64 ts[j].st, .int .i64 ts[j].en, .int .i64 ts[j].ns, .slice (ts[j].kids.map Nd.enc) .none])) ?_ ?_
   ·rw [hms]
    refine ⟨⟨?_, ?_, hne⟩, ⟨?_, fun id h1 h2 => ?_, fun id h hl => ?_⟩, ?_⟩
    ·simp [List.getElem?_append_left, List.getElem?_set, lic, lit, hne, Ne.symm hne]
    ·simp [List.getElem?_append_left, List.getElem?_set, lic, lit, hne, Ne.symm hne]
    ·have := fj.len; simp; omega
    ·have hlj := fj.len
     have e1 : id ≠ H0.length := by omega
     have e2 : id ≠ H0.length + 1 := by omega
     rw [← fj.same id h1 h2]
     have hid : id < H2.length := by omega
     simp [List.getElem?_set, Ne.symm e1, Ne.symm e2, List.getElem?_append_left hid]
    ·simp only [List.mem_cons, List.not_mem_nil, or_false] at h; omega
    ·simp [List.getElem?_set, lic, lit, Nat.ne_of_lt lic, Nat.ne_of_lt lit]
   rintro H3 ⟨hS3, f3, hn3⟩
   obtain ⟨hC3, hB3, _⟩ := id hS3
   have gw : IntKind.i64.wrap (((sj.length + 1 : Nat) : Int) - 1) = (sj.length : Int) := by rw [wrap_id (by omega) (by omega)]; omega
   have haL : (sj ++ [modSym ms j]).length = sj.length + 1 := by simp
   repeat refine wS ?_
   refine awp_drawB 0 (by kernel_rfl) ?_
   refine seg_pure 8 (bm := [0, 0, 0, 4, 12, 28, 60, 124, 255]) (by kernel_rfl) (by decide) (by kernel_rfl) (by kernel_rfl) ?_
   refine dp_end (by simp only [jP, jO, jN, seval, y3, y28, y33, y48, y55, vint, NdS, NdF, qW, qM, hC3, hn3, haL, gw, List.length_map] <;> with_reducible rfl) (by decide) (by repeat (first | exact Fin.base _ | with_reducible apply Fin.keep | apply Fin.drop)) ?_
   refine seg_op (k := 8) (bm := [0, 0, 0, 4, 12, 28, 60, 124, 255]) (by kernel_rfl) rfl (by kernel_rfl) (by kernel_rfl) ?_
   refine oC (by simp only [kC, seval, vint, NdS, NdF, qW, qM, hC3, hn3, haL, gw, List.length_map] <;> with_reducible rfl) (by simp only [kC, seval]) (by decide) Tryzgo21 (visit_a _ ts[j] (Nat.le_refl _) (j : Int) (sj.length : Int) false (sj ++ [modSym ms j]) H0.length (H0.length + 1) H3 (by rw [haL]; omega) hS3) ?_
   rintro _ H4 ⟨rfl, hSk, fk⟩
   refine oN ?_
   show GoAt _ _ _ _ _ _ _ _
   refine goat_end ?_
   repeat refine wS ?_
   refine eE (by simp only [kA, seval, y3, vint, NdS, NdF, qW, qM, gl, gi, ge, gl, gwj, tN, Nd.enc_len, gi2, ge2, Md.enc_len, hap, qS, qSb, qSS, nitk, hC, hB, qC, qB, nic, nit, nib, bic, bit] <;> with_reducible rfl) (by decide) ?_
   try simp only [thenQ, blockQ]
   refine ⟨(j + 1, (j : Int), _), by show ts.length - (j + 1) < ts.length - j; omega, ⟨rfl, rfl, rfl, rfl, rfl, trivial⟩, hi, ?_, hmj, hSk, f3.trans fk⟩
   show (visS (j : Int) ts[j] (sj.length : Int) false (sj ++ [modSym ms j])).length + ndSizes (ts.drop (j + 1)) + (ts.length - (j + 1)) ≤ lim
   rw [haL] at hvl
   omega
  ·-- case
   have gl : decide ((j : Int) < (ts.length : Int)) = false := decide_eq_false (by omega)
   rw [List.drop_eq_nil_of_le hi, listS] at hmj
   obtain ⟨hC, hB, hne⟩ := id hSj
   obtain ⟨L9, rfl⟩ := fj.split
   repeat refine wS ?_
   refine eE (by simp only [kA, seval, y3, vint, NdS, NdF, qW, qM, gl, gl, hC] <;> with_reducible rfl) (by decide) ?_
   repeat refine wS ?_
   refine wF rfl (by simp only [jN, seval, vint, NdS, NdF, qW, qM, gl, gl, hC] <;> with_reducible rfl) ?_
   repeat refine wS ?_
   refine awp_exit ?_
   simp only [thenQ, blockQ, reduceIte, Nat.reduceEqDiff, Nat.succ_ne_self, if_true, if_false]
   repeat refine wS ?_
   refine eE (by simp only [kA, seval, y28, y33, y55, vint, NdS, NdF, qW, qM, gl, gl, hC] <;> with_reducible rfl) (by decide) ?_
   repeat refine wS ?_
   exact wT ⟨.inr rfl, _, L9, rfl, by rw [← hmj]; rfl, rfl⟩
end Go.Abs
namespace Go.Abs
inductive FT where
  | int | str | bool
def FT.ty (P : Program) : FT → TypeId → Prop
  | .int, t => P.underlying t = some (.int .i64)
  | .str, t => P.underlying t = some .string
  | .bool, t => P.underlying t = some .bool
def FT.fit : FT → PV → Bool
  | .int, .int .i64 _ => true
  | .str, .str _ => true
  | .bool, .bool _ => true
  | _, _ => false
def flatEq : PV → PV → Bool
  | .int _ a, .int _ b => decide (a = b)
  | .str a, .str b => decide (a = b)
  | .bool a, .bool b => decide (a = b)
  | _, _ => false
def flatsEq : List PV → List PV → Bool
  | [], [] => true
  | x :: xs, y :: ys => flatEq x y && flatsEq xs ys
  | _, _ => false
structure FlatAt (P : Program) (t : TypeId) (ks : List FT) : Prop where
  ex : ∃ fs : List Field, P.underlying t = some (.struct fs.toArray) ∧ fs.length = ks.length ∧ ∀ (i : Nat) (h : i < fs.length) (h2 : i < ks.length), fs[i].name ≠ "_" ∧ fs[i].offset = i ∧ (ks[i]).ty P fs[i].type
  held : P.stoodInHeld t = false
  gu : P.eqGuardType P.depth t = false
section
variable {P : Program} {V : View}
theorem isAgg_flat {k : FT} {t : TypeId} (h : k.ty P t) (w : World) : (isAgg t).run P w = .ok false w := by
  cases k <;> (unfold FT.ty at h; unfold isAgg; simp only [Sem.run_bind, run_underlying h, Result.andThen_ok]; rfl)
theorem part_flat {k : FT} {t : TypeId} (h : k.ty P t) {xs : Array Value} {i : Nat} (hi : i < xs.size) (w : World) : (part t xs i).run P w = .ok (xs.getD i undef) w := by
  unfold part
  simp only [Sem.run_bind, isAgg_flat h, Result.andThen_ok, Bool.false_eq_true, if_false, Array.getD_eq_getD_getElem?, Array.getElem?_eq_getElem hi]
  rfl
theorem eq_flat {k : FT} {t : TypeId} (h : k.ty P t) {v v' : Value} {p p' : PV} (hv : VRel V v p) (hv' : VRel V v' p') (hf : k.fit p = true) (hf' : k.fit p' = true) (d : Nat) (w : World) :
    (Op.equalIn (d + 1) t v v').run P w = .ok (flatEq p p') w := by
  cases k with
  | int =>
    cases hv with
    | int k n =>
      cases hv' with
      | int k' n' =>
        have e : k = .i64 := by cases k <;> first | rfl | simp [FT.fit] at hf
        have e' : k' = .i64 := by cases k' <;> first | rfl | simp [FT.fit] at hf'
        subst e; subst e'
        rw [run_equalIn_int w d t _ _ _ _ h]
        have e : (n == n') = decide (n = n') := by rw [Bool.eq_iff_iff]; simp
        rw [e]; rfl
      | _ => simp [FT.fit] at hf'
    | _ => simp [FT.fit] at hf
  | str =>
    cases hv with
    | str s =>
      cases hv' with
      | str s' =>
        rw [run_equalIn_string w d t _ _ h]
        congr 1
        show (s.toList == s'.toList) = decide (s.data.toList = s'.data.toList)
        rw [ByteArray.toList_eq, ByteArray.toList_eq, Bool.eq_iff_iff]; simp
      | _ => simp [FT.fit] at hf'
    | _ => simp [FT.fit] at hf
  | bool =>
    cases hv with
    | bool b =>
      cases hv' with
      | bool b' =>
        rw [run_equalIn_bool w d t _ _ h]
        have e : (b == b') = decide (b = b') := by rw [Bool.eq_iff_iff]; simp
        rw [e]; rfl
      | _ => simp [FT.fit] at hf'
    | _ => simp [FT.fit] at hf
theorem run_flats {xs ys : Array Value} {ps qs : List PV} (hx : VRel V (.agg xs) (.agg ps)) (hy : VRel V (.agg ys) (.agg qs)) (d : Nat) (w : World) : ∀ (fs : List Field) (ks : List FT) (off : Nat), fs.length = ks.length →
    (∀ (i : Nat) (h : i < fs.length) (h2 : i < ks.length), fs[i].name ≠ "_" ∧ fs[i].offset = off + i ∧ (ks[i]).ty P fs[i].type) → ps.length = off + fs.length → qs.length = off + fs.length →
    (∀ (i : Nat) (h : i < ks.length) (h1 : off + i < ps.length) (h2 : off + i < qs.length), (ks[i]).fit ps[off + i] = true ∧ (ks[i]).fit qs[off + i] = true) →
    (Op.eqFields (d + 1) xs ys fs).run P w = .ok (flatsEq (ps.drop off) (qs.drop off)) w
  | [], ks, off, hl, _, hp, hq, _ => by
    rw [List.drop_eq_nil_of_le (by simp at hp; omega), List.drop_eq_nil_of_le (by simp at hq; omega)]
    rfl
  | f :: fs, [], off, hl, _, _, _, _ => by simp at hl
  | f :: fs, k :: ks, off, hl, hF, hp, hq, hfit => by
    have h0 := hF 0 (by simp) (by simp)
    simp only [List.getElem_cons_zero, Nat.add_zero] at h0
    obtain ⟨n0, o0, t0⟩ := h0
    have lp : off < ps.length := by simp at hp; omega
    have lq : off < qs.length := by simp at hq; omega
    have ff := hfit 0 (by simp) lp lq
    simp only [List.getElem_cons_zero, Nat.add_zero] at ff
    obtain ⟨sx, rx⟩ : xs.size = ps.length ∧ VRel V (xs.getD off undef) ps[off] := by cases hx with | agg _ _ a b => exact ⟨a, b off lp⟩
    obtain ⟨sy, ry⟩ : ys.size = qs.length ∧ VRel V (ys.getD off undef) qs[off] := by cases hy with | agg _ _ a b => exact ⟨a, b off lq⟩
    have ih := run_flats hx hy d w fs ks (off + 1) (by simpa using hl) (fun i h h2 => by
      have := hF (i + 1) (by simp; omega) (by simp; omega)
      simp only [List.getElem_cons_succ] at this
      rw [show off + 1 + i = off + (i + 1) by omega]; exact this) (by simp at hp; omega) (by simp at hq; omega) (fun i h h1 h2 => by
      have := hfit (i + 1) (by simp; omega) (by omega) (by omega)
      simp only [List.getElem_cons_succ] at this
      have e : off + 1 + i = off + (i + 1) := by omega
      simp only [e]; exact this)
    rw [List.drop_eq_getElem_cons lp, List.drop_eq_getElem_cons lq]
    simp only [Op.eqFields, if_pos n0, Sem.run_bind, o0, part_flat t0 (show off < xs.size by omega), part_flat t0 (show off < ys.size by omega), Result.andThen_ok, eq_flat t0 rx ry ff.1 ff.2, Sem.run_ite, Sem.run_pure, ih, flatsEq]
    cases flatEq ps[off] qs[off] <;> simp
theorem run_flat {t : TypeId} {ks : List FT} (F : FlatAt P t ks) {xs ys : Array Value} {ps qs : List PV} (hx : VRel V (.agg xs) (.agg ps)) (hy : VRel V (.agg ys) (.agg qs)) (hp : ps.length = ks.length) (hq : qs.length = ks.length)
    (fp : ∀ (i : Nat) (h : i < ks.length) (h1 : i < ps.length) (h2 : i < qs.length), (ks[i]).fit ps[i] = true ∧ (ks[i]).fit qs[i] = true) (w : World) : (Op.equal t (.agg xs) (.agg ys)).run P w = .ok (flatsEq ps qs) w := by
  obtain ⟨fs, ut, hl, hF⟩ := F.ex
  have hf : P.fieldsOf t = fs.toArray := by unfold Program.fieldsOf; rw [ut]
  show (Op.equalIn (9999 + 1) t _ _).run P w = _
  rw [run_equalIn_struct w 9999 t _ _ (by rw [hf]; exact ut) F.held, hf]
  have := run_flats (P := P) hx hy 9998 w fs ks 0 hl (fun i h h2 => by rw [Nat.zero_add]; exact hF i h h2) (by omega) (by omega) (fun i h h1 h2 => by simp only [Nat.zero_add]; exact fp i h (by omega) (by omega))
  simpa using this
def fitsB : List FT → List PV → Bool
  | [], [] => true
  | k :: ks, p :: ps => k.fit p && fitsB ks ps
  | _, _ => false
theorem fitsB_len : ∀ {ks : List FT} {ps : List PV}, fitsB ks ps = true → ps.length = ks.length
  | [], [], _ => rfl
  | [], _ :: _, h => by cases h
  | _ :: _, [], h => by cases h
  | k :: ks, p :: ps, h => by simp only [fitsB, Bool.and_eq_true] at h; simp [fitsB_len h.2]
theorem fitsB_at : ∀ {ks : List FT} {ps : List PV}, fitsB ks ps = true → ∀ (i : Nat) (h : i < ks.length) (h1 : i < ps.length), (ks[i]).fit ps[i] = true
  | [], _, _ => fun i h => by simp at h
  | _ :: _, [], h => by cases h
  | k :: ks, p :: ps, h => fun i h1 h2 => by
    simp only [fitsB, Bool.and_eq_true] at h
    cases i with
    | zero => exact h.1
    | succ i => exact fitsB_at h.2 i (by simpa using h1) (by simpa using h2)
theorem aops_eqlFlat {N nb : Nat} {ops : Array Oper} {Q : Post} {o : Oper} {l : List Oper} {T : Slots} {G : Nat → Bool} {H : Heap} {t y' : TypeId} {x y : Operand} {ks : List FT} {ps qs : List PV} (F : FlatAt P t ks)
    (hop : o.op = .binOp .eql t x y y') (hx : aev T x = .agg ps) (hy : aev T y = .agg qs) (fx : fitsB ks ps = true) (fy : fitsB ks qs = true) (hc : gcond ops.toList T G N o = some true) (hg : o.op.operands.toList.all (gOk true G) = true) (okx : okOpnd N x = true) (oky : okOpnd N y = true)
    (h : AOps P N nb ops Q l (msk (.tup []) (updO T o.dst (.bool (flatsEq ps qs))) (ugO G o.dst true)) H) : AOps P N nb ops Q (o :: l) (msk (.tup []) T G) H := by
  refine aops_gval hc hg (fun E A ho he => ?_) h
  have rx := he x (by rw [hop]; simp [Op.operands]) okx
  have ry := he y (by rw [hop]; simp [Op.operands]) oky
  rw [hx] at rx; rw [hy] at ry
  generalize hvx : A.eval x = vx at rx
  generalize hvy : A.eval y = vy at ry
  cases rx with
  | agg xs _ a1 a2 =>
    cases ry with
    | agg ys _ b1 b2 =>
      have g : ∀ w, (eqGuard .eql t x y (.agg xs) (.agg ys)).run P w = .ok () w := fun w => by
        unfold eqGuard
        simp only [Sem.run_bind, run_program, Result.andThen_ok, F.gu, Bool.not_false, if_true, Sem.run_ite, Sem.run_pure]
        split <;> rfl
      refine ⟨.bool (flatsEq ps qs), ?_, .bool _⟩
      unfold execOp
      rw [hop]
      simp only [Sem.run_bind, hvx, hvy, g, Result.andThen_ok, binOp, run_flat F (.agg xs _ a1 a2) (.agg ys _ b1 b2) (fitsB_len fx) (fitsB_len fy) (fun i h h1 h2 => ⟨fitsB_at fx i h h1, fitsB_at fy i h h2⟩), Sem.run_pure]
end
end Go.Abs
namespace Go.Abs
open Go.Proofs
def srcS : List UInt8 := [102, 110, 32, 102, 40, 97, 58, 32, 105, 110, 116, 41, 32, 123, 125]
def mdS : Md := ⟨[109, 97, 105, 110], srcS⟩
def ndS : Nd := .mk 1 0 [] 0 15 (-1) [(.mk 3 0 [102] 0 15 (3) [(.mk 10 0 [] 4 4 (-1) []), (.mk 12 0 [] 5 12 (-1) [(.mk 13 0 [97] 5 11 (5) [(.mk 17 0 [] 8 11 (-1) [(.mk 18 0 [105, 110, 116] 8 11 (8) [])])])]), (.mk 0 0 [] 12 12 (-1) []), (.mk 21 0 [] 13 15 (-1) [(.mk 0 0 [] 14 14 (-1) [])])])]
def sy5 : Sy := ⟨2, 0, 3, 4, [102], false⟩
def sy6 : Sy := ⟨10, 0, 5, 5, [97], false⟩
def syS : List Sy := builtS ++ [⟨1, 0, -1, -1, [109, 97, 105, 110], true⟩, sy5, sy6]
theorem par_S : parseAllM 40 40 [mdS] = some [ndS] := by kernel_rfl
theorem val_S : validM [mdS] = 0 := by kernel_rfl
theorem lst_S : listS [mdS] [ndS] 0 builtS = syS := by kernel_rfl
theorem siz_S : 4 + ndSizes [ndS] + ([ndS].length - 0) ≤ lim := of_decide_eq_true (by kernel_rfl)
theorem listS_c {H : Heap} : ACalls Tryz.prog 18 [.slice ([mdS].map Md.enc) .none, .slice ([ndS].map Nd.enc) .none] H fun r H' => r = .slice (syS.map Sy.enc) .none ∧ H' = H := by
 have h := list_s (H0 := H) [mdS] [ndS] (Nat.le_refl _) siz_S
 rw [lst_S] at h; exact h
def oneM (src : List UInt8) : List Md := [⟨[109, 97, 105, 110], src⟩]
theorem sy_at : FlatAt Tryz.prog 33 [.int, .int, .int, .int, .str, .bool] := ⟨⟨_, Tryz.underlying33, rfl, fun i h h2 => by
 match i, h2 with
 | 0, _ => exact ⟨by simp, rfl, Tryz.underlying3⟩
 | 1, _ => exact ⟨by simp, rfl, Tryz.underlying3⟩
 | 2, _ => exact ⟨by simp, rfl, Tryz.underlying3⟩
 | 3, _ => exact ⟨by simp, rfl, Tryz.underlying3⟩
 | 4, _ => exact ⟨by simp, rfl, Tryz.underlying9⟩
 | 5, _ => exact ⟨by simp, rfl, Tryz.underlying4⟩⟩, by kernel_rfl, by kernel_rfl⟩
theorem one_c (src : List UInt8) : PC Tryz.prog 10 [.str src] (.slice ((oneM src).map Md.enc) .none) := by
 refine pc_of (N := 6) Tryz.func10 rfl rfl (by simp) (by simp [Bel.str]) (bel_Md _ _) ?_
 repeat refine wS ?_
 refine eE (by simp only [kA, seval, vint, NdS, NdF, qW, qM] <;> with_reducible rfl) (by decide) ?_
 repeat refine wS ?_
 refine eE (by simp only [kA, seval, y22, y36, vint, NdS, NdF, qW, qM] <;> with_reducible rfl) (by decide) ?_
 repeat refine wS ?_
 refine wT ⟨.inr rfl, _, rfl, ?_⟩
 rfl
theorem colS_c {H0 : Heap} (hG : Pre G0 H0) : ACalls Tryz.prog 9 [.slice ([mdS].map Md.enc) .none] H0 fun r H' => r = .tup [.slice (syS.map Sy.enc) .none, vint 0] ∧ Fr [] [] H0 H' := by
 refine aF (N := 19) Tryz.func9 rfl rfl (by simp) fun hb' => ?_
 repeat refine wS ?_
 refine eE (by simp only [kA, seval, vint, NdS, NdF, qW, qM] <;> with_reducible rfl) (by decide) ?_
 repeat refine wS ?_
 refine wR ?_
 refine eT 1 (by simp only [kA, seval, vint, NdS, NdF, qW, qM] <;> with_reducible rfl) (by decide) ?_
 refine oC (by simp only [kC, seval, vint, NdS, NdF, qW, qM] <;> with_reducible rfl) (by simp only [kC, seval]) (by decide) Tryzgo17 (parseAll_c hG 40 40 [mdS] (by decide) (by decide) (by decide) val_S par_S) ?_
 rintro _ H1 ⟨rfl, f1⟩
 refine e_end (by simp only [kA, seval, vint, NdS, NdF, qW, qM] <;> with_reducible rfl) (by decide) ?_
 repeat refine wS ?_
 refine eE (by simp only [kA, seval, y24, vint, NdS, NdF, qW, qM] <;> with_reducible rfl) (by decide) ?_
 repeat refine wS ?_
 refine wF rfl (by simp only [jN, seval, vint, NdS, NdF, qW, qM] <;> with_reducible rfl) ?_
 repeat refine wS ?_
 refine wK ?_
 repeat refine wS ?_
 refine wR ?_
 refine eT 2 (by simp only [kA, seval, vint, NdS, NdF, qW, qM] <;> with_reducible rfl) (by decide) ?_
 refine oP (by simp only [kC, seval, vint, NdS, NdF, qW, qM] <;> with_reducible rfl) (by simp only [kC, seval]) (by decide) Tryzgo18 (listS_c) ?_
 refine e_end (by simp only [kA, seval, vint, NdS, NdF, qW, qM] <;> with_reducible rfl) (by decide) ?_
 repeat refine wS ?_
 refine wT ⟨.inr rfl, _, (ares_two (.tmp 2) (.tmp 3) rfl (ares_tmp1 (by decide)) (ares_tmp1 (by decide))), ?_⟩
 exact ⟨rfl, f1⟩
theorem symEx_c {H0 : Heap} (hG : Pre G0 H0) : ACalls Tryz.prog 4 [] H0 fun r H' => r = .bool true ∧ Fr [] [] H0 H' := by
 refine aF (N := 29) Tryz.func4 rfl rfl (by simp) fun hb' => ?_
 repeat refine wS ?_
 refine eE (by simp only [kA, seval, vint, NdS, NdF, qW, qM] <;> with_reducible rfl) (by decide) ?_
 repeat refine wS ?_
 refine wR ?_
 refine oP (by simp only [kC, seval, vint, NdS, NdF, qW, qM, srcS] <;> with_reducible rfl) (by simp only [kC, seval]) (by decide) Tryzgo10 (one_c srcS _) ?_
 refine oC (by simp only [kC, seval, vint, NdS, NdF, qW, qM, mdS, srcS, oneM] <;> with_reducible rfl) (by simp only [kC, seval]) (by decide) Tryzgo9 (colS_c hG) ?_
 rintro _ H1 ⟨rfl, f1⟩
 refine e_end (by simp only [kA, seval, vint, NdS, NdF, qW, qM] <;> with_reducible rfl) (by decide) ?_
 repeat refine wS ?_
 refine wR ?_
 refine aops_gstart ?_
 refine g_take 12 (by simp only [jG, jO, jN, seval, y3, y24, y28, y33, vint, NdS, NdF, qW, qM, syS, sy5, sy6, builtS] <;> with_reducible rfl) (by decide) ?_
 refine aops_eqlFlat (ps := sy5.enc.cells) (qs := sy5.enc.cells) sy_at rfl (by simp only [kE, seval, vint, NdS, NdF, qW, qM] <;> first | done | rfl) (by simp only [kE, seval, vint, NdS, NdF, qW, qM] <;> first | done | rfl) rfl rfl (by simp only [kE, seval, vint, NdS, NdF, qW, qM] <;> first | done | rfl) (by simp only [kE, seval, vint, NdS, NdF, qW, qM] <;> first | done | rfl) (by decide) (by decide) ?_
 rw [show flatsEq sy5.enc.cells sy5.enc.cells = true from by kernel_rfl]
 refine g_take 6 (by simp only [jG, jO, jN, seval, y28, y33, vint, NdS, NdF, qW, qM, syS, sy5, sy6, builtS] <;> with_reducible rfl) (by decide) ?_
 refine aops_eqlFlat (ps := sy6.enc.cells) (qs := sy6.enc.cells) sy_at rfl (by simp only [kE, seval, vint, NdS, NdF, qW, qM] <;> first | done | rfl) (by simp only [kE, seval, vint, NdS, NdF, qW, qM] <;> first | done | rfl) rfl rfl (by simp only [kE, seval, vint, NdS, NdF, qW, qM] <;> first | done | rfl) (by simp only [kE, seval, vint, NdS, NdF, qW, qM] <;> first | done | rfl) (by decide) (by decide) ?_
 rw [show flatsEq sy6.enc.cells sy6.enc.cells = true from by kernel_rfl]
 refine g_end (by simp only [jG, jO, jN, seval, vint, NdS, NdF, qW, qM, syS, sy5, sy6, builtS] <;> with_reducible rfl) (by decide) (by repeat (first | exact Fin.base _ | with_reducible apply Fin.keep | apply Fin.drop)) ?_
 repeat refine wS ?_
 refine wT ⟨.inr rfl, _, rfl, ?_⟩
 exact ⟨rfl, f1⟩
def wsErr (ms : List Md) : Int := if ms.any tooBig = true then 2 else if decide ((ms.length : Int) > 8) = true then 2 else if ms.any badName = true then 3 else if (List.range ms.length).any (dupAt ms) = true then 6 else 0
theorem wsErr_eq (ms : List Md) : wsErr ms = validM ms := by
 unfold wsErr validM
 cases decide ((ms.length : Int) > 8) <;> cases ms.any tooBig <;> rfl
theorem wsErr_c {H : Heap} (hG : Pre G0 H) (ms : List Md) (hl : ms.length ≤ maxLen) (hn : ∀ m ∈ ms, m.name.length ≤ maxLen) : ACalls Tryz.prog 6 [.slice (ms.map Md.enc) .none] H fun r H' => r = vint (wsErr ms) ∧ H' = H := by
 unfold wsErr
 refine keeps_of (N := 49) Tryz.func6 rfl rfl (by simp) (.int _ _) fun hb' => ?_
 repeat refine wS ?_
 refine eE (by simp only [kA, seval, vint, NdS, NdF, qW, qM] <;> with_reducible rfl) (by decide) ?_
 repeat refine wS ?_
 refine eE (by simp only [kA, seval, y22, y36, vint, NdS, NdF, qW, qM] <;> with_reducible rfl) (by decide) ?_
 repeat refine wS ?_
 refine awp_forS (σ := Unit) (ms.length) (fun (s : Unit) => [(0, .slice (ms.map Md.enc) .none), (9, .slice (ms.map Md.enc) .none)]) [0, 9] (H) (fun (s : Unit) => []) (fun (i : Nat) (s : Unit) => (ms.take i).any tooBig = false) (()) ([]) rfl rfl rfl rfl rfl rfl rfl rfl rfl (by decide) (by decide) (by decide) (fun _ => rfl) (hl) ⟨(by first | rfl | (simp only [jN, seval, vint, NdS, NdF, qW, qM] <;> first | done | with_reducible rfl)), (by first | rfl | (simp only [jN, seval, vint, NdS, NdF, qW, qM] <;> first | done | with_reducible rfl)), (by first | rfl | (simp only [jN, seval, vint, NdS, NdF, qW, qM] <;> first | done | with_reducible rfl)), (by first | rfl | (simp only [jN, seval, vint, NdS, NdF, qW, qM] <;> first | done | with_reducible rfl)), trivial⟩ (by first | rfl | (simp only [jN, seval, vint, NdS, NdF, qW, qM] <;> first | done | with_reducible rfl)) (by simp) (fun _ _ _ => by first | exact Nat.zero_le _ | (simp only [List.length_append]; omega)) ?_ ?_ ?_
 ·exact fun i s hg => ⟨by first | exact hbel_nil _ | (simp only [List.append_nil]; assumption) | (refine hbel_app' hb' (by simp) ?_; repeat (first | exact hbel_nil _ | exact trivial | exact obel_row_nil _ | (refine HBel.cons ?_ ?_) | (refine obel_row_cons (by first | exact Md.bel _ _ | exact Dg.bel _ _ | exact bel_Md _ _ | exact bel_Dg _ _ | exact Tk.bel _ _ | exact St.bel _ _ | exact Nd.bel _ _ | exact bel_strs0 _ _ | exact bel_St _ _ | exact bel_ints0 _ _ | exact bel_Nd _ _ | exact bel_nil0 _ | exact bel_nil1 _ | exact Bel.optr _ _ (by first | (simp; done) | (simp; omega)) | exact Bel.int _ _ | exact Bel.bool _ | exact Bel.str _ | exact Bel.nilp | exact Bel.nilfn | exact Bel.optr _ _ (by simp) | exact bel_nil0 _ | exact bel_nil1 _ | exact bel_fn0 _ _ | assumption | exact bel_Md _ _) ?_))), by repeat (first | exact BelL.nil | refine BelL.cons (by first | exact Md.bel _ _ | exact Dg.bel _ _ | exact bel_Md _ _ | exact bel_Dg _ _ | exact Tk.bel _ _ | exact St.bel _ _ | exact Nd.bel _ _ | exact bel_strs0 _ _ | exact bel_St _ _ | exact bel_ints0 _ _ | exact bel_Nd _ _ | exact bel_nil0 _ | exact bel_nil1 _ | exact Bel.optr _ _ (by first | (simp; done) | (simp; omega)) | exact Bel.int _ _ | exact Bel.bool _ | exact Bel.str _ | exact Bel.nilp | exact Bel.nilfn | exact Bel.optr _ _ (by simp) | exact bel_nil0 _ | exact bel_nil1 _ | exact bel_fn0 _ _ | assumption | exact bel_Md _ _) ?_)⟩
 ·intro i s hi hg
  have g1 := ix_nat hi
  have g2 := get_enc Md.enc hi
  repeat refine wS ?_
  refine eE (by simp only [kA, seval, y22, y36, vint, NdS, NdF, qW, qM, g1, tN, g2, Md.enc_len] <;> with_reducible rfl) (by decide) ?_
  repeat refine wS ?_
  refine eE (by simp only [kA, seval, y3, y9, y36, vint, NdS, NdF, qW, qM, g1, tN, g2, Md.enc_len] <;> with_reducible rfl) (by decide) ?_
  repeat refine wS ?_
  refine wC rfl (by simp only [jN, seval, vint, NdS, NdF, qW, qM, g1, tN, g2, Md.enc_len] <;> with_reducible rfl) (fun bt18 => ?_) (fun bt18 => ?_)
  ·-- if t18
   rw [if_pos (List.any_eq_true.2 ⟨_, List.getElem_mem hi, (show tooBig ms[i] = true from bt18)⟩)]
   repeat refine wS ?_
   refine eE (by simp only [kA, seval, vint, NdS, NdF, qW, qM, g1, tN, g2, Md.enc_len] <;> with_reducible rfl) (by decide) ?_
   repeat refine wS ?_
   refine wT ⟨.inr rfl, _, _, rfl, ?_, (by first | exact (List.append_nil _).symm | rfl)⟩
   exact rfl
  ·-- else t18
   repeat refine wS ?_
   refine wK ?_
   exact ⟨⟨rfl, rfl, trivial⟩, (), [.row [.str ms[i].name, .str ms[i].src]], ⟨rfl, rfl, trivial⟩, by simp, any_take_succ hi hg (show tooBig ms[i] = false from bt18)⟩
 ·intro s hg
  rw [List.take_length] at hg
  rw [if_neg (by rw [hg]; simp)]
  repeat refine wS ?_
  refine eE (by simp only [kA, seval, y3, y22, y36, vint, NdS, NdF, qW, qM] <;> with_reducible rfl) (by decide) ?_
  repeat refine wS ?_
  refine wC rfl (by simp only [jN, seval, vint, NdS, NdF, qW, qM] <;> with_reducible rfl) (fun bt22 => ?_) (fun bt22 => ?_)
  ·-- if t22
   rw [if_pos bt22]
   repeat refine wS ?_
   refine eE (by simp only [kA, seval, vint, NdS, NdF, qW, qM] <;> with_reducible rfl) (by decide) ?_
   repeat refine wS ?_
   refine wT ⟨.inr rfl, _, _, rfl, ?_, (by first | exact (List.append_nil _).symm | rfl)⟩
   exact rfl
  ·-- else t22
   rw [if_neg (by rw [bt22]; simp)]
   repeat refine wS ?_
   refine wK ?_
   repeat refine wS ?_
   refine eE (by simp only [kA, seval, y22, y36, vint, NdS, NdF, qW, qM] <;> with_reducible rfl) (by decide) ?_
   repeat refine wS ?_
   refine awp_forS (σ := Unit) (ms.length) (fun (s : Unit) => [(0, .slice (ms.map Md.enc) .none), (23, .slice (ms.map Md.enc) .none)]) [0, 23] (H) (fun (s : Unit) => []) (fun (i : Nat) (s : Unit) => (ms.take i).any badName = false) (()) ([]) rfl rfl rfl rfl rfl rfl rfl rfl rfl (by decide) (by decide) (by decide) (fun _ => rfl) (hl) ⟨(by first | rfl | (simp only [jN, seval, vint, NdS, NdF, qW, qM] <;> first | done | with_reducible rfl)), (by first | rfl | (simp only [jN, seval, vint, NdS, NdF, qW, qM] <;> first | done | with_reducible rfl)), (by first | rfl | (simp only [jN, seval, vint, NdS, NdF, qW, qM] <;> first | done | with_reducible rfl)), (by first | rfl | (simp only [jN, seval, vint, NdS, NdF, qW, qM] <;> first | done | with_reducible rfl)), trivial⟩ (by first | rfl | (simp only [jN, seval, vint, NdS, NdF, qW, qM] <;> first | done | with_reducible rfl)) (by simp) (fun _ _ _ => by first | exact Nat.zero_le _ | (simp only [List.length_append]; omega)) ?_ ?_ ?_
   ·exact fun i s hg => ⟨by first | exact hbel_nil _ | (simp only [List.append_nil]; assumption) | (refine hbel_app' hb' (by simp) ?_; repeat (first | exact hbel_nil _ | exact trivial | exact obel_row_nil _ | (refine HBel.cons ?_ ?_) | (refine obel_row_cons (by first | exact Md.bel _ _ | exact Dg.bel _ _ | exact bel_Md _ _ | exact bel_Dg _ _ | exact Tk.bel _ _ | exact St.bel _ _ | exact Nd.bel _ _ | exact bel_strs0 _ _ | exact bel_St _ _ | exact bel_ints0 _ _ | exact bel_Nd _ _ | exact bel_nil0 _ | exact bel_nil1 _ | exact Bel.optr _ _ (by first | (simp; done) | (simp; omega)) | exact Bel.int _ _ | exact Bel.bool _ | exact Bel.str _ | exact Bel.nilp | exact Bel.nilfn | exact Bel.optr _ _ (by simp) | exact bel_nil0 _ | exact bel_nil1 _ | exact bel_fn0 _ _ | assumption | exact bel_Md _ _) ?_))), by repeat (first | exact BelL.nil | refine BelL.cons (by first | exact Md.bel _ _ | exact Dg.bel _ _ | exact bel_Md _ _ | exact bel_Dg _ _ | exact Tk.bel _ _ | exact St.bel _ _ | exact Nd.bel _ _ | exact bel_strs0 _ _ | exact bel_St _ _ | exact bel_ints0 _ _ | exact bel_Nd _ _ | exact bel_nil0 _ | exact bel_nil1 _ | exact Bel.optr _ _ (by first | (simp; done) | (simp; omega)) | exact Bel.int _ _ | exact Bel.bool _ | exact Bel.str _ | exact Bel.nilp | exact Bel.nilfn | exact Bel.optr _ _ (by simp) | exact bel_nil0 _ | exact bel_nil1 _ | exact bel_fn0 _ _ | assumption | exact bel_Md _ _) ?_)⟩
   ·intro i s hi hg
    have g1 := ix_nat hi
    have g2 := get_enc Md.enc hi
    repeat refine wS ?_
    refine eE (by simp only [kA, seval, y22, y36, vint, NdS, NdF, qW, qM, g1, tN, g2, Md.enc_len] <;> with_reducible rfl) (by decide) ?_
    repeat refine wS ?_
    refine wR ?_
    refine eT 2 (by simp only [kA, seval, y9, y36, vint, NdS, NdF, qW, qM, g1, tN, g2, Md.enc_len] <;> with_reducible rfl) (by decide) ?_
    refine oP (by simp only [kC, seval, vint, NdS, NdF, qW, qM, g1, tN, g2, Md.enc_len] <;> with_reducible rfl) (by simp only [kC, seval]) (by decide) Tryzgo14 (isId_c ms[i].name (hn _ (List.getElem_mem hi)) _ (hG.app _)) ?_
    refine e_end (by simp only [kA, seval, vint, NdS, NdF, qW, qM, g1, tN, g2, Md.enc_len] <;> with_reducible rfl) (by decide) ?_
    repeat refine wS ?_
    refine wC rfl (by simp only [jN, seval, vint, NdS, NdF, qW, qM, g1, tN, g2, Md.enc_len] <;> with_reducible rfl) (fun bt32 => ?_) (fun bt32 => ?_)
    ·-- if t32
     rw [if_pos (List.any_eq_true.2 ⟨_, List.getElem_mem hi, (show badName ms[i] = true from bt32)⟩)]
     repeat refine wS ?_
     refine eE (by simp only [kA, seval, vint, NdS, NdF, qW, qM, g1, tN, g2, Md.enc_len] <;> with_reducible rfl) (by decide) ?_
     repeat refine wS ?_
     refine wT ⟨.inr rfl, _, _, rfl, ?_, (by first | exact (List.append_nil _).symm | rfl)⟩
     exact rfl
    ·-- else t32
     repeat refine wS ?_
     refine wK ?_
     exact ⟨⟨rfl, rfl, trivial⟩, (), [.row [.str ms[i].name, .str ms[i].src]], ⟨rfl, rfl, trivial⟩, by simp, any_take_succ hi hg (show badName ms[i] = false from bt32)⟩
   ·intro s hg
    rw [List.take_length] at hg
    rw [if_neg (by rw [hg]; simp)]
    repeat refine wS ?_
    refine eE (by simp only [kA, seval, y22, y36, vint, NdS, NdF, qW, qM] <;> with_reducible rfl) (by decide) ?_
    repeat refine wS ?_
    refine awp_forS (σ := Unit) (ms.length) (fun (s : Unit) => [(0, .slice (ms.map Md.enc) .none), (34, .slice (ms.map Md.enc) .none)]) [0, 34] (H) (fun (s : Unit) => []) (fun (i : Nat) (s : Unit) => (List.range i).any (dupAt ms) = false) (()) ([]) rfl rfl rfl rfl rfl rfl rfl rfl rfl (by decide) (by decide) (by decide) (fun _ => rfl) (hl) ⟨(by first | rfl | (simp only [jN, seval, vint, NdS, NdF, qW, qM] <;> first | done | with_reducible rfl)), (by first | rfl | (simp only [jN, seval, vint, NdS, NdF, qW, qM] <;> first | done | with_reducible rfl)), (by first | rfl | (simp only [jN, seval, vint, NdS, NdF, qW, qM] <;> first | done | with_reducible rfl)), (by first | rfl | (simp only [jN, seval, vint, NdS, NdF, qW, qM] <;> first | done | with_reducible rfl)), trivial⟩ (by first | rfl | (simp only [jN, seval, vint, NdS, NdF, qW, qM] <;> first | done | with_reducible rfl)) (by simp) (fun _ _ _ => by first | exact Nat.zero_le _ | (simp only [List.length_append]; omega)) ?_ ?_ ?_
    ·exact fun i s hg => ⟨by first | exact hbel_nil _ | (simp only [List.append_nil]; assumption) | (refine hbel_app' hb' (by simp) ?_; repeat (first | exact hbel_nil _ | exact trivial | exact obel_row_nil _ | (refine HBel.cons ?_ ?_) | (refine obel_row_cons (by first | exact Md.bel _ _ | exact Dg.bel _ _ | exact bel_Md _ _ | exact bel_Dg _ _ | exact Tk.bel _ _ | exact St.bel _ _ | exact Nd.bel _ _ | exact bel_strs0 _ _ | exact bel_St _ _ | exact bel_ints0 _ _ | exact bel_Nd _ _ | exact bel_nil0 _ | exact bel_nil1 _ | exact Bel.optr _ _ (by first | (simp; done) | (simp; omega)) | exact Bel.int _ _ | exact Bel.bool _ | exact Bel.str _ | exact Bel.nilp | exact Bel.nilfn | exact Bel.optr _ _ (by simp) | exact bel_nil0 _ | exact bel_nil1 _ | exact bel_fn0 _ _ | assumption | exact bel_Md _ _) ?_))), by repeat (first | exact BelL.nil | refine BelL.cons (by first | exact Md.bel _ _ | exact Dg.bel _ _ | exact bel_Md _ _ | exact bel_Dg _ _ | exact Tk.bel _ _ | exact St.bel _ _ | exact Nd.bel _ _ | exact bel_strs0 _ _ | exact bel_St _ _ | exact bel_ints0 _ _ | exact bel_Nd _ _ | exact bel_nil0 _ | exact bel_nil1 _ | exact Bel.optr _ _ (by first | (simp; done) | (simp; omega)) | exact Bel.int _ _ | exact Bel.bool _ | exact Bel.str _ | exact Bel.nilp | exact Bel.nilfn | exact Bel.optr _ _ (by simp) | exact bel_nil0 _ | exact bel_nil1 _ | exact bel_fn0 _ _ | assumption | exact bel_Md _ _) ?_)⟩
    ·intro i s hi hg
     have g1 := ix_nat hi
     have g2 := get_enc Md.enc hi
     have g3 : (0 ≤ ((i : Nat) : Int) ∧ ((i : Nat) : Int) ≤ (ms.length : Int)) = True := by simp; omega
     have g4 : (ms.map Md.enc).take i = (ms.take i).map Md.enc := List.map_take.symm
     have g5 : min i ms.length = i := by omega
     have hdd := dupAt_of hi
     have hge := idxI_nonneg (sameName ms[i].name) (ms.take i)
     rw [← hdd] at hge
     have ga : (∀ (e : PV), e ∈ List.map Md.enc ms → e.cells.length = 2) = True := eq_true fun e he => by obtain ⟨v, _, rfl⟩ := List.mem_map.1 he; exact v.enc_len
     repeat refine wS ?_
     refine eE (by simp only [kA, seval, y22, y36, vint, NdS, NdF, qW, qM, ga, g1, tN, g2, g3, g4, g5, hge, List.length_map] <;> with_reducible rfl) (by decide) ?_
     repeat refine wS ?_
     refine dp_draw (by kernel_rfl) ?_
     refine dp_take 5 (by simp only [jP, jO, jN, seval, y9, y22, y36, jS, vint, NdS, NdF, qW, qM, ga, g1, tN, g2, g3, g4, g5, hge, List.length_map] <;> with_reducible rfl) (by decide) ?_
     refine dp_keep (by simp only [kE, seval, vint, NdS, NdF, qW, qM, ga, g1, tN, g2, g3, g4, g5, hge, List.length_map] <;> with_reducible rfl) (by simp only [kE, seval, vint, NdS, NdF, qW, qM, ga, g1, tN, g2, g3, g4, g5, hge, List.length_map] <;> with_reducible rfl) (by simp only [kE, seval, vint, NdS, NdF, qW, qM, ga, g1, tN, g2, g3, g4, g5, hge, List.length_map]) (by decide) Tryzgo8 (fun hc => modIdx_c (ms.take i) ms[i].name (by simp; omega) _) ?_
     refine dp_end (by simp only [jP, jO, jN, seval, y3, vint, NdS, NdF, qW, qM, ga, g1, tN, g2, g3, g4, g5, hge, List.length_map] <;> with_reducible rfl) (by decide) (by repeat (first | exact Fin.base _ | with_reducible apply Fin.keep | apply Fin.drop)) ?_
     repeat refine wS ?_
     refine wC rfl (by simp only [jN, seval, vint, NdS, NdF, qW, qM, ga, g1, tN, g2, g3, g4, g5, hge, List.length_map] <;> with_reducible rfl) (fun bt47 => ?_) (fun bt47 => ?_)
     ·-- if t47
      rw [if_pos (any_range_at hi bt47)]
      repeat refine wS ?_
      refine eE (by simp only [kA, seval, vint, NdS, NdF, qW, qM, ga, g1, tN, g2, g3, g4, g5, hge, List.length_map] <;> with_reducible rfl) (by decide) ?_
      repeat refine wS ?_
      refine wT ⟨.inr rfl, _, _, rfl, ?_, (by first | exact (List.append_nil _).symm | rfl)⟩
      exact rfl
     ·-- else t47
      repeat refine wS ?_
      refine wK ?_
      exact ⟨⟨rfl, rfl, trivial⟩, (), [.row [.str ms[i].name, .str ms[i].src]], ⟨rfl, rfl, trivial⟩, by simp, any_range_succ hg bt47⟩
    ·intro s hg
     rw [if_neg (by rw [hg]; simp)]
     repeat refine wS ?_
     refine eE (by simp only [kA, seval, vint, NdS, NdF, qW, qM] <;> with_reducible rfl) (by decide) ?_
     repeat refine wS ?_
     refine wT ⟨.inr rfl, _, _, rfl, ?_, (by first | exact (List.append_nil _).symm | rfl)⟩
     exact rfl
theorem law_ws {H0 : Heap} (hG : Pre G0 H0) (ms : List Md) (name : List UInt8) (hl : ms.length ≤ maxLen) (hn : ∀ m ∈ ms, m.name.length ≤ maxLen) : ACalls Tryz.prog 3 [.slice (ms.map Md.enc) .none, .str name] H0 fun r H' => r = .bool true ∧ Fr [] [] H0 H' := by
 refine aF (N := 21) Tryz.func3 rfl rfl (by simp) fun hb' => ?_
 repeat refine wS ?_
 refine eE (by simp only [kA, seval, vint, NdS, NdF, qW, qM] <;> with_reducible rfl) (by decide) ?_
 repeat refine wS ?_
 refine wR ?_
 refine oC (by simp only [kC, seval, vint, NdS, NdF, qW, qM] <;> with_reducible rfl) (by simp only [kC, seval]) (by decide) Tryzgo4 (symEx_c hG) ?_
 rintro _ H1 ⟨rfl, f1⟩
 have hG1 : Pre G0 H1 := fun k o h => (f1.get (hG k o h) (by simp)).1
 refine e_end (by simp only [kA, seval, vint, NdS, NdF, qW, qM] <;> with_reducible rfl) (by decide) ?_
 repeat refine wS ?_
 refine wF rfl (by simp only [jN, seval, vint, NdS, NdF, qW, qM] <;> with_reducible rfl) ?_
 repeat refine wS ?_
 refine wK ?_
 repeat refine wS ?_
 refine wR ?_
 refine eT 1 (by simp only [kA, seval, vint, NdS, NdF, qW, qM, wsErr_eq] <;> with_reducible rfl) (by decide) ?_
 refine oP (by simp only [kC, seval, vint, NdS, NdF, qW, qM, wsErr_eq] <;> with_reducible rfl) (by simp only [kC, seval]) (by decide) Tryzgo5 (validate_c hG1 ms hl hn) ?_
 refine eT 1 (by simp only [kA, seval, vint, NdS, NdF, qW, qM, wsErr_eq] <;> with_reducible rfl) (by decide) ?_
 refine oP (by simp only [kC, seval, vint, NdS, NdF, qW, qM, wsErr_eq] <;> with_reducible rfl) (by simp only [kC, seval]) (by decide) Tryzgo6 (wsErr_c hG1 ms hl hn) ?_
 refine eT 4 (by simp only [kA, seval, y24, vint, NdS, NdF, qW, qM, wsErr_eq] <;> with_reducible rfl) (by decide) ?_
 refine oP (by simp only [kC, seval, vint, NdS, NdF, qW, qM, wsErr_eq] <;> with_reducible rfl) (by simp only [kC, seval]) (by decide) Tryzgo7 (indexOf_c ms name hl) ?_
 refine eT 2 (by simp only [kA, seval, vint, NdS, NdF, qW, qM, wsErr_eq] <;> with_reducible rfl) (by decide) ?_
 refine oP (by simp only [kC, seval, vint, NdS, NdF, qW, qM, wsErr_eq] <;> with_reducible rfl) (by simp only [kC, seval]) (by decide) Tryzgo8 (modIdx_c ms name hl _) ?_
 refine e_end (by simp only [kA, seval, y3, vint, NdS, NdF, qW, qM, wsErr_eq] <;> with_reducible rfl) (by decide) ?_
 repeat refine wS ?_
 refine wT ⟨.inr rfl, _, rfl, ?_⟩
 exact ⟨rfl, f1⟩
end Go.Abs
namespace Go.Abs
def env0 (W : World) : Env := { w := W, κ := fun _ => .fixed, ρ := fun _ => 0, tb := fun _ => none, H := [] }
theorem env0_cell (W : World) (a : Addr) : (env0 W).view.cell a = W.cell? a := rfl
def RLl (V : View) (cs : List Value) (ps : List PV) : Prop := cs.length = ps.length ∧ ∀ i (h : i < ps.length), VRel V (cs.getD i undef) ps[i]
theorem RLl.nil {V : View} : RLl V [] [] := ⟨rfl, fun i h => by cases h⟩
theorem RLl.cons {V : View} {c : Value} {cs : List Value} {p : PV} {ps : List PV} (h : VRel V c p) (hs : RLl V cs ps) : RLl V (c :: cs) (p :: ps) := by
  refine ⟨by simp [hs.1], fun i hi => ?_⟩
  cases i with
  | zero => exact h
  | succ i => exact hs.2 i (by simpa using hi)
theorem RLl.app {V : View} {c1 c2 : List Value} {p1 p2 : List PV} (h1 : RLl V c1 p1) (h2 : RLl V c2 p2) : RLl V (c1 ++ c2) (p1 ++ p2) := by
  refine ⟨by simp [h1.1, h2.1], fun i hi => ?_⟩
  by_cases h : i < p1.length
  · have := h1.2 i h
    simp only [List.getD_eq_getElem?_getD] at this ⊢
    rw [List.getElem?_append_left (by rw [h1.1]; exact h), List.getElem_append_left h]; exact this
  · have := h2.2 (i - p1.length) (by simp at hi; omega)
    simp only [List.getD_eq_getElem?_getD] at this ⊢
    rw [List.getElem?_append_right (by rw [h1.1]; omega), List.getElem_append_right (by omega), h1.1]; exact this
theorem RLl.agg {V : View} {arr : Array Value} {ps : List PV} (h : RLl V arr.toList ps) : VRel V (.agg arr) (.agg ps) := by
  refine .agg _ _ (by have := h.1; simpa using this) fun i hi => ?_
  have := h.2 i hi
  rw [List.getD_eq_getElem?_getD, Array.getElem?_toList] at this
  rw [Array.getD_eq_getD_getElem?]; exact this
theorem RLl.one {V : View} {v : Value} {p : PV} (h : RLl V [v] [p]) : VRel V v p := h.2 0 (by simp)
theorem exists_list {α : Type} {n : Nat} {p : Nat → α → Prop} (h : ∀ i, i < n → ∃ a, p i a) : ∃ xs : List α, xs.length = n ∧ ∀ i (hi : i < xs.length), p i xs[i] := by
  induction n with
  | zero => exact ⟨[], rfl, fun i hi => by cases hi⟩
  | succ n ih =>
    obtain ⟨xs, h1, h2⟩ := ih fun i hi => h i (by omega)
    obtain ⟨a, ha⟩ := h n (by omega)
    refine ⟨xs ++ [a], by simp [h1], fun i hi => ?_⟩
    by_cases hlt : i < xs.length
    · rw [List.getElem_append_left hlt]; exact h2 i hlt
    · rw [List.getElem_append_right (by omega)]
      simp at hi
      obtain rfl : i = n := by omega
      simpa using ha
def SlD {α : Type} {H : Type} (D : α → DataW H → Prop) (xs : List α) (d : DataW H) : Prop :=
  (xs = [] ∧ d = .nil) ∨ ∃ els sp, d = .slice els sp ∧ xs.length = els.length ∧ ∀ i (h1 : i < xs.length) (h2 : i < els.length), D xs[i] els[i]
section
variable {H : Type} {enc : TypeId × Value → H} {P : Program} {W : World} {spare : Nat → Bool} {held : Bool}
theorem rd_slice {α : Type} (en : α → PV) (D : α → DataW H → Prop) {t e : TypeId} {fuel : Nat} {cs : List Value} {x : DataW H × List MemPlace} (ht : P.underlying t = some (.slice e)) (hsz : ∀ a, (en a).cells.length = P.cellsOf e)
    (h : DataW.trod enc P W 0 spare held fuel t cs = some x) (ih : ∀ n cs' x', n < fuel → DataW.trod enc P W 0 spare held n e cs' = some x' → ∃ a, RLl (env0 W).view cs' (en a).cells ∧ D a x'.1) :
    ∃ (xs : List α) (v : Value), cs = [v] ∧ VRel (env0 W).view v (.slice (xs.map en) .none) ∧ SlD D xs x.1 := by
  rcases DataW.trod_slice ht h with ⟨rfl, rfl⟩ | ⟨a, len, cap, elems, rest, n, rfl, rfl, rfl, hb, hl, hm, hlen, hel, _, _⟩
  · exact ⟨[], _, rfl, .nils .none trivial, .inl ⟨rfl, rfl⟩⟩
  · obtain ⟨ys, hys, hp⟩ := exists_list (α := α × List Value) (n := len) (p := fun i y => W.cells? 0 (a.add (i * P.cellsOf e)) (P.cellsOf e) = some y.2 ∧ RLl (env0 W).view y.2 (en y.1).cells ∧ ∀ h : i < elems.length, D y.1 elems[i].1) (fun i hi => by
      have := hel i hi
      rw [List.getElem?_eq_getElem (by omega)] at this
      obtain ⟨cs', h1, h2⟩ := oB this
      obtain ⟨y, h3, h4⟩ := ih n cs' _ (by omega) h2
      exact ⟨(y, cs'), h1, h3, fun _ => h4⟩)
    refine ⟨ys.map (·.1), _, rfl, ?_, .inr ⟨_, _, rfl, by simp [hys, hlen], fun i h1 h2 => ?_⟩⟩
    · have hget : ∀ i (hi : i < ys.length), ys[i]? = some ys[i] := fun i hi => List.getElem?_eq_getElem hi
      refine .slice a len cap (P.cellsOf e) _ .none (fun i j => match ys[i]? with | some y => y.2.getD j undef | none => undef) (by simp [hys]) hl hm ?_ ?_ ?_ trivial
      · intro i hi; simp only [List.getElem_map]; exact hsz _
      · intro i j hi hj
        have hi' : i < ys.length := by omega
        obtain ⟨h1, h2, _⟩ := hp i hi'
        obtain ⟨_, h4, h5⟩ := World.cells?_some h1
        have := h5 j hj
        rw [hget i hi']
        simp only
        rw [env0_cell, ← add_add, this, List.getD_eq_getElem?_getD, List.getElem?_eq_getElem (by omega)]; rfl
      · intro i j hi hj
        have hi' : i < ys.length := by simpa using hi
        simp only [List.getElem_map] at hj ⊢
        rw [hget i hi']
        exact (hp i hi').2.1.2 j hj
    · simp only [List.getElem_map]
      exact (hp i (by simpa using h1)).2.2 _
theorem rd_fields {t : TypeId} {fs : Array Field} {fuel : Nat} {cs : List Value} {x : DataW H × List MemPlace} (ht : P.underlying t = some (.struct fs)) (h : DataW.trod enc P W 0 spare held fuel t cs = some x) :
    ∃ (ds : List (DataW H)) (n : Nat), fuel = n + 1 ∧ x.1 = .agg ds ∧ cs.length = P.cellsOf t ∧ ds.length = fs.size ∧ ∀ (i : Nat) (f : Field), fs[i]? = some f → ∃ d ps, ds[i]? = some d ∧ DataW.trod enc P W 0 spare held n f.type ((cs.drop f.offset).take (P.cellsOf f.type)) = some (d, ps) := by
  obtain ⟨xs, n, h1, rfl, h3, h4, h5⟩ := DataW.trod_struct ht h
  refine ⟨xs.map (·.1), n, h1, rfl, h3, by simpa using h4, fun i f hf => ?_⟩
  have hi : i < xs.length := by
    rw [h4]
    rcases Nat.lt_or_ge i fs.size with hl | hl
    · exact hl
    · rw [Array.getElem?_eq_none hl] at hf; cases hf
  have := h5 i f hf
  rw [List.getElem?_eq_getElem hi] at this
  exact ⟨xs[i].1, xs[i].2, by simp [hi], this⟩
theorem rd_int {t : TypeId} {k : IntKind} {fuel : Nat} {cs : List Value} {x : DataW H × List MemPlace} (ht : P.underlying t = some (.int k)) (h : DataW.trod enc P W 0 spare held fuel t cs = some x) : ∃ n, RLl (env0 W).view cs [.int k n] ∧ x.1 = .lit (.int k n) ∧ (Lit.int k n).wf = true ∧ cs = [.int k n] := by
  obtain ⟨n, rfl, rfl, h3⟩ := DataW.trod_int ht h
  exact ⟨n, .cons (.int _ _) .nil, rfl, h3, rfl⟩
theorem rd_string {t : TypeId} {fuel : Nat} {cs : List Value} {x : DataW H × List MemPlace} (ht : P.underlying t = some .string) (h : DataW.trod enc P W 0 spare held fuel t cs = some x) : ∃ s : List UInt8, RLl (env0 W).view cs [.str s] ∧ x.1 = .lit (.string s) ∧ s.length ≤ maxLen := by
  obtain ⟨s, rfl, rfl, h3⟩ := DataW.trod_string ht h
  exact ⟨s.data.toList, .cons (.str _) .nil, rfl, by simpa using h3⟩
end
inductive TyD {H : Type} : Ty → DataW H → Prop
  | nil (k i : Int) : TyD (.mk k i []) (.agg [.lit (.int .i64 k), .lit (.int .i64 i), .nil])
  | slice (k i : Int) (xs : List Ty) (es sp : List (DataW H)) (hl : xs.length = es.length) (h : ∀ j (h1 : j < xs.length) (h2 : j < es.length), TyD xs[j] es[j]) : TyD (.mk k i xs) (.agg [.lit (.int .i64 k), .lit (.int .i64 i), .slice es sp])
theorem TyD.of {H : Type} {k i : Int} {xs : List Ty} {d : DataW H} (h : SlD TyD xs d) : TyD (.mk k i xs) (.agg [.lit (.int .i64 k), .lit (.int .i64 i), d]) := by
  rcases h with ⟨rfl, rfl⟩ | ⟨es, sp, rfl, h1, h2⟩
  · exact .nil k i
  · exact .slice k i xs es sp h1 h2
structure TyAt (P : Program) (T S : TypeId) : Prop where
  st : ∃ f0 f1 f2 : Field, P.underlying T = some (.struct #[f0, f1, f2]) ∧ P.underlying f0.type = some (.int .i64) ∧ P.underlying f1.type = some (.int .i64) ∧ f2.type = S ∧ f0.offset = 0 ∧ f1.offset = 1 ∧ f2.offset = 2 ∧ P.cellsOf f0.type = 1 ∧ P.cellsOf f1.type = 1
  sl : P.underlying S = some (.slice T)
  c : P.cellsOf T = 3
  cs : P.cellsOf S = 1
  by40 : P.bytesOf T = 40
section
variable {H : Type} {enc : TypeId × Value → H} {P : Program} {W : World} {spare : Nat → Bool} {held : Bool} {T S : TypeId}
theorem rd_ty (F : TyAt P T S) : ∀ (fuel : Nat) (cs : List Value) (x : DataW H × List MemPlace), DataW.trod enc P W 0 spare held fuel T cs = some x → ∃ t : Ty, RLl (env0 W).view cs t.enc.cells ∧ TyD t x.1 := by
  intro fuel
  induction fuel using Nat.strongRecOn with
  | _ fuel ih =>
  intro cs x h
  obtain ⟨f0, f1, f2, hst, u0, u1, e2, o0, o1, o2, c0, c1⟩ := F.st
  obtain ⟨ds, n, rfl, hx, hlen, hdl, hf⟩ := rd_fields hst h
  rw [F.c] at hlen
  match cs, hlen with
  | [v0, v1, v2], _ =>
  obtain ⟨d0, p0, g0, r0⟩ := hf 0 f0 rfl
  obtain ⟨d1, p1, g1, r1⟩ := hf 1 f1 rfl
  obtain ⟨d2, p2, g2, r2⟩ := hf 2 f2 rfl
  rw [o0, c0] at r0
  rw [o1, c1] at r1
  rw [o2, e2, F.cs] at r2
  obtain ⟨k, q0, rfl, w0, _⟩ := rd_int u0 r0
  obtain ⟨i, q1, rfl, w1, _⟩ := rd_int u1 r1
  obtain ⟨xs, v, hv, hr, hd⟩ := rd_slice Ty.enc TyD F.sl (fun a => by rw [F.c, Ty.enc_len]) r2 (fun m cs' x' hm h' => ih m (by omega) cs' x' h')
  simp only [List.drop_succ_cons, List.drop_zero, List.take_succ_cons, List.take_zero, List.cons.injEq, and_true] at hv
  subst hv
  refine ⟨.mk k i xs, ?_, ?_⟩
  · rw [Ty.enc_cells]
    exact .cons q0.one (.cons q1.one (.cons hr .nil))
  · rw [hx]
    have : ds = [.lit (.int .i64 k), .lit (.int .i64 i), d2] := by
      match ds, hdl with
      | [a, b, c], _ =>
        simp at g0 g1 g2
        rw [g0, g1, g2]
    rw [this]
    exact .of hd
theorem weights_mem {l : List (DataW H)} {e : TypeId} {d : DataW H} (hd : d ∈ l) (h : (DataW.weightsAll P e l).all (· ≤ reachBytes) = true) : (d.weights P e).all (· ≤ reachBytes) = true := by
  rw [List.all_eq_true] at h ⊢
  intro x hx
  refine h x ?_
  clear h
  induction l with
  | nil => cases hd
  | cons a l ih =>
    simp only [DataW.weightsAll, List.mem_append]
    rcases List.mem_cons.1 hd with rfl | hd
    · exact .inl hx
    · exact .inr (ih hd)
theorem sl_weights {α : Type} {D : α → DataW H → Prop} {Sl E : TypeId} (hs : P.underlying Sl = some (.slice E)) {xs : List α} {d : DataW H} (h : SlD D xs d) (hw : (d.weights P Sl).all (· ≤ reachBytes) = true) :
    xs.length * P.bytesOf E ≤ reachBytes ∧ ∀ a ∈ xs, ∃ d', D a d' ∧ (d'.weights P E).all (· ≤ reachBytes) = true := by
  rcases h with ⟨rfl, rfl⟩ | ⟨els, sp, rfl, h1, h2⟩
  · simp
  · simp only [DataW.weights, hs, List.all_cons, List.all_append, Bool.and_eq_true, decide_eq_true_eq] at hw
    refine ⟨?_, fun a ha => ?_⟩
    · rw [h1]
      refine Nat.le_trans (Nat.mul_le_mul_right _ (Nat.le_add_right _ _)) hw.1
    · obtain ⟨j, hj, rfl⟩ := List.mem_iff_getElem.1 ha
      exact ⟨_, h2 j hj (by omega), weights_mem (List.getElem_mem _) hw.2.1⟩
end
end Go.Abs
namespace Go.Abs
theorem RLl.rl {V : View} {arr : Array Value} {ps : List PV} (h : RLl V arr.toList ps) : RL V arr ps := by
  refine ⟨by have := h.1; simpa using this, fun i hi => ?_⟩
  have := h.2 i hi
  rw [List.getD_eq_getElem?_getD, Array.getElem?_toList] at this
  rw [Array.getD_eq_getD_getElem?]; exact this
theorem Ty.enc_agg (t : Ty) : PV.agg t.enc.cells = t.enc := by rw [Ty.enc_cells, Ty.enc_eq]
end Go.Abs
namespace Go.Abs
def Agr (s : MSt) (xs : List Ty) : Prop := ∀ i, s.2.getD i false = true → xs.getD i .zero = s.1.getD i .zero
def MLe (s s' : MSt) : Prop := ∀ i, s.2.getD i false = true → s'.2.getD i false = true ∧ s'.1.getD i .zero = s.1.getD i .zero
theorem MLe.refl (s : MSt) : MLe s s := fun i h => ⟨h, rfl⟩
theorem MLe.trans {a b c : MSt} (h : MLe a b) (k : MLe b c) : MLe a c := fun i hi => ⟨(k i (h i hi).1).1, (k i (h i hi).1).2.trans (h i hi).2⟩
theorem Agr.mono {s s' : MSt} {xs : List Ty} (h : MLe s s') (k : Agr s' xs) : Agr s xs := fun i hi => (k i (h i hi).1).trans (h i hi).2
structure MRt (ps : List Int) (xs : List Ty) (s : MSt) : Prop where
  agr : Agr s xs
  zero : ∀ i, s.2.getD i false = false → s.1.getD i .zero = .zero
end Go.Abs
namespace Go.Abs
structure Bd where
  v : Int
  t : Ty
def Bd.enc (b : Bd) : PV := .agg [.int .i64 b.v, .int .i64 b.t.kind, .int .i64 b.t.id, .slice (b.t.args.map Ty.enc) .none]
theorem Bd.enc_len (b : Bd) : b.enc.cells.length = 4 := rfl
theorem Bd.bel (n : Nat) (b : Bd) : Bel n b.enc := .agg _ (by
  intro c hc
  simp at hc
  rcases hc with rfl | rfl | rfl | rfl
  · exact .int _ _
  · exact .int _ _
  · exact .int _ _
  · exact bel_slice_ty _ _)
end Go.Abs
namespace Go.Abs
end Go.Abs
namespace Go.Abs
structure BdAt (P : Program) (B T : TypeId) : Prop where
  st : ∃ f0 f1 : Field, P.underlying B = some (.struct #[f0, f1]) ∧ P.underlying f0.type = some (.int .i64) ∧ f1.type = T ∧ f0.offset = 0 ∧ f1.offset = 1 ∧ P.cellsOf f0.type = 1
  c : P.cellsOf B = 4
section
variable {H : Type} {enc : TypeId × Value → H} {P : Program} {W : World} {spare : Nat → Bool} {held : Bool} {B T S : TypeId}
end
end Go.Abs
namespace Go.Abs
def envG (W : World) (G : Heap) : Env := { w := W, κ := fun _ => .fixed, ρ := fun _ => 0, tb := fun _ => none, H := G }
theorem envG_ok {W : World} {G : Heap} (hG : ∀ o ∈ G, ∃ b vs, o = AObj.glob b vs) (hW : ∀ b vs, AObj.glob b vs ∈ G → ∀ i (h : i < vs.length), W.cell? ⟨b, i, none⟩ = some vs[i]) : (envG W G).Ok := by
  have hk : ∀ id o, (envG W G).H[id]? = some o → ∃ b vs, o = AObj.glob b vs := fun id o h => hG o (List.mem_of_getElem? h)
  constructor
  · intro id cs h; obtain ⟨b, vs, e⟩ := hk _ _ h; cases e
  · intro id n sz b h; obtain ⟨b, vs, e⟩ := hk _ _ h; cases e
  · intro id id' cs cs' h; obtain ⟨b, vs, e⟩ := hk _ _ h; cases e
  · intro id id' n sz n' sz' b h; obtain ⟨b, vs, e⟩ := hk _ _ h; cases e
  · intro id b vs h i hi; exact hW b vs (List.mem_of_getElem? h) i hi
  · exact ⟨fun id k h => (by obtain ⟨b, vs, e⟩ := hk _ _ h; cases e), fun id id' k k' h => (by obtain ⟨b, vs, e⟩ := hk _ _ h; cases e)⟩
theorem env0_envG (W : World) (G : Heap) : (env0 W).view.le (envG W G).view := by
  have hb : ∀ id, ¬ (env0 W).view.born id := by
    rintro id ⟨o, h, _⟩
    simp [env0] at h
  exact ⟨fun a v h => h, fun id h => absurd h (hb id), fun id h => absurd h (hb id), fun id t h => absurd h (hb id)⟩
theorem calls_of_ga {P : Program} {f : FuncId} {args : List PV} {b : Bool} {G : Heap} (h : ACalls P f args G fun r _ => r = .bool b) (W : World) (hG : ∀ o ∈ G, ∃ b vs, o = AObj.glob b vs) (hW : ∀ b vs, AObj.glob b vs ∈ G → ∀ i (h : i < vs.length), W.cell? ⟨b, i, none⟩ = some vs[i])
    (vargs : Array Value) (hr : RL (env0 W).view vargs args) : Calls P f vargs W fun e w' => e = .returned (.bool b) ∧ Go.RowKit.Below W.heap.size W w' := by
  refine (h (envG W G) vargs (envG_ok hG hW) rfl (hr.mono (env0_envG W G))).mono ?_
  rintro e w' ⟨E', v, r, rfl, rfl, hle, hok, hv, rfl⟩
  refine ⟨by rw [hv.bool_inv], hle.os, hle.tape, hle.output, hle.size, fun k hk => (hle.other k hk ?_).2⟩
  rintro (⟨id, cs, h, _⟩ | ⟨id, n, sz, h, _⟩ | ⟨id, k, h, _⟩) <;> (obtain ⟨b, vs, e⟩ := hG _ (List.mem_of_getElem? h); cases e)
theorem laid_ints {H : Type} {enc : TypeId × Value → H} {P : Program} {w : World} {sp : Nat → Bool} {held : Bool} {t e : TypeId} {n f : Nat} {k : IntKind} {cs : List Value} {ds : List (DataW H)} {q : List MemPlace}
    (ht : P.underlying t = some (.array n e)) (he : P.underlying e = some (.int k)) (hc : P.cellsOf e = 1) (h : DataW.trod enc P w 0 sp held f t cs = some (.agg ds, q)) :
    ∀ i, i < n → ∃ v, ds[i]? = some (.lit (.int k v)) ∧ cs[i]? = some (.int k v) := by
  intro i hi
  obtain ⟨xs, m, rfl, hx, hlen, hn, hel⟩ := DataW.trod_array ht h
  have h1 := hel i hi
  rw [hc, Nat.mul_one] at h1
  rw [List.getElem?_eq_getElem (by omega)] at h1
  obtain ⟨v, e1, e2, _⟩ := DataW.trod_int he h1
  simp only [Prod.mk.injEq, DataW.agg.injEq] at hx
  refine ⟨v, ?_, ?_⟩
  · rw [hx.1, List.getElem?_map, List.getElem?_eq_getElem (by omega)]
    simp [e2]
  · have : (cs.drop i).head? = some (.int k v) := by
      cases hd : cs.drop i with
      | nil => rw [hd] at e1; cases e1
      | cons a l => rw [hd] at e1; simp at e1; rw [e1]; rfl
    rw [List.head?_drop] at this
    exact this
end Go.Abs
namespace Go.Abs
open Go.Proofs
def MdD {H : Type} (t : Md) (d : DataW H) : Prop := d = .agg [.lit (.string t.name), .lit (.string t.src)] ∧ t.name.length ≤ maxLen ∧ t.src.length ≤ maxLen
section
variable {H : Type} {enc : TypeId × Value → H} {W : World} {spare : Nat → Bool} {held : Bool}
theorem rd_Md (fuel : Nat) (cs : List Value) (x : DataW H × List MemPlace) (h : DataW.trod enc Tryz.prog W 0 spare held fuel 36 cs = some x) : ∃ t : Md, RLl (env0 W).view cs t.enc.cells ∧ MdD t x.1 := by
  obtain ⟨ds, n, rfl, hx, hlen, hdl, hf⟩ := rd_fields Tryz.underlying36 h
  rw [show Tryz.prog.cellsOf 36 = 2 from by kernel_rfl] at hlen
  match cs, hlen with
  | [v0, v1], _ =>
  obtain ⟨d0, p0, g0, r0⟩ := hf 0 _ rfl
  have r0 : DataW.trod enc Tryz.prog W 0 spare held n 9 [v0] = some (d0, p0) := by
    have e : Tryz.prog.cellsOf 9 = 1 := by kernel_rfl
    have r0 : DataW.trod enc Tryz.prog W 0 spare held n 9 (List.take (Tryz.prog.cellsOf 9) (List.drop 0 [v0, v1])) = some (d0, p0) := r0
    rw [e] at r0
    exact r0
  obtain ⟨a0, q0, rfl, l0⟩ := rd_string Tryz.underlying9 r0
  obtain ⟨d1, p1, g1, r1⟩ := hf 1 _ rfl
  have r1 : DataW.trod enc Tryz.prog W 0 spare held n 9 [v1] = some (d1, p1) := by
    have e : Tryz.prog.cellsOf 9 = 1 := by kernel_rfl
    have r1 : DataW.trod enc Tryz.prog W 0 spare held n 9 (List.take (Tryz.prog.cellsOf 9) (List.drop 1 [v0, v1])) = some (d1, p1) := r1
    rw [e] at r1
    exact r1
  obtain ⟨a1, q1, rfl, l1⟩ := rd_string Tryz.underlying9 r1
  refine ⟨Md.mk a0 a1, ?_, ?_⟩
  · rw [Md.enc_cells]
    exact (RLl.app q0 q1)
  · rw [hx]
    have e : ds = [.lit (.string a0), .lit (.string a1)] := by
      match ds, hdl with
      | [e0, e1], _ =>
        simp at g0 g1
        rw [g0, g1]
    rw [e]
    exact ⟨rfl, l0, l1⟩
end
end Go.Abs
namespace Go.Abs
theorem strip (r : List (List Char)) : stripLifts liftWords ("cut".toList :: r) = ([], "cut".toList :: r) := by
  simp only [liftWords]
  repeat (rw [stripLifts, if_neg (by decide)])
  rfl
theorem mayEnter_of {P : Program} {r : List (List Char)} (h : behindMainWord (wordsSigns P.initOrder.toList) = "cut".toList :: r) (h1 : P.laysLater = false) (h2 : P.bearsReflect = false) (h3 : P.doorFits [] = true) : P.mayEnter = true := by
  unfold Program.mayEnter
  rw [h]
  simp only [strip, h1, h2, h3]
  rfl
theorem headLifts_of {P : Program} {r : List (List Char)} (h : behindMainWord (wordsSigns P.initOrder.toList) = "cut".toList :: r) : P.headLifts = [] := by
  unfold Program.headLifts
  rw [h, strip]
  rfl
theorem liftsFinal_of {P : Program} {r : List (List Char)} (h : behindMainWord (wordsSigns P.initOrder.toList) = "cut".toList :: r) : P.liftsFinal = false := by
  unfold Program.liftsFinal
  rw [headLifts_of h, h]
  rfl
theorem make_of {P : Program} {r : List (List Char)} (h : behindMainWord (wordsSigns P.initOrder.toList) = "cut".toList :: r) : P.make = some .cut := by
  unfold Program.make
  rw [h]
  rfl
def sg (l : List Nat) : List Char := l.map Char.ofNat
theorem words_cons (c : Char) (r : List Char) (h : (c == Char.ofNat 32) = false) : wordsSigns (c :: r) = match wordsSigns r with | w :: ws => (c :: w) :: ws | [] => [[c]] := by
  rw [wordsSigns]
  · rfl
  · intro e
    subst e
    simp at h
theorem words_word : ∀ (w r : List Char), w.all (fun c => !(c == Char.ofNat 32)) = true → wordsSigns (w ++ Char.ofNat 32 :: r) = w :: wordsSigns r
  | [], r, _ => by rfl
  | c :: w, r, h => by
    simp only [List.all_cons, Bool.and_eq_true, Bool.not_eq_true'] at h
    rw [List.cons_append, words_cons c _ h.1, words_word w r h.2]
theorem behind_of {P : Program} {a b c r : List Char} (hio : P.initOrder = String.ofList (a ++ Char.ofNat 32 :: (b ++ Char.ofNat 32 :: (c ++ Char.ofNat 32 :: r)))) (ha : a.all (fun c => !(c == Char.ofNat 32)) = true) (hb : b.all (fun c => !(c == Char.ofNat 32)) = true) (hc : c.all (fun c => !(c == Char.ofNat 32)) = true)
    (h : ((a == "harness".toList || a == "ownmain".toList) && isSumSigns b) = true) (hc2 : c = "cut".toList) : behindMainWord (wordsSigns P.initOrder.toList) = "cut".toList :: wordsSigns r := by
  rw [hio, String.toList_ofList, words_word _ _ ha, words_word _ _ hb, words_word _ _ hc]
  simp only [behindMainWord]
  rw [if_pos h, hc2]
end Go.Abs
