/- Part 8 of a proof of the law RelexReference: Go data as trees, the walks of the functions that the law reaches, the plain laws. -/
import Derived.Test.YtihcoegdfbpngaaGreatDoorGGRelexReference
import Derived.KernelRfl
import GoSem.ClaimJoined
import Derived.ChangeArms
import Derived.Carry
import Derived.SizedLaws
import Derived.JoinedCond
import Derived.Deep.CondSized
import Derived.OpenShut
import Derived.JoinedOf
set_option linter.unusedVariables false
set_option linter.unusedSimpArgs false
set_option maxRecDepth 4000
namespace Go.Abs
open Go.Proofs
theorem indexFuncCd {f : FuncId} {caps : List PV} {H : Heap} {us : List Cd} {p : Cd → Bool} (hc : CloB Tryz.prog Cd.enc f caps H us p) (hl : us.length ≤ maxLen) : ACalls Tryz.prog 71 [.slice (us.map Cd.enc) .none, .fn (.func f) [] caps] H fun r' H' => r' = vint (idxI p us) ∧ H' = H := by
 have hgo := hc.go
 refine keeps_of (N := 19) Tryz.func71 rfl rfl (by simp) (.int _ _) fun hb' => ?_
 refine qE (a3 qR zStf zStd) ?_
 refine qE (a5 y62 y98 qR zStf zStd) ?_
 repeat refine wS ?_
 refine awp_forS (σ := Unit) (us.length) (fun (s : Unit) => [(0, .slice (us.map Cd.enc) .none), (1, .fn (.func f) [] caps)]) [0, 1] (H) (fun (s : Unit) => []) (fun (i : Nat) (s : Unit) => (us.take i).any p = false) (()) ([]) rfl rfl rfl rfl rfl rfl rfl rfl rfl (by decide) (by decide) (by decide) (fun _ => rfl) (hl) ⟨(by first | rfl | (simp only [jN, seval, vint, qC, qR, zStf, zStd] <;> first | done | with_reducible rfl)), (by first | rfl | (simp only [jN, seval, vint, qC, qR, zStf, zStd] <;> first | done | with_reducible rfl)), (by first | rfl | (simp only [jN, seval, vint, qC, qR, zStf, zStd] <;> first | done | with_reducible rfl)), (by first | rfl | (simp only [jN, seval, vint, qC, qR, zStf, zStd] <;> first | done | with_reducible rfl)), trivial⟩ (by first | rfl | (simp only [jN, seval, vint, qC, qR, zStf, zStd] <;> first | done | with_reducible rfl)) (by simp) (fun _ _ _ => by first | exact Nat.zero_le _ | (simp only [List.length_append]; omega)) ?_ ?_ ?_
 ·exact fun i s hg => ⟨by simp only [List.append_nil]; exact hb', .cons (bel_Cd _ _) (.cons (.fn _ _ _ (by simp) (fun c hc' => (hc.bel c hc').mono (by simp))) .nil)⟩
 ·intro i s hi hg
  have g1 := ix_nat hi
  have g2 := get_enc Cd.enc hi
  refine qE (a5 qR zStf zStd g1 (a2 tN g2)) ?_
  refine qT 5 (a5 y62 y98 qR zStf (a4 zStd g1 tN g2)) ?_
  refine qP (a5 qR zStf zStd g1 (a2 tN g2)) (by assumption) (hc.call _ (List.getElem_mem hi)) ?_
  refine oN ?_
  refine qI (a5 qR zStf zStd g1 (a2 tN g2)) (fun b0 => ?_) (fun b0 => ?_)
  ·-- if t16
   refine qE (a5 qR zStf zStd g1 (a2 tN g2)) ?_
   repeat refine wS ?_
   refine wT ⟨.inr rfl, _, _, rfl, ?_, (by first | exact (List.append_nil _).symm | rfl)⟩
   rw [idxI_at hi b0 hg]; rfl
  ·-- else t16
   refine qK ?_
   exact ⟨⟨rfl, rfl, trivial⟩, (), [], ⟨rfl, rfl, trivial⟩, by simp only [List.append_nil], any_take_succ hi hg b0⟩
 ·intro s hg
  rw [List.take_length] at hg
  refine qE (a3 qR zStf zStd) ?_
  repeat refine wS ?_
  refine wT ⟨.inr rfl, _, _, rfl, ?_, (by first | exact (List.append_nil _).symm | rfl)⟩
  rw [idxI_none hg]; rfl
theorem rrC_c {H : Heap} {b iu : Nat} {old tks tst tre cv : PV} {off sh : Int} (hb : H[b]? = some (.row [.optr iu 0])) (hu : H[iu]? = some (.row [old, tks, .int .i64 off, .int .i64 sh, tst, tre, cv])) (hw : 0 ≤ off ∧ off ≤ 1048576 ∧ -1048576 ≤ sh ∧ sh ≤ 1048576) (c : Cd) : ACalls Tryz.prog 72 [c.enc, .optr b 0] H fun r H' => r = .bool (decide (c.start = off - sh)) ∧ H' = H := by
 have gw : IntKind.i64.wrap (off - sh) = off - sh := wrap_id (by omega) (by omega)
 have q1 := getL hb
 have q2 := getL hu
 have hbl := lG hb
 have hul := lG hu
 have n1 : (b = H.length) = False := eq_false (by omega)
 have n2 : (iu = H.length) = False := eq_false (by omega)
 refine keeps_of (N := 16) Tryz.func72 rfl rfl (by simp) (.bool _) fun hb' => ?_
 refine qE (a5 y98 qR zStf zStd (a5 q1 q2 gw n1 n2)) ?_
 repeat refine wS ?_
 refine dp_draw (by kernel_rfl) ?_
 refine pX (a5 y3 y61 y66 y98 (a5 qR zStf zStd q1 (a4 q2 gw n1 n2))) ?_
 repeat refine wS ?_
 refine wT ⟨.inr rfl, _, _, rfl, ?_, (by first | exact (List.append_nil _).symm | rfl)⟩
 first | rfl | trace_state
end Go.Abs
namespace Go.Abs
open Go.Proofs
def rrL : List Cd → Int → List St → Int × List St
 | [], re, ns => (re, ns)
 | c :: cs, re, ns => rrL cs (if (!decide (c.tree.kind ≥ 100)) = true then re + 1 else re) (ns ++ [c.tree])
def rrI (old : List Cd) (x : Int) : Int := idxI (fun c => decide (c.start = x)) old
set_option maxHeartbeats 2000000 in
theorem rr_c {iu : Nat} {old : List Cd} {tk : List Tk} {off sh st re : Int} {nodes : List St} {F0 : List Nat} {H0 : Heap} (hU : UOk iu old (.slice (tk.map Tk.enc) .none) off sh st re nodes F0 H0) (hl : old.length ≤ 1048576) (hln : nodes.length ≤ 1048576) (hre : 0 ≤ re ∧ re ≤ 1048576) (hw : 0 ≤ off ∧ off ≤ 1048576 ∧ -1048576 ≤ sh ∧ sh ≤ 1048576) : ACalls Tryz.prog 32 [.optr iu 0] H0 fun r H' => (r = .bool false ∧ (decide (rrI old (off - sh) < 0) || decide ((tk.length : Int) > st)) = true ∧ UOk iu old (.slice (tk.map Tk.enc) .none) off sh st re nodes F0 H' ∧ Fr F0 F0 H0 H') ∨ (r = .bool true ∧ (decide (rrI old (off - sh) < 0) || decide ((tk.length : Int) > st)) = false ∧ ∃ F', UOk iu old (.slice (tk.map Tk.enc) .none) off sh st (rrL (old.drop (rrI old (off - sh)).toNat) re nodes).1 (rrL (old.drop (rrI old (off - sh)).toNat) re nodes).2 F' H' ∧ Fr F0 F' H0 H') := by
 have em : maxLen = 9223372036854775807 := by decide
 obtain ⟨cv, cid, hu, hk, hF0, hn4⟩ := hU.ex
 have hul0 := lG hu
 have qu := getL hu
 have qc : (H0 ++ [.row [.optr iu 0]])[H0.length]? = some (.row [.optr iu 0]) := by simp
 have nu0 : (iu = H0.length) = False := eq_false (by omega)
 obtain ⟨iR, hiR⟩ : ∃ x, rrI old (off - sh) = x := ⟨_, rfl⟩
 rw [hiR]
 have hlt : iR ≥ 0 → iR < old.length := fun h => by rw [← hiR] at h ⊢; exact idxI_lt h
 refine aF (N := 74) Tryz.func32 rfl rfl (by simp) fun hb' => ?_
 refine qE (a4 y61 qR zStf zStd) ?_
 refine qT 5 (a5 y61 y62 y66 y98 (a5 qR zStf zStd qu qc)) ?_
 refine oC (by simp only [kC, seval, vint, qC, qR, zStf, zStd, qu, qc] <;> with_reducible rfl) (by simp only [kC, seval, vint, qC, qR, zStf, zStd, qu, qc]) (by decide) zgo71 (indexFuncCd (p := fun c => decide (c.start = off - sh)) ⟨zgo72, fun c hc => by rw [List.mem_singleton.1 hc]; exact Bel.optr _ _ (by simp), fun u _ => rrC_c qc (qu _) hw u⟩ (by omega)) ?_
 rintro _ _ ⟨rfl, rfl⟩
 refine qX (a5 qR zStf zStd qu qc) ?_
 repeat refine wS ?_
 rw [show idxI (fun c : Cd => decide (c.start = off - sh)) old = iR from hiR]
 refine dp_draw (by kernel_rfl) ?_
 refine pX (a5 y3 y24 y32 y61 (a5 y66 qR zStf zStd (a2 qu qc))) ?_
 refine qI (a3 qR zStf zStd) (fun bt25 => ?_) (fun bt25 => ?_)
 ·-- if t25
  have hcond := bt25
  refine qL [] (a3 qR zStf zStd) ?_
  refine qE (a3 qR zStf zStd) ?_
  repeat refine wS ?_
  refine wT ⟨.inr rfl, _, rfl, ?_⟩
  first | exact .inl ⟨rfl, hcond, hU.app _, (Fr.refl _ _).app _⟩ | exact .inr ⟨rfl, hcond, _, hU1, f1⟩ | trace_state
 ·-- else t25
  have hcond := bt25
  simp only [Bool.or_eq_false_iff, decide_eq_false_iff_not] at bt25
  have hi0 : 0 ≤ iR := by omega
  have hi1 := hlt hi0
  obtain ⟨i0, hi0e⟩ : ∃ i : Nat, iR = (i : Int) := ⟨iR.toNat, by omega⟩
  subst hi0e
  have hs1 : ((0 : Int) ≤ (i0 : Int)) = True := by simp
  have hs2 : ((i0 : Int) ≤ (old.length : Int)) = True := eq_true (by omega)
  have hs3 : (old.map Cd.enc).drop i0 = (old.drop i0).map Cd.enc := List.map_drop.symm
  have hs4 : (old.map Cd.enc).take old.length = old.map Cd.enc := List.take_of_length_le (by simp)
  have ga : (∀ (q : PV), q ∈ List.map Cd.enc old → q.cells.length = 6) = True := eq_true fun q hq => by obtain ⟨v, _, rfl⟩ := List.mem_map.1 hq; exact v.enc_len
  refine qK ?_
  refine qL [1, 3] (a3 qR zStf zStd) ?_
  repeat refine wS ?_
  refine eE (by simp only [kA, seval, y61, y62, y66, y98, vint, qC, qR, zStf, zStd, qu, qc, hs1, hs2, hs3, hs4, ga, jS, tN, List.length_map] <;> with_reducible rfl) (by decide) ?_
  repeat refine wS ?_
  obtain ⟨us, hus⟩ : ∃ us, old.drop i0 = us := ⟨_, rfl⟩
  have hul : us.length ≤ old.length := by rw [← hus, List.length_drop]; omega
  rw [tN, hus]
  obtain ⟨⟨re1, ns1⟩, hv0⟩ : ∃ z, rrL us re nodes = z := ⟨_, rfl⟩
  rw [hv0]
  have hcn0 : H0.length ∉ F0 := fun h => by have := hU.lt _ h; omega
  refine awp_block ?_
  refine awp_loopX (σ := Nat × Int × List St × List Nat) (fun (z : Nat × Int × List St × List Nat) => [(1, .optr H0.length 0), (31, .slice (us.map Cd.enc) .none), (32, .int .i64 (us.length : Int)), (33, .int .i64 (z.1 : Int))]) (fun (z : Nat × Int × List St × List Nat) =>  fun H1 => z.1 ≤ us.length ∧ rrL (us.drop z.1) z.2.1 z.2.2.1 = (re1, ns1) ∧ UOk iu old (.slice (tk.map Tk.enc) .none) off sh st z.2.1 z.2.2.1 z.2.2.2 H1 ∧ Fr F0 z.2.2.2 H0 H1 ∧ z.2.2.1.length ≤ nodes.length + z.1 ∧ 0 ≤ z.2.1 ∧ z.2.1 ≤ re + (z.1 : Int) ∧ H1[H0.length]? = some (.row [.optr iu 0]) ∧ H0.length ∉ z.2.2.2) (fun (z : Nat × Int × List St × List Nat) => us.length - z.1) ((0, re, nodes, F0)) ⟨(by first | rfl | (simp only [jN, seval, vint, qC, qR, zStf, zStd] <;> first | done | with_reducible rfl)), (by first | rfl | (simp only [jN, seval, vint, qC, qR, zStf, zStd] <;> first | done | with_reducible rfl)), (by first | rfl | (simp only [jN, seval, vint, qC, qR, zStf, zStd] <;> first | done | with_reducible rfl)), (by first | rfl | (simp only [jN, seval, vint, qC, qR, zStf, zStd] <;> first | done | with_reducible rfl)), trivial⟩ (⟨Nat.zero_le _, hv0, hU.app _, (Fr.refl _ _).app _, by simp, hre.1, by simp, qc, hcn0⟩) ?_
  intro z H1 hg
  obtain ⟨i, rv, ns, F1⟩ := z
  obtain ⟨hi1, hv, hU1, f1, hln1, hrv0, hrv1, hcb, hcn1⟩ := hg
  simp only at hi1 hv hU1 f1 hln1 hrv0 hrv1 hcn1
  clear hu hk qu qc
  obtain ⟨cv, cid, hu, hk, hF1, hn4⟩ := hU1.ex
  have hcn : H0.length ∉ cid := fun h => hcn1 (by rw [hF1]; simp [h])
  have hci : H0.length ≠ iu := fun e => hcn1 (by rw [hF1]; simp [e])
  have hul1 := lG hu
  refine qE (a4 y3 qR zStf zStd) ?_
  refine qI (a3 qR zStf zStd) (fun bt34 => ?_) (fun bt34 => ?_)
  ·-- if t34
   have hi : i < us.length := by have := of_decide_eq_true bt34; omega
   have g1 := ix_nat hi
   have g2 := get_enc Cd.enc hi
   rw [List.drop_eq_getElem_cons hi] at hv
   obtain ⟨u, hu_⟩ : ∃ u, us[i] = u := ⟨_, rfl⟩
   rw [hu_] at g2 hv
   simp only [rrL] at hv
   have qu := getL hu
   have qc := getL hcb
   have qb : ∀ L, (H1 ++ .row u.enc.cells :: L)[H1.length]? = some (.row u.enc.cells) := fun L => by simp
   have gwi : IntKind.i64.wrap ((i : Int) + 1) = ((i + 1 : Nat) : Int) := by rw [wrap_id (by omega) (by omega)]; omega
   have gwr : IntKind.i64.wrap (rv + 1) = rv + 1 := wrap_id (by omega) (by omega)
   refine qK ?_
   refine qB ?_
   refine qE (a5 y62 y98 qR zStf (a4 zStd g1 g2 tN)) ?_
   repeat refine wS ?_
   refine awp_coin 37 38 (by kernel_rfl) (by kernel_rfl) (by decide) (fun l hl => ?_) (fun l hl => ?_) (fun b => ?_)
   ·subst hl; show asq _ _ _ [_, _, _, _] _ = _
    simp only [kA, seval, vint, qC, qR, zStf, zStd, y4]
    try rfl
   ·subst hl; show asq _ _ _ [_, _, _, _] _ = _
    simp only [kA, seval, vint, qC, qR, zStf, zStd, y4]
    try rfl
   repeat refine wS ?_
   refine awp_joinX (σ := List Nat) (fun (F2 : List Nat) => [(1, .optr H0.length 0), (31, .slice (us.map Cd.enc) .none), (32, .int .i64 (us.length : Int)), (33, .int .i64 (i : Int)), (5, .optr H1.length 0)]) (fun (F2 : List Nat) =>  fun H2 => UOk iu old (.slice (tk.map Tk.enc) .none) off sh st rv (ns ++ [u.tree]) F2 H2 ∧ Fr F1 F2 H1 H2 ∧ H2[H1.length]? = some (.row u.enc.cells) ∧ H1.length ∉ F2) ?_ ?_
   ·-- to the meeting
    refine qI (a3 qR zStf zStd) (fun b2 => ?_) (fun b2 => ?_)
    ·-- if t38
     rcases rw_cases hk with ⟨hcv, hcid⟩ | ⟨ic0, c0, hcv, hcid⟩
     ·-- case
      subst hcv hcid
      repeat refine wS ?_
      refine awp_drawB 0 (by kernel_rfl) ?_
      refine seg_pure 8 (bm := [0, 1, 3, 7, 0, 16, 15, 0, 255, 511, 1023, 2047]) (by kernel_rfl) (by decide) (by kernel_rfl) (by kernel_rfl) ?_
      refine dp_end (by simp only [jP, jO, jN, seval, y36, y38, y61, y66, y98, vint, qC, qR, zStf, zStd, qu, qb, qc, List.length_map] <;> with_reducible rfl) (by decide) (by repeat (first | exact Fin.base _ | with_reducible apply Fin.keep | apply Fin.drop)) ?_
      refine seg_op (k := 8) (bm := [0, 1, 3, 7, 0, 16, 15, 0, 255, 511, 1023, 2047]) (by kernel_rfl) rfl (by kernel_rfl) (by kernel_rfl) ?_
      refine aops_appRw (enc := St.enc) (sz := 3) St.enc_len cellSt (by decide) (xs := ns) (a := St.mk 0 [] []) (by simp only [kC, seval, vint, qC, qR, zStf, zStd]) rfl (by decide) (by decide) (by simp only [kC, seval, vint, qC, qR, zStf, zStd] <;> first | done | rfl) (by simp only [kC, seval, vint, qC, qR, zStf, zStd] <;> first | done | rfl) (hk.app _) zte36 rfl (by show (_ + 1) * 48 ≤ _; omega) (by omega) (by rw [zte36]; rfl) ztz38 zStf ?_
      intro cv3 cid3 HA hk3 hc3 hl3 hs3
      refine oN ?_
      show GoAt _ _ _ _ _ _ _ _
      obtain ⟨he1, _⟩ | ⟨ic, c3, rest3, rfl, rfl, hA, hc3', hm3⟩ := hk3.cases2
      ·simp at he1
      have hu3 : HA[iu]? = some (.row [.slice (old.map Cd.enc) .none, .slice (tk.map Tk.enc) .none, .int .i64 off, .int .i64 sh, .int .i64 st, .int .i64 rv, .slice (ns.map St.enc) .full]) := by rw [hs3 iu (lG (qu _)) hn4]; exact qu _
      have hb3 : HA[H1.length]? = some (.row (Cd.enc u).cells) := by
       rw [hs3 H1.length (by simp) (fun h => by have := hk.lt _ h; omega)]; simp [Cd.enc_cells]
      have hc0 : HA[H0.length]? = some (.row [.optr iu 0]) := by rw [hs3 H0.length (lG (qc _)) hcn]; exact qc _
      have hic : ic ≠ iu := fun e => by
       rcases hc3 ic (by simp) with h | h
       ·exact hn4 (e ▸ h)
       ·simp at h; omega
      have hicb : ic ≠ H1.length := fun e => by
       rcases hc3 ic (by simp) with h | h
       ·have := hk.lt _ h; omega
       ·simp at h; omega
      have hicc : ic ≠ H0.length := fun e => by
       rcases hc3 ic (by simp) with h | h
       ·exact hcn (e ▸ h)
       ·have := lG hcb; simp at h; omega
      have hil := lG hA
      have hul3 := lG hu3
      have n1 : (ic == iu) = false := by simpa using hic
      have n2 : (iu == ic) = false := by simpa using Ne.symm hic
      have n3 : (ic = iu) = False := by simpa using hic
      have n4 : (iu = ic) = False := by simpa using Ne.symm hic
      have n5 : ∀ k, (ic = HA.length + k) = False := fun k => eq_false (by omega)
      have n6 : ∀ k, (iu = HA.length + k) = False := fun k => eq_false (by omega)
      have n7 : (H0.length == iu) = false := by simpa using hci
      have n8 : (H1.length == iu) = false := by simp; omega
      have n9 : (iu == H0.length) = false := by simpa using Ne.symm hci
      have n10 : (iu == H1.length) = false := by simp; omega
      have hll : (ns ++ [St.mk 0 [] []]).length = ns.length + 1 := by simp
      rw [hll] at hc3'
      rw [hll]
      refine seg_draw 3 (bm := [0, 1, 3, 7, 0, 16, 15, 0, 255, 511, 1023, 2047]) (by kernel_rfl) (by decide) (by kernel_rfl) (by kernel_rfl) ?_
      refine d_end (bm := [0, 1, 3, 7, 0, 16, 15, 0, 255, 511, 1023, 2047]) (fresh := HA.length + 7) (by kernel_rfl) (by simp only [jD, jO, jN, seval, y36, y38, y66, vint, qC, qR, zStf, zStd, hA, hu3, hb3, hc0, n1, n2, n3, n4, n5, n6, n7, n8, n9, n10, tN] <;> with_reducible rfl) (by decide) ?_
      refine goat_end ?_
      repeat refine wS ?_
      have hfl : (flatE ((ns ++ [St.mk 0 [] []]).map St.enc)).length = (ns.length + 1) * 3 := by rw [flatSt_len]; simp
      obtain ⟨RR, hRR⟩ : ∃ RR, flatE ((ns ++ [St.mk 0 [] []]).map St.enc) ++ rest3 = RR := ⟨_, rfl⟩
      rw [hRR] at hA
      have lRR : RR.length = c3 * 3 := by rw [← hRR, List.length_append, hfl]; omega
      have gk := ix_nat (n := ns.length + 1) (i := ns.length) (by omega)
      have hb4 : (ns.length * 3 + 3 ≤ c3 * 3) = True := eq_true (by omega)
      have hRR2 : RR = flatE (ns.map St.enc) ++ PV.int .i64 0 :: PV.str [] :: PV.slice [] .none :: rest3 := by rw [← hRR, flatSt_snoc]; simp [St.kind, St.text, St.ch]
      have hA2 : ∀ o, (HA.set iu o)[ic]? = some (.row RR) := fun o => by rw [List.getElem?_set_ne (Ne.symm hic)]; exact hA
      have n11 : (ic = HA.length) = False := eq_false (by omega)
      refine eE (by simp only [kA, seval, y36, y38, vint, qC, qR, zStf, zStd, hA2, hA, lRR, gk, hb4, n11, n3, n4, tN, lS] <;> with_reducible rfl) (by decide) ?_
      rw [List.set_comm _ _ (Ne.symm hic)]
      have hfin := u_fin2 (t := u.tree) (H1 := H1) rfl hF1 hu3 hil hic hRR2 hc3' hm3 ((hc3 ic (by simp)).imp id (fun h => by simp at h; omega)) (by simp at hl3; omega) (fun j hj hn => by rw [hs3 j (by simp; omega) hn, List.getElem?_append_left hj])
      refine ⟨[iu, ic], ⟨(by first | rfl | (simp only [jN, seval, vint, qC, qR, zStf, zStd] <;> first | done | with_reducible rfl)), (by first | rfl | (simp only [jN, seval, vint, qC, qR, zStf, zStd] <;> first | done | with_reducible rfl)), (by first | rfl | (simp only [jN, seval, vint, qC, qR, zStf, zStd] <;> first | done | with_reducible rfl)), (by first | rfl | (simp only [jN, seval, vint, qC, qR, zStf, zStd] <;> first | done | with_reducible rfl)), (by first | rfl | (simp only [jN, seval, vint, qC, qR, zStf, zStd] <;> first | done | with_reducible rfl)), trivial⟩, hfin.1, hfin.2, ?_, ?_⟩
      ·rw [List.getElem?_set_ne (by omega), List.getElem?_set_ne hicb]; exact hb3
      ·simp only [List.mem_cons, List.not_mem_nil, or_false, not_or]; exact ⟨by omega, Ne.symm hicb⟩
     ·-- case
      subst hcv hcid
      repeat refine wS ?_
      refine awp_drawB 0 (by kernel_rfl) ?_
      refine seg_pure 8 (bm := [0, 1, 3, 7, 0, 16, 15, 0, 255, 511, 1023, 2047]) (by kernel_rfl) (by decide) (by kernel_rfl) (by kernel_rfl) ?_
      refine dp_end (by simp only [jP, jO, jN, seval, y36, y38, y61, y66, y98, vint, qC, qR, zStf, zStd, qu, qb, qc, List.length_map] <;> with_reducible rfl) (by decide) (by repeat (first | exact Fin.base _ | with_reducible apply Fin.keep | apply Fin.drop)) ?_
      refine seg_op (k := 8) (bm := [0, 1, 3, 7, 0, 16, 15, 0, 255, 511, 1023, 2047]) (by kernel_rfl) rfl (by kernel_rfl) (by kernel_rfl) ?_
      refine aops_appRw (enc := St.enc) (sz := 3) St.enc_len cellSt (by decide) (xs := ns) (a := St.mk 0 [] []) (by simp only [kC, seval, vint, qC, qR, zStf, zStd]) rfl (by decide) (by decide) (by simp only [kC, seval, vint, qC, qR, zStf, zStd] <;> first | done | rfl) (by simp only [kC, seval, vint, qC, qR, zStf, zStd] <;> first | done | rfl) (hk.app _) zte36 rfl (by show (_ + 1) * 48 ≤ _; omega) (by omega) (by rw [zte36]; rfl) ztz38 zStf ?_
      intro cv3 cid3 HA hk3 hc3 hl3 hs3
      refine oN ?_
      show GoAt _ _ _ _ _ _ _ _
      obtain ⟨he1, _⟩ | ⟨ic, c3, rest3, rfl, rfl, hA, hc3', hm3⟩ := hk3.cases2
      ·simp at he1
      have hu3 : HA[iu]? = some (.row [.slice (old.map Cd.enc) .none, .slice (tk.map Tk.enc) .none, .int .i64 off, .int .i64 sh, .int .i64 st, .int .i64 rv, .msl ic0 0 ns.length c0]) := by rw [hs3 iu (lG (qu _)) hn4]; exact qu _
      have hb3 : HA[H1.length]? = some (.row (Cd.enc u).cells) := by
       rw [hs3 H1.length (by simp) (fun h => by have := hk.lt _ h; omega)]; simp [Cd.enc_cells]
      have hc0 : HA[H0.length]? = some (.row [.optr iu 0]) := by rw [hs3 H0.length (lG (qc _)) hcn]; exact qc _
      have hic : ic ≠ iu := fun e => by
       rcases hc3 ic (by simp) with h | h
       ·exact hn4 (e ▸ h)
       ·simp at h; omega
      have hicb : ic ≠ H1.length := fun e => by
       rcases hc3 ic (by simp) with h | h
       ·have := hk.lt _ h; omega
       ·simp at h; omega
      have hicc : ic ≠ H0.length := fun e => by
       rcases hc3 ic (by simp) with h | h
       ·exact hcn (e ▸ h)
       ·have := lG hcb; simp at h; omega
      have hil := lG hA
      have hul3 := lG hu3
      have n1 : (ic == iu) = false := by simpa using hic
      have n2 : (iu == ic) = false := by simpa using Ne.symm hic
      have n3 : (ic = iu) = False := by simpa using hic
      have n4 : (iu = ic) = False := by simpa using Ne.symm hic
      have n5 : ∀ k, (ic = HA.length + k) = False := fun k => eq_false (by omega)
      have n6 : ∀ k, (iu = HA.length + k) = False := fun k => eq_false (by omega)
      have n7 : (H0.length == iu) = false := by simpa using hci
      have n8 : (H1.length == iu) = false := by simp; omega
      have n9 : (iu == H0.length) = false := by simpa using Ne.symm hci
      have n10 : (iu == H1.length) = false := by simp; omega
      have hll : (ns ++ [St.mk 0 [] []]).length = ns.length + 1 := by simp
      rw [hll] at hc3'
      rw [hll]
      refine seg_draw 3 (bm := [0, 1, 3, 7, 0, 16, 15, 0, 255, 511, 1023, 2047]) (by kernel_rfl) (by decide) (by kernel_rfl) (by kernel_rfl) ?_
      refine d_end (bm := [0, 1, 3, 7, 0, 16, 15, 0, 255, 511, 1023, 2047]) (fresh := HA.length + 7) (by kernel_rfl) (by simp only [jD, jO, jN, seval, y36, y38, y66, vint, qC, qR, zStf, zStd, hA, hu3, hb3, hc0, n1, n2, n3, n4, n5, n6, n7, n8, n9, n10, tN] <;> with_reducible rfl) (by decide) ?_
      refine goat_end ?_
      repeat refine wS ?_
      have hfl : (flatE ((ns ++ [St.mk 0 [] []]).map St.enc)).length = (ns.length + 1) * 3 := by rw [flatSt_len]; simp
      obtain ⟨RR, hRR⟩ : ∃ RR, flatE ((ns ++ [St.mk 0 [] []]).map St.enc) ++ rest3 = RR := ⟨_, rfl⟩
      rw [hRR] at hA
      have lRR : RR.length = c3 * 3 := by rw [← hRR, List.length_append, hfl]; omega
      have gk := ix_nat (n := ns.length + 1) (i := ns.length) (by omega)
      have hb4 : (ns.length * 3 + 3 ≤ c3 * 3) = True := eq_true (by omega)
      have hRR2 : RR = flatE (ns.map St.enc) ++ PV.int .i64 0 :: PV.str [] :: PV.slice [] .none :: rest3 := by rw [← hRR, flatSt_snoc]; simp [St.kind, St.text, St.ch]
      have hA2 : ∀ o, (HA.set iu o)[ic]? = some (.row RR) := fun o => by rw [List.getElem?_set_ne (Ne.symm hic)]; exact hA
      have n11 : (ic = HA.length) = False := eq_false (by omega)
      refine eE (by simp only [kA, seval, y36, y38, vint, qC, qR, zStf, zStd, hA2, hA, lRR, gk, hb4, n11, n3, n4, tN, lS] <;> with_reducible rfl) (by decide) ?_
      rw [List.set_comm _ _ (Ne.symm hic)]
      have hfin := u_fin2 (t := u.tree) (H1 := H1) rfl hF1 hu3 hil hic hRR2 hc3' hm3 ((hc3 ic (by simp)).imp id (fun h => by simp at h; omega)) (by simp at hl3; omega) (fun j hj hn => by rw [hs3 j (by simp; omega) hn, List.getElem?_append_left hj])
      refine ⟨[iu, ic], ⟨(by first | rfl | (simp only [jN, seval, vint, qC, qR, zStf, zStd] <;> first | done | with_reducible rfl)), (by first | rfl | (simp only [jN, seval, vint, qC, qR, zStf, zStd] <;> first | done | with_reducible rfl)), (by first | rfl | (simp only [jN, seval, vint, qC, qR, zStf, zStd] <;> first | done | with_reducible rfl)), (by first | rfl | (simp only [jN, seval, vint, qC, qR, zStf, zStd] <;> first | done | with_reducible rfl)), (by first | rfl | (simp only [jN, seval, vint, qC, qR, zStf, zStd] <;> first | done | with_reducible rfl)), trivial⟩, hfin.1, hfin.2, ?_, ?_⟩
      ·rw [List.getElem?_set_ne (by omega), List.getElem?_set_ne hicb]; exact hb3
      ·simp only [List.mem_cons, List.not_mem_nil, or_false, not_or]; exact ⟨by omega, Ne.symm hicb⟩
    ·-- else t38
     refine qL [1, 5, 31, 32, 33] (a3 qR zStf zStd) ?_
     repeat refine wS ?_
     refine awp_gos (fun T H => ∃ F2, Fits T [(1, .optr H0.length 0), (5, .optr H1.length 0), (31, .slice (us.map Cd.enc) .none), (32, .int .i64 (us.length : Int)), (33, .int .i64 (i : Int))] ∧ UOk iu old (.slice (tk.map Tk.enc) .none) off sh st rv (ns ++ [u.tree]) F2 H ∧ Fr F1 F2 H1 H ∧ H[H1.length]? = some (.row u.enc.cells) ∧ H1.length ∉ F2) (by kernel_rfl) (fun ops R hops hR => ?_) (fun T' H2 hr => ?_)
     ·have hk0 := hk
      have hk := hk.app [.row [.int .i64 u.tree.kind, .str u.tree.text, .slice (u.tree.ch.map St.enc) .none, .int .i64 u.start, .int .i64 u.fin, .int .i64 u.look], .row [.bool b]]
      have happ : ∀ (cv3 : PV) (cid3 : List Nat) (HA : Heap), RwOk St.enc 3 HA cv3 (ns ++ [u.tree]) cid3 → (∀ i ∈ cid3, i ∈ cid ∨ (H1 ++ [AObj.row [.int .i64 u.tree.kind, .str u.tree.text, .slice (u.tree.ch.map St.enc) .none, .int .i64 u.start, .int .i64 u.fin, .int .i64 u.look], AObj.row [.bool b]]).length ≤ i) → (H1 ++ [AObj.row [.int .i64 u.tree.kind, .str u.tree.text, .slice (u.tree.ch.map St.enc) .none, .int .i64 u.start, .int .i64 u.fin, .int .i64 u.look], AObj.row [.bool b]]).length ≤ HA.length → (∀ j, j < (H1 ++ [AObj.row [.int .i64 u.tree.kind, .str u.tree.text, .slice (u.tree.ch.map St.enc) .none, .int .i64 u.start, .int .i64 u.fin, .int .i64 u.look], AObj.row [.bool b]]).length → j ∉ cid → HA[j]? = (H1 ++ [AObj.row [.int .i64 u.tree.kind, .str u.tree.text, .slice (u.tree.ch.map St.enc) .none, .int .i64 u.start, .int .i64 u.fin, .int .i64 u.look], AObj.row [.bool b]])[j]?) → HA[H1.length]? = some (.row u.enc.cells) ∧ HA[H0.length]? = some (.row [.optr iu 0]) ∧ HA[iu]? = some (.row [.slice (old.map Cd.enc) .none, .slice (tk.map Tk.enc) .none, .int .i64 off, .int .i64 sh, .int .i64 st, .int .i64 rv, cv]) ∧ ∀ T, Fits T [(1, .optr H0.length 0), (5, .optr H1.length 0), (31, .slice (us.map Cd.enc) .none), (32, .int .i64 (us.length : Int)), (33, .int .i64 (i : Int))] → R T (HA.set iu (.row [.slice (old.map Cd.enc) .none, .slice (tk.map Tk.enc) .none, .int .i64 off, .int .i64 sh, .int .i64 st, .int .i64 rv, cv3])) := by
       intro cv3 cid3 HA hk3 hc3 hl3 hs3
       obtain ⟨he1, _⟩ | ⟨ic, c3, rest3, rfl, rfl, hA, hc3', hm3⟩ := hk3.cases2
       ·simp at he1
       have hu3 : HA[iu]? = some (.row [.slice (old.map Cd.enc) .none, .slice (tk.map Tk.enc) .none, .int .i64 off, .int .i64 sh, .int .i64 st, .int .i64 rv, cv]) := by rw [hs3 iu (lG (qu _)) hn4]; exact qu _
       have hb3 : HA[H1.length]? = some (.row (Cd.enc u).cells) := by
        rw [hs3 H1.length (by simp) (fun h => by have := hk0.lt _ h; omega)]; simp [Cd.enc_cells]
       have hc0 : HA[H0.length]? = some (.row [.optr iu 0]) := by rw [hs3 H0.length (lG (qc _)) hcn]; exact qc _
       have hic : ic ≠ iu := fun e => by
        rcases hc3 ic (by simp) with h | h
        ·exact hn4 (e ▸ h)
        ·simp at h; omega
       have hicb : ic ≠ H1.length := fun e => by
        rcases hc3 ic (by simp) with h | h
        ·have := hk0.lt _ h; omega
        ·simp at h; omega
       have hicc : ic ≠ H0.length := fun e => by
        rcases hc3 ic (by simp) with h | h
        ·exact hcn (e ▸ h)
        ·have := lG hcb; simp at h; omega
       have hil := lG hA
       have hul3 := lG hu3
       have n1 : (ic == iu) = false := by simpa using hic
       have n2 : (iu == ic) = false := by simpa using Ne.symm hic
       have n3 : (ic = iu) = False := by simpa using hic
       have n4 : (iu = ic) = False := by simpa using Ne.symm hic
       have n5 : ∀ k, (ic = HA.length + k) = False := fun k => eq_false (by omega)
       have n6 : ∀ k, (iu = HA.length + k) = False := fun k => eq_false (by omega)
       have n7 : (H0.length == iu) = false := by simpa using hci
       have n8 : (H1.length == iu) = false := by simp; omega
       have n9 : (iu == H0.length) = false := by simpa using Ne.symm hci
       have n10 : (iu == H1.length) = false := by simp; omega
       refine ⟨hb3, hc0, hu3, fun T hT => ?_⟩
       subst hR
       have hll : (ns ++ [u.tree]).length = ns.length + 1 := by simp
       rw [hll] at hc3' ⊢
       have hfin := u_fin (H1 := H1) (t := u.tree) (nodes := ns) (old := old) (tv := .slice (tk.map Tk.enc) .none) (off := off) (sh := sh) (st := st) (re := rv) rfl hF1 (List.getElem?_set_self hul3) (by rw [List.getElem?_set_ne (Ne.symm hic)]; exact hA) hc3' hm3 (Ne.symm hic) ((hc3 ic (by simp)).imp id (fun h => by simp at h; omega)) (by simp at hl3 ⊢; omega) (fun j hj hjF => by rw [List.getElem?_set_ne (by rintro rfl; exact hjF (by rw [hF1]; simp)), hs3 j (by simp; omega) (fun h => hjF (by rw [hF1]; simp [h])), List.getElem?_append_left hj])
       refine ⟨[iu, ic], hT, hfin.1, hfin.2, ?_, ?_⟩
       ·rw [List.getElem?_set_ne (by omega)]; exact hb3
       ·simp only [List.mem_cons, List.not_mem_nil, or_false, not_or]; exact ⟨by omega, Ne.symm hicb⟩
      have zF := a5 qR zStf zStd qu (a2 qb qc)
      obtain ⟨G, hG⟩ : ∃ G : Nat → Array Bool → List (Nat × PV) → Heap → Prop, G = fun f a s h => GoS Tryz.prog 74 H0.length ops (NQ R) f a (mkS (s ++ [(1, .optr H0.length 0), (5, .optr H1.length 0), (31, .slice (us.map Cd.enc) .none), (32, .int .i64 (us.length : Int)), (33, .int .i64 (i : Int))])) h := ⟨_, rfl⟩
      obtain ⟨HH, hHH⟩ : ∃ HH : Heap, HH = H1 ++ [AObj.row [.int .i64 u.tree.kind, .str u.tree.text, .slice (u.tree.ch.map St.enc) .none, .int .i64 u.start, .int .i64 u.fin, .int .i64 u.look], AObj.row [.bool b]] := ⟨_, rfl⟩
      obtain ⟨D, hD⟩ : ∃ D : PV → Heap → Prop, D = fun cv3 HA => cv3.cells = [cv3] ∧ cv3.isCell = true ∧ HA[H1.length]? = some (.row u.enc.cells) ∧ HA[H0.length]? = some (.row [.optr iu 0]) ∧ HA[iu]? = some (.row [.slice (old.map Cd.enc) .none, .slice (tk.map Tk.enc) .none, .int .i64 off, .int .i64 sh, .int .i64 st, .int .i64 rv, cv]) ∧ ∀ T, Fits T [(1, .optr H0.length 0), (5, .optr H1.length 0), (31, .slice (us.map Cd.enc) .none), (32, .int .i64 (us.length : Int)), (33, .int .i64 (i : Int))] → R T (HA.set iu (.row [.slice (old.map Cd.enc) .none, .slice (tk.map Tk.enc) .none, .int .i64 off, .int .i64 sh, .int .i64 st, .int .i64 rv, cv3])) := ⟨_, rfl⟩
      have d11 : ∀ cv3 HA, D cv3 HA → G 1 #[true, true, true, true, true, true, true, true, true, true, true, false] [(59, cv3), (61, .optr iu 6)] HA := by
       intro cv3 HA hd; rw [hD] at hd; obtain ⟨hcc, hcl, hb3, hc0, hu3, hR⟩ := hd; rw [hG]; subst hops
       have n6 : (iu = HA.length) = False := eq_false (by have := lG hu3; omega)
       have zD := a5 hb3 hc0 hu3 n6 (a5 hcc hcl (@List.length_singleton PV) (@List.all_cons PV) (a2 (@List.all_nil PV) Bool.and_true))
       refine zs1 11 rfl (qX (a3 y36 y38 zD) ?_)
       exact gos_nil ⟨rfl, hR _ (by repeat (first | exact trivial | refine ⟨rfl, ?_⟩))⟩
      have d10 : ∀ cv3 HA, D cv3 HA → G 2 #[true, true, true, true, true, true, true, true, true, true, false, false] [(59, cv3), (60, .optr iu 0)] HA := by
       intro cv3 HA hd; rw [hD] at hd; obtain ⟨hcc, hcl, hb3, hc0, hu3, hR⟩ := hd; rw [hG]; subst hops
       have n6 : (iu = HA.length) = False := eq_false (by have := lG hu3; omega)
       have zD := a5 hb3 hc0 hu3 n6 (a5 hcc hcl (@List.length_singleton PV) (@List.all_cons PV) (a2 (@List.all_nil PV) Bool.and_true))
       refine zs1 10 rfl (qX (a2 y66 zD) ?_)
       have h := d11 cv3 HA (by rw [hD]; exact ⟨hcc, hcl, hb3, hc0, hu3, hR⟩); rw [hG] at h; exact h.weak (mkS_weak (by simp only [List.cons_append, List.nil_append]; repeat (first | exact trivial | refine ⟨rfl, ?_⟩)))
      have d9 : ∀ cv3 HA, D cv3 HA → G 3 #[true, true, true, true, true, true, true, true, true, false, false, false] [(51, .optr iu 0), (59, cv3)] HA := by
       intro cv3 HA hd; rw [hD] at hd; obtain ⟨hcc, hcl, hb3, hc0, hu3, hR⟩ := hd; rw [hG]; subst hops
       have n6 : (iu = HA.length) = False := eq_false (by have := lG hu3; omega)
       have zD := a5 hb3 hc0 hu3 n6 (a5 hcc hcl (@List.length_singleton PV) (@List.all_cons PV) (a2 (@List.all_nil PV) Bool.and_true))
       refine zs1 9 rfl (qX zD ?_)
       have h := d10 cv3 HA (by rw [hD]; exact ⟨hcc, hcl, hb3, hc0, hu3, hR⟩); rw [hG] at h; exact h.weak (mkS_weak (by simp only [List.cons_append, List.nil_append]; repeat (first | exact trivial | refine ⟨rfl, ?_⟩)))
      have d0 : ∀ cv3 HA, D cv3 HA → G 4 #[false, true, true, true, true, true, true, true, true, false, false, false] [(59, cv3)] HA := by
       intro cv3 HA hd; rw [hD] at hd; obtain ⟨hcc, hcl, hb3, hc0, hu3, hR⟩ := hd; rw [hG]; subst hops
       have n6 : (iu = HA.length) = False := eq_false (by have := lG hu3; omega)
       have zD := a5 hb3 hc0 hu3 n6 (a5 hcc hcl (@List.length_singleton PV) (@List.all_cons PV) (a2 (@List.all_nil PV) Bool.and_true))
       refine zs1 0 rfl (qX (a2 y61 zD) ?_)
       have h := d9 cv3 HA (by rw [hD]; exact ⟨hcc, hcl, hb3, hc0, hu3, hR⟩); rw [hG] at h; exact h.weak (mkS_weak (by simp only [List.cons_append, List.nil_append]; repeat (first | exact trivial | refine ⟨rfl, ?_⟩)))
      have g431 : G 4 #[true, true, true, true, true, true, true, true, false, false, false, false] [(55, cv), (58, .slice [u.tree.enc] .full), (51, .optr iu 0)] HH := by
       rw [hG] at *; rw [hHH] at *; subst hops
       refine zs1 8 rfl ?_
       refine aops_appRw (enc := St.enc) (sz := 3) St.enc_len cellSt (by decide) (xs := ns) (a := u.tree) (by simp only [kC, seval, vint, qC, qR, zStf, zStd]) rfl (by decide) (by decide) (by simp only [kC, seval, vint, qC, qR, zStf, zStd] <;> first | done | rfl) (by simp only [kC, seval, vint, qC, qR, zStf, zStd] <;> first | done | rfl) hk zte36 rfl (by show (_ + 1) * 48 ≤ _; omega) (by omega) (by rw [zte36]; rfl) ztz38 zStf ?_
       intro cv3 cid3 HA hk3 hc3 hl3 hs3
       refine oN ?_
       have hcc : cv3.cells = [cv3] := by rcases hk3.cases2 with ⟨_, rfl, _⟩ | ⟨_, _, _, rfl, _⟩ <;> rfl
       have hcl : cv3.isCell = true := by rcases hk3.cases2 with ⟨_, rfl, _⟩ | ⟨_, _, _, rfl, _⟩ <;> rfl
       obtain ⟨q1, q2, q3, q4⟩ := happ cv3 cid3 HA hk3 hc3 hl3 hs3
       have h := d9 cv3 HA (by rw [hD]; exact ⟨hcc, hcl, q1, q2, q3, q4⟩); rw [hG] at h; exact h.weak (mkS_weak (by simp only [List.cons_append, List.nil_append]; repeat (first | exact trivial | refine ⟨rfl, ?_⟩)))
      have g421 : G 5 #[true, true, true, true, true, true, true, false, false, false, false, false] [(55, cv), (57, u.tree.enc), (51, .optr iu 0)] HH := by
       rw [hG] at *; rw [hHH] at *; subst hops
       exact zs1 7 rfl (zX (a3 y36 y38 zF) g431)
      have g331 : G 5 #[true, true, true, true, false, true, true, true, false, false, false, false] [(54, .optr iu 6), (58, .slice [u.tree.enc] .full), (51, .optr iu 0)] HH := by
       rw [hG] at *; rw [hHH] at *; subst hops
       exact zs1 4 rfl (zX (a3 y36 y38 zF) g431)
      have g430 : G 5 #[false, true, true, true, true, true, true, true, false, false, false, false] [(55, cv), (58, .slice [u.tree.enc] .full)] HH := by
       rw [hG] at *; rw [hHH] at *; subst hops
       refine zs2 0 8 rfl rfl (zX (a2 y61 zF) g431) ?_
       refine aops_appRw (enc := St.enc) (sz := 3) St.enc_len cellSt (by decide) (xs := ns) (a := u.tree) (by simp only [kC, seval, vint, qC, qR, zStf, zStd]) rfl (by decide) (by decide) (by simp only [kC, seval, vint, qC, qR, zStf, zStd] <;> first | done | rfl) (by simp only [kC, seval, vint, qC, qR, zStf, zStd] <;> first | done | rfl) hk zte36 rfl (by show (_ + 1) * 48 ≤ _; omega) (by omega) (by rw [zte36]; rfl) ztz38 zStf ?_
       intro cv3 cid3 HA hk3 hc3 hl3 hs3
       refine oN ?_
       have hcc : cv3.cells = [cv3] := by rcases hk3.cases2 with ⟨_, rfl, _⟩ | ⟨_, _, _, rfl, _⟩ <;> rfl
       have hcl : cv3.isCell = true := by rcases hk3.cases2 with ⟨_, rfl, _⟩ | ⟨_, _, _, rfl, _⟩ <;> rfl
       obtain ⟨q1, q2, q3, q4⟩ := happ cv3 cid3 HA hk3 hc3 hl3 hs3
       have h := d0 cv3 HA (by rw [hD]; exact ⟨hcc, hcl, q1, q2, q3, q4⟩); rw [hG] at h; exact h.weak (mkS_weak (by simp only [List.cons_append, List.nil_append]; repeat (first | exact trivial | refine ⟨rfl, ?_⟩)))
      have g411 : G 6 #[true, true, true, true, true, true, false, false, false, false, false, false] [(55, cv), (56, .optr H1.length 0), (51, .optr iu 0)] HH := by
       rw [hG] at *; rw [hHH] at *; subst hops
       exact zs1 6 rfl (zX (a2 y38 zF) g421)
      have g321 : G 6 #[true, true, true, true, false, true, true, false, false, false, false, false] [(54, .optr iu 6), (57, u.tree.enc), (51, .optr iu 0)] HH := by
       rw [hG] at *; rw [hHH] at *; subst hops
       exact zs2 4 7 rfl rfl (zX (a3 y36 y38 zF) g421) (zX (a3 y36 y38 zF) g331)
      have g231 : G 6 #[true, true, true, false, false, true, true, true, false, false, false, false] [(53, .optr iu 0), (58, .slice [u.tree.enc] .full), (51, .optr iu 0)] HH := by
       rw [hG] at *; rw [hHH] at *; subst hops
       exact zs1 3 rfl (zX (a2 y66 zF) g331)
      have g420 : G 6 #[false, true, true, true, true, true, true, false, false, false, false, false] [(55, cv), (57, u.tree.enc)] HH := by
       rw [hG] at *; rw [hHH] at *; subst hops
       exact zs2 0 7 rfl rfl (zX (a2 y61 zF) g421) (zX (a3 y36 y38 zF) g430)
      have g330 : G 6 #[false, true, true, true, false, true, true, true, false, false, false, false] [(54, .optr iu 6), (58, .slice [u.tree.enc] .full)] HH := by
       rw [hG] at *; rw [hHH] at *; subst hops
       exact zs2 0 4 rfl rfl (zX (a2 y61 zF) g331) (zX (a3 y36 y38 zF) g430)
      have g401 : G 7 #[true, true, true, true, true, false, false, false, false, false, false, false] [(55, cv), (51, .optr iu 0)] HH := by
       rw [hG] at *; rw [hHH] at *; subst hops
       exact zs1 5 rfl (zX (a2 y98 zF) g411)
      have g311 : G 7 #[true, true, true, true, false, true, false, false, false, false, false, false] [(54, .optr iu 6), (56, .optr H1.length 0), (51, .optr iu 0)] HH := by
       rw [hG] at *; rw [hHH] at *; subst hops
       exact zs2 4 6 rfl rfl (zX (a3 y36 y38 zF) g411) (zX (a2 y38 zF) g321)
      have g221 : G 7 #[true, true, true, false, false, true, true, false, false, false, false, false] [(53, .optr iu 0), (57, u.tree.enc), (51, .optr iu 0)] HH := by
       rw [hG] at *; rw [hHH] at *; subst hops
       exact zs2 3 7 rfl rfl (zX (a2 y66 zF) g321) (zX (a3 y36 y38 zF) g231)
      have g131 : G 7 #[true, true, false, false, false, true, true, true, false, false, false, false] [(52, .optr iu 0), (58, .slice [u.tree.enc] .full), (51, .optr iu 0)] HH := by
       rw [hG] at *; rw [hHH] at *; subst hops
       exact zs1 2 rfl (zX zF g231)
      have g410 : G 7 #[false, true, true, true, true, true, false, false, false, false, false, false] [(55, cv), (56, .optr H1.length 0)] HH := by
       rw [hG] at *; rw [hHH] at *; subst hops
       exact zs2 0 6 rfl rfl (zX (a2 y61 zF) g411) (zX (a2 y38 zF) g420)
      have g320 : G 7 #[false, true, true, true, false, true, true, false, false, false, false, false] [(54, .optr iu 6), (57, u.tree.enc)] HH := by
       rw [hG] at *; rw [hHH] at *; subst hops
       exact zs3 0 4 7 rfl rfl rfl (zX (a2 y61 zF) g321) (zX (a3 y36 y38 zF) g420) (zX (a3 y36 y38 zF) g330)
      have g230 : G 7 #[false, true, true, false, false, true, true, true, false, false, false, false] [(53, .optr iu 0), (58, .slice [u.tree.enc] .full)] HH := by
       rw [hG] at *; rw [hHH] at *; subst hops
       exact zs2 0 3 rfl rfl (zX (a2 y61 zF) g231) (zX (a2 y66 zF) g330)
      have g301 : G 8 #[true, true, true, true, false, false, false, false, false, false, false, false] [(54, .optr iu 6), (51, .optr iu 0)] HH := by
       rw [hG] at *; rw [hHH] at *; subst hops
       exact zs2 4 5 rfl rfl (zX (a3 y36 y38 zF) g401) (zX (a2 y98 zF) g311)
      have g211 : G 8 #[true, true, true, false, false, true, false, false, false, false, false, false] [(53, .optr iu 0), (56, .optr H1.length 0), (51, .optr iu 0)] HH := by
       rw [hG] at *; rw [hHH] at *; subst hops
       exact zs2 3 6 rfl rfl (zX (a2 y66 zF) g311) (zX (a2 y38 zF) g221)
      have g121 : G 8 #[true, true, false, false, false, true, true, false, false, false, false, false] [(52, .optr iu 0), (57, u.tree.enc), (51, .optr iu 0)] HH := by
       rw [hG] at *; rw [hHH] at *; subst hops
       exact zs2 2 7 rfl rfl (zX zF g221) (zX (a3 y36 y38 zF) g131)
      have g031 : G 8 #[true, false, false, false, false, true, true, true, false, false, false, false] [(58, .slice [u.tree.enc] .full), (51, .optr iu 0)] HH := by
       rw [hG] at *; rw [hHH] at *; subst hops
       exact zs1 1 rfl (zX (a2 y61 zF) g131)
      have g400 : G 8 #[false, true, true, true, true, false, false, false, false, false, false, false] [(55, cv)] HH := by
       rw [hG] at *; rw [hHH] at *; subst hops
       exact zs2 0 5 rfl rfl (zX (a2 y61 zF) g401) (zX (a2 y98 zF) g410)
      have g310 : G 8 #[false, true, true, true, false, true, false, false, false, false, false, false] [(54, .optr iu 6), (56, .optr H1.length 0)] HH := by
       rw [hG] at *; rw [hHH] at *; subst hops
       exact zs3 0 4 6 rfl rfl rfl (zX (a2 y61 zF) g311) (zX (a3 y36 y38 zF) g410) (zX (a2 y38 zF) g320)
      have g220 : G 8 #[false, true, true, false, false, true, true, false, false, false, false, false] [(53, .optr iu 0), (57, u.tree.enc)] HH := by
       rw [hG] at *; rw [hHH] at *; subst hops
       exact zs3 0 3 7 rfl rfl rfl (zX (a2 y61 zF) g221) (zX (a2 y66 zF) g320) (zX (a3 y36 y38 zF) g230)
      have g130 : G 8 #[false, true, false, false, false, true, true, true, false, false, false, false] [(52, .optr iu 0), (58, .slice [u.tree.enc] .full)] HH := by
       rw [hG] at *; rw [hHH] at *; subst hops
       exact zs2 0 2 rfl rfl (zX (a2 y61 zF) g131) (zX zF g230)
      have g201 : G 9 #[true, true, true, false, false, false, false, false, false, false, false, false] [(53, .optr iu 0), (51, .optr iu 0)] HH := by
       rw [hG] at *; rw [hHH] at *; subst hops
       exact zs2 3 5 rfl rfl (zX (a2 y66 zF) g301) (zX (a2 y98 zF) g211)
      have g111 : G 9 #[true, true, false, false, false, true, false, false, false, false, false, false] [(52, .optr iu 0), (56, .optr H1.length 0), (51, .optr iu 0)] HH := by
       rw [hG] at *; rw [hHH] at *; subst hops
       exact zs2 2 6 rfl rfl (zX zF g211) (zX (a2 y38 zF) g121)
      have g021 : G 9 #[true, false, false, false, false, true, true, false, false, false, false, false] [(57, u.tree.enc), (51, .optr iu 0)] HH := by
       rw [hG] at *; rw [hHH] at *; subst hops
       exact zs2 1 7 rfl rfl (zX (a2 y61 zF) g121) (zX (a3 y36 y38 zF) g031)
      have g300 : G 9 #[false, true, true, true, false, false, false, false, false, false, false, false] [(54, .optr iu 6)] HH := by
       rw [hG] at *; rw [hHH] at *; subst hops
       exact zs3 0 4 5 rfl rfl rfl (zX (a2 y61 zF) g301) (zX (a3 y36 y38 zF) g400) (zX (a2 y98 zF) g310)
      have g210 : G 9 #[false, true, true, false, false, true, false, false, false, false, false, false] [(53, .optr iu 0), (56, .optr H1.length 0)] HH := by
       rw [hG] at *; rw [hHH] at *; subst hops
       exact zs3 0 3 6 rfl rfl rfl (zX (a2 y61 zF) g211) (zX (a2 y66 zF) g310) (zX (a2 y38 zF) g220)
      have g120 : G 9 #[false, true, false, false, false, true, true, false, false, false, false, false] [(52, .optr iu 0), (57, u.tree.enc)] HH := by
       rw [hG] at *; rw [hHH] at *; subst hops
       exact zs3 0 2 7 rfl rfl rfl (zX (a2 y61 zF) g121) (zX zF g220) (zX (a3 y36 y38 zF) g130)
      have g030 : G 9 #[false, false, false, false, false, true, true, true, false, false, false, false] [(58, .slice [u.tree.enc] .full)] HH := by
       rw [hG] at *; rw [hHH] at *; subst hops
       exact zs2 0 1 rfl rfl (zX (a2 y61 zF) g031) (zX (a2 y61 zF) g130)
      have g101 : G 10 #[true, true, false, false, false, false, false, false, false, false, false, false] [(52, .optr iu 0), (51, .optr iu 0)] HH := by
       rw [hG] at *; rw [hHH] at *; subst hops
       exact zs2 2 5 rfl rfl (zX zF g201) (zX (a2 y98 zF) g111)
      have g011 : G 10 #[true, false, false, false, false, true, false, false, false, false, false, false] [(56, .optr H1.length 0), (51, .optr iu 0)] HH := by
       rw [hG] at *; rw [hHH] at *; subst hops
       exact zs2 1 6 rfl rfl (zX (a2 y61 zF) g111) (zX (a2 y38 zF) g021)
      have g200 : G 10 #[false, true, true, false, false, false, false, false, false, false, false, false] [(53, .optr iu 0)] HH := by
       rw [hG] at *; rw [hHH] at *; subst hops
       exact zs3 0 3 5 rfl rfl rfl (zX (a2 y61 zF) g201) (zX (a2 y66 zF) g300) (zX (a2 y98 zF) g210)
      have g110 : G 10 #[false, true, false, false, false, true, false, false, false, false, false, false] [(52, .optr iu 0), (56, .optr H1.length 0)] HH := by
       rw [hG] at *; rw [hHH] at *; subst hops
       exact zs3 0 2 6 rfl rfl rfl (zX (a2 y61 zF) g111) (zX zF g210) (zX (a2 y38 zF) g120)
      have g020 : G 10 #[false, false, false, false, false, true, true, false, false, false, false, false] [(57, u.tree.enc)] HH := by
       rw [hG] at *; rw [hHH] at *; subst hops
       exact zs3 0 1 7 rfl rfl rfl (zX (a2 y61 zF) g021) (zX (a2 y61 zF) g120) (zX (a3 y36 y38 zF) g030)
      have g001 : G 11 #[true, false, false, false, false, false, false, false, false, false, false, false] [(51, .optr iu 0)] HH := by
       rw [hG] at *; rw [hHH] at *; subst hops
       exact zs2 1 5 rfl rfl (zX (a2 y61 zF) g101) (zX (a2 y98 zF) g011)
      have g100 : G 11 #[false, true, false, false, false, false, false, false, false, false, false, false] [(52, .optr iu 0)] HH := by
       rw [hG] at *; rw [hHH] at *; subst hops
       exact zs3 0 2 5 rfl rfl rfl (zX (a2 y61 zF) g101) (zX zF g200) (zX (a2 y98 zF) g110)
      have g010 : G 11 #[false, false, false, false, false, true, false, false, false, false, false, false] [(56, .optr H1.length 0)] HH := by
       rw [hG] at *; rw [hHH] at *; subst hops
       exact zs3 0 1 6 rfl rfl rfl (zX (a2 y61 zF) g011) (zX (a2 y61 zF) g110) (zX (a2 y38 zF) g020)
      have g000 : G 12 #[false, false, false, false, false, false, false, false, false, false, false, false] [] HH := by
       rw [hG] at *; rw [hHH] at *; subst hops
       exact zs3 0 1 5 rfl rfl rfl (zX (a2 y61 zF) g001) (zX (a2 y61 zF) g100) (zX (a2 y98 zF) g010)
      subst hops
      rw [List.append_assoc]
      rw [hG, hHH] at g000; exact g000
     obtain ⟨F2, ⟨a1, a5, a31, a32, a33, _⟩, hq1, hq2, hq3, hq4⟩ := hr
     exact ⟨F2, ⟨a1, a31, a32, a33, a5, trivial⟩, hq1, hq2, hq3, hq4⟩
   ·intro F2 H2 hg
    obtain ⟨hU2, g2', hb2, hnb⟩ := hg
    obtain ⟨cv2, cid2, hu2, hk2, hF2, hn2⟩ := hU2.ex
    obtain ⟨hcb2, hcn2⟩ := g2'.get hcb hcn1
    have hul2 := lG hu2
    have hbk : (iu = H2.length) = False := eq_false (by omega)
    repeat refine wS ?_
    refine wR ?_
    refine eT 2 (by simp only [kA, seval, y38, y98, vint, qC, qR, zStf, zStd, hu2, hb2, hcb2, hbk, gwr, gwi, lS] <;> with_reducible rfl) (by decide) ?_
    refine oP (by simp only [kC, seval, vint, qC, qR, zStf, zStd, hu2, hb2, hcb2, hbk, gwr, gwi, lS] <;> with_reducible rfl) (by simp only [kC, seval, vint, qC, qR, zStf, zStd, hu2, hb2, hcb2, hbk, gwr, gwi, lS]) (by decide) zgo70 (isTok_c _ _) ?_
    refine e_end (by simp only [kA, seval, vint, qC, qR, zStf, zStd, hu2, hb2, hcb2, hbk, gwr, gwi, lS] <;> with_reducible rfl) (by decide) ?_
    repeat refine wS ?_
    refine wC rfl (by simp only [jN, seval, vint, qC, qR, zStf, zStd, hu2, hb2, hcb2, hbk, gwr, gwi, lS] <;> with_reducible rfl) (fun bt65 => ?_) (fun bt65 => ?_)
    ·-- if t65
     rw [if_pos bt65] at hv
     repeat refine wS ?_
     refine eE (by simp only [kA, seval, y3, y61, y66, vint, qC, qR, zStf, zStd, hu2, hb2, hcb2, hbk, gwr, gwi, lS] <;> with_reducible rfl) (by decide) ?_
     repeat refine wS ?_
     refine eE (by simp only [kA, seval, y3, vint, qC, qR, zStf, zStd, hu2, hb2, hcb2, hbk, gwr, gwi, lS] <;> with_reducible rfl) (by decide) ?_
     try simp only [thenQ, blockQ]
     first | (refine ⟨(i + 1, rv + 1, ns ++ [u.tree], F2), by simp only; omega, ⟨(by first | rfl | (simp only [jN, seval, vint, qC, qR, zStf, zStd] <;> first | done | with_reducible rfl)), (by first | rfl | (simp only [jN, seval, vint, qC, qR, zStf, zStd] <;> first | done | with_reducible rfl)), (by first | rfl | (simp only [jN, seval, vint, qC, qR, zStf, zStd] <;> first | done | with_reducible rfl)), (by first | rfl | (simp only [jN, seval, vint, qC, qR, zStf, zStd] <;> first | done | with_reducible rfl)), trivial⟩, by simp only; omega, hv, UOk.upd hu2 hk2 hF2 hn2, (f1.trans g2').trans (Fr.set (i := iu) (by rw [hF2]; simp)), by simp; omega, by simp only; omega, by simp only; omega, ?_, hcn2⟩; rw [List.getElem?_set_ne (Ne.symm hci)]; exact hcb2) | exact ⟨(i + 1, rv, ns ++ [u.tree], F2), by simp only; omega, ⟨(by first | rfl | (simp only [jN, seval, vint, qC, qR, zStf, zStd] <;> first | done | with_reducible rfl)), (by first | rfl | (simp only [jN, seval, vint, qC, qR, zStf, zStd] <;> first | done | with_reducible rfl)), (by first | rfl | (simp only [jN, seval, vint, qC, qR, zStf, zStd] <;> first | done | with_reducible rfl)), (by first | rfl | (simp only [jN, seval, vint, qC, qR, zStf, zStd] <;> first | done | with_reducible rfl)), trivial⟩, by simp only; omega, hv, hU2, f1.trans g2', by simp; omega, by simp only; omega, by simp only; omega, hcb2, hcn2⟩
    ·-- else t65
     rw [if_neg (by rw [bt65]; simp)] at hv
     refine qK ?_
     repeat refine wS ?_
     refine eE (by simp only [kA, seval, y3, vint, qC, qR, zStf, zStd, hu2, hb2, hcb2, hbk, gwr, gwi, lS] <;> with_reducible rfl) (by decide) ?_
     try simp only [thenQ, blockQ]
     first | (refine ⟨(i + 1, rv + 1, ns ++ [u.tree], F2), by simp only; omega, ⟨(by first | rfl | (simp only [jN, seval, vint, qC, qR, zStf, zStd] <;> first | done | with_reducible rfl)), (by first | rfl | (simp only [jN, seval, vint, qC, qR, zStf, zStd] <;> first | done | with_reducible rfl)), (by first | rfl | (simp only [jN, seval, vint, qC, qR, zStf, zStd] <;> first | done | with_reducible rfl)), (by first | rfl | (simp only [jN, seval, vint, qC, qR, zStf, zStd] <;> first | done | with_reducible rfl)), trivial⟩, by simp only; omega, hv, UOk.upd hu2 hk2 hF2 hn2, (f1.trans g2').trans (Fr.set (i := iu) (by rw [hF2]; simp)), by simp; omega, by simp only; omega, by simp only; omega, ?_, hcn2⟩; rw [List.getElem?_set_ne (Ne.symm hci)]; exact hcb2) | exact ⟨(i + 1, rv, ns ++ [u.tree], F2), by simp only; omega, ⟨(by first | rfl | (simp only [jN, seval, vint, qC, qR, zStf, zStd] <;> first | done | with_reducible rfl)), (by first | rfl | (simp only [jN, seval, vint, qC, qR, zStf, zStd] <;> first | done | with_reducible rfl)), (by first | rfl | (simp only [jN, seval, vint, qC, qR, zStf, zStd] <;> first | done | with_reducible rfl)), (by first | rfl | (simp only [jN, seval, vint, qC, qR, zStf, zStd] <;> first | done | with_reducible rfl)), trivial⟩, by simp only; omega, hv, hU2, f1.trans g2', by simp; omega, by simp only; omega, by simp only; omega, hcb2, hcn2⟩
  ·-- else t34
   have hi : i = us.length := by have := of_decide_eq_false bt34; omega
   rw [hi, List.drop_length] at hv
   simp only [rrL, Prod.mk.injEq] at hv
   obtain ⟨rfl, rfl⟩ := hv
   repeat refine wS ?_
   refine awp_exit ?_
   simp only [thenQ, blockQ, reduceIte, Nat.reduceEqDiff, Nat.succ_ne_self, if_true, if_false]
   refine qE (a3 qR zStf zStd) ?_
   repeat refine wS ?_
   refine wT ⟨.inr rfl, _, rfl, ?_⟩
   first | exact .inl ⟨rfl, hcond, hU.app _, (Fr.refl _ _).app _⟩ | exact .inr ⟨rfl, hcond, _, hU1, f1⟩ | trace_state
end Go.Abs
namespace Go.Abs
open Go.Proofs
def updL (k n : Nat) (old : List Cd) (sh st re : Int) : Nat → List Tk → Int → List St → Option (Int × List St)
 | 0, _, _, _ => none
 | f + 1, tk, off, ns => if tk.length = 0 then some (re, ns) else if (decide (rrI old (off - sh) < 0) || decide ((tk.length : Int) > st)) = true then
   (match itemT tk k n with
   | some (t, p) => if 0 < p ∧ p ≤ tk.length ∧ ns.length ≤ 65536 ∧ 0 ≤ off ∧ off + 65536 ≤ 1048576 then updL k n old sh st re f (tk.drop p) (off + (szL (tk.take p) : Nat)) (ns ++ [t]) else none
   | none => none) else (if ns.length ≤ 65536 ∧ 0 ≤ off ∧ off ≤ 1048576 then some (rrL (old.drop (rrI old (off - sh)).toNat) re ns) else none)
theorem rrF_c {iu : Nat} {old : List Cd} {tk : List Tk} {off sh st re : Int} {nodes : List St} {F0 : List Nat} {H0 : Heap} (hU : UOk iu old (.slice (tk.map Tk.enc) .none) off sh st re nodes F0 H0) (hl : old.length ≤ 1048576) (hln : nodes.length ≤ 1048576) (hre : 0 ≤ re ∧ re ≤ 1048576) (hw : 0 ≤ off ∧ off ≤ 1048576 ∧ -1048576 ≤ sh ∧ sh ≤ 1048576) (hc : (decide (rrI old (off - sh) < 0) || decide ((tk.length : Int) > st)) = true) :
  ACalls Tryz.prog 32 [.optr iu 0] H0 fun r H' => r = .bool false ∧ UOk iu old (.slice (tk.map Tk.enc) .none) off sh st re nodes F0 H' ∧ Fr F0 F0 H0 H' :=
 (rr_c hU hl hln hre hw).mono fun r H' h => by
  rcases h with ⟨h1, h2, h3, h4⟩ | ⟨h1, h2, h3⟩
  ·exact ⟨h1, h3, h4⟩
  ·rw [hc] at h2; cases h2
theorem rrT_c {iu : Nat} {old : List Cd} {tk : List Tk} {off sh st re : Int} {nodes : List St} {F0 : List Nat} {H0 : Heap} (hU : UOk iu old (.slice (tk.map Tk.enc) .none) off sh st re nodes F0 H0) (hl : old.length ≤ 1048576) (hln : nodes.length ≤ 1048576) (hre : 0 ≤ re ∧ re ≤ 1048576) (hw : 0 ≤ off ∧ off ≤ 1048576 ∧ -1048576 ≤ sh ∧ sh ≤ 1048576) (hc : (decide (rrI old (off - sh) < 0) || decide ((tk.length : Int) > st)) = false) :
  ACalls Tryz.prog 32 [.optr iu 0] H0 fun r H' => r = .bool true ∧ ∃ F', UOk iu old (.slice (tk.map Tk.enc) .none) off sh st (rrL (old.drop (rrI old (off - sh)).toNat) re nodes).1 (rrL (old.drop (rrI old (off - sh)).toNat) re nodes).2 F' H' ∧ Fr F0 F' H0 H' :=
 (rr_c hU hl hln hre hw).mono fun r H' h => by
  rcases h with ⟨h1, h2, h3, h4⟩ | ⟨h1, h2, h3⟩
  ·rw [hc] at h2; cases h2
  ·exact ⟨h1, h3⟩
theorem ru_c (src : List UInt8) (e : Ed) (k n f : Nat) {t : St} {tk2 tk3 : List Tk} {ru sh st off1 re1 re2 : Int} {ns1 ns2 : List St} {H0 : Heap} (hG : Pre G0 H0) (h2000 : src.length ≤ 2000) (ht : e.tx.length ≤ 1048576) (hm : parseT (toks src) k n = some t) (hv : valE src e = 0) (hup : updM src (toks src) e = (tk2, ru, 0)) (hz : szC t.ch ≤ src.length) (hsz : t.size ≤ 65536) (htl : tk2.length ≤ 65536) (htx : ∀ t ∈ tk2, t.text.length ≤ 65536) (hz2 : szL tk2 ≤ 65536) (hsh : sh = (e.tx.length : Int) - (e.en - e.st)) (hshb : -65536 ≤ sh ∧ sh ≤ 65536) (heb : -65536 ≤ e.en - e.st ∧ e.en - e.st ≤ 65536) (hst : st = (stR (toks src).reverse tk2.reverse (szL (toks src)) e.en : Nat)) (hrp : rpM e.st (fcL src t.ch 0) 0 0 [] = (off1, re1, ns1)) (hr1 : 0 ≤ re1 ∧ re1 ≤ 65536) (hof : off1 ≤ 65536) (hsk : skipO tk2 off1 = some tk3) (hsk2 : tk3.length ≤ 65536 ∧ szL tk3 ≤ 65536) (hL : updL k n (fcL src t.ch 0) sh st re1 f tk3 off1 ns1 = some (re2, ns2)) : ACalls Tryz.prog 11 [.str src, t.enc, e.enc] H0 fun r H' => r = .tup [(St.mk 1 [] ns2).enc, vint re2, vint 0] ∧ ∀ i, i < H0.length → H'[i]? = H0[i]? := by
 have em : maxLen = 9223372036854775807 := by decide
 have hk := tokz_c src (by omega)
 rw [if_neg (by omega), if_neg (by omega)] at hk
 have hu := upd_c src (toks src) e (by omega) ht
 rw [hup] at hu
 have hval := val_c src e (by omega) ht
 rw [hv] at hval
 have po := toks_pos _ src (Nat.le_refl _)
 have zo := toks_sz _ src (Nat.le_refl _)
 have ol : (toks src).length ≤ src.length := by rw [← zo]; exact len_szL po
 have hcl := ch_le t
 have hfl := fcL_len src t.ch 0
 refine aF (N := 109) Tryz.func11 rfl rfl (by simp) fun hb' => ?_
 refine qE (a5 y23 y38 qR zStf zStd) ?_
 refine qT 1 (a3 qR zStf zStd) ?_
 refine qP (a3 qR zStf zStd) zgo15 (hk _ (hG.app _)) ?_
 refine qX (a3 qR zStf zStd) ?_
 refine qE (a4 y27 qR zStf zStd) ?_
 refine qF (a3 qR zStf zStd) ?_
 refine qK ?_
 refine qT 3 (a5 y23 y47 qR zStf zStd) ?_
 refine qP (a3 qR zStf zStd) zgo26 (hval _) ?_
 refine qX (a3 qR zStf zStd) ?_
 refine qL [0, 4, 5, 6, 9, 11] (a3 qR zStf zStd) ?_
 refine qE (a4 y27 qR zStf zStd) ?_
 refine qF (a3 qR zStf zStd) ?_
 refine qK ?_
 refine qT 1 (a3 qR zStf zStd) ?_
 refine qA (a3 qR zStf zStd) zgo10 (parse_c src k n (by omega) (by omega) (by simp only [lim]; omega) (hG.app _) hm) ?_
 rintro _ H1 ⟨rfl, g1⟩
 have hl1 := g1.len
 simp only [List.length_append, List.length_cons, List.length_nil] at hl1
 have k4 : H1[H0.length]? = some (.row [.int .i64 t.kind, .str t.text, .slice (t.ch.map St.enc) .none]) := by rw [g1.same _ (by simp) (by simp)]; simp
 have k5 : H1[H0.length + 1]? = some (.row [.int .i64 e.st, .int .i64 e.en, .str e.tx]) := by rw [g1.same _ (by simp) (by simp)]; simp
 have k6 : H1[H0.length + 2]? = some (.row [.int .i64 0, .str [], .slice [] .full]) := by rw [g1.same _ (by simp) (by simp)]; simp
 have kold : ∀ i, i < H0.length → H1[i]? = H0[i]? := fun i hi => by rw [g1.same i (by simp; omega) (by simp), List.getElem?_append_left hi]
 have q4 := getL k4
 have q5 := getL k5
 have q6 := getL k6
 have hG1 : Pre G0 H1 := fun i o h => by have := hG i o h; rw [kold i (lG this)]; exact this
 have e1 : (H0.length = H1.length) = False := eq_false (by omega)
 have e2 : (H0.length + 1 = H1.length) = False := eq_false (by omega)
 have e3 : (H0.length + 2 = H1.length) = False := eq_false (by omega)
 refine qX (a4 y38 qR zStf zStd) ?_
 refine qT 2 (a5 y38 qR zStf zStd q4) ?_
 refine qP (a4 qR zStf zStd q4) zgo27 (eqT t.size t (Nat.le_refl _) (by omega) _) ?_
 refine qX (a4 qR zStf zStd q4) ?_
 repeat refine wS ?_
 refine wF rfl (by simp only [jN, seval, vint, qC, qR, zStf, zStd, Bool.not_true] <;> with_reducible rfl) ?_
 refine qK ?_
 refine qT 3 (a5 y23 qR zStf zStd q5) ?_
 refine qP (a4 qR zStf zStd q5) zgo6 (hu _ (hG1.app _)) ?_
 refine qX (a4 qR zStf zStd q5) ?_
 refine qL [0, 4, 5, 6, 9, 10, 14] (a3 qR zStf zStd) ?_
 refine qE (a4 y27 qR zStf zStd) ?_
 refine qF (a3 qR zStf zStd) ?_
 refine qK ?_
 repeat refine wS ?_
 refine awp_abs (fun H => H[H0.length]? = some (.row [.int .i64 t.kind, .str t.text, .slice (t.ch.map St.enc) .none]) ∧ H[H0.length + 1]? = some (.row [.int .i64 e.st, .int .i64 e.en, .str e.tx]) ∧ H[H0.length + 2]? = some (.row [.int .i64 0, .str [], .slice [] .full]) ∧ Pre G0 H ∧ ∀ i, i < H0.length → H[i]? = H0[i]?) ⟨q4 _, q5 _, q6 _, hG1.app _, fun i hi => by rw [List.getElem?_append_left (by omega)]; exact kold i hi⟩ ?_
 clear k4 k5 k6 q4 q5 q6 kold hG1
 rintro H5 ⟨k4, k5, k6, hG5, kold⟩
 have hl5 := lG k6
 have q4 := getL k4
 have q5 := getL k5
 have gw1 : IntKind.i64.wrap (e.en - e.st) = e.en - e.st := wrap_id (by omega) (by omega)
 have gw2 : IntKind.i64.wrap ((e.tx.length : Int) - (e.en - e.st)) = sh := by rw [wrap_id (by omega) (by omega), hsh]
 refine x_draw 1 (n0 := H5.length) (by first | rfl | (simp only [List.length_append, List.length_cons, List.length_nil, Nat.reduceAdd, Nat.zero_add, q4, q5, gw1, gw2]; done)) (by kernel_rfl) ?_
 refine x1_take 2 (by first | rfl | (simp only [List.length_append, List.length_cons, List.length_nil, Nat.reduceAdd, Nat.zero_add, q4, q5, gw1, gw2]; done)) (by simp only [jP, jO, jN, seval, y38, vint, qC, qR, zStf, zStd, q4, q5, gw1, gw2] <;> with_reducible rfl) (by decide) (by decide) (by decide) ?_
 refine x1_keep (by first | rfl | (simp only [List.length_append, List.length_cons, List.length_nil, Nat.reduceAdd, Nat.zero_add, q4, q5, gw1, gw2]; done)) (by simp only [kE, seval, vint, qC, qR, zStf, zStd, q4, q5, gw1, gw2] <;> with_reducible rfl) (by simp only [kE, seval, vint, qC, qR, zStf, zStd, q4, q5, gw1, gw2] <;> with_reducible rfl) (by simp only [kE, seval, vint, qC, qR, zStf, zStd, q4, q5, gw1, gw2]) (by decide) zgo28 (fun hc L => fc_c src t (by omega) (by omega) hz _ (hG5.app _)) ?_
 refine x1_take 12 (by first | rfl | (simp only [List.length_append, List.length_cons, List.length_nil, Nat.reduceAdd, Nat.zero_add, q4, q5, gw1, gw2]; done)) (by simp only [jP, jO, jN, seval, y3, y9, y23, vint, qC, qR, zStf, zStd, q4, q5, gw1, gw2] <;> with_reducible rfl) (by decide) (by decide) (by decide) ?_
 refine x1_keep (by first | rfl | (simp only [List.length_append, List.length_cons, List.length_nil, Nat.reduceAdd, Nat.zero_add, q4, q5, gw1, gw2]; done)) (by simp only [kE, seval, vint, qC, qR, zStf, zStd, q4, q5, gw1, gw2] <;> with_reducible rfl) (by simp only [kE, seval, vint, qC, qR, zStf, zStd, q4, q5, gw1, gw2] <;> with_reducible rfl) (by simp only [kE, seval, vint, qC, qR, zStf, zStd, q4, q5, gw1, gw2]) (by decide) zgo29 (fun hc L => stab_c (toks src) tk2 e (by omega) (by omega) (by omega) _) ?_
 refine x1_take 1 (by first | rfl | (simp only [List.length_append, List.length_cons, List.length_nil, Nat.reduceAdd, Nat.zero_add, q4, q5, gw1, gw2]; done)) (by simp only [jP, jO, jN, seval, y66, vint, qC, qR, zStf, zStd, q4, q5, gw1, gw2] <;> with_reducible rfl) (by decide) (by decide) (by decide) ?_
 refine x_mid (by first | (simp only [LS, HS, List.append_assoc, List.cons_append, List.nil_append, q4, q5, gw1, gw2] <;> with_reducible rfl) | rfl) ?_
 refine x2_end (bm := [0, 0, 3, 0, 8, 24, 0, 64, 0, 256, 960, 2040, 0, 0, 0, 28679, 65535, 131071, 262143]) (fresh := (H5.length)) (by kernel_rfl) (by simp only [jX, jO, jN, seval, y66, vint, qC, qR, zStf, zStd, q4, q5, gw1, gw2] <;> with_reducible rfl) (by decide) (by repeat (first | exact Fin.base _ | with_reducible apply Fin.keep | apply Fin.drop)) ?_
 refine qL [5, 6, 14, 16] (a3 qR zStf zStd) ?_
 repeat refine wS ?_
 obtain ⟨HU, hHU⟩ : ∃ HU : Heap, HU = H5 ++ [.row [.slice ((fcL src t.ch 0).map Cd.enc) .none, .slice [] .full, .int .i64 0, .int .i64 sh, .int .i64 (stR (toks src).reverse tk2.reverse (szL (toks src)) e.en : Nat), .int .i64 0, .slice [] .full]] := ⟨_, rfl⟩
 have hU0 : UOk H5.length (fcL src t.ch 0) (.slice [] .full) 0 sh st 0 [] [H5.length] HU := by rw [hHU]; exact ⟨.slice [] .full, [], by rw [hst]; simp, .nil, rfl, by simp⟩
 rw [← hHU]
 have q5 : HU[H0.length + 1]? = some (.row [.int .i64 e.st, .int .i64 e.en, .str e.tx]) := by rw [hHU]; exact getL k5 _
 have q6 : HU[H0.length + 2]? = some (.row [.int .i64 0, .str [], .slice [] .full]) := by rw [hHU]; exact getL k6 _
 have hGU : Pre G0 HU := by rw [hHU]; exact hG5.app _
 have koldU : ∀ i, i < H0.length → HU[i]? = H0[i]? := fun i hi => by rw [hHU, List.getElem?_append_left (by omega)]; exact kold i hi
 have hlU : HU.length = H5.length + 1 := by rw [hHU]; simp
 have hG0l : ∀ (i : Nat) (o : AObj), G0[i]? = some o → i < H0.length := fun i o h => lG (hG i o h)
 refine wR ?_
 refine qU 3 (a5 y3 y23 qR zStf (a2 zStd q5)) ?_
 refine qN (a4 qR zStf zStd q5) (rp_c hU0 (by omega) (by simp) ⟨by omega, by omega⟩ hrp) ?_
 rintro _ H6 ⟨rfl, F6, hU6, g6⟩
 obtain ⟨cv6, cid6, hu6, hk6, hF6, hn6⟩ := hU6.ex
 have hl6 := lG hu6
 have hs6 : ∀ o, (H6.set H5.length o)[H5.length]? = some o := fun o => List.getElem?_set_self hl6
 have hf6 : (H5.length = H6.length) = False := eq_false (by omega)
 repeat refine wS ?_
 refine wR ?_
 refine eT 6 (by simp only [kA, seval, y3, y66, vint, qC, qR, zStf, zStd, hu6, hs6, hf6, lS] <;> with_reducible rfl) (by decide) ?_
 refine oP (by simp only [kC, seval, vint, qC, qR, zStf, zStd, hu6, hs6, hf6, lS] <;> with_reducible rfl) (by simp only [kC, seval, vint, qC, qR, zStf, zStd, hu6, hs6, hf6, lS]) (by decide) zgo31 (skip_c tk2 tk3 off1 (by omega) (fun t h => by have := htx t h; omega) hsk _) ?_
 refine e_end (by simp only [kA, seval, y24, y32, y66, vint, qC, qR, zStf, zStd, hu6, hs6, hf6, lS] <;> with_reducible rfl) (by decide) ?_
 repeat refine wS ?_
 have hU7 := UOk.upd (tv2 := .slice (tk3.map Tk.enc) .none) (off2 := off1) (sh2 := sh) (st2 := st) (re2 := re1) hu6 hk6 hF6 hn6
 have g7 := g6.trans (Fr.set (F := F6) (H := H6) (i := H5.length) (o := .row [.slice ((fcL src t.ch 0).map Cd.enc) .none, .slice (tk3.map Tk.enc) .none, .int .i64 off1, .int .i64 sh, .int .i64 st, .int .i64 re1, cv6]) (by rw [hF6]; simp))
 refine awp_block ?_
 refine awp_loopX (σ := Nat × List Tk × Int × List St × List Nat) (fun (z : Nat × List Tk × Int × List St × List Nat) => [(6, .optr (H0.length + 2) 0), (16, .optr H5.length 0)]) (fun (z : Nat × List Tk × Int × List St × List Nat) =>  fun H3 => updL k n (fcL src t.ch 0) sh st re1 z.1 z.2.1 z.2.2.1 z.2.2.2.1 = some (re2, ns2) ∧ UOk H5.length (fcL src t.ch 0) (.slice (z.2.1.map Tk.enc) .none) z.2.2.1 sh st re1 z.2.2.2.1 z.2.2.2.2 H3 ∧ Fr [H5.length] z.2.2.2.2 HU H3 ∧ z.2.1.length ≤ 65536 ∧ szL z.2.1 ≤ 65536) (fun (z : Nat × List Tk × Int × List St × List Nat) => z.1) ((f, tk3, off1, ns1, F6)) ⟨(by first | rfl | (simp only [jN, seval, vint, qC, qR, zStf, zStd] <;> first | done | with_reducible rfl)), (by first | rfl | (simp only [jN, seval, vint, qC, qR, zStf, zStd] <;> first | done | with_reducible rfl)), trivial⟩ (⟨hL, hU7, g7, hsk2.1, hsk2.2⟩) ?_
 intro z H3 hg
 obtain ⟨f, tk, off, ns, F⟩ := z
 obtain ⟨hv, hU1, g1x, hb1, hb2⟩ := hg
 simp only at hv hU1 g1x hb1 hb2
 cases f with
 | zero => cases hv
 | succ f => ?_
 unfold updL at hv
 obtain ⟨cv1, cid1, hu1, hk1, hF1, hn1⟩ := hU1.ex
 obtain h0 | ⟨h0, hc⟩ | ⟨h0, hc⟩ : tk.length = 0 ∨ (0 < tk.length ∧ (decide (rrI (fcL src t.ch 0) (off - sh) < 0) || decide ((tk.length : Int) > st)) = true) ∨ (0 < tk.length ∧ (decide (rrI (fcL src t.ch 0) (off - sh) < 0) || decide ((tk.length : Int) > st)) = false) := by
  rcases Nat.eq_zero_or_pos tk.length with q | q
  ·exact .inl q
  ·cases hc : (decide (rrI (fcL src t.ch 0) (off - sh) < 0) || decide ((tk.length : Int) > st)) with
   | true => exact .inr (.inl ⟨q, rfl⟩)
   | false => exact .inr (.inr ⟨q, rfl⟩)
 ·-- case
  rw [if_pos h0] at hv
  have hd0 : decide ((tk.length : Int) > 0) = false := decide_eq_false (by omega)
  injection hv with hv
  simp only [Prod.mk.injEq] at hv
  rw [hv.1, hv.2] at hU1
  have hUx := hU1
  have gx := g1x
  repeat refine wS ?_
  refine wR ?_
  refine aops_gstart ?_
  refine gT 7 (a5 y3 y24 y32 y66 (a5 qR zStf zStd hu1 hd0)) ?_
  refine gS (a5 qR zStf zStd hu1 hd0) ?_
  refine gS (a5 qR zStf zStd hu1 hd0) ?_
  refine gS (a5 qR zStf zStd hu1 hd0) ?_
  refine gX (a5 qR zStf zStd hu1 hd0) ?_
  refine qF (a5 qR zStf zStd hu1 hd0) ?_
  repeat refine wS ?_
  refine awp_exit ?_
  simp only [thenQ, blockQ, reduceIte, Nat.reduceEqDiff, Nat.succ_ne_self, if_true, if_false]
  refine awp_abs (fun H => ∃ tv o9 sh9 st9 F9, UOk H5.length (fcL src t.ch 0) tv o9 sh9 st9 re2 ns2 F9 H ∧ Fr [H5.length] F9 HU H) ⟨_, _, _, _, _, hUx, gx⟩ ?_
  rintro H9 ⟨tv, o9, sh9, st9, F9, hU9, g9⟩
  obtain ⟨cv9, cid9, hu9, hk9, hF9, hn9⟩ := hU9.ex
  have hl9 := lG hu9
  obtain ⟨k9, kn9⟩ := g9.get q6 (by simp; omega)
  have hb9 := lG k9
  have kold9 : ∀ i, i < H0.length → H9[i]? = H0[i]? := fun i hi => by rw [g9.same i (by omega) (by simp; omega)]; exact koldU i hi
  have m1 : (H5.length == H0.length + 2) = false := by simp; omega
  have m2 : (H0.length + 2 = 0) = False := eq_false (by omega)
  have m3 : (H0.length + 2 == H5.length) = false := by simp; omega
  have hs9 : ∀ o, (H9.set (H0.length + 2) o)[H0.length + 2]? = some o := fun o => List.getElem?_set_self hb9
  rcases hk9.cases2 with ⟨rfl, rfl, rfl⟩ | ⟨ic9, c9, rest9, rfl, rfl, hH9, hc9, hm9⟩
  ·-- case
   repeat refine wS ?_
   refine awp_draw 0 (by kernel_rfl) ?_
   refine d_end (bm := [0, 1, 3, 7, 15, 0, 32, 96, 224, 31, 1023, 2047]) (fresh := 0) (by kernel_rfl) (by simp only [jD, jO, jN, seval, y3, y36, y38, y66, vint, qC, qR, zStf, zStd, hu1, hd0, hu9, k9, m1, m2, m3] <;> with_reducible rfl) (by decide) ?_
   repeat refine wS ?_
   refine wT ⟨.inr rfl, _, (ares_three (.cell 6 38) (.tmp 7) (.tmp 8) rfl (ares_cell1 zti38 (by decide) (by simp only [jL, jN, seval, vint, qC, qR, zStf, zStd, hu1, hd0, hu9, k9, m1, m2, m3, hs9] <;> with_reducible rfl)) (ares_tmp1 (by decide)) (ares_tmp1 (by decide))), ?_⟩
   refine ⟨by rw [St.enc_eq]; rfl, fun i hi => ?_⟩
   show (H9.set (H0.length + 2) _)[i]? = _
   rw [List.getElem?_set_ne (by omega)]; exact kold9 i hi
  ·-- case
   repeat refine wS ?_
   refine awp_draw 0 (by kernel_rfl) ?_
   refine d_end (bm := [0, 1, 3, 7, 15, 0, 32, 96, 224, 31, 1023, 2047]) (fresh := 0) (by kernel_rfl) (by simp only [jD, jO, jN, seval, y3, y36, y38, y66, vint, qC, qR, zStf, zStd, hu1, hd0, hu9, k9, m1, m2, m3] <;> with_reducible rfl) (by decide) ?_
   repeat refine wS ?_
   obtain ⟨es, e1, e2, e3⟩ := chunk3 (c9 - ns2.length) rest9 (by omega)
   have hicF : ic9 ∈ F9 := by rw [hF9]; simp
   have hicn : ic9 ≠ H0.length + 2 := fun e => kn9 (e ▸ hicF)
   have hic2 : H0.length ≤ ic9 := by
    rcases Nat.lt_or_ge ic9 H0.length with h | h
    ·have := g9.ids ic9 hicF (by omega); simp at this; omega
    ·exact h
   have hrow : ((H9.set (H0.length + 2) (.row [.int .i64 1, .str [], .msl ic9 0 ns2.length c9])))[ic9]? = some (.row (flatE (ns2.map St.enc ++ es))) := by rw [List.getElem?_set_ne (Ne.symm hicn), hH9, flatE_append, e2]
   refine awp_frz1R ic9 ns2.length 3 (H0.length + 2) (ns2.map St.enc ++ es) hrow (by simp) (fun e he => ?_) (List.getElem?_set_self hb9) (Ne.symm hicn) (cs' := [.int .i64 1, .str [], .slice (ns2.map St.enc) .none]) rfl (fun i h1 h2 => ?_) ?_
   ·rcases List.mem_append.1 he with he | he
    ·obtain ⟨v, _, rfl⟩ := List.mem_map.1 he; exact v.enc_len
    ·exact e3 e he
   ·match i, h1, h2 with
    | 0, _, _ => exact .same _
    | 1, _, _ => exact .same _
    | 2, _, _ =>
     have : (ns2.map St.enc ++ es).take ns2.length = ns2.map St.enc := by rw [List.take_append_of_le_length (by simp), List.take_of_length_le (by simp)]
     have h := Fz.msl (id := ic9) (k := ns2.length) (es := ns2.map St.enc ++ es) c9 (by omega)
     rw [this] at h
     exact h
   have hbx : (((H9.set (H0.length + 2) (.row [.int .i64 1, .str [], .msl ic9 0 ns2.length c9])).set ic9 dead).set (H0.length + 2) (.row [.int .i64 1, .str [], .slice (ns2.map St.enc) .none]))[H0.length + 2]? = some (.row [.int .i64 1, .str [], .slice (ns2.map St.enc) .none]) := List.getElem?_set_self (by simpa using hb9)
   refine wT ⟨.inr rfl, _, (ares_three (.cell 6 38) (.tmp 7) (.tmp 8) rfl (ares_cell1 zti38 (by decide) (by simp only [jL, jN, seval, vint, qC, qR, zStf, zStd, hbx] <;> with_reducible rfl)) (ares_tmp1 (by decide)) (ares_tmp1 (by decide))), ?_⟩
   refine ⟨?_, fun i hi => ?_⟩
   ·rw [St.enc_eq]; rfl
   ·rw [List.getElem?_set_ne (by omega), List.getElem?_set_ne (by omega), List.getElem?_set_ne (by omega)]; exact kold9 i hi
 ·-- case
  rw [if_neg (by omega), if_pos hc] at hv
  have hd0 : decide ((tk.length : Int) > 0) = true := decide_eq_true (by omega)
  split at hv
  case h_2 => cases hv
  rename_i t1 p1 hit
  split at hv
  case isFalse => cases hv
  rename_i hps
  obtain ⟨hp1, hp2, hp3, hp4, hp5⟩ := hps
  refine qT 8 (a5 y3 y24 y32 y66 (a5 qR zStf zStd hu1 hd0)) ?_
  refine qA (a5 qR zStf zStd hu1 hd0) zgo32 (rrF_c hU1 (by omega) (by omega) ⟨by omega, by omega⟩ ⟨by omega, by omega, by omega, by omega⟩ hc) ?_
  rintro _ H2 ⟨rfl, hU2, g2⟩
  have hG2 : Pre G0 H2 := fun i o h => by
   have hi := hG0l i o h
   rw [(g1x.trans g2).same i (by omega) (by simp; omega)]; exact hGU i o h
  refine qX (a5 qR zStf zStd hu1 hd0) ?_
  repeat refine wS ?_
  refine awp_cond_true rfl (by simp only [jN, seval, vint, qC, qR, zStf, zStd, hu1, hd0] <;> with_reducible rfl) ?_
  refine qK ?_
  refine qB ?_
  refine qW 1 (a5 qR zStf zStd hu1 hd0) (pi_c hU2 hG2 (by omega) (by omega) ⟨by omega, by omega⟩ (by omega) hit hp1 hp2 rfl) ?_
  rintro _ H3 ⟨rfl, F3, hU3, g3⟩
  try simp only [thenQ, blockQ]
  refine ⟨(f, tk.drop p1, off + (szL (tk.take p1) : Nat), ns ++ [t1], F3), Nat.lt_succ_self _, ⟨rfl, rfl, trivial⟩, hv, hU3, (g1x.trans g2).trans g3, by simp only [List.length_drop]; omega, ?_⟩
  have := szL_app (tk.take p1) (tk.drop p1)
  rw [List.take_append_drop] at this
  simp only; omega
 ·-- case
  rw [if_neg (by omega), if_neg (by rw [hc]; simp)] at hv
  have hd0 : decide ((tk.length : Int) > 0) = true := decide_eq_true (by omega)
  split at hv
  case isFalse => cases hv
  rename_i hps
  obtain ⟨hp3, hp4, hp5⟩ := hps
  injection hv with hv
  refine qT 8 (a5 y3 y24 y32 y66 (a5 qR zStf zStd hu1 hd0)) ?_
  refine qA (a5 qR zStf zStd hu1 hd0) zgo32 (rrT_c hU1 (by omega) (by omega) ⟨by omega, by omega⟩ ⟨by omega, by omega, by omega, by omega⟩ hc) ?_
  rintro _ H2 ⟨rfl, F2, hU2, g2⟩
  rw [hv] at hU2
  simp only at hU2
  have hUx := hU2
  have gx := g1x.trans g2
  refine qX (a5 qR zStf zStd hu1 hd0) ?_
  refine qF (a5 qR zStf zStd hu1 hd0) ?_
  repeat refine wS ?_
  refine awp_exit ?_
  simp only [thenQ, blockQ, reduceIte, Nat.reduceEqDiff, Nat.succ_ne_self, if_true, if_false]
  refine awp_abs (fun H => ∃ tv o9 sh9 st9 F9, UOk H5.length (fcL src t.ch 0) tv o9 sh9 st9 re2 ns2 F9 H ∧ Fr [H5.length] F9 HU H) ⟨_, _, _, _, _, hUx, gx⟩ ?_
  rintro H9 ⟨tv, o9, sh9, st9, F9, hU9, g9⟩
  obtain ⟨cv9, cid9, hu9, hk9, hF9, hn9⟩ := hU9.ex
  have hl9 := lG hu9
  obtain ⟨k9, kn9⟩ := g9.get q6 (by simp; omega)
  have hb9 := lG k9
  have kold9 : ∀ i, i < H0.length → H9[i]? = H0[i]? := fun i hi => by rw [g9.same i (by omega) (by simp; omega)]; exact koldU i hi
  have m1 : (H5.length == H0.length + 2) = false := by simp; omega
  have m2 : (H0.length + 2 = 0) = False := eq_false (by omega)
  have m3 : (H0.length + 2 == H5.length) = false := by simp; omega
  have hs9 : ∀ o, (H9.set (H0.length + 2) o)[H0.length + 2]? = some o := fun o => List.getElem?_set_self hb9
  rcases hk9.cases2 with ⟨rfl, rfl, rfl⟩ | ⟨ic9, c9, rest9, rfl, rfl, hH9, hc9, hm9⟩
  ·-- case
   repeat refine wS ?_
   refine awp_draw 0 (by kernel_rfl) ?_
   refine d_end (bm := [0, 1, 3, 7, 15, 0, 32, 96, 224, 31, 1023, 2047]) (fresh := 0) (by kernel_rfl) (by simp only [jD, jO, jN, seval, y3, y36, y38, y66, vint, qC, qR, zStf, zStd, hu1, hd0, hu9, k9, m1, m2, m3] <;> with_reducible rfl) (by decide) ?_
   repeat refine wS ?_
   refine wT ⟨.inr rfl, _, (ares_three (.cell 6 38) (.tmp 7) (.tmp 8) rfl (ares_cell1 zti38 (by decide) (by simp only [jL, jN, seval, vint, qC, qR, zStf, zStd, hu1, hd0, hu9, k9, m1, m2, m3, hs9] <;> with_reducible rfl)) (ares_tmp1 (by decide)) (ares_tmp1 (by decide))), ?_⟩
   refine ⟨by rw [St.enc_eq]; rfl, fun i hi => ?_⟩
   show (H9.set (H0.length + 2) _)[i]? = _
   rw [List.getElem?_set_ne (by omega)]; exact kold9 i hi
  ·-- case
   repeat refine wS ?_
   refine awp_draw 0 (by kernel_rfl) ?_
   refine d_end (bm := [0, 1, 3, 7, 15, 0, 32, 96, 224, 31, 1023, 2047]) (fresh := 0) (by kernel_rfl) (by simp only [jD, jO, jN, seval, y3, y36, y38, y66, vint, qC, qR, zStf, zStd, hu1, hd0, hu9, k9, m1, m2, m3] <;> with_reducible rfl) (by decide) ?_
   repeat refine wS ?_
   obtain ⟨es, e1, e2, e3⟩ := chunk3 (c9 - ns2.length) rest9 (by omega)
   have hicF : ic9 ∈ F9 := by rw [hF9]; simp
   have hicn : ic9 ≠ H0.length + 2 := fun e => kn9 (e ▸ hicF)
   have hic2 : H0.length ≤ ic9 := by
    rcases Nat.lt_or_ge ic9 H0.length with h | h
    ·have := g9.ids ic9 hicF (by omega); simp at this; omega
    ·exact h
   have hrow : ((H9.set (H0.length + 2) (.row [.int .i64 1, .str [], .msl ic9 0 ns2.length c9])))[ic9]? = some (.row (flatE (ns2.map St.enc ++ es))) := by rw [List.getElem?_set_ne (Ne.symm hicn), hH9, flatE_append, e2]
   refine awp_frz1R ic9 ns2.length 3 (H0.length + 2) (ns2.map St.enc ++ es) hrow (by simp) (fun e he => ?_) (List.getElem?_set_self hb9) (Ne.symm hicn) (cs' := [.int .i64 1, .str [], .slice (ns2.map St.enc) .none]) rfl (fun i h1 h2 => ?_) ?_
   ·rcases List.mem_append.1 he with he | he
    ·obtain ⟨v, _, rfl⟩ := List.mem_map.1 he; exact v.enc_len
    ·exact e3 e he
   ·match i, h1, h2 with
    | 0, _, _ => exact .same _
    | 1, _, _ => exact .same _
    | 2, _, _ =>
     have : (ns2.map St.enc ++ es).take ns2.length = ns2.map St.enc := by rw [List.take_append_of_le_length (by simp), List.take_of_length_le (by simp)]
     have h := Fz.msl (id := ic9) (k := ns2.length) (es := ns2.map St.enc ++ es) c9 (by omega)
     rw [this] at h
     exact h
   have hbx : (((H9.set (H0.length + 2) (.row [.int .i64 1, .str [], .msl ic9 0 ns2.length c9])).set ic9 dead).set (H0.length + 2) (.row [.int .i64 1, .str [], .slice (ns2.map St.enc) .none]))[H0.length + 2]? = some (.row [.int .i64 1, .str [], .slice (ns2.map St.enc) .none]) := List.getElem?_set_self (by simpa using hb9)
   refine wT ⟨.inr rfl, _, (ares_three (.cell 6 38) (.tmp 7) (.tmp 8) rfl (ares_cell1 zti38 (by decide) (by simp only [jL, jN, seval, vint, qC, qR, zStf, zStd, hbx] <;> with_reducible rfl)) (ares_tmp1 (by decide)) (ares_tmp1 (by decide))), ?_⟩
   refine ⟨?_, fun i hi => ?_⟩
   ·rw [St.enc_eq]; rfl
   ·rw [List.getElem?_set_ne (by omega), List.getElem?_set_ne (by omega), List.getElem?_set_ne (by omega)]; exact kold9 i hi
end Go.Abs
namespace Go.Abs
open Go.Proofs
def srcE : List UInt8 := [99, 111, 110, 115, 116, 32, 97, 58, 32, 105, 110, 116, 32, 61, 32, 49, 59, 10, 99, 111, 110, 115, 116, 32, 98, 58, 32, 105, 110, 116, 32, 61, 32, 50, 59, 10, 99, 111, 110, 115, 116, 32, 99, 58, 32, 105, 110, 116, 32, 61, 32, 51, 59, 10]
def srcE2 : List UInt8 := [99, 111, 110, 115, 116, 32, 97, 58, 32, 105, 110, 116, 32, 61, 32, 49, 59, 10, 99, 111, 110, 115, 116, 32, 98, 58, 32, 105, 110, 116, 32, 61, 32, 50, 59, 10, 99, 111, 110, 115, 116, 32, 99, 58, 32, 105, 110, 116, 32, 61, 32, 52, 59, 10]
def edE : Ed := ⟨51, 52, [52]⟩
def trE : St := (.mk 1 [] [(.mk 8 [] [(.mk 104 [99, 111, 110, 115, 116] []), (.mk 101 [32] []), (.mk 103 [97] []), (.mk 107 [58] []), (.mk 17 [] [(.mk 18 [] [(.mk 101 [32] []), (.mk 103 [105, 110, 116] [])])]), (.mk 101 [32] []), (.mk 107 [61] []), (.mk 27 [] [(.mk 101 [32] []), (.mk 105 [49] [])]), (.mk 107 [59] [])]), (.mk 8 [] [(.mk 101 [10] []), (.mk 104 [99, 111, 110, 115, 116] []), (.mk 101 [32] []), (.mk 103 [98] []), (.mk 107 [58] []), (.mk 17 [] [(.mk 18 [] [(.mk 101 [32] []), (.mk 103 [105, 110, 116] [])])]), (.mk 101 [32] []), (.mk 107 [61] []), (.mk 27 [] [(.mk 101 [32] []), (.mk 105 [50] [])]), (.mk 107 [59] [])]), (.mk 8 [] [(.mk 101 [10] []), (.mk 104 [99, 111, 110, 115, 116] []), (.mk 101 [32] []), (.mk 103 [99] []), (.mk 107 [58] []), (.mk 17 [] [(.mk 18 [] [(.mk 101 [32] []), (.mk 103 [105, 110, 116] [])])]), (.mk 101 [32] []), (.mk 107 [61] []), (.mk 27 [] [(.mk 101 [32] []), (.mk 105 [51] [])]), (.mk 107 [59] [])]), (.mk 101 [10] [])])
def trE2 : St := (.mk 1 [] [(.mk 8 [] [(.mk 104 [99, 111, 110, 115, 116] []), (.mk 101 [32] []), (.mk 103 [97] []), (.mk 107 [58] []), (.mk 17 [] [(.mk 18 [] [(.mk 101 [32] []), (.mk 103 [105, 110, 116] [])])]), (.mk 101 [32] []), (.mk 107 [61] []), (.mk 27 [] [(.mk 101 [32] []), (.mk 105 [49] [])]), (.mk 107 [59] [])]), (.mk 8 [] [(.mk 101 [10] []), (.mk 104 [99, 111, 110, 115, 116] []), (.mk 101 [32] []), (.mk 103 [98] []), (.mk 107 [58] []), (.mk 17 [] [(.mk 18 [] [(.mk 101 [32] []), (.mk 103 [105, 110, 116] [])])]), (.mk 101 [32] []), (.mk 107 [61] []), (.mk 27 [] [(.mk 101 [32] []), (.mk 105 [50] [])]), (.mk 107 [59] [])]), (.mk 8 [] [(.mk 101 [10] []), (.mk 104 [99, 111, 110, 115, 116] []), (.mk 101 [32] []), (.mk 103 [99] []), (.mk 107 [58] []), (.mk 17 [] [(.mk 18 [] [(.mk 101 [32] []), (.mk 103 [105, 110, 116] [])])]), (.mk 101 [32] []), (.mk 107 [61] []), (.mk 27 [] [(.mk 101 [32] []), (.mk 105 [52] [])]), (.mk 107 [59] [])]), (.mk 101 [10] [])])
def tkE : List Tk := toks srcE2
def lenAll (l : List Tk) (n : Nat) : Bool := l.all fun t => decide (t.text.length ≤ n)
theorem lenAll_of {l : List Tk} {n : Nat} (h : lenAll l n = true) : ∀ t ∈ l, t.text.length ≤ n := fun t ht => of_decide_eq_true (List.all_eq_true.1 h t ht)
theorem parE : parseT (toks srcE) 20 20 = some trE := by kernel_rfl
theorem parE2 : parseT (toks srcE2) 20 20 = some trE2 := by kernel_rfl
theorem updE : updM srcE (toks srcE) edE = (tkE, 34, 0) := by kernel_rfl
theorem rpE : rpM edE.st (fcL srcE trE.ch 0) 0 0 [] = (35, 2, trE2.ch.take 2) := by kernel_rfl
theorem skE : skipO tkE 35 = some (tkE.drop 23) := by kernel_rfl
theorem stE : stR (toks srcE).reverse tkE.reverse (szL (toks srcE)) edE.en = 2 := by kernel_rfl
theorem upLE : updL 20 20 (fcL srcE trE.ch 0) 0 2 2 10 (tkE.drop 23) 35 (trE2.ch.take 2) = some (2, trE2.ch) := by kernel_rfl
theorem updE_c {H0 : Heap} (hG : Pre G0 H0) : ACalls Tryz.prog 11 [.str srcE, trE.enc, edE.enc] H0 fun r H' => r = .tup [trE2.enc, vint 2, vint 0] ∧ ∀ i, i < H0.length → H'[i]? = H0[i]? :=
 ru_c srcE edE 20 20 10 (t := trE) (tk2 := tkE) (tk3 := tkE.drop 23) (sh := 0) (st := 2) hG (of_decide_eq_true (by kernel_rfl)) (of_decide_eq_true (by kernel_rfl)) parE (by kernel_rfl) updE (of_decide_eq_true (by kernel_rfl)) (of_decide_eq_true (by kernel_rfl)) (of_decide_eq_true (by kernel_rfl)) (lenAll_of (by kernel_rfl)) (of_decide_eq_true (by kernel_rfl)) (by kernel_rfl) (by decide) (by decide) (by rw [stE]; rfl) rpE (by decide) (by decide) skE
  ⟨of_decide_eq_true (by kernel_rfl), of_decide_eq_true (by kernel_rfl)⟩ upLE
theorem rpEx_c {H0 : Heap} (hG : Pre G0 H0) : ACalls Tryz.prog 4 [] H0 fun r H' => r = .bool true ∧ ∀ i, i < H0.length → H'[i]? = H0[i]? := by
 refine aF (N := 45) Tryz.func4 rfl rfl (by simp) fun hb' => ?_
 refine qE (a3 qR zStf zStd) ?_
 refine qE (a3 qR zStf zStd) ?_
 refine qT 1 (a3 qR zStf zStd) ?_
 refine oC (by simp only [kC, seval, vint, qC, qR, zStf, zStd, srcE] <;> with_reducible rfl) (by simp only [kC, seval, vint, qC, qR, zStf, zStd, srcE]) (by decide) zgo10 (parse_c srcE 20 20 (of_decide_eq_true (by kernel_rfl)) (of_decide_eq_true (by kernel_rfl)) (of_decide_eq_true (by kernel_rfl)) hG parE) ?_
 rintro _ H1 ⟨rfl, g1⟩
 have hl1 := g1.len
 have hG1 : Pre G0 H1 := fun i o h => by have := hG i o h; rw [g1.same i (lG this) (by simp)]; exact this
 refine qX (a4 y38 qR zStf zStd) ?_
 refine qT 3 (a5 y23 y38 qR zStf zStd) ?_
 refine oC (by simp only [kC, seval, vint, qC, qR, zStf, zStd, srcE, edE] <;> with_reducible rfl) (by simp only [kC, seval, vint, qC, qR, zStf, zStd, srcE, edE]) (by decide) zgo11 (updE_c (hG1.app _)) ?_
 rintro _ H2 ⟨rfl, g2⟩
 have hG2 : Pre G0 H2 := fun i o h => by have := hG1.app [.row [.int .i64 trE.kind, .str trE.text, .slice (trE.ch.map St.enc) .none]] i o h; rw [g2 i (lG this)]; exact this
 refine qX (a4 y38 qR zStf zStd) ?_
 refine qL [3, 4, 5, 6] (a3 qR zStf zStd) ?_
 repeat refine wS ?_
 refine wR ?_
 refine oC (by simp only [kC, seval, vint, qC, qR, zStf, zStd, srcE2] <;> with_reducible rfl) (by simp only [kC, seval, vint, qC, qR, zStf, zStd, srcE2]) (by decide) zgo10 (parse_c srcE2 20 20 (of_decide_eq_true (by kernel_rfl)) (of_decide_eq_true (by kernel_rfl)) (of_decide_eq_true (by kernel_rfl)) (hG2.app _) parE2) ?_
 rintro _ H3 ⟨rfl, g3⟩
 have k4 : H3[H2.length]? = some (.row [.int .i64 trE2.kind, .str trE2.text, .slice (trE2.ch.map St.enc) .none]) := by rw [g3.same _ (by simp) (by simp)]; simp
 have q4 := getL k4
 have hl2 : ∀ i, i < H0.length → i < H2.length := fun i hi => by
  have h1 : (H1 ++ [.row [.int .i64 trE.kind, .str trE.text, .slice (trE.ch.map St.enc) .none]])[i]? = some H0[i] := by rw [List.getElem?_append_left (by omega), g1.same i hi (by simp), List.getElem?_eq_getElem hi]
  rw [← g2 i (lG h1)] at h1
  exact lG h1
 refine qX (a4 y38 qR zStf zStd) ?_
 repeat refine wS ?_
 refine wR ?_
 refine aops_gstart ?_
 refine gT 13 (a5 y27 y38 qR zStf (a2 zStd q4)) ?_
 refine gP (a4 qR zStf zStd q4) zgo12 (fun hc => sameT trE2.size trE2 (Nat.le_refl _) (of_decide_eq_true (by kernel_rfl)) _) ?_
 refine gX (a5 y3 qR zStf zStd q4) ?_
 repeat refine wS ?_
 refine wT ⟨.inr rfl, _, rfl, ?_⟩
 refine ⟨rfl, fun i hi => ?_⟩
 have h2 := hl2 i hi
 have h3 := g3.len
 rw [List.length_append] at h3
 rw [List.getElem?_append_left (by omega), g3.same i (by rw [List.length_append]; omega) (by simp), List.getElem?_append_left h2, g2 i (by rw [List.length_append]; omega), List.getElem?_append_left (by omega), g1.same i hi (by simp)]
end Go.Abs
namespace Go.Abs
open Go.Proofs
theorem upd_big {src : List UInt8} {tk : List Tk} {e : Ed} (h : decide ((src.length : Int) > 2000) = true) : updM src tk e = ([], 0, 2) := by unfold updM; rw [if_pos h]
theorem upd_bad {src : List UInt8} {tk : List Tk} {e : Ed} (h : ¬ (src.length : Int) > 2000) (hb : badE src e = true) : updM src tk e = ([], 0, 3) := by
 have hv : valE src e = 3 := by unfold valE; rw [if_neg h, if_pos hb]
 unfold updM
 rw [if_neg (by simpa using h), if_pos (by rw [hv]; rfl), hv]
theorem upd_long {src : List UInt8} {tk : List Tk} {e : Ed} (h : ¬ (src.length : Int) > 2000) (hb : badE src e = false) (hn : newLen src e > 2000) : updM src tk e = ([], 0, 2) := by
 have hv : valE src e = 2 := by unfold valE; rw [if_neg h, if_neg (by rw [hb]; simp), if_pos hn]
 unfold updM
 rw [if_neg (by simpa using h), if_pos (by rw [hv]; rfl), hv]
theorem upd_ne {src : List UInt8} {tk : List Tk} {e : Ed} (h : ¬ (src.length : Int) > 2000) (hb : badE src e = false) (hne : tk ≠ toks src) : ∃ x : Int, decide (x = 0) = false ∧ updM src tk e = ([], 0, x) := by
 by_cases hn : newLen src e > 2000
 ·exact ⟨2, rfl, upd_long h hb hn⟩
 ·have hv : valE src e = 0 := by unfold valE; rw [if_neg h, if_neg (by rw [hb]; simp), if_neg hn]
  refine ⟨3, rfl, ?_⟩
  unfold updM
  rw [if_neg (by simpa using h), if_neg (by rw [hv]; simp), if_pos (by rw [tkEqs_ne (Ne.symm hne)]; rfl)]
theorem upd_ok {src : List UInt8} {e : Ed} (h : ¬ (src.length : Int) > 2000) (hb : badE src e = false) (hn : ¬ newLen src e > 2000) : updM src (toks src) e = (toks (spl src e), refR (toks src) (toks (spl src e)) e.st e.en (shE src e), 0) := by
 have hv : valE src e = 0 := by unfold valE; rw [if_neg h, if_neg (by rw [hb]; simp), if_neg hn]
 unfold updM
 rw [if_neg (by simpa using h), if_neg (by rw [hv]; simp), if_neg (by rw [tkEqs_iff.2 rfl]; simp)]
theorem bad_iff {src : List UInt8} {e : Ed} : badE src e = !((decide (e.st ≥ 0) && decide (e.st ≤ e.en)) && decide (e.en ≤ (src.length : Int))) := by
 unfold badE
 rw [Bool.eq_iff_iff]
 simp only [Bool.or_eq_true, decide_eq_true_eq, Bool.not_eq_true', Bool.and_eq_false_iff, decide_eq_false_iff_not]
 omega
theorem spl_e {src : List UInt8} {e : Ed} (hb : badE src e = false) (hs : src.length ≤ 1048576) (ht : e.tx.length ≤ 1048576) : PC Tryz.prog 8 [.str src, e.enc] (.str (spl src e)) := by
 have hbd := hb
 simp only [badE, Bool.or_eq_false_iff, decide_eq_false_iff_not] at hbd
 have h1 : ((e.st.toNat : Nat) : Int) = e.st := by omega
 have h2 : ((e.en.toNat : Nat) : Int) = e.en := by omega
 have := spl_c src e.tx e.st.toNat e.en.toNat (by omega) (by omega) hs ht
 rw [h1, h2] at this
 unfold spl
 rw [List.append_assoc]
 exact this
theorem law_rx {H0 : Heap} (hG : Pre G0 H0) (src : List UInt8) (e : Ed) (other : List Tk) (u : Bool) (hs : src.length ≤ 1048576) (ht : e.tx.length ≤ 1048576) (ho : other.length ≤ 1048576) : ACalls Tryz.prog 3 [.str src, e.enc, .slice (other.map Tk.enc) .none, .bool u] H0 fun r H' => r = .bool true := by
 have em : maxLen = 9223372036854775807 := by decide
 have po := toks_pos _ src (Nat.le_refl _)
 have zo := toks_sz _ src (Nat.le_refl _)
 have ol : (toks src).length ≤ src.length := by rw [← zo]; exact len_szL po
 obtain ⟨T, hT⟩ : ∃ T, (if u = true then other else toks src) = T := ⟨_, rfl⟩
 have hTl : T.length ≤ 1048576 := by rw [← hT]; split <;> omega
 obtain ⟨⟨g, ru, er⟩, hM⟩ : ∃ z, updM src T e = z := ⟨_, rfl⟩
 have hu := upd_c src T e hs ht
 rw [hM] at hu
 refine aF (N := 125) Tryz.func3 rfl rfl (by simp) fun hb' => ?_
 refine qE (a2 y23 qR) ?_
 repeat refine wS ?_
 refine wR ?_
 refine qA qR zgo4 (rpEx_c (hG.app _)) ?_
 rintro _ H1 ⟨rfl, g1⟩
 have k5 : H1[H0.length]? = some (.row [.int .i64 e.st, .int .i64 e.en, .str e.tx]) := by rw [g1 _ (by simp)]; simp
 have hG1 : Pre G0 H1 := fun i o h => by have := hG.app [.row [.int .i64 e.st, .int .i64 e.en, .str e.tx]] i o h; rw [g1 i (lG this)]; exact this
 refine qX qR ?_
 refine qF qR ?_
 refine qK ?_
 refine qT 1 qR ?_
 refine qP qR zgo5 (tokR_c src hs _) ?_
 refine qX qR ?_
 refine qE qR ?_
 repeat refine wS ?_
 refine awp_joinX (σ := Unit) (fun (u_ : Unit) => [(0, .str src), (5, .optr H0.length 0), (9, .slice (T.map Tk.enc) .none)]) (fun (u_ : Unit) =>  fun H2 => H2 = H1) ?_ ?_
 ·-- to the meeting
  refine qI qR (fun bt19 => ?_) (fun bt19 => ?_)
  ·-- if t19
   rw [if_pos bt19] at hT
   rw [hT]
   refine qE qR ?_
   exact ⟨(), ⟨rfl, rfl, rfl, trivial⟩, rfl⟩
  ·-- else t19
   rw [if_neg (by rw [bt19]; simp)] at hT
   rw [hT]
   refine qK ?_
   exact ⟨(), ⟨rfl, rfl, rfl, trivial⟩, rfl⟩
 ·intro u_ H2 hg
  subst hg
  refine qT 3 (a3 y23 qR k5) ?_
  refine qP (a2 qR k5) zgo6 (hu _ hG1) ?_
  refine qX (a2 qR k5) ?_
  refine gE (a5 y3 y9 y23 qR k5) ?_
  refine qB ?_
  refine qL [0, 5, 9, 10, 11, 12, 13] qR ?_
  refine qE (a3 y3 y9 qR) ?_
  refine qI qR (fun bt46 => ?_) (fun bt46 => ?_)
  ·-- if t46
   rw [upd_big bt46] at hM
   cases hM
   refine gE (a5 y3 y24 y27 y32 qR) ?_
   repeat refine wS ?_
   refine wT ⟨.inr rfl, _, rfl, ?_⟩
   first | rfl | trace_state
  ·-- else t46
   have h2k := of_decide_eq_false bt46
   refine qE qR ?_
   refine qI qR (fun bt61 => ?_) (fun bt61 => ?_)
   ·-- if t61
    rw [upd_bad h2k (by rw [bad_iff]; exact bt61)] at hM
    cases hM
    refine gE (a5 y3 y24 y27 y32 qR) ?_
    repeat refine wS ?_
    refine wT ⟨.inr rfl, _, rfl, ?_⟩
    first | rfl | trace_state
   ·-- else t61
    have hbad : badE src e = false := by rw [bad_iff]; exact bt61
    refine qT 2 qR ?_
    refine qP qR zgo5 (tokR_c src hs _) ?_
    refine qP qR zgo7 (eqTkR_c T (toks src) (by omega) _) ?_
    refine qX qR ?_
    refine qI qR (fun bt75 => ?_) (fun bt75 => ?_)
    ·-- if t75
     have hne : T ≠ toks src := by rintro h; rw [tkEqs_iff.2 h] at bt75; cases bt75
     obtain ⟨x, hx0, hxe⟩ := upd_ne h2k hbad hne
     rw [hxe] at hM
     cases hM
     refine gE (a5 y3 y24 y27 y32 (a2 qR hx0)) ?_
     repeat refine wS ?_
     refine wT ⟨.inr rfl, _, rfl, ?_⟩
     first | rfl | trace_state
    ·-- else t75
     have hTe : T = toks src := tkEqs_iff.1 (by simpa using bt75)
     refine qK ?_
     refine qT 2 (a3 y23 qR k5) ?_
     refine qP (a2 qR k5) zgo8 (spl_e hbad hs ht _) ?_
     refine qX (a2 qR k5) ?_
     refine qL [0, 5, 10, 11, 12, 14] qR ?_
     repeat refine wS ?_
     have hsl := spl_len hbad
     refine eE (by simp only [kA, seval, y3, y9, vint, qC, qR] <;> with_reducible rfl) (by decide) ?_
     refine qI qR (fun bt97 => ?_) (fun bt97 => ?_)
     ·-- if t97
      rw [upd_long h2k hbad (by rw [← hsl]; exact of_decide_eq_true bt97)] at hM
      cases hM
      refine gE (a5 y3 y24 y27 y32 qR) ?_
      repeat refine wS ?_
      refine wT ⟨.inr rfl, _, rfl, ?_⟩
      first | rfl | trace_state
     ·-- else t97
      have hnl := of_decide_eq_false bt97
      have hok := upd_ok h2k hbad (by rw [← hsl]; exact hnl)
      rw [hTe, hok] at hM
      cases hM
      have hre : PC Tryz.prog 9 [.str src, .str (spl src e), e.enc] (vint (refR (toks src) (toks (spl src e)) e.st e.en (shE src e))) := reu_c src (spl src e) e (by omega) (by omega)
      have htt : tkEqs (toks (spl src e)) (toks (spl src e)) = true := tkEqs_iff.2 rfl
      have pn := toks_pos _ (spl src e) (Nat.le_refl _)
      have zn := toks_sz _ (spl src e) (Nat.le_refl _)
      have nl : (toks (spl src e)).length ≤ (spl src e).length := by rw [← zn]; exact len_szL pn
      refine qK ?_
      repeat refine wS ?_
      refine wR ?_
      refine aops_gstart ?_
      refine gT 5 (a4 y27 qR k5 htt) ?_
      refine gP (a3 qR k5 htt) zgo5 (fun hc => tokR_c (spl src e) (by omega) _) ?_
      refine gP (a3 qR k5 htt) zgo7 (fun hc => eqTkR_c (toks (spl src e)) (toks (spl src e)) (by omega) _) ?_
      refine gT 6 (a4 y23 qR k5 htt) ?_
      refine gP (a3 qR k5 htt) zgo9 (fun hc => hre _) ?_
      refine gX (a4 y3 qR k5 htt) ?_
      repeat refine wS ?_
      refine wT ⟨.inr rfl, _, rfl, ?_⟩
      first | rfl | trace_state
end Go.Abs
namespace Go.Abs
def env0 (W : World) : Env := { w := W, κ := fun _ => .fixed, ρ := fun _ => 0, tb := fun _ => none, H := [] }
theorem env0_cell (W : World) (a : Addr) : (env0 W).view.cell a = W.cell? a := rfl
def RLl (V : View) (cs : List Value) (ps : List PV) : Prop := cs.length = ps.length ∧ ∀ i (h : i < ps.length), VRel V (cs.getD i undef) ps[i]
theorem RLl.nil {V : View} : RLl V [] [] := ⟨rfl, fun i h => by cases h⟩
theorem RLl.cons {V : View} {c : Value} {cs : List Value} {p : PV} {ps : List PV} (h : VRel V c p) (hs : RLl V cs ps) : RLl V (c :: cs) (p :: ps) := by
  refine ⟨by simp [hs.1], fun i hi => ?_⟩
  cases i with
  | zero => exact h
  | succ i => exact hs.2 i (by simpa using hi)
theorem RLl.app {V : View} {c1 c2 : List Value} {p1 p2 : List PV} (h1 : RLl V c1 p1) (h2 : RLl V c2 p2) : RLl V (c1 ++ c2) (p1 ++ p2) := by
  refine ⟨by simp [h1.1, h2.1], fun i hi => ?_⟩
  by_cases h : i < p1.length
  · have := h1.2 i h
    simp only [List.getD_eq_getElem?_getD] at this ⊢
    rw [List.getElem?_append_left (by rw [h1.1]; exact h), List.getElem_append_left h]; exact this
  · have := h2.2 (i - p1.length) (by simp at hi; omega)
    simp only [List.getD_eq_getElem?_getD] at this ⊢
    rw [List.getElem?_append_right (by rw [h1.1]; omega), List.getElem_append_right (by omega), h1.1]; exact this
theorem RLl.agg {V : View} {arr : Array Value} {ps : List PV} (h : RLl V arr.toList ps) : VRel V (.agg arr) (.agg ps) := by
  refine .agg _ _ (by have := h.1; simpa using this) fun i hi => ?_
  have := h.2 i hi
  rw [List.getD_eq_getElem?_getD, Array.getElem?_toList] at this
  rw [Array.getD_eq_getD_getElem?]; exact this
theorem RLl.one {V : View} {v : Value} {p : PV} (h : RLl V [v] [p]) : VRel V v p := h.2 0 (by simp)
theorem exists_list {α : Type} {n : Nat} {p : Nat → α → Prop} (h : ∀ i, i < n → ∃ a, p i a) : ∃ xs : List α, xs.length = n ∧ ∀ i (hi : i < xs.length), p i xs[i] := by
  induction n with
  | zero => exact ⟨[], rfl, fun i hi => by cases hi⟩
  | succ n ih =>
    obtain ⟨xs, h1, h2⟩ := ih fun i hi => h i (by omega)
    obtain ⟨a, ha⟩ := h n (by omega)
    refine ⟨xs ++ [a], by simp [h1], fun i hi => ?_⟩
    by_cases hlt : i < xs.length
    · rw [List.getElem_append_left hlt]; exact h2 i hlt
    · rw [List.getElem_append_right (by omega)]
      simp at hi
      obtain rfl : i = n := by omega
      simpa using ha
def SlD {α : Type} {H : Type} (D : α → DataW H → Prop) (xs : List α) (d : DataW H) : Prop :=
  (xs = [] ∧ d = .nil) ∨ ∃ els sp, d = .slice els sp ∧ xs.length = els.length ∧ ∀ i (h1 : i < xs.length) (h2 : i < els.length), D xs[i] els[i]
section
variable {H : Type} {enc : TypeId × Value → H} {P : Program} {W : World} {spare : Nat → Bool} {held : Bool}
theorem rd_slice {α : Type} (en : α → PV) (D : α → DataW H → Prop) {t e : TypeId} {fuel : Nat} {cs : List Value} {x : DataW H × List MemPlace} (ht : P.underlying t = some (.slice e)) (hsz : ∀ a, (en a).cells.length = P.cellsOf e)
    (h : DataW.trod enc P W 0 spare held fuel t cs = some x) (ih : ∀ n cs' x', n < fuel → DataW.trod enc P W 0 spare held n e cs' = some x' → ∃ a, RLl (env0 W).view cs' (en a).cells ∧ D a x'.1) :
    ∃ (xs : List α) (v : Value), cs = [v] ∧ VRel (env0 W).view v (.slice (xs.map en) .none) ∧ SlD D xs x.1 := by
  rcases DataW.trod_slice ht h with ⟨rfl, rfl⟩ | ⟨a, len, cap, elems, rest, n, rfl, rfl, rfl, hb, hl, hm, hlen, hel, _, _⟩
  · exact ⟨[], _, rfl, .nils .none trivial, .inl ⟨rfl, rfl⟩⟩
  · obtain ⟨ys, hys, hp⟩ := exists_list (α := α × List Value) (n := len) (p := fun i y => W.cells? 0 (a.add (i * P.cellsOf e)) (P.cellsOf e) = some y.2 ∧ RLl (env0 W).view y.2 (en y.1).cells ∧ ∀ h : i < elems.length, D y.1 elems[i].1) (fun i hi => by
      have := hel i hi
      rw [List.getElem?_eq_getElem (by omega)] at this
      obtain ⟨cs', h1, h2⟩ := oB this
      obtain ⟨y, h3, h4⟩ := ih n cs' _ (by omega) h2
      exact ⟨(y, cs'), h1, h3, fun _ => h4⟩)
    refine ⟨ys.map (·.1), _, rfl, ?_, .inr ⟨_, _, rfl, by simp [hys, hlen], fun i h1 h2 => ?_⟩⟩
    · have hget : ∀ i (hi : i < ys.length), ys[i]? = some ys[i] := fun i hi => List.getElem?_eq_getElem hi
      refine .slice a len cap (P.cellsOf e) _ .none (fun i j => match ys[i]? with | some y => y.2.getD j undef | none => undef) (by simp [hys]) hl hm ?_ ?_ ?_ trivial
      · intro i hi; simp only [List.getElem_map]; exact hsz _
      · intro i j hi hj
        have hi' : i < ys.length := by omega
        obtain ⟨h1, h2, _⟩ := hp i hi'
        obtain ⟨_, h4, h5⟩ := World.cells?_some h1
        have := h5 j hj
        rw [hget i hi']
        simp only
        rw [env0_cell, ← add_add, this, List.getD_eq_getElem?_getD, List.getElem?_eq_getElem (by omega)]; rfl
      · intro i j hi hj
        have hi' : i < ys.length := by simpa using hi
        simp only [List.getElem_map] at hj ⊢
        rw [hget i hi']
        exact (hp i hi').2.1.2 j hj
    · simp only [List.getElem_map]
      exact (hp i (by simpa using h1)).2.2 _
theorem rd_fields {t : TypeId} {fs : Array Field} {fuel : Nat} {cs : List Value} {x : DataW H × List MemPlace} (ht : P.underlying t = some (.struct fs)) (h : DataW.trod enc P W 0 spare held fuel t cs = some x) :
    ∃ (ds : List (DataW H)) (n : Nat), fuel = n + 1 ∧ x.1 = .agg ds ∧ cs.length = P.cellsOf t ∧ ds.length = fs.size ∧ ∀ (i : Nat) (f : Field), fs[i]? = some f → ∃ d ps, ds[i]? = some d ∧ DataW.trod enc P W 0 spare held n f.type ((cs.drop f.offset).take (P.cellsOf f.type)) = some (d, ps) := by
  obtain ⟨xs, n, h1, rfl, h3, h4, h5⟩ := DataW.trod_struct ht h
  refine ⟨xs.map (·.1), n, h1, rfl, h3, by simpa using h4, fun i f hf => ?_⟩
  have hi : i < xs.length := by
    rw [h4]
    rcases Nat.lt_or_ge i fs.size with hl | hl
    · exact hl
    · rw [Array.getElem?_eq_none hl] at hf; cases hf
  have := h5 i f hf
  rw [List.getElem?_eq_getElem hi] at this
  exact ⟨xs[i].1, xs[i].2, by simp [hi], this⟩
theorem rd_int {t : TypeId} {k : IntKind} {fuel : Nat} {cs : List Value} {x : DataW H × List MemPlace} (ht : P.underlying t = some (.int k)) (h : DataW.trod enc P W 0 spare held fuel t cs = some x) : ∃ n, RLl (env0 W).view cs [.int k n] ∧ x.1 = .lit (.int k n) ∧ (Lit.int k n).wf = true ∧ cs = [.int k n] := by
  obtain ⟨n, rfl, rfl, h3⟩ := DataW.trod_int ht h
  exact ⟨n, .cons (.int _ _) .nil, rfl, h3, rfl⟩
theorem rd_bool {t : TypeId} {fuel : Nat} {cs : List Value} {x : DataW H × List MemPlace} (ht : P.underlying t = some .bool) (h : DataW.trod enc P W 0 spare held fuel t cs = some x) : ∃ b, RLl (env0 W).view cs [.bool b] ∧ x.1 = .lit (.bool b) := by
  obtain ⟨n, rfl, rfl⟩ := DataW.trod_bool ht h
  exact ⟨n, .cons (.bool _) .nil, rfl⟩
theorem rd_string {t : TypeId} {fuel : Nat} {cs : List Value} {x : DataW H × List MemPlace} (ht : P.underlying t = some .string) (h : DataW.trod enc P W 0 spare held fuel t cs = some x) : ∃ s : List UInt8, RLl (env0 W).view cs [.str s] ∧ x.1 = .lit (.string s) ∧ s.length ≤ maxLen := by
  obtain ⟨s, rfl, rfl, h3⟩ := DataW.trod_string ht h
  exact ⟨s.data.toList, .cons (.str _) .nil, rfl, by simpa using h3⟩
end
inductive TyD {H : Type} : Ty → DataW H → Prop
  | nil (k i : Int) : TyD (.mk k i []) (.agg [.lit (.int .i64 k), .lit (.int .i64 i), .nil])
  | slice (k i : Int) (xs : List Ty) (es sp : List (DataW H)) (hl : xs.length = es.length) (h : ∀ j (h1 : j < xs.length) (h2 : j < es.length), TyD xs[j] es[j]) : TyD (.mk k i xs) (.agg [.lit (.int .i64 k), .lit (.int .i64 i), .slice es sp])
theorem TyD.of {H : Type} {k i : Int} {xs : List Ty} {d : DataW H} (h : SlD TyD xs d) : TyD (.mk k i xs) (.agg [.lit (.int .i64 k), .lit (.int .i64 i), d]) := by
  rcases h with ⟨rfl, rfl⟩ | ⟨es, sp, rfl, h1, h2⟩
  · exact .nil k i
  · exact .slice k i xs es sp h1 h2
structure TyAt (P : Program) (T S : TypeId) : Prop where
  st : ∃ f0 f1 f2 : Field, P.underlying T = some (.struct #[f0, f1, f2]) ∧ P.underlying f0.type = some (.int .i64) ∧ P.underlying f1.type = some (.int .i64) ∧ f2.type = S ∧ f0.offset = 0 ∧ f1.offset = 1 ∧ f2.offset = 2 ∧ P.cellsOf f0.type = 1 ∧ P.cellsOf f1.type = 1
  sl : P.underlying S = some (.slice T)
  c : P.cellsOf T = 3
  cs : P.cellsOf S = 1
  by40 : P.bytesOf T = 40
section
variable {H : Type} {enc : TypeId × Value → H} {P : Program} {W : World} {spare : Nat → Bool} {held : Bool} {T S : TypeId}
theorem rd_ty (F : TyAt P T S) : ∀ (fuel : Nat) (cs : List Value) (x : DataW H × List MemPlace), DataW.trod enc P W 0 spare held fuel T cs = some x → ∃ t : Ty, RLl (env0 W).view cs t.enc.cells ∧ TyD t x.1 := by
  intro fuel
  induction fuel using Nat.strongRecOn with
  | _ fuel ih =>
  intro cs x h
  obtain ⟨f0, f1, f2, hst, u0, u1, e2, o0, o1, o2, c0, c1⟩ := F.st
  obtain ⟨ds, n, rfl, hx, hlen, hdl, hf⟩ := rd_fields hst h
  rw [F.c] at hlen
  match cs, hlen with
  | [v0, v1, v2], _ =>
  obtain ⟨d0, p0, g0, r0⟩ := hf 0 f0 rfl
  obtain ⟨d1, p1, g1, r1⟩ := hf 1 f1 rfl
  obtain ⟨d2, p2, g2, r2⟩ := hf 2 f2 rfl
  rw [o0, c0] at r0
  rw [o1, c1] at r1
  rw [o2, e2, F.cs] at r2
  obtain ⟨k, q0, rfl, w0, _⟩ := rd_int u0 r0
  obtain ⟨i, q1, rfl, w1, _⟩ := rd_int u1 r1
  obtain ⟨xs, v, hv, hr, hd⟩ := rd_slice Ty.enc TyD F.sl (fun a => by rw [F.c, Ty.enc_len]) r2 (fun m cs' x' hm h' => ih m (by omega) cs' x' h')
  simp only [List.drop_succ_cons, List.drop_zero, List.take_succ_cons, List.take_zero, List.cons.injEq, and_true] at hv
  subst hv
  refine ⟨.mk k i xs, ?_, ?_⟩
  · rw [Ty.enc_cells]
    exact .cons q0.one (.cons q1.one (.cons hr .nil))
  · rw [hx]
    have : ds = [.lit (.int .i64 k), .lit (.int .i64 i), d2] := by
      match ds, hdl with
      | [a, b, c], _ =>
        simp at g0 g1 g2
        rw [g0, g1, g2]
    rw [this]
    exact .of hd
end
end Go.Abs
namespace Go.Abs
theorem RLl.rl {V : View} {arr : Array Value} {ps : List PV} (h : RLl V arr.toList ps) : RL V arr ps := by
  refine ⟨by have := h.1; simpa using this, fun i hi => ?_⟩
  have := h.2 i hi
  rw [List.getD_eq_getElem?_getD, Array.getElem?_toList] at this
  rw [Array.getD_eq_getD_getElem?]; exact this
theorem Ty.enc_agg (t : Ty) : PV.agg t.enc.cells = t.enc := by rw [Ty.enc_cells, Ty.enc_eq]
end Go.Abs
namespace Go.Abs
def Agr (s : MSt) (xs : List Ty) : Prop := ∀ i, s.2.getD i false = true → xs.getD i .zero = s.1.getD i .zero
def MLe (s s' : MSt) : Prop := ∀ i, s.2.getD i false = true → s'.2.getD i false = true ∧ s'.1.getD i .zero = s.1.getD i .zero
theorem MLe.refl (s : MSt) : MLe s s := fun i h => ⟨h, rfl⟩
theorem MLe.trans {a b c : MSt} (h : MLe a b) (k : MLe b c) : MLe a c := fun i hi => ⟨(k i (h i hi).1).1, (k i (h i hi).1).2.trans (h i hi).2⟩
theorem Agr.mono {s s' : MSt} {xs : List Ty} (h : MLe s s') (k : Agr s' xs) : Agr s xs := fun i hi => (k i (h i hi).1).trans (h i hi).2
structure MRt (ps : List Int) (xs : List Ty) (s : MSt) : Prop where
  agr : Agr s xs
  zero : ∀ i, s.2.getD i false = false → s.1.getD i .zero = .zero
end Go.Abs
namespace Go.Abs
structure Bd where
  v : Int
  t : Ty
def Bd.enc (b : Bd) : PV := .agg [.int .i64 b.v, .int .i64 b.t.kind, .int .i64 b.t.id, .slice (b.t.args.map Ty.enc) .none]
theorem Bd.enc_len (b : Bd) : b.enc.cells.length = 4 := rfl
theorem Bd.bel (n : Nat) (b : Bd) : Bel n b.enc := .agg _ (by
  intro c hc
  simp at hc
  rcases hc with rfl | rfl | rfl | rfl
  · exact .int _ _
  · exact .int _ _
  · exact .int _ _
  · exact bel_slice_ty _ _)
end Go.Abs
namespace Go.Abs
end Go.Abs
namespace Go.Abs
structure BdAt (P : Program) (B T : TypeId) : Prop where
  st : ∃ f0 f1 : Field, P.underlying B = some (.struct #[f0, f1]) ∧ P.underlying f0.type = some (.int .i64) ∧ f1.type = T ∧ f0.offset = 0 ∧ f1.offset = 1 ∧ P.cellsOf f0.type = 1
  c : P.cellsOf B = 4
section
variable {H : Type} {enc : TypeId × Value → H} {P : Program} {W : World} {spare : Nat → Bool} {held : Bool} {B T S : TypeId}
end
end Go.Abs
namespace Go.Abs
def envG (W : World) (G : Heap) : Env := { w := W, κ := fun _ => .fixed, ρ := fun _ => 0, tb := fun _ => none, H := G }
theorem envG_ok {W : World} {G : Heap} (hG : ∀ o ∈ G, ∃ b vs, o = AObj.glob b vs) (hW : ∀ b vs, AObj.glob b vs ∈ G → ∀ i (h : i < vs.length), W.cell? ⟨b, i, none⟩ = some vs[i]) : (envG W G).Ok := by
  have hk : ∀ id o, (envG W G).H[id]? = some o → ∃ b vs, o = AObj.glob b vs := fun id o h => hG o (List.mem_of_getElem? h)
  constructor
  · intro id cs h; obtain ⟨b, vs, e⟩ := hk _ _ h; cases e
  · intro id n sz b h; obtain ⟨b, vs, e⟩ := hk _ _ h; cases e
  · intro id id' cs cs' h; obtain ⟨b, vs, e⟩ := hk _ _ h; cases e
  · intro id id' n sz n' sz' b h; obtain ⟨b, vs, e⟩ := hk _ _ h; cases e
  · intro id b vs h i hi; exact hW b vs (List.mem_of_getElem? h) i hi
  · exact ⟨fun id k h => (by obtain ⟨b, vs, e⟩ := hk _ _ h; cases e), fun id id' k k' h => (by obtain ⟨b, vs, e⟩ := hk _ _ h; cases e)⟩
theorem env0_envG (W : World) (G : Heap) : (env0 W).view.le (envG W G).view := by
  have hb : ∀ id, ¬ (env0 W).view.born id := by
    rintro id ⟨o, h, _⟩
    simp [env0] at h
  exact ⟨fun a v h => h, fun id h => absurd h (hb id), fun id h => absurd h (hb id), fun id t h => absurd h (hb id)⟩
theorem calls_of_ga {P : Program} {f : FuncId} {args : List PV} {b : Bool} {G : Heap} (h : ACalls P f args G fun r _ => r = .bool b) (W : World) (hG : ∀ o ∈ G, ∃ b vs, o = AObj.glob b vs) (hW : ∀ b vs, AObj.glob b vs ∈ G → ∀ i (h : i < vs.length), W.cell? ⟨b, i, none⟩ = some vs[i])
    (vargs : Array Value) (hr : RL (env0 W).view vargs args) : Calls P f vargs W fun e w' => e = .returned (.bool b) ∧ Go.RowKit.Below W.heap.size W w' := by
  refine (h (envG W G) vargs (envG_ok hG hW) rfl (hr.mono (env0_envG W G))).mono ?_
  rintro e w' ⟨E', v, r, rfl, rfl, hle, hok, hv, rfl⟩
  refine ⟨by rw [hv.bool_inv], hle.os, hle.tape, hle.output, hle.size, fun k hk => (hle.other k hk ?_).2⟩
  rintro (⟨id, cs, h, _⟩ | ⟨id, n, sz, h, _⟩ | ⟨id, k, h, _⟩) <;> (obtain ⟨b, vs, e⟩ := hG _ (List.mem_of_getElem? h); cases e)
theorem laid_ints {H : Type} {enc : TypeId × Value → H} {P : Program} {w : World} {sp : Nat → Bool} {held : Bool} {t e : TypeId} {n f : Nat} {k : IntKind} {cs : List Value} {ds : List (DataW H)} {q : List MemPlace}
    (ht : P.underlying t = some (.array n e)) (he : P.underlying e = some (.int k)) (hc : P.cellsOf e = 1) (h : DataW.trod enc P w 0 sp held f t cs = some (.agg ds, q)) :
    ∀ i, i < n → ∃ v, ds[i]? = some (.lit (.int k v)) ∧ cs[i]? = some (.int k v) := by
  intro i hi
  obtain ⟨xs, m, rfl, hx, hlen, hn, hel⟩ := DataW.trod_array ht h
  have h1 := hel i hi
  rw [hc, Nat.mul_one] at h1
  rw [List.getElem?_eq_getElem (by omega)] at h1
  obtain ⟨v, e1, e2, _⟩ := DataW.trod_int he h1
  simp only [Prod.mk.injEq, DataW.agg.injEq] at hx
  refine ⟨v, ?_, ?_⟩
  · rw [hx.1, List.getElem?_map, List.getElem?_eq_getElem (by omega)]
    simp [e2]
  · have : (cs.drop i).head? = some (.int k v) := by
      cases hd : cs.drop i with
      | nil => rw [hd] at e1; cases e1
      | cons a l => rw [hd] at e1; simp at e1; rw [e1]; rfl
    rw [List.head?_drop] at this
    exact this
end Go.Abs
namespace Go.Abs
open Go.Proofs
def EdD {H : Type} (t : Ed) (d : DataW H) : Prop := d = .agg [.lit (.int .i64 t.st), .lit (.int .i64 t.en), .lit (.string t.tx)] ∧ t.tx.length ≤ maxLen
section
variable {H : Type} {enc : TypeId × Value → H} {W : World} {spare : Nat → Bool} {held : Bool}
theorem rd_Ed (fuel : Nat) (cs : List Value) (x : DataW H × List MemPlace) (h : DataW.trod enc Tryz.prog W 0 spare held fuel 23 cs = some x) : ∃ t : Ed, RLl (env0 W).view cs t.enc.cells ∧ EdD t x.1 := by
  obtain ⟨ds, n, rfl, hx, hlen, hdl, hf⟩ := rd_fields Tryz.underlying23 h
  rw [show Tryz.prog.cellsOf 23 = 3 from by kernel_rfl] at hlen
  match cs, hlen with
  | [v0, v1, v2], _ =>
  obtain ⟨d0, p0, g0, r0⟩ := hf 0 _ rfl
  have r0 : DataW.trod enc Tryz.prog W 0 spare held n 3 [v0] = some (d0, p0) := by
    have e : Tryz.prog.cellsOf 3 = 1 := by kernel_rfl
    have r0 : DataW.trod enc Tryz.prog W 0 spare held n 3 (List.take (Tryz.prog.cellsOf 3) (List.drop 0 [v0, v1, v2])) = some (d0, p0) := r0
    rw [e] at r0
    exact r0
  obtain ⟨a0, q0, rfl, _, _⟩ := rd_int Tryz.underlying3 r0
  obtain ⟨d1, p1, g1, r1⟩ := hf 1 _ rfl
  have r1 : DataW.trod enc Tryz.prog W 0 spare held n 3 [v1] = some (d1, p1) := by
    have e : Tryz.prog.cellsOf 3 = 1 := by kernel_rfl
    have r1 : DataW.trod enc Tryz.prog W 0 spare held n 3 (List.take (Tryz.prog.cellsOf 3) (List.drop 1 [v0, v1, v2])) = some (d1, p1) := r1
    rw [e] at r1
    exact r1
  obtain ⟨a1, q1, rfl, _, _⟩ := rd_int Tryz.underlying3 r1
  obtain ⟨d2, p2, g2, r2⟩ := hf 2 _ rfl
  have r2 : DataW.trod enc Tryz.prog W 0 spare held n 9 [v2] = some (d2, p2) := by
    have e : Tryz.prog.cellsOf 9 = 1 := by kernel_rfl
    have r2 : DataW.trod enc Tryz.prog W 0 spare held n 9 (List.take (Tryz.prog.cellsOf 9) (List.drop 2 [v0, v1, v2])) = some (d2, p2) := r2
    rw [e] at r2
    exact r2
  obtain ⟨a2, q2, rfl, l2⟩ := rd_string Tryz.underlying9 r2
  refine ⟨Ed.mk a0 a1 a2, ?_, ?_⟩
  · rw [Ed.enc_cells]
    exact (RLl.app q0 (RLl.app q1 q2))
  · rw [hx]
    have e : ds = [.lit (.int .i64 a0), .lit (.int .i64 a1), .lit (.string a2)] := by
      match ds, hdl with
      | [e0, e1, e2], _ =>
        simp at g0 g1 g2
        rw [g0, g1, g2]
    rw [e]
    exact ⟨rfl, l2⟩
end
def TkD {H : Type} (t : Tk) (d : DataW H) : Prop := d = .agg [.lit (.int .i64 t.kind), .lit (.string t.text)] ∧ t.text.length ≤ maxLen
section
variable {H : Type} {enc : TypeId × Value → H} {W : World} {spare : Nat → Bool} {held : Bool}
theorem rd_Tk (fuel : Nat) (cs : List Value) (x : DataW H × List MemPlace) (h : DataW.trod enc Tryz.prog W 0 spare held fuel 32 cs = some x) : ∃ t : Tk, RLl (env0 W).view cs t.enc.cells ∧ TkD t x.1 := by
  obtain ⟨ds, n, rfl, hx, hlen, hdl, hf⟩ := rd_fields Tryz.underlying32 h
  rw [show Tryz.prog.cellsOf 32 = 2 from by kernel_rfl] at hlen
  match cs, hlen with
  | [v0, v1], _ =>
  obtain ⟨d0, p0, g0, r0⟩ := hf 0 _ rfl
  have r0 : DataW.trod enc Tryz.prog W 0 spare held n 3 [v0] = some (d0, p0) := by
    have e : Tryz.prog.cellsOf 3 = 1 := by kernel_rfl
    have r0 : DataW.trod enc Tryz.prog W 0 spare held n 3 (List.take (Tryz.prog.cellsOf 3) (List.drop 0 [v0, v1])) = some (d0, p0) := r0
    rw [e] at r0
    exact r0
  obtain ⟨a0, q0, rfl, _, _⟩ := rd_int Tryz.underlying3 r0
  obtain ⟨d1, p1, g1, r1⟩ := hf 1 _ rfl
  have r1 : DataW.trod enc Tryz.prog W 0 spare held n 9 [v1] = some (d1, p1) := by
    have e : Tryz.prog.cellsOf 9 = 1 := by kernel_rfl
    have r1 : DataW.trod enc Tryz.prog W 0 spare held n 9 (List.take (Tryz.prog.cellsOf 9) (List.drop 1 [v0, v1])) = some (d1, p1) := r1
    rw [e] at r1
    exact r1
  obtain ⟨a1, q1, rfl, l1⟩ := rd_string Tryz.underlying9 r1
  refine ⟨Tk.mk a0 a1, ?_, ?_⟩
  · rw [Tk.enc_cells]
    exact (RLl.app q0 q1)
  · rw [hx]
    have e : ds = [.lit (.int .i64 a0), .lit (.string a1)] := by
      match ds, hdl with
      | [e0, e1], _ =>
        simp at g0 g1
        rw [g0, g1]
    rw [e]
    exact ⟨rfl, l1⟩
end
end Go.Abs
namespace Go.Abs
theorem strip (r : List (List Char)) : stripLifts liftWords ("cut".toList :: r) = ([], "cut".toList :: r) := by
  simp only [liftWords]
  repeat (rw [stripLifts, if_neg (by decide)])
  rfl
theorem mayEnter_of {P : Program} {r : List (List Char)} (h : behindMainWord (wordsSigns P.initOrder.toList) = "cut".toList :: r) (h1 : P.laysLater = false) (h2 : P.bearsReflect = false) (h3 : P.doorFits [] = true) : P.mayEnter = true := by
  unfold Program.mayEnter
  rw [h]
  simp only [strip, h1, h2, h3]
  rfl
theorem headLifts_of {P : Program} {r : List (List Char)} (h : behindMainWord (wordsSigns P.initOrder.toList) = "cut".toList :: r) : P.headLifts = [] := by
  unfold Program.headLifts
  rw [h, strip]
  rfl
theorem liftsFinal_of {P : Program} {r : List (List Char)} (h : behindMainWord (wordsSigns P.initOrder.toList) = "cut".toList :: r) : P.liftsFinal = false := by
  unfold Program.liftsFinal
  rw [headLifts_of h, h]
  rfl
theorem make_of {P : Program} {r : List (List Char)} (h : behindMainWord (wordsSigns P.initOrder.toList) = "cut".toList :: r) : P.make = some .cut := by
  unfold Program.make
  rw [h]
  rfl
def sg (l : List Nat) : List Char := l.map Char.ofNat
theorem words_cons (c : Char) (r : List Char) (h : (c == Char.ofNat 32) = false) : wordsSigns (c :: r) = match wordsSigns r with | w :: ws => (c :: w) :: ws | [] => [[c]] := by
  rw [wordsSigns]
  · rfl
  · intro e
    subst e
    simp at h
theorem words_word : ∀ (w r : List Char), w.all (fun c => !(c == Char.ofNat 32)) = true → wordsSigns (w ++ Char.ofNat 32 :: r) = w :: wordsSigns r
  | [], r, _ => by rfl
  | c :: w, r, h => by
    simp only [List.all_cons, Bool.and_eq_true, Bool.not_eq_true'] at h
    rw [List.cons_append, words_cons c _ h.1, words_word w r h.2]
theorem behind_of {P : Program} {a b c r : List Char} (hio : P.initOrder = String.ofList (a ++ Char.ofNat 32 :: (b ++ Char.ofNat 32 :: (c ++ Char.ofNat 32 :: r)))) (ha : a.all (fun c => !(c == Char.ofNat 32)) = true) (hb : b.all (fun c => !(c == Char.ofNat 32)) = true) (hc : c.all (fun c => !(c == Char.ofNat 32)) = true)
    (h : ((a == "harness".toList || a == "ownmain".toList) && isSumSigns b) = true) (hc2 : c = "cut".toList) : behindMainWord (wordsSigns P.initOrder.toList) = "cut".toList :: wordsSigns r := by
  rw [hio, String.toList_ofList, words_word _ _ ha, words_word _ _ hb, words_word _ _ hc]
  simp only [behindMainWord]
  rw [if_pos h, hc2]
end Go.Abs
