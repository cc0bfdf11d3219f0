/- Part 6 of a proof of the law RemovingRedundantRows: Go data as trees, the walks of the functions that the law reaches, the plain laws. -/
import Derived.Test.YtilbojaebhgenaaGERemovingRedundantRows
import Derived.JoinedOf
import Derived.KernelRfl
set_option linter.unusedVariables false
set_option linter.unusedSimpArgs false
set_option maxRecDepth 4000
namespace Go.Abs
open Go.Proofs
theorem tyAt : TyAt Try.prog 42 25 := ⟨⟨_, _, _, Try.underlying42, Try.underlying3, Try.underlying3, rfl, rfl, rfl, rfl, by kernel_rfl, by kernel_rfl⟩, Try.underlying25, by kernel_rfl, by kernel_rfl, by kernel_rfl⟩
theorem rd_Ty {H : Type} {enc : TypeId × Value → H} {W : World} {spare : Nat → Bool} {held : Bool} (fuel : Nat) (cs : List Value) (x : DataW H × List MemPlace) (h : DataW.trod enc Try.prog W 0 spare held fuel 42 cs = some x) : ∃ t : Ty, RLl (env0 W).view cs t.enc.cells ∧ TyD t x.1 := rd_ty tyAt fuel cs x h
def DvD {H : Type} (t : Dv) (d : DataW H) : Prop := ∃ d1, d = .agg [.lit (.int .i64 t.id), d1] ∧ SlD (fun n d => d = .lit (.int .i64 n)) t.fields d1
section
variable {H : Type} {enc : TypeId × Value → H} {W : World} {spare : Nat → Bool} {held : Bool}
theorem rd_Dv (fuel : Nat) (cs : List Value) (x : DataW H × List MemPlace) (h : DataW.trod enc Try.prog W 0 spare held fuel 51 cs = some x) : ∃ t : Dv, RLl (env0 W).view cs t.enc.cells ∧ DvD t x.1 := by
  obtain ⟨ds, n, rfl, hx, hlen, hdl, hf⟩ := rd_fields Try.underlying51 h
  rw [show Try.prog.cellsOf 51 = 2 from by kernel_rfl] at hlen
  match cs, hlen with
  | [v0, v1], _ =>
  obtain ⟨d0, p0, g0, r0⟩ := hf 0 _ rfl
  have r0 : DataW.trod enc Try.prog W 0 spare held n 3 [v0] = some (d0, p0) := by
    have e : Try.prog.cellsOf 3 = 1 := by kernel_rfl
    have r0 : DataW.trod enc Try.prog W 0 spare held n 3 (List.take (Try.prog.cellsOf 3) (List.drop 0 [v0, v1])) = some (d0, p0) := r0
    rw [e] at r0
    exact r0
  obtain ⟨a0, q0, rfl, _, _⟩ := rd_int Try.underlying3 r0
  obtain ⟨d1, p1, g1, r1⟩ := hf 1 _ rfl
  have r1 : DataW.trod enc Try.prog W 0 spare held n 23 [v1] = some (d1, p1) := by
    have e : Try.prog.cellsOf 23 = 1 := by kernel_rfl
    have r1 : DataW.trod enc Try.prog W 0 spare held n 23 (List.take (Try.prog.cellsOf 23) (List.drop 1 [v0, v1])) = some (d1, p1) := r1
    rw [e] at r1
    exact r1
  obtain ⟨a1, w1, hv1, hr1, hd1⟩ := rd_slice vint (fun n d => d = .lit (.int .i64 n)) Try.underlying23 (by intro a; kernel_rfl) r1 (fun m cs' x' hm h' => by obtain ⟨n, q, e, _, _⟩ := rd_int Try.underlying3 h'; exact ⟨n, q, e⟩)
  obtain rfl : v1 = w1 := by simpa using hv1
  have q1 : RLl (env0 W).view [v1] [_] := .cons hr1 .nil
  refine ⟨Dv.mk a0 a1, ?_, ?_⟩
  · rw [Dv.enc_cells]
    exact (RLl.app q0 q1)
  · rw [hx]
    have e : ds = [.lit (.int .i64 a0), d1] := by
      match ds, hdl with
      | [e0, e1], _ =>
        simp at g0 g1
        rw [g0, g1]
    rw [e]
    exact ⟨_, rfl, hd1⟩
theorem Dv_weights {t : Dv} {d : DataW H} (h : DvD t d) (hw : (d.weights Try.prog 51).all (· ≤ reachBytes) = true) : t.W := by
  have hb : reachBytes = 140737488351232 := rfl
  have hfl : ∀ (c : DataW H), True := fun _ => trivial
  obtain ⟨d1, rfl, k1⟩ := h
  simp only [DataW.weights, Try.underlying51, DataW.weightsEach, List.map_cons, List.map_nil, List.nil_append, List.append_nil, List.all_append, List.all_cons, List.all_nil, Bool.and_eq_true, Bool.and_true, decide_eq_true_eq] at hw
  have z1 := hw
  have m1 := sl_weights Try.underlying23 k1 z1
  unfold Dv.W
  exact (by
      have e : Try.prog.bytesOf 3 = 8 := by kernel_rfl
      have := m1.1; rw [e] at this; omega)
end
def DmD {H : Type} (t : Dm) (d : DataW H) : Prop := ∃ d1, d = .agg [.lit (.int .i64 t.kind), d1] ∧ SlD DvD t.vs d1
section
variable {H : Type} {enc : TypeId × Value → H} {W : World} {spare : Nat → Bool} {held : Bool}
theorem rd_Dm (fuel : Nat) (cs : List Value) (x : DataW H × List MemPlace) (h : DataW.trod enc Try.prog W 0 spare held fuel 48 cs = some x) : ∃ t : Dm, RLl (env0 W).view cs t.enc.cells ∧ DmD t x.1 := by
  obtain ⟨ds, n, rfl, hx, hlen, hdl, hf⟩ := rd_fields Try.underlying48 h
  rw [show Try.prog.cellsOf 48 = 2 from by kernel_rfl] at hlen
  match cs, hlen with
  | [v0, v1], _ =>
  obtain ⟨d0, p0, g0, r0⟩ := hf 0 _ rfl
  have r0 : DataW.trod enc Try.prog W 0 spare held n 3 [v0] = some (d0, p0) := by
    have e : Try.prog.cellsOf 3 = 1 := by kernel_rfl
    have r0 : DataW.trod enc Try.prog W 0 spare held n 3 (List.take (Try.prog.cellsOf 3) (List.drop 0 [v0, v1])) = some (d0, p0) := r0
    rw [e] at r0
    exact r0
  obtain ⟨a0, q0, rfl, _, _⟩ := rd_int Try.underlying3 r0
  obtain ⟨d1, p1, g1, r1⟩ := hf 1 _ rfl
  have r1 : DataW.trod enc Try.prog W 0 spare held n 46 [v1] = some (d1, p1) := by
    have e : Try.prog.cellsOf 46 = 1 := by kernel_rfl
    have r1 : DataW.trod enc Try.prog W 0 spare held n 46 (List.take (Try.prog.cellsOf 46) (List.drop 1 [v0, v1])) = some (d1, p1) := r1
    rw [e] at r1
    exact r1
  obtain ⟨a1, w1, hv1, hr1, hd1⟩ := rd_slice Dv.enc DvD Try.underlying46 (by intro a; rw [Dv.enc_len]; kernel_rfl) r1 (fun m cs' x' hm h' => rd_Dv m cs' x' h')
  obtain rfl : v1 = w1 := by simpa using hv1
  have q1 : RLl (env0 W).view [v1] [_] := .cons hr1 .nil
  refine ⟨Dm.mk a0 a1, ?_, ?_⟩
  · rw [Dm.enc_cells]
    exact (RLl.app q0 q1)
  · rw [hx]
    have e : ds = [.lit (.int .i64 a0), d1] := by
      match ds, hdl with
      | [e0, e1], _ =>
        simp at g0 g1
        rw [g0, g1]
    rw [e]
    exact ⟨_, rfl, hd1⟩
theorem Dm_weights {t : Dm} {d : DataW H} (h : DmD t d) (hw : (d.weights Try.prog 48).all (· ≤ reachBytes) = true) : t.W := by
  have hb : reachBytes = 140737488351232 := rfl
  have hfl : ∀ (c : DataW H), True := fun _ => trivial
  obtain ⟨d1, rfl, k1⟩ := h
  simp only [DataW.weights, Try.underlying48, DataW.weightsEach, List.map_cons, List.map_nil, List.nil_append, List.append_nil, List.all_append, List.all_cons, List.all_nil, Bool.and_eq_true, Bool.and_true, decide_eq_true_eq] at hw
  have z1 := hw
  have m1 := sl_weights Try.underlying46 k1 z1
  exact ⟨(by
      have e : Try.prog.bytesOf 51 = 32 := by kernel_rfl
      have := m1.1; rw [e] at this; omega), (fun u hu => by
      obtain ⟨e, h1, h2⟩ := m1.2 u hu
      exact Dv_weights h1 h2)⟩
end
end Go.Abs
namespace Go.Abs
theorem strip (r : List (List Char)) : stripLifts liftWords ("cut".toList :: r) = ([], "cut".toList :: r) := by
  simp only [liftWords]
  repeat (rw [stripLifts, if_neg (by decide)])
  rfl
theorem mayEnter_of {P : Program} {r : List (List Char)} (h : behindMainWord (wordsSigns P.initOrder.toList) = "cut".toList :: r) (h1 : P.laysLater = false) (h2 : P.bearsReflect = false) (h3 : P.doorFits [] = true) : P.mayEnter = true := by
  unfold Program.mayEnter
  rw [h]
  simp only [strip, h1, h2, h3]
  rfl
theorem headLifts_of {P : Program} {r : List (List Char)} (h : behindMainWord (wordsSigns P.initOrder.toList) = "cut".toList :: r) : P.headLifts = [] := by
  unfold Program.headLifts
  rw [h, strip]
  rfl
theorem liftsFinal_of {P : Program} {r : List (List Char)} (h : behindMainWord (wordsSigns P.initOrder.toList) = "cut".toList :: r) : P.liftsFinal = false := by
  unfold Program.liftsFinal
  rw [headLifts_of h, h]
  rfl
theorem make_of {P : Program} {r : List (List Char)} (h : behindMainWord (wordsSigns P.initOrder.toList) = "cut".toList :: r) : P.make = some .cut := by
  unfold Program.make
  rw [h]
  rfl
def sg (l : List Nat) : List Char := l.map Char.ofNat
theorem words_cons (c : Char) (r : List Char) (h : (c == Char.ofNat 32) = false) : wordsSigns (c :: r) = match wordsSigns r with | w :: ws => (c :: w) :: ws | [] => [[c]] := by
  rw [wordsSigns]
  · rfl
  · intro e
    subst e
    simp at h
theorem words_word : ∀ (w r : List Char), w.all (fun c => !(c == Char.ofNat 32)) = true → wordsSigns (w ++ Char.ofNat 32 :: r) = w :: wordsSigns r
  | [], r, _ => by rfl
  | c :: w, r, h => by
    simp only [List.all_cons, Bool.and_eq_true, Bool.not_eq_true'] at h
    rw [List.cons_append, words_cons c _ h.1, words_word w r h.2]
/-- The head of a cut: 'harness', a sum, 'cut'. -/
theorem behind_of {P : Program} {a b c r : List Char} (hio : P.initOrder = String.ofList (a ++ Char.ofNat 32 :: (b ++ Char.ofNat 32 :: (c ++ Char.ofNat 32 :: r)))) (ha : a.all (fun c => !(c == Char.ofNat 32)) = true) (hb : b.all (fun c => !(c == Char.ofNat 32)) = true) (hc : c.all (fun c => !(c == Char.ofNat 32)) = true)
    (h : ((a == "harness".toList || a == "ownmain".toList) && isSumSigns b) = true) (hc2 : c = "cut".toList) : behindMainWord (wordsSigns P.initOrder.toList) = "cut".toList :: wordsSigns r := by
  rw [hio, String.toList_ofList, words_word _ _ ha, words_word _ _ hb, words_word _ _ hc]
  simp only [behindMainWord]
  rw [if_pos h, hc2]
end Go.Abs
