/- Part 5 of a proof of the law FormatMatchesReference: Go data as trees, the walks of the functions that the law reaches, the plain laws. -/
import Derived.Test.YtgbbhabddjejcaaGDFormatMatchesReference
import Derived.JoinedOf
import Derived.KernelRfl
set_option linter.unusedVariables false
set_option linter.unusedSimpArgs false
namespace Go.Abs
/-! The chapter 'types': bindings, sizes, variables. -/
structure Bd where
  v : Int
  t : Ty
def Bd.enc (b : Bd) : PV := .agg [.int .i64 b.v, .int .i64 b.t.kind, .int .i64 b.t.id, .slice (b.t.args.map Ty.enc) .none]
theorem Bd.enc_len (b : Bd) : b.enc.cells.length = 4 := rfl
theorem Bd.bel (n : Nat) (b : Bd) : Bel n b.enc := .agg _ (by
  intro c hc
  simp at hc
  rcases hc with rfl | rfl | rfl | rfl
  · exact .int _ _
  · exact .int _ _
  · exact .int _ _
  · exact bel_slice_ty _ _)
theorem bel_Bd (n : Nat) (us : List Bd) : Bel n (.slice (us.map Bd.enc) .none) := .slice _ _ (fun e he c hc => by
  obtain ⟨b, _, rfl⟩ := List.mem_map.1 he
  have := Bd.bel n b
  unfold Bd.enc at this hc
  cases this with | agg _ h => exact h c hc) (by simp)
/-- Rules for bindings. -/
theorem BdS : (∀ b : Bd, b.enc.cells = [.int .i64 b.v, .int .i64 b.t.kind, .int .i64 b.t.id, .slice (b.t.args.map Ty.enc) .none]) ∧ (∀ b : Bd, b.enc.isJunk = false) ∧ (∀ b : Bd, b.enc.drop1 = b.enc) ∧ (∀ (b : Bd) (n : Nat), b.enc.fits ⟨true, 4, n⟩ = true) ∧
    (∀ (v : Int) (t : Ty), PV.agg [.int .i64 v, .int .i64 t.kind, .int .i64 t.id, .slice (t.args.map Ty.enc) .none] = (Bd.mk v t).enc) ∧ (∀ (v : Int) (t : Ty), (Bd.mk v t).v = v) ∧ (∀ (v : Int) (t : Ty), (Bd.mk v t).t = t) ∧ (∀ b : Bd, Bd.mk b.v b.t = b) ∧
    (∀ (v k i : Int), PV.agg [.int .i64 v, .int .i64 k, .int .i64 i, .slice [] .none] = (Bd.mk v (Ty.mk k i [])).enc) :=
  ⟨fun _ => rfl, fun _ => rfl, fun _ => rfl, fun _ _ => rfl, fun _ _ => rfl, fun _ _ => rfl, fun _ _ => rfl, fun _ => rfl, fun _ _ _ => rfl⟩

def subG (s : List Bd) (u : Ty) : Ty × Bool :=
  if (!decide (u.kind = 1)) = true then (u, false)
  else if decide (idxI (fun b : Bd => decide (b.v = u.id)) s < 0) = true then (u, false)
  else ((s.getD (idxI (fun b : Bd => decide (b.v = u.id)) s).toNat ⟨0, .mk 0 0 []⟩).t, true)

theorem sub_W {s : List Bd} (hs : ∀ b ∈ s, b.t.W) {t : Ty} (ht : t.W) : (mapT (subG s) t).W :=
  mapT_W (fun u hu => by
    unfold subG at hu ⊢
    split at hu
    · cases hu
    · rename_i h1
      split at hu
      · cases hu
      · rename_i h2
        rw [if_neg h1, if_neg h2]
        simp only
        rw [List.getD_eq_getElem?_getD]
        cases hq : s[(idxI (fun b : Bd => decide (b.v = u.id)) s).toNat]? with
        | none => exact .mk (by simp) (by simp)
        | some a => exact hs a (List.mem_of_getElem? hq)) t ht

/-- Sizes and depths as 'measure' counts them. -/
def measL : List (Int → Int × Int) → Int → Int × Int → Int × Int
  | [], _, s => s
  | f :: fs, L, s => if decide (s.1 > L) = true then s else measL fs L (s.1 + (f (L - s.1)).1, max s.2 (f (L - s.1)).2)
def measT : Ty → Int → Int × Int
  | .mk _ _ us, L => ((measL (us.map fun u L => measT u L) L (1, 0)).1, (measL (us.map fun u L => measT u L) L (1, 0)).2 + 1)
theorem measT_eq (t : Ty) (L : Int) : measT t L = ((measL (t.args.map measT) L (1, 0)).1, (measL (t.args.map measT) L (1, 0)).2 + 1) := by
  cases t; rw [measT]; rfl
theorem measL_bd : ∀ (fs : List (Int → Int × Int)) (L : Int) (s : Int × Int), 0 ≤ L → (∀ f ∈ fs, ∀ M, 0 ≤ M → M < L → 1 ≤ (f M).1 ∧ (f M).1 ≤ M + 1 ∧ 1 ≤ (f M).2 ∧ (f M).2 ≤ M + 1) → 1 ≤ s.1 → s.1 ≤ L + 1 → 0 ≤ s.2 → s.2 ≤ L →
    1 ≤ (measL fs L s).1 ∧ (measL fs L s).1 ≤ L + 1 ∧ 0 ≤ (measL fs L s).2 ∧ (measL fs L s).2 ≤ L
  | [], L, s, hL, _, h1, h2, h3, h4 => ⟨h1, h2, h3, h4⟩
  | f :: fs, L, s, hL, hf, h1, h2, h3, h4 => by
    unfold measL
    split
    · exact ⟨h1, h2, h3, h4⟩
    · rename_i hs
      have hs' : s.1 ≤ L := by have : ¬ s.1 > L := fun q => hs (decide_eq_true q); omega
      obtain ⟨q1, q2, q3, q4⟩ := hf f (List.mem_cons_self ..) (L - s.1) (by omega) (by omega)
      exact measL_bd fs L _ hL (fun g hg => hf g (List.mem_cons_of_mem _ hg)) (by simp only; omega) (by simp only; omega) (by simp only; omega) (by simp only; omega)
theorem measT_bd : ∀ (t : Ty) (L : Int), 0 ≤ L → 1 ≤ (measT t L).1 ∧ (measT t L).1 ≤ L + 1 ∧ 1 ≤ (measT t L).2 ∧ (measT t L).2 ≤ L + 1
  | .mk k i us, L, hL => by
    have := measL_bd (us.map fun u L => measT u L) L (1, 0) hL (fun f hf M h0 _ => by
      obtain ⟨u, hu, rfl⟩ := List.mem_map.1 hf
      exact measT_bd u M h0) (by simp) (by simp; omega) (by simp) (by simp; omega)
    rw [measT]
    simp only
    omega

def nwf (t : Ty) : Bool :=
  if decide (t.kind = 0) || decide (t.kind = 3) || decide (t.kind = 4) || decide (t.kind = 5) || decide (t.kind = 6) then decide (t.id = 0) && decide ((t.args.length : Int) = 0)
  else if decide (t.kind = 1) || decide (t.kind = 2) then decide (t.id ≥ 0) && decide ((t.args.length : Int) = 0)
  else if decide (t.kind = 7) then decide (t.id ≥ 0)
  else if decide (t.kind = 8) then (decide (t.id = 0) || decide (t.id = 1)) && decide ((t.args.length : Int) = 1)
  else if decide (t.kind = 9) then decide (t.id = 0) && decide ((t.args.length : Int) > 0)
  else if decide (t.kind = 10) then decide (t.id ≥ 0) && decide ((t.args.length : Int) = 1)
  else false
def wfT : Ty → Bool
  | .mk k i us => nwf (.mk k i us) && !((us.map fun u => wfT u).any (fun b => !b))
theorem wfT_eq (t : Ty) : wfT t = (nwf t && !(t.args.any fun u => !wfT u)) := by
  cases t; rw [wfT, List.any_map]; rfl
/-- What Validate answers. -/
def valT (t : Ty) : Int := if (decide ((measT t 100).1 > 100) || decide ((measT t 100).2 > 12)) = true then 2 else if (!wfT t) = true then 3 else 0

/-- The free variables, in order of first occurrence. -/
def afvL : List (List Int → List Int) → List Int → List Int
  | [], vs => vs
  | f :: fs, vs => afvL fs (f vs)
def afv : Ty → List Int → List Int
  | .mk k i us, vs => afvL (us.map fun u vs => afv u vs) (if (decide (k = 1) && !vs.any (fun x => decide (i = x))) = true then vs ++ [i] else vs)
theorem afv_eq (t : Ty) (vs : List Int) : afv t vs = afvL (t.args.map afv) (if (decide (t.kind = 1) && !vs.any (fun x => decide (t.id = x))) = true then vs ++ [t.id] else vs) := by
  cases t; rw [afv]; rfl
theorem afv_len : ∀ (t : Ty) (vs : List Int), vs.length ≤ (afv t vs).length ∧ (afv t vs).length ≤ vs.length + t.size
  | .mk k i us, vs => by
    have key : ∀ (us : List Ty), (∀ u ∈ us, ∀ vs : List Int, vs.length ≤ (afv u vs).length ∧ (afv u vs).length ≤ vs.length + u.size) → ∀ vs : List Int, vs.length ≤ (afvL (us.map fun u vs => afv u vs) vs).length ∧ (afvL (us.map fun u vs => afv u vs) vs).length ≤ vs.length + Ty.sizes us := by
      intro us
      induction us with
      | nil => intro _ vs; simp [afvL, Ty.sizes]
      | cons u us ih =>
        intro h vs
        have h1 := h u (List.mem_cons_self ..) vs
        have h2 := ih (fun u hu => h u (List.mem_cons_of_mem _ hu)) (afv u vs)
        simp only [List.map_cons, afvL, Ty.sizes]
        omega
    rw [afv]
    have := key us (fun u hu vs => afv_len u vs) (if (decide (k = 1) && !vs.any (fun x => decide (i = x))) = true then vs ++ [i] else vs)
    have hs : (Ty.mk k i us).size = 1 + Ty.sizes us := by simp [Ty.size]
    rw [hs]
    split at this
    · rename_i hq; rw [if_pos hq]; simp at this ⊢; omega
    · rename_i hq; rw [if_neg hq]; omega
end Go.Abs
namespace Go.Abs
theorem measL_nil (L : Int) (s : Int × Int) : measL [] L s = s := rfl
theorem measL_cons (f : Int → Int × Int) (fs : List (Int → Int × Int)) (L : Int) (s : Int × Int) : measL (f :: fs) L s = if decide (s.1 > L) = true then s else measL fs L (s.1 + (f (L - s.1)).1, max s.2 (f (L - s.1)).2) := rfl
theorem afvL_nil (vs : List Int) : afvL [] vs = vs := rfl
theorem afvL_cons (f : List Int → List Int) (fs : List (List Int → List Int)) (vs : List Int) : afvL (f :: fs) vs = afvL fs (f vs) := rfl
end Go.Abs
namespace Go.Abs
/-! Reading bindings. -/
def BdD {H : Type} (b : Bd) (d : DataW H) : Prop := ∃ d1, d = .agg [.lit (.int .i64 b.v), d1] ∧ TyD b.t d1
structure BdAt (P : Program) (B T : TypeId) : Prop where
  st : ∃ f0 f1 : Field, P.underlying B = some (.struct #[f0, f1]) ∧ P.underlying f0.type = some (.int .i64) ∧ f1.type = T ∧ f0.offset = 0 ∧ f1.offset = 1 ∧ P.cellsOf f0.type = 1
  c : P.cellsOf B = 4
section
variable {H : Type} {enc : TypeId × Value → H} {P : Program} {W : World} {spare : Nat → Bool} {held : Bool} {B T S : TypeId}
theorem rd_bd (F : TyAt P T S) (G : BdAt P B T) (fuel : Nat) (cs : List Value) (x : DataW H × List MemPlace) (h : DataW.trod enc P W 0 spare held fuel B cs = some x) : ∃ b : Bd, RLl (env0 W).view cs b.enc.cells ∧ BdD b x.1 := by
  obtain ⟨f0, f1, hst, u0, e1, o0, o1, c0⟩ := G.st
  obtain ⟨ds, n, rfl, hx, hlen, hdl, hf⟩ := rd_fields hst h
  rw [G.c] at hlen
  match cs, hlen with
  | [v0, v1, v2, v3], _ =>
  obtain ⟨d0, p0, g0, r0⟩ := hf 0 f0 rfl
  obtain ⟨d1, p1, g1, r1⟩ := hf 1 f1 rfl
  rw [o0, c0] at r0
  rw [o1, e1, F.c] at r1
  obtain ⟨k, q0, rfl, w0, _⟩ := rd_int u0 r0
  obtain ⟨t, q1, w1⟩ := rd_ty F _ _ _ r1
  refine ⟨⟨k, t⟩, ?_, d1, ?_, w1⟩
  · have := RLl.app q0 q1
    rw [Ty.enc_cells] at this
    exact this
  · rw [hx]
    match ds, hdl with
    | [a, b], _ =>
      simp at g0 g1
      rw [g0, g1]
theorem bd_weights (F : TyAt P T S) (G : BdAt P B T) {b : Bd} {d : DataW H} (h : BdD b d) (hw : (d.weights P B).all (· ≤ reachBytes) = true) : b.t.W := by
  obtain ⟨d1, rfl, h1⟩ := h
  obtain ⟨f0, f1, hst, u0, e1, _⟩ := G.st
  simp only [DataW.weights, hst, DataW.weightsEach, List.map_cons, List.map_nil, e1, List.nil_append, List.append_nil] at hw
  exact ty_weights F h1 hw
end
end Go.Abs
set_option maxRecDepth 4000
namespace Go.Abs
open Go.Proofs
theorem tyAt : TyAt Try.prog 29 27 := ⟨⟨_, _, _, Try.underlying29, Try.underlying3, Try.underlying3, rfl, rfl, rfl, rfl, by kernel_rfl, by kernel_rfl⟩, Try.underlying27, by kernel_rfl, by kernel_rfl, by kernel_rfl⟩
theorem rd_Ty {H : Type} {enc : TypeId × Value → H} {W : World} {spare : Nat → Bool} {held : Bool} (fuel : Nat) (cs : List Value) (x : DataW H × List MemPlace) (h : DataW.trod enc Try.prog W 0 spare held fuel 29 cs = some x) : ∃ t : Ty, RLl (env0 W).view cs t.enc.cells ∧ TyD t x.1 := rd_ty tyAt fuel cs x h
def SyD {H : Type} (t : Sy) (d : DataW H) : Prop := d = .agg [.lit (.int .i64 t.kind), .lit (.int .i64 t.mod), .lit (.int .i64 t.st), .lit (.int .i64 t.par), .lit (.string t.name), .lit (.bool t.pub)] ∧ t.name.length ≤ maxLen
section
variable {H : Type} {enc : TypeId × Value → H} {W : World} {spare : Nat → Bool} {held : Bool}
theorem rd_Sy (fuel : Nat) (cs : List Value) (x : DataW H × List MemPlace) (h : DataW.trod enc Try.prog W 0 spare held fuel 34 cs = some x) : ∃ t : Sy, RLl (env0 W).view cs t.enc.cells ∧ SyD t x.1 := by
  obtain ⟨ds, n, rfl, hx, hlen, hdl, hf⟩ := rd_fields Try.underlying34 h
  rw [show Try.prog.cellsOf 34 = 6 from by kernel_rfl] at hlen
  match cs, hlen with
  | [v0, v1, v2, v3, v4, v5], _ =>
  obtain ⟨d0, p0, g0, r0⟩ := hf 0 _ rfl
  have r0 : DataW.trod enc Try.prog W 0 spare held n 3 [v0] = some (d0, p0) := by
    have e : Try.prog.cellsOf 3 = 1 := by kernel_rfl
    have r0 : DataW.trod enc Try.prog W 0 spare held n 3 (List.take (Try.prog.cellsOf 3) (List.drop 0 [v0, v1, v2, v3, v4, v5])) = some (d0, p0) := r0
    rw [e] at r0
    exact r0
  obtain ⟨a0, q0, rfl, _, _⟩ := rd_int Try.underlying3 r0
  obtain ⟨d1, p1, g1, r1⟩ := hf 1 _ rfl
  have r1 : DataW.trod enc Try.prog W 0 spare held n 3 [v1] = some (d1, p1) := by
    have e : Try.prog.cellsOf 3 = 1 := by kernel_rfl
    have r1 : DataW.trod enc Try.prog W 0 spare held n 3 (List.take (Try.prog.cellsOf 3) (List.drop 1 [v0, v1, v2, v3, v4, v5])) = some (d1, p1) := r1
    rw [e] at r1
    exact r1
  obtain ⟨a1, q1, rfl, _, _⟩ := rd_int Try.underlying3 r1
  obtain ⟨d2, p2, g2, r2⟩ := hf 2 _ rfl
  have r2 : DataW.trod enc Try.prog W 0 spare held n 3 [v2] = some (d2, p2) := by
    have e : Try.prog.cellsOf 3 = 1 := by kernel_rfl
    have r2 : DataW.trod enc Try.prog W 0 spare held n 3 (List.take (Try.prog.cellsOf 3) (List.drop 2 [v0, v1, v2, v3, v4, v5])) = some (d2, p2) := r2
    rw [e] at r2
    exact r2
  obtain ⟨a2, q2, rfl, _, _⟩ := rd_int Try.underlying3 r2
  obtain ⟨d3, p3, g3, r3⟩ := hf 3 _ rfl
  have r3 : DataW.trod enc Try.prog W 0 spare held n 3 [v3] = some (d3, p3) := by
    have e : Try.prog.cellsOf 3 = 1 := by kernel_rfl
    have r3 : DataW.trod enc Try.prog W 0 spare held n 3 (List.take (Try.prog.cellsOf 3) (List.drop 3 [v0, v1, v2, v3, v4, v5])) = some (d3, p3) := r3
    rw [e] at r3
    exact r3
  obtain ⟨a3, q3, rfl, _, _⟩ := rd_int Try.underlying3 r3
  obtain ⟨d4, p4, g4, r4⟩ := hf 4 _ rfl
  have r4 : DataW.trod enc Try.prog W 0 spare held n 9 [v4] = some (d4, p4) := by
    have e : Try.prog.cellsOf 9 = 1 := by kernel_rfl
    have r4 : DataW.trod enc Try.prog W 0 spare held n 9 (List.take (Try.prog.cellsOf 9) (List.drop 4 [v0, v1, v2, v3, v4, v5])) = some (d4, p4) := r4
    rw [e] at r4
    exact r4
  obtain ⟨a4, q4, rfl, l4⟩ := rd_string Try.underlying9 r4
  obtain ⟨d5, p5, g5, r5⟩ := hf 5 _ rfl
  have r5 : DataW.trod enc Try.prog W 0 spare held n 4 [v5] = some (d5, p5) := by
    have e : Try.prog.cellsOf 4 = 1 := by kernel_rfl
    have r5 : DataW.trod enc Try.prog W 0 spare held n 4 (List.take (Try.prog.cellsOf 4) (List.drop 5 [v0, v1, v2, v3, v4, v5])) = some (d5, p5) := r5
    rw [e] at r5
    exact r5
  obtain ⟨a5, q5, rfl⟩ := rd_bool Try.underlying4 r5
  refine ⟨Sy.mk a0 a1 a2 a3 a4 a5, ?_, ?_⟩
  · rw [Sy.enc_cells]
    exact (RLl.app q0 (RLl.app q1 (RLl.app q2 (RLl.app q3 (RLl.app q4 q5)))))
  · rw [hx]
    have e : ds = [.lit (.int .i64 a0), .lit (.int .i64 a1), .lit (.int .i64 a2), .lit (.int .i64 a3), .lit (.string a4), .lit (.bool a5)] := by
      match ds, hdl with
      | [e0, e1, e2, e3, e4, e5], _ =>
        simp at g0 g1 g2 g3 g4 g5
        rw [g0, g1, g2, g3, g4, g5]
    rw [e]
    exact ⟨rfl, l4⟩
theorem Sy_weights {t : Sy} {d : DataW H} (h : SyD t d) (hw : (d.weights Try.prog 34).all (· ≤ reachBytes) = true) : t.W := by
  have hb : reachBytes = 140737488351232 := rfl
  have hfl : ∀ (c : DataW H), True := fun _ => trivial
  obtain ⟨rfl, k4⟩ := h
  simp only [DataW.weights, Try.underlying34, DataW.weightsEach, List.map_cons, List.map_nil, List.nil_append, List.append_nil, List.all_append, List.all_cons, List.all_nil, Bool.and_eq_true, Bool.and_true, decide_eq_true_eq] at hw
  have s4 := hw
  unfold Sy.W
  exact (by have := s4; simp only [hb] at this; omega)
end
def RfD {H : Type} (t : Rf) (d : DataW H) : Prop := d = .agg [.lit (.int .i64 t.mod), .lit (.int .i64 t.st), .lit (.int .i64 t.sym)]
section
variable {H : Type} {enc : TypeId × Value → H} {W : World} {spare : Nat → Bool} {held : Bool}
theorem rd_Rf (fuel : Nat) (cs : List Value) (x : DataW H × List MemPlace) (h : DataW.trod enc Try.prog W 0 spare held fuel 72 cs = some x) : ∃ t : Rf, RLl (env0 W).view cs t.enc.cells ∧ RfD t x.1 := by
  obtain ⟨ds, n, rfl, hx, hlen, hdl, hf⟩ := rd_fields Try.underlying72 h
  rw [show Try.prog.cellsOf 72 = 3 from by kernel_rfl] at hlen
  match cs, hlen with
  | [v0, v1, v2], _ =>
  obtain ⟨d0, p0, g0, r0⟩ := hf 0 _ rfl
  have r0 : DataW.trod enc Try.prog W 0 spare held n 3 [v0] = some (d0, p0) := by
    have e : Try.prog.cellsOf 3 = 1 := by kernel_rfl
    have r0 : DataW.trod enc Try.prog W 0 spare held n 3 (List.take (Try.prog.cellsOf 3) (List.drop 0 [v0, v1, v2])) = some (d0, p0) := r0
    rw [e] at r0
    exact r0
  obtain ⟨a0, q0, rfl, _, _⟩ := rd_int Try.underlying3 r0
  obtain ⟨d1, p1, g1, r1⟩ := hf 1 _ rfl
  have r1 : DataW.trod enc Try.prog W 0 spare held n 3 [v1] = some (d1, p1) := by
    have e : Try.prog.cellsOf 3 = 1 := by kernel_rfl
    have r1 : DataW.trod enc Try.prog W 0 spare held n 3 (List.take (Try.prog.cellsOf 3) (List.drop 1 [v0, v1, v2])) = some (d1, p1) := r1
    rw [e] at r1
    exact r1
  obtain ⟨a1, q1, rfl, _, _⟩ := rd_int Try.underlying3 r1
  obtain ⟨d2, p2, g2, r2⟩ := hf 2 _ rfl
  have r2 : DataW.trod enc Try.prog W 0 spare held n 3 [v2] = some (d2, p2) := by
    have e : Try.prog.cellsOf 3 = 1 := by kernel_rfl
    have r2 : DataW.trod enc Try.prog W 0 spare held n 3 (List.take (Try.prog.cellsOf 3) (List.drop 2 [v0, v1, v2])) = some (d2, p2) := r2
    rw [e] at r2
    exact r2
  obtain ⟨a2, q2, rfl, _, _⟩ := rd_int Try.underlying3 r2
  refine ⟨Rf.mk a0 a1 a2, ?_, ?_⟩
  · rw [Rf.enc_cells]
    exact (RLl.app q0 (RLl.app q1 q2))
  · rw [hx]
    have e : ds = [.lit (.int .i64 a0), .lit (.int .i64 a1), .lit (.int .i64 a2)] := by
      match ds, hdl with
      | [e0, e1, e2], _ =>
        simp at g0 g1 g2
        rw [g0, g1, g2]
    subst e
    rfl
theorem Rf_weights {t : Rf} {d : DataW H} (h : RfD t d) (hw : (d.weights Try.prog 72).all (· ≤ reachBytes) = true) : t.W := by
  have hb : reachBytes = 140737488351232 := rfl
  have hfl : ∀ (c : DataW H), True := fun _ => trivial
  obtain ⟨rfl⟩ := h
  simp only [DataW.weights, Try.underlying72, DataW.weightsEach, List.map_cons, List.map_nil, List.nil_append, List.append_nil, List.all_append, List.all_cons, List.all_nil, Bool.and_eq_true, Bool.and_true, decide_eq_true_eq] at hw
  trivial
end
def DgD {H : Type} (t : Dg) (d : DataW H) : Prop := d = .agg [.lit (.int .i64 t.code), .lit (.int .i64 t.mod), .lit (.int .i64 t.st), .lit (.int .i64 t.en), .lit (.string t.name)] ∧ t.name.length ≤ maxLen
section
variable {H : Type} {enc : TypeId × Value → H} {W : World} {spare : Nat → Bool} {held : Bool}
theorem rd_Dg (fuel : Nat) (cs : List Value) (x : DataW H × List MemPlace) (h : DataW.trod enc Try.prog W 0 spare held fuel 74 cs = some x) : ∃ t : Dg, RLl (env0 W).view cs t.enc.cells ∧ DgD t x.1 := by
  obtain ⟨ds, n, rfl, hx, hlen, hdl, hf⟩ := rd_fields Try.underlying74 h
  rw [show Try.prog.cellsOf 74 = 5 from by kernel_rfl] at hlen
  match cs, hlen with
  | [v0, v1, v2, v3, v4], _ =>
  obtain ⟨d0, p0, g0, r0⟩ := hf 0 _ rfl
  have r0 : DataW.trod enc Try.prog W 0 spare held n 3 [v0] = some (d0, p0) := by
    have e : Try.prog.cellsOf 3 = 1 := by kernel_rfl
    have r0 : DataW.trod enc Try.prog W 0 spare held n 3 (List.take (Try.prog.cellsOf 3) (List.drop 0 [v0, v1, v2, v3, v4])) = some (d0, p0) := r0
    rw [e] at r0
    exact r0
  obtain ⟨a0, q0, rfl, _, _⟩ := rd_int Try.underlying3 r0
  obtain ⟨d1, p1, g1, r1⟩ := hf 1 _ rfl
  have r1 : DataW.trod enc Try.prog W 0 spare held n 3 [v1] = some (d1, p1) := by
    have e : Try.prog.cellsOf 3 = 1 := by kernel_rfl
    have r1 : DataW.trod enc Try.prog W 0 spare held n 3 (List.take (Try.prog.cellsOf 3) (List.drop 1 [v0, v1, v2, v3, v4])) = some (d1, p1) := r1
    rw [e] at r1
    exact r1
  obtain ⟨a1, q1, rfl, _, _⟩ := rd_int Try.underlying3 r1
  obtain ⟨d2, p2, g2, r2⟩ := hf 2 _ rfl
  have r2 : DataW.trod enc Try.prog W 0 spare held n 3 [v2] = some (d2, p2) := by
    have e : Try.prog.cellsOf 3 = 1 := by kernel_rfl
    have r2 : DataW.trod enc Try.prog W 0 spare held n 3 (List.take (Try.prog.cellsOf 3) (List.drop 2 [v0, v1, v2, v3, v4])) = some (d2, p2) := r2
    rw [e] at r2
    exact r2
  obtain ⟨a2, q2, rfl, _, _⟩ := rd_int Try.underlying3 r2
  obtain ⟨d3, p3, g3, r3⟩ := hf 3 _ rfl
  have r3 : DataW.trod enc Try.prog W 0 spare held n 3 [v3] = some (d3, p3) := by
    have e : Try.prog.cellsOf 3 = 1 := by kernel_rfl
    have r3 : DataW.trod enc Try.prog W 0 spare held n 3 (List.take (Try.prog.cellsOf 3) (List.drop 3 [v0, v1, v2, v3, v4])) = some (d3, p3) := r3
    rw [e] at r3
    exact r3
  obtain ⟨a3, q3, rfl, _, _⟩ := rd_int Try.underlying3 r3
  obtain ⟨d4, p4, g4, r4⟩ := hf 4 _ rfl
  have r4 : DataW.trod enc Try.prog W 0 spare held n 9 [v4] = some (d4, p4) := by
    have e : Try.prog.cellsOf 9 = 1 := by kernel_rfl
    have r4 : DataW.trod enc Try.prog W 0 spare held n 9 (List.take (Try.prog.cellsOf 9) (List.drop 4 [v0, v1, v2, v3, v4])) = some (d4, p4) := r4
    rw [e] at r4
    exact r4
  obtain ⟨a4, q4, rfl, l4⟩ := rd_string Try.underlying9 r4
  refine ⟨Dg.mk a0 a1 a2 a3 a4, ?_, ?_⟩
  · rw [Dg.enc_cells]
    exact (RLl.app q0 (RLl.app q1 (RLl.app q2 (RLl.app q3 q4))))
  · rw [hx]
    have e : ds = [.lit (.int .i64 a0), .lit (.int .i64 a1), .lit (.int .i64 a2), .lit (.int .i64 a3), .lit (.string a4)] := by
      match ds, hdl with
      | [e0, e1, e2, e3, e4], _ =>
        simp at g0 g1 g2 g3 g4
        rw [g0, g1, g2, g3, g4]
    rw [e]
    exact ⟨rfl, l4⟩
theorem Dg_weights {t : Dg} {d : DataW H} (h : DgD t d) (hw : (d.weights Try.prog 74).all (· ≤ reachBytes) = true) : t.W := by
  have hb : reachBytes = 140737488351232 := rfl
  have hfl : ∀ (c : DataW H), True := fun _ => trivial
  obtain ⟨rfl, k4⟩ := h
  simp only [DataW.weights, Try.underlying74, DataW.weightsEach, List.map_cons, List.map_nil, List.nil_append, List.append_nil, List.all_append, List.all_cons, List.all_nil, Bool.and_eq_true, Bool.and_true, decide_eq_true_eq] at hw
  have s4 := hw
  unfold Dg.W
  exact (by have := s4; simp only [hb] at this; omega)
end
def RsD {H : Type} (t : Rs) (d : DataW H) : Prop := ∃ d0 d1 d2, d = .agg [d0, d1, d2] ∧ SlD SyD t.syms d0 ∧ SlD RfD t.refs d1 ∧ SlD DgD t.dgs d2
section
variable {H : Type} {enc : TypeId × Value → H} {W : World} {spare : Nat → Bool} {held : Bool}
theorem rd_Rs (fuel : Nat) (cs : List Value) (x : DataW H × List MemPlace) (h : DataW.trod enc Try.prog W 0 spare held fuel 26 cs = some x) : ∃ t : Rs, RLl (env0 W).view cs t.enc.cells ∧ RsD t x.1 := by
  obtain ⟨ds, n, rfl, hx, hlen, hdl, hf⟩ := rd_fields Try.underlying26 h
  rw [show Try.prog.cellsOf 26 = 3 from by kernel_rfl] at hlen
  match cs, hlen with
  | [v0, v1, v2], _ =>
  obtain ⟨d0, p0, g0, r0⟩ := hf 0 _ rfl
  have r0 : DataW.trod enc Try.prog W 0 spare held n 22 [v0] = some (d0, p0) := by
    have e : Try.prog.cellsOf 22 = 1 := by kernel_rfl
    have r0 : DataW.trod enc Try.prog W 0 spare held n 22 (List.take (Try.prog.cellsOf 22) (List.drop 0 [v0, v1, v2])) = some (d0, p0) := r0
    rw [e] at r0
    exact r0
  obtain ⟨a0, w0, hv0, hr0, hd0⟩ := rd_slice Sy.enc SyD Try.underlying22 (by intro a; rw [Sy.enc_len]; kernel_rfl) r0 (fun m cs' x' hm h' => rd_Sy m cs' x' h')
  obtain rfl : v0 = w0 := by simpa using hv0
  have q0 : RLl (env0 W).view [v0] [_] := .cons hr0 .nil
  obtain ⟨d1, p1, g1, r1⟩ := hf 1 _ rfl
  have r1 : DataW.trod enc Try.prog W 0 spare held n 23 [v1] = some (d1, p1) := by
    have e : Try.prog.cellsOf 23 = 1 := by kernel_rfl
    have r1 : DataW.trod enc Try.prog W 0 spare held n 23 (List.take (Try.prog.cellsOf 23) (List.drop 1 [v0, v1, v2])) = some (d1, p1) := r1
    rw [e] at r1
    exact r1
  obtain ⟨a1, w1, hv1, hr1, hd1⟩ := rd_slice Rf.enc RfD Try.underlying23 (by intro a; rw [Rf.enc_len]; kernel_rfl) r1 (fun m cs' x' hm h' => rd_Rf m cs' x' h')
  obtain rfl : v1 = w1 := by simpa using hv1
  have q1 : RLl (env0 W).view [v1] [_] := .cons hr1 .nil
  obtain ⟨d2, p2, g2, r2⟩ := hf 2 _ rfl
  have r2 : DataW.trod enc Try.prog W 0 spare held n 24 [v2] = some (d2, p2) := by
    have e : Try.prog.cellsOf 24 = 1 := by kernel_rfl
    have r2 : DataW.trod enc Try.prog W 0 spare held n 24 (List.take (Try.prog.cellsOf 24) (List.drop 2 [v0, v1, v2])) = some (d2, p2) := r2
    rw [e] at r2
    exact r2
  obtain ⟨a2, w2, hv2, hr2, hd2⟩ := rd_slice Dg.enc DgD Try.underlying24 (by intro a; rw [Dg.enc_len]; kernel_rfl) r2 (fun m cs' x' hm h' => rd_Dg m cs' x' h')
  obtain rfl : v2 = w2 := by simpa using hv2
  have q2 : RLl (env0 W).view [v2] [_] := .cons hr2 .nil
  refine ⟨Rs.mk a0 a1 a2, ?_, ?_⟩
  · rw [Rs.enc_cells]
    exact (RLl.app q0 (RLl.app q1 q2))
  · rw [hx]
    have e : ds = [d0, d1, d2] := by
      match ds, hdl with
      | [e0, e1, e2], _ =>
        simp at g0 g1 g2
        rw [g0, g1, g2]
    rw [e]
    exact ⟨_, _, _, rfl, hd0, hd1, hd2⟩
theorem Rs_weights {t : Rs} {d : DataW H} (h : RsD t d) (hw : (d.weights Try.prog 26).all (· ≤ reachBytes) = true) : t.W := by
  have hb : reachBytes = 140737488351232 := rfl
  have hfl : ∀ (c : DataW H), True := fun _ => trivial
  obtain ⟨d0, d1, d2, rfl, k0, k1, k2⟩ := h
  simp only [DataW.weights, Try.underlying26, DataW.weightsEach, List.map_cons, List.map_nil, List.nil_append, List.append_nil, List.all_append, List.all_cons, List.all_nil, Bool.and_eq_true, Bool.and_true, decide_eq_true_eq] at hw
  obtain ⟨z0, z1, z2⟩ := hw
  have m0 := sl_weights Try.underlying22 k0 z0
  have m1 := sl_weights Try.underlying23 k1 z1
  have m2 := sl_weights Try.underlying24 k2 z2
  exact ⟨(by
      have e : Try.prog.bytesOf 34 = 56 := by kernel_rfl
      have := m0.1; rw [e] at this; omega), (fun u hu => by
      obtain ⟨e, h1, h2⟩ := m0.2 u hu
      exact Sy_weights h1 h2), (by
      have e : Try.prog.bytesOf 72 = 24 := by kernel_rfl
      have := m1.1; rw [e] at this; omega), (fun u hu => by
      obtain ⟨e, h1, h2⟩ := m1.2 u hu
      exact Rf_weights h1 h2), (by
      have e : Try.prog.bytesOf 74 = 48 := by kernel_rfl
      have := m2.1; rw [e] at this; omega), (fun u hu => by
      obtain ⟨e, h1, h2⟩ := m2.2 u hu
      exact Dg_weights h1 h2)⟩
end
end Go.Abs
namespace Go.Proofs.Ytgbbhabddjejcaa.bulks
open Go.Abs
theorem sum_mem' {l : List Sy} {s : Sy} (h : s ∈ l) : s.name.length ≤ (l.map fun s => s.name.length).sum := by
  induction l with
  | nil => cases h
  | cons a l ih =>
    rw [List.map_cons, List.sum_cons]
    rcases List.mem_cons.1 h with rfl | h
    · omega
    · have := ih h; omega
theorem rs_b {H : Type} {r : Rs} {d : DataW H} (h : RsD r d) : r.syms.length ≤ Rows.uptoBulk d ∧ ∀ s ∈ r.syms, s.name.length ≤ Rows.uptoBulk d := by
  obtain ⟨d0, d1, d2, rfl, h0, _⟩ := h
  have h1 := sl_len h0
  have h2 := sl_sum h0 (fun s => s.name.length) (fun s e he => by
    obtain ⟨rfl, _⟩ := he
    simp only [Rows.uptoBulk, Rows.uptoBulkAll]; omega)
  simp only [Rows.uptoBulk, Rows.uptoBulkAll]
  refine ⟨by omega, fun s hs => ?_⟩
  have := sum_mem' hs
  omega
end Go.Proofs.Ytgbbhabddjejcaa.bulks
namespace Go.Abs
theorem strip (r : List (List Char)) : stripLifts liftWords ("cut".toList :: r) = ([], "cut".toList :: r) := by
  simp only [liftWords]
  repeat (rw [stripLifts, if_neg (by decide)])
  rfl
theorem mayEnter_of {P : Program} {r : List (List Char)} (h : behindMainWord (wordsSigns P.initOrder.toList) = "cut".toList :: r) (h1 : P.laysLater = false) (h2 : P.bearsReflect = false) (h3 : P.doorFits [] = true) : P.mayEnter = true := by
  unfold Program.mayEnter
  rw [h]
  simp only [strip, h1, h2, h3]
  rfl
theorem headLifts_of {P : Program} {r : List (List Char)} (h : behindMainWord (wordsSigns P.initOrder.toList) = "cut".toList :: r) : P.headLifts = [] := by
  unfold Program.headLifts
  rw [h, strip]
  rfl
theorem liftsFinal_of {P : Program} {r : List (List Char)} (h : behindMainWord (wordsSigns P.initOrder.toList) = "cut".toList :: r) : P.liftsFinal = false := by
  unfold Program.liftsFinal
  rw [headLifts_of h, h]
  rfl
theorem make_of {P : Program} {r : List (List Char)} (h : behindMainWord (wordsSigns P.initOrder.toList) = "cut".toList :: r) : P.make = some .cut := by
  unfold Program.make
  rw [h]
  rfl
def sg (l : List Nat) : List Char := l.map Char.ofNat
theorem words_cons (c : Char) (r : List Char) (h : (c == Char.ofNat 32) = false) : wordsSigns (c :: r) = match wordsSigns r with | w :: ws => (c :: w) :: ws | [] => [[c]] := by
  rw [wordsSigns]
  · rfl
  · intro e
    subst e
    simp at h
theorem words_word : ∀ (w r : List Char), w.all (fun c => !(c == Char.ofNat 32)) = true → wordsSigns (w ++ Char.ofNat 32 :: r) = w :: wordsSigns r
  | [], r, _ => by rfl
  | c :: w, r, h => by
    simp only [List.all_cons, Bool.and_eq_true, Bool.not_eq_true'] at h
    rw [List.cons_append, words_cons c _ h.1, words_word w r h.2]
/-- The head of a cut: 'harness', a sum, 'cut'. -/
theorem behind_of {P : Program} {a b c r : List Char} (hio : P.initOrder = String.ofList (a ++ Char.ofNat 32 :: (b ++ Char.ofNat 32 :: (c ++ Char.ofNat 32 :: r)))) (ha : a.all (fun c => !(c == Char.ofNat 32)) = true) (hb : b.all (fun c => !(c == Char.ofNat 32)) = true) (hc : c.all (fun c => !(c == Char.ofNat 32)) = true)
    (h : ((a == "harness".toList || a == "ownmain".toList) && isSumSigns b) = true) (hc2 : c = "cut".toList) : behindMainWord (wordsSigns P.initOrder.toList) = "cut".toList :: wordsSigns r := by
  rw [hio, String.toList_ofList, words_word _ _ ha, words_word _ _ hb, words_word _ _ hc]
  simp only [behindMainWord]
  rw [if_pos h, hc2]
end Go.Abs
