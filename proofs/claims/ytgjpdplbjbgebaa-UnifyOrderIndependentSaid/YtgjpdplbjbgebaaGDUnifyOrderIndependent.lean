/- Part 4 of a proof of the law UnifyOrderIndependent: Go data as trees, the walks of the functions that the law reaches, the plain laws. -/
import Derived.Test.YtgjpdplbjbgebaaGCUnifyOrderIndependent
import Derived.Test.YtgjpdplbjbgebaaProg
import Derived.KernelRfl
import Derived.ControlIn
set_option linter.unusedVariables false
set_option linter.unusedSimpArgs false
namespace Go.Abs
open Go.Proofs
theorem Tryti2 : tinfo Try.prog 2 = some ⟨false, 1, 8⟩ := by kernel_rfl
theorem Trytz2 : tzero Try.prog 2 = some (.int .i64 0) := by kernel_rfl
theorem Trytp2 : tptr Try.prog 2 = false := by kernel_rfl
theorem Trytk2 : tint Try.prog 2 = some .i64 := by kernel_rfl
theorem Tryti3 : tinfo Try.prog 3 = some ⟨false, 1, 8⟩ := by kernel_rfl
theorem Trytz3 : tzero Try.prog 3 = some (.int .i64 0) := by kernel_rfl
theorem Trytp3 : tptr Try.prog 3 = false := by kernel_rfl
theorem Trytk3 : tint Try.prog 3 = some .i64 := by kernel_rfl
theorem Tryti4 : tinfo Try.prog 4 = some ⟨false, 1, 1⟩ := by kernel_rfl
theorem Trytz4 : tzero Try.prog 4 = some (.bool false) := by kernel_rfl
theorem Trytp4 : tptr Try.prog 4 = false := by kernel_rfl
theorem Trytb4 : tbool Try.prog 4 = true := by kernel_rfl
theorem Tryti22 : tinfo Try.prog 22 = some ⟨false, 1, 24⟩ := by kernel_rfl
theorem Tryte22 : telem Try.prog 22 = some (31, ⟨true, 6, 80⟩) := by kernel_rfl
theorem Trytz22 : tzero Try.prog 22 = some (.slice [] .full) := by kernel_rfl
theorem Trytp22 : tptr Try.prog 22 = false := by kernel_rfl
theorem Tryti24 : tinfo Try.prog 24 = some ⟨false, 1, 24⟩ := by kernel_rfl
theorem Tryte24 : telem Try.prog 24 = some (42, ⟨true, 4, 48⟩) := by kernel_rfl
theorem Trytz24 : tzero Try.prog 24 = some (.slice [] .full) := by kernel_rfl
theorem Trytp24 : tptr Try.prog 24 = false := by kernel_rfl
theorem Tryti27 : tinfo Try.prog 27 = some ⟨false, 1, 24⟩ := by kernel_rfl
theorem Tryte27 : telem Try.prog 27 = some (29, ⟨true, 3, 40⟩) := by kernel_rfl
theorem Trytz27 : tzero Try.prog 27 = some (.slice [] .full) := by kernel_rfl
theorem Trytp27 : tptr Try.prog 27 = false := by kernel_rfl
theorem Tryti29 : tinfo Try.prog 29 = some ⟨true, 3, 40⟩ := by kernel_rfl
theorem Trytf29 : tflds Try.prog 29 = some [(0, ⟨false, 1, 8⟩), (1, ⟨false, 1, 8⟩), (2, ⟨false, 1, 24⟩)] := by kernel_rfl
theorem Trytz29 : tzero Try.prog 29 = some (.agg [.int .i64 0, .int .i64 0, .slice [] .full]) := by kernel_rfl
theorem Trytp29 : tptr Try.prog 29 = false := by kernel_rfl
theorem Tryti31 : tinfo Try.prog 31 = some ⟨true, 6, 80⟩ := by kernel_rfl
theorem Trytf31 : tflds Try.prog 31 = some [(0, ⟨true, 3, 40⟩), (3, ⟨true, 3, 40⟩)] := by kernel_rfl
theorem Trytz31 : tzero Try.prog 31 = some (.agg [.int .i64 0, .int .i64 0, .slice [] .full, .int .i64 0, .int .i64 0, .slice [] .full]) := by kernel_rfl
theorem Trytp31 : tptr Try.prog 31 = false := by kernel_rfl
theorem Tryti32 : tinfo Try.prog 32 = some ⟨false, 1, 8⟩ := by kernel_rfl
theorem Trytz32 : tzero Try.prog 32 = some (.int .i64 0) := by kernel_rfl
theorem Trytp32 : tptr Try.prog 32 = false := by kernel_rfl
theorem Trytk32 : tint Try.prog 32 = some .i64 := by kernel_rfl
theorem Tryti42 : tinfo Try.prog 42 = some ⟨true, 4, 48⟩ := by kernel_rfl
theorem Trytf42 : tflds Try.prog 42 = some [(0, ⟨false, 1, 8⟩), (1, ⟨true, 3, 40⟩)] := by kernel_rfl
theorem Trytz42 : tzero Try.prog 42 = some (.agg [.int .i64 0, .int .i64 0, .int .i64 0, .slice [] .full]) := by kernel_rfl
theorem Trytp42 : tptr Try.prog 42 = false := by kernel_rfl
theorem Tryti50 : tinfo Try.prog 50 = some ⟨false, 1, 24⟩ := by kernel_rfl
theorem Tryte50 : telem Try.prog 50 = some (3, ⟨false, 1, 8⟩) := by kernel_rfl
theorem Trytz50 : tzero Try.prog 50 = some (.slice [] .full) := by kernel_rfl
theorem Trytp50 : tptr Try.prog 50 = false := by kernel_rfl
theorem Tryti56 : tinfo Try.prog 56 = some ⟨false, 1, 8⟩ := by kernel_rfl
theorem Trytz56 : tzero Try.prog 56 = some (.nilp) := by kernel_rfl
theorem Trytp56 : tptr Try.prog 56 = true := by kernel_rfl
theorem Tryti58 : tinfo Try.prog 58 = some ⟨false, 1, 8⟩ := by kernel_rfl
theorem Trytz58 : tzero Try.prog 58 = some (.nilmap) := by kernel_rfl
theorem Trytp58 : tptr Try.prog 58 = false := by kernel_rfl
theorem Trytm58 : tmap Try.prog 58 = some 29 := by kernel_rfl
theorem Tryti60 : tinfo Try.prog 60 = some ⟨true, 2, 16⟩ := by kernel_rfl
theorem Trytf60 : tflds Try.prog 60 = some [(0, ⟨false, 1, 8⟩), (1, ⟨false, 1, 8⟩)] := by kernel_rfl
theorem Trytz60 : tzero Try.prog 60 = some (.agg [.nilmap, .int .i64 0]) := by kernel_rfl
theorem Trytp60 : tptr Try.prog 60 = false := by kernel_rfl
theorem Tryti80 : tinfo Try.prog 80 = some ⟨true, 2, 16⟩ := by kernel_rfl
theorem Trytf80 : tflds Try.prog 80 = some [(0, ⟨false, 1, 8⟩), (1, ⟨false, 1, 8⟩)] := by kernel_rfl
theorem Trytz80 : tzero Try.prog 80 = some (.agg [.int .i64 0, .int .i64 0]) := by kernel_rfl
theorem Trytp80 : tptr Try.prog 80 = false := by kernel_rfl
theorem Tryti82 : tinfo Try.prog 82 = some ⟨false, 1, 8⟩ := by kernel_rfl
theorem Trytz82 : tzero Try.prog 82 = some (.nilmap) := by kernel_rfl
theorem Trytp82 : tptr Try.prog 82 = false := by kernel_rfl
theorem Trytm82 : tmap Try.prog 82 = some 80 := by kernel_rfl
theorem Tryti107 : tinfo Try.prog 107 = some ⟨false, 1, 8⟩ := by kernel_rfl
theorem Trytz107 : tzero Try.prog 107 = some (.nilmap) := by kernel_rfl
theorem Trytp107 : tptr Try.prog 107 = false := by kernel_rfl
theorem Trytm107 : tmap Try.prog 107 = some 3 := by kernel_rfl
theorem Trygo9 : goFn Try.prog 9 = true := by kernel_rfl
theorem Trygo12 : goFn Try.prog 12 = true := by kernel_rfl
theorem Trygo13 : goFn Try.prog 13 = true := by kernel_rfl
theorem Trygo14 : goFn Try.prog 14 = true := by kernel_rfl
theorem Trygo15 : goFn Try.prog 15 = true := by kernel_rfl
theorem Trygo19 : goFn Try.prog 19 = true := by kernel_rfl
theorem Trygo21 : goFn Try.prog 21 = true := by kernel_rfl
theorem Trygo26 : goFn Try.prog 26 = true := by kernel_rfl
theorem Trygo30 : goFn Try.prog 30 = true := by kernel_rfl
theorem Trygo31 : goFn Try.prog 31 = true := by kernel_rfl
theorem Trygo32 : goFn Try.prog 32 = true := by kernel_rfl
theorem Trygo33 : goFn Try.prog 33 = true := by kernel_rfl
theorem Trygo34 : goFn Try.prog 34 = true := by kernel_rfl
theorem Trygo35 : goFn Try.prog 35 = true := by kernel_rfl
theorem Trygo36 : goFn Try.prog 36 = true := by kernel_rfl
theorem Trygo45 : goFn Try.prog 45 = true := by kernel_rfl
theorem Trygo46 : goFn Try.prog 46 = true := by kernel_rfl
theorem Trygo47 : goFn Try.prog 47 = true := by kernel_rfl
theorem Trygo48 : goFn Try.prog 48 = true := by kernel_rfl
theorem Trygo51 : goFn Try.prog 51 = true := by kernel_rfl
theorem Trygo52 : goFn Try.prog 52 = true := by kernel_rfl
theorem Trygo53 : goFn Try.prog 53 = true := by kernel_rfl
theorem Trygo54 : goFn Try.prog 54 = true := by kernel_rfl
theorem Trygo55 : goFn Try.prog 55 = true := by kernel_rfl
theorem Trygo56 : goFn Try.prog 56 = true := by kernel_rfl
theorem Trygo57 : goFn Try.prog 57 = true := by kernel_rfl
theorem Trygo59 : goFn Try.prog 59 = true := by kernel_rfl
theorem Trygo60 : goFn Try.prog 60 = true := by kernel_rfl
theorem Trygo61 : goFn Try.prog 61 = true := by kernel_rfl
theorem Trygo62 : goFn Try.prog 62 = true := by kernel_rfl
theorem Trygo63 : goFn Try.prog 63 = true := by kernel_rfl
theorem Trygo68 : goFn Try.prog 68 = true := by kernel_rfl
theorem Trygo69 : goFn Try.prog 69 = true := by kernel_rfl
theorem Trygo70 : goFn Try.prog 70 = true := by kernel_rfl
theorem Trygo71 : goFn Try.prog 71 = true := by kernel_rfl
theorem Trygo73 : goFn Try.prog 73 = true := by kernel_rfl
theorem Trygo84 : goFn Try.prog 84 = true := by kernel_rfl
theorem Trygo86 : goFn Try.prog 86 = true := by kernel_rfl
theorem Trygo92 : goFn Try.prog 92 = true := by kernel_rfl
theorem y2 : type_of% (And.intro @Tryti2 (And.intro @Trytz2 (And.intro @Trytp2 (@Trytk2)))) := And.intro @Tryti2 (And.intro @Trytz2 (And.intro @Trytp2 (@Trytk2)))
theorem y3 : type_of% (And.intro @Tryti3 (And.intro @Trytz3 (And.intro @Trytp3 (@Trytk3)))) := And.intro @Tryti3 (And.intro @Trytz3 (And.intro @Trytp3 (@Trytk3)))
theorem y4 : type_of% (And.intro @Tryti4 (And.intro @Trytz4 (And.intro @Trytp4 (@Trytb4)))) := And.intro @Tryti4 (And.intro @Trytz4 (And.intro @Trytp4 (@Trytb4)))
theorem y22 : type_of% (And.intro @Tryti22 (And.intro @Tryte22 (And.intro @Trytz22 (@Trytp22)))) := And.intro @Tryti22 (And.intro @Tryte22 (And.intro @Trytz22 (@Trytp22)))
theorem y24 : type_of% (And.intro @Tryti24 (And.intro @Tryte24 (And.intro @Trytz24 (@Trytp24)))) := And.intro @Tryti24 (And.intro @Tryte24 (And.intro @Trytz24 (@Trytp24)))
theorem y27 : type_of% (And.intro @Tryti27 (And.intro @Tryte27 (And.intro @Trytz27 (@Trytp27)))) := And.intro @Tryti27 (And.intro @Tryte27 (And.intro @Trytz27 (@Trytp27)))
theorem y29 : type_of% (And.intro @Tryti29 (And.intro @Trytf29 (And.intro @Trytz29 (@Trytp29)))) := And.intro @Tryti29 (And.intro @Trytf29 (And.intro @Trytz29 (@Trytp29)))
theorem y31 : type_of% (And.intro @Tryti31 (And.intro @Trytf31 (And.intro @Trytz31 (@Trytp31)))) := And.intro @Tryti31 (And.intro @Trytf31 (And.intro @Trytz31 (@Trytp31)))
theorem y32 : type_of% (And.intro @Tryti32 (And.intro @Trytz32 (And.intro @Trytp32 (@Trytk32)))) := And.intro @Tryti32 (And.intro @Trytz32 (And.intro @Trytp32 (@Trytk32)))
theorem y42 : type_of% (And.intro @Tryti42 (And.intro @Trytf42 (And.intro @Trytz42 (@Trytp42)))) := And.intro @Tryti42 (And.intro @Trytf42 (And.intro @Trytz42 (@Trytp42)))
theorem y50 : type_of% (And.intro @Tryti50 (And.intro @Tryte50 (And.intro @Trytz50 (@Trytp50)))) := And.intro @Tryti50 (And.intro @Tryte50 (And.intro @Trytz50 (@Trytp50)))
theorem y56 : type_of% (And.intro @Tryti56 (And.intro @Trytz56 (@Trytp56))) := And.intro @Tryti56 (And.intro @Trytz56 (@Trytp56))
theorem y58 : type_of% (And.intro @Tryti58 (And.intro @Trytz58 (And.intro @Trytp58 (@Trytm58)))) := And.intro @Tryti58 (And.intro @Trytz58 (And.intro @Trytp58 (@Trytm58)))
theorem y60 : type_of% (And.intro @Tryti60 (And.intro @Trytf60 (And.intro @Trytz60 (@Trytp60)))) := And.intro @Tryti60 (And.intro @Trytf60 (And.intro @Trytz60 (@Trytp60)))
theorem y80 : type_of% (And.intro @Tryti80 (And.intro @Trytf80 (And.intro @Trytz80 (@Trytp80)))) := And.intro @Tryti80 (And.intro @Trytf80 (And.intro @Trytz80 (@Trytp80)))
theorem y82 : type_of% (And.intro @Tryti82 (And.intro @Trytz82 (And.intro @Trytp82 (@Trytm82)))) := And.intro @Tryti82 (And.intro @Trytz82 (And.intro @Trytp82 (@Trytm82)))
theorem y107 : type_of% (And.intro @Tryti107 (And.intro @Trytz107 (And.intro @Trytp107 (@Trytm107)))) := And.intro @Tryti107 (And.intro @Trytz107 (And.intro @Trytp107 (@Trytm107)))
end Go.Abs
set_option maxRecDepth 4000
namespace Go.Abs
open Go.Proofs
theorem tyAt : TyAt Try.prog 29 27 := ⟨⟨_, _, _, Try.underlying29, Try.underlying3, Try.underlying3, rfl, rfl, rfl, rfl, by kernel_rfl, by kernel_rfl⟩, Try.underlying27, by kernel_rfl, by kernel_rfl, by kernel_rfl⟩
theorem rd_Ty {H : Type} {enc : TypeId × Value → H} {W : World} {spare : Nat → Bool} {held : Bool} (fuel : Nat) (cs : List Value) (x : DataW H × List MemPlace) (h : DataW.trod enc Try.prog W 0 spare held fuel 29 cs = some x) : ∃ t : Ty, RLl (env0 W).view cs t.enc.cells ∧ TyD t x.1 := rd_ty tyAt fuel cs x h
theorem Eq2.enc_cells (t : Eq2) : t.enc.cells = [.int .i64 t.l.kind, .int .i64 t.l.id, .slice (t.l.args.map Ty.enc) .none, .int .i64 t.r.kind, .int .i64 t.r.id, .slice (t.r.args.map Ty.enc) .none] := rfl
theorem Eq2.enc_len (t : Eq2) : t.enc.cells.length = 6 := rfl
theorem Eq2.enc_agg (t : Eq2) : PV.agg t.enc.cells = t.enc := rfl
def Eq2.W (t : Eq2) : Prop := t.l.W ∧ t.r.W
def Eq2D {H : Type} (t : Eq2) (d : DataW H) : Prop := ∃ d0 d1, d = .agg [d0, d1] ∧ TyD t.l d0 ∧ TyD t.r d1
section
variable {H : Type} {enc : TypeId × Value → H} {W : World} {spare : Nat → Bool} {held : Bool}
theorem rd_Eq2 (fuel : Nat) (cs : List Value) (x : DataW H × List MemPlace) (h : DataW.trod enc Try.prog W 0 spare held fuel 31 cs = some x) : ∃ t : Eq2, RLl (env0 W).view cs t.enc.cells ∧ Eq2D t x.1 := by
  obtain ⟨ds, n, rfl, hx, hlen, hdl, hf⟩ := rd_fields Try.underlying31 h
  rw [show Try.prog.cellsOf 31 = 6 from by kernel_rfl] at hlen
  match cs, hlen with
  | [v0, v1, v2, v3, v4, v5], _ =>
  obtain ⟨d0, p0, g0, r0⟩ := hf 0 _ rfl
  have r0 : DataW.trod enc Try.prog W 0 spare held n 29 [v0, v1, v2] = some (d0, p0) := by
    have e : Try.prog.cellsOf 29 = 3 := by kernel_rfl
    have r0 : DataW.trod enc Try.prog W 0 spare held n 29 (List.take (Try.prog.cellsOf 29) (List.drop 0 [v0, v1, v2, v3, v4, v5])) = some (d0, p0) := r0
    rw [e] at r0
    exact r0
  obtain ⟨a0, q0, hd0⟩ := rd_Ty _ _ _ r0
  rw [Ty.enc_cells] at q0
  obtain ⟨d1, p1, g1, r1⟩ := hf 1 _ rfl
  have r1 : DataW.trod enc Try.prog W 0 spare held n 29 [v3, v4, v5] = some (d1, p1) := by
    have e : Try.prog.cellsOf 29 = 3 := by kernel_rfl
    have r1 : DataW.trod enc Try.prog W 0 spare held n 29 (List.take (Try.prog.cellsOf 29) (List.drop 3 [v0, v1, v2, v3, v4, v5])) = some (d1, p1) := r1
    rw [e] at r1
    exact r1
  obtain ⟨a1, q1, hd1⟩ := rd_Ty _ _ _ r1
  rw [Ty.enc_cells] at q1
  refine ⟨Eq2.mk a0 a1, ?_, ?_⟩
  · rw [Eq2.enc_cells]
    exact (RLl.app q0 q1)
  · rw [hx]
    have e : ds = [d0, d1] := by
      match ds, hdl with
      | [e0, e1], _ =>
        simp at g0 g1
        rw [g0, g1]
    rw [e]
    exact ⟨_, _, rfl, hd0, hd1⟩
theorem Eq2_weights {t : Eq2} {d : DataW H} (h : Eq2D t d) (hw : (d.weights Try.prog 31).all (· ≤ reachBytes) = true) : t.W := by
  have hb : reachBytes = 140737488351232 := rfl
  have hfl : ∀ (c : DataW H), True := fun _ => trivial
  obtain ⟨d0, d1, rfl, k0, k1⟩ := h
  simp only [DataW.weights, Try.underlying31, DataW.weightsEach, List.map_cons, List.map_nil, List.nil_append, List.append_nil, List.all_append, List.all_cons, List.all_nil, Bool.and_eq_true, Bool.and_true, decide_eq_true_eq] at hw
  obtain ⟨z0, z1⟩ := hw
  exact ⟨(ty_weights tyAt k0 z0), (ty_weights tyAt k1 z1)⟩
end
end Go.Abs
namespace Go.Abs
open Go.RowKit Go.Proofs
/-! Ranges over functions: what the invariants need. -/
theorem trel_enter {V : View} {N : Nat} {vargs : Array Value} {args : List PV} (hrl : RL V vargs args) (hl : args.length ≤ N) : TRel V N { tmps := vargs ++ Array.replicate (N - vargs.size) undef, defers := [] } (enter args) := by
  refine ⟨by simp [hrl.1]; omega, rfl, fun i hi => ?_⟩
  rw [Array.getD_eq_getD_getElem?, Array.getElem?_append]
  unfold enter
  by_cases hia : i < args.length
  · rw [if_pos (by rw [hrl.1]; exact hia), ← Array.getD_eq_getD_getElem?, List.getD_eq_getElem?_getD, List.getElem?_eq_getElem hia]
    exact hrl.2 i hia
  · rw [List.getD_eq_getElem?_getD, List.getElem?_eq_none (by omega)]
    exact .junk _
theorem slice_inv2 {V : View} {v : Value} {es : List PV} {tl : Tail} (h : VRel V v (.slice es tl)) : (v = .slice none 0 0 ∧ es = []) ∨
    ∃ (a : Addr) (len cap sz : Nat) (vs : Nat → Nat → Value), v = .slice (some a) len cap ∧ es.length = len ∧ (∀ i (h : i < es.length), es[i].cells.length = sz) ∧ (∀ i j, i < len → j < sz → V.cell (a.add (i * sz + j)) = some (vs i j)) ∧ ∀ i j (hi : i < es.length) (hj : j < (es[i].cells).length), VRel V (vs i j) ((es[i].cells)[j]) := by
  cases h with
  | nils _ _ => exact .inl ⟨rfl, rfl⟩
  | slice a len cap sz _ _ vs hlen hcap hmax hsz hc hr ht => exact .inr ⟨a, len, cap, sz, vs, rfl, hlen, hsz, hc, hr⟩
theorem size_memS {u : Ty} : ∀ {us : List Ty}, u ∈ us → u.size ≤ Ty.sizes us
  | x :: us, h => by
    rcases List.mem_cons.1 h with rfl | h
    · simp only [Ty.sizes]; omega
    · have := size_memS h; simp only [Ty.sizes]; omega
theorem int_same {V V' : View} {u : Value} {k : IntKind} {m n : Int} (a : VRel V u (.int k m)) (b : VRel V' u (.int k n)) : m = n := by
  have := a.int_inv.symm.trans b.int_inv
  injection this
section
variable {V V' : View} {f : Addr → Option Value} (h : ∀ a v, V.cell a = some v → f a = some v) (h' : ∀ a v, V'.cell a = some v → f a = some v)
include h h'
/-- Two slices that one value stands for: the same cells. -/
theorem slice_same {v : Value} {es es' : List PV} {tl tl' : Tail} {sz : Nat} (hs : ∀ e ∈ es, e.cells.length = sz) (hs' : ∀ e ∈ es', e.cells.length = sz) (k : VRel V v (.slice es tl)) (k' : VRel V' v (.slice es' tl')) :
    es.length = es'.length ∧ ∀ i (hi : i < es.length) (hi' : i < es'.length) j (hj : j < (es[i].cells).length) (hj' : j < (es'[i].cells).length), ∃ u, VRel V u ((es[i].cells)[j]) ∧ VRel V' u ((es'[i].cells)[j]) := by
  rcases slice_inv2 k with ⟨rfl, rfl⟩ | ⟨a, len, cap, z, vs, rfl, e1, e2, e3, e4⟩
  · rcases slice_inv2 k' with ⟨_, rfl⟩ | ⟨a', len', cap', z', vs', q, _⟩
    · exact ⟨rfl, fun i hi => absurd hi (by simp)⟩
    · cases q
  · rcases slice_inv2 k' with ⟨q, _⟩ | ⟨a', len', cap', z', vs', q, e1', e2', e3', e4'⟩
    · cases q
    · cases q
      refine ⟨by omega, fun i hi hi' j hj hj' => ⟨vs i j, e4 i j hi hj, ?_⟩⟩
      have z1 : z = sz := by rw [← e2 i hi]; exact hs _ (List.getElem_mem hi)
      have z2 : z' = sz := by rw [← e2' i hi']; exact hs' _ (List.getElem_mem hi')
      subst z1; subst z2
      have q1 := h _ _ (e3 i j (by omega) (by rw [← e2 i hi]; exact hj))
      have q2 := h' _ _ (e3' i j (by omega) (by rw [← e2' i hi']; exact hj'))
      have hh : vs i j = vs' i j := Option.some.inj (q1.symm.trans q2)
      rw [hh]
      exact e4' i j hi' hj'
theorem tys_same : ∀ (n : Nat) (us us' : List Ty) (v : Value) (tl tl' : Tail), Ty.sizes us ≤ n → VRel V v (.slice (us.map Ty.enc) tl) → VRel V' v (.slice (us'.map Ty.enc) tl') → us = us'
  | 0, us, us', v, tl, tl', hn, k, k' => by
    have hu : us = [] := by cases us with | nil => rfl | cons u us => have := size_ge u; simp [Ty.sizes] at hn; omega
    subst hu
    have := (slice_same h h' (sz := 3) (by simp) (by intro e he; obtain ⟨u, _, rfl⟩ := List.mem_map.1 he; exact u.enc_len) k k').1
    cases us' with
    | nil => rfl
    | cons _ _ => simp at this
  | n + 1, us, us', v, tl, tl', hn, k, k' => by
    obtain ⟨hl, hc⟩ := slice_same h h' (sz := 3) (by intro e he; obtain ⟨u, _, rfl⟩ := List.mem_map.1 he; exact u.enc_len) (by intro e he; obtain ⟨u, _, rfl⟩ := List.mem_map.1 he; exact u.enc_len) k k'
    simp only [List.length_map] at hl
    refine List.ext_getElem hl fun i hi hi' => ?_
    have hsz : us[i].size ≤ Ty.sizes us := size_memS (List.getElem_mem hi)
    have key : ∀ j (hj : j < us[i].enc.cells.length) (hj' : j < us'[i].enc.cells.length), ∃ u, VRel V u ((us[i].enc.cells)[j]) ∧ VRel V' u ((us'[i].enc.cells)[j]) := fun j hj hj' => by
      have := hc i (by simpa using hi) (by simpa using hi') j (by simp only [List.getElem_map]; exact hj) (by simp only [List.getElem_map]; exact hj')
      simpa only [List.getElem_map] using this
    generalize us[i] = t at *
    generalize us'[i] = t' at *
    obtain ⟨k0, k1, k2⟩ := t
    obtain ⟨l0, l1, l2⟩ := t'
    obtain ⟨u0, a0, b0⟩ := key 0 (Nat.zero_lt_succ 2) (Nat.zero_lt_succ 2)
    obtain ⟨u1, a1, b1⟩ := key 1 (Nat.succ_lt_succ (Nat.zero_lt_succ 1)) (Nat.succ_lt_succ (Nat.zero_lt_succ 1))
    obtain ⟨u2, a2, b2⟩ := key 2 (Nat.lt_succ_self 2) (Nat.lt_succ_self 2)
    have a0 : VRel V u0 (.int .i64 k0) := a0
    have b0 : VRel V' u0 (.int .i64 l0) := b0
    have a1 : VRel V u1 (.int .i64 k1) := a1
    have b1 : VRel V' u1 (.int .i64 l1) := b1
    have a2 : VRel V u2 (.slice (k2.map Ty.enc) .none) := by
      have q := a2
      simp only [Ty.enc_cells, List.getElem_cons_succ, List.getElem_cons_zero] at q
      exact q
    have b2 : VRel V' u2 (.slice (l2.map Ty.enc) .none) := by
      have q := b2
      simp only [Ty.enc_cells, List.getElem_cons_succ, List.getElem_cons_zero] at q
      exact q
    have e0 : k0 = l0 := int_same a0 b0
    have e1 : k1 = l1 := int_same a1 b1
    have e2 : k2 = l2 := tys_same n k2 l2 u2 _ _ (by have : (Ty.mk k0 k1 k2).size = 1 + Ty.sizes k2 := by simp [Ty.size]
                                                     omega) a2 b2
    rw [e0, e1, e2]
theorem eqs_same {us us' : List Eq2} {v : Value} {tl tl' : Tail} (k : VRel V v (.slice (us.map Eq2.enc) tl)) (k' : VRel V' v (.slice (us'.map Eq2.enc) tl')) : us = us' := by
  obtain ⟨hl, hc⟩ := slice_same h h' (sz := 6) (by intro e he; obtain ⟨u, _, rfl⟩ := List.mem_map.1 he; exact u.enc_len) (by intro e he; obtain ⟨u, _, rfl⟩ := List.mem_map.1 he; exact u.enc_len) k k'
  simp only [List.length_map] at hl
  refine List.ext_getElem hl fun i hi hi' => ?_
  have key : ∀ j (hj : j < us[i].enc.cells.length) (hj' : j < us'[i].enc.cells.length), ∃ u, VRel V u ((us[i].enc.cells)[j]) ∧ VRel V' u ((us'[i].enc.cells)[j]) := fun j hj hj' => by
    have := hc i (by simpa using hi) (by simpa using hi') j (by simp only [List.getElem_map]; exact hj) (by simp only [List.getElem_map]; exact hj')
    obtain ⟨u, q1, q2⟩ := this
    refine ⟨u, ?_, ?_⟩
    · simp only [List.getElem_map] at q1; exact q1
    · simp only [List.getElem_map] at q2; exact q2
  generalize us[i] = t at *
  generalize us'[i] = t' at *
  obtain ⟨u0, a0, b0⟩ := key 0 (show 0 < 6 by omega) (show 0 < 6 by omega)
  obtain ⟨u1, a1, b1⟩ := key 1 (show 1 < 6 by omega) (show 1 < 6 by omega)
  obtain ⟨u2, a2, b2⟩ := key 2 (show 2 < 6 by omega) (show 2 < 6 by omega)
  obtain ⟨u3, a3, b3⟩ := key 3 (show 3 < 6 by omega) (show 3 < 6 by omega)
  obtain ⟨u4, a4, b4⟩ := key 4 (show 4 < 6 by omega) (show 4 < 6 by omega)
  obtain ⟨u5, a5, b5⟩ := key 5 (show 5 < 6 by omega) (show 5 < 6 by omega)
  have a0 : VRel V u0 (.int .i64 t.l.kind) := a0
  have b0 : VRel V' u0 (.int .i64 t'.l.kind) := b0
  have a1 : VRel V u1 (.int .i64 t.l.id) := a1
  have b1 : VRel V' u1 (.int .i64 t'.l.id) := b1
  have a2 : VRel V u2 (.slice (t.l.args.map Ty.enc) .none) := a2
  have b2 : VRel V' u2 (.slice (t'.l.args.map Ty.enc) .none) := b2
  have a3 : VRel V u3 (.int .i64 t.r.kind) := a3
  have b3 : VRel V' u3 (.int .i64 t'.r.kind) := b3
  have a4 : VRel V u4 (.int .i64 t.r.id) := a4
  have b4 : VRel V' u4 (.int .i64 t'.r.id) := b4
  have a5 : VRel V u5 (.slice (t.r.args.map Ty.enc) .none) := a5
  have b5 : VRel V' u5 (.slice (t'.r.args.map Ty.enc) .none) := b5
  have e0 : t.l.kind = t'.l.kind := int_same a0 b0
  have e1 : t.l.id = t'.l.id := int_same a1 b1
  have e2 : t.l.args = t'.l.args := tys_same h h' _ _ _ u2 _ _ (Nat.le_refl _) a2 b2
  have e3 : t.r.kind = t'.r.kind := int_same a3 b3
  have e4 : t.r.id = t'.r.id := int_same a4 b4
  have e5 : t.r.args = t'.r.args := tys_same h h' _ _ _ u5 _ _ (Nat.le_refl _) a5 b5
  obtain ⟨⟨k0, k1, k2⟩, ⟨k3, k4, k5⟩⟩ := t
  obtain ⟨⟨l0, l1, l2⟩, ⟨l3, l4, l5⟩⟩ := t'
  simp only [Ty.kind, Ty.id, Ty.args] at e0 e1 e2 e3 e4 e5
  rw [e0, e1, e2, e3, e4, e5]
end
section
variable {P : Program} {N n : Nat} {F : Fence} {K : Exit → Act → World → Prop} {ops : Array Oper} {ds : List Deferred} {C : Env → Prop} {T : Slots} {H : Heap}
theorem xl_takeQ (k : Nat) {l : List Oper} {T' : Slots} {H' : Heap} {E0 : Env} (hE : E0.H = H) (hF : ∀ f, F.fn f) (hs : asq P N ops.toList (l.take k) (some (T, H)) = some (T', H')) (hok : (l.take k).all (fun o => okOp N o.op) = true) (hpu : (l.take k).all (fun o => pureOp o.op) = true)
    (h : XL F n P N ds (fun E => E = E0) K ops (l.drop k) T' H) : XL F n P N ds (fun E => E = E0) K ops l T H := by
  subst hE; exact xl_takeP k hF hs hok hpu h
theorem xl_endQ {l : List Oper} {T' : Slots} {H' : Heap} {E0 : Env} (hE : E0.H = H) (hF : ∀ f, F.fn f) (hs : asq P N ops.toList l (some (T, H)) = some (T', H')) (hok : l.all (fun o => okOp N o.op) = true) (hpu : l.all (fun o => pureOp o.op) = true)
    (h : XP N ds (fun E => E = E0) (K .normal) T' H) : XL F n P N ds (fun E => E = E0) K ops l T H := by
  subst hE; exact xl_endP hF hs hok hpu h
/-- A call of a loop's body, by its function value. -/
theorem xl_round {o : Oper} {l : List Oper} {fo : Operand} {xs : Array Operand} {ts : Array TypeId} {lp : Nat} (hF : ∀ f, F.fn f) (hdep : F.depth = none) (hop : o.op = .call ⟨.value fo, xs, ts⟩) (hw : awanted ops.toList T N o = some true) (hok : okOpnd N fo = true) (hf : aev T fo = .fn (.yield lp) [] [])
    (h : ∀ (E : Env) (a : Act), C E → E.Ok → E.H = H → TRel E.view N (plainA a) T → a.defers = ds → YieldAt F (n - 1) P lp (xs.map a.eval) E.w fun e w' => ∃ v, e = .returned v ∧ wpListIn F n P ops K l (a.put o.dst v) w') : XL F n P N ds C K ops (o :: l) T H := by
  intro E a hCE ho hH ht hd
  have hwn : Region.wanted o (yielded ops a.tmps) = true := awanted_sound (a := plainA a) ht hw
  have hr := vrel_eval ht fo hok
  rw [hf, plainA_eval] at hr
  have hval : a.eval fo = .func (.yield lp) #[] #[] := by
    generalize a.eval fo = y at hr
    cases hr with
    | fn _ first caps _ _ hf hc hrf hrc =>
      have e1 : first = #[] := by simpa using hf
      have e2 : caps = #[] := by simpa using hc
      rw [e1, e2]
  obtain ⟨fn, tmps, assign, body, hy, hR⟩ := h E a hCE ho hH ht hd
  have hrun : (execOp a.eval o).run P E.w = .ok (.round lp fn tmps assign body) E.w := by
    unfold execOp
    rw [hop]
    simp only [resolve, hval, Deferred.ofValue, Sem.run_bind, Sem.run_pure, Result.andThen_ok, invoke, Array.empty_append]
    exact hy
  unfold wpListIn
  rw [if_pos hwn]
  refine ⟨fun f _ => hF f, ?_⟩
  rw [Oper.semAt_plain _ _ _ (fun c h => by rw [hop] at h; cases h), hrun, Oper.uponIn_round]
  refine ⟨fun h => by simp [hdep] at h, hR.mono ?_⟩
  rintro e w' ⟨v, rfl, hk⟩
  exact hk
end
/-- A world that has grown, an environment that keeps no other objects. -/
theorem env_grown {E1 E : Env} {W' : World} {row : Option Nat} (hl : E1.le E) (ho : E.Ok) (hno : ∀ (id : Nat) (k : OKind), E.H[id]? ≠ some (AObj.obj k)) (hg : E.w.grownBy W' row)
    (hr : ∀ r, row = some r → E1.w.heap.size ≤ r ∧ ∃ o : Obj, E.w.heap[r]? = some o ∧ o.isCells = false) : E1.le { E with w := W' } ∧ Env.Ok { E with w := W' } ∧ E.view.le (Env.view { E with w := W' }) := by
  have same : ∀ (k : Nat) (arr : Array Value) (el : TypeId) (fr : Nat × Nat), E.w.heap[k]? = some (Obj.cells arr el fr) → W'.heap[k]? = E.w.heap[k]? := fun k arr el fr hk => by
    refine hg.block k (Array.getElem?_eq_some_iff.1 hk).1 fun e => ?_
    obtain ⟨_, o, h1, h2⟩ := hr k e.symm
    rw [hk] at h1; cases h1; cases h2
  have hcell : ∀ a v, E.w.cell? a = some v → W'.cell? a = some v := fun a v hc => by
    unfold World.cell? at hc ⊢
    cases hb : E.w.heap[a.block]? with
    | none => rw [hb] at hc; cases hc
    | some o =>
      cases o with
      | cells arr el fr => rw [same _ _ _ _ hb]; exact hc
      | _ => rw [hb] at hc; simp at hc
  have hview : E.view.le (Env.view { E with w := W' }) := by
    refine ⟨fun a v hc => ?_, fun id h => h, fun id _ => rfl, fun id t' _ ht => ⟨t', ht, .inl rfl⟩⟩
    simp only [Env.view] at hc ⊢
    split at hc
    · rename_i hs
      rw [if_pos hs]; exact hcell _ _ hc
    · cases hc
  refine ⟨⟨hg.os.trans hl.os, hg.tape.trans hl.tape, hg.output.trans hl.output, Nat.le_trans hl.size hg.size, fun b hb h1 => ?_, hl.view.trans hview, hl.born⟩, ?_, hview⟩
  · obtain ⟨e1, e2⟩ := hl.other b hb h1
    refine ⟨e1, (hg.block b (Nat.lt_of_lt_of_le hb hl.size) fun e => ?_).trans e2⟩
    have := (hr b e.symm).1; omega
  · refine ⟨?_, ?_, ho.injr, ho.injb, ho.globs_of hview.cell fun _ _ _ h => h, ho.objs.of hview fun id k hi => absurd hi (hno id k)⟩
    · intro id cs hi
      obtain ⟨arr, elem, h1, h2, h3, h4⟩ := ho.rows id cs hi
      exact ⟨arr, elem, (same _ _ _ _ h1).trans h1, h2, fun i hl => (h3 i hl).mono hview, h4⟩
    · intro id n sz b hi hb'
      obtain ⟨arr, elem, pos, h1, h2⟩ := ho.bufs id n sz b hi hb'
      exact ⟨arr, elem, pos, (same _ _ _ _ h1).trans h1, h2⟩
end Go.Abs
set_option maxRecDepth 4000
namespace Go.Abs
open Go.RowKit Go.Proofs
open Classical in
noncomputable def envB (κ0 : Nat → Kind) (B : Nat → Prop) (W : World) : Env := { w := W, κ := fun b => if B b then κ0 b else .mut, ρ := fun _ => 0, tb := fun _ => none, H := [] }
def KpB (B : Nat → Prop) (W W' : World) : Prop := ∀ b, B b → W'.heap[b]? = W.heap[b]?
theorem KpB.trans {B : Nat → Prop} {W W' W'' : World} (h : KpB B W W') (k : KpB B W' W'') : KpB B W W'' := fun b hb => (k b hb).trans (h b hb)
theorem envB_ok (κ0 : Nat → Kind) (B : Nat → Prop) (W : World) : (envB κ0 B W).Ok :=
  ⟨fun id cs h => by simp [envB] at h, fun id n sz b h => by simp [envB] at h, fun id id' cs cs' h => by simp [envB] at h, fun id id' n sz n' sz' b h => by simp [envB] at h, fun id b vs h => by simp [envB] at h, ⟨fun id k h => by simp [envB] at h, fun id id' k k' h => by simp [envB] at h⟩⟩
theorem envB_cell {κ0 : Nat → Kind} {B : Nat → Prop} {W W' : World} (h : KpB B W W') (a : Addr) : (envB κ0 B W').view.cell a = (envB κ0 B W).view.cell a := by
  simp only [Env.view, envB]
  by_cases hb : B a.block
  · simp only [hb, if_true]
    unfold World.cell?; rw [h _ hb]
  · simp only [hb, if_false, Kind.stable]
    rfl
theorem envB_view {κ0 : Nat → Kind} {B : Nat → Prop} {W W' : World} (h : KpB B W W') : (envB κ0 B W').view = (envB κ0 B W).view := by
  have := funext (envB_cell (κ0 := κ0) h)
  show View.mk (envB κ0 B W').view.cell (envB κ0 B W').view.born (envB κ0 B W').view.rho (envB κ0 B W').view.tok = _
  rw [this]
  rfl
abbrev It (V : View) := { p : Value × Value × Eq2 // VRel V p.2.1 p.2.2.enc }
def It.encs {V : View} (p : It V) : Array Value := #[p.1.1, p.1.2.1]
def It.item {V : View} (p : It V) : Eq2 := p.1.2.2
theorem back_stops {n : Nat} {κ0 : Nat → Kind} {B : Nat → Prop} {xs : List Eq2} {v : Value} {w0 : World} (hl : xs.length ≤ maxLen) (hB : ∀ b, B b → b < w0.heap.size) (hv : VRel (envB κ0 B w0).view v (.iptr [.slice (xs.map Eq2.enc) .none])) :
    SeqStopsK Fence.wide n Try.prog 49 #[v] (It.encs (V := (envB κ0 B w0).view)) (KpB B) (fun ys => ys.map It.item = xs.reverse) (fun _ => True) xs.length w0 := by
  intro lp J Jx W hW hJ hJx hY h0
  have em : maxLen = 9223372036854775807 := by decide
  have hK0 : KpB B w0 W := fun b hb => hW.block b (hB b hb)
  have hgo : ∀ f, Fence.wide.fn f := fun _ => trivial
  refine callsIn_of_wp Try.func49 rfl trivial ?_ rfl
  have hrl : RL (envB κ0 B W).view (#[.func (.yield lp) #[] #[]] ++ #[v]) [.fn (.yield lp) [] [], .iptr [.slice (xs.map Eq2.enc) .none]] := by
    rw [envB_view hK0]
    exact rl_append' (a := #[.func (.yield lp) #[] #[]]) (x := [.fn (.yield lp) [] []]) ⟨rfl, fun i hi => by
      obtain rfl : i = 0 := by simpa using hi
      exact .fn _ _ _ _ _ rfl rfl (fun i h => absurd h (by simp)) (fun i h => absurd h (by simp))⟩ ⟨rfl, fun i hi => by
      obtain rfl : i = 0 := by simpa using hi
      exact hv⟩
  refine (?_ : X Fence.wide n Try.prog 19 [] (fun E => E = envB κ0 B W) _ _ (enter [.fn (.yield lp) [] [], .iptr [.slice (xs.map Eq2.enc) .none]]) []) (envB κ0 B W) _ rfl (envB_ok κ0 B W) rfl (trel_enter (N := 19) hrl (by simp)) rfl
  refine x_seq (x_reg (xl_endQ rfl hgo (by simp only [jA, jO, jN, seval, y22, vint, TyS, TyF, MapS, EqS, BdS] <;> with_reducible rfl) (by decide) (by decide) (xp_then ?_)))
  intro E a hE ho hH ht hd
  subst hE
  obtain ⟨V, hV⟩ : ∃ V, V = (envB κ0 B w0).view := ⟨_, rfl⟩
  have hVW : ∀ W', KpB B W W' → (envB κ0 B W').view = (envB κ0 B w0).view := fun W' h => (envB_view h).trans (envB_view hK0)
  refine wpIn_block (wpIn_loop (fun a' W' => ∃ (k : Nat) (ys : List (It (envB κ0 B w0).view)), ys.length + k = xs.length ∧ ys.map It.item = (xs.drop k).reverse ∧ J ys W' ∧ KpB B W W' ∧ a'.defers = [] ∧
      TRel (envB κ0 B W').view 19 (plainA a') (mkS [(0, .fn (.yield lp) [] []), (1, .iptr [.slice (xs.map Eq2.enc) .none]), (3, .int .i64 ((k : Int) - 1))]))
    (fun a' W' => match a'.tmps.getD 3 undef with | .int _ i => (i + 1).toNat | _ => 0) ?_ ?_)
  · refine ⟨xs.length, [], by simp, by simp, h0, fun b _ => rfl, hd, trel_weak ht (mkS_weak ⟨rfl, rfl, ?_, trivial⟩)⟩
    show PV.int .i64 (IntKind.i64.wrap ((xs.length : Int) - 1)) = _
    rw [wrap_id (by omega) (by omega)]
  clear ht
  rintro a' W' ⟨k, ys, hk, hys, hJ', hKW, hd', ht'⟩
  have hmu : (match a'.tmps.getD 3 undef with | .int _ i => (i + 1).toNat | _ => 0) = k := by
    have h3 : VRel (envB κ0 B W').view (a'.tmps.getD 3 undef) (.int .i64 ((k : Int) - 1)) := ht'.rel 3 (by omega)
    rw [h3.int_inv]; simp only; omega
  refine (?_ : X Fence.wide n Try.prog 19 [] (fun E => E = envB κ0 B W') _ _ (mkS [(0, .fn (.yield lp) [] []), (1, .iptr [.slice (xs.map Eq2.enc) .none]), (3, .int .i64 ((k : Int) - 1))]) []) (envB κ0 B W') a' rfl (envB_ok κ0 B W') rfl ht' hd'
  refine x_seq (x_seq (x_reg (xl_endQ rfl hgo (by simp only [jA, jO, jN, seval, y3, y22, y31, vint, TyS, TyF, MapS, EqS, BdS] <;> with_reducible rfl) (by decide) (by decide) (xp_then ?_))))
  refine x_cond rfl (by simp only [jN, seval, vint, TyS, TyF, MapS, EqS, BdS] <;> with_reducible rfl) (fun bt => ?_) (fun bt => ?_)
  · obtain ⟨k, rfl⟩ : ∃ k', k = k' + 1 := ⟨k - 1, by simp at bt; omega⟩
    have hik : k < xs.length := by omega
    have gz : ((k + 1 : Nat) : Int) - 1 = (k : Int) := by omega
    have g1 := ix_nat hik
    have g2 := get_enc Eq2.enc hik
    rw [gz]
    refine x_skip (xp_then ?_)
    refine x_seq (x_block (x_seq (x_reg (xl_takeQ 6 rfl hgo (by simp only [jA, jO, jN, seval, y3, y22, y31, vint, TyS, TyF, MapS, EqS, BdS, g1, g2, Int.toNat_natCast] <;> with_reducible rfl) (by decide) (by decide) ?_))))
    refine xl_round hgo rfl rfl rfl (by decide) (by simp only [jN, seval, vint, TyS, TyF, MapS, EqS, BdS] <;> with_reducible rfl) ?_
    intro E a hE ho hH ht hd
    subst hE
    have hx : VRel (envB κ0 B w0).view (a.eval (.tmp 16)) xs[k].enc := by
      have := ht.rel 16 (by omega)
      rw [hVW _ hKW] at this
      exact this
    obtain ⟨fn, tm, asg, bo, h1, h2⟩ := hY ys ⟨(a.eval (.tmp 12), a.eval (.tmp 16), xs[k]), hx⟩ W' hJ' (by omega)
    have e1 : Array.map a.eval #[Operand.tmp 12, Operand.tmp 16] = #[a.eval (.tmp 12), a.eval (.tmp 16)] := by simp
    refine ⟨fn, tm, asg, bo, by rw [e1]; exact h1, h2.mono fun e w' h => ?_⟩
    rcases h with ⟨rfl, hJ2, hk2⟩ | ⟨rfl, hJx2⟩
    · refine ⟨_, rfl, ?_⟩
      have ht2 := ht.put (some 17) (VRel.bool (V := (envB κ0 B W').view) true)
      rw [hVW _ hKW, ← hVW _ (hKW.trans hk2), ← plainA_put] at ht2
      refine (?_ : XL Fence.wide n Try.prog 19 [] (fun E => E = envB κ0 B w') _ _ _ _ []) (envB κ0 B w') _ rfl (envB_ok κ0 B w') rfl ht2 (by rw [put_defers]; exact hd)
      refine xl_endQ rfl hgo (by simp only [jA, jO, jN, seval, y3, y22, y31, vint, TyS, TyF, MapS, EqS, BdS] <;> with_reducible rfl) (by decide) (by decide) (xp_then ?_)
      refine x_false rfl (by simp only [jN, seval, vint, TyS, TyF, MapS, EqS, BdS] <;> with_reducible rfl) (x_skip ?_)
      change X _ _ _ _ _ _ _ _ _ _
      refine x_reg (xl_endQ rfl hgo (by simp only [jA, jO, jN, seval, y3, y22, y31, vint, TyS, TyF, MapS, EqS, BdS] <;> with_reducible rfl) (by decide) (by decide) ?_)
      intro E a hE ho hH ht hd
      subst hE
      have hta := trel_weak ht (mkS_weak (l := [(0, .fn (.yield lp) [] []), (1, .iptr [.slice (xs.map Eq2.enc) .none]), (3, .int .i64 ((k : Int) - 1))]) ⟨rfl, rfl, by show PV.int .i64 (IntKind.i64.wrap ((k : Int) - 1)) = _; rw [wrap_id (by omega) (by omega)], trivial⟩)
      have hmu2 : (match a.tmps.getD 3 undef with | .int _ i => (i + 1).toNat | _ => 0) = k := by
        have h3 : VRel (envB κ0 B w').view (a.tmps.getD 3 undef) (.int .i64 ((k : Int) - 1)) := hta.rel 3 (by omega)
        rw [h3.int_inv]; simp only; omega
      refine ⟨⟨k, ys ++ [_], by simp; omega, ?_, hJ2, hKW.trans hk2, hd, hta⟩, ?_⟩
      · rw [List.map_append, hys, List.drop_eq_getElem_cons hik, List.reverse_cons]; rfl
      · rw [hmu, hmu2]; omega
    · refine ⟨_, rfl, ?_⟩
      have ht2 := ht.put (some 17) (VRel.bool (V := (envB κ0 B W').view) false)
      rw [← plainA_put] at ht2
      have ht3 : TRel (envB κ0 B w').view 19 (plainA (a.put (some 17) (.bool false))) (mkS [(17, .bool false)]) := by
        refine ⟨ht2.size, ht2.defers, fun i hi => ?_⟩
        simp only [mkS, upd]
        split
        · rename_i e
          subst e
          have h3 : VRel (envB κ0 B W').view ((plainA (a.put (some 17) (.bool false))).tmps.getD 17 undef) (.bool false) := ht2.rel 17 hi
          rw [h3.bool_inv]; exact .bool _
        · exact .junk _
      refine (?_ : XL Fence.wide n Try.prog 19 [] (fun E => E = envB κ0 B w') _ _ _ (mkS [(17, .bool false)]) []) (envB κ0 B w') _ rfl (envB_ok κ0 B w') rfl ht3 (by rw [put_defers]; exact hd)
      refine xl_endQ rfl hgo (by simp only [jA, jO, jN, seval, y3, y22, y31, vint, TyS, TyF, MapS, EqS, BdS] <;> with_reducible rfl) (by decide) (by decide) (xp_then ?_)
      refine x_true rfl (by simp only [jN, seval, vint, TyS, TyF, MapS, EqS, BdS] <;> with_reducible rfl) (x_ret ?_)
      intro E a hE ho hH ht hd
      subst hE
      exact ⟨hd, .tuple #[], results_none rfl _ _ _, ⟨_, rfl⟩, .inr ⟨ys ++ [_], trivial, hJx2⟩⟩
  · have hk0 : k = 0 := by simp at bt; omega
    subst hk0
    refine x_exit ?_
    intro E a hE ho hH ht hd
    subst hE
    exact ⟨hd, .tuple #[], results_none rfl _ _ _, ⟨_, rfl⟩, .inl ⟨ys, by simpa using hys, hJ'⟩⟩
end Go.Abs
namespace Go.Abs
/-! The reference's functions on types. -/
def depL : List Int → Int → Int
  | [], m => m
  | d :: ds, m => depL ds (max m (d + 1))
def dep : Ty → Int
  | .mk _ _ us => depL (us.map fun u => dep u) 1
theorem depL_cons (d : Int) (ds : List Int) (m : Int) : depL (d :: ds) m = depL ds (max m (d + 1)) := rfl
theorem depL_nil (m : Int) : depL [] m = m := rfl
theorem dep_eq (t : Ty) : dep t = depL (t.args.map dep) 1 := by cases t; rw [dep]; rfl
theorem depL_bd : ∀ (ds : List Int) (m : Int), 1 ≤ m → m ≤ depL ds m
  | [], m, h => Int.le_refl _
  | d :: ds, m, h => by
    have := depL_bd ds (max m (d + 1)) (by omega)
    rw [depL_cons]; omega
theorem depL_le : ∀ (us : List Ty) (m : Int), (∀ u ∈ us, dep u ≤ u.size) → depL (us.map dep) m ≤ max m (Ty.sizes us + 1)
  | [], m, _ => by simp only [List.map_nil, depL_nil]; omega
  | u :: us, m, h => by
    have h1 := h u (List.mem_cons_self ..)
    have h2 := depL_le us (max m (dep u + 1)) fun w hw => h w (List.mem_cons_of_mem _ hw)
    rw [List.map_cons, depL_cons]
    simp only [Ty.sizes]
    omega
theorem dep_bd : ∀ t : Ty, 1 ≤ dep t ∧ dep t ≤ t.size
  | .mk k i us => by
    have h1 := depL_bd (us.map dep) 1 (by decide)
    have h2 := depL_le us 1 fun u hu => (dep_bd u).2
    rw [dep_eq]
    simp only [Ty.args, Ty.size]
    constructor
    · exact h1
    · omega
/-- The variables as the reference gathers them. -/
def addv (vs : List Int) (x : Int) : List Int := if (vs.any fun y => decide (y = x)) = true then vs else vs ++ [x]
def varsT : Ty → List Int
  | .mk k i us => if decide (k = 1) = true then [i] else (us.map fun u => varsT u).foldl (fun vs ws => ws.foldl addv vs) []
theorem wf_var {t : Ty} (h : wfT t = true) (hk : t.kind = 1) : t.args = [] := by
  rw [wfT_eq, Bool.and_eq_true] at h
  have := h.1
  unfold nwf at this
  simp [hk] at this
  exact this.2
theorem wf_arg {t u : Ty} (h : wfT t = true) (hu : u ∈ t.args) : wfT u = true := by
  rw [wfT_eq, Bool.and_eq_true, Bool.not_eq_true', List.any_eq_false] at h
  have := h.2 u hu
  simpa using this
end Go.Abs
namespace Go.Abs
end Go.Abs
namespace Go.Abs
/-! Substitutions applied; what a solver's bindings mean. -/
mutual
theorem Ty.ind {p : Ty → Prop} (h : ∀ t, (∀ u ∈ t.args, p u) → p t) : ∀ t, p t
  | .mk k i us => h _ (Ty.inds h us)
theorem Ty.inds {p : Ty → Prop} (h : ∀ t, (∀ u ∈ t.args, p u) → p t) : ∀ us : List Ty, ∀ u ∈ us, p u
  | [], _, hu => by cases hu
  | u :: us, v, hv => by
    rcases List.mem_cons.1 hv with e | hv
    · rw [e]; exact Ty.ind h u
    · exact Ty.inds h us v hv
end
def vr (x : Int) : Ty := .mk 1 x []
def ap (s : Int → Ty) (t : Ty) : Ty := mapT (fun u => if u.kind = 1 then (s u.id, true) else (u, false)) t
theorem ap_eq (s : Int → Ty) (t : Ty) : ap s t = if t.kind = 1 then s t.id else .mk t.kind t.id (t.args.map (ap s)) := by
  unfold ap
  rw [mapT_eq]
  by_cases h : t.kind = 1 <;> simp only [h, if_true, if_false, Bool.false_eq_true]
theorem ap_v {s : Int → Ty} {t : Ty} (h : t.kind = 1) : ap s t = s t.id := by rw [ap_eq, if_pos h]
theorem ap_n {s : Int → Ty} {t : Ty} (h : t.kind ≠ 1) : ap s t = .mk t.kind t.id (t.args.map (ap s)) := by rw [ap_eq, if_neg h]
theorem ap_vr (s : Int → Ty) (x : Int) : ap s (vr x) = s x := ap_v rfl
theorem ap_mk {s : Int → Ty} {k i : Int} {us : List Ty} (h : k ≠ 1) : ap s (.mk k i us) = .mk k i (us.map (ap s)) := ap_n h
theorem mk_eta (t : Ty) : Ty.mk t.kind t.id t.args = t := by cases t; rfl
theorem wf_vr {t : Ty} (h : wfT t = true) (hk : t.kind = 1) : t = vr t.id := by
  have := wf_var h hk
  cases t with | mk k i us => simp only [Ty.kind, Ty.args, Ty.id] at *; subst hk; subst this; rfl
theorem wf_pos {t : Ty} (h : wfT t = true) (hk : t.kind = 1) : 0 ≤ t.id := by
  rw [wfT_eq, Bool.and_eq_true] at h
  have := h.1
  unfold nwf at this
  simp [hk] at this
  exact this.1
theorem wf_vr' {x : Int} (h : 0 ≤ x) : wfT (vr x) = true := by
  rw [wfT_eq]; simp [vr, nwf, Ty.kind, Ty.id, Ty.args, h]
theorem ap_id : ∀ t, wfT t = true → ap vr t = t := fun t => by
  induction t using Ty.ind with
  | h t ih =>
    intro h
    by_cases hk : t.kind = 1
    · rw [ap_v hk]; exact (wf_vr h hk).symm
    · rw [ap_n hk, List.map_congr_left (g := fun u => u) (fun u hu => ih u hu (wf_arg h hu)), List.map_id', mk_eta]
theorem ap_ap (s r : Int → Ty) : ∀ t, ap s (ap r t) = ap (fun x => ap s (r x)) t := fun t => by
  induction t using Ty.ind with
  | h t ih =>
    by_cases hk : t.kind = 1
    · rw [ap_v hk, ap_v hk]
    · rw [ap_n hk, ap_n hk, ap_mk hk, List.map_map]
      congr 1
      exact List.map_congr_left fun u hu => ih u hu
theorem ap_congr {s r : Int → Ty} : ∀ t, (∀ x, occ x t = true → s x = r x) → ap s t = ap r t := fun t => by
  induction t using Ty.ind with
  | h t ih =>
    intro h
    by_cases hk : t.kind = 1
    · rw [ap_v hk, ap_v hk]; exact h _ (by rw [occ_eq]; simp [hk])
    · rw [ap_n hk, ap_n hk]
      congr 1
      exact List.map_congr_left fun u hu => ih u hu fun x hx => h x (by rw [occ_eq, Bool.or_eq_true]; exact .inr (List.any_eq_true.2 ⟨u, hu, hx⟩))
theorem occ_vr {x y : Int} : occ x (vr y) = true ↔ y = x := by rw [occ_eq]; simp [vr, Ty.kind, Ty.id, Ty.args]; try exact decide_eq_true_iff
theorem occ_var {x : Int} {t : Ty} (h : wfT t = true) (hk : t.kind = 1) : occ x t = true ↔ t.id = x := by
  rw [wf_vr h hk]; exact occ_vr
theorem occ_arg {x : Int} {t : Ty} (hk : t.kind ≠ 1) : occ x t = true ↔ ∃ u ∈ t.args, occ x u = true := by
  rw [occ_eq]; simp [hk]
theorem occ_pos {x : Int} : ∀ t, wfT t = true → occ x t = true → 0 ≤ x := fun t => by
  induction t using Ty.ind with
  | h t ih =>
    intro h ho
    by_cases hk : t.kind = 1
    · rw [← (occ_var h hk).1 ho]; exact wf_pos h hk
    · obtain ⟨u, hu, ho⟩ := (occ_arg hk).1 ho
      exact ih u hu (wf_arg h hu) ho
theorem nwf_map {t : Ty} (f : Ty → Ty) : nwf (.mk t.kind t.id (t.args.map f)) = nwf t := by
  cases t with | mk k i us => (unfold nwf; simp only [Ty.kind, Ty.id, Ty.args, List.length_map]; rfl)
theorem wf_ap {s : Int → Ty} : ∀ t, wfT t = true → (∀ x, occ x t = true → wfT (s x) = true) → wfT (ap s t) = true := fun t => by
  induction t using Ty.ind with
  | h t ih =>
    intro h hs
    by_cases hk : t.kind = 1
    · rw [ap_v hk]; exact hs _ ((occ_var h hk).2 rfl)
    · rw [ap_n hk, wfT_eq, nwf_map]
      rw [wfT_eq, Bool.and_eq_true] at h
      rw [h.1, Bool.true_and, Bool.not_eq_true', List.any_eq_false]
      intro u hu
      obtain ⟨v, hv, rfl⟩ := List.mem_map.1 hu
      have hw : wfT v = true := by
        have := h.2
        rw [Bool.not_eq_true', List.any_eq_false] at this
        simpa using this v hv
      rw [ih v hv hw fun x hx => hs x ((occ_arg hk).2 ⟨v, hv, hx⟩)]
      simp
theorem size_arg_ap {s : Int → Ty} {t u : Ty} (hk : t.kind ≠ 1) (hu : u ∈ t.args) : (ap s u).size < (ap s t).size := by
  rw [ap_n (t := t) hk]
  exact Ty.size_arg (t := .mk t.kind t.id (t.args.map (ap s))) (List.mem_map.2 ⟨u, hu, rfl⟩)
theorem size_occ {s : Int → Ty} {x : Int} : ∀ t, wfT t = true → occ x t = true → (s x).size ≤ (ap s t).size ∧ (t.kind ≠ 1 → (s x).size < (ap s t).size) := fun t => by
  induction t using Ty.ind with
  | h t ih =>
    intro h ho
    by_cases hk : t.kind = 1
    · rw [ap_v hk, (occ_var h hk).1 ho]; exact ⟨Nat.le_refl _, fun h => absurd hk h⟩
    · obtain ⟨u, hu, ho⟩ := (occ_arg hk).1 ho
      have h1 := (ih u hu (wf_arg h hu) ho).1
      have h2 := size_arg_ap (s := s) hk hu
      exact ⟨by omega, fun _ => by omega⟩
/-- The measure of all recursions. -/
def M1 (s : Int → Ty) (t : Ty) : Nat := (ap s t).size
def M2 (t : Ty) : Nat := if t.kind = 1 then t.id.toNat + 1 else 0
def MLt (s : Int → Ty) (u t : Ty) : Prop := M1 s u < M1 s t ∨ (M1 s u = M1 s t ∧ M2 u < M2 t)
theorem m_ind {s : Int → Ty} {p : Ty → Prop} (hp : ∀ t, (∀ u, MLt s u t → p u) → p t) : ∀ t, p t := by
  have : ∀ (a b : Nat) (t : Ty), M1 s t = a → M2 t = b → p t := by
    intro a
    induction a using Nat.strongRecOn with
    | ind a iha =>
      intro b
      induction b using Nat.strongRecOn with
      | ind b ihb =>
        intro t h1 h2
        refine hp t fun u hu => ?_
        rcases hu with hu | ⟨e, hu⟩
        · exact iha _ (h1 ▸ hu) _ u rfl rfl
        · exact ihb _ (h2 ▸ hu) u (e.trans h1) rfl
  exact fun t => this _ _ t rfl rfl
structure Inv (B : Bs) (s : Int → Ty) : Prop where
  un : ∀ v, lk B v = none → s v = vr v
  bd : ∀ v t, lk B v = some t → s v = ap s t
  wf : ∀ v t, lk B v = some t → wfT t = true
  lt : ∀ v t, lk B v = some t → t.kind = 1 → t.id < v
  pos : ∀ v t, lk B v = some t → 0 ≤ v
section
variable {B : Bs} {s : Int → Ty} (h : Inv B s)
include h
theorem Inv.var_lt {t u : Ty} (hk : t.kind = 1) (hu : lk B t.id = some u) : MLt s u t := by
  have e : M1 s u = M1 s t := by unfold M1; rw [ap_v hk, h.bd _ _ hu]
  refine .inr ⟨e, ?_⟩
  unfold M2
  rw [if_pos hk]
  split
  · rename_i hku
    have h1 := h.lt _ _ hu hku
    have h2 := wf_pos (h.wf _ _ hu) hku
    omega
  · exact Nat.succ_pos _
omit h in
theorem arg_lt {t u : Ty} (hk : t.kind ≠ 1) (hu : u ∈ t.args) : MLt s u t := .inl (size_arg_ap hk hu)
theorem Inv.wfs : ∀ v, 0 ≤ v → wfT (s v) = true := by
  have : ∀ t, wfT t = true → wfT (ap s t) = true := fun t => by
    induction t using m_ind (s := s) with
    | hp t ih =>
      intro hw
      by_cases hk : t.kind = 1
      · rw [ap_v hk]
        cases hl : lk B t.id with
        | none => rw [h.un _ hl]; exact wf_vr' (wf_pos hw hk)
        | some u => rw [h.bd _ _ hl]; exact ih u (h.var_lt hk hl) (h.wf _ _ hl)
      · rw [ap_n hk, wfT_eq, nwf_map]
        have hw' := hw
        rw [wfT_eq, Bool.and_eq_true] at hw'
        rw [hw'.1, Bool.true_and, Bool.not_eq_true', List.any_eq_false]
        intro u hu
        obtain ⟨v, hv, rfl⟩ := List.mem_map.1 hu
        rw [ih v (arg_lt hk hv) (wf_arg hw hv)]; simp
  intro v hv
  have := this (vr v) (wf_vr' hv)
  rwa [ap_vr] at this
/-- Bound variables are gone. -/
theorem Inv.gone {x : Int} : ∀ t, wfT t = true → occ x (ap s t) = true → lk B x = none := fun t => by
  induction t using m_ind (s := s) with
  | hp t ih =>
    intro hw ho
    by_cases hk : t.kind = 1
    · rw [ap_v hk] at ho
      cases hl : lk B t.id with
      | none => rw [h.un _ hl] at ho; rw [← occ_vr.1 ho]; exact hl
      | some u => rw [h.bd _ _ hl] at ho; exact ih u (h.var_lt hk hl) (h.wf _ _ hl) ho
    · rw [ap_n hk, occ_arg (t := .mk t.kind t.id _) hk] at ho
      obtain ⟨u, hu, ho⟩ := ho
      obtain ⟨v, hv, rfl⟩ := List.mem_map.1 hu
      exact ih v (arg_lt hk hv) (wf_arg hw hv) ho
end
end Go.Abs
namespace Go.Abs
theorem headF_mono {B : Bs} : ∀ {n : Nat} {t r : Ty}, headF n B t = some r → ∀ {m : Nat}, n ≤ m → headF m B t = some r
  | 0, t, r, h, _, _ => by cases h
  | n + 1, t, r, h, 0, hm => by omega
  | n + 1, t, r, h, m + 1, hm => by
    simp only [headF] at h ⊢
    split
    · rename_i hk
      rw [if_pos hk] at h
      cases hl : lk B t.id with
      | none => rw [hl] at h; exact h
      | some u => rw [hl] at h; exact headF_mono h (by omega)
    · rename_i hk
      rw [if_neg hk] at h; exact h
theorem headF_det {B : Bs} {n m : Nat} {t r r' : Ty} (h : headF n B t = some r) (h' : headF m B t = some r') : r = r' := by
  have h1 := headF_mono h (Nat.le_max_left n m)
  have h2 := headF_mono h' (Nat.le_max_right n m)
  rw [h1] at h2; exact Option.some.inj h2
theorem Inv.head {B : Bs} {s : Int → Ty} (h : Inv B s) : ∀ t, wfT t = true → ∃ n r, headF n B t = some r ∧ wfT r = true ∧ ap s r = ap s t ∧ (r.kind = 1 → lk B r.id = none) := fun t => by
  induction t using m_ind (s := s) with
  | hp t ih =>
    intro hw
    by_cases hk : t.kind = 1
    · cases hl : lk B t.id with
      | none => exact ⟨1, t, by simp [headF, hk, hl], hw, rfl, fun _ => hl⟩
      | some u =>
        obtain ⟨n, r, h1, h2, h3, h4⟩ := ih u (h.var_lt hk hl) (h.wf _ _ hl)
        exact ⟨n + 1, r, by simp [headF, hk, hl, h1], h2, by rw [h3, ap_v hk, h.bd _ _ hl], h4⟩
    · exact ⟨1, t, by simp [headF, hk], hw, rfl, fun h => absurd h hk⟩
theorem Inv.head_is {B : Bs} {s : Int → Ty} (h : Inv B s) {n : Nat} {t r : Ty} (hw : wfT t = true) (hr : headF n B t = some r) : wfT r = true ∧ ap s r = ap s t ∧ (r.kind = 1 → lk B r.id = none) := by
  obtain ⟨m, r', h1, h2⟩ := h.head t hw
  rw [headF_det hr h1]; exact h2
/-! occurs -/
theorem idxS_shift {σ : Type} (g : Ty → σ → Option (Bool × σ)) : ∀ (us : List Ty) (s : σ) (j : Nat), (idxS g us s j).map (fun r => (decide (r.1 ≥ 0), r.2)) = anyS g us s := by
  have : ∀ (us : List Ty) (s : σ) (j k : Nat), (idxS g us s j).map (fun r => (decide (r.1 ≥ 0), r.2)) = (idxS g us s k).map (fun r => (decide (r.1 ≥ 0), r.2)) := by
    intro us
    induction us with
    | nil => intro s j k; rfl
    | cons a as1 ih =>
      intro s j k
      simp only [idxS]
      cases g a s with
      | none => rfl
      | some r =>
        simp only [Option.bind_some]
        split
        · simp
        · exact ih _ _ _
  exact fun us s j => this us s j 0
theorem anyS_cons {σ : Type} (g : Ty → σ → Option (Bool × σ)) (a : Ty) (as1 : List Ty) (s : σ) : anyS g (a :: as1) s = (g a s).bind fun r => if r.1 = true then some (true, r.2) else anyS g as1 r.2 := by
  show ((g a s).bind fun r => if r.1 = true then some (((0 : Nat) : Int), r.2) else idxS g as1 r.2 (0 + 1)).map _ = _
  cases g a s with
  | none => rfl
  | some r =>
    simp only [Option.bind_some]
    split
    · rfl
    · exact idxS_shift g as1 r.2 1
theorem anyS_mono {σ : Type} {g g' : Ty → σ → Option (Bool × σ)} : ∀ (us : List Ty) (s : σ) (r : Bool × σ), (∀ u ∈ us, ∀ s r, g u s = some r → g' u s = some r) → anyS g us s = some r → anyS g' us s = some r
  | [], s, r, _, h => h
  | a :: as1, s, r, hg, h => by
    rw [anyS_cons] at h ⊢
    obtain ⟨q, h1, h2⟩ := Option.bind_eq_some_iff.1 h
    rw [hg a (.head _) s q h1, Option.bind_some]
    split
    · rename_i hq; rw [if_pos hq] at h2; exact h2
    · rename_i hq; rw [if_neg hq] at h2; exact anyS_mono as1 _ r (fun u hu => hg u (.tail _ hu)) h2
theorem occF_mono {B : Bs} {v : Int} : ∀ {n : Nat} {t : Ty} {w : Vis} {r : Bool × Vis}, occF n B v t w = some r → ∀ {m : Nat}, n ≤ m → occF m B v t w = some r
  | 0, t, w, r, h, _, _ => by cases h
  | n + 1, t, w, r, h, 0, hm => by omega
  | n + 1, t, w, r, h, m + 1, hm => by
    simp only [occF] at h ⊢
    by_cases hk : t.kind = 1
    · rw [if_pos hk] at h ⊢
      by_cases hv : t.id = v
      · rw [if_pos hv] at h ⊢; exact h
      · rw [if_neg hv] at h ⊢
        cases hl : lk B t.id with
        | none => rw [hl] at h; exact h
        | some u =>
          rw [hl] at h
          simp only at h ⊢
          split
          · rename_i hc; rw [if_pos hc] at h; exact h
          · rename_i hc; rw [if_neg hc] at h; exact occF_mono h (by omega)
    · rw [if_neg hk] at h ⊢
      exact anyS_mono _ _ _ (fun u _ s r hr => occF_mono hr (by omega)) h
theorem occF_ex {B : Bs} {s : Int → Ty} (h : Inv B s) (v : Int) : ∀ t, wfT t = true → ∃ n, ∀ w, ∃ r, occF n B v t w = some r := fun t => by
  induction t using m_ind (s := s) with
  | hp t ih =>
    intro hw
    by_cases hk : t.kind = 1
    · by_cases hv : t.id = v
      · exact ⟨1, fun w => ⟨_, by simp [occF, hk, hv]; rfl⟩⟩
      · cases hl : lk B t.id with
        | none => exact ⟨1, fun w => ⟨_, by simp [occF, hk, hv, hl]; rfl⟩⟩
        | some u =>
          obtain ⟨n, hn⟩ := ih u (h.var_lt hk hl) (h.wf _ _ hl)
          refine ⟨n + 1, fun w => ?_⟩
          by_cases hc : (lk w t.id).getD 0 = 1
          · exact ⟨(false, w), by simp [occF, hk, hv, hl, hc]⟩
          · obtain ⟨r, hr⟩ := hn (st w t.id 1)
            exact ⟨r, by simp [occF, hk, hv, hl, hc, hr]⟩
    · have : ∀ us : List Ty, (∀ u ∈ us, u ∈ t.args) → ∃ n, ∀ w, ∃ r, anyS (occF n B v) us w = some r := by
        intro us
        induction us with
        | nil => intro _; exact ⟨0, fun w => ⟨_, rfl⟩⟩
        | cons a as1 iha =>
          intro hu
          obtain ⟨n1, h1⟩ := ih a (arg_lt hk (hu a (.head _))) (wf_arg hw (hu a (.head _)))
          obtain ⟨n2, h2⟩ := iha fun u q => hu u (.tail _ q)
          refine ⟨max n1 n2, fun w => ?_⟩
          obtain ⟨r1, hr1⟩ := h1 w
          obtain ⟨r2, hr2⟩ := h2 r1.2
          rw [anyS_cons, occF_mono hr1 (Nat.le_max_left _ _), Option.bind_some]
          split
          · exact ⟨_, rfl⟩
          · exact ⟨r2, anyS_mono _ _ _ (fun u _ s r hr => occF_mono hr (Nat.le_max_right _ _)) hr2⟩
      obtain ⟨n, hn⟩ := this t.args fun _ h => h
      exact ⟨n + 1, fun w => by
        obtain ⟨r, hr⟩ := hn w
        exact ⟨r, by simp [occF, hk, hr]⟩⟩
theorem MLt.trans {s : Int → Ty} {a b c : Ty} (h : MLt s a b) (k : MLt s b c) : MLt s a c := by
  unfold MLt at *; omega
def VOk (w : Vis) : Prop := ∀ x k, lk w x = some k → k = 1
def COk (s : Int → Ty) (v : Int) (w : Vis) (t : Ty) : Prop := ∀ x k, lk w x = some k → ¬ MLt s t (vr x) → occ v (s x) = false
def PostO (s : Int → Ty) (v : Int) (w w' : Vis) : Prop := ∀ x k, lk w' x = some k → k = 1 ∧ ((∃ j, lk w x = some j) ∨ occ v (s x) = false)
theorem occF_spec {B : Bs} {s : Int → Ty} (h : Inv B s) {v : Int} (hv : lk B v = none) : ∀ t, wfT t = true → ∀ (n : Nat) (w w' : Vis) (b : Bool), occF n B v t w = some (b, w') → VOk w → COk s v w t →
    (b = true → occ v (ap s t) = true) ∧ (b = false → occ v (ap s t) = false ∧ PostO s v w w') := fun t => by
  induction t using m_ind (s := s) with
  | hp t ih =>
    intro hw n w w' b ho hV hC
    have hself : PostO s v w w := fun x k hx => ⟨hV x k hx, .inl ⟨k, hx⟩⟩
    cases n with
    | zero => cases ho
    | succ n =>
      simp only [occF] at ho
      by_cases hk : t.kind = 1
      · rw [if_pos hk] at ho
        have et := wf_vr hw hk
        by_cases hid : t.id = v
        · rw [if_pos hid] at ho
          cases ho
          exact ⟨fun _ => by rw [ap_v hk, hid, h.un _ hv]; exact occ_vr.2 rfl, nofun⟩
        · rw [if_neg hid] at ho
          cases hl : lk B t.id with
          | none =>
            rw [hl] at ho
            cases ho
            refine ⟨nofun, fun _ => ⟨?_, hself⟩⟩
            rw [ap_v hk, h.un _ hl, Bool.eq_false_iff]
            exact fun q => hid (occ_vr.1 q)
          | some u =>
            rw [hl] at ho
            simp only at ho
            have hlt := h.var_lt hk hl
            have eap : ap s t = ap s u := by rw [ap_v hk, h.bd _ _ hl]
            split at ho
            · rename_i hc
              cases ho
              refine ⟨nofun, fun _ => ⟨?_, hself⟩⟩
              rw [ap_v hk]
              cases hx : lk w t.id with
              | none => rw [hx] at hc; simp at hc
              | some k => exact hC _ _ hx (by rw [← et]; unfold MLt; omega)
            · rename_i hc
              have hn : lk w t.id = none := by
                cases hx : lk w t.id with
                | none => rfl
                | some k => rw [hx, hV _ _ hx] at hc; simp at hc
              have hV1 : VOk (st w t.id 1) := fun x k hx => by
                rw [lk_st] at hx
                split at hx
                · cases hx; rfl
                · exact hV x k hx
              have hC1 : COk s v (st w t.id 1) u := fun x k hx hm => by
                rw [lk_st] at hx
                split at hx
                · rename_i e; subst e; exact absurd (by rw [← et]; exact hlt) hm
                · exact hC x k hx fun q => hm (hlt.trans q)
              obtain ⟨i1, i2⟩ := ih u hlt (h.wf _ _ hl) n _ _ _ ho hV1 hC1
              rw [eap]
              refine ⟨i1, fun hb => ⟨(i2 hb).1, fun x k hx => ?_⟩⟩
              obtain ⟨j1, j2⟩ := (i2 hb).2 x k hx
              refine ⟨j1, ?_⟩
              rcases j2 with ⟨j, hj⟩ | j2
              · rw [lk_st] at hj
                split at hj
                · rename_i e; subst e; right; rw [h.bd _ _ hl]; exact (i2 hb).1
                · exact .inl ⟨j, hj⟩
              · exact .inr j2
      · rw [if_neg hk] at ho
        have key : ∀ (us : List Ty), (∀ u ∈ us, u ∈ t.args) → ∀ (w w' : Vis) (b : Bool), anyS (occF n B v) us w = some (b, w') → VOk w → COk s v w t →
            (b = true → ∃ u ∈ us, occ v (ap s u) = true) ∧ (b = false → (∀ u ∈ us, occ v (ap s u) = false) ∧ PostO s v w w') := by
          intro us
          induction us with
          | nil =>
            intro _ w w' b ha hV hC
            cases ha
            exact ⟨nofun, fun _ => ⟨nofun, fun x k hx => ⟨hV x k hx, .inl ⟨k, hx⟩⟩⟩⟩
          | cons a as1 iha =>
            intro hu w w' b ha hV hC
            rw [anyS_cons] at ha
            obtain ⟨⟨b1, w1⟩, h1, h2⟩ := Option.bind_eq_some_iff.1 ha
            have hlt : MLt s a t := arg_lt hk (hu a (.head _))
            obtain ⟨i1, i2⟩ := ih a hlt (wf_arg hw (hu a (.head _))) n _ _ _ h1 hV fun x k hx hm => hC x k hx fun q => hm (hlt.trans q)
            cases b1 with
            | true =>
              rw [if_pos rfl] at h2
              cases h2
              exact ⟨fun _ => ⟨a, .head _, i1 rfl⟩, nofun⟩
            | false =>
              rw [if_neg (by simp)] at h2
              obtain ⟨i3, i4⟩ := i2 rfl
              obtain ⟨k1, k2⟩ := iha (fun u q => hu u (.tail _ q)) w1 w' b h2 (fun x k hx => (i4 x k hx).1) fun x k hx hm => by
                rcases (i4 x k hx).2 with ⟨j, hj⟩ | q
                · exact hC x j hj hm
                · exact q
              refine ⟨fun hb => ?_, fun hb => ?_⟩
              · obtain ⟨u, q1, q2⟩ := k1 hb; exact ⟨u, .tail _ q1, q2⟩
              · obtain ⟨q1, q2⟩ := k2 hb
                refine ⟨fun u q => ?_, fun x k hx => ?_⟩
                · rcases List.mem_cons.1 q with rfl | q
                  · exact i3
                  · exact q1 u q
                · obtain ⟨e1, e2⟩ := q2 x k hx
                  refine ⟨e1, ?_⟩
                  rcases e2 with ⟨j, hj⟩ | e2
                  · exact (i4 x j hj).2
                  · exact .inr e2
        obtain ⟨k1, k2⟩ := key t.args (fun _ q => q) w w' b ho hV hC
        refine ⟨fun hb => ?_, fun hb => ⟨?_, (k2 hb).2⟩⟩
        · obtain ⟨u, q1, q2⟩ := k1 hb
          rw [ap_n hk, occ_arg (t := .mk t.kind t.id _) hk]
          exact ⟨_, List.mem_map.2 ⟨u, q1, rfl⟩, q2⟩
        · rw [Bool.eq_false_iff]
          intro q
          rw [ap_n hk] at q
          obtain ⟨u, q1, q2⟩ := (occ_arg (t := .mk t.kind t.id _) hk).1 q
          obtain ⟨z, hz, rfl⟩ := List.mem_map.1 q1
          rw [(k2 hb).1 z hz] at q2; cases q2
/-- What bind does. -/
theorem bindF_spec {B : Bs} {s : Int → Ty} (h : Inv B s) {v : Int} (hv : lk B v = none) {t : Ty} (hw : wfT t = true) {n : Nat} {r : Bool × Bs} (hr : bindF n B v t = some r) :
    (occ v (ap s t) = true ∧ r = (false, B)) ∨ (occ v (ap s t) = false ∧ r = (true, st B v t)) := by
  unfold bindF at hr
  obtain ⟨⟨b, w'⟩, h1, h2⟩ := Option.map_eq_some_iff.1 hr
  obtain ⟨i1, i2⟩ := occF_spec h hv t hw n [] w' b h1 nofun nofun
  cases b with
  | true => exact .inl ⟨i1 rfl, by rw [← h2]; rfl⟩
  | false => exact .inr ⟨(i2 rfl).1, by rw [← h2]; rfl⟩
end Go.Abs
namespace Go.Abs
/-- A substitution that solves the bindings. -/
def Mod (θ : Int → Ty) (B : Bs) : Prop := ∀ v u, lk B v = some u → θ v = ap θ u
def NE (t : Ty) : Prop := All (fun u => u.kind ≠ 0) t
def NEB (B : Bs) : Prop := ∀ v u, lk B v = some u → NE u
def Sub (B B' : Bs) : Prop := ∀ v u, lk B v = some u → lk B' v = some u
theorem Sub.refl (B : Bs) : Sub B B := fun _ _ h => h
theorem Sub.trans {A B C : Bs} (h : Sub A B) (k : Sub B C) : Sub A C := fun v u q => k v u (h v u q)
theorem Sub.st {B : Bs} {v : Int} {t : Ty} (h : lk B v = none) : Sub B (st B v t) := fun x u hx => by
  rw [lk_st, if_neg (by rintro rfl; rw [h] at hx; cases hx)]; exact hx
theorem Mod.sub {θ : Int → Ty} {B B' : Bs} (h : Mod θ B') (k : Sub B B') : Mod θ B := fun v u q => h v u (k v u q)
theorem Inv.mod {B : Bs} {s : Int → Ty} (h : Inv B s) : Mod s B := h.bd
theorem Mod.app {θ : Int → Ty} {B : Bs} {s : Int → Ty} (h : Mod θ B) (k : Inv B s) : ∀ t, wfT t = true → ap θ (ap s t) = ap θ t := fun t => by
  induction t using m_ind (s := s) with
  | hp t ih =>
    intro hw
    by_cases hk : t.kind = 1
    · rw [ap_v (s := s) hk, ap_v (s := θ) hk]
      cases hl : lk B t.id with
      | none => rw [k.un _ hl, ap_vr]
      | some u => rw [k.bd _ _ hl, ih u (k.var_lt hk hl) (k.wf _ _ hl), h _ _ hl]
    · rw [ap_n (s := s) hk, ap_n (s := θ) hk, ap_mk hk, List.map_map]
      congr 1
      exact List.map_congr_left fun u hu => ih u (arg_lt hk hu) (wf_arg hw hu)
def up (v : Int) (r : Ty) (x : Int) : Ty := if x = v then r else vr x
theorem Inv.bind {B : Bs} {s : Int → Ty} (h : Inv B s) {v : Int} {t : Ty} (hv : lk B v = none) (hp : 0 ≤ v) (hw : wfT t = true) (ho : occ v (ap s t) = false) (hlt : t.kind = 1 → t.id < v) : Inv (st B v t) (fun x => ap (up v (ap s t)) (s x)) := by
  have hwr : wfT (ap s t) = true := wf_ap t hw fun x hx => h.wfs x (occ_pos t hw hx)
  have hr : ap (up v (ap s t)) (ap s t) = ap s t := by
    rw [ap_congr (r := vr) _ fun x hx => ?_, ap_id _ hwr]
    unfold up
    rw [if_neg (by rintro rfl; rw [ho] at hx; cases hx)]
  have hself : ap (up v (ap s t)) (s v) = ap s t := by rw [h.un _ hv, ap_vr]; unfold up; rw [if_pos rfl]
  refine ⟨fun x hx => ?_, fun x u hx => ?_, fun x u hx => ?_, fun x u hx hk => ?_, fun x u hx => ?_⟩ <;> rw [lk_st] at hx
  · split at hx
    · cases hx
    · rename_i hne; rw [h.un _ hx, ap_vr]; unfold up; rw [if_neg hne]
  · split at hx
    · rename_i e
      cases hx
      subst e
      rw [hself, ← ap_ap, hr]
    · rw [h.bd _ _ hx, ap_ap]
  · split at hx
    · cases hx; exact hw
    · exact h.wf _ _ hx
  · split at hx
    · rename_i e; cases hx; rw [e]; exact hlt hk
    · exact h.lt _ _ hx hk
  · split at hx
    · rename_i e; rw [e]; exact hp
    · exact h.pos _ _ hx
theorem Mod.st {θ : Int → Ty} {B : Bs} {v : Int} {t : Ty} (h : Mod θ B) (e : θ v = ap θ t) : Mod θ (st B v t) := fun x u hx => by
  rw [lk_st] at hx
  split at hx
  · rename_i q; cases hx; rw [q]; exact e
  · exact h x u hx
theorem NEB.st {B : Bs} {v : Int} {t : Ty} (h : NEB B) (ht : NE t) : NEB (st B v t) := fun x u hx => by
  rw [lk_st] at hx
  split at hx
  · cases hx; exact ht
  · exact h x u hx
theorem headF_NE {B : Bs} (hB : NEB B) : ∀ {n : Nat} {t r : Ty}, NE t → headF n B t = some r → NE r
  | 0, t, r, _, h => by cases h
  | n + 1, t, r, ht, h => by
    simp only [headF] at h
    split at h
    · split at h
      · cases h; exact ht
      · rename_i u hu; exact headF_NE hB (hB _ _ hu) h
    · cases h; exact ht
theorem ap_pos (s : Int → Ty) (t : Ty) : 1 ≤ (ap s t).size := size_ge _
/-- What a run of the unifier says, of whatever pair or list of pairs ('E': they are made equal; 'z': their size). -/
def USp (B : Bs) (p : Int) (c : Bool) (B' : Bs) (p' : Int) (N : Prop) (E : (Int → Ty) → Prop) (z : (Int → Ty) → Nat) : Prop :=
  ∃ s', Inv B' s' ∧ Sub B B' ∧ p' ≤ p ∧ (N → NEB B → NEB B' ∧ (c = true → E s') ∧ ∀ θ, Mod θ B → E θ → (c = true → Mod θ B') ∧ ((z θ : Int) ≤ p → c = true ∧ p - p' ≤ z θ))
def zs (θ : Int → Ty) (us : List Ty) : Nat := Ty.sizes (us.map (ap θ))
theorem zs_cons (θ : Int → Ty) (u : Ty) (us : List Ty) : zs θ (u :: us) = (ap θ u).size + zs θ us := by
  unfold zs; simp [Ty.sizes]
theorem size_node (θ : Int → Ty) {t : Ty} (hk : t.kind ≠ 1) : (ap θ t).size = 1 + zs θ t.args := by
  rw [ap_n hk, Ty.size, zs]
theorem uniL_spec {f : Ty → Ty → Bs × Int → Option (Bool × (Bs × Int))} : ∀ (as1 bs : List Ty), as1.length = bs.length → (∀ u ∈ as1, wfT u = true) → (∀ u ∈ bs, wfT u = true) →
    (∀ a ∈ as1, ∀ b ∈ bs, ∀ B s p c B' p', Inv B s → f a b (B, p) = some (c, (B', p')) → USp B p c B' p' (NE a ∧ NE b) (fun θ => ap θ a = ap θ b) (fun θ => (ap θ a).size)) →
    ∀ B s p c B' p', Inv B s → uniL f as1 bs (B, p) = some (c, (B', p')) → USp B p c B' p' ((∀ u ∈ as1, NE u) ∧ ∀ u ∈ bs, NE u) (fun θ => as1.map (ap θ) = bs.map (ap θ)) (fun θ => zs θ as1)
  | [], [], _, _, _, _, B, s, p, c, B', p', hi, hu => by
    cases hu
    exact ⟨s, hi, .refl _, Int.le_refl _, fun _ hN => ⟨hN, fun _ => rfl, fun θ hm _ => ⟨fun _ => hm, fun _ => ⟨rfl, by simp⟩⟩⟩⟩
  | a :: as1, b :: bs, hl, hwa, hwb, hf, B, s, p, c, B', p', hi, hu => by
    simp only [uniL] at hu
    obtain ⟨⟨c1, B1, p1⟩, h1, h2⟩ := Option.bind_eq_some_iff.1 hu
    obtain ⟨s1, i1, i2, i3, i4⟩ := hf a (.head _) b (.head _) B s p c1 B1 p1 hi h1
    cases c1 with
    | false =>
      rw [if_neg (by simp)] at h2
      cases h2
      refine ⟨s1, i1, i2, i3, fun hN hB => ?_⟩
      obtain ⟨k1, k2, k3⟩ := i4 ⟨hN.1 a (.head _), hN.2 b (.head _)⟩ hB
      refine ⟨k1, nofun, fun θ hm hE => ⟨nofun, fun hz => ?_⟩⟩
      simp only [List.map_cons, List.cons.injEq] at hE
      try simp only at hz
      rw [zs_cons] at hz
      have := ((k3 θ hm hE.1).2 (by dsimp only; omega)).1
      cases this
    | true =>
      rw [if_pos rfl] at h2
      obtain ⟨s2, j1, j2, j3, j4⟩ := uniL_spec as1 bs (by simpa using hl) (fun u h => hwa u (.tail _ h)) (fun u h => hwb u (.tail _ h)) (fun a ha b hb => hf a (.tail _ ha) b (.tail _ hb)) B1 s1 p1 c B' p' i1 h2
      refine ⟨s2, j1, i2.trans j2, Int.le_trans j3 i3, fun hN hB => ?_⟩
      obtain ⟨k1, k2, k3⟩ := i4 ⟨hN.1 a (.head _), hN.2 b (.head _)⟩ hB
      obtain ⟨l1, l2, l3⟩ := j4 ⟨fun u h => hN.1 u (.tail _ h), fun u h => hN.2 u (.tail _ h)⟩ k1
      refine ⟨l1, fun hc => ?_, fun θ hm hE => ?_⟩
      · have hm1 : Mod s2 B1 := j1.mod.sub j2
        have e : ap s2 a = ap s2 b := by rw [← hm1.app i1 a (hwa a (.head _)), ← hm1.app i1 b (hwb b (.head _)), k2 rfl]
        have := l2 hc
        dsimp only at this ⊢
        rw [List.map_cons, List.map_cons, e, this]
      · simp only [List.map_cons, List.cons.injEq] at hE
        obtain ⟨m1, m2⟩ := k3 θ hm hE.1
        obtain ⟨n1, n2⟩ := l3 θ (m1 rfl) hE.2
        refine ⟨n1, fun hz => ?_⟩
        try simp only at hz m2 n2 ⊢
        rw [zs_cons] at hz ⊢
        have := (m2 (by omega)).2
        have := n2 (by omega)
        exact ⟨this.1, by omega⟩
  | [], _ :: _, hl, _, _, _, _, _, _, _, _, _, _, _ => by simp at hl
  | _ :: _, [], hl, _, _, _, _, _, _, _, _, _, _, _ => by simp at hl
theorem uniF_spec : ∀ (n : Nat) (a0 b0 : Ty), wfT a0 = true → wfT b0 = true → ∀ B s p c B' p', Inv B s → uniF n a0 b0 (B, p) = some (c, (B', p')) → USp B p c B' p' (NE a0 ∧ NE b0) (fun θ => ap θ a0 = ap θ b0) (fun θ => (ap θ a0).size)
  | 0, a0, b0, _, _, B, s, p, c, B', p', hi, hu => by cases hu
  | n + 1, a0, b0, hwa, hwb, B, s, p, c, B', p', hi, hu => by
    simp only [uniF] at hu
    obtain ⟨a, e1, hu⟩ := Option.bind_eq_some_iff.1 hu
    obtain ⟨b, e2, hu⟩ := Option.bind_eq_some_iff.1 hu
    obtain ⟨wa, ea, ua⟩ := hi.head_is hwa e1
    obtain ⟨wb, eb, ub⟩ := hi.head_is hwb e2
    have ta : ∀ θ, Mod θ B → ap θ a0 = ap θ a := fun θ hm => by rw [← hm.app hi a0 hwa, ← hm.app hi a wa, ea]
    have tb : ∀ θ, Mod θ B → ap θ b0 = ap θ b := fun θ hm => by rw [← hm.app hi b0 hwb, ← hm.app hi b wb, eb]
    have back : ∀ c B' p', USp B (p - 1) c B' p' (NE a ∧ NE b) (fun θ => ap θ a = ap θ b) (fun θ => (ap θ a).size - 1) → USp B p c B' p' (NE a0 ∧ NE b0) (fun θ => ap θ a0 = ap θ b0) (fun θ => (ap θ a0).size) := by
      rintro c B' p' ⟨s', j1, j2, j3, j4⟩
      refine ⟨s', j1, j2, by omega, fun hN hB => ?_⟩
      obtain ⟨k1, k2, k3⟩ := j4 ⟨headF_NE hB hN.1 e1, headF_NE hB hN.2 e2⟩ hB
      have hm' : Mod s' B := j1.mod.sub j2
      refine ⟨k1, fun hc => by have := k2 hc; dsimp only; rw [ta _ hm', tb _ hm']; exact this, fun θ hm hE => ?_⟩
      have hE' : ap θ a = ap θ b := by rw [← ta _ hm, ← tb _ hm]; exact hE
      obtain ⟨m1, m2⟩ := k3 θ hm hE'
      refine ⟨m1, fun hz => ?_⟩
      have hp := ap_pos θ a
      try simp only at hz m2 ⊢
      rw [ta _ hm] at hz ⊢
      have := m2 (by omega)
      exact ⟨this.1, by omega⟩
    split at hu
    · cases hu
      rename_i hp
      refine ⟨s, hi, .refl _, by omega, fun _ hB => ⟨hB, nofun, fun θ hm hE => ⟨nofun, fun hz => ?_⟩⟩⟩
      have := ap_pos θ a0
      dsimp only at hz
      omega
    · split at hu
      · rename_i hk
        cases hu
        refine ⟨s, hi, .refl _, by omega, fun hN hB => ?_⟩
        have n1 := (headF_NE hB hN.1 e1).at_
        have n2 := (headF_NE hB hN.2 e2).at_
        rcases hk with h | h
        · exact absurd h n1
        · exact absurd h n2
      · split at hu
        · rename_i hk
          have va := wf_vr wa hk.1
          have vb := wf_vr wb hk.2
          have hza : ∀ θ, (ap θ a0).size ≥ 1 := fun θ => ap_pos θ a0
          cases hu
          by_cases hne : a.id = b.id
          · simp only [hne, ne_eq, not_true_eq_false, if_false]
            have hab : a = b := by rw [va, vb, hne]
            refine back _ _ _ ⟨s, hi, .refl _, Int.le_refl _, fun _ hB => ⟨hB, fun _ => by rw [hab], fun θ hm _ => ⟨fun _ => hm, fun _ => ⟨rfl, by omega⟩⟩⟩⟩
          · simp only [ne_eq, hne, not_false_eq_true, if_true]
            have hmx : lk B (max a.id b.id) = none := by
              rcases Int.le_total a.id b.id with q | q
              · rw [Int.max_eq_right q]; exact ub hk.2
              · rw [Int.max_eq_left q]; exact ua hk.1
            have hmn : lk B (min a.id b.id) = none := by
              rcases Int.le_total a.id b.id with q | q
              · rw [Int.min_eq_left q]; exact ua hk.1
              · rw [Int.min_eq_right q]; exact ub hk.2
            have pa := wf_pos wa hk.1
            have pb := wf_pos wb hk.2
            have hI := hi.bind (v := max a.id b.id) (t := vr (min a.id b.id)) hmx (by omega) (wf_vr' (by omega)) (by
              rw [ap_vr, hi.un _ hmn, Bool.eq_false_iff]
              intro q; have := occ_vr.1 q; omega) (fun _ => by show min a.id b.id < max a.id b.id; omega)
            have flip : ∀ θ : Int → Ty, θ (max a.id b.id) = ap θ (vr (min a.id b.id)) ↔ ap θ a = ap θ b := fun θ => by
              rw [ap_vr, ap_v hk.1, ap_v hk.2]
              rcases Int.le_total a.id b.id with q | q
              · rw [Int.max_eq_right q, Int.min_eq_left q]; exact eq_comm
              · rw [Int.max_eq_left q, Int.min_eq_right q]
            refine back _ _ _ ⟨_, hI, Sub.st hmx, Int.le_refl _, fun _ hB => ⟨hB.st (.mk (by show (1 : Int) ≠ 0; decide) nofun), fun _ => (flip _).1 (hI.bd _ _ (by rw [lk_st, if_pos rfl])), fun θ hm hE => ⟨fun _ => hm.st ((flip θ).2 hE), fun _ => ⟨rfl, by omega⟩⟩⟩⟩
        · rename_i hnvv
          have bindc : ∀ (x y : Ty), wfT x = true → wfT y = true → x.kind = 1 → lk B x.id = none → y.kind ≠ 1 → ∀ q, bindF n B x.id y = some q →
              USp B (p - 1) q.1 q.2 (p - 1) (NE x ∧ NE y) (fun θ => ap θ x = ap θ y) (fun θ => (ap θ x).size - 1) := by
            intro x y wx wy hx hlx hy q hq
            rcases bindF_spec hi hlx wy hq with ⟨ho, rfl⟩ | ⟨ho, rfl⟩
            · refine ⟨s, hi, .refl _, Int.le_refl _, fun _ hB => ⟨hB, nofun, fun θ hm hE => ?_⟩⟩
              exfalso
              simp only at hE
              have wy' : wfT (ap s y) = true := wf_ap y wy fun z hz => hi.wfs z (occ_pos y wy hz)
              have h1 := (size_occ (s := θ) _ wy' ho).2 (by rw [ap_n hy]; exact hy)
              rw [hm.app hi y wy, ← hE, ap_v hx] at h1
              exact Nat.lt_irrefl _ h1
            · have hI := hi.bind hlx (wf_pos wx hx) wy ho (fun h => absurd h hy)
              refine ⟨_, hI, Sub.st hlx, Int.le_refl _, fun hN hB => ⟨hB.st hN.2, fun _ => ?_, fun θ hm hE => ⟨fun _ => hm.st (by rw [← ap_v (s := θ) hx]; exact hE), fun _ => ⟨rfl, by omega⟩⟩⟩⟩
              dsimp only
              rw [ap_v (t := x) hx]; exact hI.bd _ _ (by rw [lk_st, if_pos rfl])
          split at hu
          · rename_i hka
            have hkb : b.kind ≠ 1 := fun h => hnvv ⟨hka, h⟩
            obtain ⟨q, hq, hr⟩ := Option.map_eq_some_iff.1 hu
            cases hr
            exact back _ _ _ (bindc a b wa wb hka (ua hka) hkb q hq)
          · rename_i hka
            split at hu
            · rename_i hkb
              obtain ⟨q, hq, hr⟩ := Option.map_eq_some_iff.1 hu
              cases hr
              obtain ⟨s', j1, j2, j3, j4⟩ := bindc b a wb wa hkb (ub hkb) hka q hq
              refine back _ _ _ ⟨s', j1, j2, j3, fun hN hB => ?_⟩
              obtain ⟨k1, k2, k3⟩ := j4 ⟨hN.2, hN.1⟩ hB
              refine ⟨k1, fun hc => (k2 hc).symm, fun θ hm hE => ?_⟩
              obtain ⟨m1, m2⟩ := k3 θ hm hE.symm
              refine ⟨m1, fun hz => ?_⟩
              simp only at hE hz ⊢
              rw [hE] at hz ⊢
              exact m2 hz
            · rename_i hkb
              split at hu
              · rename_i hd
                cases hu
                refine back _ _ _ ⟨s, hi, .refl _, Int.le_refl _, fun _ hB => ⟨hB, nofun, fun θ hm hE => ?_⟩⟩
                exfalso
                simp only at hE
                rw [ap_n hka, ap_n hkb] at hE
                injection hE with g1 g2 g3
                have := congrArg List.length g3
                simp only [List.length_map] at this
                rcases hd with (h | h) | h
                · exact h g1
                · exact h g2
                · exact h this
              · rename_i hd
                have d1 : a.kind = b.kind := by
                  rcases Decidable.em (a.kind = b.kind) with h | h
                  · exact h
                  · exact absurd (.inl (.inl h)) hd
                have d2 : a.id = b.id := by
                  rcases Decidable.em (a.id = b.id) with h | h
                  · exact h
                  · exact absurd (.inl (.inr h)) hd
                have d3 : a.args.length = b.args.length := by
                  rcases Decidable.em (a.args.length = b.args.length) with h | h
                  · exact h
                  · exact absurd (.inr h) hd
                obtain ⟨s', j1, j2, j3, j4⟩ := uniL_spec a.args b.args d3 (fun u h => wf_arg wa h) (fun u h => wf_arg wb h) (fun x hx y hy B s p c B' p' hI hf => uniF_spec n x y (wf_arg wa hx) (wf_arg wb hy) B s p c B' p' hI hf) B s (p - 1) c B' p' hi hu
                refine back _ _ _ ⟨s', j1, j2, j3, fun hN hB => ?_⟩
                obtain ⟨k1, k2, k3⟩ := j4 ⟨fun u h => hN.1.arg h, fun u h => hN.2.arg h⟩ hB
                refine ⟨k1, fun hc => ?_, fun θ hm hE => ?_⟩
                · have := k2 hc
                  simp only at this ⊢
                  rw [ap_n hka, ap_n hkb, d1, d2, this]
                · simp only at hE
                  have hE' := hE
                  rw [ap_n hka, ap_n hkb] at hE'
                  injection hE' with _ _ g3
                  obtain ⟨m1, m2⟩ := k3 θ hm g3
                  refine ⟨m1, fun hz => ?_⟩
                  have := size_node θ hka
                  simp only at hz m2 ⊢
                  rw [this] at hz ⊢
                  have := m2 (by omega)
                  exact ⟨this.1, by omega⟩
end Go.Abs
namespace Go.Abs
theorem uniL_mono {f f' : Ty → Ty → Bs × Int → Option (Bool × (Bs × Int))} : ∀ (as1 bs : List Ty) (s : Bs × Int) (r : Bool × (Bs × Int)), (∀ a ∈ as1, ∀ b ∈ bs, ∀ s r, f a b s = some r → f' a b s = some r) → uniL f as1 bs s = some r → uniL f' as1 bs s = some r
  | a :: as1, b :: bs, s, r, hf, h => by
    simp only [uniL] at h ⊢
    obtain ⟨q, h1, h2⟩ := Option.bind_eq_some_iff.1 h
    rw [hf a (.head _) b (.head _) _ _ h1, Option.bind_some]
    split
    · rename_i hq; rw [if_pos hq] at h2; exact uniL_mono as1 bs _ _ (fun a ha b hb => hf a (.tail _ ha) b (.tail _ hb)) h2
    · rename_i hq; rw [if_neg hq] at h2; exact h2
  | [], bs, s, r, hf, h => by cases bs <;> exact h
  | a :: as1, [], s, r, hf, h => h
theorem bindF_mono {B : Bs} {v : Int} {t : Ty} {n m : Nat} {r : Bool × Bs} (h : bindF n B v t = some r) (hm : n ≤ m) : bindF m B v t = some r := by
  unfold bindF at h ⊢
  obtain ⟨q, hq, e⟩ := Option.map_eq_some_iff.1 h
  rw [occF_mono hq hm, Option.map_some, e]
theorem uniF_mono : ∀ {n : Nat} {a b : Ty} {s : Bs × Int} {r : Bool × (Bs × Int)}, uniF n a b s = some r → ∀ {m : Nat}, n ≤ m → uniF m a b s = some r
  | 0, a, b, s, r, h, _, _ => by cases h
  | n + 1, a, b, s, r, h, 0, hm => by omega
  | n + 1, a0, b0, s, r, h, m + 1, hm => by
    have hm' : n ≤ m := by omega
    simp only [uniF] at h ⊢
    obtain ⟨a, e1, h⟩ := Option.bind_eq_some_iff.1 h
    obtain ⟨b, e2, h⟩ := Option.bind_eq_some_iff.1 h
    rw [headF_mono e1 hm', Option.bind_some, headF_mono e2 hm', Option.bind_some]
    split
    · rename_i c; rw [if_pos c] at h; exact h
    · rename_i c; rw [if_neg c] at h
      split
      · rename_i c; rw [if_pos c] at h; exact h
      · rename_i c; rw [if_neg c] at h
        split
        · rename_i c; rw [if_pos c] at h; exact h
        · rename_i c; rw [if_neg c] at h
          split
          · rename_i c; rw [if_pos c] at h
            obtain ⟨q, hq, e⟩ := Option.map_eq_some_iff.1 h
            rw [bindF_mono hq hm', Option.map_some, e]
          · rename_i c; rw [if_neg c] at h
            split
            · rename_i c; rw [if_pos c] at h
              obtain ⟨q, hq, e⟩ := Option.map_eq_some_iff.1 h
              rw [bindF_mono hq hm', Option.map_some, e]
            · rename_i c; rw [if_neg c] at h
              split
              · rename_i c; rw [if_pos c] at h; exact h
              · rename_i c; rw [if_neg c] at h
                exact uniL_mono _ _ _ _ (fun a _ b _ s r hr => uniF_mono hr hm') h
theorem bindF_ex {B : Bs} {s : Int → Ty} (h : Inv B s) (v : Int) {t : Ty} (hw : wfT t = true) : ∃ n r, bindF n B v t = some r := by
  obtain ⟨n, hn⟩ := occF_ex h v t hw
  obtain ⟨r, hr⟩ := hn []
  exact ⟨n, _, by unfold bindF; rw [hr]; rfl⟩
theorem uniF_ex : ∀ (k : Nat) (a0 b0 : Ty), wfT a0 = true → wfT b0 = true → ∀ B s p, Inv B s → p ≤ (k : Int) → ∃ n r, uniF n a0 b0 (B, p) = some r := by
  intro k
  induction k with
  | zero =>
    intro a0 b0 hwa hwb B s p hi hp
    obtain ⟨n1, a, e1, -⟩ := hi.head a0 hwa
    obtain ⟨n2, b, e2, -⟩ := hi.head b0 hwb
    refine ⟨max n1 n2 + 1, (false, (B, p - 1)), ?_⟩
    simp only [uniF]
    rw [headF_mono e1 (Nat.le_max_left _ _), Option.bind_some, headF_mono e2 (Nat.le_max_right _ _), Option.bind_some, if_pos (by omega)]
  | succ k ih =>
    intro a0 b0 hwa hwb B s p hi hp
    obtain ⟨n1, a, e1, wa, -⟩ := hi.head a0 hwa
    obtain ⟨n2, b, e2, wb, -⟩ := hi.head b0 hwb
    have key : ∀ (as1 bs : List Ty), (∀ u ∈ as1, wfT u = true) → (∀ u ∈ bs, wfT u = true) → ∀ B s p, Inv B s → p ≤ (k : Int) → ∃ n r, uniL (uniF n) as1 bs (B, p) = some r := by
      intro as1
      induction as1 with
      | nil => intro bs _ _ B s p _ _; exact ⟨0, (true, (B, p)), by cases bs <;> rfl⟩
      | cons x as1 iha =>
        intro bs hx hy B s p hi hp
        cases bs with
        | nil => exact ⟨0, (true, (B, p)), rfl⟩
        | cons y bs =>
          obtain ⟨m1, ⟨c1, B1, p1⟩, h1⟩ := ih x y (hx x (.head _)) (hy y (.head _)) B s p hi hp
          obtain ⟨s1, i1, i2, i3, i4⟩ := uniF_spec m1 x y (hx x (.head _)) (hy y (.head _)) B s p c1 B1 p1 hi h1
          obtain ⟨m2, r2, h2⟩ := iha bs (fun u h => hx u (.tail _ h)) (fun u h => hy u (.tail _ h)) B1 s1 p1 i1 (by omega)
          refine ⟨max m1 m2, if c1 = true then r2 else (false, (B1, p1)), ?_⟩
          simp only [uniL]
          rw [uniF_mono h1 (Nat.le_max_left _ _), Option.bind_some]
          split
          · exact uniL_mono _ _ _ _ (fun a _ b _ s r hr => uniF_mono hr (Nat.le_max_right _ _)) h2
          · rfl
    obtain ⟨n3, q3, h3⟩ := bindF_ex hi a.id wb
    obtain ⟨n4, q4, h4⟩ := bindF_ex hi b.id wa
    obtain ⟨n5, q5, h5⟩ := key a.args b.args (fun u h => wf_arg wa h) (fun u h => wf_arg wb h) B s (p - 1) hi (by omega)
    have f1 := headF_mono e1 (m := n1 + n2 + n3 + n4 + n5) (by omega)
    have f2 := headF_mono e2 (m := n1 + n2 + n3 + n4 + n5) (by omega)
    have f3 := bindF_mono h3 (m := n1 + n2 + n3 + n4 + n5) (by omega)
    have f4 := bindF_mono h4 (m := n1 + n2 + n3 + n4 + n5) (by omega)
    have f5 := uniL_mono _ _ _ _ (fun a _ b _ s r hr => uniF_mono hr (m := n1 + n2 + n3 + n4 + n5) (by omega)) h5
    refine ⟨n1 + n2 + n3 + n4 + n5 + 1, ?_⟩
    simp only [uniF]
    rw [f1, Option.bind_some, f2, Option.bind_some, f3, f4, f5]
    split
    · exact ⟨_, rfl⟩
    · split
      · exact ⟨_, rfl⟩
      · split
        · exact ⟨_, rfl⟩
        · split
          · exact ⟨_, rfl⟩
          · split
            · exact ⟨_, rfl⟩
            · split
              · exact ⟨_, rfl⟩
              · exact ⟨_, rfl⟩
/-! Resolve -/
theorem rsvF_ok {B : Bs} {s : Int → Ty} (h : Inv B s) : ∀ t, wfT t = true → ∃ n, ∀ m, n ≤ m → okR m B t ∧ rsvF m B t = ap s t := by
  have node : ∀ (k : Nat) (t : Ty), (ap s t).size ≤ k → t.kind ≠ 1 → wfT t = true → ∃ n, ∀ m, n ≤ m → okR m B t ∧ rsvF m B t = ap s t := by
    intro k
    induction k with
    | zero => intro t hs; have := ap_pos s t; omega
    | succ k ih =>
      intro t hs hk hw
      have sub : ∀ u, wfT u = true → (∀ x, occ x u = true → (s x).size ≤ k) → ∃ n, ∀ m, n ≤ m → All (fun u => u.kind = 1 → ∃ h, headF m B u = some h ∧ (h.kind ≠ 1 → okR m B h)) u ∧ mapT (resG m B (rsvF m B)) u = ap s u := fun u => by
        induction u using Ty.ind with
        | h u ihu =>
          intro hwu hb
          by_cases hku : u.kind = 1
          · obtain ⟨n1, r, e1, w1, a1, -⟩ := h.head u hwu
            have hsz := hb u.id ((occ_var hwu hku).2 rfl)
            have hnil := wf_var hwu hku
            by_cases hr : r.kind = 1
            · refine ⟨n1, fun m hm => ?_⟩
              have f1 := headF_mono e1 hm
              constructor
              · cases u with | mk kk ii us =>
                  simp only [Ty.args] at hnil; subst hnil
                  exact .mk (fun _ => ⟨r, f1, fun q => absurd hr q⟩) nofun
              · rw [mapT_eq]
                have hg : resG m B (rsvF m B) u = (r, true) := by simp [resG, hku, f1, hr]
                rw [hg]
                simp only [if_true]
                have hrn : lk B r.id = none := (h.head_is hwu e1).2.2 hr
                rw [← a1, ap_v hr, h.un _ hrn]
                exact wf_vr w1 hr
            · obtain ⟨n2, h2⟩ := ih r (by rw [a1, ap_v hku]; exact hsz) hr w1
              refine ⟨n1 + n2, fun m hm => ?_⟩
              have f1 := headF_mono e1 (m := m) (by omega)
              obtain ⟨g1, g2⟩ := h2 m (by omega)
              constructor
              · cases u with | mk kk ii us =>
                  simp only [Ty.args] at hnil; subst hnil
                  exact .mk (fun _ => ⟨r, f1, fun _ => g1⟩) nofun
              · rw [mapT_eq]
                have hg : resG m B (rsvF m B) u = (rsvF m B r, true) := by simp [resG, hku, f1, hr]
                rw [hg]
                simp only [if_true]
                rw [g2, a1]
          · have lst : ∀ us : List Ty, (∀ v ∈ us, v ∈ u.args) → ∃ n, ∀ m, n ≤ m → ∀ v ∈ us, All (fun u => u.kind = 1 → ∃ h, headF m B u = some h ∧ (h.kind ≠ 1 → okR m B h)) v ∧ mapT (resG m B (rsvF m B)) v = ap s v := by
              intro us
              induction us with
              | nil => intro _; exact ⟨0, fun m _ v hv => by cases hv⟩
              | cons x us ihs =>
                intro hu
                obtain ⟨n1, h1⟩ := ihu x (hu x (.head _)) (wf_arg hwu (hu x (.head _))) fun y hy => hb y ((occ_arg hku).2 ⟨x, hu x (.head _), hy⟩)
                obtain ⟨n2, h2⟩ := ihs fun v q => hu v (.tail _ q)
                refine ⟨n1 + n2, fun m hm v hv => ?_⟩
                rcases List.mem_cons.1 hv with e | hv
                · rw [e]; exact h1 m (by omega)
                · exact h2 m (by omega) v hv
            obtain ⟨n, hn⟩ := lst u.args fun _ q => q
            refine ⟨n, fun m hm => ⟨?_, ?_⟩⟩
            · have := hn m hm
              cases u with | mk kk ii us => exact .mk (fun q => absurd q hku) fun v hv => (this v hv).1
            · rw [mapT_eq]
              have hg : (resG m B (rsvF m B) u).2 = false := by simp [resG, hku]
              rw [hg]
              simp only [Bool.false_eq_true, if_false]
              rw [ap_n hku]
              congr 1
              exact List.map_congr_left fun v hv => (hn m hm v hv).2
      obtain ⟨n, hn⟩ := sub t hw fun x hx => by have := (size_occ (s := s) t hw hx).2 hk; omega
      refine ⟨n + 1, fun m hm => ?_⟩
      cases m with
      | zero => omega
      | succ m => exact hn m (by omega)
  intro t hw
  by_cases hk : t.kind = 1
  · obtain ⟨n1, r, e1, w1, a1, u1⟩ := h.head t hw
    have hnil := wf_var hw hk
    have et := wf_vr hw hk
    by_cases hr : r.kind = 1
    · refine ⟨n1 + 1, fun m hm => ?_⟩
      cases m with
      | zero => omega
      | succ m =>
        have f1 := headF_mono e1 (m := m) (by omega)
        constructor
        · show All _ t
          rw [et] at f1 ⊢
          exact .mk (fun _ => ⟨r, f1, fun q => absurd hr q⟩) nofun
        · show mapT _ t = _
          rw [mapT_eq]
          have hg : resG m B (rsvF m B) t = (r, true) := by simp [resG, hk, f1, hr]
          rw [hg]
          simp only [if_true]
          rw [← a1, ap_v hr, h.un _ (u1 hr)]
          exact wf_vr w1 hr
    · obtain ⟨n2, h2⟩ := node _ r (Nat.le_refl _) hr w1
      refine ⟨n1 + n2 + 1, fun m hm => ?_⟩
      cases m with
      | zero => omega
      | succ m =>
        have f1 := headF_mono e1 (m := m) (by omega)
        obtain ⟨g1, g2⟩ := h2 m (by omega)
        constructor
        · show All _ t
          rw [et] at f1 ⊢
          exact .mk (fun _ => ⟨r, f1, fun _ => g1⟩) nofun
        · show mapT _ t = _
          rw [mapT_eq]
          have hg : resG m B (rsvF m B) t = (rsvF m B r, true) := by simp [resG, hk, f1, hr]
          rw [hg]
          simp only [if_true]
          rw [g2, a1]
  · exact node _ t (Nat.le_refl _) hk hw
end Go.Abs
namespace Go.Abs
theorem st_new {α : Type} : ∀ {B : List (Int × α)} {v : Int} {t : α}, lk B v = none → st B v t = B ++ [(v, t)]
  | [], v, t, _ => rfl
  | e :: B, v, t, h => by
    simp only [lk] at h
    split at h
    · cases h
    · rename_i hne
      simp only [st, if_neg hne, List.cons_append, st_new h]
theorem lk_none {α : Type} : ∀ {B : List (Int × α)} {v : Int}, lk B v = none → v ∉ B.map (·.1)
  | [], v, _ => by simp
  | e :: B, v, h => by
    simp only [lk] at h
    split at h
    · cases h
    · rename_i hne
      rw [List.map_cons, List.mem_cons]
      rintro (q | q)
      · exact hne q.symm
      · exact lk_none h q
/-- What a run leaves of the list itself. -/
structure BOk (B : Bs) : Prop where
  nd : (B.map (·.1)).Nodup
  sz : ∀ e ∈ B, e.2.size ≤ 100
theorem BOk.st {B : Bs} {v : Int} {t : Ty} (h : BOk B) (hv : lk B v = none) (ht : t.size ≤ 100) : BOk (st B v t) ∧ (Go.Abs.st B v t).length = B.length + 1 := by
  rw [st_new hv]
  refine ⟨⟨?_, fun e he => ?_⟩, by simp⟩
  · rw [List.map_append, List.nodup_append]
    refine ⟨h.nd, by simp, fun a ha b hb => ?_⟩
    simp at hb; subst hb; rintro rfl; exact lk_none hv ha
  · rcases List.mem_append.1 he with he | he
    · exact h.sz e he
    · simp at he; subst he; exact ht
theorem BOk.lk {B : Bs} (h : BOk B) : ∀ {v : Int} {t : Ty}, Go.Abs.lk B v = some t → t.size ≤ 100 := by
  have : ∀ (B : Bs) (v : Int) (t : Ty), Go.Abs.lk B v = some t → ∃ e ∈ B, e.2 = t := by
    intro B
    induction B with
    | nil => intro v t h; cases h
    | cons e B ih =>
      intro v t h
      simp only [Go.Abs.lk] at h
      split at h
      · cases h; exact ⟨e, .head _, rfl⟩
      · obtain ⟨x, hx, e1⟩ := ih v t h; exact ⟨x, .tail _ hx, e1⟩
  intro v t hl
  obtain ⟨e, he, rfl⟩ := this B v t hl
  exact h.sz e he
theorem headF_sz {B : Bs} (hB : BOk B) : ∀ {n : Nat} {t r : Ty}, t.size ≤ 100 → headF n B t = some r → r.size ≤ 100
  | 0, t, r, _, h => by cases h
  | n + 1, t, r, ht, h => by
    simp only [headF] at h
    split at h
    · split at h
      · cases h; exact ht
      · rename_i u hu; exact headF_sz hB (hB.lk hu) h
    · cases h; exact ht
def LenP (B : Bs) (p : Int) (B' : Bs) (p' : Int) : Prop := BOk B' ∧ (B'.length : Int) + p' ≤ B.length + p
theorem vr_size (x : Int) : (vr x).size = 1 := rfl
theorem uni_len : ∀ (n : Nat) (a0 b0 : Ty), wfT a0 = true → wfT b0 = true → a0.size ≤ 100 → b0.size ≤ 100 → ∀ B s p c B' p', Inv B s → BOk B → uniF n a0 b0 (B, p) = some (c, (B', p')) → LenP B p B' p'
  | 0, a0, b0, _, _, _, _, B, s, p, c, B', p', _, _, hu => by cases hu
  | n + 1, a0, b0, hwa, hwb, hsa, hsb, B, s, p, c, B', p', hi, hB, hu => by
    simp only [uniF] at hu
    obtain ⟨a, e1, hu⟩ := Option.bind_eq_some_iff.1 hu
    obtain ⟨b, e2, hu⟩ := Option.bind_eq_some_iff.1 hu
    obtain ⟨wa, ea, ua⟩ := hi.head_is hwa e1
    obtain ⟨wb, eb, ub⟩ := hi.head_is hwb e2
    have za := headF_sz hB hsa e1
    have zb := headF_sz hB hsb e2
    have same : LenP B p B (p - 1) := ⟨hB, by omega⟩
    have bnd : ∀ v t, lk B v = none → t.size ≤ 100 → LenP B p (st B v t) (p - 1) := fun v t hv ht => by
      obtain ⟨h1, h2⟩ := hB.st hv ht
      exact ⟨h1, by rw [h2]; omega⟩
    have bf : ∀ v t, lk B v = none → wfT t = true → t.size ≤ 100 → ∀ q, bindF n B v t = some q → LenP B p q.2 (p - 1) := fun v t hv hw ht q hq => by
      rcases bindF_spec hi hv hw hq with ⟨_, rfl⟩ | ⟨_, rfl⟩
      · exact same
      · exact bnd v t hv ht
    split at hu
    · cases hu; exact same
    · split at hu
      · cases hu; exact same
      · split at hu
        · rename_i hk
          cases hu
          split
          · refine bnd _ _ ?_ (by show (vr _).size ≤ 100; rw [vr_size]; omega)
            rcases Int.le_total a.id b.id with q | q
            · rw [Int.max_eq_right q]; exact ub hk.2
            · rw [Int.max_eq_left q]; exact ua hk.1
          · exact same
        · split at hu
          · rename_i hka
            obtain ⟨q, hq, hr⟩ := Option.map_eq_some_iff.1 hu
            cases hr
            exact bf _ _ (ua hka) wb zb q hq
          · split at hu
            · rename_i hkb
              obtain ⟨q, hq, hr⟩ := Option.map_eq_some_iff.1 hu
              cases hr
              exact bf _ _ (ub hkb) wa za q hq
            · split at hu
              · cases hu; exact same
              · have key : ∀ (as1 bs : List Ty), (∀ u ∈ as1, wfT u = true ∧ u.size ≤ 100) → (∀ u ∈ bs, wfT u = true ∧ u.size ≤ 100) → ∀ B s p c B' p', Inv B s → BOk B → uniL (uniF n) as1 bs (B, p) = some (c, (B', p')) → LenP B p B' p' := by
                  intro as1
                  induction as1 with
                  | nil => intro bs _ _ B s p c B' p' _ hB hu; cases bs <;> cases hu <;> exact ⟨hB, Int.le_refl _⟩
                  | cons x as1 ih =>
                    intro bs hx hy B s p c B' p' hi hB hu
                    cases bs with
                    | nil => cases hu; exact ⟨hB, Int.le_refl _⟩
                    | cons y bs =>
                      simp only [uniL] at hu
                      obtain ⟨⟨c1, B1, p1⟩, h1, h2⟩ := Option.bind_eq_some_iff.1 hu
                      obtain ⟨l1, l2⟩ := uni_len n x y (hx x (.head _)).1 (hy y (.head _)).1 (hx x (.head _)).2 (hy y (.head _)).2 B s p c1 B1 p1 hi hB h1
                      obtain ⟨s1, i1, -⟩ := uniF_spec n x y (hx x (.head _)).1 (hy y (.head _)).1 B s p c1 B1 p1 hi h1
                      split at h2
                      · obtain ⟨m1, m2⟩ := ih bs (fun u h => hx u (.tail _ h)) (fun u h => hy u (.tail _ h)) B1 s1 p1 c B' p' i1 l1 h2
                        exact ⟨m1, by omega⟩
                      · cases h2; exact ⟨l1, l2⟩
                obtain ⟨l1, l2⟩ := key a.args b.args (fun u h => ⟨wf_arg wa h, by have := Ty.size_arg h; omega⟩) (fun u h => ⟨wf_arg wb h, by have := Ty.size_arg h; omega⟩) B s (p - 1) c B' p' hi hB hu
                exact ⟨l1, by omega⟩
/-! Depths stay small. -/
def wsum (P : Int → Bool) : Bs → Nat
  | [] => 0
  | e :: B => (if P e.1 = true then e.2.size else 0) + wsum P B
theorem wsum_mono {P Q : Int → Bool} : ∀ (B : Bs), (∀ x, P x = true → Q x = true) → wsum P B ≤ wsum Q B
  | [], _ => Nat.le_refl _
  | e :: B, h => by
    have ih := wsum_mono B h
    simp only [wsum]
    by_cases hp : P e.1 = true
    · rw [if_pos hp, if_pos (h _ hp)]; omega
    · rw [if_neg hp]; omega
theorem wsum_add {P Q : Int → Bool} {y : Int} {u : Ty} : ∀ (B : Bs), (∀ x, P x = true → Q x = true) → P y = false → Q y = true → lk B y = some u → wsum P B + u.size ≤ wsum Q B
  | [], _, _, _, h => by cases h
  | e :: B, h, hp, hq, hl => by
    simp only [lk] at hl
    simp only [wsum]
    split at hl
    · rename_i he
      cases hl
      have ih := wsum_mono B h
      rw [if_neg (by rw [he, hp]; simp), if_pos (by rw [he]; exact hq)]
      omega
    · have ih := wsum_add B h hp hq hl
      by_cases hp' : P e.1 = true
      · rw [if_pos hp', if_pos (h _ hp')]; omega
      · rw [if_neg hp']; omega
theorem wsum_le {P : Int → Bool} : ∀ (B : Bs), (∀ e ∈ B, e.2.size ≤ 100) → wsum P B ≤ B.length * 100
  | [], _ => Nat.le_refl _
  | e :: B, h => by
    have ih := wsum_le (P := P) B fun x hx => h x (.tail _ hx)
    have := h e (.head _)
    simp only [wsum]
    rw [List.length_cons, Nat.succ_mul]
    split <;> omega
def mle (s : Int → Ty) (t : Ty) (x : Int) : Bool := decide ((M1 s (vr x) < M1 s t) ∨ (M1 s (vr x) = M1 s t ∧ M2 (vr x) ≤ M2 t))
theorem depL_lt : ∀ (us : List Ty) (m K : Int), m ≤ K → (∀ u ∈ us, dep u + 1 ≤ K) → depL (us.map dep) m ≤ K
  | [], m, K, h, _ => h
  | u :: us, m, K, h, hu => by
    rw [List.map_cons, depL_cons]
    exact depL_lt us _ K (by have := hu u (.head _); omega) fun v hv => hu v (.tail _ hv)
theorem dep_bound {B : Bs} {s : Int → Ty} (h : Inv B s) : ∀ t, wfT t = true → dep (ap s t) ≤ (t.size : Int) + wsum (mle s t) B := fun t => by
  induction t using m_ind (s := s) with
  | hp t ih =>
    intro hw
    by_cases hk : t.kind = 1
    · have et := wf_vr hw hk
      rw [ap_v hk]
      cases hl : lk B t.id with
      | none =>
        rw [h.un _ hl]
        have : dep (vr t.id) = 1 := by rw [dep_eq]; rfl
        have := size_ge t
        omega
      | some u =>
        rw [h.bd _ _ hl]
        have hlt := h.var_lt hk hl
        have i1 := ih u hlt (h.wf _ _ hl)
        have i2 := wsum_add (P := mle s u) (Q := mle s t) B (fun x hx => by
          simp only [mle, decide_eq_true_eq] at hx ⊢; unfold MLt at hlt; omega) (by
          simp only [mle, decide_eq_false_iff_not]; rw [← et]; unfold MLt at hlt; omega) (by
          simp only [mle, decide_eq_true_eq]; rw [← et]; omega) hl
        have := size_ge t
        omega
    · rw [ap_n hk, dep_eq]
      refine depL_lt _ _ _ (by have := size_ge t; omega) fun v hv => ?_
      obtain ⟨u, hu, rfl⟩ := List.mem_map.1 hv
      have hlt : MLt s u t := arg_lt hk hu
      have i1 := ih u hlt (wf_arg hw hu)
      have i2 := wsum_mono (P := mle s u) (Q := mle s t) B (fun x hx => by
        simp only [mle, decide_eq_true_eq] at hx ⊢; unfold MLt at hlt; omega)
      have := Ty.size_arg hu
      omega
end Go.Abs
namespace Go.Abs
theorem extL_mono {f f' : Ty → Kn → Option ((Int × Int) × Kn)} : ∀ (us : List Ty) (e : Int × Int) (k : Kn) (r : (Int × Int) × Kn), (∀ u ∈ us, ∀ k r, f u k = some r → f' u k = some r) → extL f us e k = some r → extL f' us e k = some r
  | [], e, k, r, _, h => h
  | a :: as1, e, k, r, hf, h => by
    simp only [extL] at h ⊢
    obtain ⟨q, h1, h2⟩ := Option.bind_eq_some_iff.1 h
    rw [hf a (.head _) _ _ h1, Option.bind_some]
    exact extL_mono as1 _ _ _ (fun u hu => hf u (.tail _ hu)) h2
theorem extF_mono {B : Bs} : ∀ {n : Nat} {t : Ty} {k : Kn} {r : (Int × Int) × Kn}, extF n B t k = some r → ∀ {m : Nat}, n ≤ m → extF m B t k = some r
  | 0, t, k, r, h, _, _ => by cases h
  | n + 1, t, k, r, h, 0, hm => by omega
  | n + 1, t, k, r, h, m + 1, hm => by
    simp only [extF] at h ⊢
    by_cases hk : t.kind = 1
    · rw [if_pos hk] at h ⊢
      cases hl : lk k t.id with
      | some e => rw [hl] at h; exact h
      | none =>
        rw [hl] at h
        simp only at h ⊢
        cases hb : lk B t.id with
        | none => rw [hb] at h; exact h
        | some u =>
          rw [hb] at h
          simp only at h ⊢
          obtain ⟨q, h1, h2⟩ := Option.map_eq_some_iff.1 h
          rw [extF_mono h1 (by omega), Option.map_some, h2]
    · rw [if_neg hk] at h ⊢
      obtain ⟨q, h1, h2⟩ := Option.map_eq_some_iff.1 h
      rw [extL_mono _ _ _ _ (fun u _ k r hr => extF_mono hr (by omega)) h1, Option.map_some, h2]
theorem extF_ex {B : Bs} {s : Int → Ty} (h : Inv B s) : ∀ t, wfT t = true → ∃ n, ∀ k, ∃ r, extF n B t k = some r := fun t => by
  induction t using m_ind (s := s) with
  | hp t ih =>
    intro hw
    by_cases hk : t.kind = 1
    · cases hb : lk B t.id with
      | none =>
        refine ⟨1, fun k => ?_⟩
        cases hl : lk k t.id with
        | some e => exact ⟨(e, k), by simp [extF, hk, hl]⟩
        | none => exact ⟨((1, 1), k), by simp [extF, hk, hl, hb]⟩
      | some u =>
        obtain ⟨n, hn⟩ := ih u (h.var_lt hk hb) (h.wf _ _ hb)
        refine ⟨n + 1, fun k => ?_⟩
        cases hl : lk k t.id with
        | some e => exact ⟨(e, k), by simp [extF, hk, hl]⟩
        | none =>
          obtain ⟨r, hr⟩ := hn k
          exact ⟨_, by simp [extF, hk, hl, hb, hr]; rfl⟩
    · have : ∀ us : List Ty, (∀ u ∈ us, u ∈ t.args) → ∃ n, ∀ e k, ∃ r, extL (extF n B) us e k = some r := by
        intro us
        induction us with
        | nil => intro _; exact ⟨0, fun e k => ⟨_, rfl⟩⟩
        | cons a as1 iha =>
          intro hu
          obtain ⟨n1, h1⟩ := ih a (arg_lt hk (hu a (.head _))) (wf_arg hw (hu a (.head _)))
          obtain ⟨n2, h2⟩ := iha fun u q => hu u (.tail _ q)
          refine ⟨max n1 n2, fun e k => ?_⟩
          obtain ⟨r1, hr1⟩ := h1 k
          simp only [extL]
          rw [extF_mono hr1 (Nat.le_max_left _ _), Option.bind_some]
          obtain ⟨r2, hr2⟩ := h2 (min (IntKind.i64.wrap (e.1 + r1.1.1)) 200, max e.2 r1.1.2) r1.2
          exact ⟨r2, extL_mono _ _ _ _ (fun u _ k r hr => extF_mono hr (Nat.le_max_right _ _)) hr2⟩
      obtain ⟨n, hn⟩ := this t.args fun _ h => h
      exact ⟨n + 1, fun k => by
        obtain ⟨r, hr⟩ := hn (1, 0) k
        exact ⟨_, by simp [extF, hk, hr]; rfl⟩⟩
def KOk (s : Int → Ty) (k : Kn) : Prop := ∀ x e, lk k x = some e → e = (min ((s x).size : Int) 200, dep (s x))
def foldD : List Ty → Int → Int
  | [], m => m
  | u :: us, m => foldD us (max m (dep u))
theorem depL_fold : ∀ (us : List Ty) (m : Int), depL (us.map dep) (m + 1) = foldD us m + 1
  | [], m => rfl
  | u :: us, m => by
    rw [List.map_cons, depL_cons, show max (m + 1) (dep u + 1) = max m (dep u) + 1 by omega, depL_fold us]; rfl
theorem extF_spec {B : Bs} {s : Int → Ty} (h : Inv B s) (hB : BOk B) (hD : ∀ t, wfT t = true → t.size ≤ 100 → dep (ap s t) ≤ 4611686018427387904) : ∀ t, wfT t = true → t.size ≤ 100 → ∀ (n : Nat) (k k' : Kn) (e : Int × Int), extF n B t k = some (e, k') → KOk s k →
    e = (min ((ap s t).size : Int) 200, dep (ap s t)) ∧ KOk s k' := fun t => by
  induction t using m_ind (s := s) with
  | hp t ih =>
    intro hw hz n k k' e he hK
    cases n with
    | zero => cases he
    | succ n =>
      simp only [extF] at he
      by_cases hk : t.kind = 1
      · rw [if_pos hk] at he
        rw [ap_v hk]
        cases hl : lk k t.id with
        | some e0 =>
          rw [hl] at he
          cases he
          exact ⟨hK _ _ hl, hK⟩
        | none =>
          rw [hl] at he
          simp only at he
          cases hb : lk B t.id with
          | none =>
            rw [hb] at he
            cases he
            rw [h.un _ hb]
            refine ⟨?_, hK⟩
            have : dep (vr t.id) = 1 := by rw [dep_eq]; rfl
            rw [this, vr_size]; rfl
          | some u =>
            rw [hb] at he
            simp only at he
            obtain ⟨⟨e1, k1⟩, h1, h2⟩ := Option.map_eq_some_iff.1 he
            cases h2
            obtain ⟨i1, i2⟩ := ih u (h.var_lt hk hb) (h.wf _ _ hb) (hB.lk hb) n _ _ _ h1 hK
            rw [h.bd _ _ hb]
            refine ⟨i1, fun x e hx => ?_⟩
            rw [lk_st] at hx
            split at hx
            · rename_i q; cases hx; rw [q, h.bd _ _ hb]; exact i1
            · exact i2 x e hx
      · rw [if_neg hk] at he
        obtain ⟨⟨e1, k1⟩, h1, h2⟩ := Option.map_eq_some_iff.1 he
        cases h2
        have key : ∀ (us : List Ty), (∀ u ∈ us, u ∈ t.args) → ∀ (A : Nat) (D : Int) (k k' : Kn) (e : Int × Int), extL (extF n B) us (min (A : Int) 200, D) k = some (e, k') → KOk s k → e = (min ((A + zs s us : Nat) : Int) 200, foldD (us.map (ap s)) D) ∧ KOk s k' := by
          intro us
          induction us with
          | nil =>
            intro _ A D k k' e he hK
            cases he
            exact ⟨by simp [zs, Ty.sizes, foldD], hK⟩
          | cons a as1 iha =>
            intro hu A D k k' e he hK
            simp only [extL] at he
            obtain ⟨⟨e1, k1⟩, h1, h2⟩ := Option.bind_eq_some_iff.1 he
            have hsz : a.size ≤ 100 := by have := Ty.size_arg (hu a (.head _)); omega
            obtain ⟨i1, i2⟩ := ih a (arg_lt hk (hu a (.head _))) (wf_arg hw (hu a (.head _))) hsz n _ _ _ h1 hK
            subst i1
            simp only at h2
            have hwr : min (IntKind.i64.wrap (min (A : Int) 200 + min ((ap s a).size : Int) 200)) 200 = min ((A + (ap s a).size : Nat) : Int) 200 := by
              rw [wrap_id (by omega) (by omega)]; omega
            rw [hwr] at h2
            obtain ⟨j1, j2⟩ := iha (fun u q => hu u (.tail _ q)) (A + (ap s a).size) (max D (dep (ap s a))) k1 k' e h2 i2
            refine ⟨?_, j2⟩
            rw [j1, zs_cons]
            simp only [List.map_cons, foldD]
            rw [Nat.add_assoc]
        obtain ⟨j1, j2⟩ := key t.args (fun _ q => q) 1 0 k k1 e1 h1 hK
        refine ⟨?_, j2⟩
        have hd : dep (ap s t) = foldD (t.args.map (ap s)) 0 + 1 := by
          rw [ap_n hk, dep_eq]
          exact depL_fold (t.args.map (ap s)) 0
        have hdb := hD t hw hz
        have hd1 := (dep_bd (ap s t)).1
        rw [j1]
        simp only
        rw [wrap_id (by omega) (by omega), ← hd, size_node s hk]
def fits (s : Int → Ty) (t : Ty) : Bool := decide (((ap s t).size : Int) ≤ 100) && decide (dep (ap s t) ≤ 12)
theorem withinF_spec {B : Bs} {s : Int → Ty} (h : Inv B s) (hB : BOk B) (hD : ∀ t, wfT t = true → t.size ≤ 100 → dep (ap s t) ≤ 4611686018427387904) {t : Ty} (hw : wfT t = true) (hz : t.size ≤ 100) : ∃ n, ∀ m, n ≤ m → withinF m B t = some (fits s t) := by
  obtain ⟨n, hn⟩ := extF_ex h t hw
  obtain ⟨⟨e, k⟩, hr⟩ := hn []
  refine ⟨n, fun m hm => ?_⟩
  unfold withinF
  rw [extF_mono hr hm, Option.map_some]
  have := (extF_spec h hB hD t hw hz n [] k e hr nofun).1
  rw [this]
  simp only [fits]
  congr 2
  by_cases q : ((ap s t).size : Int) ≤ 100
  · rw [decide_eq_true q, decide_eq_true (by omega)]
  · rw [decide_eq_false q, decide_eq_false (by omega)]
end Go.Abs
namespace Go.Abs
open Go.Proofs
def SortsNil (P : Program) (f g : FuncId) : Prop := ∀ (ad : Option Addr) (cap : Nat) (w : World), Calls P f #[.slice ad 0 cap, .func (.func g) #[] #[]] w fun e w' => e = .returned (.tuple #[]) ∧ w' = w
theorem acalls_sortNil {P : Program} {f g : FuncId} (HC : SortsNil P f g) {H : Heap} {tl : Tail} : ACalls P f [.slice [] tl, .fn (.func g) [] []] H fun r' H' => r' = .tup [] ∧ H' = H := by
  intro E vargs ho hH hrl
  obtain ⟨hs, hv⟩ := hrl
  simp at hs
  have v0 : VRel E.view (vargs.getD 0 undef) (.slice [] tl) := hv 0 (by simp)
  have v1 : VRel E.view (vargs.getD 1 undef) (.fn (.func g) [] []) := hv 1 (by simp)
  have e0 : ∃ ad cap, vargs.getD 0 undef = .slice ad 0 cap := by
    generalize vargs.getD 0 undef = q at v0
    cases v0
    · exact ⟨_, _, rfl⟩
    · have hl := ‹([] : List PV).length = _›
      exact ⟨_, _, by rw [← hl]; rfl⟩
  obtain ⟨ad, cap, e0⟩ := e0
  have e1 : vargs.getD 1 undef = .func (.func g) #[] #[] := by
    generalize vargs.getD 1 undef = q at v1
    cases v1
    rename_i a b _ _ _ _
    have ha : a = #[] := Array.eq_empty_of_size_eq_zero (by assumption)
    have hb : b = #[] := Array.eq_empty_of_size_eq_zero (by assumption)
    rw [ha, hb]
  have hv : vargs = #[.slice ad 0 cap, .func (.func g) #[] #[]] := by
    refine Array.ext (by simpa using hs) fun i hi hi' => ?_
    simp at hi'
    match i, hi' with
    | 0, _ => simpa [Array.getD, hs] using e0
    | 1, _ => simpa [Array.getD, hs] using e1
  subst hv
  refine (HC ad cap E.w).mono ?_
  rintro e w' ⟨rfl, rfl⟩
  exact ⟨E, .tuple #[], .tup [], rfl, rfl, .refl E, ho, .tup _ _ rfl (fun i hi => absurd hi (by simp)), rfl, hH⟩
abbrev UQ := List Nat × Heap × Option (List Bd × Nat)
def unseen (m : Nat) (seen : List Nat) : Nat := ((List.range m).filter fun i => !seen.contains i).length
theorem unseen_lt {m i : Nat} {seen : List Nat} (hi : i < m) (hn : i ∉ seen) : unseen m (seen ++ [i]) < unseen m seen := by
  unfold unseen
  refine filter_lt (fun i => !seen.contains i) (fun j => !(seen ++ [i]).contains j) (fun x hx => ?_) i (by simpa using hn) (by simp) _ (List.mem_range.2 hi)
  simp at hx ⊢
  exact hx.1
def entB (B : Bs) (i : Nat) : Int × Ty := B.getD i (0, .mk 0 0 [])
theorem entB_eq {B : Bs} {i : Nat} (h : i < B.length) : entB B i = B[i] := by unfold entB; rw [List.getD_eq_getElem?_getD, List.getElem?_eq_getElem h]; rfl
structure UOk (n : Nat) (B : Bs) (q : UQ) : Prop where
  nd : q.1.Nodup
  lt : ∀ i ∈ q.1, i < B.length
  cnt : unseen B.length q.1 + q.1.length ≤ B.length
  g : HBel 0 q.2.1
  pl : match q.2.2 with
    | none => q.1 = []
    | some (L, z) => L = q.1.map (fun i => resB n B (entB B i)) ∧ L ≠ []
  ok : ∀ i ∈ q.1, inB n B (entB B i) = true
theorem UOk.start (n : Nat) (B : Bs) : UOk n B ([], [], none) := by
  refine ⟨.nil, nofun, ?_, hbel_nil _, rfl, nofun⟩
  simp only [List.length_nil, Nat.add_zero]
  unfold unseen
  exact Nat.le_trans (List.length_filter_le _ _) (by simp)
theorem UOk.step {n : Nat} {B : Bs} {q : UQ} {i : Nat} {G : Heap} {L : List Bd} {z : Nat} (h : UOk n B q) (hi : i < B.length) (hn : i ∉ q.1) (hG : HBel 0 G) (hL : L = (q.1 ++ [i]).map (fun i => resB n B (entB B i))) (hin : inB n B (entB B i) = true) : UOk n B (q.1 ++ [i], G, some (L, z)) := by
  have := unseen_lt hi hn
  refine ⟨?_, ?_, ?_, hG, ⟨hL, by rw [hL]; simp⟩, ?_⟩
  · rw [List.nodup_append]
    exact ⟨h.nd, by simp, fun a ha b hb => by simp at hb; subst hb; rintro rfl; exact hn ha⟩
  · intro j hj
    rcases List.mem_append.1 hj with hj | hj
    · exact h.lt j hj
    · simp at hj; subst hj; exact hi
  · have := h.cnt
    simp only [List.length_append, List.length_singleton]; omega
  · intro j hj
    rcases List.mem_append.1 hj with hj | hj
    · exact h.ok j hj
    · simp at hj; subst hj; exact hin
theorem UOk.lenL {n : Nat} {B : Bs} {seen : List Nat} {G : Heap} {L : List Bd} {z : Nat} (h : UOk n B (seen, G, some (L, z))) : L.length = seen.length ∧ seen.length ≤ B.length := by
  have h1 := h.pl
  have h2 := h.cnt
  simp only at h1 h2
  exact ⟨by rw [h1.1, List.length_map], by omega⟩
theorem map_entB (n : Nat) (B : Bs) : (List.range B.length).map (fun i => resB n B (entB B i)) = B.map (resB n B) := by
  refine List.ext_getElem (by simp) fun i h1 h2 => ?_
  simp only [List.getElem_map, List.getElem_range]
  rw [entB_eq (by simpa using h2)]
theorem UOk.all {n : Nat} {B : Bs} {q : UQ} (h : UOk n B q) (ha : ∀ i < B.length, i ∈ q.1) : B.all (inB n B) = true ∧ (q.1.map (fun i => resB n B (entB B i))).Perm (B.map (resB n B)) := by
  constructor
  · rw [List.all_eq_true]
    intro e he
    obtain ⟨i, hi, rfl⟩ := List.mem_iff_getElem.1 he
    have := h.ok i (ha i hi)
    rwa [entB_eq hi] at this
  · rw [← map_entB]
    refine List.Perm.map _ ((List.perm_ext_iff_of_nodup h.nd List.nodup_range).2 fun i => ⟨fun hi => List.mem_range.2 (h.lt i hi), fun hi => ha i (List.mem_range.1 hi)⟩)
theorem keysB (n : Nat) (B : Bs) : (B.map (resB n B)).map (·.v) = B.map (·.1) := by rw [List.map_map]; rfl
theorem UOk.sorted {n : Nat} {B : Bs} {q : UQ} (h : UOk n B q) (ha : ∀ i < B.length, i ∈ q.1) (hk : (B.map (·.1)).Nodup) : sortB (q.1.map (fun i => resB n B (entB B i))) = sortB (B.map (resB n B)) ∧ ((q.1.map (fun i => resB n B (entB B i))).map (·.v)).Nodup := by
  obtain ⟨_, hp⟩ := h.all ha
  have hn : ((B.map (resB n B)).map (·.v)).Nodup := by rw [keysB]; exact hk
  exact ⟨eq_sortB ((sortB_perm _).trans hp) (sortB_le _) hn, (hp.map _).nodup_iff.2 hn⟩
theorem hpU_get0 (B : Bs) (p : Int) (seen : List Nat) (G : Heap) (R : Option (List Bd × Nat)) (X : Heap) : (hpU B p seen G R ++ X)[0]? = some (.obj (.mapo (mp Ty.enc B))) ∧ (hpU B p seen G R ++ X)[1]? = some (.row [.mapp 0, .int .i64 p]) ∧ (hpU B p seen G R ++ X)[2]? = some (.obj (.miter 0 (mp Ty.enc B).length seen)) := by
  cases R <;> exact ⟨rfl, rfl, rfl⟩
theorem hpU_set2 (B : Bs) (p : Int) (seen seen' : List Nat) (G : Heap) (R : Option (List Bd × Nat)) : (hpU B p seen G R).set 2 (.obj (.miter 0 (mp Ty.enc B).length seen')) = hpU B p seen' G R := by
  cases R <;> rfl
def lenU (G : Heap) : Option (List Bd × Nat) → Nat
  | none => 3 + G.length
  | some _ => 4 + G.length
theorem hpU_len (B : Bs) (p : Int) (seen : List Nat) (G : Heap) (R : Option (List Bd × Nat)) : (hpU B p seen G R).length = lenU G R := by
  cases R <;> simp [hpU, lenU] <;> omega
theorem hpU_row (B : Bs) (p : Int) (seen : List Nat) (G : Heap) (L : List Bd) (z : Nat) (X : Heap) : (hpU B p seen G (some (L, z)) ++ X)[3 + G.length]? = some (.row (rowU L z)) := by
  simp only [hpU, List.cons_append, List.append_assoc]
  rw [show 3 + G.length = G.length + 1 + 1 + 1 by omega, List.getElem?_cons_succ, List.getElem?_cons_succ, List.getElem?_cons_succ, List.getElem?_append_right (Nat.le_refl _), Nat.sub_self]; rfl
theorem hpU_setrow (B : Bs) (p : Int) (seen : List Nat) (G : Heap) (L L' : List Bd) (z z' : Nat) (X : Heap) : (hpU B p seen G (some (L, z)) ++ X).set (3 + G.length) (.row (rowU L' z')) = hpU B p seen G (some (L', z')) ++ X := by
  simp only [hpU, List.cons_append, List.append_assoc]
  rw [show 3 + G.length = G.length + 1 + 1 + 1 by omega, List.set_cons_succ, List.set_cons_succ, List.set_cons_succ, List.set_append_right _ _ (Nat.le_refl _), Nat.sub_self]; rfl
theorem hpU_first (B : Bs) (p : Int) (seen : List Nat) (G X : Heap) (L : List Bd) (z : Nat) : hpU B p seen G none ++ X ++ [.row (rowU L z)] = hpU B p seen (G ++ X) (some (L, z)) := by
  simp [hpU]
theorem hpU_next (B : Bs) (p : Int) (seen : List Nat) (G X : Heap) (L L' : List Bd) (z z' : Nat) : hpU B p seen G (some (L, z)) ++ X ++ [.row (rowU L' z')] = hpU B p seen (G ++ (.row (rowU L z) :: X)) (some (L', z')) := by
  simp [hpU]
theorem hbel_hpU (B : Bs) (p : Int) (seen : List Nat) {G : Heap} (hG : HBel 0 G) (R : Option (List Bd × Nat)) (m : Nat) (hm : 0 < m) : HBel m (hpU B p seen G R) := by
  have hg : HBel m G := fun o ho => (hG o ho).mono (Nat.zero_le _)
  have h0 : OBel m (.obj (.mapo (mp Ty.enc B))) := fun e he => by obtain ⟨x, _, rfl⟩ := List.mem_map.1 he; exact Ty.bel _ _
  have h1 : OBel m (.row [.mapp 0, .int .i64 p]) := by
    intro c hc
    simp at hc
    rcases hc with rfl | rfl
    · exact .mapp _ hm
    · exact .int _ _
  have h2 : OBel m (.obj (.miter 0 (mp Ty.enc B).length seen)) := hm
  match R with
  | none => exact HBel.cons h0 (HBel.cons h1 (HBel.cons h2 hg))
  | some (L, z) =>
    refine HBel.cons h0 (HBel.cons h1 (HBel.cons h2 fun o ho => ?_))
    rcases List.mem_append.1 ho with h | h
    · exact hg o h
    · rw [List.mem_singleton.1 h]; exact obel_rowU m L z
theorem bel_slotU (G : Heap) (R : Option (List Bd × Nat)) (m : Nat) (h : lenU G R ≤ m) : Bel m (slotU G R) := by
  match R with
  | none => exact bel_nil0 _
  | some (L, z) => exact .msl _ _ _ _ (by simp [lenU] at h; omega)
end Go.Abs
namespace Go.Abs
theorem lenU_ge (G : Heap) (R : Option (List Bd × Nat)) : 3 ≤ lenU G R := by cases R <;> simp [lenU] <;> omega
theorem hpU_rules (B : Bs) (p : Int) (G : Heap) (R : Option (List Bd × Nat)) :
    (∀ seen Y, (hpU B p seen G R ++ Y)[lenU G R]? = Y[0]?) ∧ (∀ seen Y k, (hpU B p seen G R ++ Y)[lenU G R + k]? = Y[k]?) ∧ (∀ seen Y o, (hpU B p seen G R ++ Y).set (lenU G R) o = hpU B p seen G R ++ Y.set 0 o) ∧ (∀ seen Y k o, (hpU B p seen G R ++ Y).set (lenU G R + k) o = hpU B p seen G R ++ Y.set k o) ∧
    (∀ seen, (hpU B p seen G R).length = lenU G R) ∧ (∀ seen Y, (hpU B p seen G R ++ Y)[0]? = some (.obj (.mapo (mp Ty.enc B)))) ∧ (∀ seen Y, (hpU B p seen G R ++ Y)[1]? = some (.row [.mapp 0, .int .i64 p])) ∧ (∀ seen Y, (hpU B p seen G R ++ Y)[2]? = some (.obj (.miter 0 (mp Ty.enc B).length seen))) := by
  refine ⟨fun s Y => ?_, fun s Y k => ?_, fun s Y o => ?_, fun s Y k o => ?_, fun s => hpU_len .., fun s Y => (hpU_get0 B p s G R Y).1, fun s Y => (hpU_get0 B p s G R Y).2.1, fun s Y => (hpU_get0 B p s G R Y).2.2⟩
  · rw [← hpU_len B p s]; exact get_app0 _ _
  · rw [← hpU_len B p s]; exact get_app _ _ _
  · rw [← hpU_len B p s]; exact set_app0 _ _ _
  · rw [← hpU_len B p s]; exact set_app _ _ _ _
end Go.Abs

namespace Go.Abs
theorem hpU_row0 (B : Bs) (p : Int) (seen : List Nat) (G : Heap) (L : List Bd) (z : Nat) : (hpU B p seen G (some (L, z)))[3 + G.length]? = some (.row (flatE (L.map Bd.enc) ++ (List.replicate z [PV.int .i64 0, .int .i64 0, .int .i64 0, .slice [] .full]).flatten)) := by
  have := hpU_row B p seen G L z []
  rw [List.append_nil] at this
  exact this
end Go.Abs
namespace Go.Abs
theorem val_wf {t : Ty} (h : valT t = 0) : wfT t = true := by
  unfold valT at h
  split at h
  · cases h
  · split at h
    · cases h
    · rename_i q; simpa using q
theorem good_of {e : Eq2} (h : bad e = false) : (wfT e.l = true ∧ e.l.size ≤ 100) ∧ (wfT e.r = true ∧ e.r.size ≤ 100) := by
  unfold bad at h
  rw [Bool.or_eq_false_iff] at h
  have h1 : valT e.l = 0 := by simpa using h.1
  have h2 : valT e.r = 0 := by simpa using h.2
  exact ⟨⟨val_wf h1, val_size h1⟩, ⟨val_wf h2, val_size h2⟩⟩
def EGood (eqs : List Eq2) : Prop := ∀ e ∈ eqs, (wfT e.l = true ∧ e.l.size ≤ 100) ∧ (wfT e.r = true ∧ e.r.size ≤ 100)
def ENE (eqs : List Eq2) : Prop := ∀ e ∈ eqs, NE e.l ∧ NE e.r
def Solves (θ : Int → Ty) (eqs : List Eq2) : Prop := ∀ e ∈ eqs, ap θ e.l = ap θ e.r
theorem solveF_mono : ∀ {n m : Nat} (eqs : List Eq2) {B : Bs} {r : Bool × Bs}, solveF n eqs B = some r → n ≤ m → solveF m eqs B = some r
  | n, m, [], B, r, h, _ => h
  | n, m, e :: es, B, r, h, hm => by
    simp only [solveF] at h ⊢
    obtain ⟨q, h1, h2⟩ := Option.bind_eq_some_iff.1 h
    rw [uniF_mono h1 hm, Option.bind_some]
    split
    · rename_i c; rw [if_pos c] at h2; exact solveF_mono es h2 hm
    · rename_i c; rw [if_neg c] at h2; exact h2
/-- What a run over equations says. -/
structure SSp (eqs : List Eq2) (B : Bs) (c : Bool) (B' : Bs) (s' : Int → Ty) : Prop where
  inv : Inv B' s'
  sub : Sub B B'
  ok : BOk B'
  len : c = true → B'.length ≤ B.length + eqs.length * 20000
  ne : ENE eqs → NEB B → NEB B'
  sol : ENE eqs → NEB B → c = true → Solves s' eqs
  mod : ENE eqs → NEB B → ∀ θ, Mod θ B → Solves θ eqs → (c = true → Mod θ B') ∧ ((∀ e ∈ eqs, (ap θ e.l).size ≤ 20000) → c = true)
  run : ∃ n, solveF n eqs B = some (c, B')
theorem solve_spec : ∀ (n : Nat) (eqs : List Eq2), EGood eqs → ∀ B s c B', Inv B s → BOk B → solveF n eqs B = some (c, B') → ∃ s', SSp eqs B c B' s'
  | n, [], _, B, s, c, B', hi, hB, h => by
    cases h
    exact ⟨s, hi, .refl _, hB, fun _ => (by simp), fun _ h => h, fun _ _ _ e he => (by cases he), fun _ _ θ hm _ => ⟨fun _ => hm, fun _ => rfl⟩, ⟨n, rfl⟩⟩
  | n, e :: es, hg, B, s, c, B', hi, hB, h => by
    have hfull := h
    simp only [solveF] at h
    obtain ⟨⟨c1, B1, p1⟩, h1, h2⟩ := Option.bind_eq_some_iff.1 h
    obtain ⟨⟨wl, zl⟩, ⟨wr, zr⟩⟩ := hg e (.head _)
    obtain ⟨s1, i1, i2, i3, i4⟩ := uniF_spec n e.l e.r wl wr B s 20000 c1 B1 p1 hi h1
    obtain ⟨l1, l2⟩ := uni_len n e.l e.r wl wr zl zr B s 20000 c1 B1 p1 hi hB h1
    cases c1 with
    | false =>
      rw [if_neg (by simp)] at h2
      cases h2
      refine ⟨s1, ⟨i1, i2, l1, fun h => (by cases h), fun hN hb => (i4 (hN e (.head _)) hb).1, fun _ _ h => (by cases h), fun hN hb θ hm hs => ⟨fun h => (by cases h), fun hz => ?_⟩, ⟨n, hfull⟩⟩⟩
      have := ((i4 (hN e (.head _)) hb).2.2 θ hm (hs e (.head _))).2 (by have := hz e (.head _); dsimp only; omega)
      exact this.1
    | true =>
      rw [if_pos rfl] at h2
      obtain ⟨s2, j⟩ := solve_spec n es (fun x hx => hg x (.tail _ hx)) B1 s1 c B' i1 l1 h2
      have hp1 : 0 ≤ p1 := by
        have := uni_pos n e.l e.r (B, 20000) (true, (B1, p1)) h1 rfl (by show (0 : Int) ≤ 20000; omega)
        exact this
      refine ⟨s2, j.inv, i2.trans j.sub, j.ok, fun hc => ?_, fun hN hb => j.ne (fun x hx => hN x (.tail _ hx)) (i4 (hN e (.head _)) hb).1, fun hN hb hc x hx => ?_, fun hN hb θ hm hs => ?_, ⟨n, hfull⟩⟩
      · have := j.len hc
        rw [List.length_cons, Nat.succ_mul]; omega
      · rcases List.mem_cons.1 hx with rfl | hx
        · have := (i4 (hN x (.head _)) hb).2.1 rfl
          have hm1 : Mod s2 B1 := j.inv.mod.sub j.sub
          rw [← hm1.app i1 x.l wl, ← hm1.app i1 x.r wr, this]
        · exact j.sol (fun x hx => hN x (.tail _ hx)) (i4 (hN e (.head _)) hb).1 hc x hx
      · have m1 := ((i4 (hN e (.head _)) hb).2.2 θ hm (hs e (.head _))).1 rfl
        obtain ⟨k1, k2⟩ := j.mod (fun x hx => hN x (.tail _ hx)) (i4 (hN e (.head _)) hb).1 θ m1 fun x hx => hs x (.tail _ hx)
        exact ⟨k1, fun hz => k2 fun x hx => hz x (.tail _ hx)⟩
where
  uni_pos : ∀ (n : Nat) (a b : Ty) (s : Bs × Int) (r : Bool × (Bs × Int)), uniF n a b s = some r → r.1 = true → 0 ≤ s.2 → 0 ≤ r.2.2
    | 0, a, b, s, r, h, _, _ => by cases h
    | n + 1, a0, b0, s, r, h, hc, hp => by
      simp only [uniF] at h
      obtain ⟨a, e1, h⟩ := Option.bind_eq_some_iff.1 h
      obtain ⟨b, e2, h⟩ := Option.bind_eq_some_iff.1 h
      split at h
      · cases h; cases hc
      · split at h
        · cases h; simp; omega
        · split at h
          · cases h; simp; omega
          · split at h
            · obtain ⟨q, hq, rfl⟩ := Option.map_eq_some_iff.1 h; simp; omega
            · split at h
              · obtain ⟨q, hq, rfl⟩ := Option.map_eq_some_iff.1 h; simp; omega
              · split at h
                · cases h; cases hc
                · have key : ∀ (xs ys : List Ty) (s : Bs × Int) (r : Bool × (Bs × Int)), uniL (uniF n) xs ys s = some r → r.1 = true → 0 ≤ s.2 → 0 ≤ r.2.2 := by
                    intro xs
                    induction xs with
                    | nil => intro ys s r h _ hp; cases ys <;> cases h <;> exact hp
                    | cons x xs ih =>
                      intro ys s r h hc hp
                      cases ys with
                      | nil => cases h; exact hp
                      | cons y ys =>
                        simp only [uniL] at h
                        obtain ⟨q, h1, h2⟩ := Option.bind_eq_some_iff.1 h
                        split at h2
                        · rename_i hq; exact ih ys _ _ h2 hc (uni_pos n x y s q h1 hq hp)
                        · cases h2; cases hc
                  exact key _ _ _ _ h hc (by simp; omega)
theorem solve_ex : ∀ (eqs : List Eq2), EGood eqs → ∀ B s, Inv B s → BOk B → ∃ n r, solveF n eqs B = some r
  | [], _, B, s, _, _ => ⟨0, _, rfl⟩
  | e :: es, hg, B, s, hi, hB => by
    obtain ⟨⟨wl, zl⟩, ⟨wr, zr⟩⟩ := hg e (.head _)
    obtain ⟨n1, ⟨c1, B1, p1⟩, h1⟩ := uniF_ex 20000 e.l e.r wl wr B s 20000 hi (by omega)
    obtain ⟨s1, i1, -⟩ := uniF_spec n1 e.l e.r wl wr B s 20000 c1 B1 p1 hi h1
    obtain ⟨l1, -⟩ := uni_len n1 e.l e.r wl wr zl zr B s 20000 c1 B1 p1 hi hB h1
    obtain ⟨n2, r2, h2⟩ := solve_ex es (fun x hx => hg x (.tail _ hx)) B1 s1 i1 l1
    refine ⟨max n1 n2, if c1 = true then r2 else (false, B1), ?_⟩
    simp only [solveF]
    rw [uniF_mono h1 (Nat.le_max_left _ _), Option.bind_some]
    split
    · exact solveF_mono es h2 (Nat.le_max_right _ _)
    · rfl
theorem inv_nil : Inv [] vr := ⟨fun _ _ => rfl, nofun, nofun, nofun, nofun⟩
theorem bok_nil : BOk [] := ⟨.nil, nofun⟩
end Go.Abs
set_option maxRecDepth 4000
namespace Go.Abs
open Go.Proofs

theorem bel_Ty (n : Nat) (us : List Ty) : Bel n (.slice (us.map Ty.enc) .none) := bel_slice_ty n us
theorem index (xs : List Int) (n : Int) (hx : xs.length ≤ maxLen) : PC Try.prog 85 [.slice (xs.map vint) .none, vint n] (vint (idxI (fun x => decide (n = x)) xs)) := by
  refine pc_of (N := 19) Try.func85 rfl rfl (by simp) (by simp [bel_ints0, Bel.int]) (.int _ _) ?_
  repeat (refine awp_seq ?_)
  refine e_eval (by simp only [jA, jO, jN, seval, vint, TyS, TyF] <;> with_reducible rfl) (by decide) ?_
  repeat (refine awp_seq ?_)
  refine e_eval (by simp only [jA, jO, jN, seval, y3, y50, vint, TyS, TyF] <;> with_reducible rfl) (by decide) ?_
  repeat (refine awp_seq ?_)
  refine awp_forS (σ := Unit) (xs.length) (fun (s : Unit) => [(0, .slice (xs.map vint) .none), (1, vint n)]) [0, 1] ([]) (fun (s : Unit) => []) (fun (i : Nat) (s : Unit) => (xs.take i).any (fun x => decide (n = x)) = false) (()) ([]) rfl rfl rfl rfl rfl rfl rfl rfl rfl (by decide) (by decide) (by decide) (fun _ => rfl) (hx) ⟨(by first | rfl | (simp only [jN, seval, vint, TyS, TyF] <;> first | done | with_reducible rfl)), (by first | rfl | (simp only [jN, seval, vint, TyS, TyF] <;> first | done | with_reducible rfl)), (by first | rfl | (simp only [jN, seval, vint, TyS, TyF] <;> first | done | with_reducible rfl)), (by first | rfl | (simp only [jN, seval, vint, TyS, TyF] <;> first | done | with_reducible rfl)), trivial⟩ (by first | rfl | (simp only [jN, seval, vint, TyS, TyF] <;> first | done | with_reducible rfl)) (by simp) (fun _ _ _ => by first | exact Nat.zero_le _ | (simp only [List.length_append]; omega)) ?_ ?_ ?_
  · exact fun i s hg => ⟨by first | exact hbel_nil _ | (simp only [List.append_nil]; assumption) | (refine hbel_app' hb' (by simp) ?_; repeat (first | exact hbel_nil _ | exact trivial | exact obel_row_nil _ | (refine HBel.cons ?_ ?_) | (refine obel_row_cons (by first | exact bel_ints0 _ _ | exact bel_slice_ty _ _ | exact Ty.bel _ _ | exact bel_ty_tok _ (by simp) | exact Bel.int _ _ | exact Bel.bool _ | exact Bel.str _ | exact Bel.nilp | exact Bel.nilfn | exact Bel.optr _ _ (by simp) | exact bel_nil0 _ | exact bel_nil1 _ | exact bel_fn0 _ _ | assumption) ?_))), by repeat (first | exact BelL.nil | refine BelL.cons (by first | exact bel_ints0 _ _ | exact bel_slice_ty _ _ | exact Ty.bel _ _ | exact bel_ty_tok _ (by simp) | exact Bel.int _ _ | exact Bel.bool _ | exact Bel.str _ | exact Bel.nilp | exact Bel.nilfn | exact Bel.optr _ _ (by simp) | exact bel_nil0 _ | exact bel_nil1 _ | exact bel_fn0 _ _ | assumption) ?_)⟩
  · intro i s hi hg
    have g1 := ix_nat hi
    have g2 := get_enc vint hi
    repeat (refine awp_seq ?_)
    refine e_eval (by simp only [jA, jO, jN, seval, vint, TyS, TyF, g1, Int.toNat_natCast, g2] <;> with_reducible rfl) (by decide) ?_
    repeat (refine awp_seq ?_)
    refine e_eval (by simp only [jA, jO, jN, seval, y3, y50, vint, TyS, TyF, g1, Int.toNat_natCast, g2] <;> with_reducible rfl) (by decide) ?_
    repeat (refine awp_seq ?_)
    refine awp_cond rfl (by simp only [jN, seval, vint, TyS, TyF, g1, Int.toNat_natCast, g2] <;> with_reducible rfl) (fun b0 => ?_) (fun b0 => ?_)
    ·
      repeat (refine awp_seq ?_)
      refine e_eval (by simp only [jA, jO, jN, seval, vint, TyS, TyF, g1, Int.toNat_natCast, g2] <;> with_reducible rfl) (by decide) ?_
      repeat (refine awp_seq ?_)
      refine awp_ret ⟨.inr rfl, _, rfl, ?_⟩
      rw [idxI_at hi b0 hg]; rfl
    ·
      repeat (refine awp_seq ?_)
      refine awp_skip ?_
      exact ⟨⟨rfl, rfl, trivial⟩, (), [], ⟨rfl, rfl, trivial⟩, rfl, any_take_succ hi hg b0⟩
  · intro s hg
    rw [List.take_length] at hg
    repeat (refine awp_seq ?_)
    refine e_eval (by simp only [jA, jO, jN, seval, vint, TyS, TyF] <;> with_reducible rfl) (by decide) ?_
    repeat (refine awp_seq ?_)
    refine awp_ret ⟨.inr rfl, _, rfl, ?_⟩
    rw [idxI_none hg]; rfl

theorem indexFuncTy {f : FuncId} {caps : List PV} {H : Heap} {us : List Ty} {p : Ty → Bool} (hc : CloB Try.prog Ty.enc f caps H us p) (hl : us.length ≤ maxLen) : ACalls Try.prog 84 [.slice (us.map Ty.enc) .none, .fn (.func f) [] caps] H fun r' H' => r' = vint (idxI p us) ∧ H' = H := by
  have hgo := hc.go
  refine keeps_of (N := 19) Try.func84 rfl rfl (by simp) (.int _ _) fun hb' => ?_
  repeat (refine awp_seq ?_)
  refine e_eval (by simp only [jA, jO, jN, seval, vint, TyS, TyF] <;> with_reducible rfl) (by decide) ?_
  repeat (refine awp_seq ?_)
  refine e_eval (by simp only [jA, jO, jN, seval, y27, y29, vint, TyS, TyF] <;> with_reducible rfl) (by decide) ?_
  repeat (refine awp_seq ?_)
  refine awp_forS (σ := Unit) (us.length) (fun (s : Unit) => [(0, .slice (us.map Ty.enc) .none), (1, .fn (.func f) [] caps)]) [0, 1] (H) (fun (s : Unit) => []) (fun (i : Nat) (s : Unit) => (us.take i).any p = false) (()) ([]) rfl rfl rfl rfl rfl rfl rfl rfl rfl (by decide) (by decide) (by decide) (fun _ => rfl) (hl) ⟨(by first | rfl | (simp only [jN, seval, vint, TyS, TyF] <;> first | done | with_reducible rfl)), (by first | rfl | (simp only [jN, seval, vint, TyS, TyF] <;> first | done | with_reducible rfl)), (by first | rfl | (simp only [jN, seval, vint, TyS, TyF] <;> first | done | with_reducible rfl)), (by first | rfl | (simp only [jN, seval, vint, TyS, TyF] <;> first | done | with_reducible rfl)), trivial⟩ (by first | rfl | (simp only [jN, seval, vint, TyS, TyF] <;> first | done | with_reducible rfl)) (by simp) (fun _ _ _ => by first | exact Nat.zero_le _ | (simp only [List.length_append]; omega)) ?_ ?_ ?_
  · exact fun i s hg => ⟨by simp only [List.append_nil]; exact hb', .cons (bel_Ty _ _) (.cons (.fn _ _ _ (by simp) (fun c hc' => (hc.bel c hc').mono (by simp))) .nil)⟩
  · intro i s hi hg
    have g1 := ix_nat hi
    have g2 := get_enc Ty.enc hi
    repeat (refine awp_seq ?_)
    refine e_eval (by simp only [jA, jO, jN, seval, vint, TyS, TyF, g1, Int.toNat_natCast, g2] <;> with_reducible rfl) (by decide) ?_
    repeat (refine awp_seq ?_)
    refine awp_region ?_
    refine e_take 5 (by simp only [jA, jO, jN, seval, y27, y29, vint, TyS, TyF, g1, Int.toNat_natCast, g2] <;> with_reducible rfl) (by decide) ?_
    refine aops_pure (by simp only [jC, jN, seval, vint, TyS, TyF, g1, Int.toNat_natCast, g2] <;> with_reducible rfl) (by simp only [jC, jN, seval, vint, TyS, TyF, g1, Int.toNat_natCast, g2]) (by decide) (by assumption) (hc.call _ (List.getElem_mem hi)) ?_
    refine aops_nil ?_
    repeat (refine awp_seq ?_)
    refine awp_cond rfl (by simp only [jN, seval, vint, TyS, TyF, g1, Int.toNat_natCast, g2] <;> with_reducible rfl) (fun b0 => ?_) (fun b0 => ?_)
    ·
      repeat (refine awp_seq ?_)
      refine e_eval (by simp only [jA, jO, jN, seval, vint, TyS, TyF, g1, Int.toNat_natCast, g2] <;> with_reducible rfl) (by decide) ?_
      repeat (refine awp_seq ?_)
      refine awp_ret ⟨.inr rfl, _, _, rfl, ?_, (by first | exact (List.append_nil _).symm | rfl)⟩
      rw [idxI_at hi b0 hg]; rfl
    ·
      repeat (refine awp_seq ?_)
      refine awp_skip ?_
      exact ⟨⟨rfl, rfl, trivial⟩, (), [], ⟨rfl, rfl, trivial⟩, by simp only [List.append_nil], any_take_succ hi hg b0⟩
  · intro s hg
    rw [List.take_length] at hg
    repeat (refine awp_seq ?_)
    refine e_eval (by simp only [jA, jO, jN, seval, vint, TyS, TyF] <;> with_reducible rfl) (by decide) ?_
    repeat (refine awp_seq ?_)
    refine awp_ret ⟨.inr rfl, _, _, rfl, ?_, (by first | exact (List.append_nil _).symm | rfl)⟩
    rw [idxI_none hg]; rfl

theorem containsFuncTy {f : FuncId} {caps : List PV} {H : Heap} {us : List Ty} {p : Ty → Bool} (hc : CloB Try.prog Ty.enc f caps H us p) (hl : us.length ≤ maxLen) : ACalls Try.prog 68 [.slice (us.map Ty.enc) .none, .fn (.func f) [] caps] H fun r' H' => r' = .bool (us.any p) ∧ H' = H := by
  refine keeps_of (N := 9) Try.func68 rfl rfl (by simp) (.bool _) fun hb' => ?_
  repeat (refine awp_seq ?_)
  refine e_eval (by simp only [jA, jO, jN, seval, vint, TyS, TyF] <;> with_reducible rfl) (by decide) ?_
  repeat (refine awp_seq ?_)
  refine awp_region ?_
  refine e_take 2 (by simp only [jA, jO, jN, seval, vint, TyS, TyF] <;> with_reducible rfl) (by decide) ?_
  refine aops_pure (by simp only [jC, jN, seval, vint, TyS, TyF] <;> with_reducible rfl) (by simp only [jC, jN, seval, vint, TyS, TyF]) (by decide) Trygo84 (indexFuncTy hc hl) ?_
  refine e_end (by simp only [jA, jO, jN, seval, y3, vint, TyS, TyF] <;> with_reducible rfl) (by decide) ?_
  repeat (refine awp_seq ?_)
  refine awp_ret ⟨.inr rfl, _, _, rfl, ?_, (by first | exact (List.append_nil _).symm | rfl)⟩
  rw [← idxI_nonneg]; rfl

/-- A function value over a heap: what it reads, what it answers. -/
structure Clo (P : Program) (f : FuncId) (caps : List PV) (rd : List (Nat × AObj)) (D : Ty → Prop) (g : Ty → Ty × Bool) : Prop where
  go : goFn P f = true
  bel : ∀ H : Heap, (∀ x ∈ rd, H[x.1]? = some x.2) → ∀ c ∈ caps, Bel H.length c
  sub : ∀ t, D t → ∀ u ∈ t.args, D u
  call : ∀ (H : Heap) (u : Ty), D u → (∀ x ∈ rd, H[x.1]? = some x.2) → ACalls P f (u.enc :: caps) H fun r' H' => r' = .tup [(g u).1.enc, .bool (g u).2] ∧ H' = H

theorem reads_app {rd : List (Nat × AObj)} {H : Heap} (h : ∀ x ∈ rd, H[x.1]? = some x.2) (L : Heap) : ∀ x ∈ rd, (H ++ L)[x.1]? = some x.2 := fun x hx => by
  have := h x hx
  rw [List.getElem?_append_left (len_of_get this)]; exact this

theorem map_k {f : FuncId} {caps : List PV} {rd : List (Nat × AObj)} {D : Ty → Prop} {g : Ty → Ty × Bool} (hc : Clo Try.prog f caps rd D g) :
    ∀ (k : Nat) (t : Ty) (H : Heap), t.size ≤ k → t.W → D t → (∀ x ∈ rd, H[x.1]? = some x.2) → ACalls Try.prog 51 [t.enc, .fn (.func f) [] caps] H fun r' H' => r' = (mapT g t).enc ∧ H' = H
  | 0, t, H, h, _, _, _ => by cases t; simp [Ty.size] at h
  | k + 1, t, H, h, hw, hd, hrd => by
    have hgo := hc.go
    refine keeps_of (N := 40) Try.func51 rfl rfl (by simp) (Ty.bel _ _) fun hb' => ?_
    repeat (refine awp_seq ?_)
    refine e_eval (by simp only [jA, jO, jN, seval, y29, vint, TyS, TyF] <;> with_reducible rfl) (by decide) ?_
    repeat (refine awp_seq ?_)
    refine awp_region ?_
    refine e_take 2 (by simp only [jA, jO, jN, seval, y29, vint, TyS, TyF] <;> with_reducible rfl) (by decide) ?_
    refine aops_pure (by simp only [jC, jN, seval, vint, TyS, TyF] <;> with_reducible rfl) (by simp only [jC, jN, seval, vint, TyS, TyF]) (by decide) (by assumption) (hc.call _ t hd (reads_app hrd _)) ?_
    refine e_end (by simp only [jA, jO, jN, seval, y29, vint, TyS, TyF] <;> with_reducible rfl) (by decide) ?_
    repeat (refine awp_seq ?_)
    refine e_eval (by simp only [jA, jO, jN, seval, vint, TyS, TyF] <;> with_reducible rfl) (by decide) ?_
    repeat (refine awp_seq ?_)
    refine awp_cond rfl (by simp only [jN, seval, vint, TyS, TyF] <;> with_reducible rfl) (fun b0 => ?_) (fun b0 => ?_)
    ·
      repeat (refine awp_seq ?_)
      refine e_eval (by simp only [jA, jO, jN, seval, y29, vint, TyS, TyF] <;> with_reducible rfl) (by decide) ?_
      repeat (refine awp_seq ?_)
      refine awp_ret ⟨.inr rfl, _, _, (ares_cell 4 29 rfl Tryti29 (by decide) (by simp only [jL, jN, seval, vint, TyS, TyF] <;> with_reducible rfl)), ?_, (by first | exact (List.append_nil _).symm | rfl)⟩
      simp only [TyF, mapT_eq g t, b0, if_true, d1_agg, LS]
      exact Ty.enc_drop1 _
    ·
      repeat (refine awp_seq ?_)
      refine awp_skip ?_
      repeat (refine awp_seq ?_)
      refine e_eval (by simp only [jA, jO, jN, seval, y3, y29, vint, TyS, TyF] <;> with_reducible rfl) (by decide) ?_
      refine awp_sel [1, 2, 4, 7] (by simp only [jN, seval, vint, TyS, TyF] <;> with_reducible rfl) ?_
      repeat (refine awp_seq ?_)
      refine e_eval (by simp only [jA, jO, jN, seval, y27, y29, vint, TyS, TyF] <;> with_reducible rfl) (by decide) ?_
      repeat (refine awp_seq ?_)
      refine awp_retok_row (H.length + 3) 2 3 (by simp only [jD, jO, jN, seval, vint, TyS, TyF] <;> with_reducible rfl) rfl ?_
      refine awp_forS (σ := List Ty) (t.args.length) (fun (s : List Ty) => [(1, .fn (.func f) [] caps), (4, .optr (H.length + 1) 0), (7, .optr (H.length + 3) 0), (24, .slice (t.args.map Ty.enc) .none)]) [1, 4, 7, 24] (H) (fun (s : List Ty) => [.row t.enc.cells, .row [.int .i64 0, .int .i64 0, .slice [] .full], .row (g t).1.enc.cells, .row [.int .i64 t.kind, .int .i64 t.id, .slice (s.map Ty.enc) (.tok (H.length + 4))], .buf s.length 3]) (fun (i : Nat) (s : List Ty) => s = (t.args.take i).map (mapT g)) ([]) ([]) rfl rfl rfl rfl rfl rfl rfl rfl rfl (by decide) (by decide) (by decide) (fun _ => rfl) (hw.lenMax) ⟨(by first | rfl | (simp only [jN, seval, vint, TyS, TyF] <;> first | done | with_reducible rfl)), (by first | rfl | (simp only [jN, seval, vint, TyS, TyF] <;> first | done | with_reducible rfl)), (by first | rfl | (simp only [jN, seval, vint, TyS, TyF] <;> first | done | with_reducible rfl)), (by first | rfl | (simp only [jN, seval, vint, TyS, TyF] <;> first | done | with_reducible rfl)), (by first | rfl | (simp only [jN, seval, vint, TyS, TyF] <;> first | done | with_reducible rfl)), (by first | rfl | (simp only [jN, seval, vint, TyS, TyF] <;> first | done | with_reducible rfl)), trivial⟩ (by first | rfl | (simp only [jN, seval, vint, TyS, TyF] <;> first | done | with_reducible rfl)) (by simp) (fun _ _ _ => by first | exact Nat.zero_le _ | (simp only [List.length_append]; omega)) ?_ ?_ ?_
      · intro i s hg
        simp only [TyS]
        refine ⟨by first | exact hbel_nil _ | (simp only [List.append_nil]; assumption) | (refine hbel_app' hb' (by simp) ?_; repeat (first | exact hbel_nil _ | exact trivial | exact obel_row_nil _ | (refine HBel.cons ?_ ?_) | (refine obel_row_cons (by first | exact bel_ints0 _ _ | exact bel_slice_ty _ _ | exact Ty.bel _ _ | exact bel_ty_tok _ (by simp) | exact Bel.int _ _ | exact Bel.bool _ | exact Bel.str _ | exact Bel.nilp | exact Bel.nilfn | exact Bel.optr _ _ (by simp) | exact bel_nil0 _ | exact bel_nil1 _ | exact bel_fn0 _ _ | assumption) ?_))), .cons (.fn _ _ _ (by simp) (fun c hc' => (hc.bel H hrd c hc').mono (by simp))) (by repeat (first | exact BelL.nil | refine BelL.cons (by first | exact bel_ints0 _ _ | exact bel_slice_ty _ _ | exact Ty.bel _ _ | exact bel_ty_tok _ (by simp) | exact Bel.int _ _ | exact Bel.bool _ | exact Bel.str _ | exact Bel.nilp | exact Bel.nilfn | exact Bel.optr _ _ (by simp) | exact bel_nil0 _ | exact bel_nil1 _ | exact bel_fn0 _ _ | assumption) ?_))⟩
      · intro i s hi hg
        have g1 := ix_nat hi
        have g2 := get_enc Ty.enc hi
        have hmem : t.args[i] ∈ t.args := List.getElem_mem hi
        have hlen := hw.len
        have hsl : s.length < t.args.length := by rw [hg, List.length_map, List.length_take]; omega
        have happ := app_ty (us := s) (u := mapT g t.args[i]) (id := H.length + 4) (tl := .full) (by omega)
        repeat (refine awp_seq ?_)
        refine e_eval (by simp only [jA, jO, jN, seval, y27, y29, vint, TyS, TyF, g1, Int.toNat_natCast, g2] <;> with_reducible rfl) (by decide) ?_
        repeat (refine awp_seq ?_)
        refine awp_draw 0 (by kernel_rfl) ?_
        refine d_take (bm := [0, 1, 0, 0, 12, 28, 63, 127, 255]) 4 (fresh := (H.length + 6)) (by kernel_rfl) (by simp only [jD, jO, jN, seval, y27, y29, vint, TyS, TyF, g1, Int.toNat_natCast, g2, happ] <;> with_reducible rfl) (by decide) (by decide) ?_
        refine dops_keep (bm := [0, 1, 0, 0, 12, 28, 63, 127, 255]) (rd.map Prod.fst) (by kernel_rfl) (by simp only [jC, jN, seval, vint, TyS, TyF, g1, Int.toNat_natCast, g2, happ] <;> with_reducible rfl) (by simp only [jC, jN, seval, vint, TyS, TyF, g1, Int.toNat_natCast, g2, happ]) (by decide) Trygo51 (fun H' hH' => map_k hc k t.args[i] H' (by have := Ty.size_arg hmem; omega) (hw.arg hmem) (hc.sub t hd _ hmem) (fun x hx => by rw [hH' x.1 (List.mem_map.2 ⟨x, hx, rfl⟩)]; exact reads_app hrd _ x hx)) (by simp only [jD, jO, jN, seval, vint, TyS, TyF, g1, Int.toNat_natCast, g2, happ] <;> first | done | rfl) ?_
        refine d_end (bm := [0, 1, 0, 0, 12, 28, 63, 127, 255]) (fresh := (H.length + 6)) (by kernel_rfl) (by simp only [jD, jO, jN, seval, y27, y29, vint, TyS, TyF, g1, Int.toNat_natCast, g2, happ] <;> with_reducible rfl) (by decide) ?_
        exact ⟨⟨rfl, rfl, trivial⟩, s ++ [mapT g t.args[i]], _, ⟨rfl, rfl, rfl, rfl, trivial⟩, by simp only [jN, seval, vint, TyS, TyF] <;> rfl, by rw [hg, map_take_succ _ hi]⟩
      · intro s hg
        rw [List.take_length] at hg
        repeat (refine awp_seq ?_)
        refine e_eval (by simp only [jA, jO, jN, seval, y29, vint, TyS, TyF] <;> with_reducible rfl) (by decide) ?_
        repeat (refine awp_seq ?_)
        refine awp_ret ⟨.inr rfl, _, _, (ares_cell 4 29 rfl Tryti29 (by decide) (by simp only [jL, jN, seval, vint, TyS, TyF] <;> with_reducible rfl)), ?_, (by first | exact (List.append_nil _).symm | rfl)⟩
        simp only [TyF, mapT_eq g t, b0, Bool.false_eq_true, if_false, d1_agg, LS, hg]
        exact Ty.enc_drop1 _

end Go.Abs
set_option maxRecDepth 4000
namespace Go.Abs
open Go.Proofs
theorem mapT_id {g : Ty → Ty × Bool} (hg : ∀ u, (g u).2 = false) : ∀ t, mapT g t = t
  | .mk k i us => by
    rw [mapT, if_neg (by rw [hg]; simp)]
    congr 1
    have : ∀ u ∈ us, mapT g u = u := fun u hu => mapT_id hg u
    rw [List.map_congr_left this, List.map_id'']
    intro x; rfl

theorem clone1 (H : Heap) (u : Ty) : ACalls Try.prog 69 [u.enc] H fun r' H' => r' = .tup [(Ty.mk 0 0 []).enc, .bool false] ∧ H' = H := by
  refine keeps_of (N := 5) Try.func69 rfl rfl (by simp) (.tup _ (by simp [Ty.bel, Bel.bool])) fun hb' => ?_
  repeat (refine awp_seq ?_)
  refine e_eval (by simp only [jA, jO, jN, seval, y29, vint, TyS, TyF] <;> with_reducible rfl) (by decide) ?_
  repeat (refine awp_seq ?_)
  refine e_eval (by simp only [jA, jO, jN, seval, y29, vint, TyS, TyF] <;> with_reducible rfl) (by decide) ?_
  repeat (refine awp_seq ?_)
  refine awp_ret ⟨.inr rfl, _, _, (ares_two (.cell 2 29) (.tmp 3) rfl (ares_cell1 Tryti29 (by decide) (by simp only [jL, jN, seval, vint, TyS, TyF] <;> with_reducible rfl)) (ares_tmp1 (by decide))), ?_, (by first | exact (List.append_nil _).symm | rfl)⟩
  simp only [jN, seval, vint, TyS, TyF]

theorem clone (t : Ty) (hw : t.W) : PC Try.prog 55 [t.enc] t.enc := by
  refine pc_of (N := 5) Try.func55 rfl rfl (by simp) (by simp [Ty.bel]) (Ty.bel _ _) ?_
  repeat (refine awp_seq ?_)
  refine e_eval (by simp only [jA, jO, jN, seval, y29, vint, TyS, TyF] <;> with_reducible rfl) (by decide) ?_
  repeat (refine awp_seq ?_)
  refine awp_region ?_
  refine e_take 1 (by simp only [jA, jO, jN, seval, y29, vint, TyS, TyF] <;> with_reducible rfl) (by decide) ?_
  refine aops_pure (by simp only [jC, jN, seval, vint, TyS, TyF] <;> with_reducible rfl) (by simp only [jC, jN, seval, vint, TyS, TyF]) (by decide) Trygo51 (map_k (D := fun _ => True) (rd := []) (g := fun _ => (Ty.mk 0 0 [], false)) ⟨Trygo69, by simp, by simp, fun H u _ _ => clone1 H u⟩ _ t _ (Nat.le_refl _) hw trivial (by simp)) ?_
  refine e_end (by simp only [jA, jO, jN, seval, y29, vint, TyS, TyF] <;> with_reducible rfl) (by decide) ?_
  repeat (refine awp_seq ?_)
  refine awp_ret ⟨.inr rfl, _, (ares_cell 2 29 rfl Tryti29 (by decide) (by simp only [jL, jN, seval, vint, TyS, TyF] <;> with_reducible rfl)), ?_⟩
  rw [mapT_id (fun _ => rfl)]
  exact Ty.enc_drop1 _

theorem typK (k i : Int) (us : List Ty) : PC Try.prog 26 [vint k, vint i, .slice (us.map Ty.enc) .none] (Ty.mk k i us).enc := by
  refine pc_of (N := 11) Try.func26 rfl rfl (by simp) (by simp [Bel.int, bel_slice_ty]) (Ty.bel _ _) ?_
  repeat (refine awp_seq ?_)
  refine e_eval (by simp only [jA, jO, jN, seval, y29, vint, TyS, TyF] <;> with_reducible rfl) (by decide) ?_
  repeat (refine awp_seq ?_)
  refine e_eval (by simp only [jA, jO, jN, seval, y29, vint, TyS, TyF] <;> with_reducible rfl) (by decide) ?_
  repeat (refine awp_seq ?_)
  refine awp_ret ⟨.inr rfl, _, (ares_cell 6 29 rfl Tryti29 (by decide) (by simp only [jL, jN, seval, vint, TyS, TyF] <;> with_reducible rfl)), ?_⟩
  simp only [jN, seval, vint, TyS, TyF]

theorem typeVarK (i : Int) : PC Try.prog 19 [vint i] (Ty.mk 1 i []).enc := by
  refine pc_of (N := 5) Try.func19 rfl rfl (by simp) (by simp [Bel.int]) (Ty.bel _ _) ?_
  repeat (refine awp_seq ?_)
  refine e_eval (by simp only [jA, jO, jN, seval, y29, vint, TyS, TyF] <;> with_reducible rfl) (by decide) ?_
  repeat (refine awp_seq ?_)
  refine awp_region ?_
  refine e_take 1 (by simp only [jA, jO, jN, seval, vint, TyS, TyF] <;> with_reducible rfl) (by decide) ?_
  refine aops_pure (by simp only [jC, jN, seval, vint, TyS, TyF] <;> with_reducible rfl) (by simp only [jC, jN, seval, vint, TyS, TyF]) (by decide) Trygo26 (typK 1 _ [] _) ?_
  refine e_end (by simp only [jA, jO, jN, seval, y29, vint, TyS, TyF] <;> with_reducible rfl) (by decide) ?_
  repeat (refine awp_seq ?_)
  refine awp_ret ⟨.inr rfl, _, (ares_cell 2 29 rfl Tryti29 (by decide) (by simp only [jL, jN, seval, vint, TyS, TyF] <;> with_reducible rfl)), ?_⟩
  simp only [jN, seval, vint, TyS, TyF]

theorem intTypeK : PC Try.prog 46 [] (Ty.mk 3 0 []).enc := by
  refine pc_of (N := 2) Try.func46 rfl rfl (by simp) (by simp) (Ty.bel _ _) ?_
  repeat (refine awp_seq ?_)
  refine e_eval (by simp only [jA, jO, jN, seval, y29, vint, TyS, TyF] <;> with_reducible rfl) (by decide) ?_
  repeat (refine awp_seq ?_)
  refine awp_region ?_
  refine aops_pure (by simp only [jC, jN, seval, vint, TyS, TyF] <;> with_reducible rfl) (by simp only [jC, jN, seval, vint, TyS, TyF]) (by decide) Trygo26 (typK 3 0 [] _) ?_
  refine e_end (by simp only [jA, jO, jN, seval, y29, vint, TyS, TyF] <;> with_reducible rfl) (by decide) ?_
  repeat (refine awp_seq ?_)
  refine awp_ret ⟨.inr rfl, _, (ares_cell 0 29 rfl Tryti29 (by decide) (by simp only [jL, jN, seval, vint, TyS, TyF] <;> with_reducible rfl)), ?_⟩
  simp only [jN, seval, vint, TyS, TyF]

end Go.Abs
set_option maxRecDepth 4000
namespace Go.Abs
open Go.Proofs

theorem measure_k : ∀ (k : Nat) (t : Ty) (L : Int), t.size ≤ k → t.W → 0 ≤ L → L ≤ 1048576 → PC Try.prog 56 [t.enc, vint L] (.tup [vint (measT t L).1, vint (measT t L).2])
  | 0, t, L, h, _, _, _ => by cases t; simp [Ty.size] at h
  | k + 1, t, L, h, hw, hL0, hL => by
    have hbd := measT_bd t L hL0
    refine pc_of (N := 38) Try.func56 rfl rfl (by simp) (by simp [Ty.bel, Bel.int]) (.tup _ (by simp [Bel.int])) ?_
    repeat (refine awp_seq ?_)
    refine e_eval (by simp only [jA, jO, jN, seval, y29, vint, TyS, TyF, BdS] <;> with_reducible rfl) (by decide) ?_
    repeat (refine awp_seq ?_)
    refine e_eval (by simp only [jA, jO, jN, seval, vint, TyS, TyF, BdS] <;> with_reducible rfl) (by decide) ?_
    repeat (refine awp_seq ?_)
    refine e_eval (by simp only [jA, jO, jN, seval, y27, y29, vint, TyS, TyF, BdS] <;> with_reducible rfl) (by decide) ?_
    repeat (refine awp_seq ?_)
    refine awp_forS (σ := Int × Int) (t.args.length) (fun (q : Int × Int) => [(1, vint L), (4, vint q.1), (5, vint q.2), (11, .slice (t.args.map Ty.enc) .none)]) [1, 4, 5, 11] ([]) (fun (q : Int × Int) => []) (fun (i : Nat) (q : Int × Int) => (1 ≤ q.1 ∧ q.1 ≤ L + 1 ∧ 0 ≤ q.2 ∧ q.2 ≤ L) ∧ measL ((t.args.map measT).drop i) L q = measL (t.args.map measT) L (1, 0)) ((1, 0)) (_) rfl rfl rfl rfl rfl rfl rfl rfl rfl (by decide) (by decide) (by decide) (fun _ => rfl) (hw.lenMax) ⟨(by first | rfl | (simp only [jN, seval, vint, TyS, TyF, BdS] <;> first | done | with_reducible rfl)), (by first | rfl | (simp only [jN, seval, vint, TyS, TyF, BdS] <;> first | done | with_reducible rfl)), (by first | rfl | (simp only [jN, seval, vint, TyS, TyF, BdS] <;> first | done | with_reducible rfl)), (by first | rfl | (simp only [jN, seval, vint, TyS, TyF, BdS] <;> first | done | with_reducible rfl)), (by first | rfl | (simp only [jN, seval, vint, TyS, TyF, BdS] <;> first | done | with_reducible rfl)), (by first | rfl | (simp only [jN, seval, vint, TyS, TyF, BdS] <;> first | done | with_reducible rfl)), trivial⟩ (by first | rfl | (simp only [jN, seval, vint, TyS, TyF, BdS] <;> first | done | with_reducible rfl)) (⟨by simp; omega, rfl⟩) (fun _ _ _ => by first | exact Nat.zero_le _ | (simp only [List.length_append]; omega)) ?_ ?_ ?_
    · exact fun i s hg => ⟨by first | exact hbel_nil _ | (simp only [List.append_nil]; assumption) | (refine hbel_app' hb' (by simp) ?_; repeat (first | exact hbel_nil _ | exact trivial | exact obel_row_nil _ | (refine HBel.cons ?_ ?_) | (refine obel_row_cons (by first | exact bel_Bd _ _ | exact Bd.bel _ _ | exact bel_ints0 _ _ | exact bel_slice_ty _ _ | exact Ty.bel _ _ | exact bel_ty_tok _ (by simp) | exact Bel.int _ _ | exact Bel.bool _ | exact Bel.str _ | exact Bel.nilp | exact Bel.nilfn | exact Bel.optr _ _ (by simp) | exact bel_nil0 _ | exact bel_nil1 _ | exact bel_fn0 _ _ | assumption) ?_))), by repeat (first | exact BelL.nil | refine BelL.cons (by first | exact bel_Bd _ _ | exact Bd.bel _ _ | exact bel_ints0 _ _ | exact bel_slice_ty _ _ | exact Ty.bel _ _ | exact bel_ty_tok _ (by simp) | exact Bel.int _ _ | exact Bel.bool _ | exact Bel.str _ | exact Bel.nilp | exact Bel.nilfn | exact Bel.optr _ _ (by simp) | exact bel_nil0 _ | exact bel_nil1 _ | exact bel_fn0 _ _ | assumption) ?_)⟩
    · intro i q hi hg
      obtain ⟨⟨q1, q2, q3, q4⟩, hg⟩ := hg
      have g1 := ix_nat hi
      have g2 := get_enc Ty.enc hi
      have hmem : t.args[i] ∈ t.args := List.getElem_mem hi
      rw [List.drop_eq_getElem_cons (by simpa using hi), List.getElem_map, measL_cons] at hg
      repeat (refine awp_seq ?_)
      refine e_eval (by simp only [jA, jO, jN, seval, y27, y29, vint, TyS, TyF, BdS, g1, g2, Int.toNat_natCast] <;> with_reducible rfl) (by decide) ?_
      repeat (refine awp_seq ?_)
      refine e_eval (by simp only [jA, jO, jN, seval, y3, vint, TyS, TyF, BdS, g1, g2, Int.toNat_natCast] <;> with_reducible rfl) (by decide) ?_
      repeat (refine awp_seq ?_)
      refine awp_cond rfl (by simp only [jN, seval, vint, TyS, TyF, BdS, g1, g2, Int.toNat_natCast] <;> with_reducible rfl) (fun b0 => ?_) (fun b0 => ?_)
      ·
        rw [if_pos b0] at hg
        have hwr : IntKind.i64.wrap (q.2 + 1) = q.2 + 1 := wrap_id (by omega) (by omega)
        repeat (refine awp_seq ?_)
        refine awp_exit ?_
        simp only [thenQ, blockQ, reduceIte, Nat.reduceEqDiff, Nat.succ_ne_self, if_true, if_false]
        repeat (refine awp_seq ?_)
        refine e_eval (by simp only [jA, jO, jN, seval, y3, vint, TyS, TyF, BdS, g1, g2, Int.toNat_natCast, hwr] <;> with_reducible rfl) (by decide) ?_
        repeat (refine awp_seq ?_)
        refine awp_ret ⟨.inr rfl, _, (ares_two (.tmp 4) (.tmp 5) rfl (ares_tmp1 (by decide)) (ares_tmp1 (by decide))), ?_⟩
        rw [measT_eq t L, ← hg]; rfl
      ·
        rw [if_neg (by rw [b0]; simp)] at hg
        have hle : q.1 ≤ L := by have : ¬ q.1 > L := of_decide_eq_false b0; omega
        have hwr1 : IntKind.i64.wrap (L - q.1) = L - q.1 := wrap_id (by omega) (by omega)
        have hb2 := measT_bd t.args[i] (L - q.1) (by omega)
        have hwr2 : IntKind.i64.wrap (q.1 + (measT t.args[i] (L - q.1)).1) = q.1 + (measT t.args[i] (L - q.1)).1 := wrap_id (by omega) (by omega)
        repeat (refine awp_seq ?_)
        refine awp_skip ?_
        repeat (refine awp_seq ?_)
        refine awp_region ?_
        refine e_take 4 (by simp only [jA, jO, jN, seval, y3, y29, vint, TyS, TyF, BdS, g1, g2, Int.toNat_natCast, hwr1] <;> with_reducible rfl) (by decide) ?_
        refine aops_pure (by simp only [jC, jN, seval, vint, TyS, TyF, BdS, g1, g2, Int.toNat_natCast, hwr1] <;> with_reducible rfl) (by simp only [jC, jN, seval, vint, TyS, TyF, BdS, g1, g2, Int.toNat_natCast, hwr1]) (by decide) Trygo56 (measure_k k t.args[i] (L - q.1) (by have := Ty.size_arg hmem; omega) (hw.arg hmem) (by omega) (by omega) _) ?_
        refine e_end (by simp only [jA, jO, jN, seval, vint, TyS, TyF, BdS, g1, g2, Int.toNat_natCast, hwr1] <;> with_reducible rfl) (by decide) ?_
        refine awp_sel [1, 4, 5, 8, 9, 11, 12, 13] (by simp only [jN, seval, vint, TyS, TyF, BdS, g1, g2, Int.toNat_natCast] <;> with_reducible rfl) ?_
        repeat (refine awp_seq ?_)
        refine e_eval (by simp only [jA, jO, jN, seval, y3, vint, TyS, TyF, BdS, g1, g2, Int.toNat_natCast, hwr2] <;> with_reducible rfl) (by decide) ?_
        exact ⟨⟨rfl, rfl, trivial⟩, (q.1 + (measT t.args[i] (L - q.1)).1, max q.2 (measT t.args[i] (L - q.1)).2), _, ⟨rfl, rfl, rfl, rfl, trivial⟩, rfl, ⟨by simp only; omega, by simp only; omega, by simp only; omega, by simp only; omega⟩, hg⟩
    · intro q hg
      obtain ⟨⟨q1, q2, q3, q4⟩, hg⟩ := hg
      rw [List.drop_eq_nil_of_le (by simp), measL_nil] at hg
      have hwr : IntKind.i64.wrap (q.2 + 1) = q.2 + 1 := wrap_id (by omega) (by omega)
      repeat (refine awp_seq ?_)
      refine e_eval (by simp only [jA, jO, jN, seval, y3, vint, TyS, TyF, BdS, hwr] <;> with_reducible rfl) (by decide) ?_
      repeat (refine awp_seq ?_)
      refine awp_ret ⟨.inr rfl, _, (ares_two (.tmp 4) (.tmp 5) rfl (ares_tmp1 (by decide)) (ares_tmp1 (by decide))), ?_⟩
      rw [measT_eq t L, ← hg]; rfl

theorem nodeWellFormed (t : Ty) : PC Try.prog 70 [t.enc] (.bool (nwf t)) := by
  refine pc_of (N := 69) Try.func70 rfl rfl (by simp) (by simp [Ty.bel]) (.bool _) ?_
  repeat (refine awp_seq ?_)
  refine e_eval (by simp only [jA, jO, jN, seval, y29, vint, TyS, TyF, BdS, Int.cast_ofNat_Int] <;> with_reducible rfl) (by decide) ?_
  repeat (refine awp_seq ?_)
  refine e_eval (by simp only [jA, jO, jN, seval, y27, y29, vint, TyS, TyF, BdS, Int.cast_ofNat_Int] <;> with_reducible rfl) (by decide) ?_
  repeat (refine awp_seq ?_)
  refine e_eval (by simp only [jA, jO, jN, seval, y3, y29, vint, TyS, TyF, BdS, Int.cast_ofNat_Int] <;> with_reducible rfl) (by decide) ?_
  repeat (refine awp_seq ?_)
  refine awp_block ?_
  repeat (refine awp_seq ?_)
  refine e_eval (by simp only [jA, jO, jN, seval, y3, vint, TyS, TyF, BdS, Int.cast_ofNat_Int] <;> with_reducible rfl) (by decide) ?_
  repeat (refine awp_seq ?_)
  refine awp_cond rfl (by simp only [jN, seval, vint, TyS, TyF, BdS, Int.cast_ofNat_Int] <;> with_reducible rfl) (fun b0 => ?_) (fun b0 => ?_)
  ·
    repeat (refine awp_seq ?_)
    refine awp_skip ?_
    repeat (refine awp_seq ?_)
    refine awp_cond rfl (by simp only [jN, seval, vint, TyS, TyF, BdS, Int.cast_ofNat_Int] <;> with_reducible rfl) (fun b1 => ?_) (fun b1 => ?_)
    ·
      repeat (refine awp_seq ?_)
      refine g_eval (by simp only [jG, jO, jN, seval, y3, y29, vint, TyS, TyF, BdS, Int.cast_ofNat_Int] <;> with_reducible rfl) (by decide) (by repeat (first | exact Fin.base _ | with_reducible apply Fin.keep | apply Fin.drop)) ?_
      repeat (refine awp_seq ?_)
      refine awp_ret ⟨.inr rfl, _, rfl, ?_⟩
      simp only [jN, seval, vint, TyS, TyF, BdS]
      simp_all [nwf]
    ·
      repeat (refine awp_seq ?_)
      refine e_eval (by simp only [jA, jO, jN, seval, y3, vint, TyS, TyF, BdS, Int.cast_ofNat_Int] <;> with_reducible rfl) (by decide) ?_
      repeat (refine awp_seq ?_)
      refine awp_cond rfl (by simp only [jN, seval, vint, TyS, TyF, BdS, Int.cast_ofNat_Int] <;> with_reducible rfl) (fun b2 => ?_) (fun b2 => ?_)
      ·
        repeat (refine awp_seq ?_)
        refine awp_skip ?_
        repeat (refine awp_seq ?_)
        refine awp_cond rfl (by simp only [jN, seval, vint, TyS, TyF, BdS, Int.cast_ofNat_Int] <;> with_reducible rfl) (fun b3 => ?_) (fun b3 => ?_)
        ·
          repeat (refine awp_seq ?_)
          refine g_eval (by simp only [jG, jO, jN, seval, y3, y29, vint, TyS, TyF, BdS, Int.cast_ofNat_Int] <;> with_reducible rfl) (by decide) (by repeat (first | exact Fin.base _ | with_reducible apply Fin.keep | apply Fin.drop)) ?_
          repeat (refine awp_seq ?_)
          refine awp_ret ⟨.inr rfl, _, rfl, ?_⟩
          simp only [jN, seval, vint, TyS, TyF, BdS]
          simp_all [nwf]
        ·
          repeat (refine awp_seq ?_)
          refine e_eval (by simp only [jA, jO, jN, seval, y3, vint, TyS, TyF, BdS, Int.cast_ofNat_Int] <;> with_reducible rfl) (by decide) ?_
          repeat (refine awp_seq ?_)
          refine awp_cond rfl (by simp only [jN, seval, vint, TyS, TyF, BdS, Int.cast_ofNat_Int] <;> with_reducible rfl) (fun b4 => ?_) (fun b4 => ?_)
          ·
            repeat (refine awp_seq ?_)
            refine e_eval (by simp only [jA, jO, jN, seval, y3, y29, vint, TyS, TyF, BdS, Int.cast_ofNat_Int] <;> with_reducible rfl) (by decide) ?_
            repeat (refine awp_seq ?_)
            refine awp_ret ⟨.inr rfl, _, rfl, ?_⟩
            simp only [jN, seval, vint, TyS, TyF, BdS]
            simp_all [nwf]
          ·
            repeat (refine awp_seq ?_)
            refine e_eval (by simp only [jA, jO, jN, seval, y3, vint, TyS, TyF, BdS, Int.cast_ofNat_Int] <;> with_reducible rfl) (by decide) ?_
            repeat (refine awp_seq ?_)
            refine awp_cond rfl (by simp only [jN, seval, vint, TyS, TyF, BdS, Int.cast_ofNat_Int] <;> with_reducible rfl) (fun b5 => ?_) (fun b5 => ?_)
            ·
              refine awp_sel [1, 3] (by simp only [jN, seval, vint, TyS, TyF, BdS, Int.cast_ofNat_Int] <;> with_reducible rfl) ?_
              repeat (refine awp_seq ?_)
              refine g_eval (by simp only [jG, jO, jN, seval, y3, y29, vint, TyS, TyF, BdS, Int.cast_ofNat_Int] <;> with_reducible rfl) (by decide) (by repeat (first | exact Fin.base _ | with_reducible apply Fin.keep | apply Fin.drop)) ?_
              repeat (refine awp_seq ?_)
              refine awp_ret ⟨.inr rfl, _, rfl, ?_⟩
              simp only [jN, seval, vint, TyS, TyF, BdS]
              simp_all [nwf]
            ·
              refine awp_sel [1, 3, 8] (by simp only [jN, seval, vint, TyS, TyF, BdS, Int.cast_ofNat_Int] <;> with_reducible rfl) ?_
              repeat (refine awp_seq ?_)
              refine e_eval (by simp only [jA, jO, jN, seval, y3, vint, TyS, TyF, BdS, Int.cast_ofNat_Int] <;> with_reducible rfl) (by decide) ?_
              repeat (refine awp_seq ?_)
              refine awp_cond rfl (by simp only [jN, seval, vint, TyS, TyF, BdS, Int.cast_ofNat_Int] <;> with_reducible rfl) (fun b6 => ?_) (fun b6 => ?_)
              ·
                repeat (refine awp_seq ?_)
                refine g_eval (by simp only [jG, jO, jN, seval, y3, y29, vint, TyS, TyF, BdS, Int.cast_ofNat_Int] <;> with_reducible rfl) (by decide) (by repeat (first | exact Fin.base _ | with_reducible apply Fin.keep | apply Fin.drop)) ?_
                repeat (refine awp_seq ?_)
                refine awp_ret ⟨.inr rfl, _, rfl, ?_⟩
                simp only [jN, seval, vint, TyS, TyF, BdS]
                simp_all [nwf]
              ·
                repeat (refine awp_seq ?_)
                refine e_eval (by simp only [jA, jO, jN, seval, y3, vint, TyS, TyF, BdS, Int.cast_ofNat_Int] <;> with_reducible rfl) (by decide) ?_
                repeat (refine awp_seq ?_)
                refine awp_cond rfl (by simp only [jN, seval, vint, TyS, TyF, BdS, Int.cast_ofNat_Int] <;> with_reducible rfl) (fun b7 => ?_) (fun b7 => ?_)
                ·
                  repeat (refine awp_seq ?_)
                  refine g_eval (by simp only [jG, jO, jN, seval, y3, y29, vint, TyS, TyF, BdS, Int.cast_ofNat_Int] <;> with_reducible rfl) (by decide) (by repeat (first | exact Fin.base _ | with_reducible apply Fin.keep | apply Fin.drop)) ?_
                  repeat (refine awp_seq ?_)
                  refine awp_ret ⟨.inr rfl, _, rfl, ?_⟩
                  simp only [jN, seval, vint, TyS, TyF, BdS]
                  simp_all [nwf]
                ·
                  repeat (refine awp_seq ?_)
                  refine awp_skip ?_
                  repeat (refine awp_seq ?_)
                  refine e_eval (by simp only [jA, jO, jN, seval, vint, TyS, TyF, BdS, Int.cast_ofNat_Int] <;> with_reducible rfl) (by decide) ?_
                  repeat (refine awp_seq ?_)
                  refine awp_ret ⟨.inr rfl, _, rfl, ?_⟩
                  simp only [jN, seval, vint, TyS, TyF, BdS]
                  simp_all [nwf]
      ·
        repeat (refine awp_seq ?_)
        refine e_eval (by simp only [jA, jO, jN, seval, y3, vint, TyS, TyF, BdS, Int.cast_ofNat_Int] <;> with_reducible rfl) (by decide) ?_
        repeat (refine awp_seq ?_)
        refine awp_cond rfl (by simp only [jN, seval, vint, TyS, TyF, BdS, Int.cast_ofNat_Int] <;> with_reducible rfl) (fun b8 => ?_) (fun b8 => ?_)
        ·
          repeat (refine awp_seq ?_)
          refine g_eval (by simp only [jG, jO, jN, seval, y3, y29, vint, TyS, TyF, BdS, Int.cast_ofNat_Int] <;> with_reducible rfl) (by decide) (by repeat (first | exact Fin.base _ | with_reducible apply Fin.keep | apply Fin.drop)) ?_
          repeat (refine awp_seq ?_)
          refine awp_ret ⟨.inr rfl, _, rfl, ?_⟩
          simp only [jN, seval, vint, TyS, TyF, BdS]
          simp_all [nwf]
        ·
          repeat (refine awp_seq ?_)
          refine e_eval (by simp only [jA, jO, jN, seval, y3, vint, TyS, TyF, BdS, Int.cast_ofNat_Int] <;> with_reducible rfl) (by decide) ?_
          repeat (refine awp_seq ?_)
          refine awp_cond rfl (by simp only [jN, seval, vint, TyS, TyF, BdS, Int.cast_ofNat_Int] <;> with_reducible rfl) (fun b9 => ?_) (fun b9 => ?_)
          ·
            refine awp_sel [1] (by simp only [jN, seval, vint, TyS, TyF, BdS, Int.cast_ofNat_Int] <;> with_reducible rfl) ?_
            repeat (refine awp_seq ?_)
            refine e_eval (by simp only [jA, jO, jN, seval, y3, y29, vint, TyS, TyF, BdS, Int.cast_ofNat_Int] <;> with_reducible rfl) (by decide) ?_
            repeat (refine awp_seq ?_)
            refine awp_ret ⟨.inr rfl, _, rfl, ?_⟩
            simp only [jN, seval, vint, TyS, TyF, BdS]
            simp_all [nwf]
          ·
            refine awp_sel [1, 3, 8] (by simp only [jN, seval, vint, TyS, TyF, BdS, Int.cast_ofNat_Int] <;> with_reducible rfl) ?_
            repeat (refine awp_seq ?_)
            refine e_eval (by simp only [jA, jO, jN, seval, y3, vint, TyS, TyF, BdS, Int.cast_ofNat_Int] <;> with_reducible rfl) (by decide) ?_
            repeat (refine awp_seq ?_)
            refine awp_cond rfl (by simp only [jN, seval, vint, TyS, TyF, BdS, Int.cast_ofNat_Int] <;> with_reducible rfl) (fun b10 => ?_) (fun b10 => ?_)
            ·
              repeat (refine awp_seq ?_)
              refine g_eval (by simp only [jG, jO, jN, seval, y3, y29, vint, TyS, TyF, BdS, Int.cast_ofNat_Int] <;> with_reducible rfl) (by decide) (by repeat (first | exact Fin.base _ | with_reducible apply Fin.keep | apply Fin.drop)) ?_
              repeat (refine awp_seq ?_)
              refine awp_ret ⟨.inr rfl, _, rfl, ?_⟩
              simp only [jN, seval, vint, TyS, TyF, BdS]
              simp_all [nwf]
            ·
              repeat (refine awp_seq ?_)
              refine e_eval (by simp only [jA, jO, jN, seval, y3, vint, TyS, TyF, BdS, Int.cast_ofNat_Int] <;> with_reducible rfl) (by decide) ?_
              repeat (refine awp_seq ?_)
              refine awp_cond rfl (by simp only [jN, seval, vint, TyS, TyF, BdS, Int.cast_ofNat_Int] <;> with_reducible rfl) (fun b11 => ?_) (fun b11 => ?_)
              ·
                repeat (refine awp_seq ?_)
                refine g_eval (by simp only [jG, jO, jN, seval, y3, y29, vint, TyS, TyF, BdS, Int.cast_ofNat_Int] <;> with_reducible rfl) (by decide) (by repeat (first | exact Fin.base _ | with_reducible apply Fin.keep | apply Fin.drop)) ?_
                repeat (refine awp_seq ?_)
                refine awp_ret ⟨.inr rfl, _, rfl, ?_⟩
                simp only [jN, seval, vint, TyS, TyF, BdS]
                simp_all [nwf]
              ·
                repeat (refine awp_seq ?_)
                refine e_eval (by simp only [jA, jO, jN, seval, y3, vint, TyS, TyF, BdS, Int.cast_ofNat_Int] <;> with_reducible rfl) (by decide) ?_
                repeat (refine awp_seq ?_)
                refine awp_cond rfl (by simp only [jN, seval, vint, TyS, TyF, BdS, Int.cast_ofNat_Int] <;> with_reducible rfl) (fun b12 => ?_) (fun b12 => ?_)
                ·
                  repeat (refine awp_seq ?_)
                  refine g_eval (by simp only [jG, jO, jN, seval, y3, y29, vint, TyS, TyF, BdS, Int.cast_ofNat_Int] <;> with_reducible rfl) (by decide) (by repeat (first | exact Fin.base _ | with_reducible apply Fin.keep | apply Fin.drop)) ?_
                  repeat (refine awp_seq ?_)
                  refine awp_ret ⟨.inr rfl, _, rfl, ?_⟩
                  simp only [jN, seval, vint, TyS, TyF, BdS]
                  simp_all [nwf]
                ·
                  repeat (refine awp_seq ?_)
                  refine awp_skip ?_
                  repeat (refine awp_seq ?_)
                  refine e_eval (by simp only [jA, jO, jN, seval, vint, TyS, TyF, BdS, Int.cast_ofNat_Int] <;> with_reducible rfl) (by decide) ?_
                  repeat (refine awp_seq ?_)
                  refine awp_ret ⟨.inr rfl, _, rfl, ?_⟩
                  simp only [jN, seval, vint, TyS, TyF, BdS]
                  simp_all [nwf]
  ·
    repeat (refine awp_seq ?_)
    refine e_eval (by simp only [jA, jO, jN, seval, y3, vint, TyS, TyF, BdS, Int.cast_ofNat_Int] <;> with_reducible rfl) (by decide) ?_
    repeat (refine awp_seq ?_)
    refine awp_cond rfl (by simp only [jN, seval, vint, TyS, TyF, BdS, Int.cast_ofNat_Int] <;> with_reducible rfl) (fun b13 => ?_) (fun b13 => ?_)
    ·
      repeat (refine awp_seq ?_)
      refine awp_skip ?_
      repeat (refine awp_seq ?_)
      refine awp_cond rfl (by simp only [jN, seval, vint, TyS, TyF, BdS, Int.cast_ofNat_Int] <;> with_reducible rfl) (fun b14 => ?_) (fun b14 => ?_)
      ·
        repeat (refine awp_seq ?_)
        refine g_eval (by simp only [jG, jO, jN, seval, y3, y29, vint, TyS, TyF, BdS, Int.cast_ofNat_Int] <;> with_reducible rfl) (by decide) (by repeat (first | exact Fin.base _ | with_reducible apply Fin.keep | apply Fin.drop)) ?_
        repeat (refine awp_seq ?_)
        refine awp_ret ⟨.inr rfl, _, rfl, ?_⟩
        simp only [jN, seval, vint, TyS, TyF, BdS]
        simp_all [nwf]
      ·
        repeat (refine awp_seq ?_)
        refine e_eval (by simp only [jA, jO, jN, seval, y3, vint, TyS, TyF, BdS, Int.cast_ofNat_Int] <;> with_reducible rfl) (by decide) ?_
        repeat (refine awp_seq ?_)
        refine awp_cond rfl (by simp only [jN, seval, vint, TyS, TyF, BdS, Int.cast_ofNat_Int] <;> with_reducible rfl) (fun b15 => ?_) (fun b15 => ?_)
        ·
          repeat (refine awp_seq ?_)
          refine awp_skip ?_
          repeat (refine awp_seq ?_)
          refine awp_cond rfl (by simp only [jN, seval, vint, TyS, TyF, BdS, Int.cast_ofNat_Int] <;> with_reducible rfl) (fun b16 => ?_) (fun b16 => ?_)
          ·
            repeat (refine awp_seq ?_)
            refine g_eval (by simp only [jG, jO, jN, seval, y3, y29, vint, TyS, TyF, BdS, Int.cast_ofNat_Int] <;> with_reducible rfl) (by decide) (by repeat (first | exact Fin.base _ | with_reducible apply Fin.keep | apply Fin.drop)) ?_
            repeat (refine awp_seq ?_)
            refine awp_ret ⟨.inr rfl, _, rfl, ?_⟩
            simp only [jN, seval, vint, TyS, TyF, BdS]
            simp_all [nwf]
          ·
            repeat (refine awp_seq ?_)
            refine e_eval (by simp only [jA, jO, jN, seval, y3, vint, TyS, TyF, BdS, Int.cast_ofNat_Int] <;> with_reducible rfl) (by decide) ?_
            repeat (refine awp_seq ?_)
            refine awp_cond rfl (by simp only [jN, seval, vint, TyS, TyF, BdS, Int.cast_ofNat_Int] <;> with_reducible rfl) (fun b17 => ?_) (fun b17 => ?_)
            ·
              refine awp_sel [1] (by simp only [jN, seval, vint, TyS, TyF, BdS, Int.cast_ofNat_Int] <;> with_reducible rfl) ?_
              repeat (refine awp_seq ?_)
              refine e_eval (by simp only [jA, jO, jN, seval, y3, y29, vint, TyS, TyF, BdS, Int.cast_ofNat_Int] <;> with_reducible rfl) (by decide) ?_
              repeat (refine awp_seq ?_)
              refine awp_ret ⟨.inr rfl, _, rfl, ?_⟩
              simp only [jN, seval, vint, TyS, TyF, BdS]
              simp_all [nwf]
            ·
              refine awp_sel [1, 3, 8] (by simp only [jN, seval, vint, TyS, TyF, BdS, Int.cast_ofNat_Int] <;> with_reducible rfl) ?_
              repeat (refine awp_seq ?_)
              refine e_eval (by simp only [jA, jO, jN, seval, y3, vint, TyS, TyF, BdS, Int.cast_ofNat_Int] <;> with_reducible rfl) (by decide) ?_
              repeat (refine awp_seq ?_)
              refine awp_cond rfl (by simp only [jN, seval, vint, TyS, TyF, BdS, Int.cast_ofNat_Int] <;> with_reducible rfl) (fun b18 => ?_) (fun b18 => ?_)
              ·
                repeat (refine awp_seq ?_)
                refine g_eval (by simp only [jG, jO, jN, seval, y3, y29, vint, TyS, TyF, BdS, Int.cast_ofNat_Int] <;> with_reducible rfl) (by decide) (by repeat (first | exact Fin.base _ | with_reducible apply Fin.keep | apply Fin.drop)) ?_
                repeat (refine awp_seq ?_)
                refine awp_ret ⟨.inr rfl, _, rfl, ?_⟩
                simp only [jN, seval, vint, TyS, TyF, BdS]
                simp_all [nwf]
              ·
                repeat (refine awp_seq ?_)
                refine e_eval (by simp only [jA, jO, jN, seval, y3, vint, TyS, TyF, BdS, Int.cast_ofNat_Int] <;> with_reducible rfl) (by decide) ?_
                repeat (refine awp_seq ?_)
                refine awp_cond rfl (by simp only [jN, seval, vint, TyS, TyF, BdS, Int.cast_ofNat_Int] <;> with_reducible rfl) (fun b19 => ?_) (fun b19 => ?_)
                ·
                  repeat (refine awp_seq ?_)
                  refine g_eval (by simp only [jG, jO, jN, seval, y3, y29, vint, TyS, TyF, BdS, Int.cast_ofNat_Int] <;> with_reducible rfl) (by decide) (by repeat (first | exact Fin.base _ | with_reducible apply Fin.keep | apply Fin.drop)) ?_
                  repeat (refine awp_seq ?_)
                  refine awp_ret ⟨.inr rfl, _, rfl, ?_⟩
                  simp only [jN, seval, vint, TyS, TyF, BdS]
                  simp_all [nwf]
                ·
                  repeat (refine awp_seq ?_)
                  refine e_eval (by simp only [jA, jO, jN, seval, y3, vint, TyS, TyF, BdS, Int.cast_ofNat_Int] <;> with_reducible rfl) (by decide) ?_
                  repeat (refine awp_seq ?_)
                  refine awp_cond rfl (by simp only [jN, seval, vint, TyS, TyF, BdS, Int.cast_ofNat_Int] <;> with_reducible rfl) (fun b20 => ?_) (fun b20 => ?_)
                  ·
                    repeat (refine awp_seq ?_)
                    refine g_eval (by simp only [jG, jO, jN, seval, y3, y29, vint, TyS, TyF, BdS, Int.cast_ofNat_Int] <;> with_reducible rfl) (by decide) (by repeat (first | exact Fin.base _ | with_reducible apply Fin.keep | apply Fin.drop)) ?_
                    repeat (refine awp_seq ?_)
                    refine awp_ret ⟨.inr rfl, _, rfl, ?_⟩
                    simp only [jN, seval, vint, TyS, TyF, BdS]
                    simp_all [nwf]
                  ·
                    repeat (refine awp_seq ?_)
                    refine awp_skip ?_
                    repeat (refine awp_seq ?_)
                    refine e_eval (by simp only [jA, jO, jN, seval, vint, TyS, TyF, BdS, Int.cast_ofNat_Int] <;> with_reducible rfl) (by decide) ?_
                    repeat (refine awp_seq ?_)
                    refine awp_ret ⟨.inr rfl, _, rfl, ?_⟩
                    simp only [jN, seval, vint, TyS, TyF, BdS]
                    simp_all [nwf]
        ·
          repeat (refine awp_seq ?_)
          refine e_eval (by simp only [jA, jO, jN, seval, y3, vint, TyS, TyF, BdS, Int.cast_ofNat_Int] <;> with_reducible rfl) (by decide) ?_
          repeat (refine awp_seq ?_)
          refine awp_cond rfl (by simp only [jN, seval, vint, TyS, TyF, BdS, Int.cast_ofNat_Int] <;> with_reducible rfl) (fun b21 => ?_) (fun b21 => ?_)
          ·
            refine awp_sel [1, 3] (by simp only [jN, seval, vint, TyS, TyF, BdS, Int.cast_ofNat_Int] <;> with_reducible rfl) ?_
            repeat (refine awp_seq ?_)
            refine g_eval (by simp only [jG, jO, jN, seval, y3, y29, vint, TyS, TyF, BdS, Int.cast_ofNat_Int] <;> with_reducible rfl) (by decide) (by repeat (first | exact Fin.base _ | with_reducible apply Fin.keep | apply Fin.drop)) ?_
            repeat (refine awp_seq ?_)
            refine awp_ret ⟨.inr rfl, _, rfl, ?_⟩
            simp only [jN, seval, vint, TyS, TyF, BdS]
            simp_all [nwf]
          ·
            refine awp_sel [1, 3, 8] (by simp only [jN, seval, vint, TyS, TyF, BdS, Int.cast_ofNat_Int] <;> with_reducible rfl) ?_
            repeat (refine awp_seq ?_)
            refine e_eval (by simp only [jA, jO, jN, seval, y3, vint, TyS, TyF, BdS, Int.cast_ofNat_Int] <;> with_reducible rfl) (by decide) ?_
            repeat (refine awp_seq ?_)
            refine awp_cond rfl (by simp only [jN, seval, vint, TyS, TyF, BdS, Int.cast_ofNat_Int] <;> with_reducible rfl) (fun b22 => ?_) (fun b22 => ?_)
            ·
              repeat (refine awp_seq ?_)
              refine e_eval (by simp only [jA, jO, jN, seval, y3, y29, vint, TyS, TyF, BdS, Int.cast_ofNat_Int] <;> with_reducible rfl) (by decide) ?_
              repeat (refine awp_seq ?_)
              refine awp_ret ⟨.inr rfl, _, rfl, ?_⟩
              simp only [jN, seval, vint, TyS, TyF, BdS]
              simp_all [nwf]
            ·
              repeat (refine awp_seq ?_)
              refine e_eval (by simp only [jA, jO, jN, seval, y3, vint, TyS, TyF, BdS, Int.cast_ofNat_Int] <;> with_reducible rfl) (by decide) ?_
              repeat (refine awp_seq ?_)
              refine awp_cond rfl (by simp only [jN, seval, vint, TyS, TyF, BdS, Int.cast_ofNat_Int] <;> with_reducible rfl) (fun b23 => ?_) (fun b23 => ?_)
              ·
                repeat (refine awp_seq ?_)
                refine g_eval (by simp only [jG, jO, jN, seval, y3, y29, vint, TyS, TyF, BdS, Int.cast_ofNat_Int] <;> with_reducible rfl) (by decide) (by repeat (first | exact Fin.base _ | with_reducible apply Fin.keep | apply Fin.drop)) ?_
                repeat (refine awp_seq ?_)
                refine awp_ret ⟨.inr rfl, _, rfl, ?_⟩
                simp only [jN, seval, vint, TyS, TyF, BdS]
                simp_all [nwf]
              ·
                repeat (refine awp_seq ?_)
                refine e_eval (by simp only [jA, jO, jN, seval, y3, vint, TyS, TyF, BdS, Int.cast_ofNat_Int] <;> with_reducible rfl) (by decide) ?_
                repeat (refine awp_seq ?_)
                refine awp_cond rfl (by simp only [jN, seval, vint, TyS, TyF, BdS, Int.cast_ofNat_Int] <;> with_reducible rfl) (fun b24 => ?_) (fun b24 => ?_)
                ·
                  repeat (refine awp_seq ?_)
                  refine g_eval (by simp only [jG, jO, jN, seval, y3, y29, vint, TyS, TyF, BdS, Int.cast_ofNat_Int] <;> with_reducible rfl) (by decide) (by repeat (first | exact Fin.base _ | with_reducible apply Fin.keep | apply Fin.drop)) ?_
                  repeat (refine awp_seq ?_)
                  refine awp_ret ⟨.inr rfl, _, rfl, ?_⟩
                  simp only [jN, seval, vint, TyS, TyF, BdS]
                  simp_all [nwf]
                ·
                  repeat (refine awp_seq ?_)
                  refine e_eval (by simp only [jA, jO, jN, seval, y3, vint, TyS, TyF, BdS, Int.cast_ofNat_Int] <;> with_reducible rfl) (by decide) ?_
                  repeat (refine awp_seq ?_)
                  refine awp_cond rfl (by simp only [jN, seval, vint, TyS, TyF, BdS, Int.cast_ofNat_Int] <;> with_reducible rfl) (fun b25 => ?_) (fun b25 => ?_)
                  ·
                    repeat (refine awp_seq ?_)
                    refine g_eval (by simp only [jG, jO, jN, seval, y3, y29, vint, TyS, TyF, BdS, Int.cast_ofNat_Int] <;> with_reducible rfl) (by decide) (by repeat (first | exact Fin.base _ | with_reducible apply Fin.keep | apply Fin.drop)) ?_
                    repeat (refine awp_seq ?_)
                    refine awp_ret ⟨.inr rfl, _, rfl, ?_⟩
                    simp only [jN, seval, vint, TyS, TyF, BdS]
                    simp_all [nwf]
                  ·
                    repeat (refine awp_seq ?_)
                    refine awp_skip ?_
                    repeat (refine awp_seq ?_)
                    refine e_eval (by simp only [jA, jO, jN, seval, vint, TyS, TyF, BdS, Int.cast_ofNat_Int] <;> with_reducible rfl) (by decide) ?_
                    repeat (refine awp_seq ?_)
                    refine awp_ret ⟨.inr rfl, _, rfl, ?_⟩
                    simp only [jN, seval, vint, TyS, TyF, BdS]
                    simp_all [nwf]
    ·
      repeat (refine awp_seq ?_)
      refine e_eval (by simp only [jA, jO, jN, seval, y3, vint, TyS, TyF, BdS, Int.cast_ofNat_Int] <;> with_reducible rfl) (by decide) ?_
      repeat (refine awp_seq ?_)
      refine awp_cond rfl (by simp only [jN, seval, vint, TyS, TyF, BdS, Int.cast_ofNat_Int] <;> with_reducible rfl) (fun b26 => ?_) (fun b26 => ?_)
      ·
        repeat (refine awp_seq ?_)
        refine awp_skip ?_
        repeat (refine awp_seq ?_)
        refine awp_cond rfl (by simp only [jN, seval, vint, TyS, TyF, BdS, Int.cast_ofNat_Int] <;> with_reducible rfl) (fun b27 => ?_) (fun b27 => ?_)
        ·
          repeat (refine awp_seq ?_)
          refine g_eval (by simp only [jG, jO, jN, seval, y3, y29, vint, TyS, TyF, BdS, Int.cast_ofNat_Int] <;> with_reducible rfl) (by decide) (by repeat (first | exact Fin.base _ | with_reducible apply Fin.keep | apply Fin.drop)) ?_
          repeat (refine awp_seq ?_)
          refine awp_ret ⟨.inr rfl, _, rfl, ?_⟩
          simp only [jN, seval, vint, TyS, TyF, BdS]
          simp_all [nwf]
        ·
          repeat (refine awp_seq ?_)
          refine e_eval (by simp only [jA, jO, jN, seval, y3, vint, TyS, TyF, BdS, Int.cast_ofNat_Int] <;> with_reducible rfl) (by decide) ?_
          repeat (refine awp_seq ?_)
          refine awp_cond rfl (by simp only [jN, seval, vint, TyS, TyF, BdS, Int.cast_ofNat_Int] <;> with_reducible rfl) (fun b28 => ?_) (fun b28 => ?_)
          ·
            repeat (refine awp_seq ?_)
            refine awp_skip ?_
            repeat (refine awp_seq ?_)
            refine awp_cond rfl (by simp only [jN, seval, vint, TyS, TyF, BdS, Int.cast_ofNat_Int] <;> with_reducible rfl) (fun b29 => ?_) (fun b29 => ?_)
            ·
              refine awp_sel [1, 3] (by simp only [jN, seval, vint, TyS, TyF, BdS, Int.cast_ofNat_Int] <;> with_reducible rfl) ?_
              repeat (refine awp_seq ?_)
              refine g_eval (by simp only [jG, jO, jN, seval, y3, y29, vint, TyS, TyF, BdS, Int.cast_ofNat_Int] <;> with_reducible rfl) (by decide) (by repeat (first | exact Fin.base _ | with_reducible apply Fin.keep | apply Fin.drop)) ?_
              repeat (refine awp_seq ?_)
              refine awp_ret ⟨.inr rfl, _, rfl, ?_⟩
              simp only [jN, seval, vint, TyS, TyF, BdS]
              simp_all [nwf]
            ·
              refine awp_sel [1, 3, 8] (by simp only [jN, seval, vint, TyS, TyF, BdS, Int.cast_ofNat_Int] <;> with_reducible rfl) ?_
              repeat (refine awp_seq ?_)
              refine e_eval (by simp only [jA, jO, jN, seval, y3, vint, TyS, TyF, BdS, Int.cast_ofNat_Int] <;> with_reducible rfl) (by decide) ?_
              repeat (refine awp_seq ?_)
              refine awp_cond rfl (by simp only [jN, seval, vint, TyS, TyF, BdS, Int.cast_ofNat_Int] <;> with_reducible rfl) (fun b30 => ?_) (fun b30 => ?_)
              ·
                repeat (refine awp_seq ?_)
                refine e_eval (by simp only [jA, jO, jN, seval, y3, y29, vint, TyS, TyF, BdS, Int.cast_ofNat_Int] <;> with_reducible rfl) (by decide) ?_
                repeat (refine awp_seq ?_)
                refine awp_ret ⟨.inr rfl, _, rfl, ?_⟩
                simp only [jN, seval, vint, TyS, TyF, BdS]
                simp_all [nwf]
              ·
                repeat (refine awp_seq ?_)
                refine e_eval (by simp only [jA, jO, jN, seval, y3, vint, TyS, TyF, BdS, Int.cast_ofNat_Int] <;> with_reducible rfl) (by decide) ?_
                repeat (refine awp_seq ?_)
                refine awp_cond rfl (by simp only [jN, seval, vint, TyS, TyF, BdS, Int.cast_ofNat_Int] <;> with_reducible rfl) (fun b31 => ?_) (fun b31 => ?_)
                ·
                  repeat (refine awp_seq ?_)
                  refine g_eval (by simp only [jG, jO, jN, seval, y3, y29, vint, TyS, TyF, BdS, Int.cast_ofNat_Int] <;> with_reducible rfl) (by decide) (by repeat (first | exact Fin.base _ | with_reducible apply Fin.keep | apply Fin.drop)) ?_
                  repeat (refine awp_seq ?_)
                  refine awp_ret ⟨.inr rfl, _, rfl, ?_⟩
                  simp only [jN, seval, vint, TyS, TyF, BdS]
                  simp_all [nwf]
                ·
                  repeat (refine awp_seq ?_)
                  refine e_eval (by simp only [jA, jO, jN, seval, y3, vint, TyS, TyF, BdS, Int.cast_ofNat_Int] <;> with_reducible rfl) (by decide) ?_
                  repeat (refine awp_seq ?_)
                  refine awp_cond rfl (by simp only [jN, seval, vint, TyS, TyF, BdS, Int.cast_ofNat_Int] <;> with_reducible rfl) (fun b32 => ?_) (fun b32 => ?_)
                  ·
                    repeat (refine awp_seq ?_)
                    refine g_eval (by simp only [jG, jO, jN, seval, y3, y29, vint, TyS, TyF, BdS, Int.cast_ofNat_Int] <;> with_reducible rfl) (by decide) (by repeat (first | exact Fin.base _ | with_reducible apply Fin.keep | apply Fin.drop)) ?_
                    repeat (refine awp_seq ?_)
                    refine awp_ret ⟨.inr rfl, _, rfl, ?_⟩
                    simp only [jN, seval, vint, TyS, TyF, BdS]
                    simp_all [nwf]
                  ·
                    repeat (refine awp_seq ?_)
                    refine e_eval (by simp only [jA, jO, jN, seval, y3, vint, TyS, TyF, BdS, Int.cast_ofNat_Int] <;> with_reducible rfl) (by decide) ?_
                    repeat (refine awp_seq ?_)
                    refine awp_cond rfl (by simp only [jN, seval, vint, TyS, TyF, BdS, Int.cast_ofNat_Int] <;> with_reducible rfl) (fun b33 => ?_) (fun b33 => ?_)
                    ·
                      repeat (refine awp_seq ?_)
                      refine g_eval (by simp only [jG, jO, jN, seval, y3, y29, vint, TyS, TyF, BdS, Int.cast_ofNat_Int] <;> with_reducible rfl) (by decide) (by repeat (first | exact Fin.base _ | with_reducible apply Fin.keep | apply Fin.drop)) ?_
                      repeat (refine awp_seq ?_)
                      refine awp_ret ⟨.inr rfl, _, rfl, ?_⟩
                      simp only [jN, seval, vint, TyS, TyF, BdS]
                      simp_all [nwf]
                    ·
                      repeat (refine awp_seq ?_)
                      refine awp_skip ?_
                      repeat (refine awp_seq ?_)
                      refine e_eval (by simp only [jA, jO, jN, seval, vint, TyS, TyF, BdS, Int.cast_ofNat_Int] <;> with_reducible rfl) (by decide) ?_
                      repeat (refine awp_seq ?_)
                      refine awp_ret ⟨.inr rfl, _, rfl, ?_⟩
                      simp only [jN, seval, vint, TyS, TyF, BdS]
                      simp_all [nwf]
          ·
            refine awp_sel [1, 3, 8] (by simp only [jN, seval, vint, TyS, TyF, BdS, Int.cast_ofNat_Int] <;> with_reducible rfl) ?_
            repeat (refine awp_seq ?_)
            refine e_eval (by simp only [jA, jO, jN, seval, y3, vint, TyS, TyF, BdS, Int.cast_ofNat_Int] <;> with_reducible rfl) (by decide) ?_
            repeat (refine awp_seq ?_)
            refine awp_cond rfl (by simp only [jN, seval, vint, TyS, TyF, BdS, Int.cast_ofNat_Int] <;> with_reducible rfl) (fun b34 => ?_) (fun b34 => ?_)
            ·
              repeat (refine awp_seq ?_)
              refine g_eval (by simp only [jG, jO, jN, seval, y3, y29, vint, TyS, TyF, BdS, Int.cast_ofNat_Int] <;> with_reducible rfl) (by decide) (by repeat (first | exact Fin.base _ | with_reducible apply Fin.keep | apply Fin.drop)) ?_
              repeat (refine awp_seq ?_)
              refine awp_ret ⟨.inr rfl, _, rfl, ?_⟩
              simp only [jN, seval, vint, TyS, TyF, BdS]
              simp_all [nwf]
            ·
              repeat (refine awp_seq ?_)
              refine e_eval (by simp only [jA, jO, jN, seval, y3, vint, TyS, TyF, BdS, Int.cast_ofNat_Int] <;> with_reducible rfl) (by decide) ?_
              repeat (refine awp_seq ?_)
              refine awp_cond rfl (by simp only [jN, seval, vint, TyS, TyF, BdS, Int.cast_ofNat_Int] <;> with_reducible rfl) (fun b35 => ?_) (fun b35 => ?_)
              ·
                repeat (refine awp_seq ?_)
                refine e_eval (by simp only [jA, jO, jN, seval, y3, y29, vint, TyS, TyF, BdS, Int.cast_ofNat_Int] <;> with_reducible rfl) (by decide) ?_
                repeat (refine awp_seq ?_)
                refine awp_ret ⟨.inr rfl, _, rfl, ?_⟩
                simp only [jN, seval, vint, TyS, TyF, BdS]
                simp_all [nwf]
              ·
                repeat (refine awp_seq ?_)
                refine e_eval (by simp only [jA, jO, jN, seval, y3, vint, TyS, TyF, BdS, Int.cast_ofNat_Int] <;> with_reducible rfl) (by decide) ?_
                repeat (refine awp_seq ?_)
                refine awp_cond rfl (by simp only [jN, seval, vint, TyS, TyF, BdS, Int.cast_ofNat_Int] <;> with_reducible rfl) (fun b36 => ?_) (fun b36 => ?_)
                ·
                  repeat (refine awp_seq ?_)
                  refine g_eval (by simp only [jG, jO, jN, seval, y3, y29, vint, TyS, TyF, BdS, Int.cast_ofNat_Int] <;> with_reducible rfl) (by decide) (by repeat (first | exact Fin.base _ | with_reducible apply Fin.keep | apply Fin.drop)) ?_
                  repeat (refine awp_seq ?_)
                  refine awp_ret ⟨.inr rfl, _, rfl, ?_⟩
                  simp only [jN, seval, vint, TyS, TyF, BdS]
                  simp_all [nwf]
                ·
                  repeat (refine awp_seq ?_)
                  refine e_eval (by simp only [jA, jO, jN, seval, y3, vint, TyS, TyF, BdS, Int.cast_ofNat_Int] <;> with_reducible rfl) (by decide) ?_
                  repeat (refine awp_seq ?_)
                  refine awp_cond rfl (by simp only [jN, seval, vint, TyS, TyF, BdS, Int.cast_ofNat_Int] <;> with_reducible rfl) (fun b37 => ?_) (fun b37 => ?_)
                  ·
                    repeat (refine awp_seq ?_)
                    refine g_eval (by simp only [jG, jO, jN, seval, y3, y29, vint, TyS, TyF, BdS, Int.cast_ofNat_Int] <;> with_reducible rfl) (by decide) (by repeat (first | exact Fin.base _ | with_reducible apply Fin.keep | apply Fin.drop)) ?_
                    repeat (refine awp_seq ?_)
                    refine awp_ret ⟨.inr rfl, _, rfl, ?_⟩
                    simp only [jN, seval, vint, TyS, TyF, BdS]
                    simp_all [nwf]
                  ·
                    repeat (refine awp_seq ?_)
                    refine e_eval (by simp only [jA, jO, jN, seval, y3, vint, TyS, TyF, BdS, Int.cast_ofNat_Int] <;> with_reducible rfl) (by decide) ?_
                    repeat (refine awp_seq ?_)
                    refine awp_cond rfl (by simp only [jN, seval, vint, TyS, TyF, BdS, Int.cast_ofNat_Int] <;> with_reducible rfl) (fun b38 => ?_) (fun b38 => ?_)
                    ·
                      repeat (refine awp_seq ?_)
                      refine g_eval (by simp only [jG, jO, jN, seval, y3, y29, vint, TyS, TyF, BdS, Int.cast_ofNat_Int] <;> with_reducible rfl) (by decide) (by repeat (first | exact Fin.base _ | with_reducible apply Fin.keep | apply Fin.drop)) ?_
                      repeat (refine awp_seq ?_)
                      refine awp_ret ⟨.inr rfl, _, rfl, ?_⟩
                      simp only [jN, seval, vint, TyS, TyF, BdS]
                      simp_all [nwf]
                    ·
                      repeat (refine awp_seq ?_)
                      refine awp_skip ?_
                      repeat (refine awp_seq ?_)
                      refine e_eval (by simp only [jA, jO, jN, seval, vint, TyS, TyF, BdS, Int.cast_ofNat_Int] <;> with_reducible rfl) (by decide) ?_
                      repeat (refine awp_seq ?_)
                      refine awp_ret ⟨.inr rfl, _, rfl, ?_⟩
                      simp only [jN, seval, vint, TyS, TyF, BdS]
                      simp_all [nwf]
      ·
        repeat (refine awp_seq ?_)
        refine e_eval (by simp only [jA, jO, jN, seval, y3, vint, TyS, TyF, BdS, Int.cast_ofNat_Int] <;> with_reducible rfl) (by decide) ?_
        repeat (refine awp_seq ?_)
        refine awp_cond rfl (by simp only [jN, seval, vint, TyS, TyF, BdS, Int.cast_ofNat_Int] <;> with_reducible rfl) (fun b39 => ?_) (fun b39 => ?_)
        ·
          repeat (refine awp_seq ?_)
          refine awp_skip ?_
          repeat (refine awp_seq ?_)
          refine awp_cond rfl (by simp only [jN, seval, vint, TyS, TyF, BdS, Int.cast_ofNat_Int] <;> with_reducible rfl) (fun b40 => ?_) (fun b40 => ?_)
          ·
            refine awp_sel [1, 3] (by simp only [jN, seval, vint, TyS, TyF, BdS, Int.cast_ofNat_Int] <;> with_reducible rfl) ?_
            repeat (refine awp_seq ?_)
            refine g_eval (by simp only [jG, jO, jN, seval, y3, y29, vint, TyS, TyF, BdS, Int.cast_ofNat_Int] <;> with_reducible rfl) (by decide) (by repeat (first | exact Fin.base _ | with_reducible apply Fin.keep | apply Fin.drop)) ?_
            repeat (refine awp_seq ?_)
            refine awp_ret ⟨.inr rfl, _, rfl, ?_⟩
            simp only [jN, seval, vint, TyS, TyF, BdS]
            simp_all [nwf]
          ·
            refine awp_sel [1, 3, 8] (by simp only [jN, seval, vint, TyS, TyF, BdS, Int.cast_ofNat_Int] <;> with_reducible rfl) ?_
            repeat (refine awp_seq ?_)
            refine e_eval (by simp only [jA, jO, jN, seval, y3, vint, TyS, TyF, BdS, Int.cast_ofNat_Int] <;> with_reducible rfl) (by decide) ?_
            repeat (refine awp_seq ?_)
            refine awp_cond rfl (by simp only [jN, seval, vint, TyS, TyF, BdS, Int.cast_ofNat_Int] <;> with_reducible rfl) (fun b41 => ?_) (fun b41 => ?_)
            ·
              repeat (refine awp_seq ?_)
              refine awp_skip ?_
              repeat (refine awp_seq ?_)
              refine awp_cond rfl (by simp only [jN, seval, vint, TyS, TyF, BdS, Int.cast_ofNat_Int] <;> with_reducible rfl) (fun b42 => ?_) (fun b42 => ?_)
              ·
                repeat (refine awp_seq ?_)
                refine g_eval (by simp only [jG, jO, jN, seval, y3, y29, vint, TyS, TyF, BdS, Int.cast_ofNat_Int] <;> with_reducible rfl) (by decide) (by repeat (first | exact Fin.base _ | with_reducible apply Fin.keep | apply Fin.drop)) ?_
                repeat (refine awp_seq ?_)
                refine awp_ret ⟨.inr rfl, _, rfl, ?_⟩
                simp only [jN, seval, vint, TyS, TyF, BdS]
                simp_all [nwf]
              ·
                repeat (refine awp_seq ?_)
                refine e_eval (by simp only [jA, jO, jN, seval, y3, vint, TyS, TyF, BdS, Int.cast_ofNat_Int] <;> with_reducible rfl) (by decide) ?_
                repeat (refine awp_seq ?_)
                refine awp_cond rfl (by simp only [jN, seval, vint, TyS, TyF, BdS, Int.cast_ofNat_Int] <;> with_reducible rfl) (fun b43 => ?_) (fun b43 => ?_)
                ·
                  repeat (refine awp_seq ?_)
                  refine e_eval (by simp only [jA, jO, jN, seval, y3, y29, vint, TyS, TyF, BdS, Int.cast_ofNat_Int] <;> with_reducible rfl) (by decide) ?_
                  repeat (refine awp_seq ?_)
                  refine awp_ret ⟨.inr rfl, _, rfl, ?_⟩
                  simp only [jN, seval, vint, TyS, TyF, BdS]
                  simp_all [nwf]
                ·
                  repeat (refine awp_seq ?_)
                  refine e_eval (by simp only [jA, jO, jN, seval, y3, vint, TyS, TyF, BdS, Int.cast_ofNat_Int] <;> with_reducible rfl) (by decide) ?_
                  repeat (refine awp_seq ?_)
                  refine awp_cond rfl (by simp only [jN, seval, vint, TyS, TyF, BdS, Int.cast_ofNat_Int] <;> with_reducible rfl) (fun b44 => ?_) (fun b44 => ?_)
                  ·
                    repeat (refine awp_seq ?_)
                    refine g_eval (by simp only [jG, jO, jN, seval, y3, y29, vint, TyS, TyF, BdS, Int.cast_ofNat_Int] <;> with_reducible rfl) (by decide) (by repeat (first | exact Fin.base _ | with_reducible apply Fin.keep | apply Fin.drop)) ?_
                    repeat (refine awp_seq ?_)
                    refine awp_ret ⟨.inr rfl, _, rfl, ?_⟩
                    simp only [jN, seval, vint, TyS, TyF, BdS]
                    simp_all [nwf]
                  ·
                    repeat (refine awp_seq ?_)
                    refine e_eval (by simp only [jA, jO, jN, seval, y3, vint, TyS, TyF, BdS, Int.cast_ofNat_Int] <;> with_reducible rfl) (by decide) ?_
                    repeat (refine awp_seq ?_)
                    refine awp_cond rfl (by simp only [jN, seval, vint, TyS, TyF, BdS, Int.cast_ofNat_Int] <;> with_reducible rfl) (fun b45 => ?_) (fun b45 => ?_)
                    ·
                      repeat (refine awp_seq ?_)
                      refine g_eval (by simp only [jG, jO, jN, seval, y3, y29, vint, TyS, TyF, BdS, Int.cast_ofNat_Int] <;> with_reducible rfl) (by decide) (by repeat (first | exact Fin.base _ | with_reducible apply Fin.keep | apply Fin.drop)) ?_
                      repeat (refine awp_seq ?_)
                      refine awp_ret ⟨.inr rfl, _, rfl, ?_⟩
                      simp only [jN, seval, vint, TyS, TyF, BdS]
                      simp_all [nwf]
                    ·
                      repeat (refine awp_seq ?_)
                      refine e_eval (by simp only [jA, jO, jN, seval, y3, vint, TyS, TyF, BdS, Int.cast_ofNat_Int] <;> with_reducible rfl) (by decide) ?_
                      repeat (refine awp_seq ?_)
                      refine awp_cond rfl (by simp only [jN, seval, vint, TyS, TyF, BdS, Int.cast_ofNat_Int] <;> with_reducible rfl) (fun b46 => ?_) (fun b46 => ?_)
                      ·
                        repeat (refine awp_seq ?_)
                        refine g_eval (by simp only [jG, jO, jN, seval, y3, y29, vint, TyS, TyF, BdS, Int.cast_ofNat_Int] <;> with_reducible rfl) (by decide) (by repeat (first | exact Fin.base _ | with_reducible apply Fin.keep | apply Fin.drop)) ?_
                        repeat (refine awp_seq ?_)
                        refine awp_ret ⟨.inr rfl, _, rfl, ?_⟩
                        simp only [jN, seval, vint, TyS, TyF, BdS]
                        simp_all [nwf]
                      ·
                        repeat (refine awp_seq ?_)
                        refine awp_skip ?_
                        repeat (refine awp_seq ?_)
                        refine e_eval (by simp only [jA, jO, jN, seval, vint, TyS, TyF, BdS, Int.cast_ofNat_Int] <;> with_reducible rfl) (by decide) ?_
                        repeat (refine awp_seq ?_)
                        refine awp_ret ⟨.inr rfl, _, rfl, ?_⟩
                        simp only [jN, seval, vint, TyS, TyF, BdS]
                        simp_all [nwf]
            ·
              repeat (refine awp_seq ?_)
              refine e_eval (by simp only [jA, jO, jN, seval, y3, vint, TyS, TyF, BdS, Int.cast_ofNat_Int] <;> with_reducible rfl) (by decide) ?_
              repeat (refine awp_seq ?_)
              refine awp_cond rfl (by simp only [jN, seval, vint, TyS, TyF, BdS, Int.cast_ofNat_Int] <;> with_reducible rfl) (fun b47 => ?_) (fun b47 => ?_)
              ·
                repeat (refine awp_seq ?_)
                refine g_eval (by simp only [jG, jO, jN, seval, y3, y29, vint, TyS, TyF, BdS, Int.cast_ofNat_Int] <;> with_reducible rfl) (by decide) (by repeat (first | exact Fin.base _ | with_reducible apply Fin.keep | apply Fin.drop)) ?_
                repeat (refine awp_seq ?_)
                refine awp_ret ⟨.inr rfl, _, rfl, ?_⟩
                simp only [jN, seval, vint, TyS, TyF, BdS]
                simp_all [nwf]
              ·
                repeat (refine awp_seq ?_)
                refine e_eval (by simp only [jA, jO, jN, seval, y3, vint, TyS, TyF, BdS, Int.cast_ofNat_Int] <;> with_reducible rfl) (by decide) ?_
                repeat (refine awp_seq ?_)
                refine awp_cond rfl (by simp only [jN, seval, vint, TyS, TyF, BdS, Int.cast_ofNat_Int] <;> with_reducible rfl) (fun b48 => ?_) (fun b48 => ?_)
                ·
                  repeat (refine awp_seq ?_)
                  refine e_eval (by simp only [jA, jO, jN, seval, y3, y29, vint, TyS, TyF, BdS, Int.cast_ofNat_Int] <;> with_reducible rfl) (by decide) ?_
                  repeat (refine awp_seq ?_)
                  refine awp_ret ⟨.inr rfl, _, rfl, ?_⟩
                  simp only [jN, seval, vint, TyS, TyF, BdS]
                  simp_all [nwf]
                ·
                  repeat (refine awp_seq ?_)
                  refine e_eval (by simp only [jA, jO, jN, seval, y3, vint, TyS, TyF, BdS, Int.cast_ofNat_Int] <;> with_reducible rfl) (by decide) ?_
                  repeat (refine awp_seq ?_)
                  refine awp_cond rfl (by simp only [jN, seval, vint, TyS, TyF, BdS, Int.cast_ofNat_Int] <;> with_reducible rfl) (fun b49 => ?_) (fun b49 => ?_)
                  ·
                    repeat (refine awp_seq ?_)
                    refine g_eval (by simp only [jG, jO, jN, seval, y3, y29, vint, TyS, TyF, BdS, Int.cast_ofNat_Int] <;> with_reducible rfl) (by decide) (by repeat (first | exact Fin.base _ | with_reducible apply Fin.keep | apply Fin.drop)) ?_
                    repeat (refine awp_seq ?_)
                    refine awp_ret ⟨.inr rfl, _, rfl, ?_⟩
                    simp only [jN, seval, vint, TyS, TyF, BdS]
                    simp_all [nwf]
                  ·
                    repeat (refine awp_seq ?_)
                    refine e_eval (by simp only [jA, jO, jN, seval, y3, vint, TyS, TyF, BdS, Int.cast_ofNat_Int] <;> with_reducible rfl) (by decide) ?_
                    repeat (refine awp_seq ?_)
                    refine awp_cond rfl (by simp only [jN, seval, vint, TyS, TyF, BdS, Int.cast_ofNat_Int] <;> with_reducible rfl) (fun b50 => ?_) (fun b50 => ?_)
                    ·
                      repeat (refine awp_seq ?_)
                      refine g_eval (by simp only [jG, jO, jN, seval, y3, y29, vint, TyS, TyF, BdS, Int.cast_ofNat_Int] <;> with_reducible rfl) (by decide) (by repeat (first | exact Fin.base _ | with_reducible apply Fin.keep | apply Fin.drop)) ?_
                      repeat (refine awp_seq ?_)
                      refine awp_ret ⟨.inr rfl, _, rfl, ?_⟩
                      simp only [jN, seval, vint, TyS, TyF, BdS]
                      simp_all [nwf]
                    ·
                      repeat (refine awp_seq ?_)
                      refine e_eval (by simp only [jA, jO, jN, seval, y3, vint, TyS, TyF, BdS, Int.cast_ofNat_Int] <;> with_reducible rfl) (by decide) ?_
                      repeat (refine awp_seq ?_)
                      refine awp_cond rfl (by simp only [jN, seval, vint, TyS, TyF, BdS, Int.cast_ofNat_Int] <;> with_reducible rfl) (fun b51 => ?_) (fun b51 => ?_)
                      ·
                        repeat (refine awp_seq ?_)
                        refine g_eval (by simp only [jG, jO, jN, seval, y3, y29, vint, TyS, TyF, BdS, Int.cast_ofNat_Int] <;> with_reducible rfl) (by decide) (by repeat (first | exact Fin.base _ | with_reducible apply Fin.keep | apply Fin.drop)) ?_
                        repeat (refine awp_seq ?_)
                        refine awp_ret ⟨.inr rfl, _, rfl, ?_⟩
                        simp only [jN, seval, vint, TyS, TyF, BdS]
                        simp_all [nwf]
                      ·
                        repeat (refine awp_seq ?_)
                        refine awp_skip ?_
                        repeat (refine awp_seq ?_)
                        refine e_eval (by simp only [jA, jO, jN, seval, vint, TyS, TyF, BdS, Int.cast_ofNat_Int] <;> with_reducible rfl) (by decide) ?_
                        repeat (refine awp_seq ?_)
                        refine awp_ret ⟨.inr rfl, _, rfl, ?_⟩
                        simp only [jN, seval, vint, TyS, TyF, BdS]
                        simp_all [nwf]
        ·
          refine awp_sel [1, 3, 8] (by simp only [jN, seval, vint, TyS, TyF, BdS, Int.cast_ofNat_Int] <;> with_reducible rfl) ?_
          repeat (refine awp_seq ?_)
          refine e_eval (by simp only [jA, jO, jN, seval, y3, vint, TyS, TyF, BdS, Int.cast_ofNat_Int] <;> with_reducible rfl) (by decide) ?_
          repeat (refine awp_seq ?_)
          refine awp_cond rfl (by simp only [jN, seval, vint, TyS, TyF, BdS, Int.cast_ofNat_Int] <;> with_reducible rfl) (fun b52 => ?_) (fun b52 => ?_)
          ·
            repeat (refine awp_seq ?_)
            refine g_eval (by simp only [jG, jO, jN, seval, y3, y29, vint, TyS, TyF, BdS, Int.cast_ofNat_Int] <;> with_reducible rfl) (by decide) (by repeat (first | exact Fin.base _ | with_reducible apply Fin.keep | apply Fin.drop)) ?_
            repeat (refine awp_seq ?_)
            refine awp_ret ⟨.inr rfl, _, rfl, ?_⟩
            simp only [jN, seval, vint, TyS, TyF, BdS]
            simp_all [nwf]
          ·
            repeat (refine awp_seq ?_)
            refine e_eval (by simp only [jA, jO, jN, seval, y3, vint, TyS, TyF, BdS, Int.cast_ofNat_Int] <;> with_reducible rfl) (by decide) ?_
            repeat (refine awp_seq ?_)
            refine awp_cond rfl (by simp only [jN, seval, vint, TyS, TyF, BdS, Int.cast_ofNat_Int] <;> with_reducible rfl) (fun b53 => ?_) (fun b53 => ?_)
            ·
              repeat (refine awp_seq ?_)
              refine awp_skip ?_
              repeat (refine awp_seq ?_)
              refine awp_cond rfl (by simp only [jN, seval, vint, TyS, TyF, BdS, Int.cast_ofNat_Int] <;> with_reducible rfl) (fun b54 => ?_) (fun b54 => ?_)
              ·
                repeat (refine awp_seq ?_)
                refine g_eval (by simp only [jG, jO, jN, seval, y3, y29, vint, TyS, TyF, BdS, Int.cast_ofNat_Int] <;> with_reducible rfl) (by decide) (by repeat (first | exact Fin.base _ | with_reducible apply Fin.keep | apply Fin.drop)) ?_
                repeat (refine awp_seq ?_)
                refine awp_ret ⟨.inr rfl, _, rfl, ?_⟩
                simp only [jN, seval, vint, TyS, TyF, BdS]
                simp_all [nwf]
              ·
                repeat (refine awp_seq ?_)
                refine e_eval (by simp only [jA, jO, jN, seval, y3, vint, TyS, TyF, BdS, Int.cast_ofNat_Int] <;> with_reducible rfl) (by decide) ?_
                repeat (refine awp_seq ?_)
                refine awp_cond rfl (by simp only [jN, seval, vint, TyS, TyF, BdS, Int.cast_ofNat_Int] <;> with_reducible rfl) (fun b55 => ?_) (fun b55 => ?_)
                ·
                  repeat (refine awp_seq ?_)
                  refine e_eval (by simp only [jA, jO, jN, seval, y3, y29, vint, TyS, TyF, BdS, Int.cast_ofNat_Int] <;> with_reducible rfl) (by decide) ?_
                  repeat (refine awp_seq ?_)
                  refine awp_ret ⟨.inr rfl, _, rfl, ?_⟩
                  simp only [jN, seval, vint, TyS, TyF, BdS]
                  simp_all [nwf]
                ·
                  repeat (refine awp_seq ?_)
                  refine e_eval (by simp only [jA, jO, jN, seval, y3, vint, TyS, TyF, BdS, Int.cast_ofNat_Int] <;> with_reducible rfl) (by decide) ?_
                  repeat (refine awp_seq ?_)
                  refine awp_cond rfl (by simp only [jN, seval, vint, TyS, TyF, BdS, Int.cast_ofNat_Int] <;> with_reducible rfl) (fun b56 => ?_) (fun b56 => ?_)
                  ·
                    repeat (refine awp_seq ?_)
                    refine g_eval (by simp only [jG, jO, jN, seval, y3, y29, vint, TyS, TyF, BdS, Int.cast_ofNat_Int] <;> with_reducible rfl) (by decide) (by repeat (first | exact Fin.base _ | with_reducible apply Fin.keep | apply Fin.drop)) ?_
                    repeat (refine awp_seq ?_)
                    refine awp_ret ⟨.inr rfl, _, rfl, ?_⟩
                    simp only [jN, seval, vint, TyS, TyF, BdS]
                    simp_all [nwf]
                  ·
                    repeat (refine awp_seq ?_)
                    refine e_eval (by simp only [jA, jO, jN, seval, y3, vint, TyS, TyF, BdS, Int.cast_ofNat_Int] <;> with_reducible rfl) (by decide) ?_
                    repeat (refine awp_seq ?_)
                    refine awp_cond rfl (by simp only [jN, seval, vint, TyS, TyF, BdS, Int.cast_ofNat_Int] <;> with_reducible rfl) (fun b57 => ?_) (fun b57 => ?_)
                    ·
                      repeat (refine awp_seq ?_)
                      refine g_eval (by simp only [jG, jO, jN, seval, y3, y29, vint, TyS, TyF, BdS, Int.cast_ofNat_Int] <;> with_reducible rfl) (by decide) (by repeat (first | exact Fin.base _ | with_reducible apply Fin.keep | apply Fin.drop)) ?_
                      repeat (refine awp_seq ?_)
                      refine awp_ret ⟨.inr rfl, _, rfl, ?_⟩
                      simp only [jN, seval, vint, TyS, TyF, BdS]
                      simp_all [nwf]
                    ·
                      repeat (refine awp_seq ?_)
                      refine e_eval (by simp only [jA, jO, jN, seval, y3, vint, TyS, TyF, BdS, Int.cast_ofNat_Int] <;> with_reducible rfl) (by decide) ?_
                      repeat (refine awp_seq ?_)
                      refine awp_cond rfl (by simp only [jN, seval, vint, TyS, TyF, BdS, Int.cast_ofNat_Int] <;> with_reducible rfl) (fun b58 => ?_) (fun b58 => ?_)
                      ·
                        repeat (refine awp_seq ?_)
                        refine g_eval (by simp only [jG, jO, jN, seval, y3, y29, vint, TyS, TyF, BdS, Int.cast_ofNat_Int] <;> with_reducible rfl) (by decide) (by repeat (first | exact Fin.base _ | with_reducible apply Fin.keep | apply Fin.drop)) ?_
                        repeat (refine awp_seq ?_)
                        refine awp_ret ⟨.inr rfl, _, rfl, ?_⟩
                        simp only [jN, seval, vint, TyS, TyF, BdS]
                        simp_all [nwf]
                      ·
                        repeat (refine awp_seq ?_)
                        refine awp_skip ?_
                        repeat (refine awp_seq ?_)
                        refine e_eval (by simp only [jA, jO, jN, seval, vint, TyS, TyF, BdS, Int.cast_ofNat_Int] <;> with_reducible rfl) (by decide) ?_
                        repeat (refine awp_seq ?_)
                        refine awp_ret ⟨.inr rfl, _, rfl, ?_⟩
                        simp only [jN, seval, vint, TyS, TyF, BdS]
                        simp_all [nwf]
            ·
              repeat (refine awp_seq ?_)
              refine e_eval (by simp only [jA, jO, jN, seval, y3, vint, TyS, TyF, BdS, Int.cast_ofNat_Int] <;> with_reducible rfl) (by decide) ?_
              repeat (refine awp_seq ?_)
              refine awp_cond rfl (by simp only [jN, seval, vint, TyS, TyF, BdS, Int.cast_ofNat_Int] <;> with_reducible rfl) (fun b59 => ?_) (fun b59 => ?_)
              ·
                repeat (refine awp_seq ?_)
                refine g_eval (by simp only [jG, jO, jN, seval, y3, y29, vint, TyS, TyF, BdS, Int.cast_ofNat_Int] <;> with_reducible rfl) (by decide) (by repeat (first | exact Fin.base _ | with_reducible apply Fin.keep | apply Fin.drop)) ?_
                repeat (refine awp_seq ?_)
                refine awp_ret ⟨.inr rfl, _, rfl, ?_⟩
                simp only [jN, seval, vint, TyS, TyF, BdS]
                simp_all [nwf]
              ·
                repeat (refine awp_seq ?_)
                refine e_eval (by simp only [jA, jO, jN, seval, y3, vint, TyS, TyF, BdS, Int.cast_ofNat_Int] <;> with_reducible rfl) (by decide) ?_
                repeat (refine awp_seq ?_)
                refine awp_cond rfl (by simp only [jN, seval, vint, TyS, TyF, BdS, Int.cast_ofNat_Int] <;> with_reducible rfl) (fun b60 => ?_) (fun b60 => ?_)
                ·
                  repeat (refine awp_seq ?_)
                  refine e_eval (by simp only [jA, jO, jN, seval, y3, y29, vint, TyS, TyF, BdS, Int.cast_ofNat_Int] <;> with_reducible rfl) (by decide) ?_
                  repeat (refine awp_seq ?_)
                  refine awp_ret ⟨.inr rfl, _, rfl, ?_⟩
                  simp only [jN, seval, vint, TyS, TyF, BdS]
                  simp_all [nwf]
                ·
                  repeat (refine awp_seq ?_)
                  refine e_eval (by simp only [jA, jO, jN, seval, y3, vint, TyS, TyF, BdS, Int.cast_ofNat_Int] <;> with_reducible rfl) (by decide) ?_
                  repeat (refine awp_seq ?_)
                  refine awp_cond rfl (by simp only [jN, seval, vint, TyS, TyF, BdS, Int.cast_ofNat_Int] <;> with_reducible rfl) (fun b61 => ?_) (fun b61 => ?_)
                  ·
                    repeat (refine awp_seq ?_)
                    refine g_eval (by simp only [jG, jO, jN, seval, y3, y29, vint, TyS, TyF, BdS, Int.cast_ofNat_Int] <;> with_reducible rfl) (by decide) (by repeat (first | exact Fin.base _ | with_reducible apply Fin.keep | apply Fin.drop)) ?_
                    repeat (refine awp_seq ?_)
                    refine awp_ret ⟨.inr rfl, _, rfl, ?_⟩
                    simp only [jN, seval, vint, TyS, TyF, BdS]
                    simp_all [nwf]
                  ·
                    repeat (refine awp_seq ?_)
                    refine e_eval (by simp only [jA, jO, jN, seval, y3, vint, TyS, TyF, BdS, Int.cast_ofNat_Int] <;> with_reducible rfl) (by decide) ?_
                    repeat (refine awp_seq ?_)
                    refine awp_cond rfl (by simp only [jN, seval, vint, TyS, TyF, BdS, Int.cast_ofNat_Int] <;> with_reducible rfl) (fun b62 => ?_) (fun b62 => ?_)
                    ·
                      repeat (refine awp_seq ?_)
                      refine g_eval (by simp only [jG, jO, jN, seval, y3, y29, vint, TyS, TyF, BdS, Int.cast_ofNat_Int] <;> with_reducible rfl) (by decide) (by repeat (first | exact Fin.base _ | with_reducible apply Fin.keep | apply Fin.drop)) ?_
                      repeat (refine awp_seq ?_)
                      refine awp_ret ⟨.inr rfl, _, rfl, ?_⟩
                      simp only [jN, seval, vint, TyS, TyF, BdS]
                      simp_all [nwf]
                    ·
                      repeat (refine awp_seq ?_)
                      refine e_eval (by simp only [jA, jO, jN, seval, y3, vint, TyS, TyF, BdS, Int.cast_ofNat_Int] <;> with_reducible rfl) (by decide) ?_
                      repeat (refine awp_seq ?_)
                      refine awp_cond rfl (by simp only [jN, seval, vint, TyS, TyF, BdS, Int.cast_ofNat_Int] <;> with_reducible rfl) (fun b63 => ?_) (fun b63 => ?_)
                      ·
                        repeat (refine awp_seq ?_)
                        refine g_eval (by simp only [jG, jO, jN, seval, y3, y29, vint, TyS, TyF, BdS, Int.cast_ofNat_Int] <;> with_reducible rfl) (by decide) (by repeat (first | exact Fin.base _ | with_reducible apply Fin.keep | apply Fin.drop)) ?_
                        repeat (refine awp_seq ?_)
                        refine awp_ret ⟨.inr rfl, _, rfl, ?_⟩
                        simp only [jN, seval, vint, TyS, TyF, BdS]
                        simp_all [nwf]
                      ·
                        repeat (refine awp_seq ?_)
                        refine awp_skip ?_
                        repeat (refine awp_seq ?_)
                        refine e_eval (by simp only [jA, jO, jN, seval, vint, TyS, TyF, BdS, Int.cast_ofNat_Int] <;> with_reducible rfl) (by decide) ?_
                        repeat (refine awp_seq ?_)
                        refine awp_ret ⟨.inr rfl, _, rfl, ?_⟩
                        simp only [jN, seval, vint, TyS, TyF, BdS]
                        simp_all [nwf]

theorem wellFormed1 (H : Heap) (u : Ty) (b : Bool) (ih : PC Try.prog 57 [u.enc] (.bool b)) : ACalls Try.prog 71 [u.enc] H fun r' H' => r' = .bool (!b) ∧ H' = H := by
  refine keeps_of (N := 6) Try.func71 rfl rfl (by simp) (.bool _) fun hb' => ?_
  repeat (refine awp_seq ?_)
  refine e_eval (by simp only [jA, jO, jN, seval, y29, vint, TyS, TyF, BdS] <;> with_reducible rfl) (by decide) ?_
  repeat (refine awp_seq ?_)
  refine awp_region ?_
  refine e_take 1 (by simp only [jA, jO, jN, seval, y29, vint, TyS, TyF, BdS] <;> with_reducible rfl) (by decide) ?_
  refine aops_pure (by simp only [jC, jN, seval, vint, TyS, TyF, BdS] <;> with_reducible rfl) (by simp only [jC, jN, seval, vint, TyS, TyF, BdS]) (by decide) Trygo57 (ih _) ?_
  refine e_end (by simp only [jA, jO, jN, seval, vint, TyS, TyF, BdS] <;> with_reducible rfl) (by decide) ?_
  repeat (refine awp_seq ?_)
  refine awp_ret ⟨.inr rfl, _, _, rfl, ?_, (by first | exact (List.append_nil _).symm | rfl)⟩
  simp only [jN, seval, vint, TyS, TyF, BdS]

theorem wellFormed_k : ∀ (k : Nat) (t : Ty), t.size ≤ k → t.W → PC Try.prog 57 [t.enc] (.bool (wfT t))
  | 0, t, h, _ => by cases t; simp [Ty.size] at h
  | k + 1, t, h, hw => by
    refine pc_of (N := 11) Try.func57 rfl rfl (by simp) (by simp [Ty.bel]) (.bool _) ?_
    repeat (refine awp_seq ?_)
    refine e_eval (by simp only [jA, jO, jN, seval, y29, vint, TyS, TyF, BdS] <;> with_reducible rfl) (by decide) ?_
    repeat (refine awp_seq ?_)
    refine awp_region ?_
    refine aops_gstart ?_
    refine g_take 1 (by simp only [jG, jO, jN, seval, y29, vint, TyS, TyF, BdS] <;> with_reducible rfl) (by decide) ?_
    refine aops_gpure (by simp only [jE, jN, seval, vint, TyS, TyF, BdS] <;> with_reducible rfl) (by simp only [jE, jN, seval, vint, TyS, TyF, BdS] <;> with_reducible rfl) (by simp only [jE, jN, seval, vint, TyS, TyF, BdS]) (by decide) Trygo70 (fun hc => nodeWellFormed t _) ?_
    refine g_take 3 (by simp only [jG, jO, jN, seval, y27, y29, vint, TyS, TyF, BdS] <;> with_reducible rfl) (by decide) ?_
    refine aops_gpure (by simp only [jE, jN, seval, vint, TyS, TyF, BdS] <;> with_reducible rfl) (by simp only [jE, jN, seval, vint, TyS, TyF, BdS] <;> with_reducible rfl) (by simp only [jE, jN, seval, vint, TyS, TyF, BdS]) (by decide) Trygo68 (fun hc => containsFuncTy (p := fun u => !wfT u) ⟨Trygo71, by simp, fun u hu => wellFormed1 _ u _ (wellFormed_k k u (by have := Ty.size_arg hu; omega) (hw.arg hu))⟩ hw.lenMax) ?_
    refine g_end (by simp only [jG, jO, jN, seval, vint, TyS, TyF, BdS] <;> with_reducible rfl) (by decide) (by repeat (first | exact Fin.base _ | with_reducible apply Fin.keep | apply Fin.drop)) ?_
    repeat (refine awp_seq ?_)
    refine awp_ret ⟨.inr rfl, _, rfl, ?_⟩
    simp only [jN, seval, vint, TyS, TyF, BdS]
    rw [wfT_eq]

theorem wellFormed_c (t : Ty) (hw : t.W) : PC Try.prog 57 [t.enc] (.bool (wfT t)) := wellFormed_k t.size t (Nat.le_refl _) hw

theorem validate (t : Ty) (hw : t.W) : PC Try.prog 21 [t.enc] (vint (valT t)) := by
  refine pc_of (N := 19) Try.func21 rfl rfl (by simp) (by simp [Ty.bel]) (.int _ _) ?_
  repeat (refine awp_seq ?_)
  refine e_eval (by simp only [jA, jO, jN, seval, y29, vint, TyS, TyF, BdS] <;> with_reducible rfl) (by decide) ?_
  repeat (refine awp_seq ?_)
  refine awp_region ?_
  refine e_take 1 (by simp only [jA, jO, jN, seval, y29, vint, TyS, TyF, BdS] <;> with_reducible rfl) (by decide) ?_
  refine aops_pure (by simp only [jC, jN, seval, vint, TyS, TyF, BdS] <;> with_reducible rfl) (by simp only [jC, jN, seval, vint, TyS, TyF, BdS]) (by decide) Trygo56 (measure_k t.size t 100 (Nat.le_refl _) hw (by decide) (by decide) _) ?_
  refine e_end (by simp only [jA, jO, jN, seval, vint, TyS, TyF, BdS] <;> with_reducible rfl) (by decide) ?_
  repeat (refine awp_seq ?_)
  refine g_eval (by simp only [jG, jO, jN, seval, y3, vint, TyS, TyF, BdS] <;> with_reducible rfl) (by decide) (by repeat (first | exact Fin.base _ | with_reducible apply Fin.keep | apply Fin.drop)) ?_
  repeat (refine awp_seq ?_)
  refine awp_cond rfl (by simp only [jN, seval, vint, TyS, TyF, BdS] <;> with_reducible rfl) (fun b0 => ?_) (fun b0 => ?_)
  ·
    refine awp_sel [] (by simp only [jN, seval, vint, TyS, TyF, BdS] <;> with_reducible rfl) ?_
    repeat (refine awp_seq ?_)
    refine e_eval (by simp only [jA, jO, jN, seval, vint, TyS, TyF, BdS] <;> with_reducible rfl) (by decide) ?_
    repeat (refine awp_seq ?_)
    refine awp_ret ⟨.inr rfl, _, rfl, ?_⟩
    simp only [jN, seval, vint, TyS, TyF, BdS]
    simp_all [valT]
  ·
    repeat (refine awp_seq ?_)
    refine awp_skip ?_
    refine awp_sel [1] (by simp only [jN, seval, vint, TyS, TyF, BdS] <;> with_reducible rfl) ?_
    repeat (refine awp_seq ?_)
    refine awp_region ?_
    refine e_take 1 (by simp only [jA, jO, jN, seval, y29, vint, TyS, TyF, BdS] <;> with_reducible rfl) (by decide) ?_
    refine aops_pure (by simp only [jC, jN, seval, vint, TyS, TyF, BdS] <;> with_reducible rfl) (by simp only [jC, jN, seval, vint, TyS, TyF, BdS]) (by decide) Trygo57 (wellFormed_c t hw _) ?_
    refine e_end (by simp only [jA, jO, jN, seval, vint, TyS, TyF, BdS] <;> with_reducible rfl) (by decide) ?_
    repeat (refine awp_seq ?_)
    refine awp_cond rfl (by simp only [jN, seval, vint, TyS, TyF, BdS] <;> with_reducible rfl) (fun b1 => ?_) (fun b1 => ?_)
    ·
      repeat (refine awp_seq ?_)
      refine e_eval (by simp only [jA, jO, jN, seval, vint, TyS, TyF, BdS] <;> with_reducible rfl) (by decide) ?_
      repeat (refine awp_seq ?_)
      refine awp_ret ⟨.inr rfl, _, rfl, ?_⟩
      simp only [jN, seval, vint, TyS, TyF, BdS]
      simp_all [valT]
    ·
      repeat (refine awp_seq ?_)
      refine awp_skip ?_
      repeat (refine awp_seq ?_)
      refine e_eval (by simp only [jA, jO, jN, seval, vint, TyS, TyF, BdS] <;> with_reducible rfl) (by decide) ?_
      repeat (refine awp_seq ?_)
      refine awp_ret ⟨.inr rfl, _, rfl, ?_⟩
      simp only [jN, seval, vint, TyS, TyF, BdS]
      simp_all [valT]

end Go.Abs
