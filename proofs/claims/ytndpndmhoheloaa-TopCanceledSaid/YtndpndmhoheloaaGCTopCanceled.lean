/- Part 3 of a proof of the law TopCanceled: Go data as trees, the walks of the functions that the law reaches, the plain laws. -/
import Derived.Test.YtndpndmhoheloaaGBTopCanceled
set_option linter.unusedVariables false
set_option linter.unusedSimpArgs false
namespace Go.Abs
inductive Ty where
  | mk (kind id : Int) (args : List Ty)
def Ty.kind : Ty → Int | .mk k _ _ => k
def Ty.id : Ty → Int | .mk _ i _ => i
def Ty.args : Ty → List Ty | .mk _ _ gs => gs
mutual
def Ty.enc : Ty → PV
  | .mk k i gs => .agg [.int .i64 k, .int .i64 i, .slice (encs gs) .none]
def encs : List Ty → List PV
  | [] => []
  | t :: ts => t.enc :: encs ts
end
theorem encs_eq (ts : List Ty) : encs ts = ts.map Ty.enc := by
  induction ts with
  | nil => rfl
  | cons t ts ih => simp [encs, ih]
theorem Ty.enc_eq (t : Ty) : t.enc = .agg [.int .i64 t.kind, .int .i64 t.id, .slice (t.args.map Ty.enc) .none] := by
  cases t; simp [Ty.enc, encs_eq, Ty.kind, Ty.id, Ty.args]
theorem Ty.enc_cells (t : Ty) : t.enc.cells = [.int .i64 t.kind, .int .i64 t.id, .slice (t.args.map Ty.enc) .none] := by
  rw [Ty.enc_eq]; rfl
theorem Ty.enc_len (t : Ty) : t.enc.cells.length = 3 := by rw [Ty.enc_cells]; rfl
mutual
theorem Ty.bel (n : Nat) : ∀ t : Ty, Bel n t.enc
  | .mk k i gs => .agg _ (by
      intro c hc
      simp only [List.mem_cons, List.not_mem_nil, or_false] at hc
      rcases hc with rfl | rfl | rfl
      · exact .int _ _
      · exact .int _ _
      · exact .slice _ _ (belCs n gs) (fun id h => by cases h))
theorem belCs (n : Nat) : ∀ ts : List Ty, ∀ e ∈ encs ts, ∀ c ∈ e.cells, Bel n c
  | [] => fun e he => by simp [encs] at he
  | t :: ts => fun e he c hc => by
    simp only [encs, List.mem_cons] at he
    rcases he with rfl | he
    · have h := Ty.bel n t
      rw [Ty.enc_eq] at h hc
      cases h with
      | agg _ q => exact q c hc
    · exact belCs n ts e he c hc
end
theorem bel_slice_ty (n : Nat) (ts : List Ty) : Bel n (.slice (ts.map Ty.enc) .none) := by
  rw [← encs_eq]; exact .slice _ _ (belCs n ts) (fun id h => by cases h)
mutual
def Ty.size : Ty → Nat
  | .mk _ _ gs => 1 + Ty.sizes gs
def Ty.sizes : List Ty → Nat
  | [] => 0
  | t :: ts => t.size + Ty.sizes ts
end
theorem wrap_id {n : Int} (h0 : -9223372036854775808 ≤ n) (h : n ≤ 9223372036854775807) : IntKind.i64.wrap n = n := by
  simp [IntKind.wrap, IntKind.bits, IntKind.signed]
  omega
inductive Ty.W : Ty → Prop
  | mk {k i : Int} {us : List Ty} (hl : us.length * 40 ≤ 2 ^ 47) (h : ∀ u ∈ us, u.W) : (Ty.mk k i us).W
theorem Ty.W.len {t : Ty} (h : t.W) : t.args.length * 40 ≤ 2 ^ 47 := by cases h; assumption
mutual
def Ty.eqb : Ty → Ty → Bool
  | .mk k i us, .mk k' i' vs => decide (k = k') && (decide (i = i') && eqbs us vs)
def eqbs : List Ty → List Ty → Bool
  | [], [] => true
  | u :: us, v :: vs => u.eqb v && eqbs us vs
  | _, _ => false
end
mutual
theorem Ty.eqb_iff : ∀ a b : Ty, a.eqb b = true ↔ a = b
  | .mk k i us, .mk k' i' vs => by
    simp only [Ty.eqb, Bool.and_eq_true, decide_eq_true_eq, Ty.mk.injEq, eqbs_iff us vs]
theorem eqbs_iff : ∀ us vs : List Ty, eqbs us vs = true ↔ us = vs
  | [], [] => by simp [eqbs]
  | [], v :: vs => by simp [eqbs]
  | u :: us, [] => by simp [eqbs]
  | u :: us, v :: vs => by simp [eqbs, Ty.eqb_iff u v, eqbs_iff us vs]
end
instance : DecidableEq Ty := fun a b => decidable_of_iff (a.eqb b = true) (Ty.eqb_iff a b)
theorem bel_fn0 (n : Nat) (f : Fn) : Bel n (.fn f [] []) := .fn _ _ _ (by simp) (by simp)
abbrev vint (n : Int) : PV := .int .i64 n
theorem bel_ints (n : Nat) (xs : List Int) (tl : Tail) (ht : ∀ id, tl = .tok id → id < n) : Bel n (.slice (xs.map vint) tl) :=
  .slice _ _ (fun e he c hc => by obtain ⟨x, _, rfl⟩ := List.mem_map.1 he; simp [PV.cells] at hc; subst hc; exact .int _ _) ht
end Go.Abs
namespace Go.Abs
end Go.Abs
namespace Go.Abs
end Go.Abs
namespace Go.Abs
section
variable {P : Program} {N nb : Nat} {ops : Array Oper} {Q : Post}
end
section
variable {P : Program} {N : Nat}
end
theorem bel_ints0 (n : Nat) (xs : List Int) : Bel n (.slice (xs.map vint) .none) := bel_ints n xs .none (fun _ h => by cases h)
def idxI {α : Type} (p : α → Bool) (xs : List α) : Int := match xs.findIdx? p with | some i => i | none => -1
theorem idxI_nonneg {α : Type} (p : α → Bool) (xs : List α) : decide (idxI p xs ≥ 0) = xs.any p := by
  unfold idxI
  rw [Bool.eq_iff_iff, decide_eq_true_eq, List.any_eq_true]
  cases h : xs.findIdx? p with
  | none =>
    rw [List.findIdx?_eq_none_iff] at h
    constructor
    · intro h'; simp at h'
    · rintro ⟨x, hx, hp⟩; rw [h x hx] at hp; cases hp
  | some i =>
    obtain ⟨hi, h1, h2⟩ := List.findIdx?_eq_some_iff_getElem.1 h
    exact ⟨fun _ => ⟨xs[i], List.getElem_mem hi, h1⟩, fun _ => by simp⟩
theorem idxI_at {α : Type} {p : α → Bool} {xs : List α} {i : Nat} (hi : i < xs.length) (h : p xs[i] = true) (h' : (xs.take i).any p = false) : idxI p xs = i := by
  unfold idxI
  have : xs.findIdx? p = some i := by
    rw [List.findIdx?_eq_some_iff_getElem]
    refine ⟨hi, h, fun j hj => ?_⟩
    rw [List.any_eq_false] at h'
    have := h' xs[j] (by rw [List.mem_take_iff_getElem]; exact ⟨j, by omega, rfl⟩)
    simpa using this
  rw [this]
theorem idxI_none {α : Type} {p : α → Bool} {xs : List α} (h' : xs.any p = false) : idxI p xs = -1 := by
  unfold idxI
  have : xs.findIdx? p = none := by
    rw [List.findIdx?_eq_none_iff]
    intro x hx
    rw [List.any_eq_false] at h'
    simpa using h' x hx
  rw [this]
theorem any_take_succ {α : Type} {p : α → Bool} {xs : List α} {i : Nat} (hi : i < xs.length) (h : (xs.take i).any p = false) (hp : p xs[i] = false) : (xs.take (i + 1)).any p = false := by
  rw [List.take_succ_eq_append_getElem hi, List.any_append, h]; simp [hp]
theorem get_enc {α : Type} (f : α → PV) {xs : List α} {i : Nat} (hi : i < xs.length) : (xs.map f)[i]? = some (f xs[i]) := by simp [hi]
theorem ix_nat {i n : Nat} (h : i < n) : ((0 : Int) ≤ i ∧ (i : Int) < n) = True := by simp; omega
structure CloB (P : Program) {α : Type} (en : α → PV) (f : FuncId) (caps : List PV) (H : Heap) (xs : List α) (p : α → Bool) : Prop where
  go : goFn P f = true
  bel : ∀ c ∈ caps, Bel H.length c
  call : ∀ u ∈ xs, ACalls P f (en u :: caps) H fun r' H' => r' = .bool (p u) ∧ H' = H
end Go.Abs
namespace Go.Abs
theorem awp_sel {P : Program} {N nb : Nat} {Q : Post} {c : Code} {T : Slots} {H : Heap} (live : List Nat) {l : List (Nat × PV)} (hl : live.map (fun d => (d, T d)) = l) (h : AWP P N nb c Q (mkS l) H) : AWP P N nb c Q T H := by
  refine awp_weak (fun i => ?_) h
  subst hl
  clear h
  induction live with
  | nil => exact .inl rfl
  | cons d live ih =>
    simp only [List.map_cons, mkS, upd]
    split
    · rename_i e; subst e; exact .inr rfl
    · exact ih
end Go.Abs
namespace Go.Abs
section
variable (P : Program) (N : Nat) (ops : List Oper)
def as2 (o : Oper) (T : Slots) (H : Heap) : Option (PV × Eff) → Option (Slots × Heap)
  | some r => some (updO T o.dst r.1, appS H r.2)
  | none => none
def as1 (o : Oper) (T : Slots) (H : Heap) : Option Bool → Option (Slots × Heap)
  | some true => as2 o T H (aop P false H.length T H o.op)
  | some false => some (updO T o.dst .junk, H)
  | none => none
def as0 (o : Oper) : Option (Slots × Heap) → Option (Slots × Heap)
  | some (T, H) => as1 P o T H (awanted ops T N o)
  | none => none
def asq : List Oper → Option (Slots × Heap) → Option (Slots × Heap)
  | [], s => s
  | o :: l, s => asq l (as0 P N ops o s)
theorem asq_none : ∀ l, asq P N ops l none = none
  | [] => rfl
  | o :: l => asq_none l
theorem asq_eq : ∀ (l : List Oper) (T : Slots) (H : Heap), asq P N ops l (some (T, H)) = aseq P N ops l T H
  | [], T, H => rfl
  | o :: l, T, H => by
    simp only [asq, as0, aseq]
    cases hw : awanted ops T N o with
    | none => exact asq_none P N ops l
    | some b =>
      cases b
      · exact asq_eq l _ _
      · simp only [as1]
        cases ha : aop P false H.length T H o.op with
        | none => exact asq_none P N ops l
        | some r => exact asq_eq l _ _
def gs2 (o : Oper) (T : Slots) (G : Nat → Bool) (H : Heap) (c : Bool) : Option (PV × Eff) → Option (Slots × (Nat → Bool) × Heap)
  | some r => some (updO T o.dst r.1, ugO G o.dst c, appS H r.2)
  | none => none
def gs1 (o : Oper) (T : Slots) (G : Nat → Bool) (H : Heap) : Option Bool → Option (Slots × (Nat → Bool) × Heap)
  | some c => gs2 o T G H c (gop P H.length c T G H o.op)
  | none => none
def gs0 (o : Oper) : Option (Slots × (Nat → Bool) × Heap) → Option (Slots × (Nat → Bool) × Heap)
  | some (T, G, H) => gs1 P o T G H (gcond ops T G N o)
  | none => none
def gsq : List Oper → Option (Slots × (Nat → Bool) × Heap) → Option (Slots × (Nat → Bool) × Heap)
  | [], s => s
  | o :: l, s => gsq l (gs0 P N ops o s)
theorem gsq_none : ∀ l, gsq P N ops l none = none
  | [] => rfl
  | o :: l => gsq_none l
theorem gsq_eq : ∀ (l : List Oper) (T : Slots) (G : Nat → Bool) (H : Heap), gsq P N ops l (some (T, G, H)) = gseq P N ops l T G H
  | [], T, G, H => rfl
  | o :: l, T, G, H => by
    simp only [gsq, gs0, gseq]
    cases hw : gcond ops T G N o with
    | none => exact gsq_none P N ops l
    | some c =>
      simp only [gs1, Option.bind_some]
      cases ha : gop P H.length c T G H o.op with
      | none => exact gsq_none P N ops l
      | some r => exact gsq_eq l _ _ _
abbrev DSt := Nat × Nat × Prev × Slots × Heap
def ds3 (o : Oper) (k fresh : Nat) (prev : Prev) (T : Slots) (H : Heap) (r : PV × Eff) (rd eids : List Nat) : Bool → Bool → Option DSt
  | true, true => some (k + 1, nextFresh fresh r.2, prev ++ [(k, rd, eids)], updO T o.dst r.1, effSet r.2 H)
  | _, _ => none
def ds2 (bm : List Nat) (o : Oper) (k fresh : Nat) (prev : Prev) (T : Slots) (H : Heap) : Option (PV × Eff) → Option DSt
  | some r => ds3 o k fresh prev T H r (ard T o.op ++ effIds r.2) (effIds r.2) (freshOk fresh r.2 H) (hapB (bm.getD k 0) prev (ard T o.op ++ effIds r.2) (effIds r.2))
  | none => none
def ds1 (bm : List Nat) (o : Oper) (k fresh : Nat) (prev : Prev) (T : Slots) (H : Heap) : Option Bool → Option DSt
  | some true => ds2 bm o k fresh prev T H (aop P false fresh T H o.op)
  | some false => some (k + 1, fresh, prev ++ [(k, [], [])], updO T o.dst .junk, H)
  | none => none
def ds0 (bm : List Nat) (o : Oper) : Option DSt → Option DSt
  | some (k, fresh, prev, T, H) => ds1 P bm o k fresh prev T H (awanted ops T N o)
  | none => none
def dsq (bm : List Nat) : List Oper → Option DSt → Option DSt
  | [], s => s
  | o :: l, s => dsq bm l (ds0 P N ops bm o s)
theorem dsq_none (bm : List Nat) : ∀ l, dsq P N ops bm l none = none
  | [] => rfl
  | o :: l => dsq_none bm l
theorem dsq_eq (bm : List Nat) : ∀ (l : List Oper) (k fresh : Nat) (prev : Prev) (T : Slots) (H : Heap) {k' fresh' prev' T' H'}, dsq P N ops bm l (some (k, fresh, prev, T, H)) = some (k', fresh', prev', T', H') → dseq P N ops bm l k fresh prev T H = some (fresh', prev', T', H')
  | [], k, fresh, prev, T, H, k', fresh', prev', T', H', h => by cases h; rfl
  | o :: l, k, fresh, prev, T, H, k', fresh', prev', T', H', h => by
    simp only [dsq, ds0] at h
    simp only [dseq]
    cases hw : awanted ops T N o with
    | none => rw [hw] at h; simp only [ds1, dsq_none] at h; cases h
    | some b =>
      rw [hw] at h
      cases b
      · exact dsq_eq bm l _ _ _ _ _ h
      · simp only [ds1] at h
        cases ha : aop P false fresh T H o.op with
        | none => rw [ha] at h; simp only [ds2, dsq_none] at h; cases h
        | some r =>
          rw [ha] at h
          simp only [ds2] at h
          cases h1 : freshOk fresh r.2 H with
          | false => rw [h1] at h; simp only [ds3, dsq_none] at h; cases h
          | true =>
            cases h2 : hapB (bm.getD k 0) prev (ard T o.op ++ effIds r.2) (effIds r.2) with
            | false => rw [h1, h2] at h; simp only [ds3, dsq_none] at h; cases h
            | true =>
              rw [h1, h2] at h
              simp only [ds3] at h
              simp only [Option.bind_some, h1, h2, and_self, if_true]
              exact dsq_eq bm l _ _ _ _ _ h
abbrev GDSt := Nat × Nat × Prev × Slots × (Nat → Bool) × Heap
end
section
variable {P : Program} {N nb : Nat} {ops : Array Oper} {Q : Post}
theorem e_take (n : Nat) {l : List Oper} {T T' : Slots} {H H' : Heap} (hs : asq P N ops.toList (l.take n) (some (T, H)) = some (T', H')) (hok : (l.take n).all (fun o => okOp N o.op) = true) (h : AOps P N nb ops Q (l.drop n) T' H') : AOps P N nb ops Q l T H := aops_take n (asq_eq .. ▸ hs) hok h
theorem e_end {l : List Oper} {T T' : Slots} {H H' : Heap} (hs : asq P N ops.toList l (some (T, H)) = some (T', H')) (hok : l.all (fun o => okOp N o.op) = true) (h : Q .normal T' H') : AOps P N nb ops Q l T H := aops_end (asq_eq .. ▸ hs) hok h
theorem e_eval {id : Nat} {T T' : Slots} {H H' : Heap} (hs : asq P N ops.toList ops.toList (some (T, H)) = some (T', H')) (hok : ops.toList.all (fun o => okOp N o.op) = true) (h : Q .normal T' H') : AWP P N nb (.region id ops false) Q T H := awp_eval (asq_eq .. ▸ hs) hok h
theorem g_take (n : Nat) {l : List Oper} {T T' : Slots} {G G' : Nat → Bool} {H H' : Heap} (hs : gsq P N ops.toList (l.take n) (some (T, G, H)) = some (T', G', H')) (hok : (l.take n).all (fun o => okOp N o.op) = true)
    (h : AOps P N nb ops Q (l.drop n) (msk (.tup []) T' G') H') : AOps P N nb ops Q l (msk (.tup []) T G) H := aops_gtake n (gsq_eq .. ▸ hs) hok h
theorem g_end {l : List Oper} {T T' F : Slots} {G G' : Nat → Bool} {H H' : Heap} (hs : gsq P N ops.toList l (some (T, G, H)) = some (T', G', H')) (hok : l.all (fun o => okOp N o.op) = true) (hf : Fin T' G' F) (h : Q .normal F H') :
    AOps P N nb ops Q l (msk (.tup []) T G) H := aops_gend (gsq_eq .. ▸ hs) hok hf h
theorem g_eval {id : Nat} {T T' F : Slots} {G' : Nat → Bool} {H H' : Heap} (hs : gsq P N ops.toList ops.toList (some (T, allG, H)) = some (T', G', H')) (hok : ops.toList.all (fun o => okOp N o.op) = true) (hf : Fin T' G' F) (h : Q .normal F H') : AWP P N nb (.region id ops false) Q T H := awp_geval (gsq_eq .. ▸ hs) hok hf h
theorem d_take (n : Nat) {l : List Oper} {k k' fresh : Nat} {prev prev' : Prev} {T T' : Slots} {H H' : Heap} {bm : List Nat} {fresh' : Nat} (hbm : bmasks ops.toList = bm) (hs : dsq P N ops.toList bm (l.take n) (some (k, fresh, prev, T, H)) = some (k', fresh', prev', T', H'))
    (hok : (l.take n).all (fun o => okOp N o.op) = true) (hn : (l.take n).length = n) (h : DOps P N ops Q (k + n) (l.drop n) prev' T' H') : DOps P N ops Q k l prev T H := dops_take n hbm (dsq_eq _ _ _ _ _ _ _ _ _ _ hs) hok hn h
theorem d_end {l : List Oper} {k k' fresh : Nat} {prev prev' : Prev} {T T' : Slots} {H H' : Heap} {bm : List Nat} {fresh' : Nat} (hbm : bmasks ops.toList = bm) (hs : dsq P N ops.toList bm l (some (k, fresh, prev, T, H)) = some (k', fresh', prev', T', H'))
    (hok : l.all (fun o => okOp N o.op) = true) (h : Q .normal T' H') : DOps P N ops Q k l prev T H := dops_end hbm (dsq_eq _ _ _ _ _ _ _ _ _ _ hs) hok h
end
end Go.Abs
namespace Go.Abs
section
variable {P : Program} {N nb : Nat} {Q : Post}
end
end Go.Abs
namespace Go.Abs
end Go.Abs
namespace Go.Abs
theorem ACalls.retok {P : Program} {f : FuncId} {es : List PV} (sz : Nat) {args : List PV} {H : Heap} {R : PV → Heap → Prop} (h : ACalls P f (.slice es (.tok H.length) :: args) (H ++ [.buf es.length sz]) R) (he : es = [] := by rfl) : ACalls P f (.slice es .full :: args) H R := by
  intro E vargs ho hH hr
  subst hH
  have hun : E.ext.H[E.H.length]? = some .unborn := by simp [Env.ext]
  have ho2 := Env.Ok.retok (n := es.length) (sz := sz) ho.ext hun
  have hle := E.ext_le.trans (Env.retok_le (n := es.length) (sz := sz) hun)
  have hH2 : (E.ext.retok E.H.length es.length sz).H = E.H ++ [.buf es.length sz] := by
    simp only [Env.retok, Env.ext]
    rw [List.set_append_right _ _ (Nat.le_refl _)]; simp
  refine (h (E.ext.retok E.H.length es.length sz) vargs ho2 hH2 ⟨hr.1, fun i hi => ?_⟩).mono fun e w' ⟨E', v, r, h1, h2, h3, h4⟩ => ⟨E', v, r, h1, h2, hle.trans h3, h4⟩
  have h0 := (hr.2 i hi).mono hle.view
  cases i with
  | zero =>
    simp only [List.getElem_cons_zero] at h0 ⊢
    refine VRel.retok he h0 ⟨.buf es.length sz, by rw [hH2]; simp, by simp⟩ (fun t e => ?_)
    simp only [Env.view, hH2, List.getElem?_append_right (Nat.le_refl _), Nat.sub_self, List.getElem?_cons_zero, Option.some.injEq] at e
    subst e; exact Nat.le_refl _
  | succ i => simpa using h0
end Go.Abs
namespace Go.Abs
end Go.Abs
namespace Go.Abs
section
variable {P : Program} {N nb : Nat} {Q : Post}
end
theorem guard_sl {P : Program} {w : World} (op : BinOp) (t : TypeId) (x y : Operand) (a b : Option Addr) (n m k l : Nat) : (eqGuard op t x y (.slice a n m) (.slice b k l)).run P w = .ok () w := by
  cases op <;> rfl
theorem aops_nilcmp {P : Program} {N nb : Nat} {ops : Array Oper} {Q : Post} {o : Oper} {l : List Oper} {T : Slots} {H : Heap} {t y : TypeId} {x : Operand} {es : List PV} {tl : Tail}
    (hop : o.op = .binOp .eql t x (.const (.slice none 0 0)) y) (hx : aev T x = .slice es tl) (hw : awanted ops.toList T N o = some true) (hok : okOpnd N x = true) (hte : (telem P t).isSome = true)
    (h : ∀ b, (es ≠ [] → b = false) → AOps P N nb ops Q l (updO T o.dst (.bool b)) H) : AOps P N nb ops Q (o :: l) T H := by
  intro E a ho hH ht
  have hr := vrel_eval ht x hok
  rw [hx] at hr
  obtain ⟨e, hu⟩ := telem_isSome hte
  obtain ⟨b, hb, hres⟩ : ∃ b, (es ≠ [] → b = false) ∧ (execOp a.eval o).run P E.w = .ok (.value (.bool b)) E.w := by
    have hc : a.eval (.const (.slice none 0 0)) = .slice none 0 0 := rfl
    generalize hvx : a.eval x = vx at hr
    cases hr with
    | nils _ _ =>
      refine ⟨true, fun h => (h rfl).elim, ?_⟩
      have he : (Op.equal t (.slice none 0 0) (.slice none 0 0)).run P E.w = .ok true E.w := by
        have key : ∀ d, (Op.equalIn (d + 1) t (.slice none 0 0) (.slice none 0 0)).run P E.w = .ok true E.w := by
          intro d; simp only [Op.equalIn, Sem.run_bind, run_under hu, Result.andThen_ok, Sem.run_pure, Option.isNone_none]
        exact key 9999
      unfold execOp
      rw [hop]
      simp only [Sem.run_bind, hc, hvx, guard_sl, Result.andThen_ok, binOp, he, Sem.run_pure]
    | slice a' len cap sz _ _ vs h1 h2 h3 h4 h5 h6 h7 =>
      refine ⟨false, fun _ => rfl, ?_⟩
      have he : (Op.equal t (.slice (some a') len cap) (.slice none 0 0)).run P E.w = .ok false E.w := by
        have key : ∀ d, (Op.equalIn (d + 1) t (.slice (some a') len cap) (.slice none 0 0)).run P E.w = .ok false E.w := by
          intro d; simp only [Op.equalIn, Sem.run_bind, run_under hu, Result.andThen_ok, Sem.run_pure]
        exact key 9999
      unfold execOp
      rw [hop]
      simp only [Sem.run_bind, hc, hvx, guard_sl, Result.andThen_ok, binOp, he, Sem.run_pure]
  have hn := h b hb E (a.put o.dst (.bool b)) ho hH (ht.put o.dst (.bool b))
  refine wpList_cons (awanted_sound ht hw) ?_
  unfold Oper.wp
  rw [hres]
  exact hn
theorem aappend_all {i : TI} {fresh : Nat} {H : Heap} {ys : List PV} {tl : Tail} (hne : ys ≠ []) (hb : ys.length * i.bytes ≤ 2 ^ 47) (hm : ys.length ≤ maxLen)
    (hys : ∀ e ∈ ys, e.cells.length = i.sz ∧ e.cells.all PV.isCell = true) (hs : 0 < i.sz) :
    aappend i fresh H (.slice [] .full) (.slice ys tl) = some (.slice ys (.tok fresh), some (fresh, .buf ys.length i.sz)) := by
  unfold aappend
  simp only [if_neg hne, List.length_nil, Nat.zero_add]
  rw [if_pos ⟨hb, hm, by simp, hys, hs⟩]
  rfl
section
variable {P : Program} {N nb : Nat} {Q : Post}
theorem aops_opF {ops : Array Oper} {o : Oper} {l : List Oper} {T : Slots} {H : Heap} (mt : Bool) (id : Nat) {v : PV} {e : Eff} {H' : Heap} (hid : H[id]? = some .unborn) (hw : awanted ops.toList T N o = some true) (hok : okOp N o.op = true)
    (hv : aop P mt id T H o.op = some (v, e)) (hH' : e.app H = H') (h : AOps P N nb ops Q l (updO T o.dst v) H') : AOps P N nb ops Q (o :: l) T H := by
  refine aops_done hw (fun E a ho hH ht => ?_) h
  subst hH
  obtain ⟨E', val, h1, h2, h3, h4, h5⟩ := aop_sound ho ht hok hv (fun ob he => hid)
  exact ⟨E', val, h1, h2, h3, h4.trans hH', h5⟩
end
end Go.Abs
namespace Go.Abs
def NoEff (prev : Prev) : Prop := ∀ p ∈ prev, p.2.2 = []
theorem hapB_noeff {prev : Prev} (h : NoEff prev) (m : Nat) (rd : List Nat) : hapB m prev rd [] = true := by
  unfold hapB
  rw [List.all_eq_true]
  intro p hp
  rw [h p hp]; simp
theorem NoEff.app {prev : Prev} (h : NoEff prev) (k : Nat) (rd : List Nat) : NoEff (prev ++ [(k, rd, [])]) := by
  intro p hp
  rcases List.mem_append.1 hp with hp | hp
  · exact h p hp
  · rw [List.mem_singleton] at hp; rw [hp]
section
variable {P : Program} {N nb : Nat} {ops : Array Oper} {Q : Post}
def DP (P : Program) (N : Nat) (ops : Array Oper) (Q : Post) (k : Nat) (l : List Oper) (T : Slots) (H : Heap) : Prop := ∀ prev, NoEff prev → DOps P N ops (fun e T1 H1 => ∃ T2, (∀ i, T2 i = .junk ∨ T2 i = T1 i) ∧ Q e T2 H1) k l prev T H
theorem dp_draw {id : Nat} {T : Slots} {H : Heap} (hok : drawOk P ops.toList = true) (h : DP P N ops Q 0 ops.toList (msk (.tup []) T allG) H) : AWP P N nb (.region id ops true) Q T H := by
  refine awp_drawW 0 hok ?_
  have := h [] (by intro p hp; cases hp)
  simp only [List.replicate_zero, List.append_nil]
  exact this
def ps2 (o : Oper) (T : Slots) (G : Nat → Bool) (H : Heap) (c : Bool) : Option (PV × Eff) → Option (Slots × (Nat → Bool) × Heap)
  | some (v, none) => some (updO T o.dst v, ugO G o.dst c, H)
  | _ => none
def ps1 (P : Program) (o : Oper) (T : Slots) (G : Nat → Bool) (H : Heap) : Option Bool → Option (Slots × (Nat → Bool) × Heap)
  | some c => ps2 o T G H c (gop P H.length c T G H o.op)
  | none => none
def ps0 (P : Program) (N : Nat) (ops : List Oper) (o : Oper) : Option (Slots × (Nat → Bool) × Heap) → Option (Slots × (Nat → Bool) × Heap)
  | some (T, G, H) => ps1 P o T G H (gcond ops T G N o)
  | none => none
def psq (P : Program) (N : Nat) (ops : List Oper) : List Oper → Option (Slots × (Nat → Bool) × Heap) → Option (Slots × (Nat → Bool) × Heap)
  | [], s => s
  | o :: l, s => psq P N ops l (ps0 P N ops o s)
theorem psq_none : ∀ l, psq P N ops.toList l none = none
  | [] => rfl
  | o :: l => psq_none l
theorem dp_run : ∀ (l l2 : List Oper) (k : Nat) (T : Slots) (G : Nat → Bool) (H : Heap) {T' : Slots} {G' : Nat → Bool} {H' : Heap}, l.all (fun o => okOp N o.op) = true →
    psq P N ops.toList l (some (T, G, H)) = some (T', G', H') → (DP P N ops Q (k + l.length) l2 (msk (.tup []) T' G') H') → DP P N ops Q k (l ++ l2) (msk (.tup []) T G) H
  | [], l2, k, T, G, H, T', G', H', _, hs, h => by cases hs; exact h
  | o :: l, l2, k, T, G, H, T', G', H', hok, hs, h => by
    simp only [List.all_cons, Bool.and_eq_true] at hok
    simp only [psq, ps0] at hs
    cases hw : gcond ops.toList T G N o with
    | none => rw [hw] at hs; simp only [ps1, psq_none] at hs; cases hs
    | some c =>
      rw [hw] at hs
      simp only [ps1] at hs
      cases hg : gop P H.length c T G H o.op with
      | none => rw [hg] at hs; simp only [ps2, psq_none] at hs; cases hs
      | some r =>
        rw [hg] at hs
        obtain ⟨v, e⟩ := r
        cases e with
        | some e => simp only [ps2, psq_none] at hs; cases hs
        | none =>
          simp only [ps2] at hs
          intro prev hp
          refine dops_gstep (fresh := H.length) rfl hok.1 hw hg rfl (hapB_noeff hp _ _) ?_
          have := dp_run l l2 (k + 1) _ _ _ hok.2 hs (by rw [show k + 1 + l.length = k + (o :: l).length by simp only [List.length_cons]; omega]; exact h)
          exact this _ (hp.app _ _)
theorem dp_take (n : Nat) {l : List Oper} {k : Nat} {T T' : Slots} {G G' : Nat → Bool} {H H' : Heap} (hs : psq P N ops.toList (l.take n) (some (T, G, H)) = some (T', G', H'))
    (hok : (l.take n).all (fun o => okOp N o.op) = true) (h : DP P N ops Q (k + (l.take n).length) (l.drop n) (msk (.tup []) T' G') H') : DP P N ops Q k l (msk (.tup []) T G) H := by
  have := dp_run (l.take n) (l.drop n) k T G H hok hs h
  rwa [List.take_append_drop] at this
theorem dp_end {l : List Oper} {k : Nat} {T T' F : Slots} {G G' : Nat → Bool} {H H' : Heap} (hs : psq P N ops.toList l (some (T, G, H)) = some (T', G', H'))
    (hok : l.all (fun o => okOp N o.op) = true) (hf : Fin T' G' F) (h : Q .normal F H') : DP P N ops Q k l (msk (.tup []) T G) H := by
  have := dp_run l [] k T G H hok hs (Q := Q) (fun prev _ => dops_nil ⟨F, fun i => ?_, h⟩)
  · rwa [List.append_nil] at this
  · rcases hf.spec i with e | ⟨e1, e2⟩
    · exact .inl e
    · exact .inr (by simp only [msk, e1, if_true]; exact e2)
theorem dp_keep {k : Nat} {o : Oper} {l : List Oper} {T : Slots} {G : Nat → Bool} {H : Heap} {c : Bool} {f : FuncId} {args : List PV} {r : PV} (hcall : acall T o.op = some (f, args)) (hc : gcond ops.toList T G N o = some c)
    (hg : o.op.operands.toList.all (gOk c G) = true) (hok : okOp N o.op = true) (hgo : goFn P f = true) (hp : c = true → ACalls P f args H fun r' H'' => r' = r ∧ H'' = H)
    (h : DP P N ops Q (k + 1) l (msk (.tup []) (updO T o.dst r) (ugO G o.dst c)) H) : DP P N ops Q k (o :: l) (msk (.tup []) T G) H := by
  intro prev hn
  cases c
  · rw [msk_put_false] at h
    exact dops_skipR [] (fun p hp => .inr ⟨by rw [hn p hp]; simp, by simp⟩) hc (h _ (hn.app _ _))
  · rw [msk_put_true] at h
    have hcall' := acall_msk (u := .tup []) hcall hg
    obtain ⟨fo, xs, ts, pf, pc, h1, h2, h3⟩ := acall_spec hcall'
    refine dops_call (eff := []) (rd := List.range H.length) h1 ((gcond_sound hc).1 rfl _) hok h2 hgo h3 (by simp) (fun H' hH hl => ?_) (fun p hp => .inr ⟨by rw [hn p hp]; simp, by simp⟩) (h _ (hn.app _ _))
    have he : H' = H := List.ext_getElem? fun i => by
      by_cases hi : i < H.length
      · exact hH i (List.mem_range.2 hi)
      · rw [List.getElem?_eq_none (by omega), List.getElem?_eq_none (by omega)]
    subst he
    exact hp rfl
end
end Go.Abs
namespace Go.Abs
def noApp : Op → Bool
  | .call c => match c.callee with
    | .builtin .append => false
    | _ => true
  | .store .. => false
  | .mapUpdate .. => false
  | _ => true
theorem ard_row {P : Program} {fresh : Nat} {c : Bool} {T : Slots} {G : Nat → Bool} {H : Heap} {o : Op} {v : PV} {e : Eff} (h : gop P fresh c T G H o = some (v, e)) (hn : noApp o = true) : ∀ id ∈ ard T o, ∃ ob, H[id]? = some ob ∧ ob ≠ .unborn := by
  have hb : ∀ (x : Option (PV × Eff)) (f : PV × Eff → Option (PV × Eff)) (q : Prop) [Decidable q], (if q then x.bind f else none) = some (v, e) → ∃ r, x = some r := by
    intro x f q _ h
    split at h
    · obtain ⟨r, hr, _⟩ := Option.bind_eq_some_iff.1 h
      exact ⟨r, hr⟩
    · cases h
  cases o with
  | load t x =>
    simp only [gop] at h
    obtain ⟨r, hr⟩ := hb _ _ _ h
    intro id hid
    simp only [ard] at hid
    split at hid
    · rename_i id' off hx
      simp only [List.mem_singleton] at hid
      subst hid
      simp only [aop] at hr
      obtain ⟨i, hi, hr⟩ := Option.bind_eq_some_iff.1 hr
      rw [hx] at hr
      simp only [aload] at hr
      cases hq : H[id]? with
      | none => rw [hq] at hr; simp at hr
      | some ob =>
        cases ob with
        | unborn => rw [hq] at hr; simp at hr
        | _ => exact ⟨_, rfl, nofun⟩
    · cases hid
  | lookup t x k ok =>
    simp only [gop] at h
    obtain ⟨r, hr⟩ := hb _ _ _ h
    intro id hid
    simp only [ard] at hid
    split at hid
    · rename_i id' hx
      simp only [List.mem_singleton] at hid
      subst hid
      simp only [aop] at hr
      rw [hx] at hr
      obtain ⟨q, hr, _⟩ := Option.bind_eq_some_iff.1 hr
      unfold alookup at hr
      split at hr
      · rename_i a b n hq hk
        cases hq
        split at hr
        · rename_i hid; exact ⟨_, hid, nofun⟩
        · cases hr
      · rename_i a _ _ _ hq hk
        cases hq
        split at hr
        · rename_i hid; exact ⟨_, hid, nofun⟩
        · cases hr
      · cases hr
    · cases hid
  | store t x y => cases hn
  | mapUpdate t x y z => cases hn
  | call cl =>
    intro id hid
    simp only [ard] at hid
    simp only [noApp] at hn
    split at hid
    · rename_i hq; rw [hq] at hn; cases hn
    · cases hid
  | _ => intro id hid; simp [ard] at hid
def P1 (n0 k0 : Nat) (prev : Prev) : Prop := ∀ p ∈ prev, p.1 < k0 ∧ p.2.2 = [] ∧ ∀ id ∈ p.2.1, id < n0
theorem P1.app {n0 k : Nat} {prev : Prev} (h : P1 n0 k prev) {rd : List Nat} (hr : ∀ id ∈ rd, id < n0) : P1 n0 (k + 1) (prev ++ [(k, rd, [])]) := by
  intro p hp
  rcases List.mem_append.1 hp with hp | hp
  · obtain ⟨h1, h2⟩ := h p hp; exact ⟨by omega, h2⟩
  · rw [List.mem_singleton] at hp; subst hp; exact ⟨Nat.lt_succ_self _, rfl, hr⟩
theorem P1.noeff {n0 k : Nat} {prev : Prev} (h : P1 n0 k prev) : NoEff prev := fun p hp => (h p hp).2.1
def xchk (n0 k0 m : Nat) (eids : List Nat) : Bool := (eids.all fun id => decide (n0 ≤ id)) || (m % 2 ^ k0 == 2 ^ k0 - 1)
theorem hapB_P1 {n0 k0 m : Nat} {prev : Prev} {rd eids : List Nat} (h : P1 n0 k0 prev) (hm : xchk n0 k0 m eids = true) : hapB m prev rd eids = true := by
  unfold hapB
  rw [List.all_eq_true]
  intro p hp
  obtain ⟨h1, h2, h3⟩ := h p hp
  unfold xchk at hm
  rw [Bool.or_eq_true] at hm ⊢
  rcases hm with hm | hm
  · right
    rw [h2]
    simp only [List.all_nil, Bool.true_and]
    rw [List.all_eq_true] at hm ⊢
    intro id hid
    have := of_decide_eq_true (hm id hid)
    cases hc : p.2.1.contains id with
    | false => rfl
    | true =>
      have := h3 id (by simpa using hc)
      omega
  · left
    have e2 : (m / 2 ^ p.1 % 2 == 1) = m.testBit p.1 := by rw [Nat.testBit_eq_decide_div_mod_eq]; rfl
    rw [e2]
    have hm : m % 2 ^ k0 = 2 ^ k0 - 1 := by simpa using hm
    have := Nat.testBit_mod_two_pow m k0 p.1
    rw [hm, Nat.testBit_two_pow_sub_one] at this
    simp only [h1, decide_true, Bool.true_and] at this
    exact this.symm
theorem hapB_app {m : Nat} {p1 p2 : Prev} {rd eids : List Nat} (h1 : hapB m p1 rd eids = true) (h2 : hapB m p2 rd eids = true) : hapB m (p1 ++ p2) rd eids = true := by
  unfold hapB at h1 h2 ⊢
  rw [List.all_append, h1, h2]; rfl
section
variable {P : Program} {N nb : Nat} {ops : Array Oper} {Q : Post}
def X1 (P : Program) (N : Nat) (ops : Array Oper) (Q : Post) (n0 k : Nat) (l : List Oper) (T : Slots) (H : Heap) : Prop := ∀ prev, P1 n0 k prev → DOps P N ops (fun e T1 H1 => ∃ T2, (∀ i, T2 i = .junk ∨ T2 i = T1 i) ∧ Q e T2 H1) k l prev T H
theorem row_lt {H : Heap} {m id : Nat} {ob : AObj} (h : (H ++ List.replicate m AObj.unborn)[id]? = some ob) (hu : ob ≠ .unborn) : id < H.length := by
  rcases Nat.lt_or_ge id H.length with hl | hl
  · exact hl
  · rw [List.getElem?_append_right hl, List.getElem?_replicate] at h
    split at h
    · cases h; exact absurd rfl hu
    · cases h
theorem x_draw {id : Nat} {T : Slots} {H : Heap} (m : Nat) {n0 : Nat} (hn : H.length = n0) (hok : drawOk P ops.toList = true) (h : X1 P N ops Q n0 0 ops.toList (msk (.tup []) T allG) (H ++ List.replicate m .unborn)) : AWP P N nb (.region id ops true) Q T H := by
  refine awp_drawW m hok ?_
  exact h [] (by intro p hp; cases hp)
theorem x1_run {H : Heap} {n0 : Nat} (hu : ∀ id ob, H[id]? = some ob → ob ≠ .unborn → id < n0) : ∀ (l l2 : List Oper) (k : Nat) (T : Slots) (G : Nat → Bool) {T' : Slots} {G' : Nat → Bool} {H' : Heap}, l.all (fun o => okOp N o.op) = true → l.all (fun o => noApp o.op) = true →
    psq P N ops.toList l (some (T, G, H)) = some (T', G', H') → (H' = H → X1 P N ops Q n0 (k + l.length) l2 (msk (.tup []) T' G') H) → X1 P N ops Q n0 k (l ++ l2) (msk (.tup []) T G) H
  | [], l2, k, T, G, T', G', H', _, _, hs, h => by cases hs; exact h rfl
  | o :: l, l2, k, T, G, T', G', H', hok, hna, hs, h => by
    simp only [List.all_cons, Bool.and_eq_true] at hok hna
    simp only [psq, ps0] at hs
    cases hw : gcond ops.toList T G N o with
    | none => rw [hw] at hs; simp only [ps1, psq_none] at hs; cases hs
    | some c =>
      rw [hw] at hs
      simp only [ps1] at hs
      cases hg : gop P H.length c T G H o.op with
      | none => rw [hg] at hs; simp only [ps2, psq_none] at hs; cases hs
      | some r =>
        rw [hg] at hs
        obtain ⟨v, e⟩ := r
        cases e with
        | some e => simp only [ps2, psq_none] at hs; cases hs
        | none =>
          simp only [ps2] at hs
          intro prev hp
          refine dops_gstep (fresh := H.length) rfl hok.1 hw hg rfl (hapB_noeff hp.noeff _ _) ?_
          have := x1_run hu l l2 (k + 1) _ _ hok.2 hna.2 hs (fun e => by rw [show k + 1 + l.length = k + (o :: l).length by simp only [List.length_cons]; omega]; exact h e)
          refine this _ (hp.app fun id hid => ?_)
          simp only [effIds, List.append_nil] at hid
          obtain ⟨cs, hcs, hne⟩ := ard_row hg hna.1 id hid
          exact hu id cs hcs hne
theorem x1_take (n : Nat) {l : List Oper} {n0 k m : Nat} {T T' : Slots} {G G' : Nat → Bool} {B H' : Heap} (hl : B.length = n0) (hs : psq P N ops.toList (l.take n) (some (T, G, B ++ List.replicate m .unborn)) = some (T', G', H'))
    (hok : (l.take n).all (fun o => okOp N o.op) = true) (hna : (l.take n).all (fun o => noApp o.op) = true) (hn : (l.take n).length = n) (h : X1 P N ops Q n0 (k + n) (l.drop n) (msk (.tup []) T' G') (B ++ List.replicate m .unborn)) : X1 P N ops Q n0 k l (msk (.tup []) T G) (B ++ List.replicate m .unborn) := by
  have := x1_run (fun id cs h hu => hl ▸ row_lt h hu) (l.take n) (l.drop n) k T G hok hna hs (fun _ => by rw [hn]; exact h)
  rwa [List.take_append_drop] at this
theorem x1_keep {n0 k m : Nat} {o : Oper} {l : List Oper} {T : Slots} {G : Nat → Bool} {B : Heap} {c : Bool} {f : FuncId} {args : List PV} {r : PV} (hl : B.length = n0) (hcall : acall T o.op = some (f, args)) (hc : gcond ops.toList T G N o = some c)
    (hg : o.op.operands.toList.all (gOk c G) = true) (hok : okOp N o.op = true) (hgo : goFn P f = true) (hp : c = true → ∀ L, ACalls P f args (B ++ L) fun r' H'' => r' = r ∧ H'' = B ++ L)
    (h : X1 P N ops Q n0 (k + 1) l (msk (.tup []) (updO T o.dst r) (ugO G o.dst c)) (B ++ List.replicate m .unborn)) : X1 P N ops Q n0 k (o :: l) (msk (.tup []) T G) (B ++ List.replicate m .unborn) := by
  intro prev hn
  cases c
  · rw [msk_put_false] at h
    exact dops_skipR [] (fun p hp => .inr ⟨by rw [hn.noeff p hp]; simp, by simp⟩) hc (h _ (hn.app (by simp)))
  · rw [msk_put_true] at h
    have hcall' := acall_msk (u := .tup []) hcall hg
    obtain ⟨fo, xs, ts, pf, pc, h1, h2, h3⟩ := acall_spec hcall'
    refine dops_call (eff := []) (rd := List.range n0) h1 ((gcond_sound hc).1 rfl _) hok h2 hgo h3 (by simp) (fun H' hH hlen => ?_) (fun p hp => .inr ⟨by rw [hn.noeff p hp]; simp, by simp⟩) (h _ (hn.app (fun id hid => List.mem_range.1 hid)))
    obtain ⟨L, rfl⟩ : ∃ L, H' = B ++ L := by
      refine ⟨H'.drop B.length, ?_⟩
      have hle : B.length ≤ H'.length := by rw [hlen]; simp
      refine (List.take_append_drop B.length H').symm.trans ?_
      congr 1
      refine List.ext_getElem? fun i => ?_
      by_cases hi : i < B.length
      · rw [List.getElem?_take_of_lt hi, hH i (List.mem_range.2 (by omega)), List.getElem?_append_left hi]
      · rw [List.getElem?_eq_none (by simp; omega), List.getElem?_eq_none (by omega)]
    exact hp rfl L
def X2 (P : Program) (N : Nat) (ops : Array Oper) (Q : Post) (n0 k0 k : Nat) (l : List Oper) (prev2 : Prev) (T : Slots) (H : Heap) : Prop := ∀ prev1, P1 n0 k0 prev1 → DOps P N ops (fun e T1 H1 => ∃ T2, (∀ i, T2 i = .junk ∨ T2 i = T1 i) ∧ Q e T2 H1) k l (prev1 ++ prev2) T H
theorem x_mid {n0 k : Nat} {l : List Oper} {T : Slots} {H H1 : Heap} (hH : H = H1) (h : X2 P N ops Q n0 k k l [] T H1) : X1 P N ops Q n0 k l T H := by
  subst hH
  intro prev hp
  have := h prev hp
  rwa [List.append_nil] at this
def xd4 (o : Oper) (k fresh : Nat) (prev : Prev) (T : Slots) (G : Nat → Bool) (H : Heap) (c : Bool) (r : PV × Eff) (rd eids : List Nat) : Bool → Bool → Bool → Option GDSt
  | true, true, true => some (k + 1, nextFresh fresh r.2, prev ++ [(k, rd, eids)], updO T o.dst r.1, ugO G o.dst c, effSet r.2 H)
  | _, _, _ => none
def xd2 (n0 k0 : Nat) (bm : List Nat) (o : Oper) (k fresh : Nat) (prev : Prev) (T : Slots) (G : Nat → Bool) (H : Heap) (c : Bool) : Option (PV × Eff) → Option GDSt
  | some r => xd4 o k fresh prev T G H c r (ard T o.op ++ effIds r.2) (effIds r.2) (freshOk fresh r.2 H) (hapB (bm.getD k 0) prev (ard T o.op ++ effIds r.2) (effIds r.2)) (xchk n0 k0 (bm.getD k 0) (effIds r.2))
  | none => none
def xd1 (P : Program) (n0 k0 : Nat) (bm : List Nat) (o : Oper) (k fresh : Nat) (prev : Prev) (T : Slots) (G : Nat → Bool) (H : Heap) : Option Bool → Option GDSt
  | some c => xd2 n0 k0 bm o k fresh prev T G H c (gop P fresh c T G H o.op)
  | none => none
def xd0 (P : Program) (N : Nat) (ops : List Oper) (n0 k0 : Nat) (bm : List Nat) (o : Oper) : Option GDSt → Option GDSt
  | some (k, fresh, prev, T, G, H) => xd1 P n0 k0 bm o k fresh prev T G H (gcond ops T G N o)
  | none => none
def xq (P : Program) (N : Nat) (ops : List Oper) (n0 k0 : Nat) (bm : List Nat) : List Oper → Option GDSt → Option GDSt
  | [], s => s
  | o :: l, s => xq P N ops n0 k0 bm l (xd0 P N ops n0 k0 bm o s)
theorem xq_none {n0 k0 : Nat} {bm : List Nat} : ∀ l, xq P N ops.toList n0 k0 bm l none = none
  | [] => rfl
  | o :: l => xq_none l
theorem x2_run {n0 k0 : Nat} {bm : List Nat} (hbm : bmasks ops.toList = bm) : ∀ (l l2 : List Oper) (k fresh : Nat) (prev : Prev) (T : Slots) (G : Nat → Bool) (H : Heap) {k' fresh' : Nat} {prev' : Prev} {T' : Slots} {G' : Nat → Bool} {H' : Heap}, l.all (fun o => okOp N o.op) = true →
    xq P N ops.toList n0 k0 bm l (some (k, fresh, prev, T, G, H)) = some (k', fresh', prev', T', G', H') → X2 P N ops Q n0 k0 (k + l.length) l2 prev' (msk (.tup []) T' G') H' → X2 P N ops Q n0 k0 k (l ++ l2) prev (msk (.tup []) T G) H
  | [], l2, k, fresh, prev, T, G, H, k', fresh', prev', T', G', H', _, hs, h => by cases hs; exact h
  | o :: l, l2, k, fresh, prev, T, G, H, k', fresh', prev', T', G', H', hok, hs, h => by
    simp only [List.all_cons, Bool.and_eq_true] at hok
    simp only [xq, xd0] at hs
    cases hw : gcond ops.toList T G N o with
    | none => rw [hw] at hs; simp only [xd1, xq_none] at hs; cases hs
    | some c =>
      rw [hw] at hs
      simp only [xd1] at hs
      cases hg : gop P fresh c T G H o.op with
      | none => rw [hg] at hs; simp only [xd2, xq_none] at hs; cases hs
      | some r =>
        rw [hg] at hs
        simp only [xd2] at hs
        cases h1 : freshOk fresh r.2 H with
        | false => rw [h1] at hs; simp only [xd4, xq_none] at hs; cases hs
        | true =>
          cases h2 : hapB (bm.getD k 0) prev (ard T o.op ++ effIds r.2) (effIds r.2) with
          | false => rw [h1, h2] at hs; simp only [xd4, xq_none] at hs; cases hs
          | true =>
            cases h3 : xchk n0 k0 (bm.getD k 0) (effIds r.2) with
            | false => rw [h1, h2, h3] at hs; simp only [xd4, xq_none] at hs; cases hs
            | true =>
              rw [h1, h2, h3] at hs
              simp only [xd4] at hs
              intro prev1 hp
              refine dops_gstep hbm hok.1 hw hg h1 (hapB_app (hapB_P1 hp h3) h2) ?_
              have := x2_run hbm l l2 (k + 1) _ _ _ _ _ hok.2 hs (by rw [show k + 1 + l.length = k + (o :: l).length by simp only [List.length_cons]; omega]; exact h) prev1 hp
              rwa [← List.append_assoc] at this
theorem x2_end {l : List Oper} {n0 k0 k k' fresh fresh' : Nat} {bm : List Nat} {prev prev' : Prev} {T T' F : Slots} {G G' : Nat → Bool} {H H' : Heap} (hbm : bmasks ops.toList = bm) (hs : xq P N ops.toList n0 k0 bm l (some (k, fresh, prev, T, G, H)) = some (k', fresh', prev', T', G', H'))
    (hok : l.all (fun o => okOp N o.op) = true) (hf : Fin T' G' F) (h : Q .normal F H') : X2 P N ops Q n0 k0 k l prev (msk (.tup []) T G) H := by
  have := x2_run hbm l [] k fresh prev T G H hok hs (Q := Q) (fun prev1 _ => dops_nil ⟨F, fun i => ?_, h⟩)
  · rwa [List.append_nil] at this
  · rcases hf.spec i with e | ⟨e1, e2⟩
    · exact .inl e
    · exact .inr (by simp only [msk, e1, if_true]; exact e2)
end
end Go.Abs
namespace Go.Abs
theorem hap_nil (m : Nat) (rd eids : List Nat) : hapB m [] rd eids = true := by unfold hapB; exact List.all_nil
theorem hap_cons (m i : Nat) (r e : List Nat) (prev : Prev) (rd eids : List Nat) : hapB m ((i, r, e) :: prev) rd eids = (((m / 2 ^ i % 2 == 1) || ((e.all fun id => !rd.contains id) && eids.all fun id => !r.contains id)) && hapB m prev rd eids) := by
  unfold hapB; rw [List.all_cons]
theorem jA : type_of% (And.intro @asq.eq_1 (And.intro @asq.eq_2 (And.intro @as0.eq_1 (And.intro @as0.eq_2 (And.intro @as1.eq_1 (And.intro @as1.eq_2 (And.intro @as1.eq_3 (And.intro @as2.eq_1 (And.intro @as2.eq_2 (@awanted.eq_1)))))))))) := (And.intro @asq.eq_1 (And.intro @asq.eq_2 (And.intro @as0.eq_1 (And.intro @as0.eq_2 (And.intro @as1.eq_1 (And.intro @as1.eq_2 (And.intro @as1.eq_3 (And.intro @as2.eq_1 (And.intro @as2.eq_2 (@awanted.eq_1))))))))))
theorem jG : type_of% (And.intro @gsq.eq_1 (And.intro @gsq.eq_2 (And.intro @gs0.eq_1 (And.intro @gs0.eq_2 (And.intro @gs1.eq_1 (And.intro @gs1.eq_2 (And.intro @gs2.eq_1 (And.intro @gs2.eq_2 (And.intro @gcond.eq_1 (And.intro @gop.eq_1 (And.intro @gop.eq_2 (And.intro @Op.operands.eq_1 (And.intro @Op.operands.eq_2 (And.intro @Op.operands.eq_3 (And.intro @Op.operands.eq_4 (And.intro @Op.operands.eq_5 (And.intro @Op.operands.eq_6 (And.intro @Op.operands.eq_7 (And.intro @Op.operands.eq_8 (And.intro @Op.operands.eq_9 (And.intro @Op.operands.eq_10 (And.intro @Op.operands.eq_11 (And.intro @Op.operands.eq_12 (And.intro @Op.operands.eq_13 (And.intro @Op.operands.eq_14 (And.intro @Op.operands.eq_15 (And.intro @Op.operands.eq_16 (And.intro @Op.operands.eq_17 (And.intro @Op.operands.eq_18 (And.intro @Op.operands.eq_19 (And.intro @Op.operands.eq_20 (And.intro @Op.operands.eq_21 (And.intro @Op.operands.eq_22 (And.intro @Op.operands.eq_23 (And.intro @Op.operands.eq_24 (And.intro @Op.operands.eq_25 (And.intro @Op.operands.eq_26 (And.intro @Op.operands.eq_27 (And.intro @Op.operands.eq_28 (And.intro @Op.operands.eq_29 (And.intro @Op.operands.eq_30 (And.intro @Op.operands.eq_31 (And.intro @Op.operands.eq_32 (And.intro @Op.operands.eq_33 (And.intro @Op.operands.eq_34 (And.intro @Op.operands.eq_35 (And.intro @Op.operands.eq_36 (And.intro @Op.operands.eq_37 (And.intro @Op.operands.eq_38 (And.intro @Op.operands.eq_39 (And.intro @Op.operands.eq_40 (And.intro @Op.operands.eq_41 (And.intro @Op.operands.eq_42 (And.intro @Op.operands.eq_43 (And.intro @Call.operands.eq_1 (And.intro @SG (@Array.toList_append.{0}))))))))))))))))))))))))))))))))))))))))))))))))))))))))) := (And.intro @gsq.eq_1 (And.intro @gsq.eq_2 (And.intro @gs0.eq_1 (And.intro @gs0.eq_2 (And.intro @gs1.eq_1 (And.intro @gs1.eq_2 (And.intro @gs2.eq_1 (And.intro @gs2.eq_2 (And.intro @gcond.eq_1 (And.intro @gop.eq_1 (And.intro @gop.eq_2 (And.intro @Op.operands.eq_1 (And.intro @Op.operands.eq_2 (And.intro @Op.operands.eq_3 (And.intro @Op.operands.eq_4 (And.intro @Op.operands.eq_5 (And.intro @Op.operands.eq_6 (And.intro @Op.operands.eq_7 (And.intro @Op.operands.eq_8 (And.intro @Op.operands.eq_9 (And.intro @Op.operands.eq_10 (And.intro @Op.operands.eq_11 (And.intro @Op.operands.eq_12 (And.intro @Op.operands.eq_13 (And.intro @Op.operands.eq_14 (And.intro @Op.operands.eq_15 (And.intro @Op.operands.eq_16 (And.intro @Op.operands.eq_17 (And.intro @Op.operands.eq_18 (And.intro @Op.operands.eq_19 (And.intro @Op.operands.eq_20 (And.intro @Op.operands.eq_21 (And.intro @Op.operands.eq_22 (And.intro @Op.operands.eq_23 (And.intro @Op.operands.eq_24 (And.intro @Op.operands.eq_25 (And.intro @Op.operands.eq_26 (And.intro @Op.operands.eq_27 (And.intro @Op.operands.eq_28 (And.intro @Op.operands.eq_29 (And.intro @Op.operands.eq_30 (And.intro @Op.operands.eq_31 (And.intro @Op.operands.eq_32 (And.intro @Op.operands.eq_33 (And.intro @Op.operands.eq_34 (And.intro @Op.operands.eq_35 (And.intro @Op.operands.eq_36 (And.intro @Op.operands.eq_37 (And.intro @Op.operands.eq_38 (And.intro @Op.operands.eq_39 (And.intro @Op.operands.eq_40 (And.intro @Op.operands.eq_41 (And.intro @Op.operands.eq_42 (And.intro @Op.operands.eq_43 (And.intro @Call.operands.eq_1 (And.intro @SG (@Array.toList_append.{0})))))))))))))))))))))))))))))))))))))))))))))))))))))))))
theorem jP : type_of% (And.intro @psq.eq_1 (And.intro @psq.eq_2 (And.intro @ps0.eq_1 (And.intro @ps0.eq_2 (And.intro @ps1.eq_1 (And.intro @ps1.eq_2 (And.intro @ps2.eq_1 (And.intro @ps2.eq_2 (And.intro @gcond.eq_1 (And.intro @gop.eq_1 (And.intro @gop.eq_2 (And.intro @Op.operands.eq_1 (And.intro @Op.operands.eq_2 (And.intro @Op.operands.eq_3 (And.intro @Op.operands.eq_4 (And.intro @Op.operands.eq_5 (And.intro @Op.operands.eq_6 (And.intro @Op.operands.eq_7 (And.intro @Op.operands.eq_8 (And.intro @Op.operands.eq_9 (And.intro @Op.operands.eq_10 (And.intro @Op.operands.eq_11 (And.intro @Op.operands.eq_12 (And.intro @Op.operands.eq_13 (And.intro @Op.operands.eq_14 (And.intro @Op.operands.eq_15 (And.intro @Op.operands.eq_16 (And.intro @Op.operands.eq_17 (And.intro @Op.operands.eq_18 (And.intro @Op.operands.eq_19 (And.intro @Op.operands.eq_20 (And.intro @Op.operands.eq_21 (And.intro @Op.operands.eq_22 (And.intro @Op.operands.eq_23 (And.intro @Op.operands.eq_24 (And.intro @Op.operands.eq_25 (And.intro @Op.operands.eq_26 (And.intro @Op.operands.eq_27 (And.intro @Op.operands.eq_28 (And.intro @Op.operands.eq_29 (And.intro @Op.operands.eq_30 (And.intro @Op.operands.eq_31 (And.intro @Op.operands.eq_32 (And.intro @Op.operands.eq_33 (And.intro @Op.operands.eq_34 (And.intro @Op.operands.eq_35 (And.intro @Op.operands.eq_36 (And.intro @Op.operands.eq_37 (And.intro @Op.operands.eq_38 (And.intro @Op.operands.eq_39 (And.intro @Op.operands.eq_40 (And.intro @Op.operands.eq_41 (And.intro @Op.operands.eq_42 (And.intro @Op.operands.eq_43 (And.intro @Call.operands.eq_1 (And.intro @SG (@Array.toList_append.{0}))))))))))))))))))))))))))))))))))))))))))))))))))))))))) := (And.intro @psq.eq_1 (And.intro @psq.eq_2 (And.intro @ps0.eq_1 (And.intro @ps0.eq_2 (And.intro @ps1.eq_1 (And.intro @ps1.eq_2 (And.intro @ps2.eq_1 (And.intro @ps2.eq_2 (And.intro @gcond.eq_1 (And.intro @gop.eq_1 (And.intro @gop.eq_2 (And.intro @Op.operands.eq_1 (And.intro @Op.operands.eq_2 (And.intro @Op.operands.eq_3 (And.intro @Op.operands.eq_4 (And.intro @Op.operands.eq_5 (And.intro @Op.operands.eq_6 (And.intro @Op.operands.eq_7 (And.intro @Op.operands.eq_8 (And.intro @Op.operands.eq_9 (And.intro @Op.operands.eq_10 (And.intro @Op.operands.eq_11 (And.intro @Op.operands.eq_12 (And.intro @Op.operands.eq_13 (And.intro @Op.operands.eq_14 (And.intro @Op.operands.eq_15 (And.intro @Op.operands.eq_16 (And.intro @Op.operands.eq_17 (And.intro @Op.operands.eq_18 (And.intro @Op.operands.eq_19 (And.intro @Op.operands.eq_20 (And.intro @Op.operands.eq_21 (And.intro @Op.operands.eq_22 (And.intro @Op.operands.eq_23 (And.intro @Op.operands.eq_24 (And.intro @Op.operands.eq_25 (And.intro @Op.operands.eq_26 (And.intro @Op.operands.eq_27 (And.intro @Op.operands.eq_28 (And.intro @Op.operands.eq_29 (And.intro @Op.operands.eq_30 (And.intro @Op.operands.eq_31 (And.intro @Op.operands.eq_32 (And.intro @Op.operands.eq_33 (And.intro @Op.operands.eq_34 (And.intro @Op.operands.eq_35 (And.intro @Op.operands.eq_36 (And.intro @Op.operands.eq_37 (And.intro @Op.operands.eq_38 (And.intro @Op.operands.eq_39 (And.intro @Op.operands.eq_40 (And.intro @Op.operands.eq_41 (And.intro @Op.operands.eq_42 (And.intro @Op.operands.eq_43 (And.intro @Call.operands.eq_1 (And.intro @SG (@Array.toList_append.{0})))))))))))))))))))))))))))))))))))))))))))))))))))))))))
theorem jD : type_of% (And.intro @dsq.eq_1 (And.intro @dsq.eq_2 (And.intro @ds0.eq_1 (And.intro @ds0.eq_2 (And.intro @ds1.eq_1 (And.intro @ds1.eq_2 (And.intro @ds1.eq_3 (And.intro @ds2.eq_1 (And.intro @ds2.eq_2 (And.intro @ds3.eq_1 (And.intro @ds3.eq_2 (And.intro @awanted.eq_1 (And.intro (And.intro @hap_nil @hap_cons) (And.intro @effIds.eq_1 (And.intro @effIds.eq_2 (And.intro @effSet.eq_1 (And.intro @effSet.eq_2 (And.intro @nextFresh.eq_1 (And.intro @nextFresh.eq_2 (And.intro @ard.eq_1 (And.intro @ard.eq_2 (And.intro @ard.eq_3 (And.intro @ard.eq_4 (And.intro @freshOk.eq_1 (And.intro @freshOk.eq_2 (And.intro @isUnborn.eq_1 (And.intro @ard.eq_5 (@ard.eq_6)))))))))))))))))))))))))))) := (And.intro @dsq.eq_1 (And.intro @dsq.eq_2 (And.intro @ds0.eq_1 (And.intro @ds0.eq_2 (And.intro @ds1.eq_1 (And.intro @ds1.eq_2 (And.intro @ds1.eq_3 (And.intro @ds2.eq_1 (And.intro @ds2.eq_2 (And.intro @ds3.eq_1 (And.intro @ds3.eq_2 (And.intro @awanted.eq_1 (And.intro (And.intro @hap_nil @hap_cons) (And.intro @effIds.eq_1 (And.intro @effIds.eq_2 (And.intro @effSet.eq_1 (And.intro @effSet.eq_2 (And.intro @nextFresh.eq_1 (And.intro @nextFresh.eq_2 (And.intro @ard.eq_1 (And.intro @ard.eq_2 (And.intro @ard.eq_3 (And.intro @ard.eq_4 (And.intro @freshOk.eq_1 (And.intro @freshOk.eq_2 (And.intro @isUnborn.eq_1 (And.intro @ard.eq_5 (@ard.eq_6))))))))))))))))))))))))))))
theorem jX : type_of% (And.intro @xq.eq_1 (And.intro @xq.eq_2 (And.intro @xd0.eq_1 (And.intro @xd0.eq_2 (And.intro @xd1.eq_1 (And.intro @xd1.eq_2 (And.intro @xd2.eq_1 (And.intro @xd2.eq_2 (And.intro @xd4.eq_1 (And.intro @xd4.eq_2 (And.intro @xchk.eq_1 (And.intro @gcond.eq_1 (And.intro @gop.eq_1 (And.intro @gop.eq_2 (And.intro @Op.operands.eq_1 (And.intro @Op.operands.eq_2 (And.intro @Op.operands.eq_3 (And.intro @Op.operands.eq_4 (And.intro @Op.operands.eq_5 (And.intro @Op.operands.eq_6 (And.intro @Op.operands.eq_7 (And.intro @Op.operands.eq_8 (And.intro @Op.operands.eq_9 (And.intro @Op.operands.eq_10 (And.intro @Op.operands.eq_11 (And.intro @Op.operands.eq_12 (And.intro @Op.operands.eq_13 (And.intro @Op.operands.eq_14 (And.intro @Op.operands.eq_15 (And.intro @Op.operands.eq_16 (And.intro @Op.operands.eq_17 (And.intro @Op.operands.eq_18 (And.intro @Op.operands.eq_19 (And.intro @Op.operands.eq_20 (And.intro @Op.operands.eq_21 (And.intro @Op.operands.eq_22 (And.intro @Op.operands.eq_23 (And.intro @Op.operands.eq_24 (And.intro @Op.operands.eq_25 (And.intro @Op.operands.eq_26 (And.intro @Op.operands.eq_27 (And.intro @Op.operands.eq_28 (And.intro @Op.operands.eq_29 (And.intro @Op.operands.eq_30 (And.intro @Op.operands.eq_31 (And.intro @Op.operands.eq_32 (And.intro @Op.operands.eq_33 (And.intro @Op.operands.eq_34 (And.intro @Op.operands.eq_35 (And.intro @Op.operands.eq_36 (And.intro @Op.operands.eq_37 (And.intro @Op.operands.eq_38 (And.intro @Op.operands.eq_39 (And.intro @Op.operands.eq_40 (And.intro @Op.operands.eq_41 (And.intro @Op.operands.eq_42 (And.intro @Op.operands.eq_43 (And.intro @Call.operands.eq_1 (And.intro @SG (And.intro @Array.toList_append.{0} (And.intro (And.intro @hap_nil @hap_cons) (And.intro @effIds.eq_1 (And.intro @effIds.eq_2 (And.intro @effSet.eq_1 (And.intro @effSet.eq_2 (And.intro @nextFresh.eq_1 (And.intro @nextFresh.eq_2 (And.intro @ard.eq_1 (And.intro @ard.eq_2 (And.intro @ard.eq_3 (And.intro @ard.eq_4 (And.intro @freshOk.eq_1 (And.intro @freshOk.eq_2 (And.intro @isUnborn.eq_1 (And.intro @Nat.le_refl (And.intro @decide_true (And.intro @Bool.true_or (And.intro @Bool.or_true (And.intro @List.all_cons.{0} (And.intro @List.all_nil.{0} (And.intro @Bool.and_true (And.intro @ard.eq_5 (@ard.eq_6))))))))))))))))))))))))))))))))))))))))))))))))))))))))))))))))))))))))))))))))))) := (And.intro @xq.eq_1 (And.intro @xq.eq_2 (And.intro @xd0.eq_1 (And.intro @xd0.eq_2 (And.intro @xd1.eq_1 (And.intro @xd1.eq_2 (And.intro @xd2.eq_1 (And.intro @xd2.eq_2 (And.intro @xd4.eq_1 (And.intro @xd4.eq_2 (And.intro @xchk.eq_1 (And.intro @gcond.eq_1 (And.intro @gop.eq_1 (And.intro @gop.eq_2 (And.intro @Op.operands.eq_1 (And.intro @Op.operands.eq_2 (And.intro @Op.operands.eq_3 (And.intro @Op.operands.eq_4 (And.intro @Op.operands.eq_5 (And.intro @Op.operands.eq_6 (And.intro @Op.operands.eq_7 (And.intro @Op.operands.eq_8 (And.intro @Op.operands.eq_9 (And.intro @Op.operands.eq_10 (And.intro @Op.operands.eq_11 (And.intro @Op.operands.eq_12 (And.intro @Op.operands.eq_13 (And.intro @Op.operands.eq_14 (And.intro @Op.operands.eq_15 (And.intro @Op.operands.eq_16 (And.intro @Op.operands.eq_17 (And.intro @Op.operands.eq_18 (And.intro @Op.operands.eq_19 (And.intro @Op.operands.eq_20 (And.intro @Op.operands.eq_21 (And.intro @Op.operands.eq_22 (And.intro @Op.operands.eq_23 (And.intro @Op.operands.eq_24 (And.intro @Op.operands.eq_25 (And.intro @Op.operands.eq_26 (And.intro @Op.operands.eq_27 (And.intro @Op.operands.eq_28 (And.intro @Op.operands.eq_29 (And.intro @Op.operands.eq_30 (And.intro @Op.operands.eq_31 (And.intro @Op.operands.eq_32 (And.intro @Op.operands.eq_33 (And.intro @Op.operands.eq_34 (And.intro @Op.operands.eq_35 (And.intro @Op.operands.eq_36 (And.intro @Op.operands.eq_37 (And.intro @Op.operands.eq_38 (And.intro @Op.operands.eq_39 (And.intro @Op.operands.eq_40 (And.intro @Op.operands.eq_41 (And.intro @Op.operands.eq_42 (And.intro @Op.operands.eq_43 (And.intro @Call.operands.eq_1 (And.intro @SG (And.intro @Array.toList_append.{0} (And.intro (And.intro @hap_nil @hap_cons) (And.intro @effIds.eq_1 (And.intro @effIds.eq_2 (And.intro @effSet.eq_1 (And.intro @effSet.eq_2 (And.intro @nextFresh.eq_1 (And.intro @nextFresh.eq_2 (And.intro @ard.eq_1 (And.intro @ard.eq_2 (And.intro @ard.eq_3 (And.intro @ard.eq_4 (And.intro @freshOk.eq_1 (And.intro @freshOk.eq_2 (And.intro @isUnborn.eq_1 (And.intro @Nat.le_refl (And.intro @decide_true (And.intro @Bool.true_or (And.intro @Bool.or_true (And.intro @List.all_cons.{0} (And.intro @List.all_nil.{0} (And.intro @Bool.and_true (And.intro @ard.eq_5 (@ard.eq_6)))))))))))))))))))))))))))))))))))))))))))))))))))))))))))))))))))))))))))))))))))
theorem jC : type_of% (And.intro @acallR.eq_def (And.intro @acall.eq_1 (And.intro @acall.eq_2 (@awanted.eq_1)))) := (And.intro @acallR.eq_def (And.intro @acall.eq_1 (And.intro @acall.eq_2 (@awanted.eq_1))))
theorem jE : type_of% (And.intro @acallR.eq_def (And.intro @acall.eq_1 (And.intro @acall.eq_2 (And.intro @gcond.eq_1 (And.intro @Op.operands.eq_1 (And.intro @Op.operands.eq_2 (And.intro @Op.operands.eq_3 (And.intro @Op.operands.eq_4 (And.intro @Op.operands.eq_5 (And.intro @Op.operands.eq_6 (And.intro @Op.operands.eq_7 (And.intro @Op.operands.eq_8 (And.intro @Op.operands.eq_9 (And.intro @Op.operands.eq_10 (And.intro @Op.operands.eq_11 (And.intro @Op.operands.eq_12 (And.intro @Op.operands.eq_13 (And.intro @Op.operands.eq_14 (And.intro @Op.operands.eq_15 (And.intro @Op.operands.eq_16 (And.intro @Op.operands.eq_17 (And.intro @Op.operands.eq_18 (And.intro @Op.operands.eq_19 (And.intro @Op.operands.eq_20 (And.intro @Op.operands.eq_21 (And.intro @Op.operands.eq_22 (And.intro @Op.operands.eq_23 (And.intro @Op.operands.eq_24 (And.intro @Op.operands.eq_25 (And.intro @Op.operands.eq_26 (And.intro @Op.operands.eq_27 (And.intro @Op.operands.eq_28 (And.intro @Op.operands.eq_29 (And.intro @Op.operands.eq_30 (And.intro @Op.operands.eq_31 (And.intro @Op.operands.eq_32 (And.intro @Op.operands.eq_33 (And.intro @Op.operands.eq_34 (And.intro @Op.operands.eq_35 (And.intro @Op.operands.eq_36 (And.intro @Op.operands.eq_37 (And.intro @Op.operands.eq_38 (And.intro @Op.operands.eq_39 (And.intro @Op.operands.eq_40 (And.intro @Op.operands.eq_41 (And.intro @Op.operands.eq_42 (And.intro @Op.operands.eq_43 (And.intro @Call.operands.eq_1 (And.intro @SG (@Array.toList_append.{0})))))))))))))))))))))))))))))))))))))))))))))))))) := (And.intro @acallR.eq_def (And.intro @acall.eq_1 (And.intro @acall.eq_2 (And.intro @gcond.eq_1 (And.intro @Op.operands.eq_1 (And.intro @Op.operands.eq_2 (And.intro @Op.operands.eq_3 (And.intro @Op.operands.eq_4 (And.intro @Op.operands.eq_5 (And.intro @Op.operands.eq_6 (And.intro @Op.operands.eq_7 (And.intro @Op.operands.eq_8 (And.intro @Op.operands.eq_9 (And.intro @Op.operands.eq_10 (And.intro @Op.operands.eq_11 (And.intro @Op.operands.eq_12 (And.intro @Op.operands.eq_13 (And.intro @Op.operands.eq_14 (And.intro @Op.operands.eq_15 (And.intro @Op.operands.eq_16 (And.intro @Op.operands.eq_17 (And.intro @Op.operands.eq_18 (And.intro @Op.operands.eq_19 (And.intro @Op.operands.eq_20 (And.intro @Op.operands.eq_21 (And.intro @Op.operands.eq_22 (And.intro @Op.operands.eq_23 (And.intro @Op.operands.eq_24 (And.intro @Op.operands.eq_25 (And.intro @Op.operands.eq_26 (And.intro @Op.operands.eq_27 (And.intro @Op.operands.eq_28 (And.intro @Op.operands.eq_29 (And.intro @Op.operands.eq_30 (And.intro @Op.operands.eq_31 (And.intro @Op.operands.eq_32 (And.intro @Op.operands.eq_33 (And.intro @Op.operands.eq_34 (And.intro @Op.operands.eq_35 (And.intro @Op.operands.eq_36 (And.intro @Op.operands.eq_37 (And.intro @Op.operands.eq_38 (And.intro @Op.operands.eq_39 (And.intro @Op.operands.eq_40 (And.intro @Op.operands.eq_41 (And.intro @Op.operands.eq_42 (And.intro @Op.operands.eq_43 (And.intro @Call.operands.eq_1 (And.intro @SG (@Array.toList_append.{0}))))))))))))))))))))))))))))))))))))))))))))))))))
theorem jO : type_of% (And.intro @aop.eq_1 (And.intro @aop.eq_2 (And.intro @aop.eq_3 (And.intro @aop.eq_4 (And.intro @aop.eq_5 (And.intro @aop.eq_6 (And.intro @aop.eq_7 (And.intro @aop.eq_8 (And.intro @aop.eq_9 (And.intro @aop.eq_10 (And.intro @aop.eq_11 (And.intro @aop.eq_12 (And.intro @aop.eq_13 (And.intro @aop.eq_14 (And.intro @aop.eq_15 (And.intro @aop.eq_16 (And.intro @aop.eq_17 (And.intro @aop.eq_18 (And.intro @aop.eq_19 (And.intro @aop.eq_20 (And.intro @aop.eq_21 (And.intro @aop.eq_22 (And.intro @aop.eq_23 (And.intro @aload.eq_1 (And.intro @aload.eq_2 (And.intro @aload.eq_3 (And.intro @ajust.eq_1 (And.intro @astore.eq_1 (And.intro @astore.eq_2 (And.intro @splice.eq_1 (And.intro @splice.eq_2 (And.intro @afldAddr.eq_1 (And.intro @afld.eq_def (And.intro @aidxAddr.eq_1 (And.intro @aidxAddr.eq_2 (And.intro @aidxAddr.eq_3 (And.intro @aidx.eq_1 (And.intro @aidx.eq_2 (And.intro @abin.eq_1 (And.intro @abin.eq_2 (And.intro @abin.eq_3 (And.intro @abin.eq_4 (And.intro @abin.eq_5 (And.intro @abin.eq_6 (And.intro @abin.eq_7 (And.intro @abin.eq_8 (And.intro @abin.eq_9 (And.intro @abin.eq_10 (And.intro @abin.eq_11 (And.intro @abin.eq_12 (And.intro @abin.eq_13 (And.intro @abin.eq_14 (And.intro @abin.eq_15 (And.intro @abin.eq_16 (And.intro @abin.eq_17 (And.intro @abin.eq_18 (And.intro @abin.eq_19 (And.intro @abin.eq_20 (And.intro @abin.eq_21 (And.intro @abin.eq_22 (And.intro @abin.eq_23 (And.intro @abin.eq_24 (And.intro @abin.eq_25 (And.intro @abin.eq_26 (And.intro @abin.eq_27 (And.intro @abin.eq_28 (And.intro @abin.eq_29 (And.intro @abin.eq_30 (And.intro @aun.eq_1 (And.intro @aun.eq_2 (And.intro @aun.eq_3 (And.intro @abuiltin.eq_1 (And.intro @abuiltin.eq_2 (And.intro @abuiltin.eq_3 (And.intro @abuiltin.eq_4 (And.intro @abuiltin.eq_5 (And.intro @abuild.eq_1 (And.intro @abuild.eq_2 (And.intro @abuildS.eq_1 (And.intro @abuildS.eq_2 (And.intro @aslice.eq_1 (And.intro @aslice.eq_2 (And.intro @aslice.eq_3 (And.intro @aslice.eq_4 (And.intro @aslice.eq_5 (And.intro @abndO.eq_1 (And.intro @abndO.eq_2 (And.intro @abnd.eq_1 (And.intro @abnd.eq_2 (And.intro @amakeSlice.eq_1 (And.intro @amakeSlice.eq_2 (And.intro @aop.eq_24 (And.intro @aop.eq_25 (And.intro @aop.eq_26 (And.intro @alookup.eq_1 (And.intro @amapset.eq_1 (And.intro @alook.eq_1 (And.intro @alook.eq_2 (@Option.isSome_some.{0}))))))))))))))))))))))))))))))))))))))))))))))))))))))))))))))))))))))))))))))))))))))))))))))))))) := (And.intro @aop.eq_1 (And.intro @aop.eq_2 (And.intro @aop.eq_3 (And.intro @aop.eq_4 (And.intro @aop.eq_5 (And.intro @aop.eq_6 (And.intro @aop.eq_7 (And.intro @aop.eq_8 (And.intro @aop.eq_9 (And.intro @aop.eq_10 (And.intro @aop.eq_11 (And.intro @aop.eq_12 (And.intro @aop.eq_13 (And.intro @aop.eq_14 (And.intro @aop.eq_15 (And.intro @aop.eq_16 (And.intro @aop.eq_17 (And.intro @aop.eq_18 (And.intro @aop.eq_19 (And.intro @aop.eq_20 (And.intro @aop.eq_21 (And.intro @aop.eq_22 (And.intro @aop.eq_23 (And.intro @aload.eq_1 (And.intro @aload.eq_2 (And.intro @aload.eq_3 (And.intro @ajust.eq_1 (And.intro @astore.eq_1 (And.intro @astore.eq_2 (And.intro @splice.eq_1 (And.intro @splice.eq_2 (And.intro @afldAddr.eq_1 (And.intro @afld.eq_def (And.intro @aidxAddr.eq_1 (And.intro @aidxAddr.eq_2 (And.intro @aidxAddr.eq_3 (And.intro @aidx.eq_1 (And.intro @aidx.eq_2 (And.intro @abin.eq_1 (And.intro @abin.eq_2 (And.intro @abin.eq_3 (And.intro @abin.eq_4 (And.intro @abin.eq_5 (And.intro @abin.eq_6 (And.intro @abin.eq_7 (And.intro @abin.eq_8 (And.intro @abin.eq_9 (And.intro @abin.eq_10 (And.intro @abin.eq_11 (And.intro @abin.eq_12 (And.intro @abin.eq_13 (And.intro @abin.eq_14 (And.intro @abin.eq_15 (And.intro @abin.eq_16 (And.intro @abin.eq_17 (And.intro @abin.eq_18 (And.intro @abin.eq_19 (And.intro @abin.eq_20 (And.intro @abin.eq_21 (And.intro @abin.eq_22 (And.intro @abin.eq_23 (And.intro @abin.eq_24 (And.intro @abin.eq_25 (And.intro @abin.eq_26 (And.intro @abin.eq_27 (And.intro @abin.eq_28 (And.intro @abin.eq_29 (And.intro @abin.eq_30 (And.intro @aun.eq_1 (And.intro @aun.eq_2 (And.intro @aun.eq_3 (And.intro @abuiltin.eq_1 (And.intro @abuiltin.eq_2 (And.intro @abuiltin.eq_3 (And.intro @abuiltin.eq_4 (And.intro @abuiltin.eq_5 (And.intro @abuild.eq_1 (And.intro @abuild.eq_2 (And.intro @abuildS.eq_1 (And.intro @abuildS.eq_2 (And.intro @aslice.eq_1 (And.intro @aslice.eq_2 (And.intro @aslice.eq_3 (And.intro @aslice.eq_4 (And.intro @aslice.eq_5 (And.intro @abndO.eq_1 (And.intro @abndO.eq_2 (And.intro @abnd.eq_1 (And.intro @abnd.eq_2 (And.intro @amakeSlice.eq_1 (And.intro @amakeSlice.eq_2 (And.intro @aop.eq_24 (And.intro @aop.eq_25 (And.intro @aop.eq_26 (And.intro @alookup.eq_1 (And.intro @amapset.eq_1 (And.intro @alook.eq_1 (And.intro @alook.eq_2 (@Option.isSome_some.{0})))))))))))))))))))))))))))))))))))))))))))))))))))))))))))))))))))))))))))))))))))))))))))))))))))
theorem jL : type_of% (And.intro @aload.eq_1 (And.intro @aload.eq_2 (@aload.eq_3))) := (And.intro @aload.eq_1 (And.intro @aload.eq_2 (@aload.eq_3)))
theorem jN : type_of% (And.intro @true_and (And.intro @and_true (And.intro @LS (And.intro @SS (And.intro @SX (And.intro @HS (And.intro @mkS_cons (And.intro @mkS_nil (And.intro @eq_self' (And.intro @List.map_nil.{0, 0} (And.intro @beq_self_eq_true.{0} (@Nat.succ_ne_self)))))))))))) := (And.intro @true_and (And.intro @and_true (And.intro @LS (And.intro @SS (And.intro @SX (And.intro @HS (And.intro @mkS_cons (And.intro @mkS_nil (And.intro @eq_self' (And.intro @List.map_nil.{0, 0} (And.intro @beq_self_eq_true.{0} (@Nat.succ_ne_self))))))))))))
end Go.Abs
