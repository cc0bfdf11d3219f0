/- Part 5 of a proof of the law SolveMatchesReference: Go data as trees, the walks of the functions that the law reaches, the plain laws. -/
import Derived.Test.YtmjoonaejldkhaaGDSolveMatchesReference
set_option linter.unusedVariables false
set_option linter.unusedSimpArgs false
namespace Go.Abs
/-! The reference's matching. -/
def pidx (ps : List Int) (t : Ty) : Int := if t.kind = 2 then idxI (fun x => decide (t.id = x)) ps else -1
abbrev Occ := List (Int × Ty)
def occL : List (Ty × (Ty → Option Occ)) → Option Occ
  | [] => some []
  | (a, f) :: r => match f a with
    | none => none
    | some l => (occL r).map (l ++ ·)
def occT (ps : List Int) (t : Ty) : Ty → Option Occ
  | .mk pk pi us =>
    if 0 ≤ pidx ps (.mk pk pi us) then some [(pidx ps (.mk pk pi us), t)]
    else if t.kind ≠ pk ∨ t.id ≠ pi ∨ t.args.length ≠ us.length then none
    else occL (t.args.zip (us.map fun u => fun a => occT ps a u))
theorem occT_eq (ps : List Int) (t p : Ty) : occT ps t p =
    if 0 ≤ pidx ps p then some [(pidx ps p, t)]
    else if t.kind ≠ p.kind ∨ t.id ≠ p.id ∨ t.args.length ≠ p.args.length then none
    else occL (t.args.zip (p.args.map fun u => fun a => occT ps a u)) := by
  cases p; rw [occT]; rfl
def procL : Occ → MSt → Bool × MSt
  | [], s => (true, s)
  | (i, u) :: r, s => if s.2.getD i.toNat false = true then (if (s.1.getD i.toNat .zero).eqb u = true then procL r s else (false, s)) else procL r (s.1.set i.toNat u, s.2.set i.toNat true)
theorem procL_app : ∀ (l r : Occ) (s : MSt), procL (l ++ r) s = if (procL l s).1 = true then procL r (procL l s).2 else procL l s
  | [], r, s => by simp [procL]
  | (i, u) :: l, r, s => by
    simp only [List.cons_append, procL]
    split
    · split
      · exact procL_app l r s
      · rfl
    · exact procL_app l r _
def OccR (n : Nat) (m : Bool × MSt) (o : Option Occ) (s : MSt) : Prop :=
  match o with
  | none => m.1 = false
  | some l => (∀ x ∈ l, 0 ≤ x.1 ∧ x.1 < n) ∧ m.1 = (procL l s).1 ∧ ((procL l s).1 = true → m.2 = (procL l s).2)
theorem occL_R (n : Nat) : ∀ (ts : List Ty) (fs : List (Ty → MSt → Bool × MSt)) (gs : List (Ty → Option Occ)) (s : MSt), fs.length = gs.length →
    (∀ (j : Nat) (h1 : j < fs.length) (h2 : j < gs.length) a s, OccR n (fs[j] a s) (gs[j] a) s) → OccR n (matchL (ts.zip fs) s) (occL (ts.zip gs)) s
  | [], fs, gs, s, _, _ => by simp [matchL, occL, OccR, procL]
  | t :: ts, [], [], s, _, _ => by simp [matchL, occL, OccR, procL]
  | t :: ts, [], g :: gs, s, h, _ => by simp at h
  | t :: ts, f :: fs, [], s, h, _ => by simp at h
  | t :: ts, f :: fs, g :: gs, s, h, hf => by
    have h0 := hf 0 (by simp) (by simp) t s
    simp only [List.getElem_cons_zero] at h0
    have ih := fun s => occL_R n ts fs gs s (by simpa using h) fun j h1 h2 a s => by
      have := hf (j + 1) (by simpa using h1) (by simpa using h2) a s
      simpa using this
    simp only [List.zip_cons_cons, matchL, occL]
    cases hg : g t with
    | none => rw [hg] at h0; simp only [OccR] at h0; simp [OccR, h0]
    | some l =>
      rw [hg] at h0
      obtain ⟨k1, k2, k3⟩ := h0
      simp only
      by_cases hb : (procL l s).1 = true
      · rw [k2, hb, if_pos rfl, k3 hb]
        have := ih (procL l s).2
        cases ho : occL (ts.zip gs) with
        | none => rw [ho] at this; exact this
        | some r =>
          rw [ho] at this
          obtain ⟨j1, j2, j3⟩ := this
          refine ⟨fun x hx => ?_, ?_, ?_⟩
          · rcases List.mem_append.1 hx with hx | hx
            · exact k1 x hx
            · exact j1 x hx
          · rw [procL_app, if_pos hb]; exact j2
          · rw [procL_app, if_pos hb]; exact j3
      · have hb : (procL l s).1 = false := by simpa using hb
        rw [k2, hb]
        have := ih s
        cases ho : occL (ts.zip gs) with
        | none => simp [OccR]
        | some r =>
          rw [ho] at this
          refine ⟨fun x hx => ?_, ?_, ?_⟩
          · rcases List.mem_append.1 hx with hx | hx
            · exact k1 x hx
            · exact this.1 x hx
          · simp [procL_app, hb]
          · simp [procL_app, hb]
theorem occT_R (ps : List Int) : ∀ (p t : Ty) (s : MSt), OccR ps.length (matchT ps t p s) (occT ps t p) s
  | .mk pk pi us, t, s => by
    rw [matchT, occT]
    have hp : pidx ps (.mk pk pi us) = if pk = 2 then idxI (fun x => decide (pi = x)) ps else -1 := rfl
    by_cases h : 0 ≤ pidx ps (.mk pk pi us)
    · rw [if_pos h]
      have hk : pk = 2 := by rw [hp] at h; split at h <;> simp_all
      have hi : 0 ≤ idxI (fun x => decide (pi = x)) ps := by rw [hp, if_pos hk] at h; exact h
      rw [hp, if_pos hk, if_pos (by simp [hk, hi])]
      have hlt := idxI_lt hi
      simp only [OccR, procL, List.mem_singleton]
      refine ⟨fun x hx => by rw [hx]; exact ⟨hi, hlt⟩, ?_, ?_⟩
      · split
        · split
          · rename_i h1; exact h1
          · rename_i h1; simpa using h1
        · rfl
      · split
        · split
          · intro _; rfl
          · intro _; rfl
        · intro _; rfl
    · rw [if_neg h]
      have hc : ¬ (decide (pk = 2) && decide (idxI (fun x => decide (pi = x)) ps ≥ 0)) = true := by
        intro hc
        simp only [Bool.and_eq_true, decide_eq_true_eq] at hc
        rw [hp, if_pos hc.1] at h
        exact h hc.2
      rw [if_neg hc]
      by_cases hm : t.kind ≠ pk ∨ t.id ≠ pi ∨ t.args.length ≠ us.length
      · rw [if_pos hm, if_pos (by simp; omega)]; rfl
      · rw [if_neg hm, if_neg (by simp; omega)]
        exact occL_R ps.length t.args (us.map fun u => fun a s => matchT ps a u s) (us.map fun u => fun a => occT ps a u) s (by simp) fun j h1 h2 a s => by
          simp only [List.getElem_map]
          have hmem : us[j]'(by simpa using h1) ∈ us := List.getElem_mem _
          exact occT_R ps _ a s
def firstI (l : Occ) (i : Int) : Option Ty := (l.find? fun x => decide (x.1 = i)).map (·.2)
def consI (l : Occ) (i : Int) : Bool := l.all fun x => !decide (x.1 = i) || x.2.eqb ((firstI l i).getD .zero)
theorem firstI_app (l r : Occ) (i : Int) : firstI (l ++ r) i = (firstI l i).or (firstI r i) := by
  unfold firstI; rw [List.find?_append]; cases l.find? _ <;> simp
theorem firstI_mem {l : Occ} {i : Int} (h : ∃ x ∈ l, x.1 = i) : (firstI l i).isSome = true := by
  obtain ⟨x, hx, he⟩ := h
  unfold firstI
  rw [Option.isSome_map, List.find?_isSome]
  exact ⟨x, hx, by simp [he]⟩
theorem consI_iff (l : Occ) (i : Int) : consI l i = true ↔ ∀ x ∈ l, x.1 = i → firstI l i = some x.2 := by
  unfold consI
  rw [List.all_eq_true]
  refine forall_congr' fun x => forall_congr' fun hx => ?_
  by_cases h : x.1 = i
  · have := firstI_mem ⟨x, hx, h⟩
    obtain ⟨u, hu⟩ := Option.isSome_iff_exists.1 this
    simp only [h, hu, Ty.eqb_iff, decide_true, Bool.not_true, Bool.false_or, Option.getD_some, true_imp_iff, Option.some.injEq]
    exact eq_comm
  · simp [h]
structure OInv (n : Nat) (l : Occ) (s : MSt) : Prop where
  l1 : s.1.length = n
  l2 : s.2.length = n
  a : ∀ j : Nat, j < n → s.1.getD j .zero = (firstI l j).getD .zero
  b : ∀ j : Nat, j < n → s.2.getD j false = (firstI l j).isSome
  c : ∀ j : Nat, j < n → consI l j = true
theorem getD_set' {α : Type} (l : List α) (i j : Nat) (a d : α) (hi : i < l.length) : (l.set i a).getD j d = if j = i then a else l.getD j d := getD_set l i j a d hi
theorem procL_inv (n : Nat) : ∀ (l pre : Occ) (s : MSt), OInv n pre s → (∀ x ∈ l, 0 ≤ x.1 ∧ x.1 < n) →
    ((procL l s).1 = true ↔ ∀ j : Nat, j < n → consI (pre ++ l) j = true) ∧ ((procL l s).1 = true → OInv n (pre ++ l) (procL l s).2)
  | [], pre, s, hi, _ => by simp only [procL, List.append_nil, true_iff]; exact ⟨hi.c, fun _ => hi⟩
  | (i, u) :: r, pre, s, hi, hr => by
    obtain ⟨h0, h1⟩ := hr (i, u) (by simp)
    simp only at h0 h1
    have hk : i.toNat < n := by omega
    have hki : ((i.toNat : Nat) : Int) = i := by omega
    have ea : pre ++ (i, u) :: r = (pre ++ [(i, u)]) ++ r := by simp
    rw [ea]
    have one : firstI [(i, u)] i = some u := by simp [firstI]
    have oth : ∀ j, j ≠ i → firstI [(i, u)] j = none := fun j hj => by simp [firstI, Ne.symm hj]
    simp only [procL]
    by_cases hb : s.2.getD i.toNat false = true
    · rw [if_pos hb]
      have hs := hi.b _ hk
      rw [hb, hki] at hs
      obtain ⟨a, ha⟩ := Option.isSome_iff_exists.1 hs.symm
      have hsa := hi.a _ hk
      rw [hki, ha] at hsa
      simp only [Option.getD_some] at hsa
      by_cases he : (s.1.getD i.toNat .zero).eqb u = true
      · rw [if_pos he]
        rw [hsa, Ty.eqb_iff] at he
        subst he
        refine procL_inv n r (pre ++ [(i, a)]) s ⟨hi.l1, hi.l2, fun j hj => ?_, fun j hj => ?_, fun j hj => ?_⟩ fun x hx => hr x (by simp [hx])
        · rw [firstI_app]
          by_cases hji : (j : Int) = i
          · rw [hji, ha]; have := hi.a j hj; rw [hji, ha] at this; exact this
          · rw [oth _ hji, Option.or_none]; exact hi.a j hj
        · rw [firstI_app]
          by_cases hji : (j : Int) = i
          · rw [hji, ha]; have := hi.b j hj; rw [hji, ha] at this; exact this
          · rw [oth _ hji, Option.or_none]; exact hi.b j hj
        · rw [consI_iff]
          intro x hx hxj
          rw [firstI_app]
          rcases List.mem_append.1 hx with hx | hx
          · have := (consI_iff _ _).1 (hi.c j hj) x hx hxj
            rw [this]; rfl
          · rw [List.mem_singleton] at hx
            subst hx
            simp only at hxj ⊢
            rw [← hxj, ha]; rfl
      · rw [if_neg he]
        refine ⟨⟨fun h => by simp at h, fun h => ?_⟩, fun h => by simp at h⟩
        exfalso
        apply he
        rw [hsa, Ty.eqb_iff]
        have := (consI_iff _ _).1 (h i.toNat hk) (i, u) (by simp) (by simp; omega)
        rw [hki, firstI_app, firstI_app, ha] at this
        simpa using this
    · rw [if_neg hb]
      have hs := hi.b _ hk
      have hb' : s.2.getD i.toNat false = false := by simpa using hb
      rw [hb', hki] at hs
      have ha : firstI pre i = none := by
        cases hq : firstI pre i with
        | none => rfl
        | some v => rw [hq] at hs; cases hs
      refine procL_inv n r (pre ++ [(i, u)]) _ ⟨by simp [hi.l1], by simp [hi.l2], fun j hj => ?_, fun j hj => ?_, fun j hj => ?_⟩ fun x hx => hr x (by simp [hx])
      · rw [getD_set _ _ _ _ _ (by rw [hi.l1]; exact hk), firstI_app]
        by_cases hji : j = i.toNat
        · rw [if_pos hji, hji, hki, ha, one]; rfl
        · rw [if_neg hji, oth _ (by omega), Option.or_none]; exact hi.a j hj
      · rw [getD_set _ _ _ _ _ (by rw [hi.l2]; exact hk), firstI_app]
        by_cases hji : j = i.toNat
        · rw [if_pos hji, hji, hki, ha, one]; rfl
        · rw [if_neg hji, oth _ (by omega), Option.or_none]; exact hi.b j hj
      · rw [consI_iff]
        intro x hx hxj
        rw [firstI_app]
        rcases List.mem_append.1 hx with hx | hx
        · have := (consI_iff _ _).1 (hi.c j hj) x hx hxj
          rw [this]; rfl
        · rw [List.mem_singleton] at hx
          subst hx
          simp only at hxj ⊢
          rw [← hxj, ha, one]; rfl
/-- What the reference's MatchScheme answers. -/
def refM (ps : List Int) (t p : Ty) : List Ty × Bool :=
  match occT ps t p with
  | none => ([], false)
  | some l => if ((List.range ps.length).all fun (j : Nat) => consI l (j : Int)) = true then ((List.range ps.length).map fun (j : Nat) => (firstI l (j : Int)).getD .zero, true) else ([], false)
theorem refM_eq (ps : List Int) (t p : Ty) : refM ps t p = matchP ps t p := by
  have hR := occT_R ps p t (mS0 ps)
  unfold refM matchP
  cases ho : occT ps t p with
  | none => rw [ho] at hR; simp only [OccR] at hR; rw [hR]; rfl
  | some l =>
    rw [ho] at hR
    obtain ⟨h1, h2, h3⟩ := hR
    have hget : ∀ j : Nat, (mS0 ps).1.getD j .zero = .zero := fun j => by simp only [mS0, List.getD_eq_getElem?_getD, List.getElem?_replicate]; split <;> rfl
    have hgetb : ∀ j : Nat, (mS0 ps).2.getD j false = false := fun j => by simp only [mS0, List.getD_eq_getElem?_getD, List.getElem?_replicate]; split <;> rfl
    have hI : OInv ps.length [] (mS0 ps) := ⟨by simp [mS0], by simp [mS0], fun j _ => by rw [hget]; rfl, fun j _ => by rw [hgetb]; rfl, fun j _ => rfl⟩
    obtain ⟨k1, k2⟩ := procL_inv ps.length l [] (mS0 ps) hI h1
    rw [List.nil_append] at k1 k2
    simp only
    by_cases hp : (procL l (mS0 ps)).1 = true
    · rw [if_pos (by rw [List.all_eq_true]; intro j hj; exact k1.1 hp j (List.mem_range.1 hj)), h2, if_pos hp, h3 hp]
      have := k2 hp
      congr 1
      apply List.ext_getElem
      · simp [this.l1]
      · intro j h5 h6
        have hj : j < ps.length := by simpa using h5
        have := this.a j hj
        rw [List.getD_eq_getElem?_getD, List.getElem?_eq_getElem h6] at this
        simp only [List.getElem_map, List.getElem_range]
        exact this.symm
    · rw [h2, if_neg hp, if_neg]
      intro h
      apply hp
      rw [k1]
      intro j hj
      exact List.all_eq_true.1 h j (List.mem_range.2 hj)
end Go.Abs
set_option linter.unusedVariables false
set_option linter.unusedSimpArgs false
set_option maxRecDepth 4000
namespace Go.Abs
open Go.Proofs

theorem refA_hit {ps : List Int} {xs : List Ty} {t : Ty} (hl : xs.length = ps.length) (h : 0 ≤ pidx ps t) : (pidx ps t).toNat < xs.length ∧ mapT (appG ps xs) t = xs.getD (pidx ps t).toNat (.mk 0 0 []) := by
  have hk : t.kind = 2 := by unfold pidx at h; split at h <;> simp_all
  have hp : pidx ps t = idxI (fun x => decide (t.id = x)) ps := by unfold pidx; rw [if_pos hk]
  rw [hp] at h ⊢
  have hlt := idxI_lt h
  refine ⟨by omega, ?_⟩
  have hg : appG ps xs t = (xs.getD (idxI (fun x => decide (t.id = x)) ps).toNat (.mk 0 0 []), true) := by
    unfold appG; rw [if_neg (by simp [hk]; omega)]
  rw [mapT_eq, hg]; rfl
theorem refA_miss {ps : List Int} {xs : List Ty} {t : Ty} (h : ¬ 0 ≤ pidx ps t) : mapT (appG ps xs) t = .mk t.kind t.id (t.args.map (mapT (appG ps xs))) := by
  have hg : appG ps xs t = (t, false) := by
    unfold appG
    rw [if_pos]
    unfold pidx at h
    by_cases hk : t.kind = 2
    · rw [if_pos hk] at h; simp [hk]; omega
    · simp [hk]
  rw [mapT_eq, hg]; rfl
theorem ap0 (i : TI) (fr : Nat) (H : Heap) (es : List PV) (tl tl' : Tail) : aappend i fr H (.slice es tl) (.slice [] tl') = some (.slice es tl, none) := by simp [aappend]
theorem aappend_tokN {i : TI} {fresh : Nat} {H : Heap} {es ys : List PV} {id n : Nat} {tl : Tail} (hH : H[id]? = some (.buf n i.sz)) (hn : n = es.length) (hne : ys ≠ []) (hb : (es.length + ys.length) * i.bytes ≤ 2 ^ 47) (hm : es.length + ys.length ≤ maxLen)
    (hes : ∀ e ∈ es, e.cells.length = i.sz) (hx : ∀ e ∈ ys, e.cells.length = i.sz ∧ e.cells.all PV.isCell = true) (hs : 0 < i.sz) :
    aappend i fresh H (.slice es (.tok id)) (.slice ys tl) = some (.slice (es ++ ys) (.tok id), some (id, .buf (es.length + ys.length) i.sz)) := by
  unfold aappend
  simp only [if_neg hne]
  rw [if_pos ⟨hb, hm, hes, hx, hs⟩]
  simp only [hH]
  simp only [hn, and_self, if_true]
theorem occL_len : ∀ (ts : List Ty) (us : List Ty) (gs : List (Ty → Option Occ)) (l : Occ), gs.length = us.length → (∀ (j : Nat) (h1 : j < gs.length) (h2 : j < us.length) a q, gs[j] a = some q → q.length ≤ us[j].size) → occL (ts.zip gs) = some l → l.length ≤ Ty.sizes us
  | [], us, gs, l, _, _, h => by simp [occL] at h; subst h; simp
  | t :: ts, [], gs, l, hl, _, h => by
    cases gs with
    | nil => simp [occL] at h; subst h; simp [Ty.sizes]
    | cons g gs => simp at hl
  | t :: ts, u :: us, [], l, hl, _, h => by simp at hl
  | t :: ts, u :: us, g :: gs, l, hl, hg, h => by
    simp only [List.zip_cons_cons, occL] at h
    cases hq : g t with
    | none => rw [hq] at h; cases h
    | some q =>
      rw [hq] at h
      simp only [Option.map_eq_some_iff] at h
      obtain ⟨r, hr, rfl⟩ := h
      have h0 := hg 0 (by simp) (by simp) t q hq
      simp only [List.getElem_cons_zero] at h0
      have ih := occL_len ts us gs r (by simpa using hl) (fun j h1 h2 a q e => by have := hg (j + 1) (by simpa using h1) (by simpa using h2) a q (by simpa using e); simpa using this) hr
      simp only [List.length_append, Ty.sizes]; omega
theorem occT_len (ps : List Int) : ∀ (p t : Ty) (l : Occ), occT ps t p = some l → l.length ≤ p.size
  | .mk pk pi us, t, l, h => by
    rw [occT] at h
    split at h
    · cases h; simp [Ty.size]
    · split at h
      · cases h
      · have := occL_len t.args us _ l (by simp) (fun j h1 h2 a q e => by
          simp only [List.getElem_map] at e
          have hmem : us[j] ∈ us := List.getElem_mem _
          exact occT_len ps _ a q e) h
        simp only [Ty.size]; omega
theorem occL_take : ∀ (ts : List Ty) (gs : List (Ty → Option Occ)) (i : Nat) (h1 : i < ts.length) (h2 : i < gs.length), occL ((ts.zip gs).take (i + 1)) = (occL ((ts.zip gs).take i)).bind fun q => (gs[i] ts[i]).map (q ++ ·)
  | t :: ts, g :: gs, 0, _, _ => by simp [occL]; cases g t <;> simp
  | t :: ts, g :: gs, i + 1, h1, h2 => by
    have ih := occL_take ts gs i (by simpa using h1) (by simpa using h2)
    simp only [List.zip_cons_cons, List.take_succ_cons, occL, ih, List.getElem_cons_succ]
    cases g t with
    | none => rfl
    | some l => cases occL ((ts.zip gs).take i) with
      | none => rfl
      | some q => simp only [Option.bind_some, Option.map_some, Option.map_map]; congr 1; funext x; simp
theorem sizes_take {us : List Ty} {i : Nat} {u : Ty} (hi : i < us.length) (hu : us[i] = u) : Ty.sizes (us.take i) + u.size ≤ Ty.sizes us := by
  induction us generalizing i with
  | nil => simp at hi
  | cons a l ih =>
    cases i with
    | zero => simp at hu; subst hu; simp [Ty.sizes]
    | succ i =>
      have := ih (i := i) (by simpa using hi) (by simpa using hu)
      simp only [List.take_succ_cons, Ty.sizes]; omega
theorem occL_none : ∀ (ts : List Ty) (gs : List (Ty → Option Occ)) (i : Nat), occL ((ts.zip gs).take i) = none → occL (ts.zip gs) = none
  | [], gs, i, h => by simp [occL] at h
  | t :: ts, [], i, h => by simp [occL] at h
  | t :: ts, g :: gs, 0, h => by simp [occL] at h
  | t :: ts, g :: gs, i + 1, h => by
    simp only [List.zip_cons_cons, List.take_succ_cons, occL] at h ⊢
    cases hg : g t with
    | none => rfl
    | some l => rw [hg] at h; simp only [Option.map_eq_none_iff] at h ⊢; exact occL_none ts gs i h

theorem pidx_c (t : Ty) (ps : List Int) (hx : ps.length ≤ maxLen) : PC Try.prog 131 [t.enc, .slice (ps.map vint) .none] (vint (pidx ps t)) := by
  refine pc_of (N := 23) Try.func131 rfl rfl (by simp) (by simp [Ty.bel, bel_ints0]) (.int _ _) ?_
  -- region 0
  repeat (refine awp_seq ?_)
  refine e_eval (by simp only [asq, as0, as1, as2, awanted, aop, LS, SS, SX, HS, mkS_cons, mkS_nil, ↓reduceIte, eq_self', List.map_nil, beq_self_eq_true, Nat.reduceEqDiff, Nat.reduceAdd, Nat.reduceMul, Nat.reduceLT, Nat.reduceLeDiff, Nat.reducePow, Nat.reduceDiv, Nat.reduceMod, Nat.succ_ne_self, Nat.reduceBEq, Nat.reduceBNe, Tryti24, Trytf24, Trytz24, Trytp24, vint, TyS, TyF, TBS, TBF, DcS, DcF, SvS, SvF, PfS, PfF] <;> with_reducible rfl) (by decide) ?_
  -- region 1
  repeat (refine awp_seq ?_)
  refine e_eval (by simp only [asq, as0, as1, as2, awanted, aop, afldAddr, ajust, aload, abin, LS, SS, SX, HS, mkS_cons, mkS_nil, ↓reduceIte, eq_self', List.map_nil, beq_self_eq_true, Nat.reduceEqDiff, Nat.reduceAdd, Nat.reduceMul, Nat.reduceLT, Nat.reduceLeDiff, Nat.reducePow, Nat.reduceDiv, Nat.reduceMod, Nat.succ_ne_self, Nat.reduceBEq, Nat.reduceBNe, Tryti3, Trytz3, Trytp3, Trytk3, Tryti24, Trytf24, Trytz24, Trytp24, vint, TyS, TyF, TBS, TBF, DcS, DcF, SvS, SvF, PfS, PfF] <;> with_reducible rfl) (by decide) ?_
  repeat (refine awp_seq ?_)
  refine awp_cond rfl (by simp only [LS, SS, SX, HS, mkS_cons, mkS_nil, ↓reduceIte, eq_self', List.map_nil, beq_self_eq_true, Nat.reduceEqDiff, Nat.reduceAdd, Nat.succ_ne_self, vint, TyS, TyF, TBS, TBF, DcS, DcF, SvS, SvF, PfS, PfF] <;> with_reducible rfl) (fun b0 => ?_) (fun b0 => ?_)
  · -- if t9
    have hk : t.kind = 2 := of_decide_eq_true b0
    have hp : pidx ps t = idxI (fun x => decide (t.id = x)) ps := by unfold pidx; rw [if_pos hk]
    rw [hp]
    -- region 2
    repeat (refine awp_seq ?_)
    refine e_eval (by simp only [asq, as0, as1, as2, awanted, aop, abuiltin, LS, SS, SX, HS, mkS_cons, mkS_nil, ↓reduceIte, eq_self', List.map_nil, beq_self_eq_true, Nat.reduceEqDiff, Nat.reduceAdd, Nat.reduceMul, Nat.reduceLT, Nat.reduceLeDiff, Nat.reducePow, Nat.reduceDiv, Nat.reduceMod, Nat.succ_ne_self, Nat.reduceBEq, Nat.reduceBNe, Tryti3, Trytz3, Trytp3, Trytk3, Tryti25, Tryte25, Trytz25, Trytp25, vint, TyS, TyF, TBS, TBF, DcS, DcF, SvS, SvF, PfS, PfF] <;> with_reducible rfl) (by decide) ?_
    repeat (refine awp_seq ?_)
    refine awp_forS (σ := Unit) (ps.length) (fun (s : Unit) => [(2, .optr 0 0), (10, .slice (ps.map vint) .none)]) [2, 10] ([]) (fun (s : Unit) => [.row t.enc.cells]) (fun (i : Nat) (s : Unit) => (ps.take i).any (fun x => decide (t.id = x)) = false) (()) ([]) rfl rfl rfl rfl rfl rfl rfl rfl rfl (by decide) (by decide) (by decide) (fun _ => rfl) (hx) ⟨(by first | rfl | (simp only [LS, SS, SX, HS, mkS_cons, mkS_nil, ↓reduceIte, eq_self', List.map_nil, beq_self_eq_true, Nat.reduceEqDiff, Nat.reduceAdd, Nat.succ_ne_self, vint, TyS, TyF, TBS, TBF, DcS, DcF, SvS, SvF, PfS, PfF] <;> first | done | with_reducible rfl)), (by first | rfl | (simp only [LS, SS, SX, HS, mkS_cons, mkS_nil, ↓reduceIte, eq_self', List.map_nil, beq_self_eq_true, Nat.reduceEqDiff, Nat.reduceAdd, Nat.succ_ne_self, vint, TyS, TyF, TBS, TBF, DcS, DcF, SvS, SvF, PfS, PfF] <;> first | done | with_reducible rfl)), (by first | rfl | (simp only [LS, SS, SX, HS, mkS_cons, mkS_nil, ↓reduceIte, eq_self', List.map_nil, beq_self_eq_true, Nat.reduceEqDiff, Nat.reduceAdd, Nat.succ_ne_self, vint, TyS, TyF, TBS, TBF, DcS, DcF, SvS, SvF, PfS, PfF] <;> first | done | with_reducible rfl)), (by first | rfl | (simp only [LS, SS, SX, HS, mkS_cons, mkS_nil, ↓reduceIte, eq_self', List.map_nil, beq_self_eq_true, Nat.reduceEqDiff, Nat.reduceAdd, Nat.succ_ne_self, vint, TyS, TyF, TBS, TBF, DcS, DcF, SvS, SvF, PfS, PfF] <;> first | done | with_reducible rfl)), trivial⟩ (by first | rfl | (simp only [LS, SS, SX, HS, mkS_cons, mkS_nil, ↓reduceIte, eq_self', List.map_nil, beq_self_eq_true, Nat.reduceEqDiff, Nat.reduceAdd, Nat.succ_ne_self, vint, TyS, TyF, TBS, TBF, DcS, DcF, SvS, SvF, PfS, PfF] <;> first | done | with_reducible rfl)) (by simp) (fun _ _ _ => by first | exact Nat.zero_le _ | (simp only [List.length_append]; omega)) ?_ ?_ ?_
    · exact fun i s hg => ⟨by simp only [TyS, List.nil_append, List.append_nil, List.cons_append]; repeat (first | exact hbel_nil _ | exact trivial | exact obel_row_nil _ | (refine HBel.cons ?_ ?_) | (refine obel_row_cons (by first | exact bel_TB _ _ | exact TB.bel _ _ | exact bel_Dc _ _ | exact Dc.bel _ _ | exact Pf.bel _ _ | exact bel_Pf _ _ | exact Sv.bel _ _ | exact bel_Pf_tok _ (by simp) | exact bel_ints0 _ _ | exact bel_slice_ty _ _ | exact Ty.bel _ _ | exact bel_ty_tok _ (by simp) | exact Bel.int _ _ | exact Bel.bool _ | exact Bel.str _ | exact Bel.nilp | exact Bel.nilfn | exact Bel.optr _ _ (by simp) | exact bel_nil0 _ | exact bel_nil1 _ | exact bel_fn0 _ _ | assumption) ?_)), by repeat (first | exact BelL.nil | refine BelL.cons (by first | exact bel_TB _ _ | exact TB.bel _ _ | exact bel_Dc _ _ | exact Dc.bel _ _ | exact Pf.bel _ _ | exact bel_Pf _ _ | exact Sv.bel _ _ | exact bel_Pf_tok _ (by simp) | exact bel_ints0 _ _ | exact bel_slice_ty _ _ | exact Ty.bel _ _ | exact bel_ty_tok _ (by simp) | exact Bel.int _ _ | exact Bel.bool _ | exact Bel.str _ | exact Bel.nilp | exact Bel.nilfn | exact Bel.optr _ _ (by simp) | exact bel_nil0 _ | exact bel_nil1 _ | exact bel_fn0 _ _ | assumption) ?_)⟩
    · intro i s hi hg
      have g1 := ix_nat hi
      have g2 := get_enc vint hi
      -- region 4
      repeat (refine awp_seq ?_)
      refine e_eval (by simp only [asq, as0, as1, as2, awanted, aop, aidxAddr, aidx, ajust, aload, LS, SS, SX, HS, mkS_cons, mkS_nil, ↓reduceIte, eq_self', List.map_nil, beq_self_eq_true, Nat.reduceEqDiff, Nat.reduceAdd, Nat.reduceMul, Nat.reduceLT, Nat.reduceLeDiff, Nat.reducePow, Nat.reduceDiv, Nat.reduceMod, Nat.succ_ne_self, Nat.reduceBEq, Nat.reduceBNe, Tryti3, Trytz3, Trytp3, Trytk3, Tryti25, Tryte25, Trytz25, Trytp25, vint, TyS, TyF, TBS, TBF, DcS, DcF, SvS, SvF, PfS, PfF, g1, Int.toNat_natCast, g2] <;> with_reducible rfl) (by decide) ?_
      -- region 5
      repeat (refine awp_seq ?_)
      refine e_eval (by simp only [asq, as0, as1, as2, awanted, aop, afldAddr, ajust, aload, abin, LS, SS, SX, HS, mkS_cons, mkS_nil, ↓reduceIte, eq_self', List.map_nil, beq_self_eq_true, Nat.reduceEqDiff, Nat.reduceAdd, Nat.reduceMul, Nat.reduceLT, Nat.reduceLeDiff, Nat.reducePow, Nat.reduceDiv, Nat.reduceMod, Nat.succ_ne_self, Nat.reduceBEq, Nat.reduceBNe, Tryti3, Trytz3, Trytp3, Trytk3, Tryti24, Trytf24, Trytz24, Trytp24, vint, TyS, TyF, TBS, TBF, DcS, DcF, SvS, SvF, PfS, PfF, g1, Int.toNat_natCast, g2] <;> with_reducible rfl) (by decide) ?_
      repeat (refine awp_seq ?_)
      refine awp_cond rfl (by simp only [LS, SS, SX, HS, mkS_cons, mkS_nil, ↓reduceIte, eq_self', List.map_nil, beq_self_eq_true, Nat.reduceEqDiff, Nat.reduceAdd, Nat.succ_ne_self, vint, TyS, TyF, TBS, TBF, DcS, DcF, SvS, SvF, PfS, PfF, g1, Int.toNat_natCast, g2] <;> with_reducible rfl) (fun b1 => ?_) (fun b1 => ?_)
      · -- if t20
        -- region 6
        repeat (refine awp_seq ?_)
        refine e_eval (by simp only [asq, as0, as1, as2, awanted, aop, LS, SS, SX, HS, mkS_cons, mkS_nil, ↓reduceIte, eq_self', List.map_nil, beq_self_eq_true, Nat.reduceEqDiff, Nat.reduceAdd, Nat.reduceMul, Nat.reduceLT, Nat.reduceLeDiff, Nat.reducePow, Nat.reduceDiv, Nat.reduceMod, Nat.succ_ne_self, Nat.reduceBEq, Nat.reduceBNe, vint, TyS, TyF, TBS, TBF, DcS, DcF, SvS, SvF, PfS, PfF, g1, Int.toNat_natCast, g2] <;> with_reducible rfl) (by decide) ?_
        repeat (refine awp_seq ?_)
        -- leaf 0 ret
        refine awp_ret ⟨.inr rfl, _, rfl, ?_⟩
        rw [idxI_at hi (by simp at b1 ⊢; exact b1.symm) hg]
        simp only [LS, SS, SX, HS, mkS_cons, mkS_nil, ↓reduceIte, eq_self', List.map_nil, beq_self_eq_true, Nat.reduceEqDiff, Nat.reduceAdd, Nat.succ_ne_self, vint, TyS, TyF, TBS, TBF, DcS, DcF, SvS, SvF, PfS, PfF]
      · -- else t20
        repeat (refine awp_seq ?_)
        refine awp_skip ?_
        -- leaf 1 next0
        exact ⟨⟨rfl, rfl, trivial⟩, (), [], ⟨rfl, rfl, trivial⟩, by simp only [LS, SS, SX, HS, mkS_cons, mkS_nil, ↓reduceIte, eq_self', List.map_nil, beq_self_eq_true, Nat.reduceEqDiff, Nat.reduceAdd, Nat.succ_ne_self, vint, TyS, TyF, TBS, TBF, DcS, DcF, SvS, SvF, PfS, PfF] <;> rfl, any_take_succ hi hg (by simp at b1 ⊢; exact fun e => b1 e.symm)⟩
    · intro s hg
      rw [List.take_length] at hg
      -- region 8
      repeat (refine awp_seq ?_)
      refine e_eval (by simp only [asq, as0, as1, as2, awanted, aop, LS, SS, SX, HS, mkS_cons, mkS_nil, ↓reduceIte, eq_self', List.map_nil, beq_self_eq_true, Nat.reduceEqDiff, Nat.reduceAdd, Nat.reduceMul, Nat.reduceLT, Nat.reduceLeDiff, Nat.reducePow, Nat.reduceDiv, Nat.reduceMod, Nat.succ_ne_self, Nat.reduceBEq, Nat.reduceBNe, vint, TyS, TyF, TBS, TBF, DcS, DcF, SvS, SvF, PfS, PfF] <;> with_reducible rfl) (by decide) ?_
      repeat (refine awp_seq ?_)
      -- leaf 2 ret
      refine awp_ret ⟨.inr rfl, _, rfl, ?_⟩
      rw [idxI_none hg]
      simp only [LS, SS, SX, HS, mkS_cons, mkS_nil, ↓reduceIte, eq_self', List.map_nil, beq_self_eq_true, Nat.reduceEqDiff, Nat.reduceAdd, Nat.succ_ne_self, vint, TyS, TyF, TBS, TBF, DcS, DcF, SvS, SvF, PfS, PfF]
  · -- else t9
    have hk : ¬ t.kind = 2 := of_decide_eq_false b0
    have hp : pidx ps t = -1 := by unfold pidx; rw [if_neg hk]
    rw [hp]
    repeat (refine awp_seq ?_)
    refine awp_skip ?_
    -- region 8
    repeat (refine awp_seq ?_)
    refine e_eval (by simp only [asq, as0, as1, as2, awanted, aop, LS, SS, SX, HS, mkS_cons, mkS_nil, ↓reduceIte, eq_self', List.map_nil, beq_self_eq_true, Nat.reduceEqDiff, Nat.reduceAdd, Nat.reduceMul, Nat.reduceLT, Nat.reduceLeDiff, Nat.reducePow, Nat.reduceDiv, Nat.reduceMod, Nat.succ_ne_self, Nat.reduceBEq, Nat.reduceBNe, vint, TyS, TyF, TBS, TBF, DcS, DcF, SvS, SvF, PfS, PfF] <;> with_reducible rfl) (by decide) ?_
    repeat (refine awp_seq ?_)
    -- leaf 3 ret
    refine awp_ret ⟨.inr rfl, _, rfl, ?_⟩
    simp only [LS, SS, SX, HS, mkS_cons, mkS_nil, ↓reduceIte, eq_self', List.map_nil, beq_self_eq_true, Nat.reduceEqDiff, Nat.reduceAdd, Nat.succ_ne_self, vint, TyS, TyF, TBS, TBF, DcS, DcF, SvS, SvF, PfS, PfF]

theorem applyArgs_k (ps : List Int) (xs : List Ty) (hx : ps.length ≤ maxLen) (hl : xs.length = ps.length) (hw : ∀ a ∈ xs, a.W) : ∀ (k : Nat) (t : Ty), t.size ≤ k → t.W → PC Try.prog 105 [t.enc, .slice (ps.map vint) .none, .slice (xs.map Ty.enc) .none] (mapT (appG ps xs) t).enc
  | 0, t, h, _ => by cases t; simp [Ty.size] at h
  | k + 1, t, h, ht => by
    refine pc_of (N := 43) Try.func105 rfl rfl (by simp) (by simp [Ty.bel, bel_ints0, bel_slice_ty]) (Ty.bel _ _) ?_
    -- region 0
    repeat (refine awp_seq ?_)
    refine e_eval (by simp only [asq, as0, as1, as2, awanted, aop, LS, SS, SX, HS, mkS_cons, mkS_nil, ↓reduceIte, eq_self', List.map_nil, beq_self_eq_true, Nat.reduceEqDiff, Nat.reduceAdd, Nat.reduceMul, Nat.reduceLT, Nat.reduceLeDiff, Nat.reducePow, Nat.reduceDiv, Nat.reduceMod, Nat.succ_ne_self, Nat.reduceBEq, Nat.reduceBNe, Tryti24, Trytf24, Trytz24, Trytp24, vint, TyS, TyF, TBS, TBF, DcS, DcF, SvS, SvF, PfS, PfF] <;> with_reducible rfl) (by decide) ?_
    -- region 1
    repeat (refine awp_seq ?_)
    refine awp_region ?_
    refine e_take 2 (by simp only [asq, as0, as1, as2, awanted, aop, aload, ajust, LS, SS, SX, HS, mkS_cons, mkS_nil, ↓reduceIte, eq_self', List.map_nil, beq_self_eq_true, Nat.reduceEqDiff, Nat.reduceAdd, Nat.reduceMul, Nat.reduceLT, Nat.reduceLeDiff, Nat.reducePow, Nat.reduceDiv, Nat.reduceMod, Nat.succ_ne_self, Nat.reduceBEq, Nat.reduceBNe, Tryti24, Trytf24, Trytz24, Trytp24, vint, TyS, TyF, TBS, TBF, DcS, DcF, SvS, SvF, PfS, PfF] <;> with_reducible rfl) (by decide) ?_
    refine aops_pure (by simp only [acall, awanted, LS, SS, SX, HS, mkS_cons, mkS_nil, ↓reduceIte, eq_self', List.map_nil, beq_self_eq_true, Nat.reduceEqDiff, Nat.reduceAdd, Nat.reduceMul, Nat.reduceLT, Nat.reduceLeDiff, Nat.reducePow, Nat.reduceDiv, Nat.reduceMod, Nat.succ_ne_self, Nat.reduceBEq, Nat.reduceBNe, vint, TyS, TyF, TBS, TBF, DcS, DcF, SvS, SvF, PfS, PfF] <;> with_reducible rfl) (by simp only [acall, awanted, LS, SS, SX, HS, mkS_cons, mkS_nil, ↓reduceIte, eq_self', List.map_nil, beq_self_eq_true, Nat.reduceEqDiff, Nat.reduceAdd, Nat.reduceMul, Nat.reduceLT, Nat.reduceLeDiff, Nat.reducePow, Nat.reduceDiv, Nat.reduceMod, Nat.succ_ne_self, Nat.reduceBEq, Nat.reduceBNe, vint, TyS, TyF, TBS, TBF, DcS, DcF, SvS, SvF, PfS, PfF]) (by decide) Trygo131 (pidx_c t ps hx _) ?_
    refine e_end (by simp only [asq, as0, as1, as2, awanted, aop, LS, SS, SX, HS, mkS_cons, mkS_nil, ↓reduceIte, eq_self', List.map_nil, beq_self_eq_true, Nat.reduceEqDiff, Nat.reduceAdd, Nat.reduceMul, Nat.reduceLT, Nat.reduceLeDiff, Nat.reducePow, Nat.reduceDiv, Nat.reduceMod, Nat.succ_ne_self, Nat.reduceBEq, Nat.reduceBNe, vint, TyS, TyF, TBS, TBF, DcS, DcF, SvS, SvF, PfS, PfF] <;> with_reducible rfl) (by decide) ?_
    -- region 2
    repeat (refine awp_seq ?_)
    refine e_eval (by simp only [asq, as0, as1, as2, awanted, aop, abin, ajust, LS, SS, SX, HS, mkS_cons, mkS_nil, ↓reduceIte, eq_self', List.map_nil, beq_self_eq_true, Nat.reduceEqDiff, Nat.reduceAdd, Nat.reduceMul, Nat.reduceLT, Nat.reduceLeDiff, Nat.reducePow, Nat.reduceDiv, Nat.reduceMod, Nat.succ_ne_self, Nat.reduceBEq, Nat.reduceBNe, Tryti3, Trytz3, Trytp3, Trytk3, vint, TyS, TyF, TBS, TBF, DcS, DcF, SvS, SvF, PfS, PfF] <;> with_reducible rfl) (by decide) ?_
    repeat (refine awp_seq ?_)
    refine awp_cond rfl (by simp only [LS, SS, SX, HS, mkS_cons, mkS_nil, ↓reduceIte, eq_self', List.map_nil, beq_self_eq_true, Nat.reduceEqDiff, Nat.reduceAdd, Nat.succ_ne_self, vint, TyS, TyF, TBS, TBF, DcS, DcF, SvS, SvF, PfS, PfF] <;> with_reducible rfl) (fun b0 => ?_) (fun b0 => ?_)
    · -- if t15
      have hp : 0 ≤ pidx ps t := by simpa using b0
      obtain ⟨hlt, hst⟩ := refA_hit (xs := xs) hl hp
      have g1 : ((0 : Int) ≤ pidx ps t ∧ pidx ps t < xs.length) = True := by simp; omega
      have g2 := get_enc Ty.enc hlt
      have g3 : decide (pidx ps t < (xs.length : Int)) = true := decide_eq_true (by omega)
      rw [hst, List.getD_eq_getElem?_getD, List.getElem?_eq_getElem hlt]
      -- region 3
      repeat (refine awp_seq ?_)
      refine e_eval (by simp only [asq, as0, as1, as2, awanted, aop, abuiltin, abin, ajust, LS, SS, SX, HS, mkS_cons, mkS_nil, ↓reduceIte, eq_self', List.map_nil, beq_self_eq_true, Nat.reduceEqDiff, Nat.reduceAdd, Nat.reduceMul, Nat.reduceLT, Nat.reduceLeDiff, Nat.reducePow, Nat.reduceDiv, Nat.reduceMod, Nat.succ_ne_self, Nat.reduceBEq, Nat.reduceBNe, Tryti3, Trytz3, Trytp3, Trytk3, Tryti22, Tryte22, Trytz22, Trytp22, Tryti24, Trytf24, Trytz24, Trytp24, vint, TyS, TyF, TBS, TBF, DcS, DcF, SvS, SvF, PfS, PfF, g3] <;> with_reducible rfl) (by decide) ?_
      repeat (refine awp_seq ?_)
      refine awp_cond_true rfl (by simp only [LS, SS, SX, HS, mkS_cons, mkS_nil, ↓reduceIte, eq_self', List.map_nil, beq_self_eq_true, Nat.reduceEqDiff, Nat.reduceAdd, Nat.succ_ne_self, vint, TyS, TyF, TBS, TBF, DcS, DcF, SvS, SvF, PfS, PfF, g3] <;> with_reducible rfl) ?_
      -- region 4
      repeat (refine awp_seq ?_)
      refine e_eval (by simp only [asq, as0, as1, as2, awanted, aop, aidxAddr, aidx, ajust, aload, astore, splice, LS, SS, SX, HS, mkS_cons, mkS_nil, ↓reduceIte, eq_self', List.map_nil, beq_self_eq_true, Nat.reduceEqDiff, Nat.reduceAdd, Nat.reduceMul, Nat.reduceLT, Nat.reduceLeDiff, Nat.reducePow, Nat.reduceDiv, Nat.reduceMod, Nat.succ_ne_self, Nat.reduceBEq, Nat.reduceBNe, Tryti22, Tryte22, Trytz22, Trytp22, Tryti24, Trytf24, Trytz24, Trytp24, vint, TyS, TyF, TBS, TBF, DcS, DcF, SvS, SvF, PfS, PfF, g1, g2] <;> with_reducible rfl) (by decide) ?_
      repeat (refine awp_seq ?_)
      -- leaf 0 ret
      refine awp_ret ⟨.inr rfl, _, (ares_cell 6 24 rfl Tryti24 (by decide) (by simp only [aload, LS, SS, SX, HS, mkS_cons, mkS_nil, ↓reduceIte, eq_self', List.map_nil, beq_self_eq_true, Nat.reduceEqDiff, Nat.reduceAdd, Nat.reduceMul, Nat.reduceLT, Nat.reduceLeDiff, Nat.reducePow, Nat.reduceDiv, Nat.reduceMod, Nat.succ_ne_self, Nat.reduceBEq, Nat.reduceBNe, vint, TyS, TyF, TBS, TBF, DcS, DcF, SvS, SvF, PfS, PfF] <;> with_reducible rfl)), ?_⟩
      exact Ty.enc_drop1 _
    · -- else t15
      have hp : ¬ 0 ≤ pidx ps t := by simpa using b0
      rw [refA_miss hp]
      repeat (refine awp_seq ?_)
      refine awp_skip ?_
      -- region 6
      repeat (refine awp_seq ?_)
      refine e_eval (by simp only [asq, as0, as1, as2, awanted, aop, LS, SS, SX, HS, mkS_cons, mkS_nil, ↓reduceIte, eq_self', List.map_nil, beq_self_eq_true, Nat.reduceEqDiff, Nat.reduceAdd, Nat.reduceMul, Nat.reduceLT, Nat.reduceLeDiff, Nat.reducePow, Nat.reduceDiv, Nat.reduceMod, Nat.succ_ne_self, Nat.reduceBEq, Nat.reduceBNe, vint, TyS, TyF, TBS, TBF, DcS, DcF, SvS, SvF, PfS, PfF] <;> with_reducible rfl) (by decide) ?_
      -- region 7
      repeat (refine awp_seq ?_)
      refine e_eval (by simp only [asq, as0, as1, as2, awanted, aop, afldAddr, ajust, aload, abuiltin, LS, SS, SX, HS, mkS_cons, mkS_nil, ↓reduceIte, eq_self', List.map_nil, beq_self_eq_true, Nat.reduceEqDiff, Nat.reduceAdd, Nat.reduceMul, Nat.reduceLT, Nat.reduceLeDiff, Nat.reducePow, Nat.reduceDiv, Nat.reduceMod, Nat.succ_ne_self, Nat.reduceBEq, Nat.reduceBNe, Tryti22, Tryte22, Trytz22, Trytp22, Tryti24, Trytf24, Trytz24, Trytp24, vint, TyS, TyF, TBS, TBF, DcS, DcF, SvS, SvF, PfS, PfF] <;> with_reducible rfl) (by decide) ?_
      repeat (refine awp_seq ?_)
      refine awp_retok 8 3 (es := []) (by simp only [LS, SS, SX, HS, mkS_cons, mkS_nil, ↓reduceIte, eq_self', List.map_nil, beq_self_eq_true, Nat.reduceEqDiff, Nat.reduceAdd, Nat.succ_ne_self, vint, TyS, TyF, TBS, TBF, DcS, DcF, SvS, SvF, PfS, PfF] <;> with_reducible rfl) ?_
      refine awp_forS (σ := List Ty) (t.args.length) (fun (r : List Ty) => [(1, .slice (ps.map vint) .none), (2, .slice (xs.map Ty.enc) .none), (3, .optr 0 0), (6, .optr 1 0), (8, .slice (r.map Ty.enc) (.tok 2)), (26, .slice (t.args.map Ty.enc) .none)]) [1, 2, 3, 6, 8, 26] ([]) (fun (r : List Ty) => [.row t.enc.cells, .row [.int .i64 0, .int .i64 0, .slice [] .full], .buf r.length 3]) (fun (i : Nat) (r : List Ty) => r = (t.args.take i).map (mapT (appG ps xs))) ([]) ([]) rfl rfl rfl rfl rfl rfl rfl rfl rfl (by decide) (by decide) (by decide) (fun _ => rfl) (ht.lenMax) ⟨(by first | rfl | (simp only [LS, SS, SX, HS, mkS_cons, mkS_nil, ↓reduceIte, eq_self', List.map_nil, beq_self_eq_true, Nat.reduceEqDiff, Nat.reduceAdd, Nat.succ_ne_self, vint, TyS, TyF, TBS, TBF, DcS, DcF, SvS, SvF, PfS, PfF] <;> first | done | with_reducible rfl)), (by first | rfl | (simp only [LS, SS, SX, HS, mkS_cons, mkS_nil, ↓reduceIte, eq_self', List.map_nil, beq_self_eq_true, Nat.reduceEqDiff, Nat.reduceAdd, Nat.succ_ne_self, vint, TyS, TyF, TBS, TBF, DcS, DcF, SvS, SvF, PfS, PfF] <;> first | done | with_reducible rfl)), (by first | rfl | (simp only [LS, SS, SX, HS, mkS_cons, mkS_nil, ↓reduceIte, eq_self', List.map_nil, beq_self_eq_true, Nat.reduceEqDiff, Nat.reduceAdd, Nat.succ_ne_self, vint, TyS, TyF, TBS, TBF, DcS, DcF, SvS, SvF, PfS, PfF] <;> first | done | with_reducible rfl)), (by first | rfl | (simp only [LS, SS, SX, HS, mkS_cons, mkS_nil, ↓reduceIte, eq_self', List.map_nil, beq_self_eq_true, Nat.reduceEqDiff, Nat.reduceAdd, Nat.succ_ne_self, vint, TyS, TyF, TBS, TBF, DcS, DcF, SvS, SvF, PfS, PfF] <;> first | done | with_reducible rfl)), (by first | rfl | (simp only [LS, SS, SX, HS, mkS_cons, mkS_nil, ↓reduceIte, eq_self', List.map_nil, beq_self_eq_true, Nat.reduceEqDiff, Nat.reduceAdd, Nat.succ_ne_self, vint, TyS, TyF, TBS, TBF, DcS, DcF, SvS, SvF, PfS, PfF] <;> first | done | with_reducible rfl)), (by first | rfl | (simp only [LS, SS, SX, HS, mkS_cons, mkS_nil, ↓reduceIte, eq_self', List.map_nil, beq_self_eq_true, Nat.reduceEqDiff, Nat.reduceAdd, Nat.succ_ne_self, vint, TyS, TyF, TBS, TBF, DcS, DcF, SvS, SvF, PfS, PfF] <;> first | done | with_reducible rfl)), (by first | rfl | (simp only [LS, SS, SX, HS, mkS_cons, mkS_nil, ↓reduceIte, eq_self', List.map_nil, beq_self_eq_true, Nat.reduceEqDiff, Nat.reduceAdd, Nat.succ_ne_self, vint, TyS, TyF, TBS, TBF, DcS, DcF, SvS, SvF, PfS, PfF] <;> first | done | with_reducible rfl)), (by first | rfl | (simp only [LS, SS, SX, HS, mkS_cons, mkS_nil, ↓reduceIte, eq_self', List.map_nil, beq_self_eq_true, Nat.reduceEqDiff, Nat.reduceAdd, Nat.succ_ne_self, vint, TyS, TyF, TBS, TBF, DcS, DcF, SvS, SvF, PfS, PfF] <;> first | done | with_reducible rfl)), trivial⟩ (by first | rfl | (simp only [LS, SS, SX, HS, mkS_cons, mkS_nil, ↓reduceIte, eq_self', List.map_nil, beq_self_eq_true, Nat.reduceEqDiff, Nat.reduceAdd, Nat.succ_ne_self, vint, TyS, TyF, TBS, TBF, DcS, DcF, SvS, SvF, PfS, PfF] <;> first | done | with_reducible rfl)) (by simp) (fun _ _ _ => by first | exact Nat.zero_le _ | (simp only [List.length_append]; omega)) ?_ ?_ ?_
      · exact fun i r hg => ⟨by simp only [TyS, List.nil_append, List.append_nil, List.cons_append]; repeat (first | exact hbel_nil _ | exact trivial | exact obel_row_nil _ | (refine HBel.cons ?_ ?_) | (refine obel_row_cons (by first | exact bel_TB _ _ | exact TB.bel _ _ | exact bel_Dc _ _ | exact Dc.bel _ _ | exact Pf.bel _ _ | exact bel_Pf _ _ | exact Sv.bel _ _ | exact bel_Pf_tok _ (by simp) | exact bel_ints0 _ _ | exact bel_slice_ty _ _ | exact Ty.bel _ _ | exact bel_ty_tok _ (by simp) | exact Bel.int _ _ | exact Bel.bool _ | exact Bel.str _ | exact Bel.nilp | exact Bel.nilfn | exact Bel.optr _ _ (by simp) | exact bel_nil0 _ | exact bel_nil1 _ | exact bel_fn0 _ _ | assumption) ?_)), by repeat (first | exact BelL.nil | refine BelL.cons (by first | exact bel_TB _ _ | exact TB.bel _ _ | exact bel_Dc _ _ | exact Dc.bel _ _ | exact Pf.bel _ _ | exact bel_Pf _ _ | exact Sv.bel _ _ | exact bel_Pf_tok _ (by simp) | exact bel_ints0 _ _ | exact bel_slice_ty _ _ | exact Ty.bel _ _ | exact bel_ty_tok _ (by simp) | exact Bel.int _ _ | exact Bel.bool _ | exact Bel.str _ | exact Bel.nilp | exact Bel.nilfn | exact Bel.optr _ _ (by simp) | exact bel_nil0 _ | exact bel_nil1 _ | exact bel_fn0 _ _ | assumption) ?_)⟩
      · intro i r hi hg
        have g1 := ix_nat hi
        have g2 := get_enc Ty.enc hi
        have hmem : t.args[i] ∈ t.args := List.getElem_mem hi
        have hsa := Ty.size_arg hmem
        have hlen := ht.len
        have hsl : r.length < t.args.length := by rw [hg, List.length_map, List.length_take]; omega
        obtain ⟨a, hae⟩ : ∃ a, t.args[i] = a := ⟨_, rfl⟩
        have haw := ht.arg hmem
        rw [hae] at g2 hsa haw
        have happ := app_ty (us := r) (u := mapT (appG ps xs) a) (id := 2) (tl := .full) (by omega)
        -- region 9
        repeat (refine awp_seq ?_)
        refine e_eval (by simp only [asq, as0, as1, as2, awanted, aop, aidxAddr, aidx, ajust, aload, astore, splice, LS, SS, SX, HS, mkS_cons, mkS_nil, ↓reduceIte, eq_self', List.map_nil, beq_self_eq_true, Nat.reduceEqDiff, Nat.reduceAdd, Nat.reduceMul, Nat.reduceLT, Nat.reduceLeDiff, Nat.reducePow, Nat.reduceDiv, Nat.reduceMod, Nat.succ_ne_self, Nat.reduceBEq, Nat.reduceBNe, Tryti22, Tryte22, Trytz22, Trytp22, Tryti24, Trytf24, Trytz24, Trytp24, vint, TyS, TyF, TBS, TBF, DcS, DcF, SvS, SvF, PfS, PfF, g1, g2, Int.toNat_natCast] <;> with_reducible rfl) (by decide) ?_
        -- region 10
        repeat (refine awp_seq ?_)
        refine awp_region ?_
        refine e_take 4 (by simp only [asq, as0, as1, as2, awanted, aop, aload, ajust, LS, SS, SX, HS, mkS_cons, mkS_nil, ↓reduceIte, eq_self', List.map_nil, beq_self_eq_true, Nat.reduceEqDiff, Nat.reduceAdd, Nat.reduceMul, Nat.reduceLT, Nat.reduceLeDiff, Nat.reducePow, Nat.reduceDiv, Nat.reduceMod, Nat.succ_ne_self, Nat.reduceBEq, Nat.reduceBNe, Tryti24, Trytf24, Trytz24, Trytp24, vint, TyS, TyF, TBS, TBF, DcS, DcF, SvS, SvF, PfS, PfF, g1, g2, Int.toNat_natCast, happ] <;> with_reducible rfl) (by decide) ?_
        refine aops_pure (by simp only [acall, awanted, LS, SS, SX, HS, mkS_cons, mkS_nil, ↓reduceIte, eq_self', List.map_nil, beq_self_eq_true, Nat.reduceEqDiff, Nat.reduceAdd, Nat.reduceMul, Nat.reduceLT, Nat.reduceLeDiff, Nat.reducePow, Nat.reduceDiv, Nat.reduceMod, Nat.succ_ne_self, Nat.reduceBEq, Nat.reduceBNe, vint, TyS, TyF, TBS, TBF, DcS, DcF, SvS, SvF, PfS, PfF, g1, g2, Int.toNat_natCast, happ] <;> with_reducible rfl) (by simp only [acall, awanted, LS, SS, SX, HS, mkS_cons, mkS_nil, ↓reduceIte, eq_self', List.map_nil, beq_self_eq_true, Nat.reduceEqDiff, Nat.reduceAdd, Nat.reduceMul, Nat.reduceLT, Nat.reduceLeDiff, Nat.reducePow, Nat.reduceDiv, Nat.reduceMod, Nat.succ_ne_self, Nat.reduceBEq, Nat.reduceBNe, vint, TyS, TyF, TBS, TBF, DcS, DcF, SvS, SvF, PfS, PfF, g1, g2, Int.toNat_natCast, happ]) (by decide) Trygo105 (applyArgs_k ps xs hx hl hw k a (by omega) haw _) ?_
        refine e_end (by simp only [asq, as0, as1, as2, awanted, aop, abuildS, abuiltin, LS, SS, SX, HS, mkS_cons, mkS_nil, ↓reduceIte, eq_self', List.map_nil, beq_self_eq_true, Nat.reduceEqDiff, Nat.reduceAdd, Nat.reduceMul, Nat.reduceLT, Nat.reduceLeDiff, Nat.reducePow, Nat.reduceDiv, Nat.reduceMod, Nat.succ_ne_self, Nat.reduceBEq, Nat.reduceBNe, Tryti22, Tryte22, Trytz22, Trytp22, Tryti24, Trytf24, Trytz24, Trytp24, vint, TyS, TyF, TBS, TBF, DcS, DcF, SvS, SvF, PfS, PfF, g1, g2, Int.toNat_natCast, happ] <;> with_reducible rfl) (by decide) ?_
        -- leaf 1 next0
        exact ⟨⟨rfl, rfl, trivial⟩, r ++ [mapT (appG ps xs) a], _, ⟨rfl, rfl, rfl, rfl, rfl, rfl, trivial⟩, by simp only [LS, SS, SX, HS, mkS_cons, mkS_nil, ↓reduceIte, eq_self', List.map_nil, beq_self_eq_true, Nat.reduceEqDiff, Nat.reduceAdd, Nat.succ_ne_self, vint, TyS, TyF, TBS, TBF, DcS, DcF, SvS, SvF, PfS, PfF, List.length_append, List.length_singleton] <;> rfl, by rw [hg, map_take_succ _ hi, hae]⟩
      · intro r hg
        rw [List.take_length] at hg
        -- region 12
        repeat (refine awp_seq ?_)
        refine e_eval (by simp only [asq, as0, as1, as2, awanted, aop, afldAddr, ajust, astore, splice, LS, SS, SX, HS, mkS_cons, mkS_nil, ↓reduceIte, eq_self', List.map_nil, beq_self_eq_true, Nat.reduceEqDiff, Nat.reduceAdd, Nat.reduceMul, Nat.reduceLT, Nat.reduceLeDiff, Nat.reducePow, Nat.reduceDiv, Nat.reduceMod, Nat.succ_ne_self, Nat.reduceBEq, Nat.reduceBNe, Tryti22, Tryte22, Trytz22, Trytp22, Tryti24, Trytf24, Trytz24, Trytp24, vint, TyS, TyF, TBS, TBF, DcS, DcF, SvS, SvF, PfS, PfF] <;> with_reducible rfl) (by decide) ?_
        -- region 13
        repeat (refine awp_seq ?_)
        refine e_eval (by simp only [asq, as0, as1, as2, awanted, aop, aload, ajust, astore, splice, LS, SS, SX, HS, mkS_cons, mkS_nil, ↓reduceIte, eq_self', List.map_nil, beq_self_eq_true, Nat.reduceEqDiff, Nat.reduceAdd, Nat.reduceMul, Nat.reduceLT, Nat.reduceLeDiff, Nat.reducePow, Nat.reduceDiv, Nat.reduceMod, Nat.succ_ne_self, Nat.reduceBEq, Nat.reduceBNe, Tryti24, Trytf24, Trytz24, Trytp24, vint, TyS, TyF, TBS, TBF, DcS, DcF, SvS, SvF, PfS, PfF] <;> with_reducible rfl) (by decide) ?_
        repeat (refine awp_seq ?_)
        -- leaf 2 ret
        refine awp_ret ⟨.inr rfl, _, (ares_cell 6 24 rfl Tryti24 (by decide) (by simp only [aload, LS, SS, SX, HS, mkS_cons, mkS_nil, ↓reduceIte, eq_self', List.map_nil, beq_self_eq_true, Nat.reduceEqDiff, Nat.reduceAdd, Nat.reduceMul, Nat.reduceLT, Nat.reduceLeDiff, Nat.reducePow, Nat.reduceDiv, Nat.reduceMod, Nat.succ_ne_self, Nat.reduceBEq, Nat.reduceBNe, vint, TyS, TyF, TBS, TBF, DcS, DcF, SvS, SvF, PfS, PfF] <;> with_reducible rfl)), ?_⟩
        rw [← hg]
        first | exact Ty.enc_drop1 _ | (simp only [TyF, d1_agg, LS]; exact Ty.enc_drop1 _) | rfl

theorem paramOccurs_k (q : Int) : ∀ (k : Nat) (t : Ty), t.size ≤ k → t.W → PC Try.prog 104 [t.enc, vint q] (.bool (cpar q t))
  | 0, t, h, _ => by cases t; simp [Ty.size] at h
  | k + 1, t, h, ht => by
    rw [cpar_eq]
    refine pc_of (N := 32) Try.func104 rfl rfl (by simp) (by simp [Ty.bel, Bel.int]) (.bool _) ?_
    -- region 0
    repeat (refine awp_seq ?_)
    refine e_eval (by simp only [asq, as0, as1, as2, awanted, aop, LS, SS, SX, HS, mkS_cons, mkS_nil, ↓reduceIte, eq_self', List.map_nil, beq_self_eq_true, Nat.reduceEqDiff, Nat.reduceAdd, Nat.reduceMul, Nat.reduceLT, Nat.reduceLeDiff, Nat.reducePow, Nat.reduceDiv, Nat.reduceMod, Nat.succ_ne_self, Nat.reduceBEq, Nat.reduceBNe, Tryti24, Trytf24, Trytz24, Trytp24, vint, TyS, TyF, TBS, TBF, DcS, DcF, SvS, SvF, PfS, PfF] <;> with_reducible rfl) (by decide) ?_
    -- region 1
    repeat (refine awp_seq ?_)
    refine g_eval (by simp only [gsq, gs0, gs1, gs2, gcond, gop, SG, Op.operands, Call.operands, Array.toList_append, aop, afldAddr, ajust, aload, abin, LS, SS, SX, HS, mkS_cons, mkS_nil, ↓reduceIte, eq_self', List.map_nil, beq_self_eq_true, Nat.reduceEqDiff, Nat.reduceAdd, Nat.reduceMul, Nat.reduceLT, Nat.reduceLeDiff, Nat.reducePow, Nat.reduceDiv, Nat.reduceMod, Nat.succ_ne_self, Nat.reduceBEq, Nat.reduceBNe, Tryti3, Trytz3, Trytp3, Trytk3, Tryti24, Trytf24, Trytz24, Trytp24, vint, TyS, TyF, TBS, TBF, DcS, DcF, SvS, SvF, PfS, PfF] <;> with_reducible rfl) (by decide) (by repeat (first | exact Fin.base _ | with_reducible apply Fin.keep | apply Fin.drop)) ?_
    -- region 2
    repeat (refine awp_seq ?_)
    refine e_eval (by simp only [asq, as0, as1, as2, awanted, aop, afldAddr, ajust, aload, abuiltin, LS, SS, SX, HS, mkS_cons, mkS_nil, ↓reduceIte, eq_self', List.map_nil, beq_self_eq_true, Nat.reduceEqDiff, Nat.reduceAdd, Nat.reduceMul, Nat.reduceLT, Nat.reduceLeDiff, Nat.reducePow, Nat.reduceDiv, Nat.reduceMod, Nat.succ_ne_self, Nat.reduceBEq, Nat.reduceBNe, Tryti22, Tryte22, Trytz22, Trytp22, Tryti24, Trytf24, Trytz24, Trytp24, vint, TyS, TyF, TBS, TBF, DcS, DcF, SvS, SvF, PfS, PfF] <;> with_reducible rfl) (by decide) ?_
    repeat (refine awp_seq ?_)
    refine awp_forS (σ := Bool) (t.args.length) (fun (f : Bool) => [(1, vint q), (2, .optr 0 0), (5, .bool f), (18, .slice (t.args.map Ty.enc) .none)]) [1, 2, 5, 18] ([]) (fun (f : Bool) => [.row t.enc.cells]) (fun (i : Nat) (f : Bool) => f = ((decide (t.kind = 2) && decide (t.id = q)) || (t.args.take i).any (cpar q))) (((decide (t.kind = 2) && decide (t.id = q)) : Bool)) ([]) rfl rfl rfl rfl rfl rfl rfl rfl rfl (by decide) (by decide) (by decide) (fun _ => rfl) (ht.lenMax) ⟨(by first | rfl | (simp only [LS, SS, SX, HS, mkS_cons, mkS_nil, ↓reduceIte, eq_self', List.map_nil, beq_self_eq_true, Nat.reduceEqDiff, Nat.reduceAdd, Nat.succ_ne_self, vint, TyS, TyF, TBS, TBF, DcS, DcF, SvS, SvF, PfS, PfF] <;> first | done | with_reducible rfl)), (by first | rfl | (simp only [LS, SS, SX, HS, mkS_cons, mkS_nil, ↓reduceIte, eq_self', List.map_nil, beq_self_eq_true, Nat.reduceEqDiff, Nat.reduceAdd, Nat.succ_ne_self, vint, TyS, TyF, TBS, TBF, DcS, DcF, SvS, SvF, PfS, PfF] <;> first | done | with_reducible rfl)), (by first | rfl | (simp only [LS, SS, SX, HS, mkS_cons, mkS_nil, ↓reduceIte, eq_self', List.map_nil, beq_self_eq_true, Nat.reduceEqDiff, Nat.reduceAdd, Nat.succ_ne_self, vint, TyS, TyF, TBS, TBF, DcS, DcF, SvS, SvF, PfS, PfF] <;> first | done | with_reducible rfl)), (by first | rfl | (simp only [LS, SS, SX, HS, mkS_cons, mkS_nil, ↓reduceIte, eq_self', List.map_nil, beq_self_eq_true, Nat.reduceEqDiff, Nat.reduceAdd, Nat.succ_ne_self, vint, TyS, TyF, TBS, TBF, DcS, DcF, SvS, SvF, PfS, PfF] <;> first | done | with_reducible rfl)), (by first | rfl | (simp only [LS, SS, SX, HS, mkS_cons, mkS_nil, ↓reduceIte, eq_self', List.map_nil, beq_self_eq_true, Nat.reduceEqDiff, Nat.reduceAdd, Nat.succ_ne_self, vint, TyS, TyF, TBS, TBF, DcS, DcF, SvS, SvF, PfS, PfF] <;> first | done | with_reducible rfl)), (by first | rfl | (simp only [LS, SS, SX, HS, mkS_cons, mkS_nil, ↓reduceIte, eq_self', List.map_nil, beq_self_eq_true, Nat.reduceEqDiff, Nat.reduceAdd, Nat.succ_ne_self, vint, TyS, TyF, TBS, TBF, DcS, DcF, SvS, SvF, PfS, PfF] <;> first | done | with_reducible rfl)), trivial⟩ (by first | rfl | (simp only [LS, SS, SX, HS, mkS_cons, mkS_nil, ↓reduceIte, eq_self', List.map_nil, beq_self_eq_true, Nat.reduceEqDiff, Nat.reduceAdd, Nat.succ_ne_self, vint, TyS, TyF, TBS, TBF, DcS, DcF, SvS, SvF, PfS, PfF] <;> first | done | with_reducible rfl)) (by simp) (fun _ _ _ => by first | exact Nat.zero_le _ | (simp only [List.length_append]; omega)) ?_ ?_ ?_
    · exact fun i f hg => ⟨by simp only [TyS, List.nil_append, List.append_nil, List.cons_append]; repeat (first | exact hbel_nil _ | exact trivial | exact obel_row_nil _ | (refine HBel.cons ?_ ?_) | (refine obel_row_cons (by first | exact bel_TB _ _ | exact TB.bel _ _ | exact bel_Dc _ _ | exact Dc.bel _ _ | exact Pf.bel _ _ | exact bel_Pf _ _ | exact Sv.bel _ _ | exact bel_Pf_tok _ (by simp) | exact bel_ints0 _ _ | exact bel_slice_ty _ _ | exact Ty.bel _ _ | exact bel_ty_tok _ (by simp) | exact Bel.int _ _ | exact Bel.bool _ | exact Bel.str _ | exact Bel.nilp | exact Bel.nilfn | exact Bel.optr _ _ (by simp) | exact bel_nil0 _ | exact bel_nil1 _ | exact bel_fn0 _ _ | assumption) ?_)), by repeat (first | exact BelL.nil | refine BelL.cons (by first | exact bel_TB _ _ | exact TB.bel _ _ | exact bel_Dc _ _ | exact Dc.bel _ _ | exact Pf.bel _ _ | exact bel_Pf _ _ | exact Sv.bel _ _ | exact bel_Pf_tok _ (by simp) | exact bel_ints0 _ _ | exact bel_slice_ty _ _ | exact Ty.bel _ _ | exact bel_ty_tok _ (by simp) | exact Bel.int _ _ | exact Bel.bool _ | exact Bel.str _ | exact Bel.nilp | exact Bel.nilfn | exact Bel.optr _ _ (by simp) | exact bel_nil0 _ | exact bel_nil1 _ | exact bel_fn0 _ _ | assumption) ?_)⟩
    · intro i f hi hg
      have g1 := ix_nat hi
      have g2 := get_enc Ty.enc hi
      have hmem : t.args[i] ∈ t.args := List.getElem_mem hi
      have hsa := Ty.size_arg hmem
      obtain ⟨a, hae⟩ : ∃ a, t.args[i] = a := ⟨_, rfl⟩
      have haw := ht.arg hmem
      rw [hae] at g2 hsa haw
      -- region 4
      repeat (refine awp_seq ?_)
      refine e_eval (by simp only [asq, as0, as1, as2, awanted, aop, aidxAddr, aidx, ajust, aload, astore, splice, LS, SS, SX, HS, mkS_cons, mkS_nil, ↓reduceIte, eq_self', List.map_nil, beq_self_eq_true, Nat.reduceEqDiff, Nat.reduceAdd, Nat.reduceMul, Nat.reduceLT, Nat.reduceLeDiff, Nat.reducePow, Nat.reduceDiv, Nat.reduceMod, Nat.succ_ne_self, Nat.reduceBEq, Nat.reduceBNe, Tryti22, Tryte22, Trytz22, Trytp22, Tryti24, Trytf24, Trytz24, Trytp24, vint, TyS, TyF, TBS, TBF, DcS, DcF, SvS, SvF, PfS, PfF, g1, g2, Int.toNat_natCast] <;> with_reducible rfl) (by decide) ?_
      -- region 5
      repeat (refine awp_seq ?_)
      refine awp_region ?_
      refine aops_gstart ?_
      refine g_take 4 (by simp only [gsq, gs0, gs1, gs2, gcond, gop, SG, Op.operands, Call.operands, Array.toList_append, aop, aload, ajust, LS, SS, SX, HS, mkS_cons, mkS_nil, ↓reduceIte, eq_self', List.map_nil, beq_self_eq_true, Nat.reduceEqDiff, Nat.reduceAdd, Nat.reduceMul, Nat.reduceLT, Nat.reduceLeDiff, Nat.reducePow, Nat.reduceDiv, Nat.reduceMod, Nat.succ_ne_self, Nat.reduceBEq, Nat.reduceBNe, Tryti24, Trytf24, Trytz24, Trytp24, vint, TyS, TyF, TBS, TBF, DcS, DcF, SvS, SvF, PfS, PfF, g1, g2, Int.toNat_natCast] <;> with_reducible rfl) (by decide) ?_
      refine aops_gpure (by simp only [acall, gcond, SG, Op.operands, Call.operands, Array.toList_append, LS, SS, SX, HS, mkS_cons, mkS_nil, ↓reduceIte, eq_self', List.map_nil, beq_self_eq_true, Nat.reduceEqDiff, Nat.reduceAdd, Nat.reduceMul, Nat.reduceLT, Nat.reduceLeDiff, Nat.reducePow, Nat.reduceDiv, Nat.reduceMod, Nat.succ_ne_self, Nat.reduceBEq, Nat.reduceBNe, vint, TyS, TyF, TBS, TBF, DcS, DcF, SvS, SvF, PfS, PfF, g1, g2, Int.toNat_natCast] <;> with_reducible rfl) (by simp only [acall, gcond, SG, Op.operands, Call.operands, Array.toList_append, LS, SS, SX, HS, mkS_cons, mkS_nil, ↓reduceIte, eq_self', List.map_nil, beq_self_eq_true, Nat.reduceEqDiff, Nat.reduceAdd, Nat.reduceMul, Nat.reduceLT, Nat.reduceLeDiff, Nat.reducePow, Nat.reduceDiv, Nat.reduceMod, Nat.succ_ne_self, Nat.reduceBEq, Nat.reduceBNe, vint, TyS, TyF, TBS, TBF, DcS, DcF, SvS, SvF, PfS, PfF, g1, g2, Int.toNat_natCast] <;> with_reducible rfl) (by simp only [acall, gcond, SG, Op.operands, Call.operands, Array.toList_append, LS, SS, SX, HS, mkS_cons, mkS_nil, ↓reduceIte, eq_self', List.map_nil, beq_self_eq_true, Nat.reduceEqDiff, Nat.reduceAdd, Nat.reduceMul, Nat.reduceLT, Nat.reduceLeDiff, Nat.reducePow, Nat.reduceDiv, Nat.reduceMod, Nat.succ_ne_self, Nat.reduceBEq, Nat.reduceBNe, vint, TyS, TyF, TBS, TBF, DcS, DcF, SvS, SvF, PfS, PfF, g1, g2, Int.toNat_natCast]) (by decide) Trygo104 (fun hc => paramOccurs_k q k a (by omega) haw _) ?_
      refine g_end (by simp only [gsq, gs0, gs1, gs2, gcond, gop, SG, Op.operands, Call.operands, Array.toList_append, aop, LS, SS, SX, HS, mkS_cons, mkS_nil, ↓reduceIte, eq_self', List.map_nil, beq_self_eq_true, Nat.reduceEqDiff, Nat.reduceAdd, Nat.reduceMul, Nat.reduceLT, Nat.reduceLeDiff, Nat.reducePow, Nat.reduceDiv, Nat.reduceMod, Nat.succ_ne_self, Nat.reduceBEq, Nat.reduceBNe, vint, TyS, TyF, TBS, TBF, DcS, DcF, SvS, SvF, PfS, PfF, g1, g2, Int.toNat_natCast] <;> with_reducible rfl) (by decide) (by repeat (first | exact Fin.base _ | with_reducible apply Fin.keep | apply Fin.drop)) ?_
      -- leaf 0 next0
      exact ⟨⟨rfl, rfl, trivial⟩, (f || cpar q a), _, ⟨rfl, rfl, rfl, rfl, trivial⟩, by simp only [LS, SS, SX, HS, mkS_cons, mkS_nil, ↓reduceIte, eq_self', List.map_nil, beq_self_eq_true, Nat.reduceEqDiff, Nat.reduceAdd, Nat.succ_ne_self, vint, TyS, TyF, TBS, TBF, DcS, DcF, SvS, SvF, PfS, PfF] <;> rfl, by rw [hg, List.take_succ_eq_append_getElem hi, List.any_append, hae]; simp [Bool.or_assoc]⟩
    · intro f hg
      rw [List.take_length] at hg
      -- region 7
      repeat (refine awp_seq ?_)
      refine e_eval (by simp only [asq, as0, as1, as2, awanted, aop, LS, SS, SX, HS, mkS_cons, mkS_nil, ↓reduceIte, eq_self', List.map_nil, beq_self_eq_true, Nat.reduceEqDiff, Nat.reduceAdd, Nat.reduceMul, Nat.reduceLT, Nat.reduceLeDiff, Nat.reducePow, Nat.reduceDiv, Nat.reduceMod, Nat.succ_ne_self, Nat.reduceBEq, Nat.reduceBNe, vint, TyS, TyF, TBS, TBF, DcS, DcF, SvS, SvF, PfS, PfF] <;> with_reducible rfl) (by decide) ?_
      repeat (refine awp_seq ?_)
      -- leaf 1 ret
      refine awp_ret ⟨.inr rfl, _, rfl, ?_⟩
      rw [← hg]
      rfl

end Go.Abs
set_option linter.unusedVariables false
set_option linter.unusedSimpArgs false
set_option maxRecDepth 4000
namespace Go.Abs
open Go.Proofs

def occI (l : Occ) : List Int := l.map (·.1)
def occU (l : Occ) : List Ty := l.map (·.2)
theorem app_ints {us vs : List Int} {id : Nat} (hne : vs ≠ []) (hb : (us.length + vs.length) * 8 ≤ 2 ^ 47) (fresh : Nat) (H : Heap) (hH : H[id]? = some (.buf us.length 1)) :
    aappend ⟨false, 1, 8⟩ fresh H (.slice (us.map vint) (.tok id)) (.slice (vs.map vint) .none) = some (.slice ((us ++ vs).map vint) (.tok id), some (id, .buf (us.length + vs.length) 1)) := by
  have hmx : maxLen = 9223372036854775807 := by decide
  rw [aappend_tokN (n := us.length) hH (by simp) (by simpa using hne) (by simpa using hb) (by simp; omega) (fun e he => by obtain ⟨v, _, rfl⟩ := List.mem_map.1 he; rfl) (fun e he => by obtain ⟨v, _, rfl⟩ := List.mem_map.1 he; exact ⟨rfl, rfl⟩) (by decide)]
  simp
theorem app_tys {us vs : List Ty} {id : Nat} (hne : vs ≠ []) (hb : (us.length + vs.length) * 40 ≤ 2 ^ 47) (fresh : Nat) (H : Heap) (hH : H[id]? = some (.buf us.length 3)) :
    aappend ⟨true, 3, 40⟩ fresh H (.slice (us.map Ty.enc) (.tok id)) (.slice (vs.map Ty.enc) .none) = some (.slice ((us ++ vs).map Ty.enc) (.tok id), some (id, .buf (us.length + vs.length) 3)) := by
  have hmx : maxLen = 9223372036854775807 := by decide
  rw [aappend_tokN (n := us.length) hH (by simp) (by simpa using hne) (by simpa using hb) (by simp; omega) (fun e he => by obtain ⟨v, _, rfl⟩ := List.mem_map.1 he; exact v.enc_len) (fun e he => by obtain ⟨v, _, rfl⟩ := List.mem_map.1 he; exact ⟨v.enc_len, by rw [Ty.enc_cells]; rfl⟩) (by decide)]
  simp

theorem occ_k (ps : List Int) (hx : ps.length ≤ maxLen) : ∀ (k : Nat) (p t : Ty), p.size ≤ k → p.W → p.size * 40 ≤ 2 ^ 47 → PC Try.prog 130 [t.enc, p.enc, .slice (ps.map vint) .none] (.tup [.slice ((occI ((occT ps t p).getD [])).map vint) .none, .slice ((occU ((occT ps t p).getD [])).map Ty.enc) .none, .bool (occT ps t p).isSome])
  | 0, p, t, h, _, _ => by cases p; simp [Ty.size] at h
  | k + 1, p, t, h, hp, hb => by
    have hts : p.size = 1 + Ty.sizes p.args := by cases p; simp [Ty.size, Ty.args]
    refine pc_of (N := 79) Try.func130 rfl rfl (by simp) (by simp [Ty.bel, bel_ints0]) (.tup _ (by simp [bel_ints0, bel_slice_ty, Bel.bool])) ?_
    -- region 0
    repeat (refine awp_seq ?_)
    refine e_eval (by simp only [asq, as0, as1, as2, awanted, aop, LS, SS, SX, HS, mkS_cons, mkS_nil, ↓reduceIte, eq_self', List.map_nil, beq_self_eq_true, Nat.reduceEqDiff, Nat.reduceAdd, Nat.reduceMul, Nat.reduceLT, Nat.reduceLeDiff, Nat.reducePow, Nat.reduceDiv, Nat.reduceMod, Nat.succ_ne_self, Nat.reduceBEq, Nat.reduceBNe, Tryti24, Trytf24, Trytz24, Trytp24, vint, TyS, TyF, TBS, TBF, DcS, DcF, SvS, SvF, PfS, PfF] <;> with_reducible rfl) (by decide) ?_
    -- region 1
    repeat (refine awp_seq ?_)
    refine awp_region ?_
    refine e_take 2 (by simp only [asq, as0, as1, as2, awanted, aop, aload, ajust, LS, SS, SX, HS, mkS_cons, mkS_nil, ↓reduceIte, eq_self', List.map_nil, beq_self_eq_true, Nat.reduceEqDiff, Nat.reduceAdd, Nat.reduceMul, Nat.reduceLT, Nat.reduceLeDiff, Nat.reducePow, Nat.reduceDiv, Nat.reduceMod, Nat.succ_ne_self, Nat.reduceBEq, Nat.reduceBNe, Tryti24, Trytf24, Trytz24, Trytp24, vint, TyS, TyF, TBS, TBF, DcS, DcF, SvS, SvF, PfS, PfF] <;> with_reducible rfl) (by decide) ?_
    refine aops_pure (by simp only [acall, awanted, LS, SS, SX, HS, mkS_cons, mkS_nil, ↓reduceIte, eq_self', List.map_nil, beq_self_eq_true, Nat.reduceEqDiff, Nat.reduceAdd, Nat.reduceMul, Nat.reduceLT, Nat.reduceLeDiff, Nat.reducePow, Nat.reduceDiv, Nat.reduceMod, Nat.succ_ne_self, Nat.reduceBEq, Nat.reduceBNe, vint, TyS, TyF, TBS, TBF, DcS, DcF, SvS, SvF, PfS, PfF] <;> with_reducible rfl) (by simp only [acall, awanted, LS, SS, SX, HS, mkS_cons, mkS_nil, ↓reduceIte, eq_self', List.map_nil, beq_self_eq_true, Nat.reduceEqDiff, Nat.reduceAdd, Nat.reduceMul, Nat.reduceLT, Nat.reduceLeDiff, Nat.reducePow, Nat.reduceDiv, Nat.reduceMod, Nat.succ_ne_self, Nat.reduceBEq, Nat.reduceBNe, vint, TyS, TyF, TBS, TBF, DcS, DcF, SvS, SvF, PfS, PfF]) (by decide) Trygo131 (pidx_c p ps hx _) ?_
    refine e_end (by simp only [asq, as0, as1, as2, awanted, aop, LS, SS, SX, HS, mkS_cons, mkS_nil, ↓reduceIte, eq_self', List.map_nil, beq_self_eq_true, Nat.reduceEqDiff, Nat.reduceAdd, Nat.reduceMul, Nat.reduceLT, Nat.reduceLeDiff, Nat.reducePow, Nat.reduceDiv, Nat.reduceMod, Nat.succ_ne_self, Nat.reduceBEq, Nat.reduceBNe, vint, TyS, TyF, TBS, TBF, DcS, DcF, SvS, SvF, PfS, PfF] <;> with_reducible rfl) (by decide) ?_
    -- region 2
    repeat (refine awp_seq ?_)
    refine e_eval (by simp only [asq, as0, as1, as2, awanted, aop, abin, ajust, LS, SS, SX, HS, mkS_cons, mkS_nil, ↓reduceIte, eq_self', List.map_nil, beq_self_eq_true, Nat.reduceEqDiff, Nat.reduceAdd, Nat.reduceMul, Nat.reduceLT, Nat.reduceLeDiff, Nat.reducePow, Nat.reduceDiv, Nat.reduceMod, Nat.succ_ne_self, Nat.reduceBEq, Nat.reduceBNe, Tryti3, Trytz3, Trytp3, Trytk3, vint, TyS, TyF, TBS, TBF, DcS, DcF, SvS, SvF, PfS, PfF] <;> with_reducible rfl) (by decide) ?_
    repeat (refine awp_seq ?_)
    refine awp_cond rfl (by simp only [LS, SS, SX, HS, mkS_cons, mkS_nil, ↓reduceIte, eq_self', List.map_nil, beq_self_eq_true, Nat.reduceEqDiff, Nat.reduceAdd, Nat.succ_ne_self, vint, TyS, TyF, TBS, TBF, DcS, DcF, SvS, SvF, PfS, PfF] <;> with_reducible rfl) (fun b0 => ?_) (fun b0 => ?_)
    · -- if t20
      have hq : 0 ≤ pidx ps p := by simpa using b0
      have ho : occT ps t p = some [(pidx ps p, t)] := by rw [occT_eq, if_pos hq]
      rw [ho]
      -- region 3
      repeat (refine awp_seq ?_)
      refine awp_draw 0 (by kernel_rfl) ?_
      refine d_end (bm := [0, 1, 0, 4, 3, 31, 63]) (fresh := 0) (by kernel_rfl) (by simp only [dsq, ds0, ds1, ds2, ds3, awanted, hapB, effIds, effSet, nextFresh, ard, freshOk, isUnborn, aop, abuildS, aload, ajust, LS, SS, SX, HS, mkS_cons, mkS_nil, ↓reduceIte, eq_self', List.map_nil, beq_self_eq_true, Nat.reduceEqDiff, Nat.reduceAdd, Nat.reduceMul, Nat.reduceLT, Nat.reduceLeDiff, Nat.reducePow, Nat.reduceDiv, Nat.reduceMod, Nat.succ_ne_self, Nat.reduceBEq, Nat.reduceBNe, Tryti3, Trytz3, Trytp3, Trytk3, Tryti22, Tryte22, Trytz22, Trytp22, Tryti24, Trytf24, Trytz24, Trytp24, Tryti25, Tryte25, Trytz25, Trytp25, vint, TyS, TyF, TBS, TBF, DcS, DcF, SvS, SvF, PfS, PfF] <;> with_reducible rfl) (by decide) ?_
      repeat (refine awp_seq ?_)
      -- leaf 0 ret
      refine awp_ret ⟨.inr rfl, _, (ares_three (.tmp 6) (.tmp 7) (.tmp 8) rfl (ares_tmp1 (by decide)) (ares_tmp1 (by decide)) (ares_tmp1 (by decide))), ?_⟩
      simp only [LS, SS, SX, HS, mkS_cons, mkS_nil, ↓reduceIte, eq_self', List.map_nil, beq_self_eq_true, Nat.reduceEqDiff, Nat.reduceAdd, Nat.succ_ne_self, vint, TyS, TyF, TBS, TBF, DcS, DcF, SvS, SvF, PfS, PfF]
      rfl
    · -- else t20
      have hq : ¬ 0 ≤ pidx ps p := by simpa using b0
      repeat (refine awp_seq ?_)
      refine awp_skip ?_
      -- region 4
      repeat (refine awp_seq ?_)
      refine g_eval (by simp only [gsq, gs0, gs1, gs2, gcond, gop, SG, Op.operands, Call.operands, Array.toList_append, aop, afldAddr, ajust, aload, abin, abuiltin, LS, SS, SX, HS, mkS_cons, mkS_nil, ↓reduceIte, eq_self', List.map_nil, beq_self_eq_true, Nat.reduceEqDiff, Nat.reduceAdd, Nat.reduceMul, Nat.reduceLT, Nat.reduceLeDiff, Nat.reducePow, Nat.reduceDiv, Nat.reduceMod, Nat.succ_ne_self, Nat.reduceBEq, Nat.reduceBNe, Tryti3, Trytz3, Trytp3, Trytk3, Tryti22, Tryte22, Trytz22, Trytp22, Tryti24, Trytf24, Trytz24, Trytp24, vint, TyS, TyF, TBS, TBF, DcS, DcF, SvS, SvF, PfS, PfF] <;> with_reducible rfl) (by decide) (by repeat (first | exact Fin.base _ | with_reducible apply Fin.keep | apply Fin.drop)) ?_
      repeat (refine awp_seq ?_)
      refine awp_cond rfl (by simp only [LS, SS, SX, HS, mkS_cons, mkS_nil, ↓reduceIte, eq_self', List.map_nil, beq_self_eq_true, Nat.reduceEqDiff, Nat.reduceAdd, Nat.succ_ne_self, vint, TyS, TyF, TBS, TBF, DcS, DcF, SvS, SvF, PfS, PfF] <;> with_reducible rfl) (fun b1 => ?_) (fun b1 => ?_)
      · -- if t45
        have hm : t.kind ≠ p.kind ∨ t.id ≠ p.id ∨ t.args.length ≠ p.args.length := by simp at b1; omega
        have ho : occT ps t p = none := by rw [occT_eq, if_neg hq, if_pos hm]
        rw [ho]
        refine awp_sel [] (by simp only [LS, SS, SX, HS, mkS_cons, mkS_nil, ↓reduceIte, eq_self', List.map_nil, beq_self_eq_true, Nat.reduceEqDiff, Nat.reduceAdd, Nat.succ_ne_self, vint, TyS, TyF, TBS, TBF, DcS, DcF, SvS, SvF, PfS, PfF] <;> with_reducible rfl) ?_
        -- region 5
        repeat (refine awp_seq ?_)
        refine e_eval (by simp only [asq, as0, as1, as2, awanted, aop, LS, SS, SX, HS, mkS_cons, mkS_nil, ↓reduceIte, eq_self', List.map_nil, beq_self_eq_true, Nat.reduceEqDiff, Nat.reduceAdd, Nat.reduceMul, Nat.reduceLT, Nat.reduceLeDiff, Nat.reducePow, Nat.reduceDiv, Nat.reduceMod, Nat.succ_ne_self, Nat.reduceBEq, Nat.reduceBNe, vint, TyS, TyF, TBS, TBF, DcS, DcF, SvS, SvF, PfS, PfF] <;> with_reducible rfl) (by decide) ?_
        repeat (refine awp_seq ?_)
        -- leaf 1 ret
        refine awp_ret ⟨.inr rfl, _, (ares_three (.tmp 6) (.tmp 7) (.tmp 8) rfl (ares_tmp1 (by decide)) (ares_tmp1 (by decide)) (ares_tmp1 (by decide))), ?_⟩
        simp only [LS, SS, SX, HS, mkS_cons, mkS_nil, ↓reduceIte, eq_self', List.map_nil, beq_self_eq_true, Nat.reduceEqDiff, Nat.reduceAdd, Nat.succ_ne_self, vint, TyS, TyF, TBS, TBF, DcS, DcF, SvS, SvF, PfS, PfF]
        rfl
      · -- else t45
        have hm : ¬ (t.kind ≠ p.kind ∨ t.id ≠ p.id ∨ t.args.length ≠ p.args.length) := by simp at b1; omega
        have ho : occT ps t p = occL (t.args.zip (p.args.map fun u => fun a => occT ps a u)) := by rw [occT_eq, if_neg hq, if_neg hm]
        have hlen : t.args.length = p.args.length := by omega
        repeat (refine awp_seq ?_)
        refine awp_skip ?_
        refine awp_sel [2, 3, 4] (by simp only [LS, SS, SX, HS, mkS_cons, mkS_nil, ↓reduceIte, eq_self', List.map_nil, beq_self_eq_true, Nat.reduceEqDiff, Nat.reduceAdd, Nat.succ_ne_self, vint, TyS, TyF, TBS, TBF, DcS, DcF, SvS, SvF, PfS, PfF] <;> with_reducible rfl) ?_
        -- region 6
        repeat (refine awp_seq ?_)
        refine e_eval (by simp only [asq, as0, as1, as2, awanted, aop, LS, SS, SX, HS, mkS_cons, mkS_nil, ↓reduceIte, eq_self', List.map_nil, beq_self_eq_true, Nat.reduceEqDiff, Nat.reduceAdd, Nat.reduceMul, Nat.reduceLT, Nat.reduceLeDiff, Nat.reducePow, Nat.reduceDiv, Nat.reduceMod, Nat.succ_ne_self, Nat.reduceBEq, Nat.reduceBNe, vint, TyS, TyF, TBS, TBF, DcS, DcF, SvS, SvF, PfS, PfF] <;> with_reducible rfl) (by decide) ?_
        -- region 7
        repeat (refine awp_seq ?_)
        refine e_eval (by simp only [asq, as0, as1, as2, awanted, aop, LS, SS, SX, HS, mkS_cons, mkS_nil, ↓reduceIte, eq_self', List.map_nil, beq_self_eq_true, Nat.reduceEqDiff, Nat.reduceAdd, Nat.reduceMul, Nat.reduceLT, Nat.reduceLeDiff, Nat.reducePow, Nat.reduceDiv, Nat.reduceMod, Nat.succ_ne_self, Nat.reduceBEq, Nat.reduceBNe, vint, TyS, TyF, TBS, TBF, DcS, DcF, SvS, SvF, PfS, PfF] <;> with_reducible rfl) (by decide) ?_
        -- region 8
        repeat (refine awp_seq ?_)
        refine e_eval (by simp only [asq, as0, as1, as2, awanted, aop, afldAddr, ajust, aload, abuiltin, LS, SS, SX, HS, mkS_cons, mkS_nil, ↓reduceIte, eq_self', List.map_nil, beq_self_eq_true, Nat.reduceEqDiff, Nat.reduceAdd, Nat.reduceMul, Nat.reduceLT, Nat.reduceLeDiff, Nat.reducePow, Nat.reduceDiv, Nat.reduceMod, Nat.succ_ne_self, Nat.reduceBEq, Nat.reduceBNe, Tryti22, Tryte22, Trytz22, Trytp22, Tryti24, Trytf24, Trytz24, Trytp24, vint, TyS, TyF, TBS, TBF, DcS, DcF, SvS, SvF, PfS, PfF] <;> with_reducible rfl) (by decide) ?_
        repeat (refine awp_seq ?_)
        refine awp_retok 10 1 (es := []) (by simp only [LS, SS, SX, HS, mkS_cons, mkS_nil, ↓reduceIte, eq_self', List.map_nil, beq_self_eq_true, Nat.reduceEqDiff, Nat.reduceAdd, Nat.succ_ne_self, vint, TyS, TyF, TBS, TBF, DcS, DcF, SvS, SvF, PfS, PfF] <;> with_reducible rfl) ?_
        refine awp_retok 11 3 (es := []) (by simp only [LS, SS, SX, HS, mkS_cons, mkS_nil, ↓reduceIte, eq_self', List.map_nil, beq_self_eq_true, Nat.reduceEqDiff, Nat.reduceAdd, Nat.succ_ne_self, vint, TyS, TyF, TBS, TBF, DcS, DcF, SvS, SvF, PfS, PfF] <;> with_reducible rfl) ?_
        refine awp_forS (σ := Occ) (t.args.length) (fun (q : Occ) => [(2, .slice (ps.map vint) .none), (3, .optr 0 0), (4, .optr 1 0), (10, .slice ((occI q).map vint) (.tok 2)), (11, .slice ((occU q).map Ty.enc) (.tok 3))]) [2, 3, 4, 10, 11] ([]) (fun (q : Occ) => [.row t.enc.cells, .row p.enc.cells, .buf q.length 1, .buf q.length 3]) (fun (i : Nat) (q : Occ) => occL ((t.args.zip (p.args.map fun u => fun a => occT ps a u)).take i) = some q) ([]) ([]) rfl rfl rfl rfl rfl rfl rfl rfl rfl (by decide) (by decide) (by decide) (fun _ => rfl) (by rw [hlen]; exact hp.lenMax) ⟨(by first | rfl | (simp only [LS, SS, SX, HS, mkS_cons, mkS_nil, ↓reduceIte, eq_self', List.map_nil, beq_self_eq_true, Nat.reduceEqDiff, Nat.reduceAdd, Nat.succ_ne_self, vint, TyS, TyF, TBS, TBF, DcS, DcF, SvS, SvF, PfS, PfF] <;> first | done | with_reducible rfl)), (by first | rfl | (simp only [LS, SS, SX, HS, mkS_cons, mkS_nil, ↓reduceIte, eq_self', List.map_nil, beq_self_eq_true, Nat.reduceEqDiff, Nat.reduceAdd, Nat.succ_ne_self, vint, TyS, TyF, TBS, TBF, DcS, DcF, SvS, SvF, PfS, PfF] <;> first | done | with_reducible rfl)), (by first | rfl | (simp only [LS, SS, SX, HS, mkS_cons, mkS_nil, ↓reduceIte, eq_self', List.map_nil, beq_self_eq_true, Nat.reduceEqDiff, Nat.reduceAdd, Nat.succ_ne_self, vint, TyS, TyF, TBS, TBF, DcS, DcF, SvS, SvF, PfS, PfF] <;> first | done | with_reducible rfl)), (by first | rfl | (simp only [LS, SS, SX, HS, mkS_cons, mkS_nil, ↓reduceIte, eq_self', List.map_nil, beq_self_eq_true, Nat.reduceEqDiff, Nat.reduceAdd, Nat.succ_ne_self, vint, TyS, TyF, TBS, TBF, DcS, DcF, SvS, SvF, PfS, PfF] <;> first | done | with_reducible rfl)), (by first | rfl | (simp only [LS, SS, SX, HS, mkS_cons, mkS_nil, ↓reduceIte, eq_self', List.map_nil, beq_self_eq_true, Nat.reduceEqDiff, Nat.reduceAdd, Nat.succ_ne_self, vint, TyS, TyF, TBS, TBF, DcS, DcF, SvS, SvF, PfS, PfF] <;> first | done | with_reducible rfl)), (by first | rfl | (simp only [LS, SS, SX, HS, mkS_cons, mkS_nil, ↓reduceIte, eq_self', List.map_nil, beq_self_eq_true, Nat.reduceEqDiff, Nat.reduceAdd, Nat.succ_ne_self, vint, TyS, TyF, TBS, TBF, DcS, DcF, SvS, SvF, PfS, PfF] <;> first | done | with_reducible rfl)), (by first | rfl | (simp only [LS, SS, SX, HS, mkS_cons, mkS_nil, ↓reduceIte, eq_self', List.map_nil, beq_self_eq_true, Nat.reduceEqDiff, Nat.reduceAdd, Nat.succ_ne_self, vint, TyS, TyF, TBS, TBF, DcS, DcF, SvS, SvF, PfS, PfF] <;> first | done | with_reducible rfl)), trivial⟩ (by first | rfl | (simp only [LS, SS, SX, HS, mkS_cons, mkS_nil, ↓reduceIte, eq_self', List.map_nil, beq_self_eq_true, Nat.reduceEqDiff, Nat.reduceAdd, Nat.succ_ne_self, vint, TyS, TyF, TBS, TBF, DcS, DcF, SvS, SvF, PfS, PfF] <;> first | done | with_reducible rfl)) (by simp [occL]) (fun _ _ _ => by first | exact Nat.zero_le _ | (simp only [List.length_append]; omega)) ?_ ?_ ?_
        · exact fun i q hg => ⟨by simp only [TyS, List.nil_append, List.append_nil, List.cons_append]; repeat (first | exact hbel_nil _ | exact trivial | exact obel_row_nil _ | (refine HBel.cons ?_ ?_) | (refine obel_row_cons (by first | exact bel_int_tok _ (by simp) | exact bel_TB _ _ | exact TB.bel _ _ | exact bel_Dc _ _ | exact Dc.bel _ _ | exact Pf.bel _ _ | exact bel_Pf _ _ | exact Sv.bel _ _ | exact bel_Pf_tok _ (by simp) | exact bel_ints0 _ _ | exact bel_slice_ty _ _ | exact Ty.bel _ _ | exact bel_ty_tok _ (by simp) | exact Bel.int _ _ | exact Bel.bool _ | exact Bel.str _ | exact Bel.nilp | exact Bel.nilfn | exact Bel.optr _ _ (by simp) | exact bel_nil0 _ | exact bel_nil1 _ | exact bel_fn0 _ _ | assumption) ?_)), by repeat (first | exact BelL.nil | refine BelL.cons (by first | exact bel_int_tok _ (by simp) | exact bel_TB _ _ | exact TB.bel _ _ | exact bel_Dc _ _ | exact Dc.bel _ _ | exact Pf.bel _ _ | exact bel_Pf _ _ | exact Sv.bel _ _ | exact bel_Pf_tok _ (by simp) | exact bel_ints0 _ _ | exact bel_slice_ty _ _ | exact Ty.bel _ _ | exact bel_ty_tok _ (by simp) | exact Bel.int _ _ | exact Bel.bool _ | exact Bel.str _ | exact Bel.nilp | exact Bel.nilfn | exact Bel.optr _ _ (by simp) | exact bel_nil0 _ | exact bel_nil1 _ | exact bel_fn0 _ _ | assumption) ?_)⟩
        · intro i q hi hg
          have g1 := ix_nat hi
          have g2 := get_enc Ty.enc hi
          have hi2 : i < p.args.length := by omega
          have g3 := ix_nat hi2
          have g4 := get_enc Ty.enc hi2
          have hmem : p.args[i] ∈ p.args := List.getElem_mem hi2
          have hsa := Ty.size_arg hmem
          have hstep := occL_take t.args (p.args.map fun u => fun a => occT ps a u) i hi (by simpa using hi2)
          rw [hg, Option.bind_some, List.getElem_map] at hstep
          have hql : q.length ≤ Ty.sizes (p.args.take i) := by
            refine occL_len (t.args.take i) (p.args.take i) ((p.args.map fun u => fun a => occT ps a u).take i) q (by simp) (fun j h1 h2 a l e => ?_) (by rw [List.zip_eq_zipWith, ← List.take_zipWith, ← List.zip_eq_zipWith]; exact hg)
            simp only [List.getElem_take, List.getElem_map] at e
            exact occT_len ps _ a l (by simpa using e)
          obtain ⟨a, hae⟩ : ∃ a, t.args[i] = a := ⟨_, rfl⟩
          obtain ⟨u, hue⟩ : ∃ u, p.args[i] = u := ⟨_, rfl⟩
          have huw := hp.arg hmem
          have hsz : Ty.sizes (p.args.take i) + u.size ≤ Ty.sizes p.args := sizes_take hi2 hue
          rw [hae, hue] at hstep
          rw [hae] at g2
          rw [hue] at g4 hsa huw
          -- region 10
          repeat (refine awp_seq ?_)
          refine e_eval (by simp only [asq, as0, as1, as2, awanted, aop, LS, SS, SX, HS, mkS_cons, mkS_nil, ↓reduceIte, eq_self', List.map_nil, beq_self_eq_true, Nat.reduceEqDiff, Nat.reduceAdd, Nat.reduceMul, Nat.reduceLT, Nat.reduceLeDiff, Nat.reducePow, Nat.reduceDiv, Nat.reduceMod, Nat.succ_ne_self, Nat.reduceBEq, Nat.reduceBNe, vint, TyS, TyF, TBS, TBF, DcS, DcF, SvS, SvF, PfS, PfF, g1, g2, g3, g4, Int.toNat_natCast] <;> with_reducible rfl) (by decide) ?_
          -- region 11
          repeat (refine awp_seq ?_)
          refine awp_draw 0 (by kernel_rfl) ?_
          refine d_take (bm := [0, 1, 0, 7, 15, 0, 32, 0, 224, 480, 0, 2047, 4095, 8191, 8191, 8191, 16383, 98303, 262143]) 11 (fresh := 0) (by kernel_rfl) (by simp only [dsq, ds0, ds1, ds2, ds3, awanted, hapB, effIds, effSet, nextFresh, ard, freshOk, isUnborn, aop, afldAddr, ajust, aload, aidxAddr, aidx, LS, SS, SX, HS, mkS_cons, mkS_nil, ↓reduceIte, eq_self', List.map_nil, beq_self_eq_true, Nat.reduceEqDiff, Nat.reduceAdd, Nat.reduceMul, Nat.reduceLT, Nat.reduceLeDiff, Nat.reducePow, Nat.reduceDiv, Nat.reduceMod, Nat.succ_ne_self, Nat.reduceBEq, Nat.reduceBNe, Tryti22, Tryte22, Trytz22, Trytp22, Tryti24, Trytf24, Trytz24, Trytp24, vint, TyS, TyF, TBS, TBF, DcS, DcF, SvS, SvF, PfS, PfF, g1, g2, g3, g4, Int.toNat_natCast] <;> with_reducible rfl) (by decide) (by decide) ?_
          refine dops_keep (bm := [0, 1, 0, 7, 15, 0, 32, 0, 224, 480, 0, 2047, 4095, 8191, 8191, 8191, 16383, 98303, 262143]) ([]) (by kernel_rfl) (by simp only [acall, awanted, LS, SS, SX, HS, mkS_cons, mkS_nil, ↓reduceIte, eq_self', List.map_nil, beq_self_eq_true, Nat.reduceEqDiff, Nat.reduceAdd, Nat.reduceMul, Nat.reduceLT, Nat.reduceLeDiff, Nat.reducePow, Nat.reduceDiv, Nat.reduceMod, Nat.succ_ne_self, Nat.reduceBEq, Nat.reduceBNe, vint, TyS, TyF, TBS, TBF, DcS, DcF, SvS, SvF, PfS, PfF, g1, g2, g3, g4, Int.toNat_natCast] <;> with_reducible rfl) (by simp only [acall, awanted, LS, SS, SX, HS, mkS_cons, mkS_nil, ↓reduceIte, eq_self', List.map_nil, beq_self_eq_true, Nat.reduceEqDiff, Nat.reduceAdd, Nat.reduceMul, Nat.reduceLT, Nat.reduceLeDiff, Nat.reducePow, Nat.reduceDiv, Nat.reduceMod, Nat.succ_ne_self, Nat.reduceBEq, Nat.reduceBNe, vint, TyS, TyF, TBS, TBF, DcS, DcF, SvS, SvF, PfS, PfF, g1, g2, g3, g4, Int.toNat_natCast]) (by decide) Trygo130 (fun H' _ => occ_k ps hx k u a (by omega) huw (by omega) H') (by simp only [dsq, ds0, ds1, ds2, ds3, awanted, hapB, effIds, effSet, nextFresh, ard, freshOk, isUnborn, aop, LS, SS, SX, HS, mkS_cons, mkS_nil, ↓reduceIte, eq_self', List.map_nil, beq_self_eq_true, Nat.reduceEqDiff, Nat.reduceAdd, Nat.reduceMul, Nat.reduceLT, Nat.reduceLeDiff, Nat.reducePow, Nat.reduceDiv, Nat.reduceMod, Nat.succ_ne_self, Nat.reduceBEq, Nat.reduceBNe, vint, TyS, TyF, TBS, TBF, DcS, DcF, SvS, SvF, PfS, PfF, g1, g2, g3, g4, Int.toNat_natCast] <;> first | done | rfl) ?_
          refine d_end (bm := [0, 1, 0, 7, 15, 0, 32, 0, 224, 480, 0, 2047, 4095, 8191, 8191, 8191, 16383, 98303, 262143]) (fresh := 0) (by kernel_rfl) (by simp only [dsq, ds0, ds1, ds2, ds3, awanted, hapB, effIds, effSet, nextFresh, ard, freshOk, isUnborn, aop, ajust, LS, SS, SX, HS, mkS_cons, mkS_nil, ↓reduceIte, eq_self', List.map_nil, beq_self_eq_true, Nat.reduceEqDiff, Nat.reduceAdd, Nat.reduceMul, Nat.reduceLT, Nat.reduceLeDiff, Nat.reducePow, Nat.reduceDiv, Nat.reduceMod, Nat.succ_ne_self, Nat.reduceBEq, Nat.reduceBNe, vint, TyS, TyF, TBS, TBF, DcS, DcF, SvS, SvF, PfS, PfF, g1, g2, g3, g4, Int.toNat_natCast] <;> with_reducible rfl) (by decide) ?_
          refine awp_sel [2, 3, 4, 10, 11, 13, 14, 15, 48, 49] (by simp only [LS, SS, SX, HS, mkS_cons, mkS_nil, ↓reduceIte, eq_self', List.map_nil, beq_self_eq_true, Nat.reduceEqDiff, Nat.reduceAdd, Nat.succ_ne_self, vint, TyS, TyF, TBS, TBF, DcS, DcF, SvS, SvF, PfS, PfF, g1, g2, g3, g4, Int.toNat_natCast] <;> with_reducible rfl) ?_
          -- region 12
          repeat (refine awp_seq ?_)
          refine e_eval (by simp only [asq, as0, as1, as2, awanted, aop, aun, ajust, LS, SS, SX, HS, mkS_cons, mkS_nil, ↓reduceIte, eq_self', List.map_nil, beq_self_eq_true, Nat.reduceEqDiff, Nat.reduceAdd, Nat.reduceMul, Nat.reduceLT, Nat.reduceLeDiff, Nat.reducePow, Nat.reduceDiv, Nat.reduceMod, Nat.succ_ne_self, Nat.reduceBEq, Nat.reduceBNe, vint, TyS, TyF, TBS, TBF, DcS, DcF, SvS, SvF, PfS, PfF, g1, g2, g3, g4, Int.toNat_natCast] <;> with_reducible rfl) (by decide) ?_
          repeat (refine awp_seq ?_)
          refine awp_cond rfl (by simp only [LS, SS, SX, HS, mkS_cons, mkS_nil, ↓reduceIte, eq_self', List.map_nil, beq_self_eq_true, Nat.reduceEqDiff, Nat.reduceAdd, Nat.succ_ne_self, vint, TyS, TyF, TBS, TBF, DcS, DcF, SvS, SvF, PfS, PfF, g1, g2, g3, g4, Int.toNat_natCast] <;> with_reducible rfl) (fun b2 => ?_) (fun b2 => ?_)
          · -- if t69
            have hn : occT ps a u = none := by simpa using b2
            have ho2 : occT ps t p = none := by
              rw [ho]; refine occL_none t.args (p.args.map fun u => fun a => occT ps a u) (i + 1) ?_
              rw [hstep, hn]; rfl
            rw [ho2]
            -- region 13
            repeat (refine awp_seq ?_)
            refine e_eval (by simp only [asq, as0, as1, as2, awanted, aop, LS, SS, SX, HS, mkS_cons, mkS_nil, ↓reduceIte, eq_self', List.map_nil, beq_self_eq_true, Nat.reduceEqDiff, Nat.reduceAdd, Nat.reduceMul, Nat.reduceLT, Nat.reduceLeDiff, Nat.reducePow, Nat.reduceDiv, Nat.reduceMod, Nat.succ_ne_self, Nat.reduceBEq, Nat.reduceBNe, vint, TyS, TyF, TBS, TBF, DcS, DcF, SvS, SvF, PfS, PfF, g1, g2, g3, g4, Int.toNat_natCast] <;> with_reducible rfl) (by decide) ?_
            repeat (refine awp_seq ?_)
            -- leaf 2 ret
            refine awp_ret ⟨.inr rfl, _, (ares_three (.tmp 6) (.tmp 7) (.tmp 8) rfl (ares_tmp1 (by decide)) (ares_tmp1 (by decide)) (ares_tmp1 (by decide))), ?_⟩
            simp only [LS, SS, SX, HS, mkS_cons, mkS_nil, ↓reduceIte, eq_self', List.map_nil, beq_self_eq_true, Nat.reduceEqDiff, Nat.reduceAdd, Nat.succ_ne_self, vint, TyS, TyF, TBS, TBF, DcS, DcF, SvS, SvF, PfS, PfF]
            rfl
          · -- else t69
            obtain ⟨l, hl⟩ : ∃ l, occT ps a u = some l := by
              cases hz : occT ps a u with
              | none => rw [hz] at b2; simp at b2
              | some l => exact ⟨l, rfl⟩
            have hll := occT_len ps u a l hl
            rw [hl, Option.map_some] at hstep
            repeat (refine awp_seq ?_)
            refine awp_skip ?_
            rcases Classical.em (l = []) with hle | hle
            · -- case
              subst hle
              have hOI : occI [] = [] := rfl
              have hOU : occU [] = [] := rfl
              rw [List.append_nil] at hstep
              -- region 14
              repeat (refine awp_seq ?_)
              refine e_eval (by simp only [asq, as0, as1, as2, awanted, aop, abuiltin, LS, SS, SX, HS, mkS_cons, mkS_nil, ↓reduceIte, eq_self', List.map_nil, beq_self_eq_true, Nat.reduceEqDiff, Nat.reduceAdd, Nat.reduceMul, Nat.reduceLT, Nat.reduceLeDiff, Nat.reducePow, Nat.reduceDiv, Nat.reduceMod, Nat.succ_ne_self, Nat.reduceBEq, Nat.reduceBNe, Tryti3, Trytz3, Trytp3, Trytk3, Tryti22, Tryte22, Trytz22, Trytp22, Tryti24, Trytf24, Trytz24, Trytp24, Tryti25, Tryte25, Trytz25, Trytp25, vint, TyS, TyF, TBS, TBF, DcS, DcF, SvS, SvF, PfS, PfF, g1, g2, g3, g4, Int.toNat_natCast, hl, Option.getD_some, hOI, hOU, List.map_nil, ap0] <;> with_reducible rfl) (by decide) ?_
              -- leaf 3 next0
              exact ⟨⟨rfl, rfl, trivial⟩, q, _, ⟨rfl, rfl, rfl, rfl, rfl, trivial⟩, by simp only [LS, SS, SX, HS, mkS_cons, mkS_nil, ↓reduceIte, eq_self', List.map_nil, beq_self_eq_true, Nat.reduceEqDiff, Nat.reduceAdd, Nat.succ_ne_self, vint, TyS, TyF, TBS, TBF, DcS, DcF, SvS, SvF, PfS, PfF] <;> rfl, hstep⟩
            · -- case
              have ap1 := app_ints (us := occI q) (vs := occI l) (id := 2) (by simpa [occI] using hle) (by simp [occI]; omega)
              have ap2 := app_tys (us := occU q) (vs := occU l) (id := 3) (by simpa [occU] using hle) (by simp [occU]; omega)
              have hI : (occI q).length = q.length := by simp [occI]
              have hU : (occU q).length = q.length := by simp [occU]
              have hI2 : (occI l).length = l.length := by simp [occI]
              have hU2 : (occU l).length = l.length := by simp [occU]
              rw [hI, hI2] at ap1
              rw [hU, hU2] at ap2
              -- region 14
              repeat (refine awp_seq ?_)
              refine e_eval (by simp only [asq, as0, as1, as2, awanted, aop, abuiltin, LS, SS, SX, HS, mkS_cons, mkS_nil, ↓reduceIte, eq_self', List.map_nil, beq_self_eq_true, Nat.reduceEqDiff, Nat.reduceAdd, Nat.reduceMul, Nat.reduceLT, Nat.reduceLeDiff, Nat.reducePow, Nat.reduceDiv, Nat.reduceMod, Nat.succ_ne_self, Nat.reduceBEq, Nat.reduceBNe, Tryti3, Trytz3, Trytp3, Trytk3, Tryti22, Tryte22, Trytz22, Trytp22, Tryti24, Trytf24, Trytz24, Trytp24, Tryti25, Tryte25, Trytz25, Trytp25, vint, TyS, TyF, TBS, TBF, DcS, DcF, SvS, SvF, PfS, PfF, g1, g2, g3, g4, Int.toNat_natCast, hl, Option.getD_some, ap1, ap2] <;> with_reducible rfl) (by decide) ?_
              -- leaf 4 next0
              exact ⟨⟨rfl, rfl, trivial⟩, q ++ l, _, ⟨rfl, rfl, rfl, by simp [occI, upd_apply], by simp [occU, upd_apply], trivial⟩, by simp only [LS, SS, SX, HS, mkS_cons, mkS_nil, ↓reduceIte, eq_self', List.map_nil, beq_self_eq_true, Nat.reduceEqDiff, Nat.reduceAdd, Nat.succ_ne_self, vint, TyS, TyF, TBS, TBF, DcS, DcF, SvS, SvF, PfS, PfF, occI, occU, List.length_append, List.length_map] <;> rfl, hstep⟩
        · intro q hg
          rw [List.take_of_length_le (by simp; omega)] at hg
          rw [ho, hg]
          -- region 16
          repeat (refine awp_seq ?_)
          refine e_eval (by simp only [asq, as0, as1, as2, awanted, aop, LS, SS, SX, HS, mkS_cons, mkS_nil, ↓reduceIte, eq_self', List.map_nil, beq_self_eq_true, Nat.reduceEqDiff, Nat.reduceAdd, Nat.reduceMul, Nat.reduceLT, Nat.reduceLeDiff, Nat.reducePow, Nat.reduceDiv, Nat.reduceMod, Nat.succ_ne_self, Nat.reduceBEq, Nat.reduceBNe, vint, TyS, TyF, TBS, TBF, DcS, DcF, SvS, SvF, PfS, PfF] <;> with_reducible rfl) (by decide) ?_
          repeat (refine awp_seq ?_)
          -- leaf 5 ret
          refine awp_ret ⟨.inr rfl, _, (ares_three (.tmp 6) (.tmp 7) (.tmp 8) rfl (ares_tmp1 (by decide)) (ares_tmp1 (by decide)) (ares_tmp1 (by decide))), ?_⟩
          simp only [LS, SS, SX, HS, mkS_cons, mkS_nil, ↓reduceIte, eq_self', List.map_nil, beq_self_eq_true, Nat.reduceEqDiff, Nat.reduceAdd, Nat.succ_ne_self, vint, TyS, TyF, TBS, TBF, DcS, DcF, SvS, SvF, PfS, PfF, Option.getD_some, Option.isSome_some]

end Go.Abs
set_option linter.unusedVariables false
set_option linter.unusedSimpArgs false
set_option maxRecDepth 4000
namespace Go.Abs
open Go.Proofs

theorem firstI_take {l : Occ} {k : Nat} (hk : k < l.length) (i : Int) : firstI (l.take (k + 1)) i = (firstI (l.take k) i).or (if l[k].1 = i then some l[k].2 else none) := by
  rw [List.take_succ_eq_append_getElem hk, firstI_app]
  congr 1
  by_cases h : l[k].1 = i <;> simp [firstI, h]
theorem firstI_mono {l : Occ} {k : Nat} {i : Int} {u : Ty} (h : firstI (l.take k) i = some u) : firstI l i = some u := by
  have := List.take_append_drop k l
  rw [← this, firstI_app, h]; rfl
theorem firstI_W {l : Occ} (hw : ∀ x ∈ l, x.2.W) (i : Int) : ((firstI l i).getD .zero).W := by
  unfold firstI
  cases h : l.find? fun x => decide (x.1 = i) with
  | none => simp [Ty.zero, Ty.W_iff]
  | some x => exact hw x (List.mem_of_find?_eq_some h)
theorem occL_W : ∀ (ts : List Ty) (gs : List (Ty → Option Occ)) (l : Occ), (∀ t ∈ ts, t.W) → (∀ g ∈ gs, ∀ a q, a.W → g a = some q → ∀ x ∈ q, x.2.W) → occL (ts.zip gs) = some l → ∀ x ∈ l, x.2.W
  | [], gs, l, _, _, h => by simp [occL] at h; subst h; simp
  | t :: ts, [], l, _, _, h => by simp [occL] at h; subst h; simp
  | t :: ts, g :: gs, l, ht, hg, h => by
    simp only [List.zip_cons_cons, occL] at h
    cases hq : g t with
    | none => rw [hq] at h; cases h
    | some q =>
      rw [hq] at h
      simp only [Option.map_eq_some_iff] at h
      obtain ⟨r, hr, rfl⟩ := h
      intro x hx
      rcases List.mem_append.1 hx with hx | hx
      · exact hg g (by simp) t q (ht t (by simp)) hq x hx
      · exact occL_W ts gs r (fun t h => ht t (by simp [h])) (fun g h => hg g (by simp [h])) hr x hx
theorem occT_W (ps : List Int) : ∀ (p t : Ty) (l : Occ), t.W → occT ps t p = some l → ∀ x ∈ l, x.2.W
  | .mk pk pi us, t, l, ht, h => by
    rw [occT] at h
    split at h
    · cases h; simp [ht]
    · split at h
      · cases h
      · refine occL_W t.args _ l (fun a ha => ht.arg ha) (fun g hg a q ha e => ?_) h
        obtain ⟨u, hu, rfl⟩ := List.mem_map.1 hg
        exact occT_W ps u a q ha e
theorem getI {l : Occ} {j : Nat} (hj : j < l.length) : ((occI l).map vint)[j]? = some (vint l[j].1) := by simp [occI, hj]
theorem getU {l : Occ} {j : Nat} (hj : j < l.length) : ((occU l).map Ty.enc)[j]? = some l[j].2.enc := by simp [occU, hj]
theorem lenI (l : Occ) : (occI l).length = l.length := by simp [occI]
theorem lenU (l : Occ) : (occU l).length = l.length := by simp [occU]
theorem zeroS : Ty.zero.kind = 0 ∧ Ty.zero.id = 0 ∧ Ty.zero.args = [] := ⟨rfl, rfl, rfl⟩
theorem mem_take_succ {α : Type} {l : List α} {j : Nat} (hj : j < l.length) {y : α} (h : y ∈ l.take (j + 1)) : y ∈ l.take j ∨ y = l[j] := by
  rw [List.take_succ_eq_append_getElem hj] at h
  rcases List.mem_append.1 h with h | h
  · exact .inl h
  · exact .inr (List.mem_singleton.1 h)

theorem refM_c (ps : List Int) (t p : Ty) (hx : ps.length * 40 ≤ 2 ^ 47) (ht : t.W) (hp : p.W) (hb : p.size * 40 ≤ 2 ^ 47) : PC Try.prog 103 [t.enc, p.enc, .slice (ps.map vint) .none] (.tup [.slice ((matchP ps t p).1.map Ty.enc) .none, .bool (matchP ps t p).2]) := by
  have em : maxLen = 9223372036854775807 := by decide
  rw [← refM_eq]
  refine pc_of (N := 66) Try.func103 rfl rfl (by simp) (by simp [Ty.bel, bel_ints0]) (.tup _ (by simp [bel_slice_ty, Bel.bool])) ?_
  -- region 0
  repeat (refine awp_seq ?_)
  refine e_eval (by simp only [asq, as0, as1, as2, awanted, aop, LS, SS, SX, HS, mkS_cons, mkS_nil, ↓reduceIte, eq_self', List.map_nil, beq_self_eq_true, Nat.reduceEqDiff, Nat.reduceAdd, Nat.reduceMul, Nat.reduceLT, Nat.reduceLeDiff, Nat.reducePow, Nat.reduceDiv, Nat.reduceMod, Nat.succ_ne_self, Nat.reduceBEq, Nat.reduceBNe, Tryti24, Trytf24, Trytz24, Trytp24, vint, TyS, TyF, TBS, TBF, DcS, DcF, SvS, SvF, PfS, PfF, lenI, lenU, zeroS, Option.getD_none, Option.getD_some, Option.isSome_none, Option.isSome_some] <;> with_reducible rfl) (by decide) ?_
  -- region 1
  repeat (refine awp_seq ?_)
  refine awp_region ?_
  refine e_take 3 (by simp only [asq, as0, as1, as2, awanted, aop, aload, ajust, LS, SS, SX, HS, mkS_cons, mkS_nil, ↓reduceIte, eq_self', List.map_nil, beq_self_eq_true, Nat.reduceEqDiff, Nat.reduceAdd, Nat.reduceMul, Nat.reduceLT, Nat.reduceLeDiff, Nat.reducePow, Nat.reduceDiv, Nat.reduceMod, Nat.succ_ne_self, Nat.reduceBEq, Nat.reduceBNe, Tryti24, Trytf24, Trytz24, Trytp24, vint, TyS, TyF, TBS, TBF, DcS, DcF, SvS, SvF, PfS, PfF, lenI, lenU, zeroS, Option.getD_none, Option.getD_some, Option.isSome_none, Option.isSome_some] <;> with_reducible rfl) (by decide) ?_
  refine aops_pure (by simp only [acall, awanted, LS, SS, SX, HS, mkS_cons, mkS_nil, ↓reduceIte, eq_self', List.map_nil, beq_self_eq_true, Nat.reduceEqDiff, Nat.reduceAdd, Nat.reduceMul, Nat.reduceLT, Nat.reduceLeDiff, Nat.reducePow, Nat.reduceDiv, Nat.reduceMod, Nat.succ_ne_self, Nat.reduceBEq, Nat.reduceBNe, vint, TyS, TyF, TBS, TBF, DcS, DcF, SvS, SvF, PfS, PfF, lenI, lenU, zeroS, Option.getD_none, Option.getD_some, Option.isSome_none, Option.isSome_some] <;> with_reducible rfl) (by simp only [acall, awanted, LS, SS, SX, HS, mkS_cons, mkS_nil, ↓reduceIte, eq_self', List.map_nil, beq_self_eq_true, Nat.reduceEqDiff, Nat.reduceAdd, Nat.reduceMul, Nat.reduceLT, Nat.reduceLeDiff, Nat.reducePow, Nat.reduceDiv, Nat.reduceMod, Nat.succ_ne_self, Nat.reduceBEq, Nat.reduceBNe, vint, TyS, TyF, TBS, TBF, DcS, DcF, SvS, SvF, PfS, PfF, lenI, lenU, zeroS, Option.getD_none, Option.getD_some, Option.isSome_none, Option.isSome_some]) (by decide) Trygo130 (occ_k ps (by omega) _ p t (Nat.le_refl _) hp hb _) ?_
  refine e_end (by simp only [asq, as0, as1, as2, awanted, aop, ajust, LS, SS, SX, HS, mkS_cons, mkS_nil, ↓reduceIte, eq_self', List.map_nil, beq_self_eq_true, Nat.reduceEqDiff, Nat.reduceAdd, Nat.reduceMul, Nat.reduceLT, Nat.reduceLeDiff, Nat.reducePow, Nat.reduceDiv, Nat.reduceMod, Nat.succ_ne_self, Nat.reduceBEq, Nat.reduceBNe, vint, TyS, TyF, TBS, TBF, DcS, DcF, SvS, SvF, PfS, PfF, lenI, lenU, zeroS, Option.getD_none, Option.getD_some, Option.isSome_none, Option.isSome_some] <;> with_reducible rfl) (by decide) ?_
  refine awp_sel [2, 8, 9, 10] (by simp only [LS, SS, SX, HS, mkS_cons, mkS_nil, ↓reduceIte, eq_self', List.map_nil, beq_self_eq_true, Nat.reduceEqDiff, Nat.reduceAdd, Nat.succ_ne_self, vint, TyS, TyF, TBS, TBF, DcS, DcF, SvS, SvF, PfS, PfF, lenI, lenU, zeroS, Option.getD_none, Option.getD_some, Option.isSome_none, Option.isSome_some] <;> with_reducible rfl) ?_
  -- region 2
  repeat (refine awp_seq ?_)
  refine e_eval (by simp only [asq, as0, as1, as2, awanted, aop, aun, ajust, LS, SS, SX, HS, mkS_cons, mkS_nil, ↓reduceIte, eq_self', List.map_nil, beq_self_eq_true, Nat.reduceEqDiff, Nat.reduceAdd, Nat.reduceMul, Nat.reduceLT, Nat.reduceLeDiff, Nat.reducePow, Nat.reduceDiv, Nat.reduceMod, Nat.succ_ne_self, Nat.reduceBEq, Nat.reduceBNe, vint, TyS, TyF, TBS, TBF, DcS, DcF, SvS, SvF, PfS, PfF, lenI, lenU, zeroS, Option.getD_none, Option.getD_some, Option.isSome_none, Option.isSome_some] <;> with_reducible rfl) (by decide) ?_
  repeat (refine awp_seq ?_)
  refine awp_cond rfl (by simp only [LS, SS, SX, HS, mkS_cons, mkS_nil, ↓reduceIte, eq_self', List.map_nil, beq_self_eq_true, Nat.reduceEqDiff, Nat.reduceAdd, Nat.succ_ne_self, vint, TyS, TyF, TBS, TBF, DcS, DcF, SvS, SvF, PfS, PfF, lenI, lenU, zeroS, Option.getD_none, Option.getD_some, Option.isSome_none, Option.isSome_some] <;> with_reducible rfl) (fun b0 => ?_) (fun b0 => ?_)
  · -- if t26
    have hn : occT ps t p = none := by simpa using b0
    have hr : refM ps t p = ([], false) := by unfold refM; rw [hn]
    rw [hr]
    -- region 3
    repeat (refine awp_seq ?_)
    refine e_eval (by simp only [asq, as0, as1, as2, awanted, aop, LS, SS, SX, HS, mkS_cons, mkS_nil, ↓reduceIte, eq_self', List.map_nil, beq_self_eq_true, Nat.reduceEqDiff, Nat.reduceAdd, Nat.reduceMul, Nat.reduceLT, Nat.reduceLeDiff, Nat.reducePow, Nat.reduceDiv, Nat.reduceMod, Nat.succ_ne_self, Nat.reduceBEq, Nat.reduceBNe, vint, TyS, TyF, TBS, TBF, DcS, DcF, SvS, SvF, PfS, PfF, lenI, lenU, zeroS, Option.getD_none, Option.getD_some, Option.isSome_none, Option.isSome_some] <;> with_reducible rfl) (by decide) ?_
    repeat (refine awp_seq ?_)
    -- leaf 0 ret
    refine awp_ret ⟨.inr rfl, _, (ares_two (.tmp 6) (.tmp 7) rfl (ares_tmp1 (by decide)) (ares_tmp1 (by decide))), ?_⟩
    simp only [LS, SS, SX, HS, mkS_cons, mkS_nil, ↓reduceIte, eq_self', List.map_nil, beq_self_eq_true, Nat.reduceEqDiff, Nat.reduceAdd, Nat.succ_ne_self, vint, TyS, TyF, TBS, TBF, DcS, DcF, SvS, SvF, PfS, PfF]
  · -- else t26
    obtain ⟨l, hl⟩ : ∃ l, occT ps t p = some l := by
      cases hz : occT ps t p with
      | none => rw [hz] at b0; simp at b0
      | some l => exact ⟨l, rfl⟩
    have hr : refM ps t p = if ((List.range ps.length).all fun (j : Nat) => consI l (j : Int)) = true then ((List.range ps.length).map fun (j : Nat) => (firstI l (j : Int)).getD .zero, true) else ([], false) := by unfold refM; rw [hl]
    have hll := occT_len ps p t l hl
    have hlw := occT_W ps p t l ht hl
    have hg0 : (occT ps t p).getD [] = l := by rw [hl]; rfl
    rw [hr]
    repeat (refine awp_seq ?_)
    refine awp_skip ?_
    -- region 4
    repeat (refine awp_seq ?_)
    refine awp_fix [(2, .slice (ps.map vint) .none), (8, .slice ((occI l).map vint) .none), (9, .slice ((occU l).map Ty.enc) .none)] ⟨rfl, by rw [← hg0]; rfl, by rw [← hg0]; rfl, trivial⟩ (L := []) (List.append_nil _).symm (Nat.zero_le _) (by simp only [LS, SS, SX, HS, mkS_cons, mkS_nil, ↓reduceIte, eq_self', List.map_nil, beq_self_eq_true, Nat.reduceEqDiff, Nat.reduceAdd, Nat.succ_ne_self, vint, TyS, TyF, TBS, TBF, DcS, DcF, SvS, SvF, PfS, PfF, TyS]; repeat (first | exact hbel_nil _ | exact trivial | exact obel_row_nil _ | (refine HBel.cons ?_ ?_) | (refine obel_row_cons (by first | exact bel_int_tok _ (by simp) | exact bel_TB _ _ | exact TB.bel _ _ | exact bel_Dc _ _ | exact Dc.bel _ _ | exact Pf.bel _ _ | exact bel_Pf _ _ | exact Sv.bel _ _ | exact bel_Pf_tok _ (by simp) | exact bel_ints0 _ _ | exact bel_slice_ty _ _ | exact Ty.bel _ _ | exact bel_ty_tok _ (by simp) | exact Bel.int _ _ | exact Bel.bool _ | exact Bel.str _ | exact Bel.nilp | exact Bel.nilfn | exact Bel.optr _ _ (by simp) | exact bel_nil0 _ | exact bel_nil1 _ | exact bel_fn0 _ _ | assumption) ?_))) (by repeat (first | exact BelL.nil | refine BelL.cons (by first | exact bel_int_tok _ (by simp) | exact bel_TB _ _ | exact TB.bel _ _ | exact bel_Dc _ _ | exact Dc.bel _ _ | exact Pf.bel _ _ | exact bel_Pf _ _ | exact Sv.bel _ _ | exact bel_Pf_tok _ (by simp) | exact bel_ints0 _ _ | exact bel_slice_ty _ _ | exact Ty.bel _ _ | exact bel_ty_tok _ (by simp) | exact Bel.int _ _ | exact Bel.bool _ | exact Bel.str _ | exact Bel.nilp | exact Bel.nilfn | exact Bel.optr _ _ (by simp) | exact bel_nil0 _ | exact bel_nil1 _ | exact bel_fn0 _ _ | assumption) ?_)) ?_
    refine e_eval (by simp only [asq, as0, as1, as2, awanted, aop, LS, SS, SX, HS, mkS_cons, mkS_nil, ↓reduceIte, eq_self', List.map_nil, beq_self_eq_true, Nat.reduceEqDiff, Nat.reduceAdd, Nat.reduceMul, Nat.reduceLT, Nat.reduceLeDiff, Nat.reducePow, Nat.reduceDiv, Nat.reduceMod, Nat.succ_ne_self, Nat.reduceBEq, Nat.reduceBNe, vint, TyS, TyF, TBS, TBF, DcS, DcF, SvS, SvF, PfS, PfF, lenI, lenU, zeroS, Option.getD_none, Option.getD_some, Option.isSome_none, Option.isSome_some] <;> with_reducible rfl) (by decide) ?_
    -- region 5
    repeat (refine awp_seq ?_)
    refine e_eval (by simp only [asq, as0, as1, as2, awanted, aop, abuiltin, LS, SS, SX, HS, mkS_cons, mkS_nil, ↓reduceIte, eq_self', List.map_nil, beq_self_eq_true, Nat.reduceEqDiff, Nat.reduceAdd, Nat.reduceMul, Nat.reduceLT, Nat.reduceLeDiff, Nat.reducePow, Nat.reduceDiv, Nat.reduceMod, Nat.succ_ne_self, Nat.reduceBEq, Nat.reduceBNe, Tryti3, Trytz3, Trytp3, Trytk3, Tryti25, Tryte25, Trytz25, Trytp25, vint, TyS, TyF, TBS, TBF, DcS, DcF, SvS, SvF, PfS, PfF, lenI, lenU, zeroS, Option.getD_none, Option.getD_some, Option.isSome_none, Option.isSome_some] <;> with_reducible rfl) (by decide) ?_
    repeat (refine awp_seq ?_)
    refine awp_retok 11 3 (es := []) (by simp only [LS, SS, SX, HS, mkS_cons, mkS_nil, ↓reduceIte, eq_self', List.map_nil, beq_self_eq_true, Nat.reduceEqDiff, Nat.reduceAdd, Nat.succ_ne_self, vint, TyS, TyF, TBS, TBF, DcS, DcF, SvS, SvF, PfS, PfF] <;> with_reducible rfl) ?_
    refine awp_forS (σ := List Ty) (ps.length) (fun (r : List Ty) => [(8, .slice ((occI l).map vint) .none), (9, .slice ((occU l).map Ty.enc) .none), (11, .slice (r.map Ty.enc) (.tok 2)), (27, .slice (ps.map vint) .none)]) [8, 9, 11, 27] ([]) (fun (r : List Ty) => [.row t.enc.cells, .row p.enc.cells, .buf r.length 3]) (fun (i : Nat) (r : List Ty) => r = (List.range i).map (fun (j : Nat) => (firstI l (j : Int)).getD .zero) ∧ ∀ j : Nat, j < i → consI l (j : Int) = true) ([]) ([]) rfl rfl rfl rfl rfl rfl rfl rfl rfl (by decide) (by decide) (by decide) (fun _ => rfl) (by omega) ⟨(by first | rfl | (simp only [LS, SS, SX, HS, mkS_cons, mkS_nil, ↓reduceIte, eq_self', List.map_nil, beq_self_eq_true, Nat.reduceEqDiff, Nat.reduceAdd, Nat.succ_ne_self, vint, TyS, TyF, TBS, TBF, DcS, DcF, SvS, SvF, PfS, PfF, lenI, lenU, zeroS, Option.getD_none, Option.getD_some, Option.isSome_none, Option.isSome_some] <;> first | done | with_reducible rfl)), (by first | rfl | (simp only [LS, SS, SX, HS, mkS_cons, mkS_nil, ↓reduceIte, eq_self', List.map_nil, beq_self_eq_true, Nat.reduceEqDiff, Nat.reduceAdd, Nat.succ_ne_self, vint, TyS, TyF, TBS, TBF, DcS, DcF, SvS, SvF, PfS, PfF, lenI, lenU, zeroS, Option.getD_none, Option.getD_some, Option.isSome_none, Option.isSome_some] <;> first | done | with_reducible rfl)), (by first | rfl | (simp only [LS, SS, SX, HS, mkS_cons, mkS_nil, ↓reduceIte, eq_self', List.map_nil, beq_self_eq_true, Nat.reduceEqDiff, Nat.reduceAdd, Nat.succ_ne_self, vint, TyS, TyF, TBS, TBF, DcS, DcF, SvS, SvF, PfS, PfF, lenI, lenU, zeroS, Option.getD_none, Option.getD_some, Option.isSome_none, Option.isSome_some] <;> first | done | with_reducible rfl)), (by first | rfl | (simp only [LS, SS, SX, HS, mkS_cons, mkS_nil, ↓reduceIte, eq_self', List.map_nil, beq_self_eq_true, Nat.reduceEqDiff, Nat.reduceAdd, Nat.succ_ne_self, vint, TyS, TyF, TBS, TBF, DcS, DcF, SvS, SvF, PfS, PfF, lenI, lenU, zeroS, Option.getD_none, Option.getD_some, Option.isSome_none, Option.isSome_some] <;> first | done | with_reducible rfl)), (by first | rfl | (simp only [LS, SS, SX, HS, mkS_cons, mkS_nil, ↓reduceIte, eq_self', List.map_nil, beq_self_eq_true, Nat.reduceEqDiff, Nat.reduceAdd, Nat.succ_ne_self, vint, TyS, TyF, TBS, TBF, DcS, DcF, SvS, SvF, PfS, PfF, lenI, lenU, zeroS, Option.getD_none, Option.getD_some, Option.isSome_none, Option.isSome_some] <;> first | done | with_reducible rfl)), (by first | rfl | (simp only [LS, SS, SX, HS, mkS_cons, mkS_nil, ↓reduceIte, eq_self', List.map_nil, beq_self_eq_true, Nat.reduceEqDiff, Nat.reduceAdd, Nat.succ_ne_self, vint, TyS, TyF, TBS, TBF, DcS, DcF, SvS, SvF, PfS, PfF, lenI, lenU, zeroS, Option.getD_none, Option.getD_some, Option.isSome_none, Option.isSome_some] <;> first | done | with_reducible rfl)), trivial⟩ (by first | rfl | (simp only [LS, SS, SX, HS, mkS_cons, mkS_nil, ↓reduceIte, eq_self', List.map_nil, beq_self_eq_true, Nat.reduceEqDiff, Nat.reduceAdd, Nat.succ_ne_self, vint, TyS, TyF, TBS, TBF, DcS, DcF, SvS, SvF, PfS, PfF, lenI, lenU, zeroS, Option.getD_none, Option.getD_some, Option.isSome_none, Option.isSome_some] <;> first | done | with_reducible rfl)) (by simp) (fun _ _ _ => by first | exact Nat.zero_le _ | (simp only [List.length_append]; omega)) ?_ ?_ ?_
    · exact fun i r hg => ⟨by simp only [TyS, List.nil_append, List.append_nil, List.cons_append]; repeat (first | exact hbel_nil _ | exact trivial | exact obel_row_nil _ | (refine HBel.cons ?_ ?_) | (refine obel_row_cons (by first | exact bel_int_tok _ (by simp) | exact bel_TB _ _ | exact TB.bel _ _ | exact bel_Dc _ _ | exact Dc.bel _ _ | exact Pf.bel _ _ | exact bel_Pf _ _ | exact Sv.bel _ _ | exact bel_Pf_tok _ (by simp) | exact bel_ints0 _ _ | exact bel_slice_ty _ _ | exact Ty.bel _ _ | exact bel_ty_tok _ (by simp) | exact Bel.int _ _ | exact Bel.bool _ | exact Bel.str _ | exact Bel.nilp | exact Bel.nilfn | exact Bel.optr _ _ (by simp) | exact bel_nil0 _ | exact bel_nil1 _ | exact bel_fn0 _ _ | assumption) ?_)), by repeat (first | exact BelL.nil | refine BelL.cons (by first | exact bel_int_tok _ (by simp) | exact bel_TB _ _ | exact TB.bel _ _ | exact bel_Dc _ _ | exact Dc.bel _ _ | exact Pf.bel _ _ | exact bel_Pf _ _ | exact Sv.bel _ _ | exact bel_Pf_tok _ (by simp) | exact bel_ints0 _ _ | exact bel_slice_ty _ _ | exact Ty.bel _ _ | exact bel_ty_tok _ (by simp) | exact Bel.int _ _ | exact Bel.bool _ | exact Bel.str _ | exact Bel.nilp | exact Bel.nilfn | exact Bel.optr _ _ (by simp) | exact bel_nil0 _ | exact bel_nil1 _ | exact bel_fn0 _ _ | assumption) ?_)⟩
    · intro i r hi hg
      have g1 := ix_nat hi
      have hrl : r.length = i := by rw [hg.1]; simp
      have happ := app_ty (us := r) (u := (firstI l (i : Int)).getD .zero) (id := 2) (tl := .full) (by omega)
      -- region 7
      repeat (refine awp_seq ?_)
      refine e_eval (by simp only [asq, as0, as1, as2, awanted, aop, LS, SS, SX, HS, mkS_cons, mkS_nil, ↓reduceIte, eq_self', List.map_nil, beq_self_eq_true, Nat.reduceEqDiff, Nat.reduceAdd, Nat.reduceMul, Nat.reduceLT, Nat.reduceLeDiff, Nat.reducePow, Nat.reduceDiv, Nat.reduceMod, Nat.succ_ne_self, Nat.reduceBEq, Nat.reduceBNe, vint, TyS, TyF, TBS, TBF, DcS, DcF, SvS, SvF, PfS, PfF, lenI, lenU, zeroS, Option.getD_none, Option.getD_some, Option.isSome_none, Option.isSome_some, g1, Int.toNat_natCast] <;> with_reducible rfl) (by decide) ?_
      -- region 8
      repeat (refine awp_seq ?_)
      refine e_eval (by simp only [asq, as0, as1, as2, awanted, aop, abuild, splice, astore, LS, SS, SX, HS, mkS_cons, mkS_nil, ↓reduceIte, eq_self', List.map_nil, beq_self_eq_true, Nat.reduceEqDiff, Nat.reduceAdd, Nat.reduceMul, Nat.reduceLT, Nat.reduceLeDiff, Nat.reducePow, Nat.reduceDiv, Nat.reduceMod, Nat.succ_ne_self, Nat.reduceBEq, Nat.reduceBNe, Tryti24, Trytf24, Trytz24, Trytp24, vint, TyS, TyF, TBS, TBF, DcS, DcF, SvS, SvF, PfS, PfF, lenI, lenU, zeroS, Option.getD_none, Option.getD_some, Option.isSome_none, Option.isSome_some, g1, Int.toNat_natCast] <;> with_reducible rfl) (by decide) ?_
      -- region 9
      repeat (refine awp_seq ?_)
      refine e_eval (by simp only [asq, as0, as1, as2, awanted, aop, LS, SS, SX, HS, mkS_cons, mkS_nil, ↓reduceIte, eq_self', List.map_nil, beq_self_eq_true, Nat.reduceEqDiff, Nat.reduceAdd, Nat.reduceMul, Nat.reduceLT, Nat.reduceLeDiff, Nat.reducePow, Nat.reduceDiv, Nat.reduceMod, Nat.succ_ne_self, Nat.reduceBEq, Nat.reduceBNe, vint, TyS, TyF, TBS, TBF, DcS, DcF, SvS, SvF, PfS, PfF, lenI, lenU, zeroS, Option.getD_none, Option.getD_some, Option.isSome_none, Option.isSome_some, g1, Int.toNat_natCast] <;> with_reducible rfl) (by decide) ?_
      -- region 10
      repeat (refine awp_seq ?_)
      refine e_eval (by simp only [asq, as0, as1, as2, awanted, aop, abuiltin, LS, SS, SX, HS, mkS_cons, mkS_nil, ↓reduceIte, eq_self', List.map_nil, beq_self_eq_true, Nat.reduceEqDiff, Nat.reduceAdd, Nat.reduceMul, Nat.reduceLT, Nat.reduceLeDiff, Nat.reducePow, Nat.reduceDiv, Nat.reduceMod, Nat.succ_ne_self, Nat.reduceBEq, Nat.reduceBNe, Tryti3, Trytz3, Trytp3, Trytk3, Tryti25, Tryte25, Trytz25, Trytp25, vint, TyS, TyF, TBS, TBF, DcS, DcF, SvS, SvF, PfS, PfF, lenI, lenU, zeroS, Option.getD_none, Option.getD_some, Option.isSome_none, Option.isSome_some, g1, Int.toNat_natCast] <;> with_reducible rfl) (by decide) ?_
      repeat (refine awp_seq ?_)
      refine awp_dropRow 3 rfl ?_
      refine awp_forS (σ := Option Ty) (l.length) (fun (s : Option Ty) => [(9, .slice ((occU l).map Ty.enc) .none), (11, .slice (r.map Ty.enc) (.tok 2)), (12, .int .i64 ((i : Nat) : Int)), (13, .optr 3 0), (14, .bool s.isSome), (27, .slice (ps.map vint) .none), (28, .int .i64 (ps.length : Nat)), (29, .int .i64 ((i : Nat) : Int)), (33, .slice ((occI l).map vint) .none), (8, .slice ((occI l).map vint) .none)]) [9, 11, 12, 13, 14, 27, 28, 29, 33, 8] ([.row t.enc.cells, .row p.enc.cells, .buf r.length 3]) (fun (s : Option Ty) => [.row (s.getD .zero).enc.cells]) (fun (j : Nat) (s : Option Ty) => s = firstI (l.take j) (i : Int) ∧ ∀ x ∈ l.take j, x.1 = (i : Int) → s = some x.2) (none) ([]) rfl rfl rfl rfl rfl rfl rfl rfl rfl (by decide) (by decide) (by decide) (fun _ => rfl) (by have := hp.len; omega) ⟨(by first | rfl | (simp only [LS, SS, SX, HS, mkS_cons, mkS_nil, ↓reduceIte, eq_self', List.map_nil, beq_self_eq_true, Nat.reduceEqDiff, Nat.reduceAdd, Nat.succ_ne_self, vint, TyS, TyF, TBS, TBF, DcS, DcF, SvS, SvF, PfS, PfF, lenI, lenU, zeroS, Option.getD_none, Option.getD_some, Option.isSome_none, Option.isSome_some, g1, Int.toNat_natCast] <;> first | done | with_reducible rfl)), (by first | rfl | (simp only [LS, SS, SX, HS, mkS_cons, mkS_nil, ↓reduceIte, eq_self', List.map_nil, beq_self_eq_true, Nat.reduceEqDiff, Nat.reduceAdd, Nat.succ_ne_self, vint, TyS, TyF, TBS, TBF, DcS, DcF, SvS, SvF, PfS, PfF, lenI, lenU, zeroS, Option.getD_none, Option.getD_some, Option.isSome_none, Option.isSome_some, g1, Int.toNat_natCast] <;> first | done | with_reducible rfl)), (by first | rfl | (simp only [LS, SS, SX, HS, mkS_cons, mkS_nil, ↓reduceIte, eq_self', List.map_nil, beq_self_eq_true, Nat.reduceEqDiff, Nat.reduceAdd, Nat.succ_ne_self, vint, TyS, TyF, TBS, TBF, DcS, DcF, SvS, SvF, PfS, PfF, lenI, lenU, zeroS, Option.getD_none, Option.getD_some, Option.isSome_none, Option.isSome_some, g1, Int.toNat_natCast] <;> first | done | with_reducible rfl)), (by first | rfl | (simp only [LS, SS, SX, HS, mkS_cons, mkS_nil, ↓reduceIte, eq_self', List.map_nil, beq_self_eq_true, Nat.reduceEqDiff, Nat.reduceAdd, Nat.succ_ne_self, vint, TyS, TyF, TBS, TBF, DcS, DcF, SvS, SvF, PfS, PfF, lenI, lenU, zeroS, Option.getD_none, Option.getD_some, Option.isSome_none, Option.isSome_some, g1, Int.toNat_natCast] <;> first | done | with_reducible rfl)), (by first | rfl | (simp only [LS, SS, SX, HS, mkS_cons, mkS_nil, ↓reduceIte, eq_self', List.map_nil, beq_self_eq_true, Nat.reduceEqDiff, Nat.reduceAdd, Nat.succ_ne_self, vint, TyS, TyF, TBS, TBF, DcS, DcF, SvS, SvF, PfS, PfF, lenI, lenU, zeroS, Option.getD_none, Option.getD_some, Option.isSome_none, Option.isSome_some, g1, Int.toNat_natCast] <;> first | done | with_reducible rfl)), (by first | rfl | (simp only [LS, SS, SX, HS, mkS_cons, mkS_nil, ↓reduceIte, eq_self', List.map_nil, beq_self_eq_true, Nat.reduceEqDiff, Nat.reduceAdd, Nat.succ_ne_self, vint, TyS, TyF, TBS, TBF, DcS, DcF, SvS, SvF, PfS, PfF, lenI, lenU, zeroS, Option.getD_none, Option.getD_some, Option.isSome_none, Option.isSome_some, g1, Int.toNat_natCast] <;> first | done | with_reducible rfl)), (by first | rfl | (simp only [LS, SS, SX, HS, mkS_cons, mkS_nil, ↓reduceIte, eq_self', List.map_nil, beq_self_eq_true, Nat.reduceEqDiff, Nat.reduceAdd, Nat.succ_ne_self, vint, TyS, TyF, TBS, TBF, DcS, DcF, SvS, SvF, PfS, PfF, lenI, lenU, zeroS, Option.getD_none, Option.getD_some, Option.isSome_none, Option.isSome_some, g1, Int.toNat_natCast] <;> first | done | with_reducible rfl)), (by first | rfl | (simp only [LS, SS, SX, HS, mkS_cons, mkS_nil, ↓reduceIte, eq_self', List.map_nil, beq_self_eq_true, Nat.reduceEqDiff, Nat.reduceAdd, Nat.succ_ne_self, vint, TyS, TyF, TBS, TBF, DcS, DcF, SvS, SvF, PfS, PfF, lenI, lenU, zeroS, Option.getD_none, Option.getD_some, Option.isSome_none, Option.isSome_some, g1, Int.toNat_natCast] <;> first | done | with_reducible rfl)), (by first | rfl | (simp only [LS, SS, SX, HS, mkS_cons, mkS_nil, ↓reduceIte, eq_self', List.map_nil, beq_self_eq_true, Nat.reduceEqDiff, Nat.reduceAdd, Nat.succ_ne_self, vint, TyS, TyF, TBS, TBF, DcS, DcF, SvS, SvF, PfS, PfF, lenI, lenU, zeroS, Option.getD_none, Option.getD_some, Option.isSome_none, Option.isSome_some, g1, Int.toNat_natCast] <;> first | done | with_reducible rfl)), (by first | rfl | (simp only [LS, SS, SX, HS, mkS_cons, mkS_nil, ↓reduceIte, eq_self', List.map_nil, beq_self_eq_true, Nat.reduceEqDiff, Nat.reduceAdd, Nat.succ_ne_self, vint, TyS, TyF, TBS, TBF, DcS, DcF, SvS, SvF, PfS, PfF, lenI, lenU, zeroS, Option.getD_none, Option.getD_some, Option.isSome_none, Option.isSome_some, g1, Int.toNat_natCast] <;> first | done | with_reducible rfl)), (by first | rfl | (simp only [LS, SS, SX, HS, mkS_cons, mkS_nil, ↓reduceIte, eq_self', List.map_nil, beq_self_eq_true, Nat.reduceEqDiff, Nat.reduceAdd, Nat.succ_ne_self, vint, TyS, TyF, TBS, TBF, DcS, DcF, SvS, SvF, PfS, PfF, lenI, lenU, zeroS, Option.getD_none, Option.getD_some, Option.isSome_none, Option.isSome_some, g1, Int.toNat_natCast] <;> first | done | with_reducible rfl)), (by first | rfl | (simp only [LS, SS, SX, HS, mkS_cons, mkS_nil, ↓reduceIte, eq_self', List.map_nil, beq_self_eq_true, Nat.reduceEqDiff, Nat.reduceAdd, Nat.succ_ne_self, vint, TyS, TyF, TBS, TBF, DcS, DcF, SvS, SvF, PfS, PfF, lenI, lenU, zeroS, Option.getD_none, Option.getD_some, Option.isSome_none, Option.isSome_some, g1, Int.toNat_natCast] <;> first | done | with_reducible rfl)), trivial⟩ (by first | rfl | (simp only [LS, SS, SX, HS, mkS_cons, mkS_nil, ↓reduceIte, eq_self', List.map_nil, beq_self_eq_true, Nat.reduceEqDiff, Nat.reduceAdd, Nat.succ_ne_self, vint, TyS, TyF, TBS, TBF, DcS, DcF, SvS, SvF, PfS, PfF, lenI, lenU, zeroS, Option.getD_none, Option.getD_some, Option.isSome_none, Option.isSome_some, g1, Int.toNat_natCast] <;> first | done | with_reducible rfl)) (by simp [firstI]) (fun _ _ _ => by first | exact Nat.zero_le _ | (simp only [List.length_append]; omega)) ?_ ?_ ?_
      · exact fun i s hg => ⟨by simp only [TyS, List.nil_append, List.append_nil, List.cons_append]; repeat (first | exact hbel_nil _ | exact trivial | exact obel_row_nil _ | (refine HBel.cons ?_ ?_) | (refine obel_row_cons (by first | exact bel_int_tok _ (by simp) | exact bel_TB _ _ | exact TB.bel _ _ | exact bel_Dc _ _ | exact Dc.bel _ _ | exact Pf.bel _ _ | exact bel_Pf _ _ | exact Sv.bel _ _ | exact bel_Pf_tok _ (by simp) | exact bel_ints0 _ _ | exact bel_slice_ty _ _ | exact Ty.bel _ _ | exact bel_ty_tok _ (by simp) | exact Bel.int _ _ | exact Bel.bool _ | exact Bel.str _ | exact Bel.nilp | exact Bel.nilfn | exact Bel.optr _ _ (by simp) | exact bel_nil0 _ | exact bel_nil1 _ | exact bel_fn0 _ _ | assumption) ?_)), by repeat (first | exact BelL.nil | refine BelL.cons (by first | exact bel_int_tok _ (by simp) | exact bel_TB _ _ | exact TB.bel _ _ | exact bel_Dc _ _ | exact Dc.bel _ _ | exact Pf.bel _ _ | exact bel_Pf _ _ | exact Sv.bel _ _ | exact bel_Pf_tok _ (by simp) | exact bel_ints0 _ _ | exact bel_slice_ty _ _ | exact Ty.bel _ _ | exact bel_ty_tok _ (by simp) | exact Bel.int _ _ | exact Bel.bool _ | exact Bel.str _ | exact Bel.nilp | exact Bel.nilfn | exact Bel.optr _ _ (by simp) | exact bel_nil0 _ | exact bel_nil1 _ | exact bel_fn0 _ _ | assumption) ?_)⟩
      · intro j s hj hh
        have q1 := ix_nat hj
        have q2 := getI hj
        have q3 := getU hj
        have q4 : ((0 : Int) ≤ (j : Nat) ∧ ((j : Nat) : Int) < l.length) = True := ix_nat hj
        have hxw := hlw _ (List.getElem_mem hj)
        have hft := firstI_take hj (i : Int)
        obtain ⟨x, hxe⟩ : ∃ x, l[j] = x := ⟨_, rfl⟩
        rw [hxe] at q2 q3 hxw hft
        -- region 12
        repeat (refine awp_seq ?_)
        refine e_eval (by simp only [asq, as0, as1, as2, awanted, aop, aidxAddr, aidx, ajust, aload, LS, SS, SX, HS, mkS_cons, mkS_nil, ↓reduceIte, eq_self', List.map_nil, beq_self_eq_true, Nat.reduceEqDiff, Nat.reduceAdd, Nat.reduceMul, Nat.reduceLT, Nat.reduceLeDiff, Nat.reducePow, Nat.reduceDiv, Nat.reduceMod, Nat.succ_ne_self, Nat.reduceBEq, Nat.reduceBNe, Tryti3, Trytz3, Trytp3, Trytk3, Tryti25, Tryte25, Trytz25, Trytp25, vint, TyS, TyF, TBS, TBF, DcS, DcF, SvS, SvF, PfS, PfF, lenI, lenU, zeroS, Option.getD_none, Option.getD_some, Option.isSome_none, Option.isSome_some, g1, Int.toNat_natCast, q1, q2, q3, q4, Int.toNat_natCast] <;> with_reducible rfl) (by decide) ?_
        -- region 13
        repeat (refine awp_seq ?_)
        refine e_eval (by simp only [asq, as0, as1, as2, awanted, aop, abin, ajust, LS, SS, SX, HS, mkS_cons, mkS_nil, ↓reduceIte, eq_self', List.map_nil, beq_self_eq_true, Nat.reduceEqDiff, Nat.reduceAdd, Nat.reduceMul, Nat.reduceLT, Nat.reduceLeDiff, Nat.reducePow, Nat.reduceDiv, Nat.reduceMod, Nat.succ_ne_self, Nat.reduceBEq, Nat.reduceBNe, Tryti3, Trytz3, Trytp3, Trytk3, vint, TyS, TyF, TBS, TBF, DcS, DcF, SvS, SvF, PfS, PfF, lenI, lenU, zeroS, Option.getD_none, Option.getD_some, Option.isSome_none, Option.isSome_some, g1, Int.toNat_natCast, q1, q2, q3, q4, Int.toNat_natCast] <;> with_reducible rfl) (by decide) ?_
        repeat (refine awp_seq ?_)
        refine awp_cond rfl (by simp only [LS, SS, SX, HS, mkS_cons, mkS_nil, ↓reduceIte, eq_self', List.map_nil, beq_self_eq_true, Nat.reduceEqDiff, Nat.reduceAdd, Nat.succ_ne_self, vint, TyS, TyF, TBS, TBF, DcS, DcF, SvS, SvF, PfS, PfF, lenI, lenU, zeroS, Option.getD_none, Option.getD_some, Option.isSome_none, Option.isSome_some, g1, Int.toNat_natCast, q1, q2, q3, q4, Int.toNat_natCast] <;> with_reducible rfl) (fun b1 => ?_) (fun b1 => ?_)
        · -- if t42
          repeat (refine awp_seq ?_)
          refine awp_exit ?_
          -- leaf 1 next2
          have hne : ¬ x.1 = (i : Int) := by simpa using b1
          refine ⟨⟨rfl, rfl, trivial⟩, s, _, ⟨rfl, rfl, rfl, rfl, rfl, rfl, rfl, rfl, rfl, rfl, trivial⟩, by simp only [LS, SS, SX, HS, mkS_cons, mkS_nil, ↓reduceIte, eq_self', List.map_nil, beq_self_eq_true, Nat.reduceEqDiff, Nat.reduceAdd, Nat.succ_ne_self, vint, TyS, TyF, TBS, TBF, DcS, DcF, SvS, SvF, PfS, PfF] <;> rfl, ?_⟩
          rw [hft, if_neg hne, Option.or_none]
          refine ⟨hh.1, fun y hy hyi => ?_⟩
          rcases mem_take_succ hj hy with h | h
          · exact hh.2 y h hyi
          · rw [h, hxe] at hyi; exact (hne hyi).elim
        · -- else t42
          have hxi : x.1 = (i : Int) := by simpa using b1
          rw [if_pos hxi] at hft
          repeat (refine awp_seq ?_)
          refine awp_skip ?_
          -- region 14
          repeat (refine awp_seq ?_)
          refine awp_drawW 0 (by kernel_rfl) ?_
          refine dops_gstart ?_
          refine gd_take (bm := [0, 1, 3, 3, 15, 31, 3, 127, 255, 511]) 7 (fresh := 0) (by kernel_rfl) (by simp only [gdq, gd0, gd1, gd2, gd3, gcond, gop, SG, Op.operands, Call.operands, Array.toList_append, hapB, effIds, effSet, nextFresh, ard, freshOk, isUnborn, aop, aidxAddr, aidx, ajust, aload, LS, SS, SX, HS, mkS_cons, mkS_nil, ↓reduceIte, eq_self', List.map_nil, beq_self_eq_true, Nat.reduceEqDiff, Nat.reduceAdd, Nat.reduceMul, Nat.reduceLT, Nat.reduceLeDiff, Nat.reducePow, Nat.reduceDiv, Nat.reduceMod, Nat.succ_ne_self, Nat.reduceBEq, Nat.reduceBNe, Tryti22, Tryte22, Trytz22, Trytp22, Tryti24, Trytf24, Trytz24, Trytp24, vint, TyS, TyF, TBS, TBF, DcS, DcF, SvS, SvF, PfS, PfF, lenI, lenU, zeroS, Option.getD_none, Option.getD_some, Option.isSome_none, Option.isSome_some, g1, Int.toNat_natCast, q1, q2, q3, q4, Int.toNat_natCast] <;> with_reducible rfl) (by decide) (by decide) ?_
          refine dops_gkeep (bm := [0, 1, 3, 3, 15, 31, 3, 127, 255, 511]) ([]) (by kernel_rfl) (by simp only [acall, gcond, SG, Op.operands, Call.operands, Array.toList_append, LS, SS, SX, HS, mkS_cons, mkS_nil, ↓reduceIte, eq_self', List.map_nil, beq_self_eq_true, Nat.reduceEqDiff, Nat.reduceAdd, Nat.reduceMul, Nat.reduceLT, Nat.reduceLeDiff, Nat.reducePow, Nat.reduceDiv, Nat.reduceMod, Nat.succ_ne_self, Nat.reduceBEq, Nat.reduceBNe, vint, TyS, TyF, TBS, TBF, DcS, DcF, SvS, SvF, PfS, PfF, lenI, lenU, zeroS, Option.getD_none, Option.getD_some, Option.isSome_none, Option.isSome_some, g1, Int.toNat_natCast, q1, q2, q3, q4, Int.toNat_natCast] <;> with_reducible rfl) (by simp only [acall, gcond, SG, Op.operands, Call.operands, Array.toList_append, LS, SS, SX, HS, mkS_cons, mkS_nil, ↓reduceIte, eq_self', List.map_nil, beq_self_eq_true, Nat.reduceEqDiff, Nat.reduceAdd, Nat.reduceMul, Nat.reduceLT, Nat.reduceLeDiff, Nat.reducePow, Nat.reduceDiv, Nat.reduceMod, Nat.succ_ne_self, Nat.reduceBEq, Nat.reduceBNe, vint, TyS, TyF, TBS, TBF, DcS, DcF, SvS, SvF, PfS, PfF, lenI, lenU, zeroS, Option.getD_none, Option.getD_some, Option.isSome_none, Option.isSome_some, g1, Int.toNat_natCast, q1, q2, q3, q4, Int.toNat_natCast] <;> with_reducible rfl) (by simp only [acall, gcond, SG, Op.operands, Call.operands, Array.toList_append, LS, SS, SX, HS, mkS_cons, mkS_nil, ↓reduceIte, eq_self', List.map_nil, beq_self_eq_true, Nat.reduceEqDiff, Nat.reduceAdd, Nat.reduceMul, Nat.reduceLT, Nat.reduceLeDiff, Nat.reducePow, Nat.reduceDiv, Nat.reduceMod, Nat.succ_ne_self, Nat.reduceBEq, Nat.reduceBNe, vint, TyS, TyF, TBS, TBF, DcS, DcF, SvS, SvF, PfS, PfF, lenI, lenU, zeroS, Option.getD_none, Option.getD_some, Option.isSome_none, Option.isSome_some, g1, Int.toNat_natCast, q1, q2, q3, q4, Int.toNat_natCast]) (by decide) Trygo38 (fun hc => fun H' _ => typesEq_k _ x.2 (s.getD .zero) (Nat.le_refl _) hxw H') (by simp only [gdq, gd0, gd1, gd2, gd3, gcond, gop, SG, Op.operands, Call.operands, Array.toList_append, hapB, effIds, effSet, nextFresh, ard, freshOk, isUnborn, aop, LS, SS, SX, HS, mkS_cons, mkS_nil, ↓reduceIte, eq_self', List.map_nil, beq_self_eq_true, Nat.reduceEqDiff, Nat.reduceAdd, Nat.reduceMul, Nat.reduceLT, Nat.reduceLeDiff, Nat.reducePow, Nat.reduceDiv, Nat.reduceMod, Nat.succ_ne_self, Nat.reduceBEq, Nat.reduceBNe, vint, TyS, TyF, TBS, TBF, DcS, DcF, SvS, SvF, PfS, PfF, lenI, lenU, zeroS, Option.getD_none, Option.getD_some, Option.isSome_none, Option.isSome_some, g1, Int.toNat_natCast, q1, q2, q3, q4, Int.toNat_natCast] <;> first | done | rfl) ?_
          refine gd_end (bm := [0, 1, 3, 3, 15, 31, 3, 127, 255, 511]) (fresh := 0) (by kernel_rfl) (by simp only [gdq, gd0, gd1, gd2, gd3, gcond, gop, SG, Op.operands, Call.operands, Array.toList_append, hapB, effIds, effSet, nextFresh, ard, freshOk, isUnborn, aop, aun, ajust, LS, SS, SX, HS, mkS_cons, mkS_nil, ↓reduceIte, eq_self', List.map_nil, beq_self_eq_true, Nat.reduceEqDiff, Nat.reduceAdd, Nat.reduceMul, Nat.reduceLT, Nat.reduceLeDiff, Nat.reducePow, Nat.reduceDiv, Nat.reduceMod, Nat.succ_ne_self, Nat.reduceBEq, Nat.reduceBNe, vint, TyS, TyF, TBS, TBF, DcS, DcF, SvS, SvF, PfS, PfF, lenI, lenU, zeroS, Option.getD_none, Option.getD_some, Option.isSome_none, Option.isSome_some, g1, Int.toNat_natCast, q1, q2, q3, q4, Int.toNat_natCast] <;> with_reducible rfl) (by decide) (by repeat (first | exact Fin.base _ | with_reducible apply Fin.keep | apply Fin.drop)) ?_
          repeat (refine awp_seq ?_)
          refine awp_cond rfl (by simp only [LS, SS, SX, HS, mkS_cons, mkS_nil, ↓reduceIte, eq_self', List.map_nil, beq_self_eq_true, Nat.reduceEqDiff, Nat.reduceAdd, Nat.succ_ne_self, vint, TyS, TyF, TBS, TBF, DcS, DcF, SvS, SvF, PfS, PfF, lenI, lenU, zeroS, Option.getD_none, Option.getD_some, Option.isSome_none, Option.isSome_some, g1, Int.toNat_natCast, q1, q2, q3, q4, Int.toNat_natCast] <;> with_reducible rfl) (fun b2 => ?_) (fun b2 => ?_)
          · -- if t52
            refine awp_sel [8, 9, 11, 12, 13, 14, 27, 28, 29, 33, 34, 35] (by simp only [LS, SS, SX, HS, mkS_cons, mkS_nil, ↓reduceIte, eq_self', List.map_nil, beq_self_eq_true, Nat.reduceEqDiff, Nat.reduceAdd, Nat.succ_ne_self, vint, TyS, TyF, TBS, TBF, DcS, DcF, SvS, SvF, PfS, PfF, lenI, lenU, zeroS, Option.getD_none, Option.getD_some, Option.isSome_none, Option.isSome_some, g1, Int.toNat_natCast, q1, q2, q3, q4, Int.toNat_natCast] <;> with_reducible rfl) ?_
            -- region 15
            repeat (refine awp_seq ?_)
            refine e_eval (by simp only [asq, as0, as1, as2, awanted, aop, LS, SS, SX, HS, mkS_cons, mkS_nil, ↓reduceIte, eq_self', List.map_nil, beq_self_eq_true, Nat.reduceEqDiff, Nat.reduceAdd, Nat.reduceMul, Nat.reduceLT, Nat.reduceLeDiff, Nat.reducePow, Nat.reduceDiv, Nat.reduceMod, Nat.succ_ne_self, Nat.reduceBEq, Nat.reduceBNe, vint, TyS, TyF, TBS, TBF, DcS, DcF, SvS, SvF, PfS, PfF, lenI, lenU, zeroS, Option.getD_none, Option.getD_some, Option.isSome_none, Option.isSome_some, g1, Int.toNat_natCast, q1, q2, q3, q4, Int.toNat_natCast] <;> with_reducible rfl) (by decide) ?_
            repeat (refine awp_seq ?_)
            -- leaf 2 ret
            refine awp_ret ⟨.inr rfl, _, (ares_two (.tmp 6) (.tmp 7) rfl (ares_tmp1 (by decide)) (ares_tmp1 (by decide))), ?_⟩
            have hq : s.isSome = true ∧ x.2.eqb (s.getD .zero) = false := by simpa using b2
            obtain ⟨u, hu⟩ := Option.isSome_iff_exists.1 hq.1
            have hf := firstI_mono (hh.1.symm.trans hu)
            have hbad : ¬ ((List.range ps.length).all fun (j : Nat) => consI l (j : Int)) = true := by
              intro hall
              have := (consI_iff _ _).1 (List.all_eq_true.1 hall i (List.mem_range.2 hi)) x (by rw [← hxe]; exact List.getElem_mem hj) hxi
              rw [hf] at this
              cases this
              rw [hu, Option.getD_some, Ty.eqb_self] at hq
              cases hq.2
            rw [if_neg hbad]
            simp only [LS, SS, SX, HS, mkS_cons, mkS_nil, ↓reduceIte, eq_self', List.map_nil, beq_self_eq_true, Nat.reduceEqDiff, Nat.reduceAdd, Nat.succ_ne_self, vint, TyS, TyF, TBS, TBF, DcS, DcF, SvS, SvF, PfS, PfF]
          · -- else t52
            repeat (refine awp_seq ?_)
            refine awp_skip ?_
            refine awp_sel [8, 9, 11, 12, 13, 14, 15, 27, 28, 29, 33, 34, 35] (by simp only [LS, SS, SX, HS, mkS_cons, mkS_nil, ↓reduceIte, eq_self', List.map_nil, beq_self_eq_true, Nat.reduceEqDiff, Nat.reduceAdd, Nat.succ_ne_self, vint, TyS, TyF, TBS, TBF, DcS, DcF, SvS, SvF, PfS, PfF, lenI, lenU, zeroS, Option.getD_none, Option.getD_some, Option.isSome_none, Option.isSome_some, g1, Int.toNat_natCast, q1, q2, q3, q4, Int.toNat_natCast] <;> with_reducible rfl) ?_
            -- region 16
            repeat (refine awp_seq ?_)
            refine e_eval (by simp only [asq, as0, as1, as2, awanted, aop, aun, ajust, LS, SS, SX, HS, mkS_cons, mkS_nil, ↓reduceIte, eq_self', List.map_nil, beq_self_eq_true, Nat.reduceEqDiff, Nat.reduceAdd, Nat.reduceMul, Nat.reduceLT, Nat.reduceLeDiff, Nat.reducePow, Nat.reduceDiv, Nat.reduceMod, Nat.succ_ne_self, Nat.reduceBEq, Nat.reduceBNe, vint, TyS, TyF, TBS, TBF, DcS, DcF, SvS, SvF, PfS, PfF, lenI, lenU, zeroS, Option.getD_none, Option.getD_some, Option.isSome_none, Option.isSome_some, g1, Int.toNat_natCast, q1, q2, q3, q4, Int.toNat_natCast] <;> with_reducible rfl) (by decide) ?_
            repeat (refine awp_seq ?_)
            refine awp_cond rfl (by simp only [LS, SS, SX, HS, mkS_cons, mkS_nil, ↓reduceIte, eq_self', List.map_nil, beq_self_eq_true, Nat.reduceEqDiff, Nat.reduceAdd, Nat.succ_ne_self, vint, TyS, TyF, TBS, TBF, DcS, DcF, SvS, SvF, PfS, PfF, lenI, lenU, zeroS, Option.getD_none, Option.getD_some, Option.isSome_none, Option.isSome_some, g1, Int.toNat_natCast, q1, q2, q3, q4, Int.toNat_natCast] <;> with_reducible rfl) (fun b3 => ?_) (fun b3 => ?_)
            · -- if t54
              have hn : s = none := by simpa using b3
              subst hn
              -- region 17
              repeat (refine awp_seq ?_)
              refine e_eval (by simp only [asq, as0, as1, as2, awanted, aop, aidxAddr, aidx, ajust, aload, astore, splice, LS, SS, SX, HS, mkS_cons, mkS_nil, ↓reduceIte, eq_self', List.map_nil, beq_self_eq_true, Nat.reduceEqDiff, Nat.reduceAdd, Nat.reduceMul, Nat.reduceLT, Nat.reduceLeDiff, Nat.reducePow, Nat.reduceDiv, Nat.reduceMod, Nat.succ_ne_self, Nat.reduceBEq, Nat.reduceBNe, Tryti22, Tryte22, Trytz22, Trytp22, Tryti24, Trytf24, Trytz24, Trytp24, vint, TyS, TyF, TBS, TBF, DcS, DcF, SvS, SvF, PfS, PfF, lenI, lenU, zeroS, Option.getD_none, Option.getD_some, Option.isSome_none, Option.isSome_some, g1, Int.toNat_natCast, q1, q2, q3, q4, Int.toNat_natCast] <;> with_reducible rfl) (by decide) ?_
              -- leaf 3 next2
              refine ⟨⟨rfl, rfl, trivial⟩, some x.2, _, ⟨rfl, rfl, rfl, rfl, rfl, rfl, rfl, rfl, rfl, rfl, trivial⟩, by simp only [LS, SS, SX, HS, mkS_cons, mkS_nil, ↓reduceIte, eq_self', List.map_nil, beq_self_eq_true, Nat.reduceEqDiff, Nat.reduceAdd, Nat.succ_ne_self, vint, TyS, TyF, TBS, TBF, DcS, DcF, SvS, SvF, PfS, PfF] <;> rfl, ?_⟩
              rw [hft, ← hh.1, Option.none_or]
              refine ⟨rfl, fun y hy hyi => ?_⟩
              rcases mem_take_succ hj hy with h | h
              · have := hh.2 y h hyi; cases this
              · rw [h, hxe]
            · -- else t54
              repeat (refine awp_seq ?_)
              refine awp_skip ?_
              -- leaf 4 next2
              obtain ⟨u, rfl⟩ : ∃ u, s = some u := by
                cases s with
                | none => simp at b3
                | some u => exact ⟨u, rfl⟩
              have hq : x.2 = u := by
                have hb := b2
                simp [Ty.eqb_iff] at hb
                exact hb
              refine ⟨⟨rfl, rfl, trivial⟩, some u, _, ⟨rfl, rfl, rfl, rfl, rfl, rfl, rfl, rfl, rfl, rfl, trivial⟩, by simp only [LS, SS, SX, HS, mkS_cons, mkS_nil, ↓reduceIte, eq_self', List.map_nil, beq_self_eq_true, Nat.reduceEqDiff, Nat.reduceAdd, Nat.succ_ne_self, vint, TyS, TyF, TBS, TBF, DcS, DcF, SvS, SvF, PfS, PfF] <;> rfl, ?_⟩
              rw [hft, ← hh.1, Option.some_or]
              refine ⟨rfl, fun y hy hyi => ?_⟩
              rcases mem_take_succ hj hy with h | h
              · exact hh.2 y h hyi
              · rw [h, hxe, hq]
      · intro s hh
        rw [List.take_length] at hh
        obtain ⟨hh1, hh2⟩ := hh
        subst hh1
        -- region 19
        repeat (refine awp_seq ?_)
        refine e_eval (by simp only [asq, as0, as1, as2, awanted, aop, aload, ajust, abuildS, abuiltin, LS, SS, SX, HS, mkS_cons, mkS_nil, ↓reduceIte, eq_self', List.map_nil, beq_self_eq_true, Nat.reduceEqDiff, Nat.reduceAdd, Nat.reduceMul, Nat.reduceLT, Nat.reduceLeDiff, Nat.reducePow, Nat.reduceDiv, Nat.reduceMod, Nat.succ_ne_self, Nat.reduceBEq, Nat.reduceBNe, Tryti22, Tryte22, Trytz22, Trytp22, Tryti24, Trytf24, Trytz24, Trytp24, vint, TyS, TyF, TBS, TBF, DcS, DcF, SvS, SvF, PfS, PfF, lenI, lenU, zeroS, Option.getD_none, Option.getD_some, Option.isSome_none, Option.isSome_some, g1, Int.toNat_natCast, happ] <;> with_reducible rfl) (by decide) ?_
        -- leaf 5 next0
        exact ⟨⟨rfl, rfl, trivial⟩, r ++ [(firstI l (i : Int)).getD .zero], _, ⟨rfl, rfl, rfl, rfl, trivial⟩, by simp only [LS, SS, SX, HS, mkS_cons, mkS_nil, ↓reduceIte, eq_self', List.map_nil, beq_self_eq_true, Nat.reduceEqDiff, Nat.reduceAdd, Nat.succ_ne_self, vint, TyS, TyF, TBS, TBF, DcS, DcF, SvS, SvF, PfS, PfF, List.length_append, List.length_singleton] <;> rfl, by rw [List.range_succ, List.map_append, ← hg.1]; rfl, fun j hj => by
          rcases Nat.lt_succ_iff_lt_or_eq.1 hj with h | h
          · exact hg.2 j h
          · rw [h, consI_iff]; exact hh2⟩
    · intro r hg
      -- region 21
      repeat (refine awp_seq ?_)
      refine e_eval (by simp only [asq, as0, as1, as2, awanted, aop, LS, SS, SX, HS, mkS_cons, mkS_nil, ↓reduceIte, eq_self', List.map_nil, beq_self_eq_true, Nat.reduceEqDiff, Nat.reduceAdd, Nat.reduceMul, Nat.reduceLT, Nat.reduceLeDiff, Nat.reducePow, Nat.reduceDiv, Nat.reduceMod, Nat.succ_ne_self, Nat.reduceBEq, Nat.reduceBNe, vint, TyS, TyF, TBS, TBF, DcS, DcF, SvS, SvF, PfS, PfF, lenI, lenU, zeroS, Option.getD_none, Option.getD_some, Option.isSome_none, Option.isSome_some] <;> with_reducible rfl) (by decide) ?_
      repeat (refine awp_seq ?_)
      -- leaf 6 ret
      refine awp_ret ⟨.inr rfl, _, (ares_two (.tmp 6) (.tmp 7) rfl (ares_tmp1 (by decide)) (ares_tmp1 (by decide))), ?_⟩
      rw [if_pos (by rw [List.all_eq_true]; intro j hj; exact hg.2 j (List.mem_range.1 hj)), ← hg.1]
      simp only [LS, SS, SX, HS, mkS_cons, mkS_nil, ↓reduceIte, eq_self', List.map_nil, beq_self_eq_true, Nat.reduceEqDiff, Nat.reduceAdd, Nat.succ_ne_self, vint, TyS, TyF, TBS, TBF, DcS, DcF, SvS, SvF, PfS, PfF]

end Go.Abs
set_option linter.unusedVariables false
set_option linter.unusedSimpArgs false
set_option maxRecDepth 4000
namespace Go.Abs
open Go.Proofs

/-- What the reference's walks ask of a declaration. -/
def Dc.R (d : Dc) : Prop := d.B ∧ d.t.size * 40 ≤ 2 ^ 47

theorem search_0 (ds : List Dc) (sas : List TB) (t : Ty) (tr : Int) : PC Try.prog 50 [.slice (ds.map Dc.enc) .none, .slice (sas.map TB.enc) .none, t.enc, vint tr, .int .i64 0] (.tup [(solveT ds sas 0 t tr).1.enc, .bool (solveT ds sas 0 t tr).2]) := by
  refine pc_of (N := 144) Try.func50 rfl rfl (by simp) (by simp [Ty.bel, bel_Dc, bel_TB, Bel.int]) (.tup _ (by simp [Pf.bel, Bel.bool])) ?_
  -- region 0
  repeat (refine awp_seq ?_)
  refine e_eval (by simp only [asq, as0, as1, as2, awanted, aop, LS, SS, SX, HS, mkS_cons, mkS_nil, ↓reduceIte, eq_self', List.map_nil, beq_self_eq_true, Nat.reduceEqDiff, Nat.reduceAdd, Nat.reduceMul, Nat.reduceLT, Nat.reduceLeDiff, Nat.reducePow, Nat.reduceDiv, Nat.reduceMod, Nat.succ_ne_self, Nat.reduceBEq, Nat.reduceBNe, Tryti24, Trytf24, Trytz24, Trytp24, Tryti63, Trytf63, Trytz63, Trytp63, vint, TyS, TyF, TBS, TBF, DcS, DcF, SvS, SvF, PfS, PfF, Int.reduceLT, Bool.true_or, decide_true] <;> with_reducible rfl) (by decide) ?_
  -- region 1
  repeat (refine awp_seq ?_)
  refine e_eval (by simp only [asq, as0, as1, as2, awanted, aop, abuild, splice, astore, LS, SS, SX, HS, mkS_cons, mkS_nil, ↓reduceIte, eq_self', List.map_nil, beq_self_eq_true, Nat.reduceEqDiff, Nat.reduceAdd, Nat.reduceMul, Nat.reduceLT, Nat.reduceLeDiff, Nat.reducePow, Nat.reduceDiv, Nat.reduceMod, Nat.succ_ne_self, Nat.reduceBEq, Nat.reduceBNe, Tryti63, Trytf63, Trytz63, Trytp63, vint, TyS, TyF, TBS, TBF, DcS, DcF, SvS, SvF, PfS, PfF, Int.reduceLT, Bool.true_or, decide_true] <;> with_reducible rfl) (by decide) ?_
  -- region 2
  repeat (refine awp_seq ?_)
  refine g_eval (by simp only [gsq, gs0, gs1, gs2, gcond, gop, SG, Op.operands, Call.operands, Array.toList_append, aop, abin, ajust, afldAddr, aload, LS, SS, SX, HS, mkS_cons, mkS_nil, ↓reduceIte, eq_self', List.map_nil, beq_self_eq_true, Nat.reduceEqDiff, Nat.reduceAdd, Nat.reduceMul, Nat.reduceLT, Nat.reduceLeDiff, Nat.reducePow, Nat.reduceDiv, Nat.reduceMod, Nat.succ_ne_self, Nat.reduceBEq, Nat.reduceBNe, Tryti3, Trytz3, Trytp3, Trytk3, Tryti24, Trytf24, Trytz24, Trytp24, vint, TyS, TyF, TBS, TBF, DcS, DcF, SvS, SvF, PfS, PfF, Int.reduceLT, Bool.true_or, decide_true] <;> with_reducible rfl) (by decide) (by repeat (first | exact Fin.base _ | with_reducible apply Fin.keep | apply Fin.drop)) ?_
  repeat (refine awp_seq ?_)
  refine awp_cond_true rfl (by simp only [LS, SS, SX, HS, mkS_cons, mkS_nil, ↓reduceIte, eq_self', List.map_nil, beq_self_eq_true, Nat.reduceEqDiff, Nat.reduceAdd, Nat.succ_ne_self, vint, TyS, TyF, TBS, TBF, DcS, DcF, SvS, SvF, PfS, PfF, Int.reduceLT, Bool.true_or, decide_true] <;> with_reducible rfl) ?_
  refine awp_sel [10, 12] (by simp only [LS, SS, SX, HS, mkS_cons, mkS_nil, ↓reduceIte, eq_self', List.map_nil, beq_self_eq_true, Nat.reduceEqDiff, Nat.reduceAdd, Nat.succ_ne_self, vint, TyS, TyF, TBS, TBF, DcS, DcF, SvS, SvF, PfS, PfF, Int.reduceLT, Bool.true_or, decide_true] <;> with_reducible rfl) ?_
  -- region 3
  repeat (refine awp_seq ?_)
  refine e_eval (by simp only [asq, as0, as1, as2, awanted, aop, aload, ajust, astore, splice, LS, SS, SX, HS, mkS_cons, mkS_nil, ↓reduceIte, eq_self', List.map_nil, beq_self_eq_true, Nat.reduceEqDiff, Nat.reduceAdd, Nat.reduceMul, Nat.reduceLT, Nat.reduceLeDiff, Nat.reducePow, Nat.reduceDiv, Nat.reduceMod, Nat.succ_ne_self, Nat.reduceBEq, Nat.reduceBNe, Tryti63, Trytf63, Trytz63, Trytp63, vint, TyS, TyF, TBS, TBF, DcS, DcF, SvS, SvF, PfS, PfF, Int.reduceLT, Bool.true_or, decide_true] <;> with_reducible rfl) (by decide) ?_
  repeat (refine awp_seq ?_)
  -- leaf 0 ret
  refine awp_ret ⟨.inr rfl, _, (ares_two (.cell 10 63) (.tmp 11) rfl (ares_cell1 Tryti63 (by decide) (by simp only [aload, LS, SS, SX, HS, mkS_cons, mkS_nil, ↓reduceIte, eq_self', List.map_nil, beq_self_eq_true, Nat.reduceEqDiff, Nat.reduceAdd, Nat.reduceMul, Nat.reduceLT, Nat.reduceLeDiff, Nat.reducePow, Nat.reduceDiv, Nat.reduceMod, Nat.succ_ne_self, Nat.reduceBEq, Nat.reduceBNe, vint, TyS, TyF, TBS, TBF, DcS, DcF, SvS, SvF, PfS, PfF, Int.reduceLT, Bool.true_or, decide_true] <;> with_reducible rfl)) (ares_tmp1 (by decide))), ?_⟩
  simp only [LS, SS, SX, HS, mkS_cons, mkS_nil, ↓reduceIte, eq_self', List.map_nil, beq_self_eq_true, Nat.reduceEqDiff, Nat.reduceAdd, Nat.succ_ne_self, vint, TyS, TyF, TBS, TBF, DcS, DcF, SvS, SvF, PfS, PfF]
  rfl

theorem search_k (ds : List Dc) (sas : List TB) (hl : ds.length ≤ maxLen) (hd : ∀ d ∈ ds, d.R) (hsl : sas.length ≤ maxLen) (hs : ∀ b ∈ sas, b.W) : ∀ (n : Nat) (t : Ty) (tr : Int), n ≤ 8 → t.W → PC Try.prog 50 [.slice (ds.map Dc.enc) .none, .slice (sas.map TB.enc) .none, t.enc, vint tr, .int .i64 n] (.tup [(solveT ds sas n t tr).1.enc, .bool (solveT ds sas n t tr).2])
  | 0, t, tr, _, _ => search_0 ds sas t tr
  | n + 1, t, tr, hn, ht => by
    have hn0 : decide (((n + 1 : Nat) : Int) < 1) = false := decide_eq_false (by omega)
    have hn1 : IntKind.i64.wrap (((n + 1 : Nat) : Int) - 1) = (n : Nat) := by rw [wrap_id (by omega) (by omega)]; omega
    rw [solveT_s]
    refine pc_of (N := 144) Try.func50 rfl rfl (by simp) (by simp [Ty.bel, bel_Dc, bel_TB, Bel.int]) (.tup _ (by simp [Pf.bel, Bel.bool])) ?_
    -- region 0
    repeat (refine awp_seq ?_)
    refine e_eval (by simp only [asq, as0, as1, as2, awanted, aop, LS, SS, SX, HS, mkS_cons, mkS_nil, ↓reduceIte, eq_self', List.map_nil, beq_self_eq_true, Nat.reduceEqDiff, Nat.reduceAdd, Nat.reduceMul, Nat.reduceLT, Nat.reduceLeDiff, Nat.reducePow, Nat.reduceDiv, Nat.reduceMod, Nat.succ_ne_self, Nat.reduceBEq, Nat.reduceBNe, Tryti24, Trytf24, Trytz24, Trytp24, Tryti63, Trytf63, Trytz63, Trytp63, vint, TyS, TyF, TBS, TBF, DcS, DcF, SvS, SvF, PfS, PfF, hn0, hn1] <;> with_reducible rfl) (by decide) ?_
    -- region 1
    repeat (refine awp_seq ?_)
    refine e_eval (by simp only [asq, as0, as1, as2, awanted, aop, abuild, splice, astore, LS, SS, SX, HS, mkS_cons, mkS_nil, ↓reduceIte, eq_self', List.map_nil, beq_self_eq_true, Nat.reduceEqDiff, Nat.reduceAdd, Nat.reduceMul, Nat.reduceLT, Nat.reduceLeDiff, Nat.reducePow, Nat.reduceDiv, Nat.reduceMod, Nat.succ_ne_self, Nat.reduceBEq, Nat.reduceBNe, Tryti63, Trytf63, Trytz63, Trytp63, vint, TyS, TyF, TBS, TBF, DcS, DcF, SvS, SvF, PfS, PfF, hn0, hn1] <;> with_reducible rfl) (by decide) ?_
    -- region 2
    repeat (refine awp_seq ?_)
    refine g_eval (by simp only [gsq, gs0, gs1, gs2, gcond, gop, SG, Op.operands, Call.operands, Array.toList_append, aop, abin, ajust, afldAddr, aload, LS, SS, SX, HS, mkS_cons, mkS_nil, ↓reduceIte, eq_self', List.map_nil, beq_self_eq_true, Nat.reduceEqDiff, Nat.reduceAdd, Nat.reduceMul, Nat.reduceLT, Nat.reduceLeDiff, Nat.reducePow, Nat.reduceDiv, Nat.reduceMod, Nat.succ_ne_self, Nat.reduceBEq, Nat.reduceBNe, Tryti3, Trytz3, Trytp3, Trytk3, Tryti24, Trytf24, Trytz24, Trytp24, vint, TyS, TyF, TBS, TBF, DcS, DcF, SvS, SvF, PfS, PfF, hn0, hn1] <;> with_reducible rfl) (by decide) (by repeat (first | exact Fin.base _ | with_reducible apply Fin.keep | apply Fin.drop)) ?_
    repeat (refine awp_seq ?_)
    refine awp_cond rfl (by simp only [LS, SS, SX, HS, mkS_cons, mkS_nil, ↓reduceIte, eq_self', List.map_nil, beq_self_eq_true, Nat.reduceEqDiff, Nat.reduceAdd, Nat.succ_ne_self, vint, TyS, TyF, TBS, TBF, DcS, DcF, SvS, SvF, PfS, PfF, hn0, hn1] <;> with_reducible rfl) (fun b0 => ?_) (fun b0 => ?_)
    · -- if t37
      have hq : t.kind = 0 ∨ tr < 0 := by simp at b0; omega
      refine awp_sel [10, 12] (by simp only [LS, SS, SX, HS, mkS_cons, mkS_nil, ↓reduceIte, eq_self', List.map_nil, beq_self_eq_true, Nat.reduceEqDiff, Nat.reduceAdd, Nat.succ_ne_self, vint, TyS, TyF, TBS, TBF, DcS, DcF, SvS, SvF, PfS, PfF, hn0, hn1] <;> with_reducible rfl) ?_
      -- region 3
      repeat (refine awp_seq ?_)
      refine e_eval (by simp only [asq, as0, as1, as2, awanted, aop, aload, ajust, astore, splice, LS, SS, SX, HS, mkS_cons, mkS_nil, ↓reduceIte, eq_self', List.map_nil, beq_self_eq_true, Nat.reduceEqDiff, Nat.reduceAdd, Nat.reduceMul, Nat.reduceLT, Nat.reduceLeDiff, Nat.reducePow, Nat.reduceDiv, Nat.reduceMod, Nat.succ_ne_self, Nat.reduceBEq, Nat.reduceBNe, Tryti63, Trytf63, Trytz63, Trytp63, vint, TyS, TyF, TBS, TBF, DcS, DcF, SvS, SvF, PfS, PfF, hn0, hn1] <;> with_reducible rfl) (by decide) ?_
      repeat (refine awp_seq ?_)
      -- leaf 0 ret
      refine awp_ret ⟨.inr rfl, _, (ares_two (.cell 10 63) (.tmp 11) rfl (ares_cell1 Tryti63 (by decide) (by simp only [aload, LS, SS, SX, HS, mkS_cons, mkS_nil, ↓reduceIte, eq_self', List.map_nil, beq_self_eq_true, Nat.reduceEqDiff, Nat.reduceAdd, Nat.reduceMul, Nat.reduceLT, Nat.reduceLeDiff, Nat.reducePow, Nat.reduceDiv, Nat.reduceMod, Nat.succ_ne_self, Nat.reduceBEq, Nat.reduceBNe, vint, TyS, TyF, TBS, TBF, DcS, DcF, SvS, SvF, PfS, PfF, hn0, hn1] <;> with_reducible rfl)) (ares_tmp1 (by decide))), ?_⟩
      rw [if_pos hq]
      simp only [LS, SS, SX, HS, mkS_cons, mkS_nil, ↓reduceIte, eq_self', List.map_nil, beq_self_eq_true, Nat.reduceEqDiff, Nat.reduceAdd, Nat.succ_ne_self, vint, TyS, TyF, TBS, TBF, DcS, DcF, SvS, SvF, PfS, PfF]
      rfl
    · -- else t37
      have hq : ¬ (t.kind = 0 ∨ tr < 0) := by simp at b0; omega
      rw [if_neg hq]
      repeat (refine awp_seq ?_)
      refine awp_skip ?_
      refine awp_sel [0, 1, 3, 4, 7, 10, 12] (by simp only [LS, SS, SX, HS, mkS_cons, mkS_nil, ↓reduceIte, eq_self', List.map_nil, beq_self_eq_true, Nat.reduceEqDiff, Nat.reduceAdd, Nat.succ_ne_self, vint, TyS, TyF, TBS, TBF, DcS, DcF, SvS, SvF, PfS, PfF, hn0, hn1] <;> with_reducible rfl) ?_
      -- region 4
      repeat (refine awp_seq ?_)
      refine e_eval (by simp only [asq, as0, as1, as2, awanted, aop, abuiltin, LS, SS, SX, HS, mkS_cons, mkS_nil, ↓reduceIte, eq_self', List.map_nil, beq_self_eq_true, Nat.reduceEqDiff, Nat.reduceAdd, Nat.reduceMul, Nat.reduceLT, Nat.reduceLeDiff, Nat.reducePow, Nat.reduceDiv, Nat.reduceMod, Nat.succ_ne_self, Nat.reduceBEq, Nat.reduceBNe, Tryti60, Tryte60, Trytz60, Trytp60, Tryti74, Trytf74, Trytz74, Trytp74, vint, TyS, TyF, TBS, TBF, DcS, DcF, SvS, SvF, PfS, PfF, hn0, hn1] <;> with_reducible rfl) (by decide) ?_
      repeat (refine awp_seq ?_)
      refine awp_forS (σ := Unit) (sas.length) (fun (s : Unit) => [(0, .slice (ds.map Dc.enc) .none), (1, .slice (sas.map TB.enc) .none), (3, vint tr), (4, .int .i64 ((n + 1 : Nat) : Int)), (7, .optr 0 0), (10, .optr 1 0), (12, .optr 2 0), (39, .slice (sas.map TB.enc) .none)]) [0, 1, 3, 4, 7, 10, 12, 39] ([]) (fun (s : Unit) => [.row t.enc.cells, .row [.int .i64 0, .int .i64 0, .slice [] .full, .int .i64 0, .int .i64 0, .int .i64 0, .slice [] .full, .slice [] .full], .row [.int .i64 0, .int .i64 0, .slice [] .full, .int .i64 0, .int .i64 0, .int .i64 0, .slice [] .full, .slice [] .full]]) (fun (i : Nat) (s : Unit) => (sas.take i).any (boundP t tr) = false) (()) ([]) rfl rfl rfl rfl rfl rfl rfl rfl rfl (by decide) (by decide) (by decide) (fun _ => rfl) (hsl) ⟨(by first | rfl | (simp only [LS, SS, SX, HS, mkS_cons, mkS_nil, ↓reduceIte, eq_self', List.map_nil, beq_self_eq_true, Nat.reduceEqDiff, Nat.reduceAdd, Nat.succ_ne_self, vint, TyS, TyF, TBS, TBF, DcS, DcF, SvS, SvF, PfS, PfF, hn0, hn1] <;> first | done | with_reducible rfl)), (by first | rfl | (simp only [LS, SS, SX, HS, mkS_cons, mkS_nil, ↓reduceIte, eq_self', List.map_nil, beq_self_eq_true, Nat.reduceEqDiff, Nat.reduceAdd, Nat.succ_ne_self, vint, TyS, TyF, TBS, TBF, DcS, DcF, SvS, SvF, PfS, PfF, hn0, hn1] <;> first | done | with_reducible rfl)), (by first | rfl | (simp only [LS, SS, SX, HS, mkS_cons, mkS_nil, ↓reduceIte, eq_self', List.map_nil, beq_self_eq_true, Nat.reduceEqDiff, Nat.reduceAdd, Nat.succ_ne_self, vint, TyS, TyF, TBS, TBF, DcS, DcF, SvS, SvF, PfS, PfF, hn0, hn1] <;> first | done | with_reducible rfl)), (by first | rfl | (simp only [LS, SS, SX, HS, mkS_cons, mkS_nil, ↓reduceIte, eq_self', List.map_nil, beq_self_eq_true, Nat.reduceEqDiff, Nat.reduceAdd, Nat.succ_ne_self, vint, TyS, TyF, TBS, TBF, DcS, DcF, SvS, SvF, PfS, PfF, hn0, hn1] <;> first | done | with_reducible rfl)), (by first | rfl | (simp only [LS, SS, SX, HS, mkS_cons, mkS_nil, ↓reduceIte, eq_self', List.map_nil, beq_self_eq_true, Nat.reduceEqDiff, Nat.reduceAdd, Nat.succ_ne_self, vint, TyS, TyF, TBS, TBF, DcS, DcF, SvS, SvF, PfS, PfF, hn0, hn1] <;> first | done | with_reducible rfl)), (by first | rfl | (simp only [LS, SS, SX, HS, mkS_cons, mkS_nil, ↓reduceIte, eq_self', List.map_nil, beq_self_eq_true, Nat.reduceEqDiff, Nat.reduceAdd, Nat.succ_ne_self, vint, TyS, TyF, TBS, TBF, DcS, DcF, SvS, SvF, PfS, PfF, hn0, hn1] <;> first | done | with_reducible rfl)), (by first | rfl | (simp only [LS, SS, SX, HS, mkS_cons, mkS_nil, ↓reduceIte, eq_self', List.map_nil, beq_self_eq_true, Nat.reduceEqDiff, Nat.reduceAdd, Nat.succ_ne_self, vint, TyS, TyF, TBS, TBF, DcS, DcF, SvS, SvF, PfS, PfF, hn0, hn1] <;> first | done | with_reducible rfl)), (by first | rfl | (simp only [LS, SS, SX, HS, mkS_cons, mkS_nil, ↓reduceIte, eq_self', List.map_nil, beq_self_eq_true, Nat.reduceEqDiff, Nat.reduceAdd, Nat.succ_ne_self, vint, TyS, TyF, TBS, TBF, DcS, DcF, SvS, SvF, PfS, PfF, hn0, hn1] <;> first | done | with_reducible rfl)), (by first | rfl | (simp only [LS, SS, SX, HS, mkS_cons, mkS_nil, ↓reduceIte, eq_self', List.map_nil, beq_self_eq_true, Nat.reduceEqDiff, Nat.reduceAdd, Nat.succ_ne_self, vint, TyS, TyF, TBS, TBF, DcS, DcF, SvS, SvF, PfS, PfF, hn0, hn1] <;> first | done | with_reducible rfl)), (by first | rfl | (simp only [LS, SS, SX, HS, mkS_cons, mkS_nil, ↓reduceIte, eq_self', List.map_nil, beq_self_eq_true, Nat.reduceEqDiff, Nat.reduceAdd, Nat.succ_ne_self, vint, TyS, TyF, TBS, TBF, DcS, DcF, SvS, SvF, PfS, PfF, hn0, hn1] <;> first | done | with_reducible rfl)), trivial⟩ (by first | rfl | (simp only [LS, SS, SX, HS, mkS_cons, mkS_nil, ↓reduceIte, eq_self', List.map_nil, beq_self_eq_true, Nat.reduceEqDiff, Nat.reduceAdd, Nat.succ_ne_self, vint, TyS, TyF, TBS, TBF, DcS, DcF, SvS, SvF, PfS, PfF, hn0, hn1] <;> first | done | with_reducible rfl)) (by simp) (fun _ _ _ => by first | exact Nat.zero_le _ | (simp only [List.length_append]; omega)) ?_ ?_ ?_
      · exact fun i s hg => ⟨by simp only [TyS, PfS, DcS, List.nil_append, List.append_nil, List.cons_append]; repeat (first | exact hbel_nil _ | exact trivial | exact obel_row_nil _ | (refine HBel.cons ?_ ?_) | (refine obel_row_cons (by first | exact bel_TB _ _ | exact TB.bel _ _ | exact bel_Dc _ _ | exact Dc.bel _ _ | exact Pf.bel _ _ | exact bel_Pf _ _ | exact Sv.bel _ _ | exact bel_Pf_tok _ (by simp) | exact bel_ints0 _ _ | exact bel_slice_ty _ _ | exact Ty.bel _ _ | exact bel_ty_tok _ (by simp) | exact Bel.int _ _ | exact Bel.bool _ | exact Bel.str _ | exact Bel.nilp | exact Bel.nilfn | exact Bel.optr _ _ (by simp) | exact bel_nil0 _ | exact bel_nil1 _ | exact bel_fn0 _ _ | assumption) ?_)), by repeat (first | exact BelL.nil | refine BelL.cons (by first | exact bel_TB _ _ | exact TB.bel _ _ | exact bel_Dc _ _ | exact Dc.bel _ _ | exact Pf.bel _ _ | exact bel_Pf _ _ | exact Sv.bel _ _ | exact bel_Pf_tok _ (by simp) | exact bel_ints0 _ _ | exact bel_slice_ty _ _ | exact Ty.bel _ _ | exact bel_ty_tok _ (by simp) | exact Bel.int _ _ | exact Bel.bool _ | exact Bel.str _ | exact Bel.nilp | exact Bel.nilfn | exact Bel.optr _ _ (by simp) | exact bel_nil0 _ | exact bel_nil1 _ | exact bel_fn0 _ _ | assumption) ?_)⟩
      · intro i s hi hg
        have g1 := ix_nat hi
        have g2 := get_enc TB.enc hi
        obtain ⟨b, hbe⟩ : ∃ b, sas[i] = b := ⟨_, rfl⟩
        have hbw := hs _ (List.getElem_mem hi)
        rw [hbe] at g2 hbw
        -- region 6
        repeat (refine awp_seq ?_)
        refine e_eval (by simp only [asq, as0, as1, as2, awanted, aop, aidxAddr, aidx, ajust, aload, astore, splice, LS, SS, SX, HS, mkS_cons, mkS_nil, ↓reduceIte, eq_self', List.map_nil, beq_self_eq_true, Nat.reduceEqDiff, Nat.reduceAdd, Nat.reduceMul, Nat.reduceLT, Nat.reduceLeDiff, Nat.reducePow, Nat.reduceDiv, Nat.reduceMod, Nat.succ_ne_self, Nat.reduceBEq, Nat.reduceBNe, Tryti60, Tryte60, Trytz60, Trytp60, Tryti74, Trytf74, Trytz74, Trytp74, vint, TyS, TyF, TBS, TBF, DcS, DcF, SvS, SvF, PfS, PfF, hn0, hn1, g1, g2, Int.toNat_natCast] <;> with_reducible rfl) (by decide) ?_
        -- region 7
        repeat (refine awp_seq ?_)
        refine awp_region ?_
        refine aops_gstart ?_
        refine g_take 8 (by simp only [gsq, gs0, gs1, gs2, gcond, gop, SG, Op.operands, Call.operands, Array.toList_append, aop, afldAddr, ajust, aload, abin, LS, SS, SX, HS, mkS_cons, mkS_nil, ↓reduceIte, eq_self', List.map_nil, beq_self_eq_true, Nat.reduceEqDiff, Nat.reduceAdd, Nat.reduceMul, Nat.reduceLT, Nat.reduceLeDiff, Nat.reducePow, Nat.reduceDiv, Nat.reduceMod, Nat.succ_ne_self, Nat.reduceBEq, Nat.reduceBNe, Tryti3, Trytz3, Trytp3, Trytk3, Tryti24, Trytf24, Trytz24, Trytp24, Tryti74, Trytf74, Trytz74, Trytp74, vint, TyS, TyF, TBS, TBF, DcS, DcF, SvS, SvF, PfS, PfF, hn0, hn1, g1, g2, Int.toNat_natCast] <;> with_reducible rfl) (by decide) ?_
        refine aops_gpure (by simp only [acall, gcond, SG, Op.operands, Call.operands, Array.toList_append, LS, SS, SX, HS, mkS_cons, mkS_nil, ↓reduceIte, eq_self', List.map_nil, beq_self_eq_true, Nat.reduceEqDiff, Nat.reduceAdd, Nat.reduceMul, Nat.reduceLT, Nat.reduceLeDiff, Nat.reducePow, Nat.reduceDiv, Nat.reduceMod, Nat.succ_ne_self, Nat.reduceBEq, Nat.reduceBNe, vint, TyS, TyF, TBS, TBF, DcS, DcF, SvS, SvF, PfS, PfF, hn0, hn1, g1, g2, Int.toNat_natCast] <;> with_reducible rfl) (by simp only [acall, gcond, SG, Op.operands, Call.operands, Array.toList_append, LS, SS, SX, HS, mkS_cons, mkS_nil, ↓reduceIte, eq_self', List.map_nil, beq_self_eq_true, Nat.reduceEqDiff, Nat.reduceAdd, Nat.reduceMul, Nat.reduceLT, Nat.reduceLeDiff, Nat.reducePow, Nat.reduceDiv, Nat.reduceMod, Nat.succ_ne_self, Nat.reduceBEq, Nat.reduceBNe, vint, TyS, TyF, TBS, TBF, DcS, DcF, SvS, SvF, PfS, PfF, hn0, hn1, g1, g2, Int.toNat_natCast] <;> with_reducible rfl) (by simp only [acall, gcond, SG, Op.operands, Call.operands, Array.toList_append, LS, SS, SX, HS, mkS_cons, mkS_nil, ↓reduceIte, eq_self', List.map_nil, beq_self_eq_true, Nat.reduceEqDiff, Nat.reduceAdd, Nat.reduceMul, Nat.reduceLT, Nat.reduceLeDiff, Nat.reducePow, Nat.reduceDiv, Nat.reduceMod, Nat.succ_ne_self, Nat.reduceBEq, Nat.reduceBNe, vint, TyS, TyF, TBS, TBF, DcS, DcF, SvS, SvF, PfS, PfF, hn0, hn1, g1, g2, Int.toNat_natCast]) (by decide) Trygo38 (fun hc => typesEq_k _ b.t t (Nat.le_refl _) hbw.st_t _) ?_
        refine g_end (by simp only [gsq, gs0, gs1, gs2, gcond, gop, SG, Op.operands, Call.operands, Array.toList_append, aop, LS, SS, SX, HS, mkS_cons, mkS_nil, ↓reduceIte, eq_self', List.map_nil, beq_self_eq_true, Nat.reduceEqDiff, Nat.reduceAdd, Nat.reduceMul, Nat.reduceLT, Nat.reduceLeDiff, Nat.reducePow, Nat.reduceDiv, Nat.reduceMod, Nat.succ_ne_self, Nat.reduceBEq, Nat.reduceBNe, vint, TyS, TyF, TBS, TBF, DcS, DcF, SvS, SvF, PfS, PfF, hn0, hn1, g1, g2, Int.toNat_natCast] <;> with_reducible rfl) (by decide) (by repeat (first | exact Fin.base _ | with_reducible apply Fin.keep | apply Fin.drop)) ?_
        repeat (refine awp_seq ?_)
        refine awp_cond rfl (by simp only [LS, SS, SX, HS, mkS_cons, mkS_nil, ↓reduceIte, eq_self', List.map_nil, beq_self_eq_true, Nat.reduceEqDiff, Nat.reduceAdd, Nat.succ_ne_self, vint, TyS, TyF, TBS, TBF, DcS, DcF, SvS, SvF, PfS, PfF, hn0, hn1, g1, g2, Int.toNat_natCast] <;> with_reducible rfl) (fun b1 => ?_) (fun b1 => ?_)
        · -- if t55
          have hbp : boundP t tr b = true := by unfold boundP; simpa using b1
          have hix := idxI_at hi (by rw [hbe]; exact hbp) hg
          rw [hix, if_pos (by omega)]
          refine awp_sel [0, 1, 3, 4, 7, 10, 12, 13, 39, 40, 41] (by simp only [LS, SS, SX, HS, mkS_cons, mkS_nil, ↓reduceIte, eq_self', List.map_nil, beq_self_eq_true, Nat.reduceEqDiff, Nat.reduceAdd, Nat.succ_ne_self, vint, TyS, TyF, TBS, TBF, DcS, DcF, SvS, SvF, PfS, PfF, hn0, hn1, g1, g2, Int.toNat_natCast] <;> with_reducible rfl) ?_
          -- region 8
          repeat (refine awp_seq ?_)
          refine e_eval (by simp only [asq, as0, as1, as2, awanted, aop, aload, ajust, abuild, splice, astore, LS, SS, SX, HS, mkS_cons, mkS_nil, ↓reduceIte, eq_self', List.map_nil, beq_self_eq_true, Nat.reduceEqDiff, Nat.reduceAdd, Nat.reduceMul, Nat.reduceLT, Nat.reduceLeDiff, Nat.reducePow, Nat.reduceDiv, Nat.reduceMod, Nat.succ_ne_self, Nat.reduceBEq, Nat.reduceBNe, Tryti24, Trytf24, Trytz24, Trytp24, Tryti63, Trytf63, Trytz63, Trytp63, vint, TyS, TyF, TBS, TBF, DcS, DcF, SvS, SvF, PfS, PfF, hn0, hn1, g1, g2, Int.toNat_natCast] <;> with_reducible rfl) (by decide) ?_
          repeat (refine awp_seq ?_)
          -- leaf 1 ret
          refine awp_ret ⟨.inr rfl, _, (ares_two (.cell 10 63) (.tmp 11) rfl (ares_cell1 Tryti63 (by decide) (by simp only [aload, LS, SS, SX, HS, mkS_cons, mkS_nil, ↓reduceIte, eq_self', List.map_nil, beq_self_eq_true, Nat.reduceEqDiff, Nat.reduceAdd, Nat.reduceMul, Nat.reduceLT, Nat.reduceLeDiff, Nat.reducePow, Nat.reduceDiv, Nat.reduceMod, Nat.succ_ne_self, Nat.reduceBEq, Nat.reduceBNe, vint, TyS, TyF, TBS, TBF, DcS, DcF, SvS, SvF, PfS, PfF, hn0, hn1, g1, g2, Int.toNat_natCast] <;> with_reducible rfl)) (ares_tmp1 (by decide))), ?_⟩
          simp only [LS, SS, SX, HS, mkS_cons, mkS_nil, ↓reduceIte, eq_self', List.map_nil, beq_self_eq_true, Nat.reduceEqDiff, Nat.reduceAdd, Nat.succ_ne_self, vint, TyS, TyF, TBS, TBF, DcS, DcF, SvS, SvF, PfS, PfF]
        · -- else t55
          have hbp : boundP t tr b = false := by unfold boundP; simpa using b1
          repeat (refine awp_seq ?_)
          refine awp_skip ?_
          -- leaf 2 next0
          exact ⟨⟨rfl, rfl, trivial⟩, (), _, ⟨rfl, rfl, rfl, rfl, rfl, rfl, rfl, rfl, trivial⟩, by simp only [LS, SS, SX, HS, mkS_cons, mkS_nil, ↓reduceIte, eq_self', List.map_nil, beq_self_eq_true, Nat.reduceEqDiff, Nat.reduceAdd, Nat.succ_ne_self, vint, TyS, TyF, TBS, TBF, DcS, DcF, SvS, SvF, PfS, PfF] <;> rfl, any_take_succ hi hg (by rw [hbe]; exact hbp)⟩
      · intro s hg
        rw [List.take_length] at hg
        have h2 : ¬ 0 ≤ idxI (boundP t tr) sas := by rw [idxI_none hg]; omega
        rw [if_neg h2]
        -- region 10
        repeat (refine awp_seq ?_)
        refine e_eval (by simp only [asq, as0, as1, as2, awanted, aop, abuiltin, LS, SS, SX, HS, mkS_cons, mkS_nil, ↓reduceIte, eq_self', List.map_nil, beq_self_eq_true, Nat.reduceEqDiff, Nat.reduceAdd, Nat.reduceMul, Nat.reduceLT, Nat.reduceLeDiff, Nat.reducePow, Nat.reduceDiv, Nat.reduceMod, Nat.succ_ne_self, Nat.reduceBEq, Nat.reduceBNe, Tryti59, Tryte59, Trytz59, Trytp59, Tryti71, Trytf71, Trytz71, Trytp71, vint, TyS, TyF, TBS, TBF, DcS, DcF, SvS, SvF, PfS, PfF, hn0, hn1] <;> with_reducible rfl) (by decide) ?_
        repeat (refine awp_seq ?_)
        refine awp_forS (σ := Unit) (ds.length) (fun (s : Unit) => [(0, .slice (ds.map Dc.enc) .none), (1, .slice (sas.map TB.enc) .none), (3, vint tr), (4, .int .i64 ((n + 1 : Nat) : Int)), (7, .optr 0 0), (10, .optr 1 0), (12, .optr 2 0), (61, .slice (ds.map Dc.enc) .none)]) [0, 1, 3, 4, 7, 10, 12, 61] ([]) (fun (s : Unit) => [.row t.enc.cells, .row [.int .i64 0, .int .i64 0, .slice [] .full, .int .i64 0, .int .i64 0, .int .i64 0, .slice [] .full, .slice [] .full], .row [.int .i64 0, .int .i64 0, .slice [] .full, .int .i64 0, .int .i64 0, .int .i64 0, .slice [] .full, .slice [] .full]]) (fun (i : Nat) (s : Unit) => (ds.take i).any (implP t tr) = false) (()) ([]) rfl rfl rfl rfl rfl rfl rfl rfl rfl (by decide) (by decide) (by decide) (fun _ => rfl) (hl) ⟨(by first | rfl | (simp only [LS, SS, SX, HS, mkS_cons, mkS_nil, ↓reduceIte, eq_self', List.map_nil, beq_self_eq_true, Nat.reduceEqDiff, Nat.reduceAdd, Nat.succ_ne_self, vint, TyS, TyF, TBS, TBF, DcS, DcF, SvS, SvF, PfS, PfF, hn0, hn1] <;> first | done | with_reducible rfl)), (by first | rfl | (simp only [LS, SS, SX, HS, mkS_cons, mkS_nil, ↓reduceIte, eq_self', List.map_nil, beq_self_eq_true, Nat.reduceEqDiff, Nat.reduceAdd, Nat.succ_ne_self, vint, TyS, TyF, TBS, TBF, DcS, DcF, SvS, SvF, PfS, PfF, hn0, hn1] <;> first | done | with_reducible rfl)), (by first | rfl | (simp only [LS, SS, SX, HS, mkS_cons, mkS_nil, ↓reduceIte, eq_self', List.map_nil, beq_self_eq_true, Nat.reduceEqDiff, Nat.reduceAdd, Nat.succ_ne_self, vint, TyS, TyF, TBS, TBF, DcS, DcF, SvS, SvF, PfS, PfF, hn0, hn1] <;> first | done | with_reducible rfl)), (by first | rfl | (simp only [LS, SS, SX, HS, mkS_cons, mkS_nil, ↓reduceIte, eq_self', List.map_nil, beq_self_eq_true, Nat.reduceEqDiff, Nat.reduceAdd, Nat.succ_ne_self, vint, TyS, TyF, TBS, TBF, DcS, DcF, SvS, SvF, PfS, PfF, hn0, hn1] <;> first | done | with_reducible rfl)), (by first | rfl | (simp only [LS, SS, SX, HS, mkS_cons, mkS_nil, ↓reduceIte, eq_self', List.map_nil, beq_self_eq_true, Nat.reduceEqDiff, Nat.reduceAdd, Nat.succ_ne_self, vint, TyS, TyF, TBS, TBF, DcS, DcF, SvS, SvF, PfS, PfF, hn0, hn1] <;> first | done | with_reducible rfl)), (by first | rfl | (simp only [LS, SS, SX, HS, mkS_cons, mkS_nil, ↓reduceIte, eq_self', List.map_nil, beq_self_eq_true, Nat.reduceEqDiff, Nat.reduceAdd, Nat.succ_ne_self, vint, TyS, TyF, TBS, TBF, DcS, DcF, SvS, SvF, PfS, PfF, hn0, hn1] <;> first | done | with_reducible rfl)), (by first | rfl | (simp only [LS, SS, SX, HS, mkS_cons, mkS_nil, ↓reduceIte, eq_self', List.map_nil, beq_self_eq_true, Nat.reduceEqDiff, Nat.reduceAdd, Nat.succ_ne_self, vint, TyS, TyF, TBS, TBF, DcS, DcF, SvS, SvF, PfS, PfF, hn0, hn1] <;> first | done | with_reducible rfl)), (by first | rfl | (simp only [LS, SS, SX, HS, mkS_cons, mkS_nil, ↓reduceIte, eq_self', List.map_nil, beq_self_eq_true, Nat.reduceEqDiff, Nat.reduceAdd, Nat.succ_ne_self, vint, TyS, TyF, TBS, TBF, DcS, DcF, SvS, SvF, PfS, PfF, hn0, hn1] <;> first | done | with_reducible rfl)), (by first | rfl | (simp only [LS, SS, SX, HS, mkS_cons, mkS_nil, ↓reduceIte, eq_self', List.map_nil, beq_self_eq_true, Nat.reduceEqDiff, Nat.reduceAdd, Nat.succ_ne_self, vint, TyS, TyF, TBS, TBF, DcS, DcF, SvS, SvF, PfS, PfF, hn0, hn1] <;> first | done | with_reducible rfl)), (by first | rfl | (simp only [LS, SS, SX, HS, mkS_cons, mkS_nil, ↓reduceIte, eq_self', List.map_nil, beq_self_eq_true, Nat.reduceEqDiff, Nat.reduceAdd, Nat.succ_ne_self, vint, TyS, TyF, TBS, TBF, DcS, DcF, SvS, SvF, PfS, PfF, hn0, hn1] <;> first | done | with_reducible rfl)), trivial⟩ (by first | rfl | (simp only [LS, SS, SX, HS, mkS_cons, mkS_nil, ↓reduceIte, eq_self', List.map_nil, beq_self_eq_true, Nat.reduceEqDiff, Nat.reduceAdd, Nat.succ_ne_self, vint, TyS, TyF, TBS, TBF, DcS, DcF, SvS, SvF, PfS, PfF, hn0, hn1] <;> first | done | with_reducible rfl)) (by simp) (fun _ _ _ => by first | exact Nat.zero_le _ | (simp only [List.length_append]; omega)) ?_ ?_ ?_
        · exact fun i s hg => ⟨by simp only [TyS, PfS, DcS, List.nil_append, List.append_nil, List.cons_append]; repeat (first | exact hbel_nil _ | exact trivial | exact obel_row_nil _ | (refine HBel.cons ?_ ?_) | (refine obel_row_cons (by first | exact bel_TB _ _ | exact TB.bel _ _ | exact bel_Dc _ _ | exact Dc.bel _ _ | exact Pf.bel _ _ | exact bel_Pf _ _ | exact Sv.bel _ _ | exact bel_Pf_tok _ (by simp) | exact bel_ints0 _ _ | exact bel_slice_ty _ _ | exact Ty.bel _ _ | exact bel_ty_tok _ (by simp) | exact Bel.int _ _ | exact Bel.bool _ | exact Bel.str _ | exact Bel.nilp | exact Bel.nilfn | exact Bel.optr _ _ (by simp) | exact bel_nil0 _ | exact bel_nil1 _ | exact bel_fn0 _ _ | assumption) ?_)), by repeat (first | exact BelL.nil | refine BelL.cons (by first | exact bel_TB _ _ | exact TB.bel _ _ | exact bel_Dc _ _ | exact Dc.bel _ _ | exact Pf.bel _ _ | exact bel_Pf _ _ | exact Sv.bel _ _ | exact bel_Pf_tok _ (by simp) | exact bel_ints0 _ _ | exact bel_slice_ty _ _ | exact Ty.bel _ _ | exact bel_ty_tok _ (by simp) | exact Bel.int _ _ | exact Bel.bool _ | exact Bel.str _ | exact Bel.nilp | exact Bel.nilfn | exact Bel.optr _ _ (by simp) | exact bel_nil0 _ | exact bel_nil1 _ | exact bel_fn0 _ _ | assumption) ?_)⟩
        · intro i s hi hg
          have g1 := ix_nat hi
          have g2 := get_enc Dc.enc hi
          obtain ⟨d, hde⟩ : ∃ d, ds[i] = d := ⟨_, rfl⟩
          obtain ⟨⟨hW, h40⟩, hdz⟩ := hd _ (List.getElem_mem hi)
          rw [hde] at g2 hW h40 hdz
          have hps := hW.max_ps
          -- region 12
          repeat (refine awp_seq ?_)
          refine e_eval (by simp only [asq, as0, as1, as2, awanted, aop, aidxAddr, aidx, ajust, aload, astore, splice, LS, SS, SX, HS, mkS_cons, mkS_nil, ↓reduceIte, eq_self', List.map_nil, beq_self_eq_true, Nat.reduceEqDiff, Nat.reduceAdd, Nat.reduceMul, Nat.reduceLT, Nat.reduceLeDiff, Nat.reducePow, Nat.reduceDiv, Nat.reduceMod, Nat.succ_ne_self, Nat.reduceBEq, Nat.reduceBNe, Tryti59, Tryte59, Trytz59, Trytp59, Tryti71, Trytf71, Trytz71, Trytp71, vint, TyS, TyF, TBS, TBF, DcS, DcF, SvS, SvF, PfS, PfF, hn0, hn1, g1, g2, Int.toNat_natCast] <;> with_reducible rfl) (by decide) ?_
          -- region 13
          repeat (refine awp_seq ?_)
          refine e_eval (by simp only [asq, as0, as1, as2, awanted, aop, afldAddr, ajust, aload, abin, LS, SS, SX, HS, mkS_cons, mkS_nil, ↓reduceIte, eq_self', List.map_nil, beq_self_eq_true, Nat.reduceEqDiff, Nat.reduceAdd, Nat.reduceMul, Nat.reduceLT, Nat.reduceLeDiff, Nat.reducePow, Nat.reduceDiv, Nat.reduceMod, Nat.succ_ne_self, Nat.reduceBEq, Nat.reduceBNe, Tryti3, Trytz3, Trytp3, Trytk3, Tryti71, Trytf71, Trytz71, Trytp71, vint, TyS, TyF, TBS, TBF, DcS, DcF, SvS, SvF, PfS, PfF, hn0, hn1, g1, g2, Int.toNat_natCast] <;> with_reducible rfl) (by decide) ?_
          repeat (refine awp_seq ?_)
          refine awp_cond rfl (by simp only [LS, SS, SX, HS, mkS_cons, mkS_nil, ↓reduceIte, eq_self', List.map_nil, beq_self_eq_true, Nat.reduceEqDiff, Nat.reduceAdd, Nat.succ_ne_self, vint, TyS, TyF, TBS, TBF, DcS, DcF, SvS, SvF, PfS, PfF, hn0, hn1, g1, g2, Int.toNat_natCast] <;> with_reducible rfl) (fun b2 => ?_) (fun b2 => ?_)
          · -- if t71
            have htr : ¬ d.tr = tr := by simpa using b2
            repeat (refine awp_seq ?_)
            refine awp_exit ?_
            -- leaf 3 next2
            exact ⟨⟨rfl, rfl, trivial⟩, (), _, ⟨rfl, rfl, rfl, rfl, rfl, rfl, rfl, rfl, trivial⟩, by simp only [LS, SS, SX, HS, mkS_cons, mkS_nil, ↓reduceIte, eq_self', List.map_nil, beq_self_eq_true, Nat.reduceEqDiff, Nat.reduceAdd, Nat.succ_ne_self, vint, TyS, TyF, TBS, TBF, DcS, DcF, SvS, SvF, PfS, PfF] <;> rfl, any_take_succ hi hg (by rw [hde]; unfold implP; simp [htr])⟩
          · -- else t71
            have htr : d.tr = tr := by simpa using b2
            repeat (refine awp_seq ?_)
            refine awp_skip ?_
            -- region 14
            repeat (refine awp_seq ?_)
            refine awp_region ?_
            refine e_take 5 (by simp only [asq, as0, as1, as2, awanted, aop, aload, ajust, afldAddr, LS, SS, SX, HS, mkS_cons, mkS_nil, ↓reduceIte, eq_self', List.map_nil, beq_self_eq_true, Nat.reduceEqDiff, Nat.reduceAdd, Nat.reduceMul, Nat.reduceLT, Nat.reduceLeDiff, Nat.reducePow, Nat.reduceDiv, Nat.reduceMod, Nat.succ_ne_self, Nat.reduceBEq, Nat.reduceBNe, Tryti3, Trytz3, Trytp3, Trytk3, Tryti24, Trytf24, Trytz24, Trytp24, Tryti25, Tryte25, Trytz25, Trytp25, Tryti71, Trytf71, Trytz71, Trytp71, vint, TyS, TyF, TBS, TBF, DcS, DcF, SvS, SvF, PfS, PfF, hn0, hn1, g1, g2, Int.toNat_natCast] <;> with_reducible rfl) (by decide) ?_
            refine aops_pure (by simp only [acall, awanted, LS, SS, SX, HS, mkS_cons, mkS_nil, ↓reduceIte, eq_self', List.map_nil, beq_self_eq_true, Nat.reduceEqDiff, Nat.reduceAdd, Nat.reduceMul, Nat.reduceLT, Nat.reduceLeDiff, Nat.reducePow, Nat.reduceDiv, Nat.reduceMod, Nat.succ_ne_self, Nat.reduceBEq, Nat.reduceBNe, vint, TyS, TyF, TBS, TBF, DcS, DcF, SvS, SvF, PfS, PfF, hn0, hn1, g1, g2, Int.toNat_natCast] <;> with_reducible rfl) (by simp only [acall, awanted, LS, SS, SX, HS, mkS_cons, mkS_nil, ↓reduceIte, eq_self', List.map_nil, beq_self_eq_true, Nat.reduceEqDiff, Nat.reduceAdd, Nat.reduceMul, Nat.reduceLT, Nat.reduceLeDiff, Nat.reducePow, Nat.reduceDiv, Nat.reduceMod, Nat.succ_ne_self, Nat.reduceBEq, Nat.reduceBNe, vint, TyS, TyF, TBS, TBF, DcS, DcF, SvS, SvF, PfS, PfF, hn0, hn1, g1, g2, Int.toNat_natCast]) (by decide) Trygo103 (refM_c d.ps t d.t h40 ht hW.st_t hdz _) ?_
            refine e_end (by simp only [asq, as0, as1, as2, awanted, aop, ajust, LS, SS, SX, HS, mkS_cons, mkS_nil, ↓reduceIte, eq_self', List.map_nil, beq_self_eq_true, Nat.reduceEqDiff, Nat.reduceAdd, Nat.reduceMul, Nat.reduceLT, Nat.reduceLeDiff, Nat.reducePow, Nat.reduceDiv, Nat.reduceMod, Nat.succ_ne_self, Nat.reduceBEq, Nat.reduceBNe, vint, TyS, TyF, TBS, TBF, DcS, DcF, SvS, SvF, PfS, PfF, hn0, hn1, g1, g2, Int.toNat_natCast] <;> with_reducible rfl) (by decide) ?_
            refine awp_sel [0, 1, 3, 4, 7, 10, 12, 15, 16, 17, 18, 61, 62, 63] (by simp only [LS, SS, SX, HS, mkS_cons, mkS_nil, ↓reduceIte, eq_self', List.map_nil, beq_self_eq_true, Nat.reduceEqDiff, Nat.reduceAdd, Nat.succ_ne_self, vint, TyS, TyF, TBS, TBF, DcS, DcF, SvS, SvF, PfS, PfF, hn0, hn1, g1, g2, Int.toNat_natCast] <;> with_reducible rfl) ?_
            -- region 15
            repeat (refine awp_seq ?_)
            refine e_eval (by simp only [asq, as0, as1, as2, awanted, aop, afldAddr, ajust, aload, abuiltin, LS, SS, SX, HS, mkS_cons, mkS_nil, ↓reduceIte, eq_self', List.map_nil, beq_self_eq_true, Nat.reduceEqDiff, Nat.reduceAdd, Nat.reduceMul, Nat.reduceLT, Nat.reduceLeDiff, Nat.reducePow, Nat.reduceDiv, Nat.reduceMod, Nat.succ_ne_self, Nat.reduceBEq, Nat.reduceBNe, Tryti3, Trytz3, Trytp3, Trytk3, Tryti25, Tryte25, Trytz25, Trytp25, Tryti71, Trytf71, Trytz71, Trytp71, vint, TyS, TyF, TBS, TBF, DcS, DcF, SvS, SvF, PfS, PfF, hn0, hn1, g1, g2, Int.toNat_natCast] <;> with_reducible rfl) (by decide) ?_
            repeat (refine awp_seq ?_)
            refine awp_forS (σ := Bool) (d.ps.length) (fun (f : Bool) => [(0, .slice (ds.map Dc.enc) .none), (1, .slice (sas.map TB.enc) .none), (3, vint tr), (4, .int .i64 ((n + 1 : Nat) : Int)), (7, .optr 0 0), (10, .optr 1 0), (12, .optr 2 0), (61, .slice (ds.map Dc.enc) .none), (62, .int .i64 (ds.length : Nat)), (63, .int .i64 ((i : Nat) : Int)), (15, .int .i64 ((i : Nat) : Int)), (16, .optr 3 0), (17, .slice ((matchP d.ps t d.t).1.map Ty.enc) .none), (18, .bool f), (82, .slice (d.ps.map vint) .none)]) [0, 1, 3, 4, 7, 10, 12, 61, 62, 63, 15, 16, 17, 18, 82] ([]) (fun (f : Bool) => [.row t.enc.cells, .row [.int .i64 0, .int .i64 0, .slice [] .full, .int .i64 0, .int .i64 0, .int .i64 0, .slice [] .full, .slice [] .full], .row [.int .i64 0, .int .i64 0, .slice [] .full, .int .i64 0, .int .i64 0, .int .i64 0, .slice [] .full, .slice [] .full], .row d.enc.cells]) (fun (j : Nat) (f : Bool) => f = ((matchP d.ps t d.t).2 && (d.ps.take j).all fun p => cpar p d.t)) ((matchP d.ps t d.t).2) ([]) rfl rfl rfl rfl rfl rfl rfl rfl rfl (by decide) (by decide) (by decide) (fun _ => rfl) (hps) ⟨(by first | rfl | (simp only [LS, SS, SX, HS, mkS_cons, mkS_nil, ↓reduceIte, eq_self', List.map_nil, beq_self_eq_true, Nat.reduceEqDiff, Nat.reduceAdd, Nat.succ_ne_self, vint, TyS, TyF, TBS, TBF, DcS, DcF, SvS, SvF, PfS, PfF, hn0, hn1, g1, g2, Int.toNat_natCast] <;> first | done | with_reducible rfl)), (by first | rfl | (simp only [LS, SS, SX, HS, mkS_cons, mkS_nil, ↓reduceIte, eq_self', List.map_nil, beq_self_eq_true, Nat.reduceEqDiff, Nat.reduceAdd, Nat.succ_ne_self, vint, TyS, TyF, TBS, TBF, DcS, DcF, SvS, SvF, PfS, PfF, hn0, hn1, g1, g2, Int.toNat_natCast] <;> first | done | with_reducible rfl)), (by first | rfl | (simp only [LS, SS, SX, HS, mkS_cons, mkS_nil, ↓reduceIte, eq_self', List.map_nil, beq_self_eq_true, Nat.reduceEqDiff, Nat.reduceAdd, Nat.succ_ne_self, vint, TyS, TyF, TBS, TBF, DcS, DcF, SvS, SvF, PfS, PfF, hn0, hn1, g1, g2, Int.toNat_natCast] <;> first | done | with_reducible rfl)), (by first | rfl | (simp only [LS, SS, SX, HS, mkS_cons, mkS_nil, ↓reduceIte, eq_self', List.map_nil, beq_self_eq_true, Nat.reduceEqDiff, Nat.reduceAdd, Nat.succ_ne_self, vint, TyS, TyF, TBS, TBF, DcS, DcF, SvS, SvF, PfS, PfF, hn0, hn1, g1, g2, Int.toNat_natCast] <;> first | done | with_reducible rfl)), (by first | rfl | (simp only [LS, SS, SX, HS, mkS_cons, mkS_nil, ↓reduceIte, eq_self', List.map_nil, beq_self_eq_true, Nat.reduceEqDiff, Nat.reduceAdd, Nat.succ_ne_self, vint, TyS, TyF, TBS, TBF, DcS, DcF, SvS, SvF, PfS, PfF, hn0, hn1, g1, g2, Int.toNat_natCast] <;> first | done | with_reducible rfl)), (by first | rfl | (simp only [LS, SS, SX, HS, mkS_cons, mkS_nil, ↓reduceIte, eq_self', List.map_nil, beq_self_eq_true, Nat.reduceEqDiff, Nat.reduceAdd, Nat.succ_ne_self, vint, TyS, TyF, TBS, TBF, DcS, DcF, SvS, SvF, PfS, PfF, hn0, hn1, g1, g2, Int.toNat_natCast] <;> first | done | with_reducible rfl)), (by first | rfl | (simp only [LS, SS, SX, HS, mkS_cons, mkS_nil, ↓reduceIte, eq_self', List.map_nil, beq_self_eq_true, Nat.reduceEqDiff, Nat.reduceAdd, Nat.succ_ne_self, vint, TyS, TyF, TBS, TBF, DcS, DcF, SvS, SvF, PfS, PfF, hn0, hn1, g1, g2, Int.toNat_natCast] <;> first | done | with_reducible rfl)), (by first | rfl | (simp only [LS, SS, SX, HS, mkS_cons, mkS_nil, ↓reduceIte, eq_self', List.map_nil, beq_self_eq_true, Nat.reduceEqDiff, Nat.reduceAdd, Nat.succ_ne_self, vint, TyS, TyF, TBS, TBF, DcS, DcF, SvS, SvF, PfS, PfF, hn0, hn1, g1, g2, Int.toNat_natCast] <;> first | done | with_reducible rfl)), (by first | rfl | (simp only [LS, SS, SX, HS, mkS_cons, mkS_nil, ↓reduceIte, eq_self', List.map_nil, beq_self_eq_true, Nat.reduceEqDiff, Nat.reduceAdd, Nat.succ_ne_self, vint, TyS, TyF, TBS, TBF, DcS, DcF, SvS, SvF, PfS, PfF, hn0, hn1, g1, g2, Int.toNat_natCast] <;> first | done | with_reducible rfl)), (by first | rfl | (simp only [LS, SS, SX, HS, mkS_cons, mkS_nil, ↓reduceIte, eq_self', List.map_nil, beq_self_eq_true, Nat.reduceEqDiff, Nat.reduceAdd, Nat.succ_ne_self, vint, TyS, TyF, TBS, TBF, DcS, DcF, SvS, SvF, PfS, PfF, hn0, hn1, g1, g2, Int.toNat_natCast] <;> first | done | with_reducible rfl)), (by first | rfl | (simp only [LS, SS, SX, HS, mkS_cons, mkS_nil, ↓reduceIte, eq_self', List.map_nil, beq_self_eq_true, Nat.reduceEqDiff, Nat.reduceAdd, Nat.succ_ne_self, vint, TyS, TyF, TBS, TBF, DcS, DcF, SvS, SvF, PfS, PfF, hn0, hn1, g1, g2, Int.toNat_natCast] <;> first | done | with_reducible rfl)), (by first | rfl | (simp only [LS, SS, SX, HS, mkS_cons, mkS_nil, ↓reduceIte, eq_self', List.map_nil, beq_self_eq_true, Nat.reduceEqDiff, Nat.reduceAdd, Nat.succ_ne_self, vint, TyS, TyF, TBS, TBF, DcS, DcF, SvS, SvF, PfS, PfF, hn0, hn1, g1, g2, Int.toNat_natCast] <;> first | done | with_reducible rfl)), (by first | rfl | (simp only [LS, SS, SX, HS, mkS_cons, mkS_nil, ↓reduceIte, eq_self', List.map_nil, beq_self_eq_true, Nat.reduceEqDiff, Nat.reduceAdd, Nat.succ_ne_self, vint, TyS, TyF, TBS, TBF, DcS, DcF, SvS, SvF, PfS, PfF, hn0, hn1, g1, g2, Int.toNat_natCast] <;> first | done | with_reducible rfl)), (by first | rfl | (simp only [LS, SS, SX, HS, mkS_cons, mkS_nil, ↓reduceIte, eq_self', List.map_nil, beq_self_eq_true, Nat.reduceEqDiff, Nat.reduceAdd, Nat.succ_ne_self, vint, TyS, TyF, TBS, TBF, DcS, DcF, SvS, SvF, PfS, PfF, hn0, hn1, g1, g2, Int.toNat_natCast] <;> first | done | with_reducible rfl)), (by first | rfl | (simp only [LS, SS, SX, HS, mkS_cons, mkS_nil, ↓reduceIte, eq_self', List.map_nil, beq_self_eq_true, Nat.reduceEqDiff, Nat.reduceAdd, Nat.succ_ne_self, vint, TyS, TyF, TBS, TBF, DcS, DcF, SvS, SvF, PfS, PfF, hn0, hn1, g1, g2, Int.toNat_natCast] <;> first | done | with_reducible rfl)), (by first | rfl | (simp only [LS, SS, SX, HS, mkS_cons, mkS_nil, ↓reduceIte, eq_self', List.map_nil, beq_self_eq_true, Nat.reduceEqDiff, Nat.reduceAdd, Nat.succ_ne_self, vint, TyS, TyF, TBS, TBF, DcS, DcF, SvS, SvF, PfS, PfF, hn0, hn1, g1, g2, Int.toNat_natCast] <;> first | done | with_reducible rfl)), (by first | rfl | (simp only [LS, SS, SX, HS, mkS_cons, mkS_nil, ↓reduceIte, eq_self', List.map_nil, beq_self_eq_true, Nat.reduceEqDiff, Nat.reduceAdd, Nat.succ_ne_self, vint, TyS, TyF, TBS, TBF, DcS, DcF, SvS, SvF, PfS, PfF, hn0, hn1, g1, g2, Int.toNat_natCast] <;> first | done | with_reducible rfl)), trivial⟩ (by first | rfl | (simp only [LS, SS, SX, HS, mkS_cons, mkS_nil, ↓reduceIte, eq_self', List.map_nil, beq_self_eq_true, Nat.reduceEqDiff, Nat.reduceAdd, Nat.succ_ne_self, vint, TyS, TyF, TBS, TBF, DcS, DcF, SvS, SvF, PfS, PfF, hn0, hn1, g1, g2, Int.toNat_natCast] <;> first | done | with_reducible rfl)) (by simp) (fun _ _ _ => by first | exact Nat.zero_le _ | (simp only [List.length_append]; omega)) ?_ ?_ ?_
            · exact fun i f hg => ⟨by simp only [TyS, PfS, DcS, List.nil_append, List.append_nil, List.cons_append]; repeat (first | exact hbel_nil _ | exact trivial | exact obel_row_nil _ | (refine HBel.cons ?_ ?_) | (refine obel_row_cons (by first | exact bel_TB _ _ | exact TB.bel _ _ | exact bel_Dc _ _ | exact Dc.bel _ _ | exact Pf.bel _ _ | exact bel_Pf _ _ | exact Sv.bel _ _ | exact bel_Pf_tok _ (by simp) | exact bel_ints0 _ _ | exact bel_slice_ty _ _ | exact Ty.bel _ _ | exact bel_ty_tok _ (by simp) | exact Bel.int _ _ | exact Bel.bool _ | exact Bel.str _ | exact Bel.nilp | exact Bel.nilfn | exact Bel.optr _ _ (by simp) | exact bel_nil0 _ | exact bel_nil1 _ | exact bel_fn0 _ _ | assumption) ?_)), by repeat (first | exact BelL.nil | refine BelL.cons (by first | exact bel_TB _ _ | exact TB.bel _ _ | exact bel_Dc _ _ | exact Dc.bel _ _ | exact Pf.bel _ _ | exact bel_Pf _ _ | exact Sv.bel _ _ | exact bel_Pf_tok _ (by simp) | exact bel_ints0 _ _ | exact bel_slice_ty _ _ | exact Ty.bel _ _ | exact bel_ty_tok _ (by simp) | exact Bel.int _ _ | exact Bel.bool _ | exact Bel.str _ | exact Bel.nilp | exact Bel.nilfn | exact Bel.optr _ _ (by simp) | exact bel_nil0 _ | exact bel_nil1 _ | exact bel_fn0 _ _ | assumption) ?_)⟩
            · intro j f hj hh
              have q1 := ix_nat hj
              have q2 := get_enc vint hj
              -- region 17
              repeat (refine awp_seq ?_)
              refine e_eval (by simp only [asq, as0, as1, as2, awanted, aop, aidxAddr, aidx, ajust, aload, LS, SS, SX, HS, mkS_cons, mkS_nil, ↓reduceIte, eq_self', List.map_nil, beq_self_eq_true, Nat.reduceEqDiff, Nat.reduceAdd, Nat.reduceMul, Nat.reduceLT, Nat.reduceLeDiff, Nat.reducePow, Nat.reduceDiv, Nat.reduceMod, Nat.succ_ne_self, Nat.reduceBEq, Nat.reduceBNe, Tryti3, Trytz3, Trytp3, Trytk3, Tryti25, Tryte25, Trytz25, Trytp25, vint, TyS, TyF, TBS, TBF, DcS, DcF, SvS, SvF, PfS, PfF, hn0, hn1, g1, g2, Int.toNat_natCast, q1, q2, Int.toNat_natCast] <;> with_reducible rfl) (by decide) ?_
              -- region 18
              repeat (refine awp_seq ?_)
              refine awp_region ?_
              refine aops_gstart ?_
              refine g_take 5 (by simp only [gsq, gs0, gs1, gs2, gcond, gop, SG, Op.operands, Call.operands, Array.toList_append, aop, afldAddr, ajust, aload, LS, SS, SX, HS, mkS_cons, mkS_nil, ↓reduceIte, eq_self', List.map_nil, beq_self_eq_true, Nat.reduceEqDiff, Nat.reduceAdd, Nat.reduceMul, Nat.reduceLT, Nat.reduceLeDiff, Nat.reducePow, Nat.reduceDiv, Nat.reduceMod, Nat.succ_ne_self, Nat.reduceBEq, Nat.reduceBNe, Tryti24, Trytf24, Trytz24, Trytp24, Tryti71, Trytf71, Trytz71, Trytp71, vint, TyS, TyF, TBS, TBF, DcS, DcF, SvS, SvF, PfS, PfF, hn0, hn1, g1, g2, Int.toNat_natCast, q1, q2, Int.toNat_natCast] <;> with_reducible rfl) (by decide) ?_
              refine aops_gpure (by simp only [acall, gcond, SG, Op.operands, Call.operands, Array.toList_append, LS, SS, SX, HS, mkS_cons, mkS_nil, ↓reduceIte, eq_self', List.map_nil, beq_self_eq_true, Nat.reduceEqDiff, Nat.reduceAdd, Nat.reduceMul, Nat.reduceLT, Nat.reduceLeDiff, Nat.reducePow, Nat.reduceDiv, Nat.reduceMod, Nat.succ_ne_self, Nat.reduceBEq, Nat.reduceBNe, vint, TyS, TyF, TBS, TBF, DcS, DcF, SvS, SvF, PfS, PfF, hn0, hn1, g1, g2, Int.toNat_natCast, q1, q2, Int.toNat_natCast] <;> with_reducible rfl) (by simp only [acall, gcond, SG, Op.operands, Call.operands, Array.toList_append, LS, SS, SX, HS, mkS_cons, mkS_nil, ↓reduceIte, eq_self', List.map_nil, beq_self_eq_true, Nat.reduceEqDiff, Nat.reduceAdd, Nat.reduceMul, Nat.reduceLT, Nat.reduceLeDiff, Nat.reducePow, Nat.reduceDiv, Nat.reduceMod, Nat.succ_ne_self, Nat.reduceBEq, Nat.reduceBNe, vint, TyS, TyF, TBS, TBF, DcS, DcF, SvS, SvF, PfS, PfF, hn0, hn1, g1, g2, Int.toNat_natCast, q1, q2, Int.toNat_natCast] <;> with_reducible rfl) (by simp only [acall, gcond, SG, Op.operands, Call.operands, Array.toList_append, LS, SS, SX, HS, mkS_cons, mkS_nil, ↓reduceIte, eq_self', List.map_nil, beq_self_eq_true, Nat.reduceEqDiff, Nat.reduceAdd, Nat.reduceMul, Nat.reduceLT, Nat.reduceLeDiff, Nat.reducePow, Nat.reduceDiv, Nat.reduceMod, Nat.succ_ne_self, Nat.reduceBEq, Nat.reduceBNe, vint, TyS, TyF, TBS, TBF, DcS, DcF, SvS, SvF, PfS, PfF, hn0, hn1, g1, g2, Int.toNat_natCast, q1, q2, Int.toNat_natCast]) (by decide) Trygo104 (fun hc => paramOccurs_k d.ps[j] _ d.t (Nat.le_refl _) hW.st_t _) ?_
              refine g_end (by simp only [gsq, gs0, gs1, gs2, gcond, gop, SG, Op.operands, Call.operands, Array.toList_append, aop, LS, SS, SX, HS, mkS_cons, mkS_nil, ↓reduceIte, eq_self', List.map_nil, beq_self_eq_true, Nat.reduceEqDiff, Nat.reduceAdd, Nat.reduceMul, Nat.reduceLT, Nat.reduceLeDiff, Nat.reducePow, Nat.reduceDiv, Nat.reduceMod, Nat.succ_ne_self, Nat.reduceBEq, Nat.reduceBNe, vint, TyS, TyF, TBS, TBF, DcS, DcF, SvS, SvF, PfS, PfF, hn0, hn1, g1, g2, Int.toNat_natCast, q1, q2, Int.toNat_natCast] <;> with_reducible rfl) (by decide) (by repeat (first | exact Fin.base _ | with_reducible apply Fin.keep | apply Fin.drop)) ?_
              -- leaf 4 next4
              exact ⟨⟨rfl, rfl, trivial⟩, (f && cpar d.ps[j] d.t), [], ⟨rfl, rfl, rfl, rfl, rfl, rfl, rfl, rfl, rfl, rfl, rfl, rfl, rfl, rfl, rfl, trivial⟩, by simp only [LS, SS, SX, HS, mkS_cons, mkS_nil, ↓reduceIte, eq_self', List.map_nil, beq_self_eq_true, Nat.reduceEqDiff, Nat.reduceAdd, Nat.succ_ne_self, vint, TyS, TyF, TBS, TBF, DcS, DcF, SvS, SvF, PfS, PfF] <;> rfl, by rw [hh, List.take_succ_eq_append_getElem hj, List.all_append]; simp [Bool.and_assoc]⟩
            · intro f hh
              rw [List.take_length] at hh
              have hip : implP t tr d = f := by
                rw [hh]; unfold implP; rw [decide_eq_true htr, Bool.true_and, Bool.and_comm]; congr 1
                rw [Bool.eq_iff_iff]; simp [List.all_eq_true, List.any_eq_false]
              -- region 20
              repeat (refine awp_seq ?_)
              refine e_eval (by simp only [asq, as0, as1, as2, awanted, aop, aun, ajust, LS, SS, SX, HS, mkS_cons, mkS_nil, ↓reduceIte, eq_self', List.map_nil, beq_self_eq_true, Nat.reduceEqDiff, Nat.reduceAdd, Nat.reduceMul, Nat.reduceLT, Nat.reduceLeDiff, Nat.reducePow, Nat.reduceDiv, Nat.reduceMod, Nat.succ_ne_self, Nat.reduceBEq, Nat.reduceBNe, vint, TyS, TyF, TBS, TBF, DcS, DcF, SvS, SvF, PfS, PfF, hn0, hn1, g1, g2, Int.toNat_natCast] <;> with_reducible rfl) (by decide) ?_
              repeat (refine awp_seq ?_)
              refine awp_cond rfl (by simp only [LS, SS, SX, HS, mkS_cons, mkS_nil, ↓reduceIte, eq_self', List.map_nil, beq_self_eq_true, Nat.reduceEqDiff, Nat.reduceAdd, Nat.succ_ne_self, vint, TyS, TyF, TBS, TBF, DcS, DcF, SvS, SvF, PfS, PfF, hn0, hn1, g1, g2, Int.toNat_natCast] <;> with_reducible rfl) (fun b3 => ?_) (fun b3 => ?_)
              · -- if t97
                have hf : f = false := by simpa using b3
                repeat (refine awp_seq ?_)
                refine awp_exit ?_
                -- leaf 5 next2
                exact ⟨⟨rfl, rfl, trivial⟩, (), _, ⟨rfl, rfl, rfl, rfl, rfl, rfl, rfl, rfl, trivial⟩, by simp only [LS, SS, SX, HS, mkS_cons, mkS_nil, ↓reduceIte, eq_self', List.map_nil, beq_self_eq_true, Nat.reduceEqDiff, Nat.reduceAdd, Nat.succ_ne_self, vint, TyS, TyF, TBS, TBF, DcS, DcF, SvS, SvF, PfS, PfF] <;> rfl, any_take_succ hi hg (by rw [hde, hip, hf])⟩
              · -- else t97
                have hf : f = true := by simpa using b3
                have hipt : implP t tr d = true := hip.trans hf
                have hix : implIx ds t tr = i := idxI_at hi (by rw [hde]; exact hipt) hg
                have hD : implD ds t tr = d := by unfold implD; rw [hix, Int.toNat_natCast, List.getD_eq_getElem?_getD, List.getElem?_eq_getElem hi, hde]; rfl
                have hA : implAs ds t tr = (matchP d.ps t d.t).1 := by unfold implAs; rw [hix, if_pos (by omega), hD]
                have hM2 : (matchP d.ps t d.t).2 = true := by unfold implP at hipt; simp only [Bool.and_eq_true] at hipt; exact hipt.2
                have hMl := (match_apply _ _ _ ht hM2).1
                have hMw := matchP_W d.ps t d.t ht
                repeat (refine awp_seq ?_)
                refine awp_skip ?_
                -- region 21
                repeat (refine awp_seq ?_)
                refine e_eval (by simp only [asq, as0, as1, as2, awanted, aop, afldAddr, ajust, aload, abuiltin, abin, LS, SS, SX, HS, mkS_cons, mkS_nil, ↓reduceIte, eq_self', List.map_nil, beq_self_eq_true, Nat.reduceEqDiff, Nat.reduceAdd, Nat.reduceMul, Nat.reduceLT, Nat.reduceLeDiff, Nat.reducePow, Nat.reduceDiv, Nat.reduceMod, Nat.succ_ne_self, Nat.reduceBEq, Nat.reduceBNe, Tryti3, Trytz3, Trytp3, Trytk3, Tryti60, Tryte60, Trytz60, Trytp60, Tryti71, Trytf71, Trytz71, Trytp71, Tryti74, Trytf74, Trytz74, Trytp74, vint, TyS, TyF, TBS, TBF, DcS, DcF, SvS, SvF, PfS, PfF, hn0, hn1, g1, g2, Int.toNat_natCast] <;> with_reducible rfl) (by decide) ?_
                repeat (refine awp_seq ?_)
                refine awp_cond rfl (by simp only [LS, SS, SX, HS, mkS_cons, mkS_nil, ↓reduceIte, eq_self', List.map_nil, beq_self_eq_true, Nat.reduceEqDiff, Nat.reduceAdd, Nat.succ_ne_self, vint, TyS, TyF, TBS, TBF, DcS, DcF, SvS, SvF, PfS, PfF, hn0, hn1, g1, g2, Int.toNat_natCast] <;> with_reducible rfl) (fun b4 => ?_) (fun b4 => ?_)
                · -- if t101
                  have h3 : implIx ds t tr < 0 ∨ 4 < (implD ds t tr).bs.length := by rw [hD]; right; have := b4; simp at this; omega
                  -- region 22
                  repeat (refine awp_seq ?_)
                  refine e_eval (by simp only [asq, as0, as1, as2, awanted, aop, aload, ajust, astore, splice, LS, SS, SX, HS, mkS_cons, mkS_nil, ↓reduceIte, eq_self', List.map_nil, beq_self_eq_true, Nat.reduceEqDiff, Nat.reduceAdd, Nat.reduceMul, Nat.reduceLT, Nat.reduceLeDiff, Nat.reducePow, Nat.reduceDiv, Nat.reduceMod, Nat.succ_ne_self, Nat.reduceBEq, Nat.reduceBNe, Tryti63, Trytf63, Trytz63, Trytp63, vint, TyS, TyF, TBS, TBF, DcS, DcF, SvS, SvF, PfS, PfF, hn0, hn1, g1, g2, Int.toNat_natCast] <;> with_reducible rfl) (by decide) ?_
                  repeat (refine awp_seq ?_)
                  -- leaf 6 ret
                  refine awp_ret ⟨.inr rfl, _, (ares_two (.cell 10 63) (.tmp 11) rfl (ares_cell1 Tryti63 (by decide) (by simp only [aload, LS, SS, SX, HS, mkS_cons, mkS_nil, ↓reduceIte, eq_self', List.map_nil, beq_self_eq_true, Nat.reduceEqDiff, Nat.reduceAdd, Nat.reduceMul, Nat.reduceLT, Nat.reduceLeDiff, Nat.reducePow, Nat.reduceDiv, Nat.reduceMod, Nat.succ_ne_self, Nat.reduceBEq, Nat.reduceBNe, vint, TyS, TyF, TBS, TBF, DcS, DcF, SvS, SvF, PfS, PfF, hn0, hn1, g1, g2, Int.toNat_natCast] <;> with_reducible rfl)) (ares_tmp1 (by decide))), ?_⟩
                  rw [if_pos h3]
                  simp only [LS, SS, SX, HS, mkS_cons, mkS_nil, ↓reduceIte, eq_self', List.map_nil, beq_self_eq_true, Nat.reduceEqDiff, Nat.reduceAdd, Nat.succ_ne_self, vint, TyS, TyF, TBS, TBF, DcS, DcF, SvS, SvF, PfS, PfF]
                  rfl
                · -- else t101
                  have hb4 : d.bs.length ≤ 4 := by simp at b4; omega
                  have h3 : ¬ (implIx ds t tr < 0 ∨ 4 < (implD ds t tr).bs.length) := by rw [hD]; omega
                  rw [if_neg h3, hD, hA, hix]
                  have hmx : maxLen = 9223372036854775807 := by decide
                  repeat (refine awp_seq ?_)
                  refine awp_skip ?_
                  -- region 23
                  repeat (refine awp_seq ?_)
                  refine e_eval (by simp only [asq, as0, as1, as2, awanted, aop, aload, ajust, abuild, splice, astore, LS, SS, SX, HS, mkS_cons, mkS_nil, ↓reduceIte, eq_self', List.map_nil, beq_self_eq_true, Nat.reduceEqDiff, Nat.reduceAdd, Nat.reduceMul, Nat.reduceLT, Nat.reduceLeDiff, Nat.reducePow, Nat.reduceDiv, Nat.reduceMod, Nat.succ_ne_self, Nat.reduceBEq, Nat.reduceBNe, Tryti24, Trytf24, Trytz24, Trytp24, Tryti63, Trytf63, Trytz63, Trytp63, vint, TyS, TyF, TBS, TBF, DcS, DcF, SvS, SvF, PfS, PfF, hn0, hn1, g1, g2, Int.toNat_natCast] <;> with_reducible rfl) (by decide) ?_
                  -- region 24
                  repeat (refine awp_seq ?_)
                  refine e_eval (by simp only [asq, as0, as1, as2, awanted, aop, afldAddr, ajust, aload, abuiltin, LS, SS, SX, HS, mkS_cons, mkS_nil, ↓reduceIte, eq_self', List.map_nil, beq_self_eq_true, Nat.reduceEqDiff, Nat.reduceAdd, Nat.reduceMul, Nat.reduceLT, Nat.reduceLeDiff, Nat.reducePow, Nat.reduceDiv, Nat.reduceMod, Nat.succ_ne_self, Nat.reduceBEq, Nat.reduceBNe, Tryti60, Tryte60, Trytz60, Trytp60, Tryti71, Trytf71, Trytz71, Trytp71, Tryti74, Trytf74, Trytz74, Trytp74, vint, TyS, TyF, TBS, TBF, DcS, DcF, SvS, SvF, PfS, PfF, hn0, hn1, g1, g2, Int.toNat_natCast] <;> with_reducible rfl) (by decide) ?_
                  repeat (refine awp_seq ?_)
                  refine awp_retok_row 4 7 8 (by simp only [LS, SS, SX, HS]; rfl) rfl ?_
                  refine awp_forS (σ := List Pf) (d.bs.length) (fun (s : List Pf) => [(0, .slice (ds.map Dc.enc) .none), (1, .slice (sas.map TB.enc) .none), (4, .int .i64 ((n + 1 : Nat) : Int)), (10, .optr 1 0), (12, .optr 2 0), (16, .optr 3 0), (17, .slice ((matchP d.ps t d.t).1.map Ty.enc) .none), (21, .optr 4 0), (109, .slice (d.bs.map TB.enc) .none)]) [0, 1, 4, 10, 12, 16, 17, 21, 109] ([]) (fun (s : List Pf) => [.row t.enc.cells, .row [.int .i64 0, .int .i64 0, .slice [] .full, .int .i64 0, .int .i64 0, .int .i64 0, .slice [] .full, .slice [] .full], .row [.int .i64 0, .int .i64 0, .slice [] .full, .int .i64 0, .int .i64 0, .int .i64 0, .slice [] .full, .slice [] .full], .row d.enc.cells, .row [.int .i64 t.kind, .int .i64 t.id, .slice (t.args.map Ty.enc) .none, .int .i64 tr, .int .i64 ((i : Nat) : Int), .int .i64 (-1), .slice ((matchP d.ps t d.t).1.map Ty.enc) .none, .slice (s.map Pf.enc) (.tok 5)], .buf s.length 8]) (fun (j : Nat) (s : List Pf) => (d.bs.take j).all (fun b => (solveT ds sas n (mapT (appG d.ps (matchP d.ps t d.t).1) b.t) b.tr).2) = true ∧ s = (d.bs.take j).map (fun b => (solveT ds sas n (mapT (appG d.ps (matchP d.ps t d.t).1) b.t) b.tr).1)) ([]) ([]) rfl rfl rfl rfl rfl rfl rfl rfl rfl (by decide) (by decide) (by decide) (fun _ => rfl) (by omega) ⟨(by first | rfl | (simp only [LS, SS, SX, HS, mkS_cons, mkS_nil, ↓reduceIte, eq_self', List.map_nil, beq_self_eq_true, Nat.reduceEqDiff, Nat.reduceAdd, Nat.succ_ne_self, vint, TyS, TyF, TBS, TBF, DcS, DcF, SvS, SvF, PfS, PfF, hn0, hn1, g1, g2, Int.toNat_natCast] <;> first | done | with_reducible rfl)), (by first | rfl | (simp only [LS, SS, SX, HS, mkS_cons, mkS_nil, ↓reduceIte, eq_self', List.map_nil, beq_self_eq_true, Nat.reduceEqDiff, Nat.reduceAdd, Nat.succ_ne_self, vint, TyS, TyF, TBS, TBF, DcS, DcF, SvS, SvF, PfS, PfF, hn0, hn1, g1, g2, Int.toNat_natCast] <;> first | done | with_reducible rfl)), (by first | rfl | (simp only [LS, SS, SX, HS, mkS_cons, mkS_nil, ↓reduceIte, eq_self', List.map_nil, beq_self_eq_true, Nat.reduceEqDiff, Nat.reduceAdd, Nat.succ_ne_self, vint, TyS, TyF, TBS, TBF, DcS, DcF, SvS, SvF, PfS, PfF, hn0, hn1, g1, g2, Int.toNat_natCast] <;> first | done | with_reducible rfl)), (by first | rfl | (simp only [LS, SS, SX, HS, mkS_cons, mkS_nil, ↓reduceIte, eq_self', List.map_nil, beq_self_eq_true, Nat.reduceEqDiff, Nat.reduceAdd, Nat.succ_ne_self, vint, TyS, TyF, TBS, TBF, DcS, DcF, SvS, SvF, PfS, PfF, hn0, hn1, g1, g2, Int.toNat_natCast] <;> first | done | with_reducible rfl)), (by first | rfl | (simp only [LS, SS, SX, HS, mkS_cons, mkS_nil, ↓reduceIte, eq_self', List.map_nil, beq_self_eq_true, Nat.reduceEqDiff, Nat.reduceAdd, Nat.succ_ne_self, vint, TyS, TyF, TBS, TBF, DcS, DcF, SvS, SvF, PfS, PfF, hn0, hn1, g1, g2, Int.toNat_natCast] <;> first | done | with_reducible rfl)), (by first | rfl | (simp only [LS, SS, SX, HS, mkS_cons, mkS_nil, ↓reduceIte, eq_self', List.map_nil, beq_self_eq_true, Nat.reduceEqDiff, Nat.reduceAdd, Nat.succ_ne_self, vint, TyS, TyF, TBS, TBF, DcS, DcF, SvS, SvF, PfS, PfF, hn0, hn1, g1, g2, Int.toNat_natCast] <;> first | done | with_reducible rfl)), (by first | rfl | (simp only [LS, SS, SX, HS, mkS_cons, mkS_nil, ↓reduceIte, eq_self', List.map_nil, beq_self_eq_true, Nat.reduceEqDiff, Nat.reduceAdd, Nat.succ_ne_self, vint, TyS, TyF, TBS, TBF, DcS, DcF, SvS, SvF, PfS, PfF, hn0, hn1, g1, g2, Int.toNat_natCast] <;> first | done | with_reducible rfl)), (by first | rfl | (simp only [LS, SS, SX, HS, mkS_cons, mkS_nil, ↓reduceIte, eq_self', List.map_nil, beq_self_eq_true, Nat.reduceEqDiff, Nat.reduceAdd, Nat.succ_ne_self, vint, TyS, TyF, TBS, TBF, DcS, DcF, SvS, SvF, PfS, PfF, hn0, hn1, g1, g2, Int.toNat_natCast] <;> first | done | with_reducible rfl)), (by first | rfl | (simp only [LS, SS, SX, HS, mkS_cons, mkS_nil, ↓reduceIte, eq_self', List.map_nil, beq_self_eq_true, Nat.reduceEqDiff, Nat.reduceAdd, Nat.succ_ne_self, vint, TyS, TyF, TBS, TBF, DcS, DcF, SvS, SvF, PfS, PfF, hn0, hn1, g1, g2, Int.toNat_natCast] <;> first | done | with_reducible rfl)), (by first | rfl | (simp only [LS, SS, SX, HS, mkS_cons, mkS_nil, ↓reduceIte, eq_self', List.map_nil, beq_self_eq_true, Nat.reduceEqDiff, Nat.reduceAdd, Nat.succ_ne_self, vint, TyS, TyF, TBS, TBF, DcS, DcF, SvS, SvF, PfS, PfF, hn0, hn1, g1, g2, Int.toNat_natCast] <;> first | done | with_reducible rfl)), (by first | rfl | (simp only [LS, SS, SX, HS, mkS_cons, mkS_nil, ↓reduceIte, eq_self', List.map_nil, beq_self_eq_true, Nat.reduceEqDiff, Nat.reduceAdd, Nat.succ_ne_self, vint, TyS, TyF, TBS, TBF, DcS, DcF, SvS, SvF, PfS, PfF, hn0, hn1, g1, g2, Int.toNat_natCast] <;> first | done | with_reducible rfl)), trivial⟩ (by first | rfl | (simp only [LS, SS, SX, HS, mkS_cons, mkS_nil, ↓reduceIte, eq_self', List.map_nil, beq_self_eq_true, Nat.reduceEqDiff, Nat.reduceAdd, Nat.succ_ne_self, vint, TyS, TyF, TBS, TBF, DcS, DcF, SvS, SvF, PfS, PfF, hn0, hn1, g1, g2, Int.toNat_natCast] <;> first | done | with_reducible rfl)) (by simp) (fun _ _ _ => by first | exact Nat.zero_le _ | (simp only [List.length_append]; omega)) ?_ ?_ ?_
                  · exact fun i s hg => ⟨by simp only [TyS, PfS, DcS, List.nil_append, List.append_nil, List.cons_append]; repeat (first | exact hbel_nil _ | exact trivial | exact obel_row_nil _ | (refine HBel.cons ?_ ?_) | (refine obel_row_cons (by first | exact bel_TB _ _ | exact TB.bel _ _ | exact bel_Dc _ _ | exact Dc.bel _ _ | exact Pf.bel _ _ | exact bel_Pf _ _ | exact Sv.bel _ _ | exact bel_Pf_tok _ (by simp) | exact bel_ints0 _ _ | exact bel_slice_ty _ _ | exact Ty.bel _ _ | exact bel_ty_tok _ (by simp) | exact Bel.int _ _ | exact Bel.bool _ | exact Bel.str _ | exact Bel.nilp | exact Bel.nilfn | exact Bel.optr _ _ (by simp) | exact bel_nil0 _ | exact bel_nil1 _ | exact bel_fn0 _ _ | assumption) ?_)), by repeat (first | exact BelL.nil | refine BelL.cons (by first | exact bel_TB _ _ | exact TB.bel _ _ | exact bel_Dc _ _ | exact Dc.bel _ _ | exact Pf.bel _ _ | exact bel_Pf _ _ | exact Sv.bel _ _ | exact bel_Pf_tok _ (by simp) | exact bel_ints0 _ _ | exact bel_slice_ty _ _ | exact Ty.bel _ _ | exact bel_ty_tok _ (by simp) | exact Bel.int _ _ | exact Bel.bool _ | exact Bel.str _ | exact Bel.nilp | exact Bel.nilfn | exact Bel.optr _ _ (by simp) | exact bel_nil0 _ | exact bel_nil1 _ | exact bel_fn0 _ _ | assumption) ?_)⟩
                  · intro j s hj hk
                    have q1 := ix_nat hj
                    have q2 := get_enc TB.enc hj
                    have hbw := hW.el_bs _ (List.getElem_mem hj)
                    obtain ⟨b, hbe⟩ : ∃ b, d.bs[j] = b := ⟨_, rfl⟩
                    rw [hbe] at q2 hbw
                    have hWa := app_W (ps := d.ps) hMw hbw.st_t
                    have hsn : s.length = j := by rw [hk.2, List.length_map, List.length_take]; omega
                    have happ := app_Pf (us := s) (u := (solveT ds sas n (mapT (appG d.ps (matchP d.ps t d.t).1) b.t) b.tr).1) (id := 5) (tl := .full) (by omega)
                    -- region 26
                    repeat (refine awp_seq ?_)
                    refine e_eval (by simp only [asq, as0, as1, as2, awanted, aop, aidxAddr, aidx, ajust, aload, astore, splice, LS, SS, SX, HS, mkS_cons, mkS_nil, ↓reduceIte, eq_self', List.map_nil, beq_self_eq_true, Nat.reduceEqDiff, Nat.reduceAdd, Nat.reduceMul, Nat.reduceLT, Nat.reduceLeDiff, Nat.reducePow, Nat.reduceDiv, Nat.reduceMod, Nat.succ_ne_self, Nat.reduceBEq, Nat.reduceBNe, Tryti60, Tryte60, Trytz60, Trytp60, Tryti74, Trytf74, Trytz74, Trytp74, vint, TyS, TyF, TBS, TBF, DcS, DcF, SvS, SvF, PfS, PfF, hn0, hn1, g1, g2, Int.toNat_natCast, q1, q2, Int.toNat_natCast] <;> with_reducible rfl) (by decide) ?_
                    -- region 27
                    repeat (refine awp_seq ?_)
                    refine awp_draw 1 (by kernel_rfl) ?_
                    refine d_take (bm := [0, 0, 0, 4, 0, 16, 0, 124, 0, 256, 0, 1024, 4095, 8191, 16383, 16383, 0, 98303, 262143]) 7 (fresh := (7)) (by kernel_rfl) (by simp only [dsq, ds0, ds1, ds2, ds3, awanted, hapB, effIds, effSet, nextFresh, ard, freshOk, isUnborn, aop, afldAddr, ajust, aload, LS, SS, SX, HS, mkS_cons, mkS_nil, ↓reduceIte, eq_self', List.map_nil, beq_self_eq_true, Nat.reduceEqDiff, Nat.reduceAdd, Nat.reduceMul, Nat.reduceLT, Nat.reduceLeDiff, Nat.reducePow, Nat.reduceDiv, Nat.reduceMod, Nat.succ_ne_self, Nat.reduceBEq, Nat.reduceBNe, Tryti3, Trytz3, Trytp3, Trytk3, Tryti24, Trytf24, Trytz24, Trytp24, Tryti25, Tryte25, Trytz25, Trytp25, Tryti71, Trytf71, Trytz71, Trytp71, Tryti74, Trytf74, Trytz74, Trytp74, vint, TyS, TyF, TBS, TBF, DcS, DcF, SvS, SvF, PfS, PfF, hn0, hn1, g1, g2, Int.toNat_natCast, q1, q2, Int.toNat_natCast] <;> with_reducible rfl) (by decide) (by decide) ?_
                    refine dops_keep (bm := [0, 0, 0, 4, 0, 16, 0, 124, 0, 256, 0, 1024, 4095, 8191, 16383, 16383, 0, 98303, 262143]) ([]) (by kernel_rfl) (by simp only [acall, awanted, LS, SS, SX, HS, mkS_cons, mkS_nil, ↓reduceIte, eq_self', List.map_nil, beq_self_eq_true, Nat.reduceEqDiff, Nat.reduceAdd, Nat.reduceMul, Nat.reduceLT, Nat.reduceLeDiff, Nat.reducePow, Nat.reduceDiv, Nat.reduceMod, Nat.succ_ne_self, Nat.reduceBEq, Nat.reduceBNe, vint, TyS, TyF, TBS, TBF, DcS, DcF, SvS, SvF, PfS, PfF, hn0, hn1, g1, g2, Int.toNat_natCast, q1, q2, Int.toNat_natCast] <;> with_reducible rfl) (by simp only [acall, awanted, LS, SS, SX, HS, mkS_cons, mkS_nil, ↓reduceIte, eq_self', List.map_nil, beq_self_eq_true, Nat.reduceEqDiff, Nat.reduceAdd, Nat.reduceMul, Nat.reduceLT, Nat.reduceLeDiff, Nat.reducePow, Nat.reduceDiv, Nat.reduceMod, Nat.succ_ne_self, Nat.reduceBEq, Nat.reduceBNe, vint, TyS, TyF, TBS, TBF, DcS, DcF, SvS, SvF, PfS, PfF, hn0, hn1, g1, g2, Int.toNat_natCast, q1, q2, Int.toNat_natCast]) (by decide) Trygo105 (fun H' _ => applyArgs_k d.ps (matchP d.ps t d.t).1 hps hMl hMw _ b.t (Nat.le_refl _) hbw.st_t H') (by simp only [dsq, ds0, ds1, ds2, ds3, awanted, hapB, effIds, effSet, nextFresh, ard, freshOk, isUnborn, aop, LS, SS, SX, HS, mkS_cons, mkS_nil, ↓reduceIte, eq_self', List.map_nil, beq_self_eq_true, Nat.reduceEqDiff, Nat.reduceAdd, Nat.reduceMul, Nat.reduceLT, Nat.reduceLeDiff, Nat.reducePow, Nat.reduceDiv, Nat.reduceMod, Nat.succ_ne_self, Nat.reduceBEq, Nat.reduceBNe, vint, TyS, TyF, TBS, TBF, DcS, DcF, SvS, SvF, PfS, PfF, hn0, hn1, g1, g2, Int.toNat_natCast, q1, q2, Int.toNat_natCast] <;> first | done | rfl) ?_
                    refine d_take (bm := [0, 0, 0, 4, 0, 16, 0, 124, 0, 256, 0, 1024, 4095, 8191, 16383, 16383, 0, 98303, 262143]) 4 (fresh := (7)) (by kernel_rfl) (by simp only [dsq, ds0, ds1, ds2, ds3, awanted, hapB, effIds, effSet, nextFresh, ard, freshOk, isUnborn, aop, afldAddr, ajust, aload, abin, LS, SS, SX, HS, mkS_cons, mkS_nil, ↓reduceIte, eq_self', List.map_nil, beq_self_eq_true, Nat.reduceEqDiff, Nat.reduceAdd, Nat.reduceMul, Nat.reduceLT, Nat.reduceLeDiff, Nat.reducePow, Nat.reduceDiv, Nat.reduceMod, Nat.succ_ne_self, Nat.reduceBEq, Nat.reduceBNe, Tryti3, Trytz3, Trytp3, Trytk3, Tryti74, Trytf74, Trytz74, Trytp74, vint, TyS, TyF, TBS, TBF, DcS, DcF, SvS, SvF, PfS, PfF, hn0, hn1, g1, g2, Int.toNat_natCast, q1, q2, Int.toNat_natCast] <;> with_reducible rfl) (by decide) (by decide) ?_
                    refine dops_keep (bm := [0, 0, 0, 4, 0, 16, 0, 124, 0, 256, 0, 1024, 4095, 8191, 16383, 16383, 0, 98303, 262143]) ([]) (by kernel_rfl) (by simp only [acall, awanted, LS, SS, SX, HS, mkS_cons, mkS_nil, ↓reduceIte, eq_self', List.map_nil, beq_self_eq_true, Nat.reduceEqDiff, Nat.reduceAdd, Nat.reduceMul, Nat.reduceLT, Nat.reduceLeDiff, Nat.reducePow, Nat.reduceDiv, Nat.reduceMod, Nat.succ_ne_self, Nat.reduceBEq, Nat.reduceBNe, vint, TyS, TyF, TBS, TBF, DcS, DcF, SvS, SvF, PfS, PfF, hn0, hn1, g1, g2, Int.toNat_natCast, q1, q2, Int.toNat_natCast] <;> with_reducible rfl) (by simp only [acall, awanted, LS, SS, SX, HS, mkS_cons, mkS_nil, ↓reduceIte, eq_self', List.map_nil, beq_self_eq_true, Nat.reduceEqDiff, Nat.reduceAdd, Nat.reduceMul, Nat.reduceLT, Nat.reduceLeDiff, Nat.reducePow, Nat.reduceDiv, Nat.reduceMod, Nat.succ_ne_self, Nat.reduceBEq, Nat.reduceBNe, vint, TyS, TyF, TBS, TBF, DcS, DcF, SvS, SvF, PfS, PfF, hn0, hn1, g1, g2, Int.toNat_natCast, q1, q2, Int.toNat_natCast]) (by decide) Trygo50 (fun H' _ => search_k ds sas hl hd hsl hs n (mapT (appG d.ps (matchP d.ps t d.t).1) b.t) b.tr (by omega) hWa H') (by simp only [dsq, ds0, ds1, ds2, ds3, awanted, hapB, effIds, effSet, nextFresh, ard, freshOk, isUnborn, aop, LS, SS, SX, HS, mkS_cons, mkS_nil, ↓reduceIte, eq_self', List.map_nil, beq_self_eq_true, Nat.reduceEqDiff, Nat.reduceAdd, Nat.reduceMul, Nat.reduceLT, Nat.reduceLeDiff, Nat.reducePow, Nat.reduceDiv, Nat.reduceMod, Nat.succ_ne_self, Nat.reduceBEq, Nat.reduceBNe, vint, TyS, TyF, TBS, TBF, DcS, DcF, SvS, SvF, PfS, PfF, hn0, hn1, g1, g2, Int.toNat_natCast, q1, q2, Int.toNat_natCast] <;> first | done | rfl) ?_
                    refine d_end (bm := [0, 0, 0, 4, 0, 16, 0, 124, 0, 256, 0, 1024, 4095, 8191, 16383, 16383, 0, 98303, 262143]) (fresh := (7)) (by kernel_rfl) (by simp only [dsq, ds0, ds1, ds2, ds3, awanted, hapB, effIds, effSet, nextFresh, ard, freshOk, isUnborn, aop, ajust, astore, splice, LS, SS, SX, HS, mkS_cons, mkS_nil, ↓reduceIte, eq_self', List.map_nil, beq_self_eq_true, Nat.reduceEqDiff, Nat.reduceAdd, Nat.reduceMul, Nat.reduceLT, Nat.reduceLeDiff, Nat.reducePow, Nat.reduceDiv, Nat.reduceMod, Nat.succ_ne_self, Nat.reduceBEq, Nat.reduceBNe, Tryti63, Trytf63, Trytz63, Trytp63, vint, TyS, TyF, TBS, TBF, DcS, DcF, SvS, SvF, PfS, PfF, hn0, hn1, g1, g2, Int.toNat_natCast, q1, q2, Int.toNat_natCast] <;> with_reducible rfl) (by decide) ?_
                    refine awp_sel [0, 1, 3, 4, 7, 10, 12, 16, 17, 21, 24, 25, 61, 62, 63, 109, 110, 111] (by simp only [LS, SS, SX, HS, mkS_cons, mkS_nil, ↓reduceIte, eq_self', List.map_nil, beq_self_eq_true, Nat.reduceEqDiff, Nat.reduceAdd, Nat.succ_ne_self, vint, TyS, TyF, TBS, TBF, DcS, DcF, SvS, SvF, PfS, PfF, hn0, hn1, g1, g2, Int.toNat_natCast, q1, q2, Int.toNat_natCast] <;> with_reducible rfl) ?_
                    -- region 28
                    repeat (refine awp_seq ?_)
                    refine e_eval (by simp only [asq, as0, as1, as2, awanted, aop, aun, ajust, LS, SS, SX, HS, mkS_cons, mkS_nil, ↓reduceIte, eq_self', List.map_nil, beq_self_eq_true, Nat.reduceEqDiff, Nat.reduceAdd, Nat.reduceMul, Nat.reduceLT, Nat.reduceLeDiff, Nat.reducePow, Nat.reduceDiv, Nat.reduceMod, Nat.succ_ne_self, Nat.reduceBEq, Nat.reduceBNe, vint, TyS, TyF, TBS, TBF, DcS, DcF, SvS, SvF, PfS, PfF, hn0, hn1, g1, g2, Int.toNat_natCast, q1, q2, Int.toNat_natCast] <;> with_reducible rfl) (by decide) ?_
                    repeat (refine awp_seq ?_)
                    refine awp_cond rfl (by simp only [LS, SS, SX, HS, mkS_cons, mkS_nil, ↓reduceIte, eq_self', List.map_nil, beq_self_eq_true, Nat.reduceEqDiff, Nat.reduceAdd, Nat.succ_ne_self, vint, TyS, TyF, TBS, TBF, DcS, DcF, SvS, SvF, PfS, PfF, hn0, hn1, g1, g2, Int.toNat_natCast, q1, q2, Int.toNat_natCast] <;> with_reducible rfl) (fun b5 => ?_) (fun b5 => ?_)
                    · -- if t132
                      -- region 29
                      repeat (refine awp_seq ?_)
                      refine e_eval (by simp only [asq, as0, as1, as2, awanted, aop, aload, ajust, astore, splice, LS, SS, SX, HS, mkS_cons, mkS_nil, ↓reduceIte, eq_self', List.map_nil, beq_self_eq_true, Nat.reduceEqDiff, Nat.reduceAdd, Nat.reduceMul, Nat.reduceLT, Nat.reduceLeDiff, Nat.reducePow, Nat.reduceDiv, Nat.reduceMod, Nat.succ_ne_self, Nat.reduceBEq, Nat.reduceBNe, Tryti63, Trytf63, Trytz63, Trytp63, vint, TyS, TyF, TBS, TBF, DcS, DcF, SvS, SvF, PfS, PfF, hn0, hn1, g1, g2, Int.toNat_natCast, q1, q2, Int.toNat_natCast] <;> with_reducible rfl) (by decide) ?_
                      repeat (refine awp_seq ?_)
                      -- leaf 7 ret
                      refine awp_ret ⟨.inr rfl, _, (ares_two (.cell 10 63) (.tmp 11) rfl (ares_cell1 Tryti63 (by decide) (by simp only [aload, LS, SS, SX, HS, mkS_cons, mkS_nil, ↓reduceIte, eq_self', List.map_nil, beq_self_eq_true, Nat.reduceEqDiff, Nat.reduceAdd, Nat.reduceMul, Nat.reduceLT, Nat.reduceLeDiff, Nat.reducePow, Nat.reduceDiv, Nat.reduceMod, Nat.succ_ne_self, Nat.reduceBEq, Nat.reduceBNe, vint, TyS, TyF, TBS, TBF, DcS, DcF, SvS, SvF, PfS, PfF, hn0, hn1, g1, g2, Int.toNat_natCast, q1, q2, Int.toNat_natCast] <;> with_reducible rfl)) (ares_tmp1 (by decide))), ?_⟩
                      have hbad : ¬ (d.bs.all (fun b => (solveT ds sas n (mapT (appG d.ps (matchP d.ps t d.t).1) b.t) b.tr).2)) = true := by
                        rw [List.all_eq_true]
                        intro h
                        have := h d.bs[j] (List.getElem_mem hj)
                        rw [hbe] at this
                        simp [this] at b5
                      rw [if_neg hbad]
                      simp only [LS, SS, SX, HS, mkS_cons, mkS_nil, ↓reduceIte, eq_self', List.map_nil, beq_self_eq_true, Nat.reduceEqDiff, Nat.reduceAdd, Nat.succ_ne_self, vint, TyS, TyF, TBS, TBF, DcS, DcF, SvS, SvF, PfS, PfF]
                      rfl
                    · -- else t132
                      repeat (refine awp_seq ?_)
                      refine awp_skip ?_
                      -- region 30
                      repeat (refine awp_seq ?_)
                      refine e_eval (by simp only [asq, as0, as1, as2, awanted, aop, afldAddr, ajust, aload, abuildS, abuiltin, astore, splice, LS, SS, SX, HS, mkS_cons, mkS_nil, ↓reduceIte, eq_self', List.map_nil, beq_self_eq_true, Nat.reduceEqDiff, Nat.reduceAdd, Nat.reduceMul, Nat.reduceLT, Nat.reduceLeDiff, Nat.reducePow, Nat.reduceDiv, Nat.reduceMod, Nat.succ_ne_self, Nat.reduceBEq, Nat.reduceBNe, Tryti61, Tryte61, Trytz61, Trytp61, Tryti63, Trytf63, Trytz63, Trytp63, vint, TyS, TyF, TBS, TBF, DcS, DcF, SvS, SvF, PfS, PfF, hn0, hn1, g1, g2, Int.toNat_natCast, q1, q2, Int.toNat_natCast, happ] <;> with_reducible rfl) (by decide) ?_
                      -- leaf 8 next6
                      exact ⟨⟨rfl, rfl, trivial⟩, s ++ [(solveT ds sas n (mapT (appG d.ps (matchP d.ps t d.t).1) b.t) b.tr).1], _, ⟨rfl, rfl, rfl, rfl, rfl, rfl, rfl, rfl, rfl, trivial⟩, by simp only [LS, SS, SX, HS, mkS_cons, mkS_nil, ↓reduceIte, eq_self', List.map_nil, beq_self_eq_true, Nat.reduceEqDiff, Nat.reduceAdd, Nat.succ_ne_self, vint, TyS, TyF, TBS, TBF, DcS, DcF, SvS, SvF, PfS, PfF, List.length_append, List.length_singleton] <;> rfl, all_take_succ hj hk.1 (by simp only [hbe]; simpa using b5), by rw [hk.2, map_take_succ _ hj, hbe]⟩
                  · intro s hk
                    rw [List.take_length] at hk
                    -- region 32
                    repeat (refine awp_seq ?_)
                    refine e_eval (by simp only [asq, as0, as1, as2, awanted, aop, aload, ajust, astore, splice, LS, SS, SX, HS, mkS_cons, mkS_nil, ↓reduceIte, eq_self', List.map_nil, beq_self_eq_true, Nat.reduceEqDiff, Nat.reduceAdd, Nat.reduceMul, Nat.reduceLT, Nat.reduceLeDiff, Nat.reducePow, Nat.reduceDiv, Nat.reduceMod, Nat.succ_ne_self, Nat.reduceBEq, Nat.reduceBNe, Tryti63, Trytf63, Trytz63, Trytp63, vint, TyS, TyF, TBS, TBF, DcS, DcF, SvS, SvF, PfS, PfF, hn0, hn1, g1, g2, Int.toNat_natCast] <;> with_reducible rfl) (by decide) ?_
                    repeat (refine awp_seq ?_)
                    -- leaf 9 ret
                    refine awp_ret ⟨.inr rfl, _, (ares_two (.cell 10 63) (.tmp 11) rfl (ares_cell1 Tryti63 (by decide) (by simp only [aload, LS, SS, SX, HS, mkS_cons, mkS_nil, ↓reduceIte, eq_self', List.map_nil, beq_self_eq_true, Nat.reduceEqDiff, Nat.reduceAdd, Nat.reduceMul, Nat.reduceLT, Nat.reduceLeDiff, Nat.reducePow, Nat.reduceDiv, Nat.reduceMod, Nat.succ_ne_self, Nat.reduceBEq, Nat.reduceBNe, vint, TyS, TyF, TBS, TBF, DcS, DcF, SvS, SvF, PfS, PfF, hn0, hn1, g1, g2, Int.toNat_natCast] <;> with_reducible rfl)) (ares_tmp1 (by decide))), ?_⟩
                    rw [if_pos hk.1, ← hk.2]
                    simp only [LS, SS, SX, HS, mkS_cons, mkS_nil, ↓reduceIte, eq_self', List.map_nil, beq_self_eq_true, Nat.reduceEqDiff, Nat.reduceAdd, Nat.succ_ne_self, vint, TyS, TyF, TBS, TBF, DcS, DcF, SvS, SvF, PfS, PfF]
        · intro s hg
          rw [List.take_length] at hg
          have h3 : implIx ds t tr < 0 ∨ 4 < (implD ds t tr).bs.length := by left; unfold implIx; rw [idxI_none hg]; omega
          rw [if_pos h3]
          -- region 34
          repeat (refine awp_seq ?_)
          refine e_eval (by simp only [asq, as0, as1, as2, awanted, aop, aload, ajust, astore, splice, LS, SS, SX, HS, mkS_cons, mkS_nil, ↓reduceIte, eq_self', List.map_nil, beq_self_eq_true, Nat.reduceEqDiff, Nat.reduceAdd, Nat.reduceMul, Nat.reduceLT, Nat.reduceLeDiff, Nat.reducePow, Nat.reduceDiv, Nat.reduceMod, Nat.succ_ne_self, Nat.reduceBEq, Nat.reduceBNe, Tryti63, Trytf63, Trytz63, Trytp63, vint, TyS, TyF, TBS, TBF, DcS, DcF, SvS, SvF, PfS, PfF, hn0, hn1] <;> with_reducible rfl) (by decide) ?_
          repeat (refine awp_seq ?_)
          -- leaf 10 ret
          refine awp_ret ⟨.inr rfl, _, (ares_two (.cell 10 63) (.tmp 11) rfl (ares_cell1 Tryti63 (by decide) (by simp only [aload, LS, SS, SX, HS, mkS_cons, mkS_nil, ↓reduceIte, eq_self', List.map_nil, beq_self_eq_true, Nat.reduceEqDiff, Nat.reduceAdd, Nat.reduceMul, Nat.reduceLT, Nat.reduceLeDiff, Nat.reducePow, Nat.reduceDiv, Nat.reduceMod, Nat.succ_ne_self, Nat.reduceBEq, Nat.reduceBNe, vint, TyS, TyF, TBS, TBF, DcS, DcF, SvS, SvF, PfS, PfF, hn0, hn1] <;> with_reducible rfl)) (ares_tmp1 (by decide))), ?_⟩
          simp only [LS, SS, SX, HS, mkS_cons, mkS_nil, ↓reduceIte, eq_self', List.map_nil, beq_self_eq_true, Nat.reduceEqDiff, Nat.reduceAdd, Nat.succ_ne_self, vint, TyS, TyF, TBS, TBF, DcS, DcF, SvS, SvF, PfS, PfF]
          rfl

end Go.Abs
