/- Part 4 of a proof of the law SolveMatchesReference: Go data as trees, the walks of the functions that the law reaches, the plain laws. -/
import Derived.Test.YtmjoonaejldkhaaGCSolveMatchesReference
set_option linter.unusedVariables false
set_option linter.unusedSimpArgs false
set_option maxRecDepth 4000
namespace Go.Abs
/-- api.TraitBound, as data. -/
structure TB where
  t : Ty
  tr : Int
def TB.enc (t : TB) : PV := .agg [.int .i64 t.t.kind, .int .i64 t.t.id, .slice (t.t.args.map Ty.enc) .none, .int .i64 t.tr]
theorem TB.enc_eq (t : TB) : t.enc = .agg [.int .i64 t.t.kind, .int .i64 t.t.id, .slice (t.t.args.map Ty.enc) .none, .int .i64 t.tr] := rfl
theorem TB.enc_cells (t : TB) : t.enc.cells = [.int .i64 t.t.kind, .int .i64 t.t.id, .slice (t.t.args.map Ty.enc) .none, .int .i64 t.tr] := rfl
theorem TB.eta (t : TB) : TB.mk t.t t.tr = t := rfl
theorem TB.enc_drop1 (t : TB) : t.enc.drop1 = t.enc := by rw [TB.enc_eq]; rfl
theorem TB.enc_drop0 (t : TB) : t.enc.drop0 = t.enc := by rw [TB.enc_eq]; rfl
theorem TB.enc_len (t : TB) : t.enc.cells.length = 4 := by rw [TB.enc_cells]; rfl
theorem TB.enc_junk (t : TB) : t.enc.isJunk = false := by rw [TB.enc_eq]; rfl
theorem TB.enc_agg (t : TB) : PV.agg t.enc.cells = t.enc := by rw [TB.enc_cells, TB.enc_eq]
theorem TB.bel (n : Nat) (t : TB) : Bel n t.enc := .agg _ (by
  intro c hc
  simp only [List.mem_cons, List.not_mem_nil, or_false] at hc
  rcases hc with rfl | rfl | rfl | rfl
  · exact .int _ _
  · exact .int _ _
  · exact bel_slice_ty _ _
  · exact .int _ _)
theorem bel_TB (n : Nat) (us : List TB) : Bel n (.slice (us.map TB.enc) .none) := .slice _ _ (fun e he c hc => by
  obtain ⟨b, _, rfl⟩ := List.mem_map.1 he
  have := TB.bel n b
  rw [TB.enc_eq] at this hc
  cases this with | agg _ h => exact h c hc) (by simp)
theorem bel_TB_tok {n id : Nat} (us : List TB) (h : id < n) : Bel n (.slice (us.map TB.enc) (.tok id)) := by
  have := bel_TB n us
  cases this with
  | slice _ _ h1 h2 => exact .slice _ _ h1 (fun _ e => by cases e; exact h)
/-- Rules. -/
theorem TBS : (∀ t : TB, t.enc.cells = [.int .i64 t.t.kind, .int .i64 t.t.id, .slice (t.t.args.map Ty.enc) .none, .int .i64 t.tr]) ∧ (∀ t : TB, t.enc.isJunk = false) ∧ (∀ t : TB, t.enc.drop1 = t.enc) ∧ (∀ t : TB, t.enc.drop0 = t.enc) ∧ (∀ (t : TB) (b : Nat), t.enc.fits ⟨true, 4, b⟩ = true) :=
  ⟨TB.enc_cells, TB.enc_junk, TB.enc_drop1, TB.enc_drop0, fun t b => by rw [TB.enc_eq]; rfl⟩
theorem TBF : (∀ (tkind : Int) (tid : Int) (targs : List (Ty)) (tr : Int), PV.agg [.int .i64 tkind, .int .i64 tid, .slice (targs.map Ty.enc) .none, .int .i64 tr] = (TB.mk (Ty.mk tkind tid targs) tr).enc) ∧
    (∀ (tkind : Int) (tid : Int) (tr : Int), PV.agg [.int .i64 tkind, .int .i64 tid, .slice [] .none, .int .i64 tr] = (TB.mk (Ty.mk tkind tid []) tr).enc) ∧
    (∀ t : TB, TB.mk t.t t.tr = t) ∧
    (∀ (t : Ty) (tr : Int), (TB.mk t tr).t = t) ∧
    (∀ (t : Ty) (tr : Int), (TB.mk t tr).tr = tr) :=
  ⟨fun tkind tid targs tr => (TB.enc_eq (TB.mk (Ty.mk tkind tid targs) tr)).symm, fun tkind tid tr => (TB.enc_eq (TB.mk (Ty.mk tkind tid []) tr)).symm, TB.eta, fun _ _ => rfl, fun _ _ => rfl⟩
/-- No list is longer than the rows bear. -/
def TB.W (t : TB) : Prop := t.t.W
theorem TB.W.st_t {t : TB} (h : t.W) : t.t.W := h
theorem app_TB {us : List TB} {u : TB} {id : Nat} {tl : Tail} (hb : (us.length + 1) * 48 ≤ 2 ^ 47) (fresh : Nat) (H : Heap) (hH : H[id]? = some (.buf us.length 4)) :
    aappend ⟨true, 4, 48⟩ fresh H (.slice (us.map TB.enc) (.tok id)) (.slice [u.enc] tl) = some (.slice ((us ++ [u]).map TB.enc) (.tok id), some (id, .buf (us.length + 1) 4)) := by
  have hmx : maxLen = 9223372036854775807 := by decide
  rw [aappend_tok1 (n := us.length) hH (by simp) (by simpa using hb) (by simp; omega) (fun e he => by obtain ⟨v, _, rfl⟩ := List.mem_map.1 he; exact v.enc_len) u.enc_len (by rw [TB.enc_cells]; rfl) (by decide)]
  simp
/-- api.Declaration, as data. -/
structure Dc where
  ps : List (Int)
  t : Ty
  tr : Int
  bs : List (TB)
  ms : List (Int)
def Dc.enc (t : Dc) : PV := .agg [.slice (t.ps.map vint) .none, .int .i64 t.t.kind, .int .i64 t.t.id, .slice (t.t.args.map Ty.enc) .none, .int .i64 t.tr, .slice (t.bs.map TB.enc) .none, .slice (t.ms.map vint) .none]
theorem Dc.enc_eq (t : Dc) : t.enc = .agg [.slice (t.ps.map vint) .none, .int .i64 t.t.kind, .int .i64 t.t.id, .slice (t.t.args.map Ty.enc) .none, .int .i64 t.tr, .slice (t.bs.map TB.enc) .none, .slice (t.ms.map vint) .none] := rfl
theorem Dc.enc_cells (t : Dc) : t.enc.cells = [.slice (t.ps.map vint) .none, .int .i64 t.t.kind, .int .i64 t.t.id, .slice (t.t.args.map Ty.enc) .none, .int .i64 t.tr, .slice (t.bs.map TB.enc) .none, .slice (t.ms.map vint) .none] := rfl
theorem Dc.eta (t : Dc) : Dc.mk t.ps t.t t.tr t.bs t.ms = t := rfl
theorem Dc.enc_drop1 (t : Dc) : t.enc.drop1 = t.enc := by rw [Dc.enc_eq]; rfl
theorem Dc.enc_drop0 (t : Dc) : t.enc.drop0 = t.enc := by rw [Dc.enc_eq]; rfl
theorem Dc.enc_len (t : Dc) : t.enc.cells.length = 7 := by rw [Dc.enc_cells]; rfl
theorem Dc.enc_junk (t : Dc) : t.enc.isJunk = false := by rw [Dc.enc_eq]; rfl
theorem Dc.enc_agg (t : Dc) : PV.agg t.enc.cells = t.enc := by rw [Dc.enc_cells, Dc.enc_eq]
theorem Dc.bel (n : Nat) (t : Dc) : Bel n t.enc := .agg _ (by
  intro c hc
  simp only [List.mem_cons, List.not_mem_nil, or_false] at hc
  rcases hc with rfl | rfl | rfl | rfl | rfl | rfl | rfl
  · exact bel_ints0 _ _
  · exact .int _ _
  · exact .int _ _
  · exact bel_slice_ty _ _
  · exact .int _ _
  · exact bel_TB _ _
  · exact bel_ints0 _ _)
theorem bel_Dc (n : Nat) (us : List Dc) : Bel n (.slice (us.map Dc.enc) .none) := .slice _ _ (fun e he c hc => by
  obtain ⟨b, _, rfl⟩ := List.mem_map.1 he
  have := Dc.bel n b
  rw [Dc.enc_eq] at this hc
  cases this with | agg _ h => exact h c hc) (by simp)
theorem bel_Dc_tok {n id : Nat} (us : List Dc) (h : id < n) : Bel n (.slice (us.map Dc.enc) (.tok id)) := by
  have := bel_Dc n us
  cases this with
  | slice _ _ h1 h2 => exact .slice _ _ h1 (fun _ e => by cases e; exact h)
/-- Rules. -/
theorem DcS : (∀ t : Dc, t.enc.cells = [.slice (t.ps.map vint) .none, .int .i64 t.t.kind, .int .i64 t.t.id, .slice (t.t.args.map Ty.enc) .none, .int .i64 t.tr, .slice (t.bs.map TB.enc) .none, .slice (t.ms.map vint) .none]) ∧ (∀ t : Dc, t.enc.isJunk = false) ∧ (∀ t : Dc, t.enc.drop1 = t.enc) ∧ (∀ t : Dc, t.enc.drop0 = t.enc) ∧ (∀ (t : Dc) (b : Nat), t.enc.fits ⟨true, 7, b⟩ = true) :=
  ⟨Dc.enc_cells, Dc.enc_junk, Dc.enc_drop1, Dc.enc_drop0, fun t b => by rw [Dc.enc_eq]; rfl⟩
theorem DcF : (∀ (ps : List (Int)) (tkind : Int) (tid : Int) (targs : List (Ty)) (tr : Int) (bs : List (TB)) (ms : List (Int)), PV.agg [.slice (ps.map vint) .none, .int .i64 tkind, .int .i64 tid, .slice (targs.map Ty.enc) .none, .int .i64 tr, .slice (bs.map TB.enc) .none, .slice (ms.map vint) .none] = (Dc.mk ps (Ty.mk tkind tid targs) tr bs ms).enc) ∧
    (∀ (tkind : Int) (tid : Int) (targs : List (Ty)) (tr : Int) (bs : List (TB)) (ms : List (Int)), PV.agg [.slice [] .none, .int .i64 tkind, .int .i64 tid, .slice (targs.map Ty.enc) .none, .int .i64 tr, .slice (bs.map TB.enc) .none, .slice (ms.map vint) .none] = (Dc.mk [] (Ty.mk tkind tid targs) tr bs ms).enc) ∧
    (∀ (ps : List (Int)) (tkind : Int) (tid : Int) (tr : Int) (bs : List (TB)) (ms : List (Int)), PV.agg [.slice (ps.map vint) .none, .int .i64 tkind, .int .i64 tid, .slice [] .none, .int .i64 tr, .slice (bs.map TB.enc) .none, .slice (ms.map vint) .none] = (Dc.mk ps (Ty.mk tkind tid []) tr bs ms).enc) ∧
    (∀ (ps : List (Int)) (tkind : Int) (tid : Int) (targs : List (Ty)) (tr : Int) (ms : List (Int)), PV.agg [.slice (ps.map vint) .none, .int .i64 tkind, .int .i64 tid, .slice (targs.map Ty.enc) .none, .int .i64 tr, .slice [] .none, .slice (ms.map vint) .none] = (Dc.mk ps (Ty.mk tkind tid targs) tr [] ms).enc) ∧
    (∀ (ps : List (Int)) (tkind : Int) (tid : Int) (targs : List (Ty)) (tr : Int) (bs : List (TB)), PV.agg [.slice (ps.map vint) .none, .int .i64 tkind, .int .i64 tid, .slice (targs.map Ty.enc) .none, .int .i64 tr, .slice (bs.map TB.enc) .none, .slice [] .none] = (Dc.mk ps (Ty.mk tkind tid targs) tr bs []).enc) ∧
    (∀ (tkind : Int) (tid : Int) (tr : Int) (bs : List (TB)) (ms : List (Int)), PV.agg [.slice [] .none, .int .i64 tkind, .int .i64 tid, .slice [] .none, .int .i64 tr, .slice (bs.map TB.enc) .none, .slice (ms.map vint) .none] = (Dc.mk [] (Ty.mk tkind tid []) tr bs ms).enc) ∧
    (∀ (tkind : Int) (tid : Int) (targs : List (Ty)) (tr : Int) (ms : List (Int)), PV.agg [.slice [] .none, .int .i64 tkind, .int .i64 tid, .slice (targs.map Ty.enc) .none, .int .i64 tr, .slice [] .none, .slice (ms.map vint) .none] = (Dc.mk [] (Ty.mk tkind tid targs) tr [] ms).enc) ∧
    (∀ (tkind : Int) (tid : Int) (targs : List (Ty)) (tr : Int) (bs : List (TB)), PV.agg [.slice [] .none, .int .i64 tkind, .int .i64 tid, .slice (targs.map Ty.enc) .none, .int .i64 tr, .slice (bs.map TB.enc) .none, .slice [] .none] = (Dc.mk [] (Ty.mk tkind tid targs) tr bs []).enc) ∧
    (∀ (ps : List (Int)) (tkind : Int) (tid : Int) (tr : Int) (ms : List (Int)), PV.agg [.slice (ps.map vint) .none, .int .i64 tkind, .int .i64 tid, .slice [] .none, .int .i64 tr, .slice [] .none, .slice (ms.map vint) .none] = (Dc.mk ps (Ty.mk tkind tid []) tr [] ms).enc) ∧
    (∀ (ps : List (Int)) (tkind : Int) (tid : Int) (tr : Int) (bs : List (TB)), PV.agg [.slice (ps.map vint) .none, .int .i64 tkind, .int .i64 tid, .slice [] .none, .int .i64 tr, .slice (bs.map TB.enc) .none, .slice [] .none] = (Dc.mk ps (Ty.mk tkind tid []) tr bs []).enc) ∧
    (∀ (ps : List (Int)) (tkind : Int) (tid : Int) (targs : List (Ty)) (tr : Int), PV.agg [.slice (ps.map vint) .none, .int .i64 tkind, .int .i64 tid, .slice (targs.map Ty.enc) .none, .int .i64 tr, .slice [] .none, .slice [] .none] = (Dc.mk ps (Ty.mk tkind tid targs) tr [] []).enc) ∧
    (∀ (tkind : Int) (tid : Int) (tr : Int) (ms : List (Int)), PV.agg [.slice [] .none, .int .i64 tkind, .int .i64 tid, .slice [] .none, .int .i64 tr, .slice [] .none, .slice (ms.map vint) .none] = (Dc.mk [] (Ty.mk tkind tid []) tr [] ms).enc) ∧
    (∀ (tkind : Int) (tid : Int) (tr : Int) (bs : List (TB)), PV.agg [.slice [] .none, .int .i64 tkind, .int .i64 tid, .slice [] .none, .int .i64 tr, .slice (bs.map TB.enc) .none, .slice [] .none] = (Dc.mk [] (Ty.mk tkind tid []) tr bs []).enc) ∧
    (∀ (tkind : Int) (tid : Int) (targs : List (Ty)) (tr : Int), PV.agg [.slice [] .none, .int .i64 tkind, .int .i64 tid, .slice (targs.map Ty.enc) .none, .int .i64 tr, .slice [] .none, .slice [] .none] = (Dc.mk [] (Ty.mk tkind tid targs) tr [] []).enc) ∧
    (∀ (ps : List (Int)) (tkind : Int) (tid : Int) (tr : Int), PV.agg [.slice (ps.map vint) .none, .int .i64 tkind, .int .i64 tid, .slice [] .none, .int .i64 tr, .slice [] .none, .slice [] .none] = (Dc.mk ps (Ty.mk tkind tid []) tr [] []).enc) ∧
    (∀ (tkind : Int) (tid : Int) (tr : Int), PV.agg [.slice [] .none, .int .i64 tkind, .int .i64 tid, .slice [] .none, .int .i64 tr, .slice [] .none, .slice [] .none] = (Dc.mk [] (Ty.mk tkind tid []) tr [] []).enc) ∧
    (∀ t : Dc, Dc.mk t.ps t.t t.tr t.bs t.ms = t) ∧
    (∀ (ps : List (Int)) (t : Ty) (tr : Int) (bs : List (TB)) (ms : List (Int)), (Dc.mk ps t tr bs ms).ps = ps) ∧
    (∀ (ps : List (Int)) (t : Ty) (tr : Int) (bs : List (TB)) (ms : List (Int)), (Dc.mk ps t tr bs ms).t = t) ∧
    (∀ (ps : List (Int)) (t : Ty) (tr : Int) (bs : List (TB)) (ms : List (Int)), (Dc.mk ps t tr bs ms).tr = tr) ∧
    (∀ (ps : List (Int)) (t : Ty) (tr : Int) (bs : List (TB)) (ms : List (Int)), (Dc.mk ps t tr bs ms).bs = bs) ∧
    (∀ (ps : List (Int)) (t : Ty) (tr : Int) (bs : List (TB)) (ms : List (Int)), (Dc.mk ps t tr bs ms).ms = ms) :=
  ⟨fun ps tkind tid targs tr bs ms => (Dc.enc_eq (Dc.mk ps (Ty.mk tkind tid targs) tr bs ms)).symm, fun tkind tid targs tr bs ms => (Dc.enc_eq (Dc.mk [] (Ty.mk tkind tid targs) tr bs ms)).symm, fun ps tkind tid tr bs ms => (Dc.enc_eq (Dc.mk ps (Ty.mk tkind tid []) tr bs ms)).symm, fun ps tkind tid targs tr ms => (Dc.enc_eq (Dc.mk ps (Ty.mk tkind tid targs) tr [] ms)).symm, fun ps tkind tid targs tr bs => (Dc.enc_eq (Dc.mk ps (Ty.mk tkind tid targs) tr bs [])).symm, fun tkind tid tr bs ms => (Dc.enc_eq (Dc.mk [] (Ty.mk tkind tid []) tr bs ms)).symm, fun tkind tid targs tr ms => (Dc.enc_eq (Dc.mk [] (Ty.mk tkind tid targs) tr [] ms)).symm, fun tkind tid targs tr bs => (Dc.enc_eq (Dc.mk [] (Ty.mk tkind tid targs) tr bs [])).symm, fun ps tkind tid tr ms => (Dc.enc_eq (Dc.mk ps (Ty.mk tkind tid []) tr [] ms)).symm, fun ps tkind tid tr bs => (Dc.enc_eq (Dc.mk ps (Ty.mk tkind tid []) tr bs [])).symm, fun ps tkind tid targs tr => (Dc.enc_eq (Dc.mk ps (Ty.mk tkind tid targs) tr [] [])).symm, fun tkind tid tr ms => (Dc.enc_eq (Dc.mk [] (Ty.mk tkind tid []) tr [] ms)).symm, fun tkind tid tr bs => (Dc.enc_eq (Dc.mk [] (Ty.mk tkind tid []) tr bs [])).symm, fun tkind tid targs tr => (Dc.enc_eq (Dc.mk [] (Ty.mk tkind tid targs) tr [] [])).symm, fun ps tkind tid tr => (Dc.enc_eq (Dc.mk ps (Ty.mk tkind tid []) tr [] [])).symm, fun tkind tid tr => (Dc.enc_eq (Dc.mk [] (Ty.mk tkind tid []) tr [] [])).symm, Dc.eta, fun _ _ _ _ _ => rfl, fun _ _ _ _ _ => rfl, fun _ _ _ _ _ => rfl, fun _ _ _ _ _ => rfl, fun _ _ _ _ _ => rfl⟩
/-- No list is longer than the rows bear. -/
def Dc.W (t : Dc) : Prop := t.ps.length * 8 ≤ 2 ^ 47 ∧ t.t.W ∧ t.bs.length * 48 ≤ 2 ^ 47 ∧ (∀ u ∈ t.bs, u.W) ∧ t.ms.length * 8 ≤ 2 ^ 47
theorem Dc.W.len_ps {t : Dc} (h : t.W) : t.ps.length * 8 ≤ 2 ^ 47 := h.1
theorem Dc.W.max_ps {t : Dc} (h : t.W) : t.ps.length ≤ maxLen := by
  have em : maxLen = 9223372036854775807 := by decide
  have := h.len_ps; rw [em]; omega
theorem Dc.W.len_bs {t : Dc} (h : t.W) : t.bs.length * 48 ≤ 2 ^ 47 := h.2.2.1
theorem Dc.W.max_bs {t : Dc} (h : t.W) : t.bs.length ≤ maxLen := by
  have em : maxLen = 9223372036854775807 := by decide
  have := h.len_bs; rw [em]; omega
theorem Dc.W.el_bs {t : Dc} (h : t.W) : ∀ u ∈ t.bs, u.W := h.2.2.2.1
theorem Dc.W.len_ms {t : Dc} (h : t.W) : t.ms.length * 8 ≤ 2 ^ 47 := h.2.2.2.2
theorem Dc.W.max_ms {t : Dc} (h : t.W) : t.ms.length ≤ maxLen := by
  have em : maxLen = 9223372036854775807 := by decide
  have := h.len_ms; rw [em]; omega
theorem Dc.W.st_t {t : Dc} (h : t.W) : t.t.W := h.2.1
theorem app_Dc {us : List Dc} {u : Dc} {id : Nat} {tl : Tail} (hb : (us.length + 1) * 120 ≤ 2 ^ 47) (fresh : Nat) (H : Heap) (hH : H[id]? = some (.buf us.length 7)) :
    aappend ⟨true, 7, 120⟩ fresh H (.slice (us.map Dc.enc) (.tok id)) (.slice [u.enc] tl) = some (.slice ((us ++ [u]).map Dc.enc) (.tok id), some (id, .buf (us.length + 1) 7)) := by
  have hmx : maxLen = 9223372036854775807 := by decide
  rw [aappend_tok1 (n := us.length) hH (by simp) (by simpa using hb) (by simp; omega) (fun e he => by obtain ⟨v, _, rfl⟩ := List.mem_map.1 he; exact v.enc_len) u.enc_len (by rw [Dc.enc_cells]; rfl) (by decide)]
  simp
/-- traits.solver, as data. -/
structure Sv where
  ds : List (Dc)
  sas : List (TB)
def Sv.enc (t : Sv) : PV := .agg [.slice (t.ds.map Dc.enc) .none, .slice (t.sas.map TB.enc) .none]
theorem Sv.enc_eq (t : Sv) : t.enc = .agg [.slice (t.ds.map Dc.enc) .none, .slice (t.sas.map TB.enc) .none] := rfl
theorem Sv.enc_cells (t : Sv) : t.enc.cells = [.slice (t.ds.map Dc.enc) .none, .slice (t.sas.map TB.enc) .none] := rfl
theorem Sv.eta (t : Sv) : Sv.mk t.ds t.sas = t := rfl
theorem Sv.enc_drop1 (t : Sv) : t.enc.drop1 = t.enc := by rw [Sv.enc_eq]; rfl
theorem Sv.enc_drop0 (t : Sv) : t.enc.drop0 = t.enc := by rw [Sv.enc_eq]; rfl
theorem Sv.enc_len (t : Sv) : t.enc.cells.length = 2 := by rw [Sv.enc_cells]; rfl
theorem Sv.enc_junk (t : Sv) : t.enc.isJunk = false := by rw [Sv.enc_eq]; rfl
theorem Sv.enc_agg (t : Sv) : PV.agg t.enc.cells = t.enc := by rw [Sv.enc_cells, Sv.enc_eq]
theorem Sv.bel (n : Nat) (t : Sv) : Bel n t.enc := .agg _ (by
  intro c hc
  simp only [List.mem_cons, List.not_mem_nil, or_false] at hc
  rcases hc with rfl | rfl
  · exact bel_Dc _ _
  · exact bel_TB _ _)
theorem bel_Sv (n : Nat) (us : List Sv) : Bel n (.slice (us.map Sv.enc) .none) := .slice _ _ (fun e he c hc => by
  obtain ⟨b, _, rfl⟩ := List.mem_map.1 he
  have := Sv.bel n b
  rw [Sv.enc_eq] at this hc
  cases this with | agg _ h => exact h c hc) (by simp)
theorem bel_Sv_tok {n id : Nat} (us : List Sv) (h : id < n) : Bel n (.slice (us.map Sv.enc) (.tok id)) := by
  have := bel_Sv n us
  cases this with
  | slice _ _ h1 h2 => exact .slice _ _ h1 (fun _ e => by cases e; exact h)
/-- Rules. -/
theorem SvS : (∀ t : Sv, t.enc.cells = [.slice (t.ds.map Dc.enc) .none, .slice (t.sas.map TB.enc) .none]) ∧ (∀ t : Sv, t.enc.isJunk = false) ∧ (∀ t : Sv, t.enc.drop1 = t.enc) ∧ (∀ t : Sv, t.enc.drop0 = t.enc) ∧ (∀ (t : Sv) (b : Nat), t.enc.fits ⟨true, 2, b⟩ = true) :=
  ⟨Sv.enc_cells, Sv.enc_junk, Sv.enc_drop1, Sv.enc_drop0, fun t b => by rw [Sv.enc_eq]; rfl⟩
theorem SvF : (∀ (ds : List (Dc)) (sas : List (TB)), PV.agg [.slice (ds.map Dc.enc) .none, .slice (sas.map TB.enc) .none] = (Sv.mk ds sas).enc) ∧
    (∀ (sas : List (TB)), PV.agg [.slice [] .none, .slice (sas.map TB.enc) .none] = (Sv.mk [] sas).enc) ∧
    (∀ (ds : List (Dc)), PV.agg [.slice (ds.map Dc.enc) .none, .slice [] .none] = (Sv.mk ds []).enc) ∧
    (PV.agg [.slice [] .none, .slice [] .none] = (Sv.mk [] []).enc) ∧
    (∀ t : Sv, Sv.mk t.ds t.sas = t) ∧
    (∀ (ds : List (Dc)) (sas : List (TB)), (Sv.mk ds sas).ds = ds) ∧
    (∀ (ds : List (Dc)) (sas : List (TB)), (Sv.mk ds sas).sas = sas) :=
  ⟨fun ds sas => (Sv.enc_eq (Sv.mk ds sas)).symm, fun sas => (Sv.enc_eq (Sv.mk [] sas)).symm, fun ds => (Sv.enc_eq (Sv.mk ds [])).symm, (Sv.enc_eq (Sv.mk [] [])).symm, Sv.eta, fun _ _ => rfl, fun _ _ => rfl⟩
/-- No list is longer than the rows bear. -/
def Sv.W (t : Sv) : Prop := t.ds.length * 120 ≤ 2 ^ 47 ∧ (∀ u ∈ t.ds, u.W) ∧ t.sas.length * 48 ≤ 2 ^ 47 ∧ (∀ u ∈ t.sas, u.W)
theorem Sv.W.len_ds {t : Sv} (h : t.W) : t.ds.length * 120 ≤ 2 ^ 47 := h.1
theorem Sv.W.max_ds {t : Sv} (h : t.W) : t.ds.length ≤ maxLen := by
  have em : maxLen = 9223372036854775807 := by decide
  have := h.len_ds; rw [em]; omega
theorem Sv.W.el_ds {t : Sv} (h : t.W) : ∀ u ∈ t.ds, u.W := h.2.1
theorem Sv.W.len_sas {t : Sv} (h : t.W) : t.sas.length * 48 ≤ 2 ^ 47 := h.2.2.1
theorem Sv.W.max_sas {t : Sv} (h : t.W) : t.sas.length ≤ maxLen := by
  have em : maxLen = 9223372036854775807 := by decide
  have := h.len_sas; rw [em]; omega
theorem Sv.W.el_sas {t : Sv} (h : t.W) : ∀ u ∈ t.sas, u.W := h.2.2.2
theorem app_Sv {us : List Sv} {u : Sv} {id : Nat} {tl : Tail} (hb : (us.length + 1) * 48 ≤ 2 ^ 47) (fresh : Nat) (H : Heap) (hH : H[id]? = some (.buf us.length 2)) :
    aappend ⟨true, 2, 48⟩ fresh H (.slice (us.map Sv.enc) (.tok id)) (.slice [u.enc] tl) = some (.slice ((us ++ [u]).map Sv.enc) (.tok id), some (id, .buf (us.length + 1) 2)) := by
  have hmx : maxLen = 9223372036854775807 := by decide
  rw [aappend_tok1 (n := us.length) hH (by simp) (by simpa using hb) (by simp; omega) (fun e he => by obtain ⟨v, _, rfl⟩ := List.mem_map.1 he; exact v.enc_len) u.enc_len (by rw [Sv.enc_cells]; rfl) (by decide)]
  simp
/-- api.TraitProof, as data. -/
inductive Pf where
  | mk (t : Ty) (tr : Int) (im : Int) (bd : Int) (args : List (Ty)) (prems : List (Pf))
def Pf.t : Pf → Ty | .mk x0 _ _ _ _ _ => x0
def Pf.tr : Pf → Int | .mk _ x1 _ _ _ _ => x1
def Pf.im : Pf → Int | .mk _ _ x2 _ _ _ => x2
def Pf.bd : Pf → Int | .mk _ _ _ x3 _ _ => x3
def Pf.args : Pf → List (Ty) | .mk _ _ _ _ x4 _ => x4
def Pf.prems : Pf → List (Pf) | .mk _ _ _ _ _ x5 => x5
mutual
def Pf.enc : Pf → PV
  | .mk x0 x1 x2 x3 x4 x5 => .agg [.int .i64 x0.kind, .int .i64 x0.id, .slice (x0.args.map Ty.enc) .none, .int .i64 x1, .int .i64 x2, .int .i64 x3, .slice (x4.map Ty.enc) .none, .slice (pfEncs x5) .none]
def pfEncs : List Pf → List PV
  | [] => []
  | t :: ts => t.enc :: pfEncs ts
end
theorem pfEncs_eq (ts : List Pf) : pfEncs ts = ts.map Pf.enc := by
  induction ts with
  | nil => rfl
  | cons t ts ih => simp [pfEncs, ih]
theorem Pf.enc_eq (t : Pf) : t.enc = .agg [.int .i64 t.t.kind, .int .i64 t.t.id, .slice (t.t.args.map Ty.enc) .none, .int .i64 t.tr, .int .i64 t.im, .int .i64 t.bd, .slice (t.args.map Ty.enc) .none, .slice (t.prems.map Pf.enc) .none] := by
  cases t; simp [Pf.enc, pfEncs_eq, Pf.t, Pf.tr, Pf.im, Pf.bd, Pf.args, Pf.prems]
theorem Pf.enc_cells (t : Pf) : t.enc.cells = [.int .i64 t.t.kind, .int .i64 t.t.id, .slice (t.t.args.map Ty.enc) .none, .int .i64 t.tr, .int .i64 t.im, .int .i64 t.bd, .slice (t.args.map Ty.enc) .none, .slice (t.prems.map Pf.enc) .none] := by
  rw [Pf.enc_eq]; rfl
theorem Pf.eta (t : Pf) : Pf.mk t.t t.tr t.im t.bd t.args t.prems = t := by cases t; rfl
theorem Pf.enc_drop1 (t : Pf) : t.enc.drop1 = t.enc := by rw [Pf.enc_eq]; rfl
theorem Pf.enc_drop0 (t : Pf) : t.enc.drop0 = t.enc := by rw [Pf.enc_eq]; rfl
theorem Pf.enc_len (t : Pf) : t.enc.cells.length = 8 := by rw [Pf.enc_cells]; rfl
theorem Pf.enc_junk (t : Pf) : t.enc.isJunk = false := by rw [Pf.enc_eq]; rfl
theorem Pf.enc_agg (t : Pf) : PV.agg t.enc.cells = t.enc := by rw [Pf.enc_cells, Pf.enc_eq]
mutual
theorem Pf.bel (n : Nat) : ∀ t : Pf, Bel n t.enc
  | .mk x0 x1 x2 x3 x4 x5 => .agg _ (by
      intro c hc
      simp only [List.mem_cons, List.not_mem_nil, or_false] at hc
      rcases hc with rfl | rfl | rfl | rfl | rfl | rfl | rfl | rfl
      · exact .int _ _
      · exact .int _ _
      · exact bel_slice_ty _ _
      · exact .int _ _
      · exact .int _ _
      · exact .int _ _
      · exact bel_slice_ty _ _
      · exact .slice _ _ (pfEncsBel n x5) (fun id h => by cases h))
theorem pfEncsBel (n : Nat) : ∀ ts : List Pf, ∀ e ∈ pfEncs ts, ∀ c ∈ e.cells, Bel n c
  | [] => fun e he => by simp [pfEncs] at he
  | t :: ts => fun e he c hc => by
    simp only [pfEncs, List.mem_cons] at he
    rcases he with rfl | he
    · have h := Pf.bel n t
      rw [Pf.enc_eq] at h hc
      cases h with
      | agg _ q => exact q c hc
    · exact pfEncsBel n ts e he c hc
end
theorem bel_Pf (n : Nat) (ts : List Pf) : Bel n (.slice (ts.map Pf.enc) .none) := by
  rw [← pfEncs_eq]; exact .slice _ _ (pfEncsBel n ts) (fun id h => by cases h)
mutual
def Pf.size : Pf → Nat
  | .mk _ _ _ _ _ x5 => 1 + pfSizes x5
def pfSizes : List Pf → Nat
  | [] => 0
  | t :: ts => t.size + pfSizes ts
end
theorem pfSizes_mem {u : Pf} : ∀ {us : List Pf}, u ∈ us → u.size ≤ pfSizes us
  | [], h => by cases h
  | v :: us, h => by
    simp only [pfSizes]
    rcases List.mem_cons.1 h with rfl | h
    · omega
    · have := pfSizes_mem h; omega
theorem Pf.size_prems {t u : Pf} (h : u ∈ t.prems) : u.size < t.size := by
  cases t with
  | mk x0 x1 x2 x3 x4 x5 => have := pfSizes_mem (us := x5) h; simp only [Pf.size]; omega
theorem bel_Pf_tok {n id : Nat} (us : List Pf) (h : id < n) : Bel n (.slice (us.map Pf.enc) (.tok id)) := by
  have := bel_Pf n us
  cases this with
  | slice _ _ h1 h2 => exact .slice _ _ h1 (fun _ e => by cases e; exact h)
/-- Rules. -/
theorem PfS : (∀ t : Pf, t.enc.cells = [.int .i64 t.t.kind, .int .i64 t.t.id, .slice (t.t.args.map Ty.enc) .none, .int .i64 t.tr, .int .i64 t.im, .int .i64 t.bd, .slice (t.args.map Ty.enc) .none, .slice (t.prems.map Pf.enc) .none]) ∧ (∀ t : Pf, t.enc.isJunk = false) ∧ (∀ t : Pf, t.enc.drop1 = t.enc) ∧ (∀ t : Pf, t.enc.drop0 = t.enc) ∧ (∀ (t : Pf) (b : Nat), t.enc.fits ⟨true, 8, b⟩ = true) :=
  ⟨Pf.enc_cells, Pf.enc_junk, Pf.enc_drop1, Pf.enc_drop0, fun t b => by rw [Pf.enc_eq]; rfl⟩
theorem PfF : (∀ (tkind : Int) (tid : Int) (targs : List (Ty)) (tr : Int) (im : Int) (bd : Int) (args : List (Ty)) (prems : List (Pf)), PV.agg [.int .i64 tkind, .int .i64 tid, .slice (targs.map Ty.enc) .none, .int .i64 tr, .int .i64 im, .int .i64 bd, .slice (args.map Ty.enc) .none, .slice (prems.map Pf.enc) .none] = (Pf.mk (Ty.mk tkind tid targs) tr im bd args prems).enc) ∧
    (∀ (tkind : Int) (tid : Int) (tr : Int) (im : Int) (bd : Int) (args : List (Ty)) (prems : List (Pf)), PV.agg [.int .i64 tkind, .int .i64 tid, .slice [] .none, .int .i64 tr, .int .i64 im, .int .i64 bd, .slice (args.map Ty.enc) .none, .slice (prems.map Pf.enc) .none] = (Pf.mk (Ty.mk tkind tid []) tr im bd args prems).enc) ∧
    (∀ (tkind : Int) (tid : Int) (targs : List (Ty)) (tr : Int) (im : Int) (bd : Int) (prems : List (Pf)), PV.agg [.int .i64 tkind, .int .i64 tid, .slice (targs.map Ty.enc) .none, .int .i64 tr, .int .i64 im, .int .i64 bd, .slice [] .none, .slice (prems.map Pf.enc) .none] = (Pf.mk (Ty.mk tkind tid targs) tr im bd [] prems).enc) ∧
    (∀ (tkind : Int) (tid : Int) (targs : List (Ty)) (tr : Int) (im : Int) (bd : Int) (args : List (Ty)), PV.agg [.int .i64 tkind, .int .i64 tid, .slice (targs.map Ty.enc) .none, .int .i64 tr, .int .i64 im, .int .i64 bd, .slice (args.map Ty.enc) .none, .slice [] .none] = (Pf.mk (Ty.mk tkind tid targs) tr im bd args []).enc) ∧
    (∀ (tkind : Int) (tid : Int) (tr : Int) (im : Int) (bd : Int) (prems : List (Pf)), PV.agg [.int .i64 tkind, .int .i64 tid, .slice [] .none, .int .i64 tr, .int .i64 im, .int .i64 bd, .slice [] .none, .slice (prems.map Pf.enc) .none] = (Pf.mk (Ty.mk tkind tid []) tr im bd [] prems).enc) ∧
    (∀ (tkind : Int) (tid : Int) (tr : Int) (im : Int) (bd : Int) (args : List (Ty)), PV.agg [.int .i64 tkind, .int .i64 tid, .slice [] .none, .int .i64 tr, .int .i64 im, .int .i64 bd, .slice (args.map Ty.enc) .none, .slice [] .none] = (Pf.mk (Ty.mk tkind tid []) tr im bd args []).enc) ∧
    (∀ (tkind : Int) (tid : Int) (targs : List (Ty)) (tr : Int) (im : Int) (bd : Int), PV.agg [.int .i64 tkind, .int .i64 tid, .slice (targs.map Ty.enc) .none, .int .i64 tr, .int .i64 im, .int .i64 bd, .slice [] .none, .slice [] .none] = (Pf.mk (Ty.mk tkind tid targs) tr im bd [] []).enc) ∧
    (∀ (tkind : Int) (tid : Int) (tr : Int) (im : Int) (bd : Int), PV.agg [.int .i64 tkind, .int .i64 tid, .slice [] .none, .int .i64 tr, .int .i64 im, .int .i64 bd, .slice [] .none, .slice [] .none] = (Pf.mk (Ty.mk tkind tid []) tr im bd [] []).enc) ∧
    (∀ t : Pf, Pf.mk t.t t.tr t.im t.bd t.args t.prems = t) ∧
    (∀ (t : Ty) (tr : Int) (im : Int) (bd : Int) (args : List (Ty)) (prems : List (Pf)), (Pf.mk t tr im bd args prems).t = t) ∧
    (∀ (t : Ty) (tr : Int) (im : Int) (bd : Int) (args : List (Ty)) (prems : List (Pf)), (Pf.mk t tr im bd args prems).tr = tr) ∧
    (∀ (t : Ty) (tr : Int) (im : Int) (bd : Int) (args : List (Ty)) (prems : List (Pf)), (Pf.mk t tr im bd args prems).im = im) ∧
    (∀ (t : Ty) (tr : Int) (im : Int) (bd : Int) (args : List (Ty)) (prems : List (Pf)), (Pf.mk t tr im bd args prems).bd = bd) ∧
    (∀ (t : Ty) (tr : Int) (im : Int) (bd : Int) (args : List (Ty)) (prems : List (Pf)), (Pf.mk t tr im bd args prems).args = args) ∧
    (∀ (t : Ty) (tr : Int) (im : Int) (bd : Int) (args : List (Ty)) (prems : List (Pf)), (Pf.mk t tr im bd args prems).prems = prems) :=
  ⟨fun tkind tid targs tr im bd args prems => (Pf.enc_eq (Pf.mk (Ty.mk tkind tid targs) tr im bd args prems)).symm, fun tkind tid tr im bd args prems => (Pf.enc_eq (Pf.mk (Ty.mk tkind tid []) tr im bd args prems)).symm, fun tkind tid targs tr im bd prems => (Pf.enc_eq (Pf.mk (Ty.mk tkind tid targs) tr im bd [] prems)).symm, fun tkind tid targs tr im bd args => (Pf.enc_eq (Pf.mk (Ty.mk tkind tid targs) tr im bd args [])).symm, fun tkind tid tr im bd prems => (Pf.enc_eq (Pf.mk (Ty.mk tkind tid []) tr im bd [] prems)).symm, fun tkind tid tr im bd args => (Pf.enc_eq (Pf.mk (Ty.mk tkind tid []) tr im bd args [])).symm, fun tkind tid targs tr im bd => (Pf.enc_eq (Pf.mk (Ty.mk tkind tid targs) tr im bd [] [])).symm, fun tkind tid tr im bd => (Pf.enc_eq (Pf.mk (Ty.mk tkind tid []) tr im bd [] [])).symm, Pf.eta, fun _ _ _ _ _ _ => rfl, fun _ _ _ _ _ _ => rfl, fun _ _ _ _ _ _ => rfl, fun _ _ _ _ _ _ => rfl, fun _ _ _ _ _ _ => rfl, fun _ _ _ _ _ _ => rfl⟩
/-- No list is longer than the rows bear. -/
inductive Pf.W : Pf → Prop
  | mk {t : Ty} {tr : Int} {im : Int} {bd : Int} {args : List (Ty)} {prems : List (Pf)} (h0 : t.W) (h1 : args.length * 40 ≤ 2 ^ 47) (h2 : (∀ u ∈ args, u.W)) (h3 : prems.length * 112 ≤ 2 ^ 47) (kprems : ∀ u ∈ prems, Pf.W u) : Pf.W (.mk t tr im bd args prems)
theorem Pf.W.w0 {t : Pf} (h : t.W) : t.t.W := by cases h; assumption
theorem Pf.W.w1 {t : Pf} (h : t.W) : t.args.length * 40 ≤ 2 ^ 47 := by cases h; assumption
theorem Pf.W.w2 {t : Pf} (h : t.W) : (∀ u ∈ t.args, u.W) := by cases h; assumption
theorem Pf.W.w3 {t : Pf} (h : t.W) : t.prems.length * 112 ≤ 2 ^ 47 := by cases h; assumption
theorem Pf.W.prems {t u : Pf} (h : t.W) (hu : u ∈ t.prems) : u.W := by cases h with | mk => exact (by assumption : ∀ u ∈ _, Pf.W u) u hu
theorem Pf.W_iff {t : Ty} {tr : Int} {im : Int} {bd : Int} {args : List (Ty)} {prems : List (Pf)} : (Pf.mk t tr im bd args prems).W ↔ t.W ∧ args.length * 40 ≤ 2 ^ 47 ∧ (∀ u ∈ args, u.W) ∧ prems.length * 112 ≤ 2 ^ 47 ∧ (∀ u ∈ prems, u.W) := by
  constructor
  · intro h
    cases h
    simp_all
  · intro h
    constructor <;> simp_all
theorem Pf.W.len_args {t : Pf} (h : t.W) : t.args.length * 40 ≤ 2 ^ 47 := h.w1
theorem Pf.W.max_args {t : Pf} (h : t.W) : t.args.length ≤ maxLen := by
  have em : maxLen = 9223372036854775807 := by decide
  have := h.len_args; rw [em]; omega
theorem Pf.W.el_args {t : Pf} (h : t.W) : ∀ u ∈ t.args, u.W := h.w2
theorem Pf.W.len_prems {t : Pf} (h : t.W) : t.prems.length * 112 ≤ 2 ^ 47 := h.w3
theorem Pf.W.max_prems {t : Pf} (h : t.W) : t.prems.length ≤ maxLen := by
  have em : maxLen = 9223372036854775807 := by decide
  have := h.len_prems; rw [em]; omega
theorem Pf.W.st_t {t : Pf} (h : t.W) : t.t.W := h.w0
theorem app_Pf {us : List Pf} {u : Pf} {id : Nat} {tl : Tail} (hb : (us.length + 1) * 112 ≤ 2 ^ 47) (fresh : Nat) (H : Heap) (hH : H[id]? = some (.buf us.length 8)) :
    aappend ⟨true, 8, 112⟩ fresh H (.slice (us.map Pf.enc) (.tok id)) (.slice [u.enc] tl) = some (.slice ((us ++ [u]).map Pf.enc) (.tok id), some (id, .buf (us.length + 1) 8)) := by
  have hmx : maxLen = 9223372036854775807 := by decide
  rw [aappend_tok1 (n := us.length) hH (by simp) (by simpa using hb) (by simp; omega) (fun e he => by obtain ⟨v, _, rfl⟩ := List.mem_map.1 he; exact v.enc_len) u.enc_len (by rw [Pf.enc_cells]; rfl) (by decide)]
  simp
end Go.Abs
set_option linter.unusedVariables false
namespace Go.Abs
/-! The chapter 'traits': searching and checking proofs, as functions of trees. -/
def Pf.zero : Pf := .mk (.mk 0 0 []) 0 0 0 [] []
def boundP (t : Ty) (tr : Int) (b : TB) : Bool := decide (b.tr = tr) && b.t.eqb t
def implP (t : Ty) (tr : Int) (d : Dc) : Bool := decide (d.tr = tr) && !(d.ps.any fun p => !cpar p d.t) && (matchP d.ps t d.t).2
def Dc.zero : Dc := .mk [] (.mk 0 0 []) 0 [] []
def implIx (ds : List Dc) (t : Ty) (tr : Int) : Int := idxI (implP t tr) ds
def implD (ds : List Dc) (t : Ty) (tr : Int) : Dc := ds.getD (implIx ds t tr).toNat .zero
def implAs (ds : List Dc) (t : Ty) (tr : Int) : List Ty := if 0 ≤ implIx ds t tr then (matchP (implD ds t tr).ps t (implD ds t tr).t).1 else []
def solveT (ds : List Dc) (as' : List TB) : Nat → Ty → Int → Pf × Bool
  | 0, _, _ => (.zero, false)
  | n + 1, t, tr =>
    if t.kind = 0 ∨ tr < 0 then (.zero, false)
    else if 0 ≤ idxI (boundP t tr) as' then (.mk t tr (-1) (idxI (boundP t tr) as') [] [], true)
    else if implIx ds t tr < 0 ∨ 4 < (implD ds t tr).bs.length then (.zero, false)
    else if ((implD ds t tr).bs.all fun b => (solveT ds as' n (mapT (appG (implD ds t tr).ps (implAs ds t tr)) b.t) b.tr).2) = true then
      (.mk t tr (implIx ds t tr) (-1) (implAs ds t tr) ((implD ds t tr).bs.map fun b => (solveT ds as' n (mapT (appG (implD ds t tr).ps (implAs ds t tr)) b.t) b.tr).1), true)
    else (.zero, false)
def checkT (ds : List Dc) (as' : List TB) : Nat → Pf → Bool
  | 0, _ => false
  | n + 1, p =>
    if p.im = -1 then
      decide (0 ≤ p.bd ∧ p.bd < as'.length) && p.args.isEmpty && p.prems.isEmpty && (match as'[p.bd.toNat]? with | some b => decide (b.tr = p.tr) && b.t.eqb p.t | none => false)
    else if p.bd ≠ -1 ∨ p.im < 0 ∨ (ds.length : Int) ≤ p.im ∨ p.tr < 0 then false
    else match ds[p.im.toNat]? with
      | none => false
      | some d => decide (d.tr = p.tr) && decide (p.args.length = d.ps.length) && decide (p.prems.length = d.bs.length) && (mapT (appG d.ps p.args) d.t).eqb p.t &&
        ((d.bs.zip p.prems).all fun x => decide (x.2.tr = x.1.tr) && x.2.t.eqb (mapT (appG d.ps p.args) x.1.t) && checkT ds as' n x.2)
theorem idxI_get {α : Type} {p : α → Bool} {xs : List α} (h : 0 ≤ idxI p xs) : ∃ (hl : (idxI p xs).toNat < xs.length), p (xs[(idxI p xs).toNat]'hl) = true := by
  obtain ⟨i, e, hi, hp⟩ : ∃ i : Nat, idxI p xs = i ∧ ∃ hi : i < xs.length, p xs[i] = true := by
    unfold idxI at h ⊢
    cases hf : xs.findIdx? p with
    | none => rw [hf] at h; simp at h
    | some i =>
      obtain ⟨hi, hp, _⟩ := List.findIdx?_eq_some_iff_getElem.1 hf
      exact ⟨i, rfl, hi, hp⟩
  rw [e]
  exact ⟨hi, hp⟩
theorem implD_get {ds : List Dc} {t : Ty} {tr : Int} (h : 0 ≤ implIx ds t tr) : ds[(implIx ds t tr).toNat]? = some (implD ds t tr) ∧ implP t tr (implD ds t tr) = true := by
  obtain ⟨hl, hp⟩ := idxI_get h
  have hl : (implIx ds t tr).toNat < ds.length := hl
  have e : implD ds t tr = ds[(implIx ds t tr).toNat] := by unfold implD; rw [List.getD_eq_getElem?_getD, List.getElem?_eq_getElem hl]; rfl
  exact ⟨by rw [List.getElem?_eq_getElem hl, e], by rw [e]; exact hp⟩
theorem solve_ty (ds : List Dc) (as' : List TB) (n : Nat) (t : Ty) (tr : Int) (h : (solveT ds as' n t tr).2 = true) : (solveT ds as' n t tr).1.t = t ∧ (solveT ds as' n t tr).1.tr = tr := by
  cases n with
  | zero => simp [solveT] at h
  | succ n =>
    rw [solveT] at h ⊢
    split at h
    · simp at h
    · rename_i h1
      rw [if_neg h1]
      split at h
      · rename_i h2
        rw [if_pos h2]; exact ⟨rfl, rfl⟩
      · rename_i h2
        rw [if_neg h2]
        split at h
        · simp at h
        · rename_i h3
          rw [if_neg h3]
          split at h
          · rename_i h4
            rw [if_pos h4]; exact ⟨rfl, rfl⟩
          · simp at h
/-- A found proof is accepted, whatever the fuel. -/
theorem solve_check (ds : List Dc) (as' : List TB) : ∀ (n : Nat) (t : Ty) (tr : Int) (k : Nat), t.W → (∀ d ∈ ds, d.W) → (solveT ds as' n t tr).2 = true → (solveT ds as' n t tr).1.size ≤ k → checkT ds as' k (solveT ds as' n t tr).1 = true := by
  intro n
  induction n with
  | zero => intro t tr k _ _ h; simp [solveT] at h
  | succ n ih =>
    intro t tr k hw hds h hk
    rw [solveT] at h hk ⊢
    split at h
    · simp at h
    · rename_i h1
      rw [if_neg h1] at hk ⊢
      split at h
      · rename_i h2
        rw [if_pos h2] at hk ⊢
        cases k with
        | zero => simp [Pf.size] at hk
        | succ k =>
          obtain ⟨hl, hp⟩ := idxI_get h2
          have hlt := idxI_lt h2
          simp only [boundP, Bool.and_eq_true, decide_eq_true_eq] at hp
          rw [checkT, if_pos (by rfl)]
          simp only [Pf.bd, Pf.args, Pf.prems, Pf.tr, Pf.t, List.getElem?_eq_getElem hl, hp, h2, hlt]
          simp
      · rename_i h2
        rw [if_neg h2] at hk ⊢
        split at h
        · simp at h
        · rename_i h3
          rw [if_neg h3] at hk ⊢
          split at h
          · rename_i h4
            rw [if_pos h4] at hk ⊢
            have hix : 0 ≤ implIx ds t tr := by omega
            obtain ⟨hg, hp⟩ := implD_get hix
            have hlt := idxI_lt hix
            have hlt : implIx ds t tr < ds.length := hlt
            unfold implP at hp
            simp only [Bool.and_eq_true, decide_eq_true_eq] at hp
            obtain ⟨hl, he⟩ := match_apply _ _ _ hw hp.2
            have hmem : implD ds t tr ∈ ds := List.mem_of_getElem? hg
            have ha : implAs ds t tr = (matchP (implD ds t tr).ps t (implD ds t tr).t).1 := by unfold implAs; rw [if_pos hix]
            cases k with
            | zero => simp [Pf.size] at hk
            | succ k =>
              rw [checkT, if_neg (by simp only [Pf.im]; omega), if_neg (by simp only [Pf.bd, Pf.im, Pf.tr]; omega)]
              simp only [Pf.im, hg, Pf.tr, Pf.args, Pf.prems, Pf.t]
              rw [ha] at h4 hk ⊢
              simp only [hl, he, Ty.eqb_self, hp.1.1, decide_true, List.length_map, Bool.and_self, Bool.true_and]
              rw [List.all_eq_true]
              intro x hx
              obtain ⟨b, hb, rfl⟩ : ∃ b ∈ (implD ds t tr).bs, x = (b, (solveT ds as' n (mapT (appG (implD ds t tr).ps (matchP (implD ds t tr).ps t (implD ds t tr).t).1) b.t) b.tr).1) := by
                have := List.zip_map_right (l₁ := (implD ds t tr).bs) (l₂ := (implD ds t tr).bs) (f := fun b => (solveT ds as' n (mapT (appG (implD ds t tr).ps (matchP (implD ds t tr).ps t (implD ds t tr).t).1) b.t) b.tr).1)
                rw [this] at hx
                obtain ⟨⟨b, b'⟩, hb, rfl⟩ := List.mem_map.1 hx
                have hbb : b = b' ∧ b ∈ (implD ds t tr).bs := by
                  rw [List.zip_eq_zipWith] at hb
                  obtain ⟨i, hi, hie⟩ := List.mem_iff_getElem.1 hb
                  simp at hie
                  exact ⟨hie.1.symm.trans hie.2, by rw [← hie.1]; exact List.getElem_mem _⟩
                exact ⟨b, hbb.2, by simp [Prod.map, hbb.1]⟩
              have hbo := List.all_eq_true.1 h4 b hb
              have hWb : (mapT (appG (implD ds t tr).ps (matchP (implD ds t tr).ps t (implD ds t tr).t).1) b.t).W := app_W (matchP_W _ _ _ hw) ((hds _ hmem).el_bs b hb).st_t
              obtain ⟨e1, e2⟩ := solve_ty ds as' n _ _ hbo
              have hsz : (solveT ds as' n (mapT (appG (implD ds t tr).ps (matchP (implD ds t tr).ps t (implD ds t tr).t).1) b.t) b.tr).1.size ≤ k := by
                have hm : (solveT ds as' n (mapT (appG (implD ds t tr).ps (matchP (implD ds t tr).ps t (implD ds t tr).t).1) b.t) b.tr).1 ∈ ((implD ds t tr).bs.map fun b => (solveT ds as' n (mapT (appG (implD ds t tr).ps (matchP (implD ds t tr).ps t (implD ds t tr).t).1) b.t) b.tr).1) := List.mem_map.2 ⟨b, hb, rfl⟩
                have := pfSizes_mem hm
                simp only [Pf.size] at hk
                omega
              simp only [Pf.t, Pf.tr] at e1 e2
              simp only [e1, e2, decide_true, Ty.eqb_self, ih _ _ k hWb hds hbo hsz, Bool.and_self]
          · simp at h
/-- A type other than the proved one is refused. -/
theorem check_other (ds : List Dc) (as' : List TB) (n : Nat) (t o : Ty) (tr : Int) (k : Nat) (hw : t.W) (h : (solveT ds as' n t tr).2 = true) (ho : t.eqb o = false) :
    checkT ds as' k (.mk o (solveT ds as' n t tr).1.tr (solveT ds as' n t tr).1.im (solveT ds as' n t tr).1.bd (solveT ds as' n t tr).1.args (solveT ds as' n t tr).1.prems) = false := by
  cases n with
  | zero => simp [solveT] at h
  | succ n =>
    cases k with
    | zero => rfl
    | succ k =>
      rw [solveT] at h ⊢
      split at h
      · simp at h
      · rename_i h1
        rw [if_neg h1]
        split at h
        · rename_i h2
          rw [if_pos h2]
          obtain ⟨hl, hp⟩ := idxI_get h2
          simp only [boundP, Bool.and_eq_true, decide_eq_true_eq, Ty.eqb_iff] at hp
          rw [checkT, if_pos (by rfl)]
          simp only [Pf.bd, Pf.args, Pf.prems, Pf.tr, Pf.t, List.getElem?_eq_getElem hl, hp, ho]
          simp
        · rename_i h2
          rw [if_neg h2]
          split at h
          · simp at h
          · rename_i h3
            rw [if_neg h3]
            split at h
            · rename_i h4
              rw [if_pos h4]
              have hix : 0 ≤ implIx ds t tr := by omega
              obtain ⟨hg, hp⟩ := implD_get hix
              unfold implP at hp
              simp only [Bool.and_eq_true, decide_eq_true_eq] at hp
              obtain ⟨hl, he⟩ := match_apply _ _ _ hw hp.2
              have ha : implAs ds t tr = (matchP (implD ds t tr).ps t (implD ds t tr).t).1 := by unfold implAs; rw [if_pos hix]
              have hlt := idxI_lt hix
              have hlt : implIx ds t tr < ds.length := hlt
              rw [checkT, if_neg (by simp only [Pf.im]; omega), if_neg (by simp only [Pf.bd, Pf.im, Pf.tr]; omega)]
              simp only [Pf.im, hg, Pf.tr, Pf.args, Pf.prems, Pf.t]
              rw [ha, he, ho]
              simp
            · simp at h
/-- An assumption more. -/
theorem solve_more (ds : List Dc) (as' : List TB) (e : TB) : ∀ (n : Nat) (t : Ty) (tr : Int), (solveT ds as' n t tr).2 = true → (solveT ds (as' ++ [e]) n t tr).2 = true := by
  intro n
  induction n with
  | zero => intro t tr h; simp [solveT] at h
  | succ n ih =>
    intro t tr h
    rw [solveT] at h ⊢
    split at h
    · simp at h
    · rename_i h1
      rw [if_neg h1]
      by_cases h5 : 0 ≤ idxI (boundP t tr) (as' ++ [e])
      · rw [if_pos h5]
      · rw [if_neg h5]
        have h2 : ¬ 0 ≤ idxI (boundP t tr) as' := by
          rw [← ge_iff_le, ← decide_eq_true_eq (p := _ ≥ _), idxI_nonneg] at h5 ⊢
          simp only [List.any_append, Bool.or_eq_true, not_or] at h5
          exact h5.1
        rw [if_neg h2] at h
        split at h
        · simp at h
        · rename_i h3
          rw [if_neg h3]
          split at h
          · rename_i h4
            rw [if_pos]
            rw [List.all_eq_true] at h4 ⊢
            exact fun b hb => ih _ _ (h4 b hb)
          · simp at h
theorem solve_extra (ds : List Dc) (as' : List TB) (e : TB) (n : Nat) (h1 : ¬ e.t.kind = 0) (h2 : ¬ e.tr < 0) : (solveT ds (as' ++ [e]) (n + 1) e.t e.tr).2 = true := by
  rw [solveT, if_neg (by omega), if_pos]
  rw [← ge_iff_le, ← decide_eq_true_eq (p := _ ≥ _), idxI_nonneg]
  simp [boundP, Ty.eqb_self]
end Go.Abs
set_option linter.unusedVariables false
namespace Go.Abs
section
variable {P : Program} {N nb : Nat} {Q : Post}
/-- Paths that meet: from here on a state, its slots and its heap alone. -/
theorem awp_join {x y : Code} {T : Slots} {H : Heap} {σ : Type} (rep : σ → List (Nat × PV)) (hp : σ → Heap) (good : σ → Prop)
    (bel : ∀ s, good s → nb ≤ (hp s).length ∧ HBel (hp s).length (hp s) ∧ BelL (hp s).length (rep s))
    (hx : AWP P N nb x (thenQ (fun T' H' => ∃ s L, Fits T' (rep s) ∧ H' = hp s ++ L ∧ good s) Q) T H)
    (hy : ∀ s, good s → AWP P N nb y Q (mkS (rep s)) (hp s)) : AWP P N nb (.seq x y) Q T H := by
  refine awp_seq (hx.mono fun e T' H' he => ?_)
  cases e with
  | normal =>
    obtain ⟨s, L, h1, h2, h3⟩ := he
    obtain ⟨b1, b2, b3⟩ := bel s h3
    exact awp_fix (rep s) h1 h2 b1 b2 b3 (hy s h3)
  | _ => exact he
theorem awp_joinT {x y : Code} {Q0 : Post} {T : Slots} {H : Heap} {σ : Type} (rep : σ → List (Nat × PV)) (hp : σ → Heap) (good : σ → Prop)
    (bel : ∀ s, good s → nb ≤ (hp s).length ∧ HBel (hp s).length (hp s) ∧ BelL (hp s).length (rep s))
    (hx : AWP P N nb x (thenQ (fun T' H' => ∃ s L, Fits T' (rep s) ∧ H' = hp s ++ L ∧ good s) Q) T H)
    (hy : ∀ s, good s → AWP P N nb y Q0 (mkS (rep s)) (hp s)) : AWP P N nb x (thenQ (AWP P N nb y Q0) Q) T H := by
  refine hx.mono fun e T' H' he => ?_
  cases e with
  | normal =>
    obtain ⟨s, L, h1, h2, h3⟩ := he
    obtain ⟨b1, b2, b3⟩ := bel s h3
    exact awp_fix (rep s) h1 h2 b1 b2 b3 (hy s h3)
  | _ => exact he
end
theorem aops_gskip {P : Program} {N nb : Nat} {ops : Array Oper} {Q : Exit → Slots → Heap → Prop} {o : Oper} {l : List Oper} {T : Slots} {G : Nat → Bool} {H : Heap} {r : PV} (hc : gcond ops.toList T G N o = some false)
    (h : AOps P N nb ops Q l (msk (.tup []) (updO T o.dst r) (ugO G o.dst false)) H) : AOps P N nb ops Q (o :: l) (msk (.tup []) T G) H := by
  rw [msk_put_false] at h
  exact aops_skipU (fun E a ht => gcond_false ht hc) h
theorem guard_sl {P : Program} {w : World} (op : BinOp) (t : TypeId) (x y : Operand) (a b : Option Addr) (n m k l : Nat) : (eqGuard op t x y (.slice a n m) (.slice b k l)).run P w = .ok () w := by
  cases op <;> rfl
/-- A comparison of a slice with nil. -/
theorem aops_nilcmp {P : Program} {N nb : Nat} {ops : Array Oper} {Q : Post} {o : Oper} {l : List Oper} {T : Slots} {H : Heap} {t y : TypeId} {x : Operand} {es : List PV} {tl : Tail}
    (hop : o.op = .binOp .eql t x (.const (.slice none 0 0)) y) (hx : aev T x = .slice es tl) (hw : awanted ops.toList T N o = some true) (hok : okOpnd N x = true) (hte : (telem P t).isSome = true)
    (h : ∀ b, (es ≠ [] → b = false) → AOps P N nb ops Q l (updO T o.dst (.bool b)) H) : AOps P N nb ops Q (o :: l) T H := by
  intro E a ho hH ht
  have hr := vrel_eval ht x hok
  rw [hx] at hr
  obtain ⟨e, hu⟩ := telem_isSome hte
  obtain ⟨b, hb, hres⟩ : ∃ b, (es ≠ [] → b = false) ∧ (execOp a.eval o).run P E.w = .ok (.value (.bool b)) E.w := by
    have hc : a.eval (.const (.slice none 0 0)) = .slice none 0 0 := rfl
    generalize hvx : a.eval x = vx at hr
    cases hr with
    | nils _ _ =>
      refine ⟨true, fun h => (h rfl).elim, ?_⟩
      have he : (Op.equal t (.slice none 0 0) (.slice none 0 0)).run P E.w = .ok true E.w := by
        have key : ∀ d, (Op.equalIn (d + 1) t (.slice none 0 0) (.slice none 0 0)).run P E.w = .ok true E.w := by
          intro d; simp only [Op.equalIn, Sem.run_bind, run_under hu, Result.andThen_ok, Sem.run_pure, Option.isNone_none]
        exact key 9999
      unfold execOp
      rw [hop]
      simp only [Sem.run_bind, hc, hvx, guard_sl, Result.andThen_ok, binOp, he, Sem.run_pure]
    | slice a' len cap sz _ _ vs h1 h2 h3 h4 h5 h6 h7 =>
      refine ⟨false, fun _ => rfl, ?_⟩
      have he : (Op.equal t (.slice (some a') len cap) (.slice none 0 0)).run P E.w = .ok false E.w := by
        have key : ∀ d, (Op.equalIn (d + 1) t (.slice (some a') len cap) (.slice none 0 0)).run P E.w = .ok false E.w := by
          intro d; simp only [Op.equalIn, Sem.run_bind, run_under hu, Result.andThen_ok, Sem.run_pure]
        exact key 9999
      unfold execOp
      rw [hop]
      simp only [Sem.run_bind, hc, hvx, guard_sl, Result.andThen_ok, binOp, he, Sem.run_pure]
  have hn := h b hb E (a.put o.dst (.bool b)) ho hH (ht.put o.dst (.bool b))
  refine wpList_cons (awanted_sound ht hw) ?_
  unfold Oper.wp
  rw [hres]
  exact hn
/-- An empty slice, and a list behind it. -/
theorem aappend_all {i : TI} {fresh : Nat} {H : Heap} {ys : List PV} {tl : Tail} (hne : ys ≠ []) (hb : ys.length * i.bytes ≤ 2 ^ 47) (hm : ys.length ≤ maxLen)
    (hys : ∀ e ∈ ys, e.cells.length = i.sz ∧ e.cells.all PV.isCell = true) (hs : 0 < i.sz) :
    aappend i fresh H (.slice [] .full) (.slice ys tl) = some (.slice ys (.tok fresh), some (fresh, .buf ys.length i.sz)) := by
  unfold aappend
  simp only [if_neg hne, List.length_nil, Nat.zero_add]
  rw [if_pos ⟨hb, hm, by simp, hys, hs⟩]
  rfl
section
variable {P : Program} {N nb : Nat} {Q : Post}
/-- An operation that lays something new at a place that is named ahead. -/
theorem aops_opF {ops : Array Oper} {o : Oper} {l : List Oper} {T : Slots} {H : Heap} (mt : Bool) (id : Nat) {v : PV} {e : Eff} {H' : Heap} (hid : H[id]? = some .unborn) (hw : awanted ops.toList T N o = some true) (hok : okOp N o.op = true)
    (hv : aop P mt id T H o.op = some (v, e)) (hH' : e.app H = H') (h : AOps P N nb ops Q l (updO T o.dst v) H') : AOps P N nb ops Q (o :: l) T H := by
  refine aops_done hw (fun E a ho hH ht => ?_) h
  subst hH
  obtain ⟨E', val, h1, h2, h3, h4, h5⟩ := aop_sound ho ht hok hv (fun ob he => hid)
  exact ⟨E', val, h1, h2, h3, h4.trans hH', h5⟩
/-- A slice in a slot, made a token's at a place that is named ahead. -/
theorem awp_retokF {c : Code} {T : Slots} {H : Heap} (id t sz : Nat) {es : List PV} (hid : H[id]? = some .unborn) (ht : T t = .slice es .full) (h : AWP P N nb c Q (upd T t (.slice es (.tok id))) (H.set id (.buf es.length sz))) : AWP P N nb c Q T H := by
  intro E a ho hH hr
  subst hH
  have ho2 := Env.Ok.retok (n := es.length) (sz := sz) ho hid
  have hle := Env.retok_le (n := es.length) (sz := sz) hid
  have hH2 : (E.retok id es.length sz).H = E.H.set id (.buf es.length sz) := rfl
  have hlen := len_of_get hid
  have := h (E.retok id es.length sz) a ho2 hH2 ⟨hr.size, hr.defers, fun i hi => ?_⟩
  · exact wp_mono this fun e a w hl => lift_mono (hle.leN nb) (fun _ _ _ q => q) hl
  · have h0 := (hr.rel i hi).mono hle.view
    unfold upd
    split
    · rename_i e
      subst e
      rw [ht] at h0
      refine h0.retok ⟨.buf es.length sz, by rw [hH2]; simp [hlen], by simp⟩ (fun t e => ?_)
      simp only [Env.view, hH2, List.getElem?_set_self hlen, Option.some.injEq] at e
      subst e; exact Nat.le_refl _
    · exact h0
end
/-- A call in a region that draws, which lays something new at a place that is named ahead. -/
theorem dops_fx {P : Program} {N : Nat} {Q : Post} {ops : Array Oper} {bm : List Nat} {k : Nat} {o : Oper} {l : List Oper} {prev : Prev} {T : Slots} {H : Heap} {f : FuncId} {args : List PV} {r : PV} (rd : List Nat) (id : Nat) (ob : AObj) (hbm : bmasks ops.toList = bm) (hcall : acall T o.op = some (f, args)) (hw : awanted ops.toList T N o = some true) (hok : okOp N o.op = true)
    (hgo : goFn P f = true) (hc : ∀ H' : Heap, (∀ id ∈ rd, H'[id]? = H[id]?) → ACalls P f args H' fun r' H'' => r' = r ∧ H'' = H'.set id ob) (hid : id ∈ rd)
    (hap : hapB (bm.getD k 0) prev rd [id] = true) (h : DOps P N ops Q (k + 1) l (prev ++ [(k, rd, [id])]) (updO T o.dst r) (H.set id ob)) : DOps P N ops Q k (o :: l) prev T H := by
  obtain ⟨fo, xs, ts, pf, pc, h1, h2, h3⟩ := acall_spec hcall
  exact dops_call (eff := [(id, ob)]) (rd := rd) h1 hw hok h2 hgo h3 (by simp [hid]) (fun H' hH _ => hc H' hH) (hapB_spec (eff := [(id, ob)]) (by rw [hbm]; exact hap)) h
end Go.Abs
set_option linter.unusedVariables false
set_option linter.unusedSimpArgs false
set_option maxRecDepth 4000
namespace Go.Abs
open Go.Proofs

theorem indexFuncTB {f : FuncId} {caps : List PV} {H : Heap} {us : List TB} {p : TB → Bool} (hc : CloB Try.prog TB.enc f caps H us p) (hl : us.length ≤ maxLen) : ACalls Try.prog 127 [.slice (us.map TB.enc) .none, .fn (.func f) [] caps] H fun r' H' => r' = vint (idxI p us) ∧ H' = H := by
  have hgo := hc.go
  refine keeps_of (N := 19) Try.func127 rfl rfl (by simp) (.int _ _) fun hb' => ?_
  -- region 0
  repeat (refine awp_seq ?_)
  refine e_eval (by simp only [asq, as0, as1, as2, awanted, aop, LS, SS, SX, HS, mkS_cons, mkS_nil, ↓reduceIte, eq_self', List.map_nil, beq_self_eq_true, Nat.reduceEqDiff, Nat.reduceAdd, Nat.reduceMul, Nat.reduceLT, Nat.reduceLeDiff, Nat.reducePow, Nat.reduceDiv, Nat.reduceMod, Nat.succ_ne_self, Nat.reduceBEq, Nat.reduceBNe, vint, TyS, TyF, TBS, TBF, DcS, DcF, SvS, SvF, PfS, PfF] <;> with_reducible rfl) (by decide) ?_
  -- region 1
  repeat (refine awp_seq ?_)
  refine e_eval (by simp only [asq, as0, as1, as2, awanted, aop, abuiltin, LS, SS, SX, HS, mkS_cons, mkS_nil, ↓reduceIte, eq_self', List.map_nil, beq_self_eq_true, Nat.reduceEqDiff, Nat.reduceAdd, Nat.reduceMul, Nat.reduceLT, Nat.reduceLeDiff, Nat.reducePow, Nat.reduceDiv, Nat.reduceMod, Nat.succ_ne_self, Nat.reduceBEq, Nat.reduceBNe, Tryti60, Tryte60, Trytz60, Trytp60, Tryti74, Trytf74, Trytz74, Trytp74, vint, TyS, TyF, TBS, TBF, DcS, DcF, SvS, SvF, PfS, PfF] <;> with_reducible rfl) (by decide) ?_
  repeat (refine awp_seq ?_)
  refine awp_forS (σ := Unit) (us.length) (fun (s : Unit) => [(0, .slice (us.map TB.enc) .none), (1, .fn (.func f) [] caps)]) [0, 1] (H) (fun (s : Unit) => []) (fun (i : Nat) (s : Unit) => (us.take i).any p = false) (()) ([]) rfl rfl rfl rfl rfl rfl rfl rfl rfl (by decide) (by decide) (by decide) (fun _ => rfl) (hl) ⟨(by first | rfl | (simp only [LS, SS, SX, HS, mkS_cons, mkS_nil, ↓reduceIte, eq_self', List.map_nil, beq_self_eq_true, Nat.reduceEqDiff, Nat.reduceAdd, Nat.succ_ne_self, vint, TyS, TyF, TBS, TBF, DcS, DcF, SvS, SvF, PfS, PfF] <;> first | done | with_reducible rfl)), (by first | rfl | (simp only [LS, SS, SX, HS, mkS_cons, mkS_nil, ↓reduceIte, eq_self', List.map_nil, beq_self_eq_true, Nat.reduceEqDiff, Nat.reduceAdd, Nat.succ_ne_self, vint, TyS, TyF, TBS, TBF, DcS, DcF, SvS, SvF, PfS, PfF] <;> first | done | with_reducible rfl)), (by first | rfl | (simp only [LS, SS, SX, HS, mkS_cons, mkS_nil, ↓reduceIte, eq_self', List.map_nil, beq_self_eq_true, Nat.reduceEqDiff, Nat.reduceAdd, Nat.succ_ne_self, vint, TyS, TyF, TBS, TBF, DcS, DcF, SvS, SvF, PfS, PfF] <;> first | done | with_reducible rfl)), (by first | rfl | (simp only [LS, SS, SX, HS, mkS_cons, mkS_nil, ↓reduceIte, eq_self', List.map_nil, beq_self_eq_true, Nat.reduceEqDiff, Nat.reduceAdd, Nat.succ_ne_self, vint, TyS, TyF, TBS, TBF, DcS, DcF, SvS, SvF, PfS, PfF] <;> first | done | with_reducible rfl)), trivial⟩ (by first | rfl | (simp only [LS, SS, SX, HS, mkS_cons, mkS_nil, ↓reduceIte, eq_self', List.map_nil, beq_self_eq_true, Nat.reduceEqDiff, Nat.reduceAdd, Nat.succ_ne_self, vint, TyS, TyF, TBS, TBF, DcS, DcF, SvS, SvF, PfS, PfF] <;> first | done | with_reducible rfl)) (by simp) (fun _ _ _ => by first | exact Nat.zero_le _ | (simp only [List.length_append]; omega)) ?_ ?_ ?_
  · exact fun i s hg => ⟨by simp only [List.append_nil]; exact hb', .cons (bel_TB _ _) (.cons (.fn _ _ _ (by simp) (fun c hc' => (hc.bel c hc').mono (by simp))) .nil)⟩
  · intro i s hi hg
    have g1 := ix_nat hi
    have g2 := get_enc TB.enc hi
    -- region 3
    repeat (refine awp_seq ?_)
    refine e_eval (by simp only [asq, as0, as1, as2, awanted, aop, LS, SS, SX, HS, mkS_cons, mkS_nil, ↓reduceIte, eq_self', List.map_nil, beq_self_eq_true, Nat.reduceEqDiff, Nat.reduceAdd, Nat.reduceMul, Nat.reduceLT, Nat.reduceLeDiff, Nat.reducePow, Nat.reduceDiv, Nat.reduceMod, Nat.succ_ne_self, Nat.reduceBEq, Nat.reduceBNe, vint, TyS, TyF, TBS, TBF, DcS, DcF, SvS, SvF, PfS, PfF, g1, Int.toNat_natCast, g2] <;> with_reducible rfl) (by decide) ?_
    -- region 4
    repeat (refine awp_seq ?_)
    refine awp_region ?_
    refine e_take 5 (by simp only [asq, as0, as1, as2, awanted, aop, aidxAddr, aidx, ajust, aload, LS, SS, SX, HS, mkS_cons, mkS_nil, ↓reduceIte, eq_self', List.map_nil, beq_self_eq_true, Nat.reduceEqDiff, Nat.reduceAdd, Nat.reduceMul, Nat.reduceLT, Nat.reduceLeDiff, Nat.reducePow, Nat.reduceDiv, Nat.reduceMod, Nat.succ_ne_self, Nat.reduceBEq, Nat.reduceBNe, Tryti60, Tryte60, Trytz60, Trytp60, Tryti74, Trytf74, Trytz74, Trytp74, vint, TyS, TyF, TBS, TBF, DcS, DcF, SvS, SvF, PfS, PfF, g1, Int.toNat_natCast, g2] <;> with_reducible rfl) (by decide) ?_
    refine aops_pure (by simp only [acall, awanted, LS, SS, SX, HS, mkS_cons, mkS_nil, ↓reduceIte, eq_self', List.map_nil, beq_self_eq_true, Nat.reduceEqDiff, Nat.reduceAdd, Nat.reduceMul, Nat.reduceLT, Nat.reduceLeDiff, Nat.reducePow, Nat.reduceDiv, Nat.reduceMod, Nat.succ_ne_self, Nat.reduceBEq, Nat.reduceBNe, vint, TyS, TyF, TBS, TBF, DcS, DcF, SvS, SvF, PfS, PfF, g1, Int.toNat_natCast, g2] <;> with_reducible rfl) (by simp only [acall, awanted, LS, SS, SX, HS, mkS_cons, mkS_nil, ↓reduceIte, eq_self', List.map_nil, beq_self_eq_true, Nat.reduceEqDiff, Nat.reduceAdd, Nat.reduceMul, Nat.reduceLT, Nat.reduceLeDiff, Nat.reducePow, Nat.reduceDiv, Nat.reduceMod, Nat.succ_ne_self, Nat.reduceBEq, Nat.reduceBNe, vint, TyS, TyF, TBS, TBF, DcS, DcF, SvS, SvF, PfS, PfF, g1, Int.toNat_natCast, g2]) (by decide) (by assumption) (hc.call _ (List.getElem_mem hi)) ?_
    refine aops_nil ?_
    repeat (refine awp_seq ?_)
    refine awp_cond rfl (by simp only [LS, SS, SX, HS, mkS_cons, mkS_nil, ↓reduceIte, eq_self', List.map_nil, beq_self_eq_true, Nat.reduceEqDiff, Nat.reduceAdd, Nat.succ_ne_self, vint, TyS, TyF, TBS, TBF, DcS, DcF, SvS, SvF, PfS, PfF, g1, Int.toNat_natCast, g2] <;> with_reducible rfl) (fun b0 => ?_) (fun b0 => ?_)
    · -- if t16
      -- region 5
      repeat (refine awp_seq ?_)
      refine e_eval (by simp only [asq, as0, as1, as2, awanted, aop, LS, SS, SX, HS, mkS_cons, mkS_nil, ↓reduceIte, eq_self', List.map_nil, beq_self_eq_true, Nat.reduceEqDiff, Nat.reduceAdd, Nat.reduceMul, Nat.reduceLT, Nat.reduceLeDiff, Nat.reducePow, Nat.reduceDiv, Nat.reduceMod, Nat.succ_ne_self, Nat.reduceBEq, Nat.reduceBNe, vint, TyS, TyF, TBS, TBF, DcS, DcF, SvS, SvF, PfS, PfF, g1, Int.toNat_natCast, g2] <;> with_reducible rfl) (by decide) ?_
      repeat (refine awp_seq ?_)
      -- leaf 0 ret
      refine awp_ret ⟨.inr rfl, _, _, rfl, ?_, (by first | exact (List.append_nil _).symm | rfl)⟩
      rw [idxI_at hi b0 hg]; rfl
    · -- else t16
      repeat (refine awp_seq ?_)
      refine awp_skip ?_
      -- leaf 1 next0
      exact ⟨⟨rfl, rfl, trivial⟩, (), [], ⟨rfl, rfl, trivial⟩, by simp only [List.append_nil], any_take_succ hi hg b0⟩
  · intro s hg
    rw [List.take_length] at hg
    -- region 7
    repeat (refine awp_seq ?_)
    refine e_eval (by simp only [asq, as0, as1, as2, awanted, aop, LS, SS, SX, HS, mkS_cons, mkS_nil, ↓reduceIte, eq_self', List.map_nil, beq_self_eq_true, Nat.reduceEqDiff, Nat.reduceAdd, Nat.reduceMul, Nat.reduceLT, Nat.reduceLeDiff, Nat.reducePow, Nat.reduceDiv, Nat.reduceMod, Nat.succ_ne_self, Nat.reduceBEq, Nat.reduceBNe, vint, TyS, TyF, TBS, TBF, DcS, DcF, SvS, SvF, PfS, PfF] <;> with_reducible rfl) (by decide) ?_
    repeat (refine awp_seq ?_)
    -- leaf 2 ret
    refine awp_ret ⟨.inr rfl, _, _, rfl, ?_, (by first | exact (List.append_nil _).symm | rfl)⟩
    rw [idxI_none hg]; rfl

theorem solve1 (t : Ty) (tr : Int) (H : Heap) (i1 i2 : Nat) (h1 : H[i1]? = some (.row [.int .i64 tr])) (h2 : H[i2]? = some (.row t.enc.cells)) (b : TB) (hb : b.t.W) :
    ACalls Try.prog 128 [b.enc, .optr i1 0, .optr i2 0] H fun r' H' => r' = .bool (boundP t tr b) ∧ H' = H := by
  simp only [TyS] at h2
  have q1 : ∀ L, (H ++ L)[i1]? = some (.row [.int .i64 tr]) := fun L => by rw [List.getElem?_append_left (len_of_get h1)]; exact h1
  have q2 : ∀ L, (H ++ L)[i2]? = some (.row [.int .i64 t.kind, .int .i64 t.id, .slice (t.args.map Ty.enc) .none]) := fun L => by rw [List.getElem?_append_left (len_of_get h2)]; exact h2
  refine keeps_of (N := 15) Try.func128 rfl rfl (by simp) (.bool _) fun hb' => ?_
  -- region 0
  repeat (refine awp_seq ?_)
  refine e_eval (by simp only [asq, as0, as1, as2, awanted, aop, LS, SS, SX, HS, mkS_cons, mkS_nil, ↓reduceIte, eq_self', List.map_nil, beq_self_eq_true, Nat.reduceEqDiff, Nat.reduceAdd, Nat.reduceMul, Nat.reduceLT, Nat.reduceLeDiff, Nat.reducePow, Nat.reduceDiv, Nat.reduceMod, Nat.succ_ne_self, Nat.reduceBEq, Nat.reduceBNe, Tryti74, Trytf74, Trytz74, Trytp74, vint, TyS, TyF, TBS, TBF, DcS, DcF, SvS, SvF, PfS, PfF, q1, q2] <;> with_reducible rfl) (by decide) ?_
  -- region 1
  repeat (refine awp_seq ?_)
  refine awp_region ?_
  refine aops_gstart ?_
  refine g_take 8 (by simp only [gsq, gs0, gs1, gs2, gcond, gop, SG, Op.operands, Call.operands, Array.toList_append, aop, afldAddr, ajust, aload, abin, LS, SS, SX, HS, mkS_cons, mkS_nil, ↓reduceIte, eq_self', List.map_nil, beq_self_eq_true, Nat.reduceEqDiff, Nat.reduceAdd, Nat.reduceMul, Nat.reduceLT, Nat.reduceLeDiff, Nat.reducePow, Nat.reduceDiv, Nat.reduceMod, Nat.succ_ne_self, Nat.reduceBEq, Nat.reduceBNe, Tryti3, Trytz3, Trytp3, Trytk3, Tryti24, Trytf24, Trytz24, Trytp24, Tryti74, Trytf74, Trytz74, Trytp74, vint, TyS, TyF, TBS, TBF, DcS, DcF, SvS, SvF, PfS, PfF, q1, q2] <;> with_reducible rfl) (by decide) ?_
  refine aops_gpure (by simp only [acall, gcond, SG, Op.operands, Call.operands, Array.toList_append, LS, SS, SX, HS, mkS_cons, mkS_nil, ↓reduceIte, eq_self', List.map_nil, beq_self_eq_true, Nat.reduceEqDiff, Nat.reduceAdd, Nat.reduceMul, Nat.reduceLT, Nat.reduceLeDiff, Nat.reducePow, Nat.reduceDiv, Nat.reduceMod, Nat.succ_ne_self, Nat.reduceBEq, Nat.reduceBNe, vint, TyS, TyF, TBS, TBF, DcS, DcF, SvS, SvF, PfS, PfF, q1, q2] <;> with_reducible rfl) (by simp only [acall, gcond, SG, Op.operands, Call.operands, Array.toList_append, LS, SS, SX, HS, mkS_cons, mkS_nil, ↓reduceIte, eq_self', List.map_nil, beq_self_eq_true, Nat.reduceEqDiff, Nat.reduceAdd, Nat.reduceMul, Nat.reduceLT, Nat.reduceLeDiff, Nat.reducePow, Nat.reduceDiv, Nat.reduceMod, Nat.succ_ne_self, Nat.reduceBEq, Nat.reduceBNe, vint, TyS, TyF, TBS, TBF, DcS, DcF, SvS, SvF, PfS, PfF, q1, q2] <;> with_reducible rfl) (by simp only [acall, gcond, SG, Op.operands, Call.operands, Array.toList_append, LS, SS, SX, HS, mkS_cons, mkS_nil, ↓reduceIte, eq_self', List.map_nil, beq_self_eq_true, Nat.reduceEqDiff, Nat.reduceAdd, Nat.reduceMul, Nat.reduceLT, Nat.reduceLeDiff, Nat.reducePow, Nat.reduceDiv, Nat.reduceMod, Nat.succ_ne_self, Nat.reduceBEq, Nat.reduceBNe, vint, TyS, TyF, TBS, TBF, DcS, DcF, SvS, SvF, PfS, PfF, q1, q2]) (by decide) Trygo23 (fun hc => equal_any b.t t hb _) ?_
  refine g_end (by simp only [gsq, gs0, gs1, gs2, gcond, gop, SG, Op.operands, Call.operands, Array.toList_append, aop, LS, SS, SX, HS, mkS_cons, mkS_nil, ↓reduceIte, eq_self', List.map_nil, beq_self_eq_true, Nat.reduceEqDiff, Nat.reduceAdd, Nat.reduceMul, Nat.reduceLT, Nat.reduceLeDiff, Nat.reducePow, Nat.reduceDiv, Nat.reduceMod, Nat.succ_ne_self, Nat.reduceBEq, Nat.reduceBNe, vint, TyS, TyF, TBS, TBF, DcS, DcF, SvS, SvF, PfS, PfF, q1, q2] <;> with_reducible rfl) (by decide) (by repeat (first | exact Fin.base _ | with_reducible apply Fin.keep | apply Fin.drop)) ?_
  repeat (refine awp_seq ?_)
  -- leaf 0 ret
  refine awp_ret ⟨.inr rfl, _, _, rfl, ?_, (by first | exact (List.append_nil _).symm | rfl)⟩
  simp only [LS, SS, SX, HS, mkS_cons, mkS_nil, ↓reduceIte, eq_self', List.map_nil, beq_self_eq_true, Nat.reduceEqDiff, Nat.reduceAdd, Nat.succ_ne_self, vint, TyS, TyF, TBS, TBF, DcS, DcF, SvS, SvF, PfS, PfF]
  rfl

theorem mi1 (d : Dc) (hd : d.t.W) (H : Heap) (id : Nat) (h1 : H[id]? = some (.row d.enc.cells)) (p : Int) : ACalls Try.prog 144 [vint p, .optr id 0] H fun r' H' => r' = .bool (!cpar p d.t) ∧ H' = H := by
  simp only [DcS] at h1
  have q1 : ∀ L, (H ++ L)[id]? = some (.row [.slice (d.ps.map vint) .none, .int .i64 d.t.kind, .int .i64 d.t.id, .slice (d.t.args.map Ty.enc) .none, .int .i64 d.tr, .slice (d.bs.map TB.enc) .none, .slice (d.ms.map vint) .none]) := fun L => by rw [List.getElem?_append_left (len_of_get h1)]; exact h1
  refine keeps_of (N := 9) Try.func144 rfl rfl (by simp) (.bool _) fun hb' => ?_
  -- region 0
  repeat (refine awp_seq ?_)
  refine e_eval (by simp only [asq, as0, as1, as2, awanted, aop, LS, SS, SX, HS, mkS_cons, mkS_nil, ↓reduceIte, eq_self', List.map_nil, beq_self_eq_true, Nat.reduceEqDiff, Nat.reduceAdd, Nat.reduceMul, Nat.reduceLT, Nat.reduceLeDiff, Nat.reducePow, Nat.reduceDiv, Nat.reduceMod, Nat.succ_ne_self, Nat.reduceBEq, Nat.reduceBNe, vint, TyS, TyF, TBS, TBF, DcS, DcF, SvS, SvF, PfS, PfF, q1, h1] <;> with_reducible rfl) (by decide) ?_
  -- region 1
  repeat (refine awp_seq ?_)
  refine awp_region ?_
  refine e_take 3 (by simp only [asq, as0, as1, as2, awanted, aop, afldAddr, ajust, aload, LS, SS, SX, HS, mkS_cons, mkS_nil, ↓reduceIte, eq_self', List.map_nil, beq_self_eq_true, Nat.reduceEqDiff, Nat.reduceAdd, Nat.reduceMul, Nat.reduceLT, Nat.reduceLeDiff, Nat.reducePow, Nat.reduceDiv, Nat.reduceMod, Nat.succ_ne_self, Nat.reduceBEq, Nat.reduceBNe, Tryti24, Trytf24, Trytz24, Trytp24, Tryti71, Trytf71, Trytz71, Trytp71, vint, TyS, TyF, TBS, TBF, DcS, DcF, SvS, SvF, PfS, PfF, q1, h1] <;> with_reducible rfl) (by decide) ?_
  refine aops_pure (by simp only [acall, awanted, LS, SS, SX, HS, mkS_cons, mkS_nil, ↓reduceIte, eq_self', List.map_nil, beq_self_eq_true, Nat.reduceEqDiff, Nat.reduceAdd, Nat.reduceMul, Nat.reduceLT, Nat.reduceLeDiff, Nat.reducePow, Nat.reduceDiv, Nat.reduceMod, Nat.succ_ne_self, Nat.reduceBEq, Nat.reduceBNe, vint, TyS, TyF, TBS, TBF, DcS, DcF, SvS, SvF, PfS, PfF, q1, h1] <;> with_reducible rfl) (by simp only [acall, awanted, LS, SS, SX, HS, mkS_cons, mkS_nil, ↓reduceIte, eq_self', List.map_nil, beq_self_eq_true, Nat.reduceEqDiff, Nat.reduceAdd, Nat.reduceMul, Nat.reduceLT, Nat.reduceLeDiff, Nat.reducePow, Nat.reduceDiv, Nat.reduceMod, Nat.succ_ne_self, Nat.reduceBEq, Nat.reduceBNe, vint, TyS, TyF, TBS, TBF, DcS, DcF, SvS, SvF, PfS, PfF, q1, h1]) (by decide) Trygo145 (cpT d.t p hd _) ?_
  refine e_end (by simp only [asq, as0, as1, as2, awanted, aop, aun, ajust, LS, SS, SX, HS, mkS_cons, mkS_nil, ↓reduceIte, eq_self', List.map_nil, beq_self_eq_true, Nat.reduceEqDiff, Nat.reduceAdd, Nat.reduceMul, Nat.reduceLT, Nat.reduceLeDiff, Nat.reducePow, Nat.reduceDiv, Nat.reduceMod, Nat.succ_ne_self, Nat.reduceBEq, Nat.reduceBNe, vint, TyS, TyF, TBS, TBF, DcS, DcF, SvS, SvF, PfS, PfF, q1, h1] <;> with_reducible rfl) (by decide) ?_
  repeat (refine awp_seq ?_)
  -- leaf 0 ret
  refine awp_ret ⟨.inr rfl, _, _, rfl, ?_, (by first | exact (List.append_nil _).symm | rfl)⟩
  simp only [LS, SS, SX, HS, mkS_cons, mkS_nil, ↓reduceIte, eq_self', List.map_nil, beq_self_eq_true, Nat.reduceEqDiff, Nat.reduceAdd, Nat.succ_ne_self, vint, TyS, TyF, TBS, TBF, DcS, DcF, SvS, SvF, PfS, PfF]

/-- What the walks ask of a declaration. -/
def Dc.B (d : Dc) : Prop := d.W ∧ d.ps.length * 40 ≤ 2 ^ 47

theorem mi_c (ds : List Dc) (sas : List TB) (t : Ty) (tr : Int) (hl : ds.length ≤ maxLen) (hd : ∀ d ∈ ds, d.B) (ht : t.W) : PC Try.prog 129 [(Sv.mk ds sas).enc, t.enc, vint tr] (.tup [vint (implIx ds t tr), .slice ((implAs ds t tr).map Ty.enc) .none]) := by
  refine pc_of (N := 43) Try.func129 rfl rfl (by simp) (by simp [Ty.bel, Sv.bel, Bel.int]) (.tup _ (by simp [bel_slice_ty, Bel.int])) ?_
  -- region 0
  repeat (refine awp_seq ?_)
  refine e_eval (by simp only [asq, as0, as1, as2, awanted, aop, LS, SS, SX, HS, mkS_cons, mkS_nil, ↓reduceIte, eq_self', List.map_nil, beq_self_eq_true, Nat.reduceEqDiff, Nat.reduceAdd, Nat.reduceMul, Nat.reduceLT, Nat.reduceLeDiff, Nat.reducePow, Nat.reduceDiv, Nat.reduceMod, Nat.succ_ne_self, Nat.reduceBEq, Nat.reduceBNe, Tryti24, Trytf24, Trytz24, Trytp24, Tryti123, Trytf123, Trytz123, Trytp123, vint, TyS, TyF, TBS, TBF, DcS, DcF, SvS, SvF, PfS, PfF, Bool.or_assoc] <;> with_reducible rfl) (by decide) ?_
  -- region 1
  repeat (refine awp_seq ?_)
  refine e_eval (by simp only [asq, as0, as1, as2, awanted, aop, afldAddr, ajust, aload, abuiltin, LS, SS, SX, HS, mkS_cons, mkS_nil, ↓reduceIte, eq_self', List.map_nil, beq_self_eq_true, Nat.reduceEqDiff, Nat.reduceAdd, Nat.reduceMul, Nat.reduceLT, Nat.reduceLeDiff, Nat.reducePow, Nat.reduceDiv, Nat.reduceMod, Nat.succ_ne_self, Nat.reduceBEq, Nat.reduceBNe, Tryti59, Tryte59, Trytz59, Trytp59, Tryti71, Trytf71, Trytz71, Trytp71, Tryti123, Trytf123, Trytz123, Trytp123, vint, TyS, TyF, TBS, TBF, DcS, DcF, SvS, SvF, PfS, PfF, Bool.or_assoc] <;> with_reducible rfl) (by decide) ?_
  repeat (refine awp_seq ?_)
  refine awp_forS (σ := Unit) (ds.length) (fun (s : Unit) => [(2, vint tr), (4, .optr 1 0), (13, .slice (ds.map Dc.enc) .none)]) [2, 4, 13] ([]) (fun (s : Unit) => [.row (Sv.mk ds sas).enc.cells, .row t.enc.cells]) (fun (i : Nat) (s : Unit) => (ds.take i).any (implP t tr) = false) (()) ([]) rfl rfl rfl rfl rfl rfl rfl rfl rfl (by decide) (by decide) (by decide) (fun _ => rfl) (hl) ⟨(by first | rfl | (simp only [LS, SS, SX, HS, mkS_cons, mkS_nil, ↓reduceIte, eq_self', List.map_nil, beq_self_eq_true, Nat.reduceEqDiff, Nat.reduceAdd, Nat.succ_ne_self, vint, TyS, TyF, TBS, TBF, DcS, DcF, SvS, SvF, PfS, PfF, Bool.or_assoc] <;> first | done | with_reducible rfl)), (by first | rfl | (simp only [LS, SS, SX, HS, mkS_cons, mkS_nil, ↓reduceIte, eq_self', List.map_nil, beq_self_eq_true, Nat.reduceEqDiff, Nat.reduceAdd, Nat.succ_ne_self, vint, TyS, TyF, TBS, TBF, DcS, DcF, SvS, SvF, PfS, PfF, Bool.or_assoc] <;> first | done | with_reducible rfl)), (by first | rfl | (simp only [LS, SS, SX, HS, mkS_cons, mkS_nil, ↓reduceIte, eq_self', List.map_nil, beq_self_eq_true, Nat.reduceEqDiff, Nat.reduceAdd, Nat.succ_ne_self, vint, TyS, TyF, TBS, TBF, DcS, DcF, SvS, SvF, PfS, PfF, Bool.or_assoc] <;> first | done | with_reducible rfl)), (by first | rfl | (simp only [LS, SS, SX, HS, mkS_cons, mkS_nil, ↓reduceIte, eq_self', List.map_nil, beq_self_eq_true, Nat.reduceEqDiff, Nat.reduceAdd, Nat.succ_ne_self, vint, TyS, TyF, TBS, TBF, DcS, DcF, SvS, SvF, PfS, PfF, Bool.or_assoc] <;> first | done | with_reducible rfl)), (by first | rfl | (simp only [LS, SS, SX, HS, mkS_cons, mkS_nil, ↓reduceIte, eq_self', List.map_nil, beq_self_eq_true, Nat.reduceEqDiff, Nat.reduceAdd, Nat.succ_ne_self, vint, TyS, TyF, TBS, TBF, DcS, DcF, SvS, SvF, PfS, PfF, Bool.or_assoc] <;> first | done | with_reducible rfl)), trivial⟩ (by first | rfl | (simp only [LS, SS, SX, HS, mkS_cons, mkS_nil, ↓reduceIte, eq_self', List.map_nil, beq_self_eq_true, Nat.reduceEqDiff, Nat.reduceAdd, Nat.succ_ne_self, vint, TyS, TyF, TBS, TBF, DcS, DcF, SvS, SvF, PfS, PfF, Bool.or_assoc] <;> first | done | with_reducible rfl)) (by simp) (fun _ _ _ => by first | exact Nat.zero_le _ | (simp only [List.length_append]; omega)) ?_ ?_ ?_
  · exact fun i s hg => ⟨by simp only [SvS, TyS, List.nil_append]; repeat (first | exact hbel_nil _ | exact trivial | exact obel_row_nil _ | (refine HBel.cons ?_ ?_) | (refine obel_row_cons (by first | exact bel_TB _ _ | exact TB.bel _ _ | exact bel_Dc _ _ | exact Dc.bel _ _ | exact Pf.bel _ _ | exact bel_Pf _ _ | exact Sv.bel _ _ | exact bel_Pf_tok _ (by simp) | exact bel_ints0 _ _ | exact bel_slice_ty _ _ | exact Ty.bel _ _ | exact bel_ty_tok _ (by simp) | exact Bel.int _ _ | exact Bel.bool _ | exact Bel.str _ | exact Bel.nilp | exact Bel.nilfn | exact Bel.optr _ _ (by simp) | exact bel_nil0 _ | exact bel_nil1 _ | exact bel_fn0 _ _ | assumption) ?_)), by repeat (first | exact BelL.nil | refine BelL.cons (by first | exact bel_TB _ _ | exact TB.bel _ _ | exact bel_Dc _ _ | exact Dc.bel _ _ | exact Pf.bel _ _ | exact bel_Pf _ _ | exact Sv.bel _ _ | exact bel_Pf_tok _ (by simp) | exact bel_ints0 _ _ | exact bel_slice_ty _ _ | exact Ty.bel _ _ | exact bel_ty_tok _ (by simp) | exact Bel.int _ _ | exact Bel.bool _ | exact Bel.str _ | exact Bel.nilp | exact Bel.nilfn | exact Bel.optr _ _ (by simp) | exact bel_nil0 _ | exact bel_nil1 _ | exact bel_fn0 _ _ | assumption) ?_)⟩
  · intro i s hi hg
    have g1 := ix_nat hi
    have g2 := get_enc Dc.enc hi
    obtain ⟨hW, h40⟩ := hd ds[i] (List.getElem_mem hi)
    obtain ⟨d, hde⟩ : ∃ d, ds[i] = d := ⟨_, rfl⟩
    rw [hde] at g2 hW h40
    have hmx := hW.max_ps
    -- region 3
    repeat (refine awp_seq ?_)
    refine e_eval (by simp only [asq, as0, as1, as2, awanted, aop, aidxAddr, aidx, ajust, aload, astore, splice, LS, SS, SX, HS, mkS_cons, mkS_nil, ↓reduceIte, eq_self', List.map_nil, beq_self_eq_true, Nat.reduceEqDiff, Nat.reduceAdd, Nat.reduceMul, Nat.reduceLT, Nat.reduceLeDiff, Nat.reducePow, Nat.reduceDiv, Nat.reduceMod, Nat.succ_ne_self, Nat.reduceBEq, Nat.reduceBNe, Tryti59, Tryte59, Trytz59, Trytp59, Tryti71, Trytf71, Trytz71, Trytp71, vint, TyS, TyF, TBS, TBF, DcS, DcF, SvS, SvF, PfS, PfF, Bool.or_assoc, g1, Int.toNat_natCast, g2] <;> with_reducible rfl) (by decide) ?_
    -- region 4
    repeat (refine awp_seq ?_)
    refine awp_region ?_
    refine aops_gstart ?_
    refine g_take 8 (by simp only [gsq, gs0, gs1, gs2, gcond, gop, SG, Op.operands, Call.operands, Array.toList_append, aop, afldAddr, ajust, aload, abin, LS, SS, SX, HS, mkS_cons, mkS_nil, ↓reduceIte, eq_self', List.map_nil, beq_self_eq_true, Nat.reduceEqDiff, Nat.reduceAdd, Nat.reduceMul, Nat.reduceLT, Nat.reduceLeDiff, Nat.reducePow, Nat.reduceDiv, Nat.reduceMod, Nat.succ_ne_self, Nat.reduceBEq, Nat.reduceBNe, Tryti3, Trytz3, Trytp3, Trytk3, Tryti25, Tryte25, Trytz25, Trytp25, Tryti71, Trytf71, Trytz71, Trytp71, vint, TyS, TyF, TBS, TBF, DcS, DcF, SvS, SvF, PfS, PfF, Bool.or_assoc, g1, Int.toNat_natCast, g2] <;> with_reducible rfl) (by decide) ?_
    refine aops_gpure (by simp only [acall, gcond, SG, Op.operands, Call.operands, Array.toList_append, LS, SS, SX, HS, mkS_cons, mkS_nil, ↓reduceIte, eq_self', List.map_nil, beq_self_eq_true, Nat.reduceEqDiff, Nat.reduceAdd, Nat.reduceMul, Nat.reduceLT, Nat.reduceLeDiff, Nat.reducePow, Nat.reduceDiv, Nat.reduceMod, Nat.succ_ne_self, Nat.reduceBEq, Nat.reduceBNe, vint, TyS, TyF, TBS, TBF, DcS, DcF, SvS, SvF, PfS, PfF, Bool.or_assoc, g1, Int.toNat_natCast, g2] <;> with_reducible rfl) (by simp only [acall, gcond, SG, Op.operands, Call.operands, Array.toList_append, LS, SS, SX, HS, mkS_cons, mkS_nil, ↓reduceIte, eq_self', List.map_nil, beq_self_eq_true, Nat.reduceEqDiff, Nat.reduceAdd, Nat.reduceMul, Nat.reduceLT, Nat.reduceLeDiff, Nat.reducePow, Nat.reduceDiv, Nat.reduceMod, Nat.succ_ne_self, Nat.reduceBEq, Nat.reduceBNe, vint, TyS, TyF, TBS, TBF, DcS, DcF, SvS, SvF, PfS, PfF, Bool.or_assoc, g1, Int.toNat_natCast, g2] <;> with_reducible rfl) (by simp only [acall, gcond, SG, Op.operands, Call.operands, Array.toList_append, LS, SS, SX, HS, mkS_cons, mkS_nil, ↓reduceIte, eq_self', List.map_nil, beq_self_eq_true, Nat.reduceEqDiff, Nat.reduceAdd, Nat.reduceMul, Nat.reduceLT, Nat.reduceLeDiff, Nat.reducePow, Nat.reduceDiv, Nat.reduceMod, Nat.succ_ne_self, Nat.reduceBEq, Nat.reduceBNe, vint, TyS, TyF, TBS, TBF, DcS, DcF, SvS, SvF, PfS, PfF, Bool.or_assoc, g1, Int.toNat_natCast, g2]) (by decide) Trygo25 (fun hc => containsFuncInt (p := fun p => !cpar p d.t) ⟨Trygo144, by simp; exact .optr _ _ (by simp), fun u hu => mi1 d hW.st_t _ 2 rfl u⟩ hmx) ?_
    refine g_end (by simp only [gsq, gs0, gs1, gs2, gcond, gop, SG, Op.operands, Call.operands, Array.toList_append, aop, LS, SS, SX, HS, mkS_cons, mkS_nil, ↓reduceIte, eq_self', List.map_nil, beq_self_eq_true, Nat.reduceEqDiff, Nat.reduceAdd, Nat.reduceMul, Nat.reduceLT, Nat.reduceLeDiff, Nat.reducePow, Nat.reduceDiv, Nat.reduceMod, Nat.succ_ne_self, Nat.reduceBEq, Nat.reduceBNe, vint, TyS, TyF, TBS, TBF, DcS, DcF, SvS, SvF, PfS, PfF, Bool.or_assoc, g1, Int.toNat_natCast, g2] <;> with_reducible rfl) (by decide) (by repeat (first | exact Fin.base _ | with_reducible apply Fin.keep | apply Fin.drop)) ?_
    repeat (refine awp_seq ?_)
    refine awp_cond rfl (by simp only [LS, SS, SX, HS, mkS_cons, mkS_nil, ↓reduceIte, eq_self', List.map_nil, beq_self_eq_true, Nat.reduceEqDiff, Nat.reduceAdd, Nat.succ_ne_self, vint, TyS, TyF, TBS, TBF, DcS, DcF, SvS, SvF, PfS, PfF, Bool.or_assoc, g1, Int.toNat_natCast, g2] <;> with_reducible rfl) (fun b0 => ?_) (fun b0 => ?_)
    · -- if t29
      repeat (refine awp_seq ?_)
      refine awp_exit ?_
      -- leaf 0 next0
      exact ⟨⟨rfl, rfl, trivial⟩, (), _, ⟨rfl, rfl, rfl, trivial⟩, by simp only [LS, SS, SX, HS, mkS_cons, mkS_nil, ↓reduceIte, eq_self', List.map_nil, beq_self_eq_true, Nat.reduceEqDiff, Nat.reduceAdd, Nat.succ_ne_self, vint, TyS, TyF, TBS, TBF, DcS, DcF, SvS, SvF, PfS, PfF] <;> rfl, any_take_succ hi hg (by rw [hde]; unfold implP; grind)⟩
    · -- else t29
      repeat (refine awp_seq ?_)
      refine awp_skip ?_
      refine awp_sel [2, 4, 8, 9, 13, 14, 15] (by simp only [LS, SS, SX, HS, mkS_cons, mkS_nil, ↓reduceIte, eq_self', List.map_nil, beq_self_eq_true, Nat.reduceEqDiff, Nat.reduceAdd, Nat.succ_ne_self, vint, TyS, TyF, TBS, TBF, DcS, DcF, SvS, SvF, PfS, PfF, Bool.or_assoc, g1, Int.toNat_natCast, g2] <;> with_reducible rfl) ?_
      -- region 5
      repeat (refine awp_seq ?_)
      refine awp_region ?_
      refine e_take 5 (by simp only [asq, as0, as1, as2, awanted, aop, aload, ajust, afldAddr, LS, SS, SX, HS, mkS_cons, mkS_nil, ↓reduceIte, eq_self', List.map_nil, beq_self_eq_true, Nat.reduceEqDiff, Nat.reduceAdd, Nat.reduceMul, Nat.reduceLT, Nat.reduceLeDiff, Nat.reducePow, Nat.reduceDiv, Nat.reduceMod, Nat.succ_ne_self, Nat.reduceBEq, Nat.reduceBNe, Tryti3, Trytz3, Trytp3, Trytk3, Tryti24, Trytf24, Trytz24, Trytp24, Tryti25, Tryte25, Trytz25, Trytp25, Tryti71, Trytf71, Trytz71, Trytp71, vint, TyS, TyF, TBS, TBF, DcS, DcF, SvS, SvF, PfS, PfF, Bool.or_assoc, g1, Int.toNat_natCast, g2] <;> with_reducible rfl) (by decide) ?_
      refine aops_pure (by simp only [acall, awanted, LS, SS, SX, HS, mkS_cons, mkS_nil, ↓reduceIte, eq_self', List.map_nil, beq_self_eq_true, Nat.reduceEqDiff, Nat.reduceAdd, Nat.reduceMul, Nat.reduceLT, Nat.reduceLeDiff, Nat.reducePow, Nat.reduceDiv, Nat.reduceMod, Nat.succ_ne_self, Nat.reduceBEq, Nat.reduceBNe, vint, TyS, TyF, TBS, TBF, DcS, DcF, SvS, SvF, PfS, PfF, Bool.or_assoc, g1, Int.toNat_natCast, g2] <;> with_reducible rfl) (by simp only [acall, awanted, LS, SS, SX, HS, mkS_cons, mkS_nil, ↓reduceIte, eq_self', List.map_nil, beq_self_eq_true, Nat.reduceEqDiff, Nat.reduceAdd, Nat.reduceMul, Nat.reduceLT, Nat.reduceLeDiff, Nat.reducePow, Nat.reduceDiv, Nat.reduceMod, Nat.succ_ne_self, Nat.reduceBEq, Nat.reduceBNe, vint, TyS, TyF, TBS, TBF, DcS, DcF, SvS, SvF, PfS, PfF, Bool.or_assoc, g1, Int.toNat_natCast, g2]) (by decide) Trygo22 (match_c d.ps t d.t h40 ht hW.st_t _) ?_
      refine e_end (by simp only [asq, as0, as1, as2, awanted, aop, ajust, LS, SS, SX, HS, mkS_cons, mkS_nil, ↓reduceIte, eq_self', List.map_nil, beq_self_eq_true, Nat.reduceEqDiff, Nat.reduceAdd, Nat.reduceMul, Nat.reduceLT, Nat.reduceLeDiff, Nat.reducePow, Nat.reduceDiv, Nat.reduceMod, Nat.succ_ne_self, Nat.reduceBEq, Nat.reduceBNe, vint, TyS, TyF, TBS, TBF, DcS, DcF, SvS, SvF, PfS, PfF, Bool.or_assoc, g1, Int.toNat_natCast, g2] <;> with_reducible rfl) (by decide) ?_
      -- region 6
      repeat (refine awp_seq ?_)
      refine e_eval (by simp only [asq, as0, as1, as2, awanted, aop, LS, SS, SX, HS, mkS_cons, mkS_nil, ↓reduceIte, eq_self', List.map_nil, beq_self_eq_true, Nat.reduceEqDiff, Nat.reduceAdd, Nat.reduceMul, Nat.reduceLT, Nat.reduceLeDiff, Nat.reducePow, Nat.reduceDiv, Nat.reduceMod, Nat.succ_ne_self, Nat.reduceBEq, Nat.reduceBNe, vint, TyS, TyF, TBS, TBF, DcS, DcF, SvS, SvF, PfS, PfF, Bool.or_assoc, g1, Int.toNat_natCast, g2] <;> with_reducible rfl) (by decide) ?_
      repeat (refine awp_seq ?_)
      refine awp_cond rfl (by simp only [LS, SS, SX, HS, mkS_cons, mkS_nil, ↓reduceIte, eq_self', List.map_nil, beq_self_eq_true, Nat.reduceEqDiff, Nat.reduceAdd, Nat.succ_ne_self, vint, TyS, TyF, TBS, TBF, DcS, DcF, SvS, SvF, PfS, PfF, Bool.or_assoc, g1, Int.toNat_natCast, g2] <;> with_reducible rfl) (fun b1 => ?_) (fun b1 => ?_)
      · -- if t39
        -- region 7
        repeat (refine awp_seq ?_)
        refine e_eval (by simp only [asq, as0, as1, as2, awanted, aop, LS, SS, SX, HS, mkS_cons, mkS_nil, ↓reduceIte, eq_self', List.map_nil, beq_self_eq_true, Nat.reduceEqDiff, Nat.reduceAdd, Nat.reduceMul, Nat.reduceLT, Nat.reduceLeDiff, Nat.reducePow, Nat.reduceDiv, Nat.reduceMod, Nat.succ_ne_self, Nat.reduceBEq, Nat.reduceBNe, vint, TyS, TyF, TBS, TBF, DcS, DcF, SvS, SvF, PfS, PfF, Bool.or_assoc, g1, Int.toNat_natCast, g2] <;> with_reducible rfl) (by decide) ?_
        repeat (refine awp_seq ?_)
        -- leaf 1 ret
        refine awp_ret ⟨.inr rfl, _, (ares_two (.tmp 6) (.tmp 7) rfl (ares_tmp1 (by decide)) (ares_tmp1 (by decide))), ?_⟩
        have hix : implIx ds t tr = i := idxI_at hi (by rw [hde]; unfold implP; grind) hg
        have hda : implAs ds t tr = (matchP d.ps t d.t).1 := by
          unfold implAs implD
          rw [hix, if_pos (by omega), Int.toNat_natCast, List.getD_eq_getElem?_getD, List.getElem?_eq_getElem hi, hde]
          rfl
        rw [hix, hda]
        simp only [LS, SS, SX, HS, mkS_cons, mkS_nil, ↓reduceIte, eq_self', List.map_nil, beq_self_eq_true, Nat.reduceEqDiff, Nat.reduceAdd, Nat.succ_ne_self, vint, TyS, TyF, TBS, TBF, DcS, DcF, SvS, SvF, PfS, PfF]
      · -- else t39
        repeat (refine awp_seq ?_)
        refine awp_skip ?_
        -- leaf 2 next0
        exact ⟨⟨rfl, rfl, trivial⟩, (), _, ⟨rfl, rfl, rfl, trivial⟩, by simp only [LS, SS, SX, HS, mkS_cons, mkS_nil, ↓reduceIte, eq_self', List.map_nil, beq_self_eq_true, Nat.reduceEqDiff, Nat.reduceAdd, Nat.succ_ne_self, vint, TyS, TyF, TBS, TBF, DcS, DcF, SvS, SvF, PfS, PfF] <;> rfl, any_take_succ hi hg (by rw [hde]; unfold implP; grind)⟩
  · intro s hg
    rw [List.take_length] at hg
    -- region 9
    repeat (refine awp_seq ?_)
    refine e_eval (by simp only [asq, as0, as1, as2, awanted, aop, LS, SS, SX, HS, mkS_cons, mkS_nil, ↓reduceIte, eq_self', List.map_nil, beq_self_eq_true, Nat.reduceEqDiff, Nat.reduceAdd, Nat.reduceMul, Nat.reduceLT, Nat.reduceLeDiff, Nat.reducePow, Nat.reduceDiv, Nat.reduceMod, Nat.succ_ne_self, Nat.reduceBEq, Nat.reduceBNe, vint, TyS, TyF, TBS, TBF, DcS, DcF, SvS, SvF, PfS, PfF, Bool.or_assoc] <;> with_reducible rfl) (by decide) ?_
    repeat (refine awp_seq ?_)
    -- leaf 3 ret
    refine awp_ret ⟨.inr rfl, _, (ares_two (.tmp 6) (.tmp 7) rfl (ares_tmp1 (by decide)) (ares_tmp1 (by decide))), ?_⟩
    have hix : implIx ds t tr = -1 := idxI_none hg
    have hda : implAs ds t tr = [] := by
      unfold implAs
      rw [hix]; rfl
    rw [hix, hda]
    simp only [LS, SS, SX, HS, mkS_cons, mkS_nil, ↓reduceIte, eq_self', List.map_nil, beq_self_eq_true, Nat.reduceEqDiff, Nat.reduceAdd, Nat.succ_ne_self, vint, TyS, TyF, TBS, TBF, DcS, DcF, SvS, SvF, PfS, PfF]

end Go.Abs
set_option linter.unusedVariables false
set_option linter.unusedSimpArgs false
set_option maxRecDepth 4000
namespace Go.Abs
open Go.Proofs

theorem solveT_s (ds : List Dc) (sas : List TB) (n : Nat) (t : Ty) (tr : Int) : solveT ds sas (n + 1) t tr =
    if t.kind = 0 ∨ tr < 0 then (.zero, false)
    else if 0 ≤ idxI (boundP t tr) sas then (.mk t tr (-1) (idxI (boundP t tr) sas) [] [], true)
    else if implIx ds t tr < 0 ∨ 4 < (implD ds t tr).bs.length then (.zero, false)
    else if ((implD ds t tr).bs.all fun b => (solveT ds sas n (mapT (appG (implD ds t tr).ps (implAs ds t tr)) b.t) b.tr).2) = true then
      (.mk t tr (implIx ds t tr) (-1) (implAs ds t tr) ((implD ds t tr).bs.map fun b => (solveT ds sas n (mapT (appG (implD ds t tr).ps (implAs ds t tr)) b.t) b.tr).1), true)
    else (.zero, false) := rfl
theorem implAs_W {ds : List Dc} {t : Ty} {tr : Int} (ht : t.W) : ∀ a ∈ implAs ds t tr, a.W := by
  unfold implAs
  split
  · exact matchP_W _ _ _ ht
  · simp

theorem solve_0 (ds : List Dc) (sas : List TB) (t : Ty) (tr : Int) : PC Try.prog 100 [(Sv.mk ds sas).enc, t.enc, vint tr, .int .i64 0] (.tup [(solveT ds sas 0 t tr).1.enc, .bool (solveT ds sas 0 t tr).2]) := by
  refine pc_of (N := 108) Try.func100 rfl rfl (by simp) (by simp [Ty.bel, Sv.bel, Bel.int]) (.tup _ (by simp [Pf.bel, Bel.bool])) ?_
  -- region 0
  repeat (refine awp_seq ?_)
  refine e_eval (by simp only [asq, as0, as1, as2, awanted, aop, LS, SS, SX, HS, mkS_cons, mkS_nil, ↓reduceIte, eq_self', List.map_nil, beq_self_eq_true, Nat.reduceEqDiff, Nat.reduceAdd, Nat.reduceMul, Nat.reduceLT, Nat.reduceLeDiff, Nat.reducePow, Nat.reduceDiv, Nat.reduceMod, Nat.succ_ne_self, Nat.reduceBEq, Nat.reduceBNe, Tryti3, Trytz3, Trytp3, Trytk3, Tryti24, Trytf24, Trytz24, Trytp24, Tryti63, Trytf63, Trytz63, Trytp63, Tryti123, Trytf123, Trytz123, Trytp123, vint, TyS, TyF, TBS, TBF, DcS, DcF, SvS, SvF, PfS, PfF, Bool.or_true, decide_true] <;> with_reducible rfl) (by decide) ?_
  -- region 1
  repeat (refine awp_seq ?_)
  refine g_eval (by simp only [gsq, gs0, gs1, gs2, gcond, gop, SG, Op.operands, Call.operands, Array.toList_append, aop, afldAddr, ajust, aload, abin, LS, SS, SX, HS, mkS_cons, mkS_nil, ↓reduceIte, eq_self', List.map_nil, beq_self_eq_true, Nat.reduceEqDiff, Nat.reduceAdd, Nat.reduceMul, Nat.reduceLT, Nat.reduceLeDiff, Nat.reducePow, Nat.reduceDiv, Nat.reduceMod, Nat.succ_ne_self, Nat.reduceBEq, Nat.reduceBNe, Tryti3, Trytz3, Trytp3, Trytk3, Tryti24, Trytf24, Trytz24, Trytp24, vint, TyS, TyF, TBS, TBF, DcS, DcF, SvS, SvF, PfS, PfF, Bool.or_true, decide_true] <;> with_reducible rfl) (by decide) (by repeat (first | exact Fin.base _ | with_reducible apply Fin.keep | apply Fin.drop)) ?_
  repeat (refine awp_seq ?_)
  refine awp_cond_true rfl (by simp only [LS, SS, SX, HS, mkS_cons, mkS_nil, ↓reduceIte, eq_self', List.map_nil, beq_self_eq_true, Nat.reduceEqDiff, Nat.reduceAdd, Nat.succ_ne_self, vint, TyS, TyF, TBS, TBF, DcS, DcF, SvS, SvF, PfS, PfF, Bool.or_true, decide_true] <;> with_reducible rfl) ?_
  refine awp_sel [8] (by simp only [LS, SS, SX, HS, mkS_cons, mkS_nil, ↓reduceIte, eq_self', List.map_nil, beq_self_eq_true, Nat.reduceEqDiff, Nat.reduceAdd, Nat.succ_ne_self, vint, TyS, TyF, TBS, TBF, DcS, DcF, SvS, SvF, PfS, PfF, Bool.or_true, decide_true] <;> with_reducible rfl) ?_
  -- region 2
  repeat (refine awp_seq ?_)
  refine e_eval (by simp only [asq, as0, as1, as2, awanted, aop, abuild, splice, astore, LS, SS, SX, HS, mkS_cons, mkS_nil, ↓reduceIte, eq_self', List.map_nil, beq_self_eq_true, Nat.reduceEqDiff, Nat.reduceAdd, Nat.reduceMul, Nat.reduceLT, Nat.reduceLeDiff, Nat.reducePow, Nat.reduceDiv, Nat.reduceMod, Nat.succ_ne_self, Nat.reduceBEq, Nat.reduceBNe, Tryti63, Trytf63, Trytz63, Trytp63, vint, TyS, TyF, TBS, TBF, DcS, DcF, SvS, SvF, PfS, PfF, Bool.or_true, decide_true] <;> with_reducible rfl) (by decide) ?_
  repeat (refine awp_seq ?_)
  -- leaf 0 ret
  refine awp_ret ⟨.inr rfl, _, (ares_two (.cell 8 63) (.tmp 9) rfl (ares_cell1 Tryti63 (by decide) (by simp only [aload, LS, SS, SX, HS, mkS_cons, mkS_nil, ↓reduceIte, eq_self', List.map_nil, beq_self_eq_true, Nat.reduceEqDiff, Nat.reduceAdd, Nat.reduceMul, Nat.reduceLT, Nat.reduceLeDiff, Nat.reducePow, Nat.reduceDiv, Nat.reduceMod, Nat.succ_ne_self, Nat.reduceBEq, Nat.reduceBNe, vint, TyS, TyF, TBS, TBF, DcS, DcF, SvS, SvF, PfS, PfF, Bool.or_true, decide_true] <;> with_reducible rfl)) (ares_tmp1 (by decide))), ?_⟩
  simp only [LS, SS, SX, HS, mkS_cons, mkS_nil, ↓reduceIte, eq_self', List.map_nil, beq_self_eq_true, Nat.reduceEqDiff, Nat.reduceAdd, Nat.succ_ne_self, vint, TyS, TyF, TBS, TBF, DcS, DcF, SvS, SvF, PfS, PfF]
  rfl

theorem solve_k (ds : List Dc) (sas : List TB) (hl : ds.length ≤ maxLen) (hd : ∀ d ∈ ds, d.B) (hsl : sas.length ≤ maxLen) (hs : ∀ b ∈ sas, b.W) : ∀ (n : Nat) (t : Ty) (tr : Int), n ≤ 8 → t.W → PC Try.prog 100 [(Sv.mk ds sas).enc, t.enc, vint tr, .int .i64 n] (.tup [(solveT ds sas n t tr).1.enc, .bool (solveT ds sas n t tr).2])
  | 0, t, tr, _, _ => solve_0 ds sas t tr
  | n + 1, t, tr, hn, ht => by
    have hn0 : decide (((n + 1 : Nat) : Int) = 0) = false := decide_eq_false (by omega)
    have hn1 : IntKind.i64.wrap (((n + 1 : Nat) : Int) - 1) = (n : Nat) := by rw [wrap_id (by omega) (by omega)]; omega
    rw [solveT_s]
    refine pc_of (N := 108) Try.func100 rfl rfl (by simp) (by simp [Ty.bel, Sv.bel, Bel.int]) (.tup _ (by simp [Pf.bel, Bel.bool])) ?_
    -- region 0
    repeat (refine awp_seq ?_)
    refine e_eval (by simp only [asq, as0, as1, as2, awanted, aop, LS, SS, SX, HS, mkS_cons, mkS_nil, ↓reduceIte, eq_self', List.map_nil, beq_self_eq_true, Nat.reduceEqDiff, Nat.reduceAdd, Nat.reduceMul, Nat.reduceLT, Nat.reduceLeDiff, Nat.reducePow, Nat.reduceDiv, Nat.reduceMod, Nat.succ_ne_self, Nat.reduceBEq, Nat.reduceBNe, Tryti3, Trytz3, Trytp3, Trytk3, Tryti24, Trytf24, Trytz24, Trytp24, Tryti63, Trytf63, Trytz63, Trytp63, Tryti123, Trytf123, Trytz123, Trytp123, vint, TyS, TyF, TBS, TBF, DcS, DcF, SvS, SvF, PfS, PfF, hn0, hn1] <;> with_reducible rfl) (by decide) ?_
    -- region 1
    repeat (refine awp_seq ?_)
    refine g_eval (by simp only [gsq, gs0, gs1, gs2, gcond, gop, SG, Op.operands, Call.operands, Array.toList_append, aop, afldAddr, ajust, aload, abin, LS, SS, SX, HS, mkS_cons, mkS_nil, ↓reduceIte, eq_self', List.map_nil, beq_self_eq_true, Nat.reduceEqDiff, Nat.reduceAdd, Nat.reduceMul, Nat.reduceLT, Nat.reduceLeDiff, Nat.reducePow, Nat.reduceDiv, Nat.reduceMod, Nat.succ_ne_self, Nat.reduceBEq, Nat.reduceBNe, Tryti3, Trytz3, Trytp3, Trytk3, Tryti24, Trytf24, Trytz24, Trytp24, vint, TyS, TyF, TBS, TBF, DcS, DcF, SvS, SvF, PfS, PfF, hn0, hn1] <;> with_reducible rfl) (by decide) (by repeat (first | exact Fin.base _ | with_reducible apply Fin.keep | apply Fin.drop)) ?_
    repeat (refine awp_seq ?_)
    refine awp_cond rfl (by simp only [LS, SS, SX, HS, mkS_cons, mkS_nil, ↓reduceIte, eq_self', List.map_nil, beq_self_eq_true, Nat.reduceEqDiff, Nat.reduceAdd, Nat.succ_ne_self, vint, TyS, TyF, TBS, TBF, DcS, DcF, SvS, SvF, PfS, PfF, hn0, hn1] <;> with_reducible rfl) (fun b0 => ?_) (fun b0 => ?_)
    · -- if t28
      have hq : t.kind = 0 ∨ tr < 0 := by simpa using b0
      refine awp_sel [8] (by simp only [LS, SS, SX, HS, mkS_cons, mkS_nil, ↓reduceIte, eq_self', List.map_nil, beq_self_eq_true, Nat.reduceEqDiff, Nat.reduceAdd, Nat.succ_ne_self, vint, TyS, TyF, TBS, TBF, DcS, DcF, SvS, SvF, PfS, PfF, hn0, hn1] <;> with_reducible rfl) ?_
      -- region 2
      repeat (refine awp_seq ?_)
      refine e_eval (by simp only [asq, as0, as1, as2, awanted, aop, abuild, splice, astore, LS, SS, SX, HS, mkS_cons, mkS_nil, ↓reduceIte, eq_self', List.map_nil, beq_self_eq_true, Nat.reduceEqDiff, Nat.reduceAdd, Nat.reduceMul, Nat.reduceLT, Nat.reduceLeDiff, Nat.reducePow, Nat.reduceDiv, Nat.reduceMod, Nat.succ_ne_self, Nat.reduceBEq, Nat.reduceBNe, Tryti63, Trytf63, Trytz63, Trytp63, vint, TyS, TyF, TBS, TBF, DcS, DcF, SvS, SvF, PfS, PfF, hn0, hn1] <;> with_reducible rfl) (by decide) ?_
      repeat (refine awp_seq ?_)
      -- leaf 0 ret
      refine awp_ret ⟨.inr rfl, _, (ares_two (.cell 8 63) (.tmp 9) rfl (ares_cell1 Tryti63 (by decide) (by simp only [aload, LS, SS, SX, HS, mkS_cons, mkS_nil, ↓reduceIte, eq_self', List.map_nil, beq_self_eq_true, Nat.reduceEqDiff, Nat.reduceAdd, Nat.reduceMul, Nat.reduceLT, Nat.reduceLeDiff, Nat.reducePow, Nat.reduceDiv, Nat.reduceMod, Nat.succ_ne_self, Nat.reduceBEq, Nat.reduceBNe, vint, TyS, TyF, TBS, TBF, DcS, DcF, SvS, SvF, PfS, PfF, hn0, hn1] <;> with_reducible rfl)) (ares_tmp1 (by decide))), ?_⟩
      rw [if_pos hq]
      simp only [LS, SS, SX, HS, mkS_cons, mkS_nil, ↓reduceIte, eq_self', List.map_nil, beq_self_eq_true, Nat.reduceEqDiff, Nat.reduceAdd, Nat.succ_ne_self, vint, TyS, TyF, TBS, TBF, DcS, DcF, SvS, SvF, PfS, PfF]
      rfl
    · -- else t28
      have hq : ¬ (t.kind = 0 ∨ tr < 0) := by simpa using b0
      repeat (refine awp_seq ?_)
      refine awp_skip ?_
      refine awp_sel [3, 4, 5, 6, 8] (by simp only [LS, SS, SX, HS, mkS_cons, mkS_nil, ↓reduceIte, eq_self', List.map_nil, beq_self_eq_true, Nat.reduceEqDiff, Nat.reduceAdd, Nat.succ_ne_self, vint, TyS, TyF, TBS, TBF, DcS, DcF, SvS, SvF, PfS, PfF, hn0, hn1] <;> with_reducible rfl) ?_
      -- region 3
      repeat (refine awp_seq ?_)
      refine awp_region ?_
      refine e_take 3 (by simp only [asq, as0, as1, as2, awanted, aop, afldAddr, ajust, aload, LS, SS, SX, HS, mkS_cons, mkS_nil, ↓reduceIte, eq_self', List.map_nil, beq_self_eq_true, Nat.reduceEqDiff, Nat.reduceAdd, Nat.reduceMul, Nat.reduceLT, Nat.reduceLeDiff, Nat.reducePow, Nat.reduceDiv, Nat.reduceMod, Nat.succ_ne_self, Nat.reduceBEq, Nat.reduceBNe, Tryti60, Tryte60, Trytz60, Trytp60, Tryti74, Trytf74, Trytz74, Trytp74, Tryti123, Trytf123, Trytz123, Trytp123, vint, TyS, TyF, TBS, TBF, DcS, DcF, SvS, SvF, PfS, PfF, hn0, hn1] <;> with_reducible rfl) (by decide) ?_
      refine aops_pure (by simp only [acall, awanted, LS, SS, SX, HS, mkS_cons, mkS_nil, ↓reduceIte, eq_self', List.map_nil, beq_self_eq_true, Nat.reduceEqDiff, Nat.reduceAdd, Nat.reduceMul, Nat.reduceLT, Nat.reduceLeDiff, Nat.reducePow, Nat.reduceDiv, Nat.reduceMod, Nat.succ_ne_self, Nat.reduceBEq, Nat.reduceBNe, vint, TyS, TyF, TBS, TBF, DcS, DcF, SvS, SvF, PfS, PfF, hn0, hn1] <;> with_reducible rfl) (by simp only [acall, awanted, LS, SS, SX, HS, mkS_cons, mkS_nil, ↓reduceIte, eq_self', List.map_nil, beq_self_eq_true, Nat.reduceEqDiff, Nat.reduceAdd, Nat.reduceMul, Nat.reduceLT, Nat.reduceLeDiff, Nat.reducePow, Nat.reduceDiv, Nat.reduceMod, Nat.succ_ne_self, Nat.reduceBEq, Nat.reduceBNe, vint, TyS, TyF, TBS, TBF, DcS, DcF, SvS, SvF, PfS, PfF, hn0, hn1]) (by decide) Trygo127 (indexFuncTB (p := boundP t tr) ⟨Trygo128, by simp; exact ⟨.optr _ _ (by simp), .optr _ _ (by simp)⟩, fun u hu => solve1 t tr _ 2 1 rfl (by simp only [TyS]; rfl) u (hs u hu).st_t⟩ hsl) ?_
      refine e_end (by simp only [asq, as0, as1, as2, awanted, aop, LS, SS, SX, HS, mkS_cons, mkS_nil, ↓reduceIte, eq_self', List.map_nil, beq_self_eq_true, Nat.reduceEqDiff, Nat.reduceAdd, Nat.reduceMul, Nat.reduceLT, Nat.reduceLeDiff, Nat.reducePow, Nat.reduceDiv, Nat.reduceMod, Nat.succ_ne_self, Nat.reduceBEq, Nat.reduceBNe, vint, TyS, TyF, TBS, TBF, DcS, DcF, SvS, SvF, PfS, PfF, hn0, hn1] <;> with_reducible rfl) (by decide) ?_
      -- region 4
      repeat (refine awp_seq ?_)
      refine e_eval (by simp only [asq, as0, as1, as2, awanted, aop, abin, ajust, LS, SS, SX, HS, mkS_cons, mkS_nil, ↓reduceIte, eq_self', List.map_nil, beq_self_eq_true, Nat.reduceEqDiff, Nat.reduceAdd, Nat.reduceMul, Nat.reduceLT, Nat.reduceLeDiff, Nat.reducePow, Nat.reduceDiv, Nat.reduceMod, Nat.succ_ne_self, Nat.reduceBEq, Nat.reduceBNe, Tryti3, Trytz3, Trytp3, Trytk3, vint, TyS, TyF, TBS, TBF, DcS, DcF, SvS, SvF, PfS, PfF, hn0, hn1] <;> with_reducible rfl) (by decide) ?_
      repeat (refine awp_seq ?_)
      refine awp_cond rfl (by simp only [LS, SS, SX, HS, mkS_cons, mkS_nil, ↓reduceIte, eq_self', List.map_nil, beq_self_eq_true, Nat.reduceEqDiff, Nat.reduceAdd, Nat.succ_ne_self, vint, TyS, TyF, TBS, TBF, DcS, DcF, SvS, SvF, PfS, PfF, hn0, hn1] <;> with_reducible rfl) (fun b1 => ?_) (fun b1 => ?_)
      · -- if t35
        have h2 : 0 ≤ idxI (boundP t tr) sas := by simpa using b1
        -- region 5
        repeat (refine awp_seq ?_)
        refine awp_draw 0 (by kernel_rfl) ?_
        refine d_take (bm := [0, 1, 0, 0, 15, 31, 63]) 1 (fresh := 0) (by kernel_rfl) (by simp only [dsq, ds0, ds1, ds2, ds3, awanted, hapB, effIds, effSet, nextFresh, ard, freshOk, isUnborn, aop, aload, ajust, LS, SS, SX, HS, mkS_cons, mkS_nil, ↓reduceIte, eq_self', List.map_nil, beq_self_eq_true, Nat.reduceEqDiff, Nat.reduceAdd, Nat.reduceMul, Nat.reduceLT, Nat.reduceLeDiff, Nat.reducePow, Nat.reduceDiv, Nat.reduceMod, Nat.succ_ne_self, Nat.reduceBEq, Nat.reduceBNe, Tryti24, Trytf24, Trytz24, Trytp24, vint, TyS, TyF, TBS, TBF, DcS, DcF, SvS, SvF, PfS, PfF, hn0, hn1] <;> with_reducible rfl) (by decide) (by decide) ?_
        refine dops_keep (bm := [0, 1, 0, 0, 15, 31, 63]) ([]) (by kernel_rfl) (by simp only [acall, awanted, LS, SS, SX, HS, mkS_cons, mkS_nil, ↓reduceIte, eq_self', List.map_nil, beq_self_eq_true, Nat.reduceEqDiff, Nat.reduceAdd, Nat.reduceMul, Nat.reduceLT, Nat.reduceLeDiff, Nat.reducePow, Nat.reduceDiv, Nat.reduceMod, Nat.succ_ne_self, Nat.reduceBEq, Nat.reduceBNe, vint, TyS, TyF, TBS, TBF, DcS, DcF, SvS, SvF, PfS, PfF, hn0, hn1] <;> with_reducible rfl) (by simp only [acall, awanted, LS, SS, SX, HS, mkS_cons, mkS_nil, ↓reduceIte, eq_self', List.map_nil, beq_self_eq_true, Nat.reduceEqDiff, Nat.reduceAdd, Nat.reduceMul, Nat.reduceLT, Nat.reduceLeDiff, Nat.reducePow, Nat.reduceDiv, Nat.reduceMod, Nat.succ_ne_self, Nat.reduceBEq, Nat.reduceBNe, vint, TyS, TyF, TBS, TBF, DcS, DcF, SvS, SvF, PfS, PfF, hn0, hn1]) (by decide) Trygo79 (fun H' _ => clone _ ht H') (by simp only [dsq, ds0, ds1, ds2, ds3, awanted, hapB, effIds, effSet, nextFresh, ard, freshOk, isUnborn, aop, LS, SS, SX, HS, mkS_cons, mkS_nil, ↓reduceIte, eq_self', List.map_nil, beq_self_eq_true, Nat.reduceEqDiff, Nat.reduceAdd, Nat.reduceMul, Nat.reduceLT, Nat.reduceLeDiff, Nat.reducePow, Nat.reduceDiv, Nat.reduceMod, Nat.succ_ne_self, Nat.reduceBEq, Nat.reduceBNe, vint, TyS, TyF, TBS, TBF, DcS, DcF, SvS, SvF, PfS, PfF, hn0, hn1] <;> first | done | rfl) ?_
        refine d_end (bm := [0, 1, 0, 0, 15, 31, 63]) (fresh := 0) (by kernel_rfl) (by simp only [dsq, ds0, ds1, ds2, ds3, awanted, hapB, effIds, effSet, nextFresh, ard, freshOk, isUnborn, aop, aload, ajust, abuild, splice, astore, LS, SS, SX, HS, mkS_cons, mkS_nil, ↓reduceIte, eq_self', List.map_nil, beq_self_eq_true, Nat.reduceEqDiff, Nat.reduceAdd, Nat.reduceMul, Nat.reduceLT, Nat.reduceLeDiff, Nat.reducePow, Nat.reduceDiv, Nat.reduceMod, Nat.succ_ne_self, Nat.reduceBEq, Nat.reduceBNe, Tryti3, Trytz3, Trytp3, Trytk3, Tryti63, Trytf63, Trytz63, Trytp63, vint, TyS, TyF, TBS, TBF, DcS, DcF, SvS, SvF, PfS, PfF, hn0, hn1] <;> with_reducible rfl) (by decide) ?_
        repeat (refine awp_seq ?_)
        -- leaf 1 ret
        refine awp_ret ⟨.inr rfl, _, (ares_two (.cell 8 63) (.tmp 9) rfl (ares_cell1 Tryti63 (by decide) (by simp only [aload, LS, SS, SX, HS, mkS_cons, mkS_nil, ↓reduceIte, eq_self', List.map_nil, beq_self_eq_true, Nat.reduceEqDiff, Nat.reduceAdd, Nat.reduceMul, Nat.reduceLT, Nat.reduceLeDiff, Nat.reducePow, Nat.reduceDiv, Nat.reduceMod, Nat.succ_ne_self, Nat.reduceBEq, Nat.reduceBNe, vint, TyS, TyF, TBS, TBF, DcS, DcF, SvS, SvF, PfS, PfF, hn0, hn1] <;> with_reducible rfl)) (ares_tmp1 (by decide))), ?_⟩
        rw [if_neg hq, if_pos h2]
        simp only [LS, SS, SX, HS, mkS_cons, mkS_nil, ↓reduceIte, eq_self', List.map_nil, beq_self_eq_true, Nat.reduceEqDiff, Nat.reduceAdd, Nat.succ_ne_self, vint, TyS, TyF, TBS, TBF, DcS, DcF, SvS, SvF, PfS, PfF]
      · -- else t35
        have h2 : ¬ 0 ≤ idxI (boundP t tr) sas := by simpa using b1
        repeat (refine awp_seq ?_)
        refine awp_skip ?_
        -- region 6
        repeat (refine awp_seq ?_)
        refine awp_region ?_
        refine e_take 3 (by simp only [asq, as0, as1, as2, awanted, aop, aload, ajust, LS, SS, SX, HS, mkS_cons, mkS_nil, ↓reduceIte, eq_self', List.map_nil, beq_self_eq_true, Nat.reduceEqDiff, Nat.reduceAdd, Nat.reduceMul, Nat.reduceLT, Nat.reduceLeDiff, Nat.reducePow, Nat.reduceDiv, Nat.reduceMod, Nat.succ_ne_self, Nat.reduceBEq, Nat.reduceBNe, Tryti3, Trytz3, Trytp3, Trytk3, Tryti24, Trytf24, Trytz24, Trytp24, Tryti123, Trytf123, Trytz123, Trytp123, vint, TyS, TyF, TBS, TBF, DcS, DcF, SvS, SvF, PfS, PfF, hn0, hn1] <;> with_reducible rfl) (by decide) ?_
        refine aops_pure (by simp only [acall, awanted, LS, SS, SX, HS, mkS_cons, mkS_nil, ↓reduceIte, eq_self', List.map_nil, beq_self_eq_true, Nat.reduceEqDiff, Nat.reduceAdd, Nat.reduceMul, Nat.reduceLT, Nat.reduceLeDiff, Nat.reducePow, Nat.reduceDiv, Nat.reduceMod, Nat.succ_ne_self, Nat.reduceBEq, Nat.reduceBNe, vint, TyS, TyF, TBS, TBF, DcS, DcF, SvS, SvF, PfS, PfF, hn0, hn1] <;> with_reducible rfl) (by simp only [acall, awanted, LS, SS, SX, HS, mkS_cons, mkS_nil, ↓reduceIte, eq_self', List.map_nil, beq_self_eq_true, Nat.reduceEqDiff, Nat.reduceAdd, Nat.reduceMul, Nat.reduceLT, Nat.reduceLeDiff, Nat.reducePow, Nat.reduceDiv, Nat.reduceMod, Nat.succ_ne_self, Nat.reduceBEq, Nat.reduceBNe, vint, TyS, TyF, TBS, TBF, DcS, DcF, SvS, SvF, PfS, PfF, hn0, hn1]) (by decide) Trygo129 (mi_c ds sas t tr hl hd ht _) ?_
        refine e_end (by simp only [asq, as0, as1, as2, awanted, aop, ajust, LS, SS, SX, HS, mkS_cons, mkS_nil, ↓reduceIte, eq_self', List.map_nil, beq_self_eq_true, Nat.reduceEqDiff, Nat.reduceAdd, Nat.reduceMul, Nat.reduceLT, Nat.reduceLeDiff, Nat.reducePow, Nat.reduceDiv, Nat.reduceMod, Nat.succ_ne_self, Nat.reduceBEq, Nat.reduceBNe, vint, TyS, TyF, TBS, TBF, DcS, DcF, SvS, SvF, PfS, PfF, hn0, hn1] <;> with_reducible rfl) (by decide) ?_
        refine awp_sel [3, 4, 5, 6, 8, 11, 12] (by simp only [LS, SS, SX, HS, mkS_cons, mkS_nil, ↓reduceIte, eq_self', List.map_nil, beq_self_eq_true, Nat.reduceEqDiff, Nat.reduceAdd, Nat.succ_ne_self, vint, TyS, TyF, TBS, TBF, DcS, DcF, SvS, SvF, PfS, PfF, hn0, hn1] <;> with_reducible rfl) ?_
        by_cases hix : implIx ds t tr < 0
        · -- case
          have hx : decide (implIx ds t tr < 0) = true := decide_eq_true hix
          have g1 : True = True := rfl
          have g2 : True = True := rfl
          -- region 7
          repeat (refine awp_seq ?_)
          refine awp_region ?_
          refine aops_gstart ?_
          refine g_take 6 (by simp only [gsq, gs0, gs1, gs2, gcond, gop, SG, Op.operands, Call.operands, Array.toList_append, aop, abin, ajust, afldAddr, aload, LS, SS, SX, HS, mkS_cons, mkS_nil, ↓reduceIte, eq_self', List.map_nil, beq_self_eq_true, Nat.reduceEqDiff, Nat.reduceAdd, Nat.reduceMul, Nat.reduceLT, Nat.reduceLeDiff, Nat.reducePow, Nat.reduceDiv, Nat.reduceMod, Nat.succ_ne_self, Nat.reduceBEq, Nat.reduceBNe, Tryti3, Trytz3, Trytp3, Trytk3, Tryti59, Tryte59, Trytz59, Trytp59, Tryti71, Trytf71, Trytz71, Trytp71, Tryti123, Trytf123, Trytz123, Trytp123, vint, TyS, TyF, TBS, TBF, DcS, DcF, SvS, SvF, PfS, PfF, hn0, hn1, hx, Bool.true_or] <;> with_reducible rfl) (by decide) ?_
          refine aops_gskip (r := .tup []) (by simp only [acall, gcond, SG, Op.operands, Call.operands, Array.toList_append, LS, SS, SX, HS, mkS_cons, mkS_nil, ↓reduceIte, eq_self', List.map_nil, beq_self_eq_true, Nat.reduceEqDiff, Nat.reduceAdd, Nat.reduceMul, Nat.reduceLT, Nat.reduceLeDiff, Nat.reducePow, Nat.reduceDiv, Nat.reduceMod, Nat.succ_ne_self, Nat.reduceBEq, Nat.reduceBNe, vint, TyS, TyF, TBS, TBF, DcS, DcF, SvS, SvF, PfS, PfF, hx, Bool.true_or, Bool.not_true, Bool.not_false] <;> with_reducible rfl) ?_
          refine aops_gskip (r := .tup []) (by simp only [acall, gcond, SG, Op.operands, Call.operands, Array.toList_append, LS, SS, SX, HS, mkS_cons, mkS_nil, ↓reduceIte, eq_self', List.map_nil, beq_self_eq_true, Nat.reduceEqDiff, Nat.reduceAdd, Nat.reduceMul, Nat.reduceLT, Nat.reduceLeDiff, Nat.reducePow, Nat.reduceDiv, Nat.reduceMod, Nat.succ_ne_self, Nat.reduceBEq, Nat.reduceBNe, vint, TyS, TyF, TBS, TBF, DcS, DcF, SvS, SvF, PfS, PfF, hx, Bool.true_or, Bool.not_true, Bool.not_false] <;> with_reducible rfl) ?_
          refine aops_gskip (r := .tup []) (by simp only [acall, gcond, SG, Op.operands, Call.operands, Array.toList_append, LS, SS, SX, HS, mkS_cons, mkS_nil, ↓reduceIte, eq_self', List.map_nil, beq_self_eq_true, Nat.reduceEqDiff, Nat.reduceAdd, Nat.reduceMul, Nat.reduceLT, Nat.reduceLeDiff, Nat.reducePow, Nat.reduceDiv, Nat.reduceMod, Nat.succ_ne_self, Nat.reduceBEq, Nat.reduceBNe, vint, TyS, TyF, TBS, TBF, DcS, DcF, SvS, SvF, PfS, PfF, hx, Bool.true_or, Bool.not_true, Bool.not_false] <;> with_reducible rfl) ?_
          refine aops_gskip (r := .tup []) (by simp only [acall, gcond, SG, Op.operands, Call.operands, Array.toList_append, LS, SS, SX, HS, mkS_cons, mkS_nil, ↓reduceIte, eq_self', List.map_nil, beq_self_eq_true, Nat.reduceEqDiff, Nat.reduceAdd, Nat.reduceMul, Nat.reduceLT, Nat.reduceLeDiff, Nat.reducePow, Nat.reduceDiv, Nat.reduceMod, Nat.succ_ne_self, Nat.reduceBEq, Nat.reduceBNe, vint, TyS, TyF, TBS, TBF, DcS, DcF, SvS, SvF, PfS, PfF, hx, Bool.true_or, Bool.not_true, Bool.not_false] <;> with_reducible rfl) ?_
          refine aops_gskip (r := .tup []) (by simp only [acall, gcond, SG, Op.operands, Call.operands, Array.toList_append, LS, SS, SX, HS, mkS_cons, mkS_nil, ↓reduceIte, eq_self', List.map_nil, beq_self_eq_true, Nat.reduceEqDiff, Nat.reduceAdd, Nat.reduceMul, Nat.reduceLT, Nat.reduceLeDiff, Nat.reducePow, Nat.reduceDiv, Nat.reduceMod, Nat.succ_ne_self, Nat.reduceBEq, Nat.reduceBNe, vint, TyS, TyF, TBS, TBF, DcS, DcF, SvS, SvF, PfS, PfF, hx, Bool.true_or, Bool.not_true, Bool.not_false] <;> with_reducible rfl) ?_
          refine g_end (by simp only [gsq, gs0, gs1, gs2, gcond, gop, SG, Op.operands, Call.operands, Array.toList_append, aop, LS, SS, SX, HS, mkS_cons, mkS_nil, ↓reduceIte, eq_self', List.map_nil, beq_self_eq_true, Nat.reduceEqDiff, Nat.reduceAdd, Nat.reduceMul, Nat.reduceLT, Nat.reduceLeDiff, Nat.reducePow, Nat.reduceDiv, Nat.reduceMod, Nat.succ_ne_self, Nat.reduceBEq, Nat.reduceBNe, vint, TyS, TyF, TBS, TBF, DcS, DcF, SvS, SvF, PfS, PfF, hn0, hn1, hx, Bool.true_or] <;> with_reducible rfl) (by decide) (by repeat (first | exact Fin.base _ | with_reducible apply Fin.keep | apply Fin.drop)) ?_
          repeat (refine awp_seq ?_)
          refine awp_cond_true rfl (by simp only [LS, SS, SX, HS, mkS_cons, mkS_nil, ↓reduceIte, eq_self', List.map_nil, beq_self_eq_true, Nat.reduceEqDiff, Nat.reduceAdd, Nat.succ_ne_self, vint, TyS, TyF, TBS, TBF, DcS, DcF, SvS, SvF, PfS, PfF, hn0, hn1, hx, Bool.true_or] <;> with_reducible rfl) ?_
          -- region 8
          repeat (refine awp_seq ?_)
          refine e_eval (by simp only [asq, as0, as1, as2, awanted, aop, abuild, splice, astore, LS, SS, SX, HS, mkS_cons, mkS_nil, ↓reduceIte, eq_self', List.map_nil, beq_self_eq_true, Nat.reduceEqDiff, Nat.reduceAdd, Nat.reduceMul, Nat.reduceLT, Nat.reduceLeDiff, Nat.reducePow, Nat.reduceDiv, Nat.reduceMod, Nat.succ_ne_self, Nat.reduceBEq, Nat.reduceBNe, Tryti63, Trytf63, Trytz63, Trytp63, vint, TyS, TyF, TBS, TBF, DcS, DcF, SvS, SvF, PfS, PfF, hn0, hn1, hx, Bool.true_or] <;> with_reducible rfl) (by decide) ?_
          repeat (refine awp_seq ?_)
          -- leaf 2 ret
          refine awp_ret ⟨.inr rfl, _, (ares_two (.cell 8 63) (.tmp 9) rfl (ares_cell1 Tryti63 (by decide) (by simp only [aload, LS, SS, SX, HS, mkS_cons, mkS_nil, ↓reduceIte, eq_self', List.map_nil, beq_self_eq_true, Nat.reduceEqDiff, Nat.reduceAdd, Nat.reduceMul, Nat.reduceLT, Nat.reduceLeDiff, Nat.reducePow, Nat.reduceDiv, Nat.reduceMod, Nat.succ_ne_self, Nat.reduceBEq, Nat.reduceBNe, vint, TyS, TyF, TBS, TBF, DcS, DcF, SvS, SvF, PfS, PfF, hn0, hn1, hx, Bool.true_or] <;> with_reducible rfl)) (ares_tmp1 (by decide))), ?_⟩
          rw [if_neg hq, if_neg h2, if_pos (Or.inl hix)]
          simp only [LS, SS, SX, HS, mkS_cons, mkS_nil, ↓reduceIte, eq_self', List.map_nil, beq_self_eq_true, Nat.reduceEqDiff, Nat.reduceAdd, Nat.succ_ne_self, vint, TyS, TyF, TBS, TBF, DcS, DcF, SvS, SvF, PfS, PfF]
          rfl
        · -- case
          have hx : decide (implIx ds t tr < 0) = false := decide_eq_false hix
          have hlt : (implIx ds t tr).toNat < ds.length := by have := idxI_lt (p := implP t tr) (xs := ds) (by unfold implIx at hix; omega); unfold implIx at hix ⊢; omega
          have g1 : ((0 : Int) ≤ implIx ds t tr ∧ implIx ds t tr < ds.length) = True := by simp; omega
          obtain ⟨d, hde⟩ : ∃ d, implD ds t tr = d := ⟨_, rfl⟩
          have hgd := (implD_get (ds := ds) (t := t) (tr := tr) (by omega)).1
          rw [hde] at hgd
          have g2 : (ds.map Dc.enc)[(implIx ds t tr).toNat]? = some d.enc := by rw [List.getElem?_map, hgd]; rfl
          obtain ⟨hW, h40⟩ := hd d (List.mem_of_getElem? hgd)
          -- region 7
          repeat (refine awp_seq ?_)
          refine g_eval (by simp only [gsq, gs0, gs1, gs2, gcond, gop, SG, Op.operands, Call.operands, Array.toList_append, aop, abin, ajust, afldAddr, aload, aidxAddr, aidx, abuiltin, LS, SS, SX, HS, mkS_cons, mkS_nil, ↓reduceIte, eq_self', List.map_nil, beq_self_eq_true, Nat.reduceEqDiff, Nat.reduceAdd, Nat.reduceMul, Nat.reduceLT, Nat.reduceLeDiff, Nat.reducePow, Nat.reduceDiv, Nat.reduceMod, Nat.succ_ne_self, Nat.reduceBEq, Nat.reduceBNe, Tryti3, Trytz3, Trytp3, Trytk3, Tryti59, Tryte59, Trytz59, Trytp59, Tryti60, Tryte60, Trytz60, Trytp60, Tryti71, Trytf71, Trytz71, Trytp71, Tryti74, Trytf74, Trytz74, Trytp74, Tryti123, Trytf123, Trytz123, Trytp123, vint, TyS, TyF, TBS, TBF, DcS, DcF, SvS, SvF, PfS, PfF, hn0, hn1, hx, Bool.false_or, g1, g2] <;> with_reducible rfl) (by decide) (by repeat (first | exact Fin.base _ | with_reducible apply Fin.keep | apply Fin.drop)) ?_
          repeat (refine awp_seq ?_)
          refine awp_cond rfl (by simp only [LS, SS, SX, HS, mkS_cons, mkS_nil, ↓reduceIte, eq_self', List.map_nil, beq_self_eq_true, Nat.reduceEqDiff, Nat.reduceAdd, Nat.succ_ne_self, vint, TyS, TyF, TBS, TBF, DcS, DcF, SvS, SvF, PfS, PfF, hn0, hn1, hx, Bool.false_or, g1, g2] <;> with_reducible rfl) (fun b3 => ?_) (fun b3 => ?_)
          · -- if t59
            have h3 : implIx ds t tr < 0 ∨ 4 < (implD ds t tr).bs.length := by rw [hde]; right; have := b3; simp at this; omega
            -- region 8
            repeat (refine awp_seq ?_)
            refine e_eval (by simp only [asq, as0, as1, as2, awanted, aop, abuild, splice, astore, LS, SS, SX, HS, mkS_cons, mkS_nil, ↓reduceIte, eq_self', List.map_nil, beq_self_eq_true, Nat.reduceEqDiff, Nat.reduceAdd, Nat.reduceMul, Nat.reduceLT, Nat.reduceLeDiff, Nat.reducePow, Nat.reduceDiv, Nat.reduceMod, Nat.succ_ne_self, Nat.reduceBEq, Nat.reduceBNe, Tryti63, Trytf63, Trytz63, Trytp63, vint, TyS, TyF, TBS, TBF, DcS, DcF, SvS, SvF, PfS, PfF, hn0, hn1, hx, Bool.false_or, g1, g2] <;> with_reducible rfl) (by decide) ?_
            repeat (refine awp_seq ?_)
            -- leaf 3 ret
            refine awp_ret ⟨.inr rfl, _, (ares_two (.cell 8 63) (.tmp 9) rfl (ares_cell1 Tryti63 (by decide) (by simp only [aload, LS, SS, SX, HS, mkS_cons, mkS_nil, ↓reduceIte, eq_self', List.map_nil, beq_self_eq_true, Nat.reduceEqDiff, Nat.reduceAdd, Nat.reduceMul, Nat.reduceLT, Nat.reduceLeDiff, Nat.reducePow, Nat.reduceDiv, Nat.reduceMod, Nat.succ_ne_self, Nat.reduceBEq, Nat.reduceBNe, vint, TyS, TyF, TBS, TBF, DcS, DcF, SvS, SvF, PfS, PfF, hn0, hn1, hx, Bool.false_or, g1, g2] <;> with_reducible rfl)) (ares_tmp1 (by decide))), ?_⟩
            rw [if_neg hq, if_neg h2, if_pos h3]
            simp only [LS, SS, SX, HS, mkS_cons, mkS_nil, ↓reduceIte, eq_self', List.map_nil, beq_self_eq_true, Nat.reduceEqDiff, Nat.reduceAdd, Nat.succ_ne_self, vint, TyS, TyF, TBS, TBF, DcS, DcF, SvS, SvF, PfS, PfF]
            rfl
          · -- else t59
            have hb4 : d.bs.length ≤ 4 := by simp at b3; omega
            have h3 : ¬ (implIx ds t tr < 0 ∨ 4 < (implD ds t tr).bs.length) := by rw [hde]; omega
            rw [if_neg hq, if_neg h2, if_neg h3, hde]
            have hmx : maxLen = 9223372036854775807 := by decide
            repeat (refine awp_seq ?_)
            refine awp_skip ?_
            -- region 9
            repeat (refine awp_seq ?_)
            refine awp_draw 1 (by kernel_rfl) ?_
            refine d_take (bm := [0, 1, 0, 0, 0, 31, 0, 127]) 1 (fresh := (4)) (by kernel_rfl) (by simp only [dsq, ds0, ds1, ds2, ds3, awanted, hapB, effIds, effSet, nextFresh, ard, freshOk, isUnborn, aop, aload, ajust, LS, SS, SX, HS, mkS_cons, mkS_nil, ↓reduceIte, eq_self', List.map_nil, beq_self_eq_true, Nat.reduceEqDiff, Nat.reduceAdd, Nat.reduceMul, Nat.reduceLT, Nat.reduceLeDiff, Nat.reducePow, Nat.reduceDiv, Nat.reduceMod, Nat.succ_ne_self, Nat.reduceBEq, Nat.reduceBNe, Tryti24, Trytf24, Trytz24, Trytp24, vint, TyS, TyF, TBS, TBF, DcS, DcF, SvS, SvF, PfS, PfF, hn0, hn1, hx, Bool.false_or, g1, g2] <;> with_reducible rfl) (by decide) (by decide) ?_
            refine dops_keep (bm := [0, 1, 0, 0, 0, 31, 0, 127]) ([]) (by kernel_rfl) (by simp only [acall, awanted, LS, SS, SX, HS, mkS_cons, mkS_nil, ↓reduceIte, eq_self', List.map_nil, beq_self_eq_true, Nat.reduceEqDiff, Nat.reduceAdd, Nat.reduceMul, Nat.reduceLT, Nat.reduceLeDiff, Nat.reducePow, Nat.reduceDiv, Nat.reduceMod, Nat.succ_ne_self, Nat.reduceBEq, Nat.reduceBNe, vint, TyS, TyF, TBS, TBF, DcS, DcF, SvS, SvF, PfS, PfF, hn0, hn1, hx, Bool.false_or, g1, g2] <;> with_reducible rfl) (by simp only [acall, awanted, LS, SS, SX, HS, mkS_cons, mkS_nil, ↓reduceIte, eq_self', List.map_nil, beq_self_eq_true, Nat.reduceEqDiff, Nat.reduceAdd, Nat.reduceMul, Nat.reduceLT, Nat.reduceLeDiff, Nat.reducePow, Nat.reduceDiv, Nat.reduceMod, Nat.succ_ne_self, Nat.reduceBEq, Nat.reduceBNe, vint, TyS, TyF, TBS, TBF, DcS, DcF, SvS, SvF, PfS, PfF, hn0, hn1, hx, Bool.false_or, g1, g2]) (by decide) Trygo79 (fun H' _ => clone _ ht H') (by simp only [dsq, ds0, ds1, ds2, ds3, awanted, hapB, effIds, effSet, nextFresh, ard, freshOk, isUnborn, aop, LS, SS, SX, HS, mkS_cons, mkS_nil, ↓reduceIte, eq_self', List.map_nil, beq_self_eq_true, Nat.reduceEqDiff, Nat.reduceAdd, Nat.reduceMul, Nat.reduceLT, Nat.reduceLeDiff, Nat.reducePow, Nat.reduceDiv, Nat.reduceMod, Nat.succ_ne_self, Nat.reduceBEq, Nat.reduceBNe, vint, TyS, TyF, TBS, TBF, DcS, DcF, SvS, SvF, PfS, PfF, hn0, hn1, hx, Bool.false_or, g1, g2] <;> first | done | rfl) ?_
            refine d_end (bm := [0, 1, 0, 0, 0, 31, 0, 127]) (fresh := (4)) (by kernel_rfl) (by simp only [dsq, ds0, ds1, ds2, ds3, awanted, hapB, effIds, effSet, nextFresh, ard, freshOk, isUnborn, aop, aload, ajust, abuild, splice, astore, LS, SS, SX, HS, mkS_cons, mkS_nil, ↓reduceIte, eq_self', List.map_nil, beq_self_eq_true, Nat.reduceEqDiff, Nat.reduceAdd, Nat.reduceMul, Nat.reduceLT, Nat.reduceLeDiff, Nat.reducePow, Nat.reduceDiv, Nat.reduceMod, Nat.succ_ne_self, Nat.reduceBEq, Nat.reduceBNe, Tryti3, Trytz3, Trytp3, Trytk3, Tryti63, Trytf63, Trytz63, Trytp63, vint, TyS, TyF, TBS, TBF, DcS, DcF, SvS, SvF, PfS, PfF, hn0, hn1, hx, Bool.false_or, g1, g2] <;> with_reducible rfl) (by decide) ?_
            refine awp_sel [3, 4, 8, 11, 12, 13] (by simp only [LS, SS, SX, HS, mkS_cons, mkS_nil, ↓reduceIte, eq_self', List.map_nil, beq_self_eq_true, Nat.reduceEqDiff, Nat.reduceAdd, Nat.succ_ne_self, vint, TyS, TyF, TBS, TBF, DcS, DcF, SvS, SvF, PfS, PfF, hn0, hn1, hx, Bool.false_or, g1, g2] <;> with_reducible rfl) ?_
            -- region 10
            repeat (refine awp_seq ?_)
            refine e_eval (by simp only [asq, as0, as1, as2, awanted, aop, afldAddr, ajust, aload, aidxAddr, aidx, abuiltin, LS, SS, SX, HS, mkS_cons, mkS_nil, ↓reduceIte, eq_self', List.map_nil, beq_self_eq_true, Nat.reduceEqDiff, Nat.reduceAdd, Nat.reduceMul, Nat.reduceLT, Nat.reduceLeDiff, Nat.reducePow, Nat.reduceDiv, Nat.reduceMod, Nat.succ_ne_self, Nat.reduceBEq, Nat.reduceBNe, Tryti59, Tryte59, Trytz59, Trytp59, Tryti60, Tryte60, Trytz60, Trytp60, Tryti71, Trytf71, Trytz71, Trytp71, Tryti74, Trytf74, Trytz74, Trytp74, Tryti123, Trytf123, Trytz123, Trytp123, vint, TyS, TyF, TBS, TBF, DcS, DcF, SvS, SvF, PfS, PfF, hn0, hn1, hx, Bool.false_or, g1, g2] <;> with_reducible rfl) (by decide) ?_
            repeat (refine awp_seq ?_)
            refine awp_retok_row 4 7 8 (by simp only [LS, SS, SX, HS]; rfl) rfl ?_
            refine awp_forS (σ := List Pf) (d.bs.length) (fun (s : List Pf) => [(3, .int .i64 ((n + 1 : Nat) : Int)), (4, .optr 0 0), (8, .optr 3 0), (11, .int .i64 (implIx ds t tr)), (12, .slice ((implAs ds t tr).map Ty.enc) .none), (13, .optr 4 0), (72, .slice (d.bs.map TB.enc) .none)]) [3, 4, 8, 11, 12, 13, 72] ([]) (fun (s : List Pf) => [.row (Sv.mk ds sas).enc.cells, .row t.enc.cells, .row [.int .i64 tr], .row [.int .i64 0, .int .i64 0, .slice [] .full, .int .i64 0, .int .i64 0, .int .i64 0, .slice [] .full, .slice [] .full], .row [.int .i64 t.kind, .int .i64 t.id, .slice (t.args.map Ty.enc) .none, .int .i64 tr, .int .i64 (implIx ds t tr), .int .i64 (-1), .slice ((implAs ds t tr).map Ty.enc) .none, .slice (s.map Pf.enc) (.tok 5)], .buf s.length 8]) (fun (i : Nat) (s : List Pf) => (d.bs.take i).all (fun b => (solveT ds sas n (mapT (appG d.ps (implAs ds t tr)) b.t) b.tr).2) = true ∧ s = (d.bs.take i).map (fun b => (solveT ds sas n (mapT (appG d.ps (implAs ds t tr)) b.t) b.tr).1)) ([]) ([]) rfl rfl rfl rfl rfl rfl rfl rfl rfl (by decide) (by decide) (by decide) (fun _ => rfl) (by omega) ⟨(by first | rfl | (simp only [LS, SS, SX, HS, mkS_cons, mkS_nil, ↓reduceIte, eq_self', List.map_nil, beq_self_eq_true, Nat.reduceEqDiff, Nat.reduceAdd, Nat.succ_ne_self, vint, TyS, TyF, TBS, TBF, DcS, DcF, SvS, SvF, PfS, PfF, hn0, hn1, hx, Bool.false_or, g1, g2] <;> first | done | with_reducible rfl)), (by first | rfl | (simp only [LS, SS, SX, HS, mkS_cons, mkS_nil, ↓reduceIte, eq_self', List.map_nil, beq_self_eq_true, Nat.reduceEqDiff, Nat.reduceAdd, Nat.succ_ne_self, vint, TyS, TyF, TBS, TBF, DcS, DcF, SvS, SvF, PfS, PfF, hn0, hn1, hx, Bool.false_or, g1, g2] <;> first | done | with_reducible rfl)), (by first | rfl | (simp only [LS, SS, SX, HS, mkS_cons, mkS_nil, ↓reduceIte, eq_self', List.map_nil, beq_self_eq_true, Nat.reduceEqDiff, Nat.reduceAdd, Nat.succ_ne_self, vint, TyS, TyF, TBS, TBF, DcS, DcF, SvS, SvF, PfS, PfF, hn0, hn1, hx, Bool.false_or, g1, g2] <;> first | done | with_reducible rfl)), (by first | rfl | (simp only [LS, SS, SX, HS, mkS_cons, mkS_nil, ↓reduceIte, eq_self', List.map_nil, beq_self_eq_true, Nat.reduceEqDiff, Nat.reduceAdd, Nat.succ_ne_self, vint, TyS, TyF, TBS, TBF, DcS, DcF, SvS, SvF, PfS, PfF, hn0, hn1, hx, Bool.false_or, g1, g2] <;> first | done | with_reducible rfl)), (by first | rfl | (simp only [LS, SS, SX, HS, mkS_cons, mkS_nil, ↓reduceIte, eq_self', List.map_nil, beq_self_eq_true, Nat.reduceEqDiff, Nat.reduceAdd, Nat.succ_ne_self, vint, TyS, TyF, TBS, TBF, DcS, DcF, SvS, SvF, PfS, PfF, hn0, hn1, hx, Bool.false_or, g1, g2] <;> first | done | with_reducible rfl)), (by first | rfl | (simp only [LS, SS, SX, HS, mkS_cons, mkS_nil, ↓reduceIte, eq_self', List.map_nil, beq_self_eq_true, Nat.reduceEqDiff, Nat.reduceAdd, Nat.succ_ne_self, vint, TyS, TyF, TBS, TBF, DcS, DcF, SvS, SvF, PfS, PfF, hn0, hn1, hx, Bool.false_or, g1, g2] <;> first | done | with_reducible rfl)), (by first | rfl | (simp only [LS, SS, SX, HS, mkS_cons, mkS_nil, ↓reduceIte, eq_self', List.map_nil, beq_self_eq_true, Nat.reduceEqDiff, Nat.reduceAdd, Nat.succ_ne_self, vint, TyS, TyF, TBS, TBF, DcS, DcF, SvS, SvF, PfS, PfF, hn0, hn1, hx, Bool.false_or, g1, g2] <;> first | done | with_reducible rfl)), (by first | rfl | (simp only [LS, SS, SX, HS, mkS_cons, mkS_nil, ↓reduceIte, eq_self', List.map_nil, beq_self_eq_true, Nat.reduceEqDiff, Nat.reduceAdd, Nat.succ_ne_self, vint, TyS, TyF, TBS, TBF, DcS, DcF, SvS, SvF, PfS, PfF, hn0, hn1, hx, Bool.false_or, g1, g2] <;> first | done | with_reducible rfl)), (by first | rfl | (simp only [LS, SS, SX, HS, mkS_cons, mkS_nil, ↓reduceIte, eq_self', List.map_nil, beq_self_eq_true, Nat.reduceEqDiff, Nat.reduceAdd, Nat.succ_ne_self, vint, TyS, TyF, TBS, TBF, DcS, DcF, SvS, SvF, PfS, PfF, hn0, hn1, hx, Bool.false_or, g1, g2] <;> first | done | with_reducible rfl)), trivial⟩ (by first | rfl | (simp only [LS, SS, SX, HS, mkS_cons, mkS_nil, ↓reduceIte, eq_self', List.map_nil, beq_self_eq_true, Nat.reduceEqDiff, Nat.reduceAdd, Nat.succ_ne_self, vint, TyS, TyF, TBS, TBF, DcS, DcF, SvS, SvF, PfS, PfF, hn0, hn1, hx, Bool.false_or, g1, g2] <;> first | done | with_reducible rfl)) (by simp) (fun _ _ _ => by first | exact Nat.zero_le _ | (simp only [List.length_append]; omega)) ?_ ?_ ?_
            · exact fun i s hg => ⟨by simp only [SvS, TyS, List.nil_append]; repeat (first | exact hbel_nil _ | exact trivial | exact obel_row_nil _ | (refine HBel.cons ?_ ?_) | (refine obel_row_cons (by first | exact bel_TB _ _ | exact TB.bel _ _ | exact bel_Dc _ _ | exact Dc.bel _ _ | exact Pf.bel _ _ | exact bel_Pf _ _ | exact Sv.bel _ _ | exact bel_Pf_tok _ (by simp) | exact bel_ints0 _ _ | exact bel_slice_ty _ _ | exact Ty.bel _ _ | exact bel_ty_tok _ (by simp) | exact Bel.int _ _ | exact Bel.bool _ | exact Bel.str _ | exact Bel.nilp | exact Bel.nilfn | exact Bel.optr _ _ (by simp) | exact bel_nil0 _ | exact bel_nil1 _ | exact bel_fn0 _ _ | assumption) ?_)), by repeat (first | exact BelL.nil | refine BelL.cons (by first | exact bel_TB _ _ | exact TB.bel _ _ | exact bel_Dc _ _ | exact Dc.bel _ _ | exact Pf.bel _ _ | exact bel_Pf _ _ | exact Sv.bel _ _ | exact bel_Pf_tok _ (by simp) | exact bel_ints0 _ _ | exact bel_slice_ty _ _ | exact Ty.bel _ _ | exact bel_ty_tok _ (by simp) | exact Bel.int _ _ | exact Bel.bool _ | exact Bel.str _ | exact Bel.nilp | exact Bel.nilfn | exact Bel.optr _ _ (by simp) | exact bel_nil0 _ | exact bel_nil1 _ | exact bel_fn0 _ _ | assumption) ?_)⟩
            · intro i s hi hg
              have g3 := ix_nat hi
              have g4 := get_enc TB.enc hi
              have hbw := hW.el_bs _ (List.getElem_mem hi)
              obtain ⟨b, hbe⟩ : ∃ b, d.bs[i] = b := ⟨_, rfl⟩
              rw [hbe] at g4 hbw
              have hps := hW.max_ps
              have hWa := app_W (ps := d.ps) (implAs_W (ds := ds) (tr := tr) ht) hbw.st_t
              have hsn : s.length = i := by rw [hg.2, List.length_map, List.length_take]; omega
              have happ := app_Pf (us := s) (u := (solveT ds sas n (mapT (appG d.ps (implAs ds t tr)) b.t) b.tr).1) (id := 5) (tl := .full) (by omega)
              -- region 12
              repeat (refine awp_seq ?_)
              refine e_eval (by simp only [asq, as0, as1, as2, awanted, aop, aidxAddr, aidx, ajust, aload, astore, splice, LS, SS, SX, HS, mkS_cons, mkS_nil, ↓reduceIte, eq_self', List.map_nil, beq_self_eq_true, Nat.reduceEqDiff, Nat.reduceAdd, Nat.reduceMul, Nat.reduceLT, Nat.reduceLeDiff, Nat.reducePow, Nat.reduceDiv, Nat.reduceMod, Nat.succ_ne_self, Nat.reduceBEq, Nat.reduceBNe, Tryti60, Tryte60, Trytz60, Trytp60, Tryti74, Trytf74, Trytz74, Trytp74, vint, TyS, TyF, TBS, TBF, DcS, DcF, SvS, SvF, PfS, PfF, hn0, hn1, hx, Bool.false_or, g1, g2, g3, g4, Int.toNat_natCast] <;> with_reducible rfl) (by decide) ?_
              -- region 13
              repeat (refine awp_seq ?_)
              refine awp_draw 1 (by kernel_rfl) ?_
              refine d_take (bm := [0, 0, 2, 0, 8, 0, 56, 120, 248, 0, 1022, 0, 2048, 0, 8192, 32767, 65535, 131071, 131071, 0, 786431, 2097151]) 10 (fresh := (7)) (by kernel_rfl) (by simp only [dsq, ds0, ds1, ds2, ds3, awanted, hapB, effIds, effSet, nextFresh, ard, freshOk, isUnborn, aop, aload, ajust, afldAddr, aidxAddr, aidx, LS, SS, SX, HS, mkS_cons, mkS_nil, ↓reduceIte, eq_self', List.map_nil, beq_self_eq_true, Nat.reduceEqDiff, Nat.reduceAdd, Nat.reduceMul, Nat.reduceLT, Nat.reduceLeDiff, Nat.reducePow, Nat.reduceDiv, Nat.reduceMod, Nat.succ_ne_self, Nat.reduceBEq, Nat.reduceBNe, Tryti3, Trytz3, Trytp3, Trytk3, Tryti24, Trytf24, Trytz24, Trytp24, Tryti25, Tryte25, Trytz25, Trytp25, Tryti59, Tryte59, Trytz59, Trytp59, Tryti71, Trytf71, Trytz71, Trytp71, Tryti74, Trytf74, Trytz74, Trytp74, Tryti123, Trytf123, Trytz123, Trytp123, vint, TyS, TyF, TBS, TBF, DcS, DcF, SvS, SvF, PfS, PfF, hn0, hn1, hx, Bool.false_or, g1, g2, g3, g4, Int.toNat_natCast] <;> with_reducible rfl) (by decide) (by decide) ?_
              refine dops_keep (bm := [0, 0, 2, 0, 8, 0, 56, 120, 248, 0, 1022, 0, 2048, 0, 8192, 32767, 65535, 131071, 131071, 0, 786431, 2097151]) ([]) (by kernel_rfl) (by simp only [acall, awanted, LS, SS, SX, HS, mkS_cons, mkS_nil, ↓reduceIte, eq_self', List.map_nil, beq_self_eq_true, Nat.reduceEqDiff, Nat.reduceAdd, Nat.reduceMul, Nat.reduceLT, Nat.reduceLeDiff, Nat.reducePow, Nat.reduceDiv, Nat.reduceMod, Nat.succ_ne_self, Nat.reduceBEq, Nat.reduceBNe, vint, TyS, TyF, TBS, TBF, DcS, DcF, SvS, SvF, PfS, PfF, hn0, hn1, hx, Bool.false_or, g1, g2, g3, g4, Int.toNat_natCast] <;> with_reducible rfl) (by simp only [acall, awanted, LS, SS, SX, HS, mkS_cons, mkS_nil, ↓reduceIte, eq_self', List.map_nil, beq_self_eq_true, Nat.reduceEqDiff, Nat.reduceAdd, Nat.reduceMul, Nat.reduceLT, Nat.reduceLeDiff, Nat.reducePow, Nat.reduceDiv, Nat.reduceMod, Nat.succ_ne_self, Nat.reduceBEq, Nat.reduceBNe, vint, TyS, TyF, TBS, TBF, DcS, DcF, SvS, SvF, PfS, PfF, hn0, hn1, hx, Bool.false_or, g1, g2, g3, g4, Int.toNat_natCast]) (by decide) Trygo24 (fun H' _ => apply_c b.t d.ps (implAs ds t tr) hbw.st_t hps (implAs_W ht) H') (by simp only [dsq, ds0, ds1, ds2, ds3, awanted, hapB, effIds, effSet, nextFresh, ard, freshOk, isUnborn, aop, LS, SS, SX, HS, mkS_cons, mkS_nil, ↓reduceIte, eq_self', List.map_nil, beq_self_eq_true, Nat.reduceEqDiff, Nat.reduceAdd, Nat.reduceMul, Nat.reduceLT, Nat.reduceLeDiff, Nat.reducePow, Nat.reduceDiv, Nat.reduceMod, Nat.succ_ne_self, Nat.reduceBEq, Nat.reduceBNe, vint, TyS, TyF, TBS, TBF, DcS, DcF, SvS, SvF, PfS, PfF, hn0, hn1, hx, Bool.false_or, g1, g2, g3, g4, Int.toNat_natCast] <;> first | done | rfl) ?_
              refine d_take (bm := [0, 0, 2, 0, 8, 0, 56, 120, 248, 0, 1022, 0, 2048, 0, 8192, 32767, 65535, 131071, 131071, 0, 786431, 2097151]) 4 (fresh := (7)) (by kernel_rfl) (by simp only [dsq, ds0, ds1, ds2, ds3, awanted, hapB, effIds, effSet, nextFresh, ard, freshOk, isUnborn, aop, afldAddr, ajust, aload, abin, LS, SS, SX, HS, mkS_cons, mkS_nil, ↓reduceIte, eq_self', List.map_nil, beq_self_eq_true, Nat.reduceEqDiff, Nat.reduceAdd, Nat.reduceMul, Nat.reduceLT, Nat.reduceLeDiff, Nat.reducePow, Nat.reduceDiv, Nat.reduceMod, Nat.succ_ne_self, Nat.reduceBEq, Nat.reduceBNe, Tryti3, Trytz3, Trytp3, Trytk3, Tryti74, Trytf74, Trytz74, Trytp74, vint, TyS, TyF, TBS, TBF, DcS, DcF, SvS, SvF, PfS, PfF, hn0, hn1, hx, Bool.false_or, g1, g2, g3, g4, Int.toNat_natCast] <;> with_reducible rfl) (by decide) (by decide) ?_
              refine dops_keep (bm := [0, 0, 2, 0, 8, 0, 56, 120, 248, 0, 1022, 0, 2048, 0, 8192, 32767, 65535, 131071, 131071, 0, 786431, 2097151]) ([]) (by kernel_rfl) (by simp only [acall, awanted, LS, SS, SX, HS, mkS_cons, mkS_nil, ↓reduceIte, eq_self', List.map_nil, beq_self_eq_true, Nat.reduceEqDiff, Nat.reduceAdd, Nat.reduceMul, Nat.reduceLT, Nat.reduceLeDiff, Nat.reducePow, Nat.reduceDiv, Nat.reduceMod, Nat.succ_ne_self, Nat.reduceBEq, Nat.reduceBNe, vint, TyS, TyF, TBS, TBF, DcS, DcF, SvS, SvF, PfS, PfF, hn0, hn1, hx, Bool.false_or, g1, g2, g3, g4, Int.toNat_natCast] <;> with_reducible rfl) (by simp only [acall, awanted, LS, SS, SX, HS, mkS_cons, mkS_nil, ↓reduceIte, eq_self', List.map_nil, beq_self_eq_true, Nat.reduceEqDiff, Nat.reduceAdd, Nat.reduceMul, Nat.reduceLT, Nat.reduceLeDiff, Nat.reducePow, Nat.reduceDiv, Nat.reduceMod, Nat.succ_ne_self, Nat.reduceBEq, Nat.reduceBNe, vint, TyS, TyF, TBS, TBF, DcS, DcF, SvS, SvF, PfS, PfF, hn0, hn1, hx, Bool.false_or, g1, g2, g3, g4, Int.toNat_natCast]) (by decide) Trygo100 (fun H' _ => solve_k ds sas hl hd hsl hs n (mapT (appG d.ps (implAs ds t tr)) b.t) b.tr (by omega) hWa H') (by simp only [dsq, ds0, ds1, ds2, ds3, awanted, hapB, effIds, effSet, nextFresh, ard, freshOk, isUnborn, aop, LS, SS, SX, HS, mkS_cons, mkS_nil, ↓reduceIte, eq_self', List.map_nil, beq_self_eq_true, Nat.reduceEqDiff, Nat.reduceAdd, Nat.reduceMul, Nat.reduceLT, Nat.reduceLeDiff, Nat.reducePow, Nat.reduceDiv, Nat.reduceMod, Nat.succ_ne_self, Nat.reduceBEq, Nat.reduceBNe, vint, TyS, TyF, TBS, TBF, DcS, DcF, SvS, SvF, PfS, PfF, hn0, hn1, hx, Bool.false_or, g1, g2, g3, g4, Int.toNat_natCast] <;> first | done | rfl) ?_
              refine d_end (bm := [0, 0, 2, 0, 8, 0, 56, 120, 248, 0, 1022, 0, 2048, 0, 8192, 32767, 65535, 131071, 131071, 0, 786431, 2097151]) (fresh := (7)) (by kernel_rfl) (by simp only [dsq, ds0, ds1, ds2, ds3, awanted, hapB, effIds, effSet, nextFresh, ard, freshOk, isUnborn, aop, ajust, astore, splice, LS, SS, SX, HS, mkS_cons, mkS_nil, ↓reduceIte, eq_self', List.map_nil, beq_self_eq_true, Nat.reduceEqDiff, Nat.reduceAdd, Nat.reduceMul, Nat.reduceLT, Nat.reduceLeDiff, Nat.reducePow, Nat.reduceDiv, Nat.reduceMod, Nat.succ_ne_self, Nat.reduceBEq, Nat.reduceBNe, Tryti63, Trytf63, Trytz63, Trytp63, vint, TyS, TyF, TBS, TBF, DcS, DcF, SvS, SvF, PfS, PfF, hn0, hn1, hx, Bool.false_or, g1, g2, g3, g4, Int.toNat_natCast] <;> with_reducible rfl) (by decide) ?_
              refine awp_sel [3, 4, 8, 11, 12, 13, 16, 17, 72, 73, 74] (by simp only [LS, SS, SX, HS, mkS_cons, mkS_nil, ↓reduceIte, eq_self', List.map_nil, beq_self_eq_true, Nat.reduceEqDiff, Nat.reduceAdd, Nat.succ_ne_self, vint, TyS, TyF, TBS, TBF, DcS, DcF, SvS, SvF, PfS, PfF, hn0, hn1, hx, Bool.false_or, g1, g2, g3, g4, Int.toNat_natCast] <;> with_reducible rfl) ?_
              -- region 14
              repeat (refine awp_seq ?_)
              refine e_eval (by simp only [asq, as0, as1, as2, awanted, aop, aun, ajust, LS, SS, SX, HS, mkS_cons, mkS_nil, ↓reduceIte, eq_self', List.map_nil, beq_self_eq_true, Nat.reduceEqDiff, Nat.reduceAdd, Nat.reduceMul, Nat.reduceLT, Nat.reduceLeDiff, Nat.reducePow, Nat.reduceDiv, Nat.reduceMod, Nat.succ_ne_self, Nat.reduceBEq, Nat.reduceBNe, vint, TyS, TyF, TBS, TBF, DcS, DcF, SvS, SvF, PfS, PfF, hn0, hn1, hx, Bool.false_or, g1, g2, g3, g4, Int.toNat_natCast] <;> with_reducible rfl) (by decide) ?_
              repeat (refine awp_seq ?_)
              refine awp_cond rfl (by simp only [LS, SS, SX, HS, mkS_cons, mkS_nil, ↓reduceIte, eq_self', List.map_nil, beq_self_eq_true, Nat.reduceEqDiff, Nat.reduceAdd, Nat.succ_ne_self, vint, TyS, TyF, TBS, TBF, DcS, DcF, SvS, SvF, PfS, PfF, hn0, hn1, hx, Bool.false_or, g1, g2, g3, g4, Int.toNat_natCast] <;> with_reducible rfl) (fun b4 => ?_) (fun b4 => ?_)
              · -- if t98
                -- region 15
                repeat (refine awp_seq ?_)
                refine e_eval (by simp only [asq, as0, as1, as2, awanted, aop, abuild, splice, astore, LS, SS, SX, HS, mkS_cons, mkS_nil, ↓reduceIte, eq_self', List.map_nil, beq_self_eq_true, Nat.reduceEqDiff, Nat.reduceAdd, Nat.reduceMul, Nat.reduceLT, Nat.reduceLeDiff, Nat.reducePow, Nat.reduceDiv, Nat.reduceMod, Nat.succ_ne_self, Nat.reduceBEq, Nat.reduceBNe, Tryti63, Trytf63, Trytz63, Trytp63, vint, TyS, TyF, TBS, TBF, DcS, DcF, SvS, SvF, PfS, PfF, hn0, hn1, hx, Bool.false_or, g1, g2, g3, g4, Int.toNat_natCast] <;> with_reducible rfl) (by decide) ?_
                repeat (refine awp_seq ?_)
                -- leaf 4 ret
                refine awp_ret ⟨.inr rfl, _, (ares_two (.cell 8 63) (.tmp 9) rfl (ares_cell1 Tryti63 (by decide) (by simp only [aload, LS, SS, SX, HS, mkS_cons, mkS_nil, ↓reduceIte, eq_self', List.map_nil, beq_self_eq_true, Nat.reduceEqDiff, Nat.reduceAdd, Nat.reduceMul, Nat.reduceLT, Nat.reduceLeDiff, Nat.reducePow, Nat.reduceDiv, Nat.reduceMod, Nat.succ_ne_self, Nat.reduceBEq, Nat.reduceBNe, vint, TyS, TyF, TBS, TBF, DcS, DcF, SvS, SvF, PfS, PfF, hn0, hn1, hx, Bool.false_or, g1, g2, g3, g4, Int.toNat_natCast] <;> with_reducible rfl)) (ares_tmp1 (by decide))), ?_⟩
                have hbad : ¬ (d.bs.all (fun b => (solveT ds sas n (mapT (appG d.ps (implAs ds t tr)) b.t) b.tr).2)) = true := by
                  rw [List.all_eq_true]
                  intro h
                  have := h d.bs[i] (List.getElem_mem hi)
                  rw [hbe] at this
                  simp [this] at b4
                rw [if_neg hbad]
                simp only [LS, SS, SX, HS, mkS_cons, mkS_nil, ↓reduceIte, eq_self', List.map_nil, beq_self_eq_true, Nat.reduceEqDiff, Nat.reduceAdd, Nat.succ_ne_self, vint, TyS, TyF, TBS, TBF, DcS, DcF, SvS, SvF, PfS, PfF]
                rfl
              · -- else t98
                repeat (refine awp_seq ?_)
                refine awp_skip ?_
                -- region 16
                repeat (refine awp_seq ?_)
                refine e_eval (by simp only [asq, as0, as1, as2, awanted, aop, afldAddr, ajust, aload, abuildS, abuiltin, astore, splice, LS, SS, SX, HS, mkS_cons, mkS_nil, ↓reduceIte, eq_self', List.map_nil, beq_self_eq_true, Nat.reduceEqDiff, Nat.reduceAdd, Nat.reduceMul, Nat.reduceLT, Nat.reduceLeDiff, Nat.reducePow, Nat.reduceDiv, Nat.reduceMod, Nat.succ_ne_self, Nat.reduceBEq, Nat.reduceBNe, Tryti61, Tryte61, Trytz61, Trytp61, Tryti63, Trytf63, Trytz63, Trytp63, vint, TyS, TyF, TBS, TBF, DcS, DcF, SvS, SvF, PfS, PfF, hn0, hn1, hx, Bool.false_or, g1, g2, g3, g4, Int.toNat_natCast, happ] <;> with_reducible rfl) (by decide) ?_
                -- leaf 5 next0
                exact ⟨⟨rfl, rfl, trivial⟩, s ++ [(solveT ds sas n (mapT (appG d.ps (implAs ds t tr)) b.t) b.tr).1], _, ⟨rfl, rfl, rfl, rfl, rfl, rfl, rfl, trivial⟩, by simp only [LS, SS, SX, HS, mkS_cons, mkS_nil, ↓reduceIte, eq_self', List.map_nil, beq_self_eq_true, Nat.reduceEqDiff, Nat.reduceAdd, Nat.succ_ne_self, vint, TyS, TyF, TBS, TBF, DcS, DcF, SvS, SvF, PfS, PfF, List.length_append, List.length_singleton] <;> rfl, all_take_succ hi hg.1 (by simp only [hbe]; simpa using b4), by rw [hg.2, map_take_succ _ hi, hbe]⟩
            · intro s hg
              rw [List.take_length] at hg
              -- region 18
              repeat (refine awp_seq ?_)
              refine e_eval (by simp only [asq, as0, as1, as2, awanted, aop, aload, ajust, astore, splice, LS, SS, SX, HS, mkS_cons, mkS_nil, ↓reduceIte, eq_self', List.map_nil, beq_self_eq_true, Nat.reduceEqDiff, Nat.reduceAdd, Nat.reduceMul, Nat.reduceLT, Nat.reduceLeDiff, Nat.reducePow, Nat.reduceDiv, Nat.reduceMod, Nat.succ_ne_self, Nat.reduceBEq, Nat.reduceBNe, Tryti63, Trytf63, Trytz63, Trytp63, vint, TyS, TyF, TBS, TBF, DcS, DcF, SvS, SvF, PfS, PfF, hn0, hn1, hx, Bool.false_or, g1, g2] <;> with_reducible rfl) (by decide) ?_
              repeat (refine awp_seq ?_)
              -- leaf 6 ret
              refine awp_ret ⟨.inr rfl, _, (ares_two (.cell 8 63) (.tmp 9) rfl (ares_cell1 Tryti63 (by decide) (by simp only [aload, LS, SS, SX, HS, mkS_cons, mkS_nil, ↓reduceIte, eq_self', List.map_nil, beq_self_eq_true, Nat.reduceEqDiff, Nat.reduceAdd, Nat.reduceMul, Nat.reduceLT, Nat.reduceLeDiff, Nat.reducePow, Nat.reduceDiv, Nat.reduceMod, Nat.succ_ne_self, Nat.reduceBEq, Nat.reduceBNe, vint, TyS, TyF, TBS, TBF, DcS, DcF, SvS, SvF, PfS, PfF, hn0, hn1, hx, Bool.false_or, g1, g2] <;> with_reducible rfl)) (ares_tmp1 (by decide))), ?_⟩
              rw [if_pos hg.1, ← hg.2]
              simp only [LS, SS, SX, HS, mkS_cons, mkS_nil, ↓reduceIte, eq_self', List.map_nil, beq_self_eq_true, Nat.reduceEqDiff, Nat.reduceAdd, Nat.succ_ne_self, vint, TyS, TyF, TBS, TBF, DcS, DcF, SvS, SvF, PfS, PfF]

end Go.Abs
set_option linter.unusedVariables false
set_option linter.unusedSimpArgs false
namespace Go.Abs
def showD : List Dc := [⟨[], .mk 0 0 [], -1, [], []⟩, ⟨[], .mk 3 0 [], 0, [], []⟩, ⟨[3], .mk 7 9 [.mk 2 3 []], 0, [⟨.mk 2 3 [], 0⟩], []⟩]
def showP (n : Nat) : Pf := match n with
  | 0 => .mk (.mk 3 0 []) 0 1 (-1) [] []
  | n + 1 => .mk (.mk 0 0 []) 0 0 0 [] []
theorem idx_none (f : TB → Bool) : idxI f [] = -1 := rfl
theorem impl_int : implIx showD (.mk 3 0 []) 0 = 1 := by
  simp [implIx, showD, idxI, List.findIdx?_cons, implP, matchP, matchT, Ty.kind, Ty.id, Ty.args, mS0, matchL, cpar]
theorem impl_bool : implIx showD (.mk 4 0 []) 0 = -1 := by
  simp [implIx, showD, idxI, List.findIdx?_cons, implP, matchP, matchT, Ty.kind, Ty.id, Ty.args, mS0, matchL, cpar]
theorem impl_list (u : Ty) : implIx showD (.mk 7 9 [u]) 0 = 2 := by
  simp [implIx, showD, idxI, List.findIdx?_cons, implP, matchP, matchT, Ty.kind, Ty.id, Ty.args, mS0, matchL, cpar]
theorem args_int : implAs showD (.mk 3 0 []) 0 = [] := by
  unfold implAs implD; rw [impl_int]; simp [showD, matchP, matchT, Ty.kind, Ty.id, Ty.args, mS0, matchL]
theorem args_list (u : Ty) : implAs showD (.mk 7 9 [u]) 0 = [u] := by
  unfold implAs implD; rw [impl_list]; simp [showD, matchP, matchT, Ty.kind, Ty.id, Ty.args, mS0, matchL, idxI, List.findIdx?_cons]
theorem app_p (u : Ty) : mapT (appG [3] [u]) (.mk 2 3 []) = u := by
  rw [mapT_eq]; simp [appG, Ty.kind, Ty.id, idxI, List.findIdx?_cons]
theorem solve_int (n : Nat) : solveT showD [] (n + 1) (.mk 3 0 []) 0 = (.mk (.mk 3 0 []) 0 1 (-1) [] [], true) := by
  rw [solveT]; simp [impl_int, args_int, idx_none, Ty.kind, implD]; simp [showD]
theorem solve_bool (n : Nat) : (solveT showD [] n (.mk 4 0 []) 0).2 = false := by
  cases n with
  | zero => rfl
  | succ n => rw [solveT]; simp [impl_bool, idx_none, Ty.kind]
theorem solve_list (n : Nat) (u : Ty) : solveT showD [] (n + 1) (.mk 7 9 [u]) 0 = if (solveT showD [] n u 0).2 = true then (.mk (.mk 7 9 [u]) 0 2 (-1) [u] [(solveT showD [] n u 0).1], true) else (.zero, false) := by
  have hD : implD showD (.mk 7 9 [u]) 0 = ⟨[3], .mk 7 9 [.mk 2 3 []], 0, [⟨.mk 2 3 [], 0⟩], []⟩ := by unfold implD; rw [impl_list]; rfl
  rw [solveT]; simp [impl_list, args_list, idx_none, Ty.kind, hD, app_p]
theorem solve_show : solveT showD [] 8 (.mk 7 9 [.mk 7 9 [.mk 3 0 []]]) 0 = (.mk (.mk 7 9 [.mk 7 9 [.mk 3 0 []]]) 0 2 (-1) [.mk 7 9 [.mk 3 0 []]] [.mk (.mk 7 9 [.mk 3 0 []]) 0 2 (-1) [.mk 3 0 []] [.mk (.mk 3 0 []) 0 1 (-1) [] []]], true) := by
  rw [solve_list, solve_list, solve_int]; simp
theorem solve_wrong : (solveT showD [] 8 (.mk 7 9 [.mk 4 0 []]) 0).2 = false := by
  rw [solve_list]; simp [solve_bool]
theorem showD_W : ∀ d ∈ showD, d.W ∧ d.ps.length * 40 ≤ 2 ^ 47 := by
  intro d hd
  simp only [showD, List.mem_cons, List.not_mem_nil, or_false] at hd
  rcases hd with rfl | rfl | rfl <;> simp [Dc.W, Ty.W_iff, TB.W]
theorem show_P : checkT showD [] 4 (.mk (.mk 7 9 [.mk 7 9 [.mk 3 0 []]]) 0 2 (-1) [.mk 7 9 [.mk 3 0 []]] [.mk (.mk 7 9 [.mk 3 0 []]) 0 2 (-1) [.mk 3 0 []] [.mk (.mk 3 0 []) 0 1 (-1) [] []]]) = true := by
  have := solve_check showD [] 8 (.mk 7 9 [.mk 7 9 [.mk 3 0 []]]) 0 4 (by simp [Ty.W_iff]) (fun d hd => (showD_W d hd).1)
  rw [solve_show] at this
  exact this rfl (by simp [Pf.size, pfSizes])
end Go.Abs
set_option linter.unusedVariables false
set_option linter.unusedSimpArgs false
set_option maxRecDepth 4000
namespace Go.Abs
open Go.Proofs

theorem implAs_len {ds : List Dc} {t : Ty} {tr : Int} (ht : t.W) (hd : ∀ d ∈ ds, d.B) : (implAs ds t tr).length * 40 ≤ 2 ^ 47 := by
  unfold implAs
  split
  · rename_i h
    obtain ⟨hg, hp⟩ := implD_get h
    unfold implP at hp
    simp only [Bool.and_eq_true] at hp
    rw [(match_apply _ _ _ ht hp.2).1]
    exact (hd _ (List.mem_of_getElem? hg)).2
  · simp
theorem solve_W {ds : List Dc} {sas : List TB} (hd : ∀ d ∈ ds, d.B) : ∀ (n : Nat) (t : Ty) (tr : Int), t.W → (solveT ds sas n t tr).1.W := by
  have hz : Pf.zero.W := by simp [Pf.zero, Pf.W_iff, Ty.W_iff]
  intro n
  induction n with
  | zero => intro t tr _; exact hz
  | succ n ih =>
    intro t tr ht
    rw [solveT]
    split
    · exact hz
    · split
      · simp [Pf.W_iff, ht]
      · split
        · exact hz
        · rename_i h3
          split
          · rw [Pf.W_iff]
            refine ⟨ht, implAs_len ht hd, implAs_W ht, by rw [List.length_map]; omega, fun u hu => ?_⟩
            obtain ⟨b, hb, rfl⟩ := List.mem_map.1 hu
            obtain ⟨hg, _⟩ := implD_get (ds := ds) (t := t) (tr := tr) (by omega)
            exact ih _ _ (app_W (implAs_W ht) ((hd _ (List.mem_of_getElem? hg)).1.el_bs b hb).st_t)
          · exact hz
theorem checkT_s (ds : List Dc) (sas : List TB) (n : Nat) (p : Pf) : checkT ds sas (n + 1) p =
    if p.im = -1 then
      decide (0 ≤ p.bd ∧ p.bd < sas.length) && p.args.isEmpty && p.prems.isEmpty && (match sas[p.bd.toNat]? with | some b => decide (b.tr = p.tr) && b.t.eqb p.t | none => false)
    else if p.bd ≠ -1 ∨ p.im < 0 ∨ (ds.length : Int) ≤ p.im ∨ p.tr < 0 then false
    else match ds[p.im.toNat]? with
      | none => false
      | some d => decide (d.tr = p.tr) && decide (p.args.length = d.ps.length) && decide (p.prems.length = d.bs.length) && (mapT (appG d.ps p.args) d.t).eqb p.t &&
        ((d.bs.zip p.prems).all fun x => decide (x.2.tr = x.1.tr) && x.2.t.eqb (mapT (appG d.ps p.args) x.1.t) && checkT ds sas n x.2) := rfl
theorem solve_8 (ds : List Dc) (sas : List TB) (hl : ds.length ≤ maxLen) (hd : ∀ d ∈ ds, d.B) (hsl : sas.length ≤ maxLen) (hs : ∀ b ∈ sas, b.W) (t : Ty) (tr : Int) (ht : t.W) : PC Try.prog 100 [(Sv.mk ds sas).enc, t.enc, vint tr, .int .i64 8] (.tup [(solveT ds sas 8 t tr).1.enc, .bool (solveT ds sas 8 t tr).2]) :=
  solve_k ds sas hl hd hsl hs 8 t tr (by omega) ht
theorem solve_zero (ds : List Dc) (sas : List TB) (n : Nat) (t : Ty) (tr : Int) (h : (solveT ds sas n t tr).2 = false) : (solveT ds sas n t tr).1 = Pf.zero := by
  cases n with
  | zero => rfl
  | succ n =>
    rw [solveT] at h ⊢
    repeat' split
    all_goals simp_all
theorem isE {α : Type} (l : List α) : l.isEmpty = !decide (0 < l.length) := by cases l <;> simp

theorem solve_c (ds : List Dc) (sas : List TB) (t : Ty) (tr : Int) (hl : ds.length ≤ maxLen) (hd : ∀ d ∈ ds, d.B) (hsl : sas.length ≤ maxLen) (hs : ∀ b ∈ sas, b.W) (ht : t.W) : PC Try.prog 46 [.slice (ds.map Dc.enc) .none, .slice (sas.map TB.enc) .none, t.enc, vint tr] (.tup [(solveT ds sas 8 t tr).1.enc, .bool (solveT ds sas 8 t tr).2]) := by
  refine pc_of (N := 18) Try.func46 rfl rfl (by simp) (by simp [Ty.bel, Bel.int, bel_Dc, bel_TB]) (.tup _ (by simp [Pf.bel, Bel.bool])) ?_
  -- region 0
  repeat (refine awp_seq ?_)
  refine e_eval (by simp only [asq, as0, as1, as2, awanted, aop, LS, SS, SX, HS, mkS_cons, mkS_nil, ↓reduceIte, eq_self', List.map_nil, beq_self_eq_true, Nat.reduceEqDiff, Nat.reduceAdd, Nat.reduceMul, Nat.reduceLT, Nat.reduceLeDiff, Nat.reducePow, Nat.reduceDiv, Nat.reduceMod, Nat.succ_ne_self, Nat.reduceBEq, Nat.reduceBNe, Tryti24, Trytf24, Trytz24, Trytp24, Tryti63, Trytf63, Trytz63, Trytp63, vint, TyS, TyF, TBS, TBF, DcS, DcF, SvS, SvF, PfS, PfF] <;> with_reducible rfl) (by decide) ?_
  -- region 1
  repeat (refine awp_seq ?_)
  refine awp_region ?_
  refine e_take 5 (by simp only [asq, as0, as1, as2, awanted, aop, abuild, splice, aload, ajust, LS, SS, SX, HS, mkS_cons, mkS_nil, ↓reduceIte, eq_self', List.map_nil, beq_self_eq_true, Nat.reduceEqDiff, Nat.reduceAdd, Nat.reduceMul, Nat.reduceLT, Nat.reduceLeDiff, Nat.reducePow, Nat.reduceDiv, Nat.reduceMod, Nat.succ_ne_self, Nat.reduceBEq, Nat.reduceBNe, Tryti24, Trytf24, Trytz24, Trytp24, Tryti123, Trytf123, Trytz123, Trytp123, vint, TyS, TyF, TBS, TBF, DcS, DcF, SvS, SvF, PfS, PfF] <;> with_reducible rfl) (by decide) ?_
  refine aops_pure (by simp only [acall, awanted, LS, SS, SX, HS, mkS_cons, mkS_nil, ↓reduceIte, eq_self', List.map_nil, beq_self_eq_true, Nat.reduceEqDiff, Nat.reduceAdd, Nat.reduceMul, Nat.reduceLT, Nat.reduceLeDiff, Nat.reducePow, Nat.reduceDiv, Nat.reduceMod, Nat.succ_ne_self, Nat.reduceBEq, Nat.reduceBNe, vint, TyS, TyF, TBS, TBF, DcS, DcF, SvS, SvF, PfS, PfF] <;> with_reducible rfl) (by simp only [acall, awanted, LS, SS, SX, HS, mkS_cons, mkS_nil, ↓reduceIte, eq_self', List.map_nil, beq_self_eq_true, Nat.reduceEqDiff, Nat.reduceAdd, Nat.reduceMul, Nat.reduceLT, Nat.reduceLeDiff, Nat.reducePow, Nat.reduceDiv, Nat.reduceMod, Nat.succ_ne_self, Nat.reduceBEq, Nat.reduceBNe, vint, TyS, TyF, TBS, TBF, DcS, DcF, SvS, SvF, PfS, PfF]) (by decide) Trygo100 (solve_8 ds sas hl hd hsl hs t tr ht _) ?_
  refine e_end (by simp only [asq, as0, as1, as2, awanted, aop, ajust, astore, splice, LS, SS, SX, HS, mkS_cons, mkS_nil, ↓reduceIte, eq_self', List.map_nil, beq_self_eq_true, Nat.reduceEqDiff, Nat.reduceAdd, Nat.reduceMul, Nat.reduceLT, Nat.reduceLeDiff, Nat.reducePow, Nat.reduceDiv, Nat.reduceMod, Nat.succ_ne_self, Nat.reduceBEq, Nat.reduceBNe, Tryti63, Trytf63, Trytz63, Trytp63, vint, TyS, TyF, TBS, TBF, DcS, DcF, SvS, SvF, PfS, PfF] <;> with_reducible rfl) (by decide) ?_
  repeat (refine awp_seq ?_)
  -- leaf 0 ret
  refine awp_ret ⟨.inr rfl, _, (ares_two (.cell 8 63) (.tmp 9) rfl (ares_cell1 Tryti63 (by decide) (by simp only [aload, LS, SS, SX, HS, mkS_cons, mkS_nil, ↓reduceIte, eq_self', List.map_nil, beq_self_eq_true, Nat.reduceEqDiff, Nat.reduceAdd, Nat.reduceMul, Nat.reduceLT, Nat.reduceLeDiff, Nat.reducePow, Nat.reduceDiv, Nat.reduceMod, Nat.succ_ne_self, Nat.reduceBEq, Nat.reduceBNe, vint, TyS, TyF, TBS, TBF, DcS, DcF, SvS, SvF, PfS, PfF] <;> with_reducible rfl)) (ares_tmp1 (by decide))), ?_⟩
  simp only [LS, SS, SX, HS, mkS_cons, mkS_nil, ↓reduceIte, eq_self', List.map_nil, beq_self_eq_true, Nat.reduceEqDiff, Nat.reduceAdd, Nat.succ_ne_self, vint, TyS, TyF, TBS, TBF, DcS, DcF, SvS, SvF, PfS, PfF]

theorem check_k (ds : List Dc) (sas : List TB) (hl : ds.length ≤ maxLen) (hd : ∀ d ∈ ds, d.W) (hsl : sas.length ≤ maxLen) (hs : ∀ b ∈ sas, b.W) : ∀ (k : Nat) (p : Pf), p.size ≤ k → p.W → PC Try.prog 48 [.slice (ds.map Dc.enc) .none, .slice (sas.map TB.enc) .none, p.enc] (.bool (checkT ds sas k p))
  | 0, p, h, _ => by cases p; simp [Pf.size] at h
  | k + 1, p, h, hw => by
    rw [checkT_s]
    refine pc_of (N := 154) Try.func48 rfl rfl (by simp) (by simp [Pf.bel, bel_Dc, bel_TB]) (.bool _) ?_
    -- region 0
    repeat (refine awp_seq ?_)
    refine e_eval (by simp only [asq, as0, as1, as2, awanted, aop, LS, SS, SX, HS, mkS_cons, mkS_nil, ↓reduceIte, eq_self', List.map_nil, beq_self_eq_true, Nat.reduceEqDiff, Nat.reduceAdd, Nat.reduceMul, Nat.reduceLT, Nat.reduceLeDiff, Nat.reducePow, Nat.reduceDiv, Nat.reduceMod, Nat.succ_ne_self, Nat.reduceBEq, Nat.reduceBNe, Tryti63, Trytf63, Trytz63, Trytp63, vint, TyS, TyF, TBS, TBF, DcS, DcF, SvS, SvF, PfS, PfF] <;> with_reducible rfl) (by decide) ?_
    -- region 1
    repeat (refine awp_seq ?_)
    refine e_eval (by simp only [asq, as0, as1, as2, awanted, aop, afldAddr, ajust, aload, abin, LS, SS, SX, HS, mkS_cons, mkS_nil, ↓reduceIte, eq_self', List.map_nil, beq_self_eq_true, Nat.reduceEqDiff, Nat.reduceAdd, Nat.reduceMul, Nat.reduceLT, Nat.reduceLeDiff, Nat.reducePow, Nat.reduceDiv, Nat.reduceMod, Nat.succ_ne_self, Nat.reduceBEq, Nat.reduceBNe, Tryti3, Trytz3, Trytp3, Trytk3, Tryti63, Trytf63, Trytz63, Trytp63, vint, TyS, TyF, TBS, TBF, DcS, DcF, SvS, SvF, PfS, PfF] <;> with_reducible rfl) (by decide) ?_
    repeat (refine awp_seq ?_)
    refine awp_cond rfl (by simp only [LS, SS, SX, HS, mkS_cons, mkS_nil, ↓reduceIte, eq_self', List.map_nil, beq_self_eq_true, Nat.reduceEqDiff, Nat.reduceAdd, Nat.succ_ne_self, vint, TyS, TyF, TBS, TBF, DcS, DcF, SvS, SvF, PfS, PfF] <;> with_reducible rfl) (fun b0 => ?_) (fun b0 => ?_)
    · -- if t14
      have him : p.im = -1 := of_decide_eq_true b0
      rw [if_pos him]
      -- region 2
      repeat (refine awp_seq ?_)
      refine g_eval (by simp only [gsq, gs0, gs1, gs2, gcond, gop, SG, Op.operands, Call.operands, Array.toList_append, aop, afldAddr, ajust, aload, abin, abuiltin, LS, SS, SX, HS, mkS_cons, mkS_nil, ↓reduceIte, eq_self', List.map_nil, beq_self_eq_true, Nat.reduceEqDiff, Nat.reduceAdd, Nat.reduceMul, Nat.reduceLT, Nat.reduceLeDiff, Nat.reducePow, Nat.reduceDiv, Nat.reduceMod, Nat.succ_ne_self, Nat.reduceBEq, Nat.reduceBNe, Tryti3, Trytz3, Trytp3, Trytk3, Tryti22, Tryte22, Trytz22, Trytp22, Tryti24, Trytf24, Trytz24, Trytp24, Tryti60, Tryte60, Trytz60, Trytp60, Tryti61, Tryte61, Trytz61, Trytp61, Tryti63, Trytf63, Trytz63, Trytp63, Tryti74, Trytf74, Trytz74, Trytp74, vint, TyS, TyF, TBS, TBF, DcS, DcF, SvS, SvF, PfS, PfF] <;> with_reducible rfl) (by decide) (by repeat (first | exact Fin.base _ | with_reducible apply Fin.keep | apply Fin.drop)) ?_
      repeat (refine awp_seq ?_)
      refine awp_cond rfl (by simp only [LS, SS, SX, HS, mkS_cons, mkS_nil, ↓reduceIte, eq_self', List.map_nil, beq_self_eq_true, Nat.reduceEqDiff, Nat.reduceAdd, Nat.succ_ne_self, vint, TyS, TyF, TBS, TBF, DcS, DcF, SvS, SvF, PfS, PfF] <;> with_reducible rfl) (fun b1 => ?_) (fun b1 => ?_)
      · -- if t36
        refine awp_sel [] (by simp only [LS, SS, SX, HS, mkS_cons, mkS_nil, ↓reduceIte, eq_self', List.map_nil, beq_self_eq_true, Nat.reduceEqDiff, Nat.reduceAdd, Nat.succ_ne_self, vint, TyS, TyF, TBS, TBF, DcS, DcF, SvS, SvF, PfS, PfF] <;> with_reducible rfl) ?_
        -- region 3
        repeat (refine awp_seq ?_)
        refine e_eval (by simp only [asq, as0, as1, as2, awanted, aop, LS, SS, SX, HS, mkS_cons, mkS_nil, ↓reduceIte, eq_self', List.map_nil, beq_self_eq_true, Nat.reduceEqDiff, Nat.reduceAdd, Nat.reduceMul, Nat.reduceLT, Nat.reduceLeDiff, Nat.reducePow, Nat.reduceDiv, Nat.reduceMod, Nat.succ_ne_self, Nat.reduceBEq, Nat.reduceBNe, vint, TyS, TyF, TBS, TBF, DcS, DcF, SvS, SvF, PfS, PfF] <;> with_reducible rfl) (by decide) ?_
        repeat (refine awp_seq ?_)
        -- leaf 0 ret
        refine awp_ret ⟨.inr rfl, _, rfl, ?_⟩
        simp only [LS, SS, SX, HS, mkS_cons, mkS_nil, ↓reduceIte, eq_self', List.map_nil, beq_self_eq_true, Nat.reduceEqDiff, Nat.reduceAdd, Nat.succ_ne_self, vint, TyS, TyF, TBS, TBF, DcS, DcF, SvS, SvF, PfS, PfF, isE]
        congr 1
        grind
      · -- else t36
        have hb : (0 ≤ p.bd ∧ p.bd < sas.length) ∧ p.args.length = 0 ∧ p.prems.length = 0 := by simp at b1; grind
        have g1 : ((0 : Int) ≤ p.bd ∧ p.bd < sas.length) = True := by simp [hb]
        have hlt : p.bd.toNat < sas.length := by omega
        obtain ⟨b, hbe⟩ : ∃ b, sas[p.bd.toNat] = b := ⟨_, rfl⟩
        have g2 := get_enc TB.enc hlt
        rw [hbe] at g2
        have hbw : b.W := by rw [← hbe]; exact hs _ (List.getElem_mem hlt)
        repeat (refine awp_seq ?_)
        refine awp_skip ?_
        refine awp_sel [1, 5] (by simp only [LS, SS, SX, HS, mkS_cons, mkS_nil, ↓reduceIte, eq_self', List.map_nil, beq_self_eq_true, Nat.reduceEqDiff, Nat.reduceAdd, Nat.succ_ne_self, vint, TyS, TyF, TBS, TBF, DcS, DcF, SvS, SvF, PfS, PfF] <;> with_reducible rfl) ?_
        -- region 4
        repeat (refine awp_seq ?_)
        refine e_eval (by simp only [asq, as0, as1, as2, awanted, aop, afldAddr, ajust, aload, aidxAddr, aidx, astore, splice, LS, SS, SX, HS, mkS_cons, mkS_nil, ↓reduceIte, eq_self', List.map_nil, beq_self_eq_true, Nat.reduceEqDiff, Nat.reduceAdd, Nat.reduceMul, Nat.reduceLT, Nat.reduceLeDiff, Nat.reducePow, Nat.reduceDiv, Nat.reduceMod, Nat.succ_ne_self, Nat.reduceBEq, Nat.reduceBNe, Tryti3, Trytz3, Trytp3, Trytk3, Tryti60, Tryte60, Trytz60, Trytp60, Tryti63, Trytf63, Trytz63, Trytp63, Tryti74, Trytf74, Trytz74, Trytp74, vint, TyS, TyF, TBS, TBF, DcS, DcF, SvS, SvF, PfS, PfF, g1, g2] <;> with_reducible rfl) (by decide) ?_
        -- region 5
        repeat (refine awp_seq ?_)
        refine awp_region ?_
        refine aops_gstart ?_
        refine g_take 10 (by simp only [gsq, gs0, gs1, gs2, gcond, gop, SG, Op.operands, Call.operands, Array.toList_append, aop, afldAddr, ajust, aload, abin, LS, SS, SX, HS, mkS_cons, mkS_nil, ↓reduceIte, eq_self', List.map_nil, beq_self_eq_true, Nat.reduceEqDiff, Nat.reduceAdd, Nat.reduceMul, Nat.reduceLT, Nat.reduceLeDiff, Nat.reducePow, Nat.reduceDiv, Nat.reduceMod, Nat.succ_ne_self, Nat.reduceBEq, Nat.reduceBNe, Tryti3, Trytz3, Trytp3, Trytk3, Tryti24, Trytf24, Trytz24, Trytp24, Tryti63, Trytf63, Trytz63, Trytp63, Tryti74, Trytf74, Trytz74, Trytp74, vint, TyS, TyF, TBS, TBF, DcS, DcF, SvS, SvF, PfS, PfF, g1, g2] <;> with_reducible rfl) (by decide) ?_
        refine aops_gpure (by simp only [acall, gcond, SG, Op.operands, Call.operands, Array.toList_append, LS, SS, SX, HS, mkS_cons, mkS_nil, ↓reduceIte, eq_self', List.map_nil, beq_self_eq_true, Nat.reduceEqDiff, Nat.reduceAdd, Nat.reduceMul, Nat.reduceLT, Nat.reduceLeDiff, Nat.reducePow, Nat.reduceDiv, Nat.reduceMod, Nat.succ_ne_self, Nat.reduceBEq, Nat.reduceBNe, vint, TyS, TyF, TBS, TBF, DcS, DcF, SvS, SvF, PfS, PfF, g1, g2] <;> with_reducible rfl) (by simp only [acall, gcond, SG, Op.operands, Call.operands, Array.toList_append, LS, SS, SX, HS, mkS_cons, mkS_nil, ↓reduceIte, eq_self', List.map_nil, beq_self_eq_true, Nat.reduceEqDiff, Nat.reduceAdd, Nat.reduceMul, Nat.reduceLT, Nat.reduceLeDiff, Nat.reducePow, Nat.reduceDiv, Nat.reduceMod, Nat.succ_ne_self, Nat.reduceBEq, Nat.reduceBNe, vint, TyS, TyF, TBS, TBF, DcS, DcF, SvS, SvF, PfS, PfF, g1, g2] <;> with_reducible rfl) (by simp only [acall, gcond, SG, Op.operands, Call.operands, Array.toList_append, LS, SS, SX, HS, mkS_cons, mkS_nil, ↓reduceIte, eq_self', List.map_nil, beq_self_eq_true, Nat.reduceEqDiff, Nat.reduceAdd, Nat.reduceMul, Nat.reduceLT, Nat.reduceLeDiff, Nat.reducePow, Nat.reduceDiv, Nat.reduceMod, Nat.succ_ne_self, Nat.reduceBEq, Nat.reduceBNe, vint, TyS, TyF, TBS, TBF, DcS, DcF, SvS, SvF, PfS, PfF, g1, g2]) (by decide) Trygo23 (fun hc => equal_any b.t p.t hbw.st_t _) ?_
        refine g_end (by simp only [gsq, gs0, gs1, gs2, gcond, gop, SG, Op.operands, Call.operands, Array.toList_append, aop, LS, SS, SX, HS, mkS_cons, mkS_nil, ↓reduceIte, eq_self', List.map_nil, beq_self_eq_true, Nat.reduceEqDiff, Nat.reduceAdd, Nat.reduceMul, Nat.reduceLT, Nat.reduceLeDiff, Nat.reducePow, Nat.reduceDiv, Nat.reduceMod, Nat.succ_ne_self, Nat.reduceBEq, Nat.reduceBNe, vint, TyS, TyF, TBS, TBF, DcS, DcF, SvS, SvF, PfS, PfF, g1, g2] <;> with_reducible rfl) (by decide) (by repeat (first | exact Fin.base _ | with_reducible apply Fin.keep | apply Fin.drop)) ?_
        repeat (refine awp_seq ?_)
        -- leaf 1 ret
        refine awp_ret ⟨.inr rfl, _, rfl, ?_⟩
        have hg : sas[p.bd.toNat]? = some b := by rw [List.getElem?_eq_getElem hlt, hbe]
        simp only [LS, SS, SX, HS, mkS_cons, mkS_nil, ↓reduceIte, eq_self', List.map_nil, beq_self_eq_true, Nat.reduceEqDiff, Nat.reduceAdd, Nat.succ_ne_self, vint, TyS, TyF, TBS, TBF, DcS, DcF, SvS, SvF, PfS, PfF, isE, hg, hb]
        simp [hb]
    · -- else t14
      have him : ¬ p.im = -1 := of_decide_eq_false b0
      rw [if_neg him]
      repeat (refine awp_seq ?_)
      refine awp_skip ?_
      -- region 6
      repeat (refine awp_seq ?_)
      refine g_eval (by simp only [gsq, gs0, gs1, gs2, gcond, gop, SG, Op.operands, Call.operands, Array.toList_append, aop, afldAddr, ajust, aload, abin, abuiltin, LS, SS, SX, HS, mkS_cons, mkS_nil, ↓reduceIte, eq_self', List.map_nil, beq_self_eq_true, Nat.reduceEqDiff, Nat.reduceAdd, Nat.reduceMul, Nat.reduceLT, Nat.reduceLeDiff, Nat.reducePow, Nat.reduceDiv, Nat.reduceMod, Nat.succ_ne_self, Nat.reduceBEq, Nat.reduceBNe, Tryti3, Trytz3, Trytp3, Trytk3, Tryti59, Tryte59, Trytz59, Trytp59, Tryti63, Trytf63, Trytz63, Trytp63, Tryti71, Trytf71, Trytz71, Trytp71, vint, TyS, TyF, TBS, TBF, DcS, DcF, SvS, SvF, PfS, PfF] <;> with_reducible rfl) (by decide) (by repeat (first | exact Fin.base _ | with_reducible apply Fin.keep | apply Fin.drop)) ?_
      repeat (refine awp_seq ?_)
      refine awp_cond rfl (by simp only [LS, SS, SX, HS, mkS_cons, mkS_nil, ↓reduceIte, eq_self', List.map_nil, beq_self_eq_true, Nat.reduceEqDiff, Nat.reduceAdd, Nat.succ_ne_self, vint, TyS, TyF, TBS, TBF, DcS, DcF, SvS, SvF, PfS, PfF] <;> with_reducible rfl) (fun b2 => ?_) (fun b2 => ?_)
      · -- if t73
        refine awp_sel [] (by simp only [LS, SS, SX, HS, mkS_cons, mkS_nil, ↓reduceIte, eq_self', List.map_nil, beq_self_eq_true, Nat.reduceEqDiff, Nat.reduceAdd, Nat.succ_ne_self, vint, TyS, TyF, TBS, TBF, DcS, DcF, SvS, SvF, PfS, PfF] <;> with_reducible rfl) ?_
        -- region 7
        repeat (refine awp_seq ?_)
        refine e_eval (by simp only [asq, as0, as1, as2, awanted, aop, LS, SS, SX, HS, mkS_cons, mkS_nil, ↓reduceIte, eq_self', List.map_nil, beq_self_eq_true, Nat.reduceEqDiff, Nat.reduceAdd, Nat.reduceMul, Nat.reduceLT, Nat.reduceLeDiff, Nat.reducePow, Nat.reduceDiv, Nat.reduceMod, Nat.succ_ne_self, Nat.reduceBEq, Nat.reduceBNe, vint, TyS, TyF, TBS, TBF, DcS, DcF, SvS, SvF, PfS, PfF] <;> with_reducible rfl) (by decide) ?_
        repeat (refine awp_seq ?_)
        -- leaf 2 ret
        refine awp_ret ⟨.inr rfl, _, rfl, ?_⟩
        have hq : p.bd ≠ -1 ∨ p.im < 0 ∨ (ds.length : Int) ≤ p.im ∨ p.tr < 0 := by simp at b2; omega
        rw [if_pos hq]
        simp only [LS, SS, SX, HS, mkS_cons, mkS_nil, ↓reduceIte, eq_self', List.map_nil, beq_self_eq_true, Nat.reduceEqDiff, Nat.reduceAdd, Nat.succ_ne_self, vint, TyS, TyF, TBS, TBF, DcS, DcF, SvS, SvF, PfS, PfF]
      · -- else t73
        have hq : ¬ (p.bd ≠ -1 ∨ p.im < 0 ∨ (ds.length : Int) ≤ p.im ∨ p.tr < 0) := by simp at b2; omega
        rw [if_neg hq]
        have g1 : ((0 : Int) ≤ p.im ∧ p.im < ds.length) = True := by simp; omega
        have hlt : p.im.toNat < ds.length := by omega
        obtain ⟨d, hde⟩ : ∃ d, ds[p.im.toNat] = d := ⟨_, rfl⟩
        have g2 := get_enc Dc.enc hlt
        rw [hde] at g2
        have hgd : ds[p.im.toNat]? = some d := by rw [List.getElem?_eq_getElem hlt, hde]
        rw [hgd]
        have hW : d.W := by rw [← hde]; exact hd _ (List.getElem_mem hlt)
        have hps := hW.max_ps
        have hpa := hw.el_args
        repeat (refine awp_seq ?_)
        refine awp_skip ?_
        refine awp_sel [0, 1, 5] (by simp only [LS, SS, SX, HS, mkS_cons, mkS_nil, ↓reduceIte, eq_self', List.map_nil, beq_self_eq_true, Nat.reduceEqDiff, Nat.reduceAdd, Nat.succ_ne_self, vint, TyS, TyF, TBS, TBF, DcS, DcF, SvS, SvF, PfS, PfF] <;> with_reducible rfl) ?_
        -- region 8
        repeat (refine awp_seq ?_)
        refine e_eval (by simp only [asq, as0, as1, as2, awanted, aop, afldAddr, ajust, aload, aidxAddr, aidx, astore, splice, LS, SS, SX, HS, mkS_cons, mkS_nil, ↓reduceIte, eq_self', List.map_nil, beq_self_eq_true, Nat.reduceEqDiff, Nat.reduceAdd, Nat.reduceMul, Nat.reduceLT, Nat.reduceLeDiff, Nat.reducePow, Nat.reduceDiv, Nat.reduceMod, Nat.succ_ne_self, Nat.reduceBEq, Nat.reduceBNe, Tryti3, Trytz3, Trytp3, Trytk3, Tryti59, Tryte59, Trytz59, Trytp59, Tryti63, Trytf63, Trytz63, Trytp63, Tryti71, Trytf71, Trytz71, Trytp71, vint, TyS, TyF, TBS, TBF, DcS, DcF, SvS, SvF, PfS, PfF, g1, g2] <;> with_reducible rfl) (by decide) ?_
        -- region 9
        repeat (refine awp_seq ?_)
        refine awp_drawW 0 (by kernel_rfl) ?_
        refine dops_gstart ?_
        refine gd_take (bm := [0, 1, 0, 4, 15, 31, 63, 127, 255, 63, 575, 1599, 4095, 8191, 16383, 32767, 65535, 131071, 32767, 294911, 819199, 2097151, 4194303, 8388607, 16777215, 33554431, 16777215, 83886079, 16777215, 285212671, 1073741823, 16777215, 2164260863, 8589934591, 17179869183, 34359738367]) 30 (fresh := 0) (by kernel_rfl) (by simp only [gdq, gd0, gd1, gd2, gd3, gcond, gop, SG, Op.operands, Call.operands, Array.toList_append, hapB, effIds, effSet, nextFresh, ard, freshOk, isUnborn, aop, afldAddr, ajust, aload, abin, abuiltin, LS, SS, SX, HS, mkS_cons, mkS_nil, ↓reduceIte, eq_self', List.map_nil, beq_self_eq_true, Nat.reduceEqDiff, Nat.reduceAdd, Nat.reduceMul, Nat.reduceLT, Nat.reduceLeDiff, Nat.reducePow, Nat.reduceDiv, Nat.reduceMod, Nat.succ_ne_self, Nat.reduceBEq, Nat.reduceBNe, Tryti3, Trytz3, Trytp3, Trytk3, Tryti22, Tryte22, Trytz22, Trytp22, Tryti24, Trytf24, Trytz24, Trytp24, Tryti25, Tryte25, Trytz25, Trytp25, Tryti60, Tryte60, Trytz60, Trytp60, Tryti61, Tryte61, Trytz61, Trytp61, Tryti63, Trytf63, Trytz63, Trytp63, Tryti71, Trytf71, Trytz71, Trytp71, Tryti74, Trytf74, Trytz74, Trytp74, vint, TyS, TyF, TBS, TBF, DcS, DcF, SvS, SvF, PfS, PfF] <;> with_reducible rfl) (by decide) (by decide) ?_
        refine dops_gkeep (bm := [0, 1, 0, 4, 15, 31, 63, 127, 255, 63, 575, 1599, 4095, 8191, 16383, 32767, 65535, 131071, 32767, 294911, 819199, 2097151, 4194303, 8388607, 16777215, 33554431, 16777215, 83886079, 16777215, 285212671, 1073741823, 16777215, 2164260863, 8589934591, 17179869183, 34359738367]) ([]) (by kernel_rfl) (by simp only [acall, gcond, SG, Op.operands, Call.operands, Array.toList_append, LS, SS, SX, HS, mkS_cons, mkS_nil, ↓reduceIte, eq_self', List.map_nil, beq_self_eq_true, Nat.reduceEqDiff, Nat.reduceAdd, Nat.reduceMul, Nat.reduceLT, Nat.reduceLeDiff, Nat.reducePow, Nat.reduceDiv, Nat.reduceMod, Nat.succ_ne_self, Nat.reduceBEq, Nat.reduceBNe, vint, TyS, TyF, TBS, TBF, DcS, DcF, SvS, SvF, PfS, PfF] <;> with_reducible rfl) (by simp only [acall, gcond, SG, Op.operands, Call.operands, Array.toList_append, LS, SS, SX, HS, mkS_cons, mkS_nil, ↓reduceIte, eq_self', List.map_nil, beq_self_eq_true, Nat.reduceEqDiff, Nat.reduceAdd, Nat.reduceMul, Nat.reduceLT, Nat.reduceLeDiff, Nat.reducePow, Nat.reduceDiv, Nat.reduceMod, Nat.succ_ne_self, Nat.reduceBEq, Nat.reduceBNe, vint, TyS, TyF, TBS, TBF, DcS, DcF, SvS, SvF, PfS, PfF] <;> with_reducible rfl) (by simp only [acall, gcond, SG, Op.operands, Call.operands, Array.toList_append, LS, SS, SX, HS, mkS_cons, mkS_nil, ↓reduceIte, eq_self', List.map_nil, beq_self_eq_true, Nat.reduceEqDiff, Nat.reduceAdd, Nat.reduceMul, Nat.reduceLT, Nat.reduceLeDiff, Nat.reducePow, Nat.reduceDiv, Nat.reduceMod, Nat.succ_ne_self, Nat.reduceBEq, Nat.reduceBNe, vint, TyS, TyF, TBS, TBF, DcS, DcF, SvS, SvF, PfS, PfF]) (by decide) Trygo24 (fun hc => fun H' _ => apply_c d.t d.ps p.args hW.st_t hps hpa H') (by simp only [gdq, gd0, gd1, gd2, gd3, gcond, gop, SG, Op.operands, Call.operands, Array.toList_append, hapB, effIds, effSet, nextFresh, ard, freshOk, isUnborn, aop, LS, SS, SX, HS, mkS_cons, mkS_nil, ↓reduceIte, eq_self', List.map_nil, beq_self_eq_true, Nat.reduceEqDiff, Nat.reduceAdd, Nat.reduceMul, Nat.reduceLT, Nat.reduceLeDiff, Nat.reducePow, Nat.reduceDiv, Nat.reduceMod, Nat.succ_ne_self, Nat.reduceBEq, Nat.reduceBNe, vint, TyS, TyF, TBS, TBF, DcS, DcF, SvS, SvF, PfS, PfF] <;> first | done | rfl) ?_
        refine gd_take (bm := [0, 1, 0, 4, 15, 31, 63, 127, 255, 63, 575, 1599, 4095, 8191, 16383, 32767, 65535, 131071, 32767, 294911, 819199, 2097151, 4194303, 8388607, 16777215, 33554431, 16777215, 83886079, 16777215, 285212671, 1073741823, 16777215, 2164260863, 8589934591, 17179869183, 34359738367]) 2 (fresh := 0) (by kernel_rfl) (by simp only [gdq, gd0, gd1, gd2, gd3, gcond, gop, SG, Op.operands, Call.operands, Array.toList_append, hapB, effIds, effSet, nextFresh, ard, freshOk, isUnborn, aop, afldAddr, ajust, aload, LS, SS, SX, HS, mkS_cons, mkS_nil, ↓reduceIte, eq_self', List.map_nil, beq_self_eq_true, Nat.reduceEqDiff, Nat.reduceAdd, Nat.reduceMul, Nat.reduceLT, Nat.reduceLeDiff, Nat.reducePow, Nat.reduceDiv, Nat.reduceMod, Nat.succ_ne_self, Nat.reduceBEq, Nat.reduceBNe, Tryti24, Trytf24, Trytz24, Trytp24, Tryti63, Trytf63, Trytz63, Trytp63, vint, TyS, TyF, TBS, TBF, DcS, DcF, SvS, SvF, PfS, PfF] <;> with_reducible rfl) (by decide) (by decide) ?_
        refine dops_gkeep (bm := [0, 1, 0, 4, 15, 31, 63, 127, 255, 63, 575, 1599, 4095, 8191, 16383, 32767, 65535, 131071, 32767, 294911, 819199, 2097151, 4194303, 8388607, 16777215, 33554431, 16777215, 83886079, 16777215, 285212671, 1073741823, 16777215, 2164260863, 8589934591, 17179869183, 34359738367]) ([]) (by kernel_rfl) (by simp only [acall, gcond, SG, Op.operands, Call.operands, Array.toList_append, LS, SS, SX, HS, mkS_cons, mkS_nil, ↓reduceIte, eq_self', List.map_nil, beq_self_eq_true, Nat.reduceEqDiff, Nat.reduceAdd, Nat.reduceMul, Nat.reduceLT, Nat.reduceLeDiff, Nat.reducePow, Nat.reduceDiv, Nat.reduceMod, Nat.succ_ne_self, Nat.reduceBEq, Nat.reduceBNe, vint, TyS, TyF, TBS, TBF, DcS, DcF, SvS, SvF, PfS, PfF] <;> with_reducible rfl) (by simp only [acall, gcond, SG, Op.operands, Call.operands, Array.toList_append, LS, SS, SX, HS, mkS_cons, mkS_nil, ↓reduceIte, eq_self', List.map_nil, beq_self_eq_true, Nat.reduceEqDiff, Nat.reduceAdd, Nat.reduceMul, Nat.reduceLT, Nat.reduceLeDiff, Nat.reducePow, Nat.reduceDiv, Nat.reduceMod, Nat.succ_ne_self, Nat.reduceBEq, Nat.reduceBNe, vint, TyS, TyF, TBS, TBF, DcS, DcF, SvS, SvF, PfS, PfF] <;> with_reducible rfl) (by simp only [acall, gcond, SG, Op.operands, Call.operands, Array.toList_append, LS, SS, SX, HS, mkS_cons, mkS_nil, ↓reduceIte, eq_self', List.map_nil, beq_self_eq_true, Nat.reduceEqDiff, Nat.reduceAdd, Nat.reduceMul, Nat.reduceLT, Nat.reduceLeDiff, Nat.reducePow, Nat.reduceDiv, Nat.reduceMod, Nat.succ_ne_self, Nat.reduceBEq, Nat.reduceBNe, vint, TyS, TyF, TBS, TBF, DcS, DcF, SvS, SvF, PfS, PfF]) (by decide) Trygo23 (fun hc => fun H' _ => equal_any (mapT (appG d.ps p.args) d.t) p.t (app_W hpa hW.st_t) H') (by simp only [gdq, gd0, gd1, gd2, gd3, gcond, gop, SG, Op.operands, Call.operands, Array.toList_append, hapB, effIds, effSet, nextFresh, ard, freshOk, isUnborn, aop, LS, SS, SX, HS, mkS_cons, mkS_nil, ↓reduceIte, eq_self', List.map_nil, beq_self_eq_true, Nat.reduceEqDiff, Nat.reduceAdd, Nat.reduceMul, Nat.reduceLT, Nat.reduceLeDiff, Nat.reducePow, Nat.reduceDiv, Nat.reduceMod, Nat.succ_ne_self, Nat.reduceBEq, Nat.reduceBNe, vint, TyS, TyF, TBS, TBF, DcS, DcF, SvS, SvF, PfS, PfF] <;> first | done | rfl) ?_
        refine gd_end (bm := [0, 1, 0, 4, 15, 31, 63, 127, 255, 63, 575, 1599, 4095, 8191, 16383, 32767, 65535, 131071, 32767, 294911, 819199, 2097151, 4194303, 8388607, 16777215, 33554431, 16777215, 83886079, 16777215, 285212671, 1073741823, 16777215, 2164260863, 8589934591, 17179869183, 34359738367]) (fresh := 0) (by kernel_rfl) (by simp only [gdq, gd0, gd1, gd2, gd3, gcond, gop, SG, Op.operands, Call.operands, Array.toList_append, hapB, effIds, effSet, nextFresh, ard, freshOk, isUnborn, aop, aun, ajust, LS, SS, SX, HS, mkS_cons, mkS_nil, ↓reduceIte, eq_self', List.map_nil, beq_self_eq_true, Nat.reduceEqDiff, Nat.reduceAdd, Nat.reduceMul, Nat.reduceLT, Nat.reduceLeDiff, Nat.reducePow, Nat.reduceDiv, Nat.reduceMod, Nat.succ_ne_self, Nat.reduceBEq, Nat.reduceBNe, vint, TyS, TyF, TBS, TBF, DcS, DcF, SvS, SvF, PfS, PfF] <;> with_reducible rfl) (by decide) (by repeat (first | exact Fin.base _ | with_reducible apply Fin.keep | apply Fin.drop)) ?_
        repeat (refine awp_seq ?_)
        refine awp_cond rfl (by simp only [LS, SS, SX, HS, mkS_cons, mkS_nil, ↓reduceIte, eq_self', List.map_nil, beq_self_eq_true, Nat.reduceEqDiff, Nat.reduceAdd, Nat.succ_ne_self, vint, TyS, TyF, TBS, TBF, DcS, DcF, SvS, SvF, PfS, PfF] <;> with_reducible rfl) (fun b3 => ?_) (fun b3 => ?_)
        · -- if t114
          refine awp_sel [] (by simp only [LS, SS, SX, HS, mkS_cons, mkS_nil, ↓reduceIte, eq_self', List.map_nil, beq_self_eq_true, Nat.reduceEqDiff, Nat.reduceAdd, Nat.succ_ne_self, vint, TyS, TyF, TBS, TBF, DcS, DcF, SvS, SvF, PfS, PfF] <;> with_reducible rfl) ?_
          -- region 10
          repeat (refine awp_seq ?_)
          refine e_eval (by simp only [asq, as0, as1, as2, awanted, aop, LS, SS, SX, HS, mkS_cons, mkS_nil, ↓reduceIte, eq_self', List.map_nil, beq_self_eq_true, Nat.reduceEqDiff, Nat.reduceAdd, Nat.reduceMul, Nat.reduceLT, Nat.reduceLeDiff, Nat.reducePow, Nat.reduceDiv, Nat.reduceMod, Nat.succ_ne_self, Nat.reduceBEq, Nat.reduceBNe, vint, TyS, TyF, TBS, TBF, DcS, DcF, SvS, SvF, PfS, PfF] <;> with_reducible rfl) (by decide) ?_
          repeat (refine awp_seq ?_)
          -- leaf 3 ret
          refine awp_ret ⟨.inr rfl, _, rfl, ?_⟩
          simp only [LS, SS, SX, HS, mkS_cons, mkS_nil, ↓reduceIte, eq_self', List.map_nil, beq_self_eq_true, Nat.reduceEqDiff, Nat.reduceAdd, Nat.succ_ne_self, vint, TyS, TyF, TBS, TBF, DcS, DcF, SvS, SvF, PfS, PfF]
          congr 1
          grind
        · -- else t114
          have hq2 : d.tr = p.tr ∧ p.args.length = d.ps.length ∧ p.prems.length = d.bs.length ∧ (mapT (appG d.ps p.args) d.t).eqb p.t = true := by simp at b3; grind
          repeat (refine awp_seq ?_)
          refine awp_skip ?_
          refine awp_sel [0, 1, 5, 8] (by simp only [LS, SS, SX, HS, mkS_cons, mkS_nil, ↓reduceIte, eq_self', List.map_nil, beq_self_eq_true, Nat.reduceEqDiff, Nat.reduceAdd, Nat.succ_ne_self, vint, TyS, TyF, TBS, TBF, DcS, DcF, SvS, SvF, PfS, PfF] <;> with_reducible rfl) ?_
          -- region 11
          repeat (refine awp_seq ?_)
          refine e_eval (by simp only [asq, as0, as1, as2, awanted, aop, afldAddr, ajust, aload, abuiltin, LS, SS, SX, HS, mkS_cons, mkS_nil, ↓reduceIte, eq_self', List.map_nil, beq_self_eq_true, Nat.reduceEqDiff, Nat.reduceAdd, Nat.reduceMul, Nat.reduceLT, Nat.reduceLeDiff, Nat.reducePow, Nat.reduceDiv, Nat.reduceMod, Nat.succ_ne_self, Nat.reduceBEq, Nat.reduceBNe, Tryti60, Tryte60, Trytz60, Trytp60, Tryti71, Trytf71, Trytz71, Trytp71, Tryti74, Trytf74, Trytz74, Trytp74, vint, TyS, TyF, TBS, TBF, DcS, DcF, SvS, SvF, PfS, PfF] <;> with_reducible rfl) (by decide) ?_
          repeat (refine awp_seq ?_)
          refine awp_forS (σ := Unit) (d.bs.length) (fun (s : Unit) => [(0, .slice (ds.map Dc.enc) .none), (1, .slice (sas.map TB.enc) .none), (5, .optr 0 0), (8, .optr 1 0), (116, .slice (d.bs.map TB.enc) .none)]) [0, 1, 5, 8, 116] ([]) (fun (s : Unit) => [.row p.enc.cells, .row d.enc.cells]) (fun (i : Nat) (s : Unit) => ((d.bs.zip p.prems).take i).all (fun x : TB × Pf => decide (x.2.tr = x.1.tr) && x.2.t.eqb (mapT (appG d.ps p.args) x.1.t) && checkT ds sas k x.2) = true) (()) ([]) rfl rfl rfl rfl rfl rfl rfl rfl rfl (by decide) (by decide) (by decide) (fun _ => rfl) (hW.max_bs) ⟨(by first | rfl | (simp only [LS, SS, SX, HS, mkS_cons, mkS_nil, ↓reduceIte, eq_self', List.map_nil, beq_self_eq_true, Nat.reduceEqDiff, Nat.reduceAdd, Nat.succ_ne_self, vint, TyS, TyF, TBS, TBF, DcS, DcF, SvS, SvF, PfS, PfF] <;> first | done | with_reducible rfl)), (by first | rfl | (simp only [LS, SS, SX, HS, mkS_cons, mkS_nil, ↓reduceIte, eq_self', List.map_nil, beq_self_eq_true, Nat.reduceEqDiff, Nat.reduceAdd, Nat.succ_ne_self, vint, TyS, TyF, TBS, TBF, DcS, DcF, SvS, SvF, PfS, PfF] <;> first | done | with_reducible rfl)), (by first | rfl | (simp only [LS, SS, SX, HS, mkS_cons, mkS_nil, ↓reduceIte, eq_self', List.map_nil, beq_self_eq_true, Nat.reduceEqDiff, Nat.reduceAdd, Nat.succ_ne_self, vint, TyS, TyF, TBS, TBF, DcS, DcF, SvS, SvF, PfS, PfF] <;> first | done | with_reducible rfl)), (by first | rfl | (simp only [LS, SS, SX, HS, mkS_cons, mkS_nil, ↓reduceIte, eq_self', List.map_nil, beq_self_eq_true, Nat.reduceEqDiff, Nat.reduceAdd, Nat.succ_ne_self, vint, TyS, TyF, TBS, TBF, DcS, DcF, SvS, SvF, PfS, PfF] <;> first | done | with_reducible rfl)), (by first | rfl | (simp only [LS, SS, SX, HS, mkS_cons, mkS_nil, ↓reduceIte, eq_self', List.map_nil, beq_self_eq_true, Nat.reduceEqDiff, Nat.reduceAdd, Nat.succ_ne_self, vint, TyS, TyF, TBS, TBF, DcS, DcF, SvS, SvF, PfS, PfF] <;> first | done | with_reducible rfl)), (by first | rfl | (simp only [LS, SS, SX, HS, mkS_cons, mkS_nil, ↓reduceIte, eq_self', List.map_nil, beq_self_eq_true, Nat.reduceEqDiff, Nat.reduceAdd, Nat.succ_ne_self, vint, TyS, TyF, TBS, TBF, DcS, DcF, SvS, SvF, PfS, PfF] <;> first | done | with_reducible rfl)), (by first | rfl | (simp only [LS, SS, SX, HS, mkS_cons, mkS_nil, ↓reduceIte, eq_self', List.map_nil, beq_self_eq_true, Nat.reduceEqDiff, Nat.reduceAdd, Nat.succ_ne_self, vint, TyS, TyF, TBS, TBF, DcS, DcF, SvS, SvF, PfS, PfF] <;> first | done | with_reducible rfl)), trivial⟩ (by first | rfl | (simp only [LS, SS, SX, HS, mkS_cons, mkS_nil, ↓reduceIte, eq_self', List.map_nil, beq_self_eq_true, Nat.reduceEqDiff, Nat.reduceAdd, Nat.succ_ne_self, vint, TyS, TyF, TBS, TBF, DcS, DcF, SvS, SvF, PfS, PfF] <;> first | done | with_reducible rfl)) (by simp) (fun _ _ _ => by first | exact Nat.zero_le _ | (simp only [List.length_append]; omega)) ?_ ?_ ?_
          · exact fun i s hg => ⟨by simp only [PfS, DcS, List.nil_append]; repeat (first | exact hbel_nil _ | exact trivial | exact obel_row_nil _ | (refine HBel.cons ?_ ?_) | (refine obel_row_cons (by first | exact bel_TB _ _ | exact TB.bel _ _ | exact bel_Dc _ _ | exact Dc.bel _ _ | exact Pf.bel _ _ | exact bel_Pf _ _ | exact Sv.bel _ _ | exact bel_Pf_tok _ (by simp) | exact bel_ints0 _ _ | exact bel_slice_ty _ _ | exact Ty.bel _ _ | exact bel_ty_tok _ (by simp) | exact Bel.int _ _ | exact Bel.bool _ | exact Bel.str _ | exact Bel.nilp | exact Bel.nilfn | exact Bel.optr _ _ (by simp) | exact bel_nil0 _ | exact bel_nil1 _ | exact bel_fn0 _ _ | assumption) ?_)), by repeat (first | exact BelL.nil | refine BelL.cons (by first | exact bel_TB _ _ | exact TB.bel _ _ | exact bel_Dc _ _ | exact Dc.bel _ _ | exact Pf.bel _ _ | exact bel_Pf _ _ | exact Sv.bel _ _ | exact bel_Pf_tok _ (by simp) | exact bel_ints0 _ _ | exact bel_slice_ty _ _ | exact Ty.bel _ _ | exact bel_ty_tok _ (by simp) | exact Bel.int _ _ | exact Bel.bool _ | exact Bel.str _ | exact Bel.nilp | exact Bel.nilfn | exact Bel.optr _ _ (by simp) | exact bel_nil0 _ | exact bel_nil1 _ | exact bel_fn0 _ _ | assumption) ?_)⟩
          · intro i s hi hg
            have g3 := ix_nat hi
            have g4 := get_enc TB.enc hi
            have hip : i < p.prems.length := by omega
            have g5 := ix_nat hip
            have g6 := get_enc Pf.enc hip
            have hbw := hW.el_bs _ (List.getElem_mem hi)
            have hmem : p.prems[i] ∈ p.prems := List.getElem_mem hip
            have hqw := hw.prems hmem
            have hqs := Pf.size_prems hmem
            obtain ⟨b, hbe⟩ : ∃ b, d.bs[i] = b := ⟨_, rfl⟩
            obtain ⟨q, hqe⟩ : ∃ q, p.prems[i] = q := ⟨_, rfl⟩
            rw [hbe] at g4 hbw
            rw [hqe] at g6 hqw hqs
            have hz : (d.bs.zip p.prems)[i]'(by simp; omega) = (b, q) := by simp [hbe, hqe]
            -- region 13
            repeat (refine awp_seq ?_)
            refine e_eval (by simp only [asq, as0, as1, as2, awanted, aop, aidxAddr, aidx, ajust, aload, astore, splice, LS, SS, SX, HS, mkS_cons, mkS_nil, ↓reduceIte, eq_self', List.map_nil, beq_self_eq_true, Nat.reduceEqDiff, Nat.reduceAdd, Nat.reduceMul, Nat.reduceLT, Nat.reduceLeDiff, Nat.reducePow, Nat.reduceDiv, Nat.reduceMod, Nat.succ_ne_self, Nat.reduceBEq, Nat.reduceBNe, Tryti60, Tryte60, Trytz60, Trytp60, Tryti74, Trytf74, Trytz74, Trytp74, vint, TyS, TyF, TBS, TBF, DcS, DcF, SvS, SvF, PfS, PfF, g3, g4, g5, g6, Int.toNat_natCast] <;> with_reducible rfl) (by decide) ?_
            -- region 14
            repeat (refine awp_seq ?_)
            refine e_eval (by simp only [asq, as0, as1, as2, awanted, aop, afldAddr, ajust, aload, aidxAddr, aidx, astore, splice, LS, SS, SX, HS, mkS_cons, mkS_nil, ↓reduceIte, eq_self', List.map_nil, beq_self_eq_true, Nat.reduceEqDiff, Nat.reduceAdd, Nat.reduceMul, Nat.reduceLT, Nat.reduceLeDiff, Nat.reducePow, Nat.reduceDiv, Nat.reduceMod, Nat.succ_ne_self, Nat.reduceBEq, Nat.reduceBNe, Tryti61, Tryte61, Trytz61, Trytp61, Tryti63, Trytf63, Trytz63, Trytp63, vint, TyS, TyF, TBS, TBF, DcS, DcF, SvS, SvF, PfS, PfF, g3, g4, g5, g6, Int.toNat_natCast] <;> with_reducible rfl) (by decide) ?_
            -- region 15
            repeat (refine awp_seq ?_)
            refine awp_drawW 0 (by kernel_rfl) ?_
            refine dops_gstart ?_
            refine gd_take (bm := [0, 1, 0, 4, 15, 31, 63, 127, 63, 319, 63, 1087, 63, 4159, 16191, 32767, 65535, 131071, 262143, 524287, 524287, 524287, 4194303, 8388607, 16777215]) 14 (fresh := 0) (by kernel_rfl) (by simp only [gdq, gd0, gd1, gd2, gd3, gcond, gop, SG, Op.operands, Call.operands, Array.toList_append, hapB, effIds, effSet, nextFresh, ard, freshOk, isUnborn, aop, afldAddr, ajust, aload, abin, LS, SS, SX, HS, mkS_cons, mkS_nil, ↓reduceIte, eq_self', List.map_nil, beq_self_eq_true, Nat.reduceEqDiff, Nat.reduceAdd, Nat.reduceMul, Nat.reduceLT, Nat.reduceLeDiff, Nat.reducePow, Nat.reduceDiv, Nat.reduceMod, Nat.succ_ne_self, Nat.reduceBEq, Nat.reduceBNe, Tryti3, Trytz3, Trytp3, Trytk3, Tryti22, Tryte22, Trytz22, Trytp22, Tryti24, Trytf24, Trytz24, Trytp24, Tryti25, Tryte25, Trytz25, Trytp25, Tryti63, Trytf63, Trytz63, Trytp63, Tryti71, Trytf71, Trytz71, Trytp71, Tryti74, Trytf74, Trytz74, Trytp74, vint, TyS, TyF, TBS, TBF, DcS, DcF, SvS, SvF, PfS, PfF, g3, g4, g5, g6, Int.toNat_natCast] <;> with_reducible rfl) (by decide) (by decide) ?_
            refine dops_gkeep (bm := [0, 1, 0, 4, 15, 31, 63, 127, 63, 319, 63, 1087, 63, 4159, 16191, 32767, 65535, 131071, 262143, 524287, 524287, 524287, 4194303, 8388607, 16777215]) ([]) (by kernel_rfl) (by simp only [acall, gcond, SG, Op.operands, Call.operands, Array.toList_append, LS, SS, SX, HS, mkS_cons, mkS_nil, ↓reduceIte, eq_self', List.map_nil, beq_self_eq_true, Nat.reduceEqDiff, Nat.reduceAdd, Nat.reduceMul, Nat.reduceLT, Nat.reduceLeDiff, Nat.reducePow, Nat.reduceDiv, Nat.reduceMod, Nat.succ_ne_self, Nat.reduceBEq, Nat.reduceBNe, vint, TyS, TyF, TBS, TBF, DcS, DcF, SvS, SvF, PfS, PfF, g3, g4, g5, g6, Int.toNat_natCast] <;> with_reducible rfl) (by simp only [acall, gcond, SG, Op.operands, Call.operands, Array.toList_append, LS, SS, SX, HS, mkS_cons, mkS_nil, ↓reduceIte, eq_self', List.map_nil, beq_self_eq_true, Nat.reduceEqDiff, Nat.reduceAdd, Nat.reduceMul, Nat.reduceLT, Nat.reduceLeDiff, Nat.reducePow, Nat.reduceDiv, Nat.reduceMod, Nat.succ_ne_self, Nat.reduceBEq, Nat.reduceBNe, vint, TyS, TyF, TBS, TBF, DcS, DcF, SvS, SvF, PfS, PfF, g3, g4, g5, g6, Int.toNat_natCast] <;> with_reducible rfl) (by simp only [acall, gcond, SG, Op.operands, Call.operands, Array.toList_append, LS, SS, SX, HS, mkS_cons, mkS_nil, ↓reduceIte, eq_self', List.map_nil, beq_self_eq_true, Nat.reduceEqDiff, Nat.reduceAdd, Nat.reduceMul, Nat.reduceLT, Nat.reduceLeDiff, Nat.reducePow, Nat.reduceDiv, Nat.reduceMod, Nat.succ_ne_self, Nat.reduceBEq, Nat.reduceBNe, vint, TyS, TyF, TBS, TBF, DcS, DcF, SvS, SvF, PfS, PfF, g3, g4, g5, g6, Int.toNat_natCast]) (by decide) Trygo24 (fun hc => fun H' _ => apply_c b.t d.ps p.args hbw.st_t hps hpa H') (by simp only [gdq, gd0, gd1, gd2, gd3, gcond, gop, SG, Op.operands, Call.operands, Array.toList_append, hapB, effIds, effSet, nextFresh, ard, freshOk, isUnborn, aop, LS, SS, SX, HS, mkS_cons, mkS_nil, ↓reduceIte, eq_self', List.map_nil, beq_self_eq_true, Nat.reduceEqDiff, Nat.reduceAdd, Nat.reduceMul, Nat.reduceLT, Nat.reduceLeDiff, Nat.reducePow, Nat.reduceDiv, Nat.reduceMod, Nat.succ_ne_self, Nat.reduceBEq, Nat.reduceBNe, vint, TyS, TyF, TBS, TBF, DcS, DcF, SvS, SvF, PfS, PfF, g3, g4, g5, g6, Int.toNat_natCast] <;> first | done | rfl) ?_
            refine dops_gkeep (bm := [0, 1, 0, 4, 15, 31, 63, 127, 63, 319, 63, 1087, 63, 4159, 16191, 32767, 65535, 131071, 262143, 524287, 524287, 524287, 4194303, 8388607, 16777215]) ([]) (by kernel_rfl) (by simp only [acall, gcond, SG, Op.operands, Call.operands, Array.toList_append, LS, SS, SX, HS, mkS_cons, mkS_nil, ↓reduceIte, eq_self', List.map_nil, beq_self_eq_true, Nat.reduceEqDiff, Nat.reduceAdd, Nat.reduceMul, Nat.reduceLT, Nat.reduceLeDiff, Nat.reducePow, Nat.reduceDiv, Nat.reduceMod, Nat.succ_ne_self, Nat.reduceBEq, Nat.reduceBNe, vint, TyS, TyF, TBS, TBF, DcS, DcF, SvS, SvF, PfS, PfF, g3, g4, g5, g6, Int.toNat_natCast] <;> with_reducible rfl) (by simp only [acall, gcond, SG, Op.operands, Call.operands, Array.toList_append, LS, SS, SX, HS, mkS_cons, mkS_nil, ↓reduceIte, eq_self', List.map_nil, beq_self_eq_true, Nat.reduceEqDiff, Nat.reduceAdd, Nat.reduceMul, Nat.reduceLT, Nat.reduceLeDiff, Nat.reducePow, Nat.reduceDiv, Nat.reduceMod, Nat.succ_ne_self, Nat.reduceBEq, Nat.reduceBNe, vint, TyS, TyF, TBS, TBF, DcS, DcF, SvS, SvF, PfS, PfF, g3, g4, g5, g6, Int.toNat_natCast] <;> with_reducible rfl) (by simp only [acall, gcond, SG, Op.operands, Call.operands, Array.toList_append, LS, SS, SX, HS, mkS_cons, mkS_nil, ↓reduceIte, eq_self', List.map_nil, beq_self_eq_true, Nat.reduceEqDiff, Nat.reduceAdd, Nat.reduceMul, Nat.reduceLT, Nat.reduceLeDiff, Nat.reducePow, Nat.reduceDiv, Nat.reduceMod, Nat.succ_ne_self, Nat.reduceBEq, Nat.reduceBNe, vint, TyS, TyF, TBS, TBF, DcS, DcF, SvS, SvF, PfS, PfF, g3, g4, g5, g6, Int.toNat_natCast]) (by decide) Trygo23 (fun hc => fun H' _ => equal_any q.t (mapT (appG d.ps p.args) b.t) hqw.st_t H') (by simp only [gdq, gd0, gd1, gd2, gd3, gcond, gop, SG, Op.operands, Call.operands, Array.toList_append, hapB, effIds, effSet, nextFresh, ard, freshOk, isUnborn, aop, LS, SS, SX, HS, mkS_cons, mkS_nil, ↓reduceIte, eq_self', List.map_nil, beq_self_eq_true, Nat.reduceEqDiff, Nat.reduceAdd, Nat.reduceMul, Nat.reduceLT, Nat.reduceLeDiff, Nat.reducePow, Nat.reduceDiv, Nat.reduceMod, Nat.succ_ne_self, Nat.reduceBEq, Nat.reduceBNe, vint, TyS, TyF, TBS, TBF, DcS, DcF, SvS, SvF, PfS, PfF, g3, g4, g5, g6, Int.toNat_natCast] <;> first | done | rfl) ?_
            refine gd_take (bm := [0, 1, 0, 4, 15, 31, 63, 127, 63, 319, 63, 1087, 63, 4159, 16191, 32767, 65535, 131071, 262143, 524287, 524287, 524287, 4194303, 8388607, 16777215]) 6 (fresh := 0) (by kernel_rfl) (by simp only [gdq, gd0, gd1, gd2, gd3, gcond, gop, SG, Op.operands, Call.operands, Array.toList_append, hapB, effIds, effSet, nextFresh, ard, freshOk, isUnborn, aop, aun, ajust, aload, LS, SS, SX, HS, mkS_cons, mkS_nil, ↓reduceIte, eq_self', List.map_nil, beq_self_eq_true, Nat.reduceEqDiff, Nat.reduceAdd, Nat.reduceMul, Nat.reduceLT, Nat.reduceLeDiff, Nat.reducePow, Nat.reduceDiv, Nat.reduceMod, Nat.succ_ne_self, Nat.reduceBEq, Nat.reduceBNe, Tryti63, Trytf63, Trytz63, Trytp63, vint, TyS, TyF, TBS, TBF, DcS, DcF, SvS, SvF, PfS, PfF, g3, g4, g5, g6, Int.toNat_natCast] <;> with_reducible rfl) (by decide) (by decide) ?_
            refine dops_gkeep (bm := [0, 1, 0, 4, 15, 31, 63, 127, 63, 319, 63, 1087, 63, 4159, 16191, 32767, 65535, 131071, 262143, 524287, 524287, 524287, 4194303, 8388607, 16777215]) ([]) (by kernel_rfl) (by simp only [acall, gcond, SG, Op.operands, Call.operands, Array.toList_append, LS, SS, SX, HS, mkS_cons, mkS_nil, ↓reduceIte, eq_self', List.map_nil, beq_self_eq_true, Nat.reduceEqDiff, Nat.reduceAdd, Nat.reduceMul, Nat.reduceLT, Nat.reduceLeDiff, Nat.reducePow, Nat.reduceDiv, Nat.reduceMod, Nat.succ_ne_self, Nat.reduceBEq, Nat.reduceBNe, vint, TyS, TyF, TBS, TBF, DcS, DcF, SvS, SvF, PfS, PfF, g3, g4, g5, g6, Int.toNat_natCast] <;> with_reducible rfl) (by simp only [acall, gcond, SG, Op.operands, Call.operands, Array.toList_append, LS, SS, SX, HS, mkS_cons, mkS_nil, ↓reduceIte, eq_self', List.map_nil, beq_self_eq_true, Nat.reduceEqDiff, Nat.reduceAdd, Nat.reduceMul, Nat.reduceLT, Nat.reduceLeDiff, Nat.reducePow, Nat.reduceDiv, Nat.reduceMod, Nat.succ_ne_self, Nat.reduceBEq, Nat.reduceBNe, vint, TyS, TyF, TBS, TBF, DcS, DcF, SvS, SvF, PfS, PfF, g3, g4, g5, g6, Int.toNat_natCast] <;> with_reducible rfl) (by simp only [acall, gcond, SG, Op.operands, Call.operands, Array.toList_append, LS, SS, SX, HS, mkS_cons, mkS_nil, ↓reduceIte, eq_self', List.map_nil, beq_self_eq_true, Nat.reduceEqDiff, Nat.reduceAdd, Nat.reduceMul, Nat.reduceLT, Nat.reduceLeDiff, Nat.reducePow, Nat.reduceDiv, Nat.reduceMod, Nat.succ_ne_self, Nat.reduceBEq, Nat.reduceBNe, vint, TyS, TyF, TBS, TBF, DcS, DcF, SvS, SvF, PfS, PfF, g3, g4, g5, g6, Int.toNat_natCast]) (by decide) Trygo48 (fun hc => fun H' _ => check_k ds sas hl hd hsl hs k q (by omega) hqw H') (by simp only [gdq, gd0, gd1, gd2, gd3, gcond, gop, SG, Op.operands, Call.operands, Array.toList_append, hapB, effIds, effSet, nextFresh, ard, freshOk, isUnborn, aop, LS, SS, SX, HS, mkS_cons, mkS_nil, ↓reduceIte, eq_self', List.map_nil, beq_self_eq_true, Nat.reduceEqDiff, Nat.reduceAdd, Nat.reduceMul, Nat.reduceLT, Nat.reduceLeDiff, Nat.reducePow, Nat.reduceDiv, Nat.reduceMod, Nat.succ_ne_self, Nat.reduceBEq, Nat.reduceBNe, vint, TyS, TyF, TBS, TBF, DcS, DcF, SvS, SvF, PfS, PfF, g3, g4, g5, g6, Int.toNat_natCast] <;> first | done | rfl) ?_
            refine gd_end (bm := [0, 1, 0, 4, 15, 31, 63, 127, 63, 319, 63, 1087, 63, 4159, 16191, 32767, 65535, 131071, 262143, 524287, 524287, 524287, 4194303, 8388607, 16777215]) (fresh := 0) (by kernel_rfl) (by simp only [gdq, gd0, gd1, gd2, gd3, gcond, gop, SG, Op.operands, Call.operands, Array.toList_append, hapB, effIds, effSet, nextFresh, ard, freshOk, isUnborn, aop, aun, ajust, LS, SS, SX, HS, mkS_cons, mkS_nil, ↓reduceIte, eq_self', List.map_nil, beq_self_eq_true, Nat.reduceEqDiff, Nat.reduceAdd, Nat.reduceMul, Nat.reduceLT, Nat.reduceLeDiff, Nat.reducePow, Nat.reduceDiv, Nat.reduceMod, Nat.succ_ne_self, Nat.reduceBEq, Nat.reduceBNe, vint, TyS, TyF, TBS, TBF, DcS, DcF, SvS, SvF, PfS, PfF, g3, g4, g5, g6, Int.toNat_natCast] <;> with_reducible rfl) (by decide) (by repeat (first | exact Fin.base _ | with_reducible apply Fin.keep | apply Fin.drop)) ?_
            repeat (refine awp_seq ?_)
            refine awp_cond rfl (by simp only [LS, SS, SX, HS, mkS_cons, mkS_nil, ↓reduceIte, eq_self', List.map_nil, beq_self_eq_true, Nat.reduceEqDiff, Nat.reduceAdd, Nat.succ_ne_self, vint, TyS, TyF, TBS, TBF, DcS, DcF, SvS, SvF, PfS, PfF, g3, g4, g5, g6, Int.toNat_natCast] <;> with_reducible rfl) (fun b4 => ?_) (fun b4 => ?_)
            · -- if t152
              refine awp_sel [0, 1, 5, 8, 116, 117, 118] (by simp only [LS, SS, SX, HS, mkS_cons, mkS_nil, ↓reduceIte, eq_self', List.map_nil, beq_self_eq_true, Nat.reduceEqDiff, Nat.reduceAdd, Nat.succ_ne_self, vint, TyS, TyF, TBS, TBF, DcS, DcF, SvS, SvF, PfS, PfF, g3, g4, g5, g6, Int.toNat_natCast] <;> with_reducible rfl) ?_
              -- region 16
              repeat (refine awp_seq ?_)
              refine e_eval (by simp only [asq, as0, as1, as2, awanted, aop, LS, SS, SX, HS, mkS_cons, mkS_nil, ↓reduceIte, eq_self', List.map_nil, beq_self_eq_true, Nat.reduceEqDiff, Nat.reduceAdd, Nat.reduceMul, Nat.reduceLT, Nat.reduceLeDiff, Nat.reducePow, Nat.reduceDiv, Nat.reduceMod, Nat.succ_ne_self, Nat.reduceBEq, Nat.reduceBNe, vint, TyS, TyF, TBS, TBF, DcS, DcF, SvS, SvF, PfS, PfF, g3, g4, g5, g6, Int.toNat_natCast] <;> with_reducible rfl) (by decide) ?_
              repeat (refine awp_seq ?_)
              -- leaf 4 ret
              refine awp_ret ⟨.inr rfl, _, rfl, ?_⟩
              have hx : ((d.bs.zip p.prems).all (fun x : TB × Pf => decide (x.2.tr = x.1.tr) && x.2.t.eqb (mapT (appG d.ps p.args) x.1.t) && checkT ds sas k x.2)) = false := by
                rw [List.all_eq_false]
                refine ⟨(b, q), by rw [← hz]; exact List.getElem_mem _, ?_⟩
                simp only
                grind
              simp only [hx, Bool.and_false]
              simp only [LS, SS, SX, HS, mkS_cons, mkS_nil, ↓reduceIte, eq_self', List.map_nil, beq_self_eq_true, Nat.reduceEqDiff, Nat.reduceAdd, Nat.succ_ne_self, vint, TyS, TyF, TBS, TBF, DcS, DcF, SvS, SvF, PfS, PfF]
            · -- else t152
              repeat (refine awp_seq ?_)
              refine awp_skip ?_
              -- leaf 5 next0
              exact ⟨⟨rfl, rfl, trivial⟩, (), _, ⟨rfl, rfl, rfl, rfl, rfl, trivial⟩, by simp only [LS, SS, SX, HS, mkS_cons, mkS_nil, ↓reduceIte, eq_self', List.map_nil, beq_self_eq_true, Nat.reduceEqDiff, Nat.reduceAdd, Nat.succ_ne_self, vint, TyS, TyF, TBS, TBF, DcS, DcF, SvS, SvF, PfS, PfF] <;> rfl, all_take_succ (by simp; omega) hg (by rw [hz]; simp only; grind)⟩
          · intro s hg
            rw [List.take_of_length_le (by simp; omega)] at hg
            -- region 18
            repeat (refine awp_seq ?_)
            refine e_eval (by simp only [asq, as0, as1, as2, awanted, aop, LS, SS, SX, HS, mkS_cons, mkS_nil, ↓reduceIte, eq_self', List.map_nil, beq_self_eq_true, Nat.reduceEqDiff, Nat.reduceAdd, Nat.reduceMul, Nat.reduceLT, Nat.reduceLeDiff, Nat.reducePow, Nat.reduceDiv, Nat.reduceMod, Nat.succ_ne_self, Nat.reduceBEq, Nat.reduceBNe, vint, TyS, TyF, TBS, TBF, DcS, DcF, SvS, SvF, PfS, PfF] <;> with_reducible rfl) (by decide) ?_
            repeat (refine awp_seq ?_)
            -- leaf 6 ret
            refine awp_ret ⟨.inr rfl, _, rfl, ?_⟩
            simp only [hg, hq2, decide_true, Bool.and_self]
            simp only [LS, SS, SX, HS, mkS_cons, mkS_nil, ↓reduceIte, eq_self', List.map_nil, beq_self_eq_true, Nat.reduceEqDiff, Nat.reduceAdd, Nat.succ_ne_self, vint, TyS, TyF, TBS, TBF, DcS, DcF, SvS, SvF, PfS, PfF]

end Go.Abs
set_option linter.unusedVariables false
set_option linter.unusedSimpArgs false
set_option maxRecDepth 4000
namespace Go.Abs
open Go.Proofs

theorem cloneTB (H : Heap) (id : Nat) (xs : List TB) (hid : H[id]? = some .unborn) (hx : xs.length * 48 ≤ 2 ^ 47) : ACalls Try.prog 51 [.slice (xs.map TB.enc) .none] H fun r' H' => r' = .slice (xs.map TB.enc) (.tok id) ∧ H' = H.set id (.buf xs.length 4) := by
  have em : maxLen = 9223372036854775807 := by decide
  have happ : xs.map TB.enc ≠ [] → ∀ fr HH, aappend ⟨true, 4, 48⟩ fr HH (.slice [] .full) (.slice (xs.map TB.enc) .none) = some (.slice (xs.map TB.enc) (.tok fr), some (fr, .buf xs.length 4)) := fun hne fr HH => by
    have := aappend_all (i := ⟨true, 4, 48⟩) (fresh := fr) (H := HH) (tl := .none) hne (by simpa using hx) (by simp; omega) (fun e he => by obtain ⟨v, _, rfl⟩ := List.mem_map.1 he; exact ⟨v.enc_len, by rw [TB.enc_cells]; rfl⟩) (by decide)
    simpa using this
  refine acalls_of (N := 8) Try.func51 rfl rfl (by simp) fun hb' => ?_
  -- region 0
  repeat (refine awp_seq ?_)
  refine e_eval (by simp only [asq, as0, as1, as2, awanted, aop, LS, SS, SX, HS, mkS_cons, mkS_nil, ↓reduceIte, eq_self', List.map_nil, beq_self_eq_true, Nat.reduceEqDiff, Nat.reduceAdd, Nat.reduceMul, Nat.reduceLT, Nat.reduceLeDiff, Nat.reducePow, Nat.reduceDiv, Nat.reduceMod, Nat.succ_ne_self, Nat.reduceBEq, Nat.reduceBNe, vint, TyS, TyF, TBS, TBF, DcS, DcF, SvS, SvF, PfS, PfF] <;> with_reducible rfl) (by decide) ?_
  -- region 1
  repeat (refine awp_seq ?_)
  refine awp_region ?_
  refine e_take 1 (by simp only [asq, as0, as1, as2, awanted, aop, LS, SS, SX, HS, mkS_cons, mkS_nil, ↓reduceIte, eq_self', List.map_nil, beq_self_eq_true, Nat.reduceEqDiff, Nat.reduceAdd, Nat.reduceMul, Nat.reduceLT, Nat.reduceLeDiff, Nat.reducePow, Nat.reduceDiv, Nat.reduceMod, Nat.succ_ne_self, Nat.reduceBEq, Nat.reduceBNe, vint, TyS, TyF, TBS, TBF, DcS, DcF, SvS, SvF, PfS, PfF] <;> with_reducible rfl) (by decide) ?_
  refine aops_nilcmp (es := xs.map TB.enc) (tl := .none) rfl (by simp only [acall, awanted, LS, SS, SX, HS, mkS_cons, mkS_nil, ↓reduceIte, eq_self', List.map_nil, beq_self_eq_true, Nat.reduceEqDiff, Nat.reduceAdd, Nat.reduceMul, Nat.reduceLT, Nat.reduceLeDiff, Nat.reducePow, Nat.reduceDiv, Nat.reduceMod, Nat.succ_ne_self, Nat.reduceBEq, Nat.reduceBNe, vint, TyS, TyF, TBS, TBF, DcS, DcF, SvS, SvF, PfS, PfF] <;> rfl) rfl (by decide) (by rw [Tryte60]; rfl) (fun b hb => ?_)
  refine aops_nil ?_
  repeat (refine awp_seq ?_)
  refine awp_cond rfl (by simp only [LS, SS, SX, HS, mkS_cons, mkS_nil, ↓reduceIte, eq_self', List.map_nil, beq_self_eq_true, Nat.reduceEqDiff, Nat.reduceAdd, Nat.succ_ne_self, vint, TyS, TyF, TBS, TBF, DcS, DcF, SvS, SvF, PfS, PfF] <;> with_reducible rfl) (fun b0 => ?_) (fun b0 => ?_)
  · -- if t4
    have hxs : xs = [] := by
      cases xs with
      | nil => rfl
      | cons a l => rw [hb (by simp)] at b0; cases b0
    subst hxs
    -- region 2
    repeat (refine awp_seq ?_)
    refine e_eval (by simp only [asq, as0, as1, as2, awanted, aop, LS, SS, SX, HS, mkS_cons, mkS_nil, ↓reduceIte, eq_self', List.map_nil, beq_self_eq_true, Nat.reduceEqDiff, Nat.reduceAdd, Nat.reduceMul, Nat.reduceLT, Nat.reduceLeDiff, Nat.reducePow, Nat.reduceDiv, Nat.reduceMod, Nat.succ_ne_self, Nat.reduceBEq, Nat.reduceBNe, vint, TyS, TyF, TBS, TBF, DcS, DcF, SvS, SvF, PfS, PfF] <;> with_reducible rfl) (by decide) ?_
    repeat (refine awp_seq ?_)
    -- leaf 0 ret
    refine awp_retokF id 2 4 (es := []) hid (by simp only [acall, awanted, LS, SS, SX, HS, mkS_cons, mkS_nil, ↓reduceIte, eq_self', List.map_nil, beq_self_eq_true, Nat.reduceEqDiff, Nat.reduceAdd, Nat.reduceMul, Nat.reduceLT, Nat.reduceLeDiff, Nat.reducePow, Nat.reduceDiv, Nat.reduceMod, Nat.succ_ne_self, Nat.reduceBEq, Nat.reduceBNe, vint, TyS, TyF, TBS, TBF, DcS, DcF, SvS, SvF, PfS, PfF] <;> rfl) ?_
    refine awp_ret ⟨.inr rfl, _, rfl, ?_⟩
    exact ⟨rfl, rfl⟩
  · -- else t4
    repeat (refine awp_seq ?_)
    refine awp_skip ?_
    rcases Classical.em (xs = []) with hxs | hxs
    · -- case
      subst hxs
      -- region 3
      repeat (refine awp_seq ?_)
      refine e_eval (by simp only [asq, as0, as1, as2, awanted, aop, abuildS, abuiltin, LS, SS, SX, HS, mkS_cons, mkS_nil, ↓reduceIte, eq_self', List.map_nil, beq_self_eq_true, Nat.reduceEqDiff, Nat.reduceAdd, Nat.reduceMul, Nat.reduceLT, Nat.reduceLeDiff, Nat.reducePow, Nat.reduceDiv, Nat.reduceMod, Nat.succ_ne_self, Nat.reduceBEq, Nat.reduceBNe, Tryti60, Tryte60, Trytz60, Trytp60, Tryti74, Trytf74, Trytz74, Trytp74, vint, TyS, TyF, TBS, TBF, DcS, DcF, SvS, SvF, PfS, PfF, List.map_nil, aappend] <;> with_reducible rfl) (by decide) ?_
      repeat (refine awp_seq ?_)
      -- leaf 1 ret
      refine awp_retokF id 2 4 (es := []) hid (by simp only [acall, awanted, LS, SS, SX, HS, mkS_cons, mkS_nil, ↓reduceIte, eq_self', List.map_nil, beq_self_eq_true, Nat.reduceEqDiff, Nat.reduceAdd, Nat.reduceMul, Nat.reduceLT, Nat.reduceLeDiff, Nat.reducePow, Nat.reduceDiv, Nat.reduceMod, Nat.succ_ne_self, Nat.reduceBEq, Nat.reduceBNe, vint, TyS, TyF, TBS, TBF, DcS, DcF, SvS, SvF, PfS, PfF] <;> rfl) ?_
      refine awp_ret ⟨.inr rfl, _, rfl, ?_⟩
      exact ⟨rfl, rfl⟩
    · -- case
      have ha := happ (by simpa using hxs)
      -- region 3
      repeat (refine awp_seq ?_)
      refine awp_region ?_
      refine e_take 2 (by simp only [asq, as0, as1, as2, awanted, aop, abuildS, LS, SS, SX, HS, mkS_cons, mkS_nil, ↓reduceIte, eq_self', List.map_nil, beq_self_eq_true, Nat.reduceEqDiff, Nat.reduceAdd, Nat.reduceMul, Nat.reduceLT, Nat.reduceLeDiff, Nat.reducePow, Nat.reduceDiv, Nat.reduceMod, Nat.succ_ne_self, Nat.reduceBEq, Nat.reduceBNe, Tryti60, Tryte60, Trytz60, Trytp60, Tryti74, Trytf74, Trytz74, Trytp74, vint, TyS, TyF, TBS, TBF, DcS, DcF, SvS, SvF, PfS, PfF, ha] <;> with_reducible rfl) (by decide) ?_
      refine aops_opF false id hid rfl (by decide) (v := .slice (xs.map TB.enc) (.tok id)) (e := some (id, .buf xs.length 4)) (by simp only [LS, SS, SX, HS, mkS_cons, mkS_nil, ↓reduceIte, eq_self', List.map_nil, beq_self_eq_true, Nat.reduceEqDiff, Nat.reduceAdd, Nat.succ_ne_self, vint, TyS, TyF, TBS, TBF, DcS, DcF, SvS, SvF, PfS, PfF, ha, aop, abuiltin, Tryti60, Tryte60] <;> rfl) rfl ?_
      refine e_end (by simp only [asq, as0, as1, as2, awanted, aop, LS, SS, SX, HS, mkS_cons, mkS_nil, ↓reduceIte, eq_self', List.map_nil, beq_self_eq_true, Nat.reduceEqDiff, Nat.reduceAdd, Nat.reduceMul, Nat.reduceLT, Nat.reduceLeDiff, Nat.reducePow, Nat.reduceDiv, Nat.reduceMod, Nat.succ_ne_self, Nat.reduceBEq, Nat.reduceBNe, vint, TyS, TyF, TBS, TBF, DcS, DcF, SvS, SvF, PfS, PfF, ha] <;> with_reducible rfl) (by decide) ?_
      repeat (refine awp_seq ?_)
      -- leaf 2 ret
      refine awp_ret ⟨.inr rfl, _, rfl, ?_⟩
      exact ⟨rfl, rfl⟩

theorem typesEq_k : ∀ (k : Nat) (a b : Ty), a.size ≤ k → a.W → PC Try.prog 38 [a.enc, b.enc] (.bool (a.eqb b))
  | 0, a, b, h, _ => by cases a; simp [Ty.size] at h
  | k + 1, a, b, h, hw => by
    refine pc_of (N := 46) Try.func38 rfl rfl (by simp) (by simp [Ty.bel]) (.bool _) ?_
    -- region 0
    repeat (refine awp_seq ?_)
    refine e_eval (by simp only [asq, as0, as1, as2, awanted, aop, LS, SS, SX, HS, mkS_cons, mkS_nil, ↓reduceIte, eq_self', List.map_nil, beq_self_eq_true, Nat.reduceEqDiff, Nat.reduceAdd, Nat.reduceMul, Nat.reduceLT, Nat.reduceLeDiff, Nat.reducePow, Nat.reduceDiv, Nat.reduceMod, Nat.succ_ne_self, Nat.reduceBEq, Nat.reduceBNe, Tryti24, Trytf24, Trytz24, Trytp24, vint, TyS, TyF, TBS, TBF, DcS, DcF, SvS, SvF, PfS, PfF] <;> with_reducible rfl) (by decide) ?_
    -- region 1
    repeat (refine awp_seq ?_)
    refine g_eval (by simp only [gsq, gs0, gs1, gs2, gcond, gop, SG, Op.operands, Call.operands, Array.toList_append, aop, afldAddr, ajust, aload, abin, abuiltin, LS, SS, SX, HS, mkS_cons, mkS_nil, ↓reduceIte, eq_self', List.map_nil, beq_self_eq_true, Nat.reduceEqDiff, Nat.reduceAdd, Nat.reduceMul, Nat.reduceLT, Nat.reduceLeDiff, Nat.reducePow, Nat.reduceDiv, Nat.reduceMod, Nat.succ_ne_self, Nat.reduceBEq, Nat.reduceBNe, Tryti3, Trytz3, Trytp3, Trytk3, Tryti22, Tryte22, Trytz22, Trytp22, Tryti24, Trytf24, Trytz24, Trytp24, vint, TyS, TyF, TBS, TBF, DcS, DcF, SvS, SvF, PfS, PfF] <;> with_reducible rfl) (by decide) (by repeat (first | exact Fin.base _ | with_reducible apply Fin.keep | apply Fin.drop)) ?_
    repeat (refine awp_seq ?_)
    refine awp_cond rfl (by simp only [LS, SS, SX, HS, mkS_cons, mkS_nil, ↓reduceIte, eq_self', List.map_nil, beq_self_eq_true, Nat.reduceEqDiff, Nat.reduceAdd, Nat.succ_ne_self, vint, TyS, TyF, TBS, TBF, DcS, DcF, SvS, SvF, PfS, PfF] <;> with_reducible rfl) (fun bt26 => ?_) (fun bt26 => ?_)
    · -- if t26
      have hf : a.eqb b = false := by
        cases hq : a.eqb b with
        | false => rfl
        | true => have := (Ty.eqb_iff a b).1 hq; subst this; simp at bt26
      refine awp_sel [] (by simp only [LS, SS, SX, HS, mkS_cons, mkS_nil, ↓reduceIte, eq_self', List.map_nil, beq_self_eq_true, Nat.reduceEqDiff, Nat.reduceAdd, Nat.succ_ne_self, vint, TyS, TyF, TBS, TBF, DcS, DcF, SvS, SvF, PfS, PfF] <;> with_reducible rfl) ?_
      -- region 2
      repeat (refine awp_seq ?_)
      refine e_eval (by simp only [asq, as0, as1, as2, awanted, aop, LS, SS, SX, HS, mkS_cons, mkS_nil, ↓reduceIte, eq_self', List.map_nil, beq_self_eq_true, Nat.reduceEqDiff, Nat.reduceAdd, Nat.reduceMul, Nat.reduceLT, Nat.reduceLeDiff, Nat.reducePow, Nat.reduceDiv, Nat.reduceMod, Nat.succ_ne_self, Nat.reduceBEq, Nat.reduceBNe, vint, TyS, TyF, TBS, TBF, DcS, DcF, SvS, SvF, PfS, PfF] <;> with_reducible rfl) (by decide) ?_
      repeat (refine awp_seq ?_)
      -- leaf 0 ret
      refine awp_ret ⟨.inr rfl, _, rfl, ?_⟩
      first | (rw [hf]; rfl) | (rw [ht]; rfl)
    · -- else t26
      have hq : a.kind = b.kind ∧ a.id = b.id ∧ (a.args.length : Int) = b.args.length := by simp at bt26; omega
      have hlen : a.args.length = b.args.length := by omega
      repeat (refine awp_seq ?_)
      refine awp_skip ?_
      refine awp_sel [2, 3] (by simp only [LS, SS, SX, HS, mkS_cons, mkS_nil, ↓reduceIte, eq_self', List.map_nil, beq_self_eq_true, Nat.reduceEqDiff, Nat.reduceAdd, Nat.succ_ne_self, vint, TyS, TyF, TBS, TBF, DcS, DcF, SvS, SvF, PfS, PfF] <;> with_reducible rfl) ?_
      -- region 3
      repeat (refine awp_seq ?_)
      refine e_eval (by simp only [asq, as0, as1, as2, awanted, aop, afldAddr, ajust, aload, abuiltin, LS, SS, SX, HS, mkS_cons, mkS_nil, ↓reduceIte, eq_self', List.map_nil, beq_self_eq_true, Nat.reduceEqDiff, Nat.reduceAdd, Nat.reduceMul, Nat.reduceLT, Nat.reduceLeDiff, Nat.reducePow, Nat.reduceDiv, Nat.reduceMod, Nat.succ_ne_self, Nat.reduceBEq, Nat.reduceBNe, Tryti22, Tryte22, Trytz22, Trytp22, Tryti24, Trytf24, Trytz24, Trytp24, vint, TyS, TyF, TBS, TBF, DcS, DcF, SvS, SvF, PfS, PfF] <;> with_reducible rfl) (by decide) ?_
      repeat (refine awp_seq ?_)
      refine awp_forS (σ := Unit) (a.args.length) (fun (s : Unit) => [(2, .optr 0 0), (3, .optr 1 0)]) [2, 3] ([]) (fun (s : Unit) => [.row a.enc.cells, .row b.enc.cells]) (fun (i : Nat) (s : Unit) => ((a.args.zip b.args).take i).all (fun p => p.1.eqb p.2) = true) (()) ([]) rfl rfl rfl rfl rfl rfl rfl rfl rfl (by decide) (by decide) (by decide) (fun _ => rfl) (hw.lenMax) ⟨(by first | rfl | (simp only [LS, SS, SX, HS, mkS_cons, mkS_nil, ↓reduceIte, eq_self', List.map_nil, beq_self_eq_true, Nat.reduceEqDiff, Nat.reduceAdd, Nat.succ_ne_self, vint, TyS, TyF, TBS, TBF, DcS, DcF, SvS, SvF, PfS, PfF] <;> first | done | with_reducible rfl)), (by first | rfl | (simp only [LS, SS, SX, HS, mkS_cons, mkS_nil, ↓reduceIte, eq_self', List.map_nil, beq_self_eq_true, Nat.reduceEqDiff, Nat.reduceAdd, Nat.succ_ne_self, vint, TyS, TyF, TBS, TBF, DcS, DcF, SvS, SvF, PfS, PfF] <;> first | done | with_reducible rfl)), (by first | rfl | (simp only [LS, SS, SX, HS, mkS_cons, mkS_nil, ↓reduceIte, eq_self', List.map_nil, beq_self_eq_true, Nat.reduceEqDiff, Nat.reduceAdd, Nat.succ_ne_self, vint, TyS, TyF, TBS, TBF, DcS, DcF, SvS, SvF, PfS, PfF] <;> first | done | with_reducible rfl)), (by first | rfl | (simp only [LS, SS, SX, HS, mkS_cons, mkS_nil, ↓reduceIte, eq_self', List.map_nil, beq_self_eq_true, Nat.reduceEqDiff, Nat.reduceAdd, Nat.succ_ne_self, vint, TyS, TyF, TBS, TBF, DcS, DcF, SvS, SvF, PfS, PfF] <;> first | done | with_reducible rfl)), trivial⟩ (by first | rfl | (simp only [LS, SS, SX, HS, mkS_cons, mkS_nil, ↓reduceIte, eq_self', List.map_nil, beq_self_eq_true, Nat.reduceEqDiff, Nat.reduceAdd, Nat.succ_ne_self, vint, TyS, TyF, TBS, TBF, DcS, DcF, SvS, SvF, PfS, PfF] <;> first | done | with_reducible rfl)) (by simp) (fun _ _ _ => by first | exact Nat.zero_le _ | (simp only [List.length_append]; omega)) ?_ ?_ ?_
      · exact fun i s hg => ⟨by simp only [TyS, List.nil_append]; repeat (first | exact hbel_nil _ | exact trivial | exact obel_row_nil _ | (refine HBel.cons ?_ ?_) | (refine obel_row_cons (by first | exact bel_TB _ _ | exact TB.bel _ _ | exact bel_Dc _ _ | exact Dc.bel _ _ | exact Pf.bel _ _ | exact bel_Pf _ _ | exact Sv.bel _ _ | exact bel_Pf_tok _ (by simp) | exact bel_ints0 _ _ | exact bel_slice_ty _ _ | exact Ty.bel _ _ | exact bel_ty_tok _ (by simp) | exact Bel.int _ _ | exact Bel.bool _ | exact Bel.str _ | exact Bel.nilp | exact Bel.nilfn | exact Bel.optr _ _ (by simp) | exact bel_nil0 _ | exact bel_nil1 _ | exact bel_fn0 _ _ | assumption) ?_)), by repeat (first | exact BelL.nil | refine BelL.cons (by first | exact bel_TB _ _ | exact TB.bel _ _ | exact bel_Dc _ _ | exact Dc.bel _ _ | exact Pf.bel _ _ | exact bel_Pf _ _ | exact Sv.bel _ _ | exact bel_Pf_tok _ (by simp) | exact bel_ints0 _ _ | exact bel_slice_ty _ _ | exact Ty.bel _ _ | exact bel_ty_tok _ (by simp) | exact Bel.int _ _ | exact Bel.bool _ | exact Bel.str _ | exact Bel.nilp | exact Bel.nilfn | exact Bel.optr _ _ (by simp) | exact bel_nil0 _ | exact bel_nil1 _ | exact bel_fn0 _ _ | assumption) ?_)⟩
      · intro i s hi hg
        have g1 := ix_nat hi
        have hi2 : i < b.args.length := by omega
        have g3 := ix_nat hi2
        have g2 := get_enc Ty.enc hi
        have g4 := get_enc Ty.enc hi2
        have hmem : a.args[i] ∈ a.args := List.getElem_mem hi
        have hsa := Ty.size_arg hmem
        -- region 5
        repeat (refine awp_seq ?_)
        refine e_eval (by simp only [asq, as0, as1, as2, awanted, aop, LS, SS, SX, HS, mkS_cons, mkS_nil, ↓reduceIte, eq_self', List.map_nil, beq_self_eq_true, Nat.reduceEqDiff, Nat.reduceAdd, Nat.reduceMul, Nat.reduceLT, Nat.reduceLeDiff, Nat.reducePow, Nat.reduceDiv, Nat.reduceMod, Nat.succ_ne_self, Nat.reduceBEq, Nat.reduceBNe, vint, TyS, TyF, TBS, TBF, DcS, DcF, SvS, SvF, PfS, PfF, g1, Int.toNat_natCast, g2, g3, g4] <;> with_reducible rfl) (by decide) ?_
        -- region 6
        repeat (refine awp_seq ?_)
        refine awp_draw 0 (by kernel_rfl) ?_
        refine d_take (bm := [0, 1, 0, 7, 15, 0, 32, 0, 224, 480, 1023, 2047]) 10 (fresh := 0) (by kernel_rfl) (by simp only [dsq, ds0, ds1, ds2, ds3, awanted, hapB, effIds, effSet, nextFresh, ard, freshOk, isUnborn, aop, afldAddr, ajust, aload, aidxAddr, aidx, LS, SS, SX, HS, mkS_cons, mkS_nil, ↓reduceIte, eq_self', List.map_nil, beq_self_eq_true, Nat.reduceEqDiff, Nat.reduceAdd, Nat.reduceMul, Nat.reduceLT, Nat.reduceLeDiff, Nat.reducePow, Nat.reduceDiv, Nat.reduceMod, Nat.succ_ne_self, Nat.reduceBEq, Nat.reduceBNe, Tryti22, Tryte22, Trytz22, Trytp22, Tryti24, Trytf24, Trytz24, Trytp24, vint, TyS, TyF, TBS, TBF, DcS, DcF, SvS, SvF, PfS, PfF, g1, Int.toNat_natCast, g2, g3, g4] <;> with_reducible rfl) (by decide) (by decide) ?_
        refine dops_keep (bm := [0, 1, 0, 7, 15, 0, 32, 0, 224, 480, 1023, 2047]) ([]) (by kernel_rfl) (by simp only [acall, awanted, LS, SS, SX, HS, mkS_cons, mkS_nil, ↓reduceIte, eq_self', List.map_nil, beq_self_eq_true, Nat.reduceEqDiff, Nat.reduceAdd, Nat.reduceMul, Nat.reduceLT, Nat.reduceLeDiff, Nat.reducePow, Nat.reduceDiv, Nat.reduceMod, Nat.succ_ne_self, Nat.reduceBEq, Nat.reduceBNe, vint, TyS, TyF, TBS, TBF, DcS, DcF, SvS, SvF, PfS, PfF, g1, Int.toNat_natCast, g2, g3, g4] <;> with_reducible rfl) (by simp only [acall, awanted, LS, SS, SX, HS, mkS_cons, mkS_nil, ↓reduceIte, eq_self', List.map_nil, beq_self_eq_true, Nat.reduceEqDiff, Nat.reduceAdd, Nat.reduceMul, Nat.reduceLT, Nat.reduceLeDiff, Nat.reducePow, Nat.reduceDiv, Nat.reduceMod, Nat.succ_ne_self, Nat.reduceBEq, Nat.reduceBNe, vint, TyS, TyF, TBS, TBF, DcS, DcF, SvS, SvF, PfS, PfF, g1, Int.toNat_natCast, g2, g3, g4]) (by decide) Trygo38 (fun H' _ => typesEq_k k a.args[i] b.args[i] (by omega) (hw.arg hmem) H') (by simp only [dsq, ds0, ds1, ds2, ds3, awanted, hapB, effIds, effSet, nextFresh, ard, freshOk, isUnborn, aop, LS, SS, SX, HS, mkS_cons, mkS_nil, ↓reduceIte, eq_self', List.map_nil, beq_self_eq_true, Nat.reduceEqDiff, Nat.reduceAdd, Nat.reduceMul, Nat.reduceLT, Nat.reduceLeDiff, Nat.reducePow, Nat.reduceDiv, Nat.reduceMod, Nat.succ_ne_self, Nat.reduceBEq, Nat.reduceBNe, vint, TyS, TyF, TBS, TBF, DcS, DcF, SvS, SvF, PfS, PfF, g1, Int.toNat_natCast, g2, g3, g4] <;> first | done | rfl) ?_
        refine d_end (bm := [0, 1, 0, 7, 15, 0, 32, 0, 224, 480, 1023, 2047]) (fresh := 0) (by kernel_rfl) (by simp only [dsq, ds0, ds1, ds2, ds3, awanted, hapB, effIds, effSet, nextFresh, ard, freshOk, isUnborn, aop, aun, ajust, LS, SS, SX, HS, mkS_cons, mkS_nil, ↓reduceIte, eq_self', List.map_nil, beq_self_eq_true, Nat.reduceEqDiff, Nat.reduceAdd, Nat.reduceMul, Nat.reduceLT, Nat.reduceLeDiff, Nat.reducePow, Nat.reduceDiv, Nat.reduceMod, Nat.succ_ne_self, Nat.reduceBEq, Nat.reduceBNe, vint, TyS, TyF, TBS, TBF, DcS, DcF, SvS, SvF, PfS, PfF, g1, Int.toNat_natCast, g2, g3, g4] <;> with_reducible rfl) (by decide) ?_
        repeat (refine awp_seq ?_)
        refine awp_cond rfl (by simp only [LS, SS, SX, HS, mkS_cons, mkS_nil, ↓reduceIte, eq_self', List.map_nil, beq_self_eq_true, Nat.reduceEqDiff, Nat.reduceAdd, Nat.succ_ne_self, vint, TyS, TyF, TBS, TBF, DcS, DcF, SvS, SvF, PfS, PfF, g1, Int.toNat_natCast, g2, g3, g4] <;> with_reducible rfl) (fun bt44 => ?_) (fun bt44 => ?_)
        · -- if t44
          have hf : a.eqb b = false := by
            cases hq : a.eqb b with
            | false => rfl
            | true => have := (Ty.eqb_iff a b).1 hq; subst this; simp [Ty.eqb_self] at bt44
          -- region 7
          repeat (refine awp_seq ?_)
          refine e_eval (by simp only [asq, as0, as1, as2, awanted, aop, LS, SS, SX, HS, mkS_cons, mkS_nil, ↓reduceIte, eq_self', List.map_nil, beq_self_eq_true, Nat.reduceEqDiff, Nat.reduceAdd, Nat.reduceMul, Nat.reduceLT, Nat.reduceLeDiff, Nat.reducePow, Nat.reduceDiv, Nat.reduceMod, Nat.succ_ne_self, Nat.reduceBEq, Nat.reduceBNe, vint, TyS, TyF, TBS, TBF, DcS, DcF, SvS, SvF, PfS, PfF, g1, Int.toNat_natCast, g2, g3, g4] <;> with_reducible rfl) (by decide) ?_
          repeat (refine awp_seq ?_)
          -- leaf 1 ret
          refine awp_ret ⟨.inr rfl, _, rfl, ?_⟩
          first | (rw [hf]; rfl) | (rw [ht]; rfl)
        · -- else t44
          repeat (refine awp_seq ?_)
          refine awp_skip ?_
          -- leaf 2 next0
          have hgt : a.args[i].eqb b.args[i] = true := by simpa using bt44
          exact ⟨⟨rfl, rfl, trivial⟩, (), [], ⟨rfl, rfl, trivial⟩, by simp only [LS, SS, SX, HS, mkS_cons, mkS_nil, ↓reduceIte, eq_self', List.map_nil, beq_self_eq_true, Nat.reduceEqDiff, Nat.reduceAdd, Nat.succ_ne_self, vint, TyS, TyF, TBS, TBF, DcS, DcF, SvS, SvF, PfS, PfF] <;> rfl, all_take_succ (by simp; omega) hg (by simpa using hgt)⟩
      · intro s hg
        rw [List.take_of_length_le (by simp; omega)] at hg
        have ht : a.eqb b = true := by
          rw [Ty.eqb_eq, eqbs_all2, decide_eq_true hq.1, decide_eq_true hq.2.1]
          simp [all2, hlen, hg]
        -- region 9
        repeat (refine awp_seq ?_)
        refine e_eval (by simp only [asq, as0, as1, as2, awanted, aop, LS, SS, SX, HS, mkS_cons, mkS_nil, ↓reduceIte, eq_self', List.map_nil, beq_self_eq_true, Nat.reduceEqDiff, Nat.reduceAdd, Nat.reduceMul, Nat.reduceLT, Nat.reduceLeDiff, Nat.reducePow, Nat.reduceDiv, Nat.reduceMod, Nat.succ_ne_self, Nat.reduceBEq, Nat.reduceBNe, vint, TyS, TyF, TBS, TBF, DcS, DcF, SvS, SvF, PfS, PfF] <;> with_reducible rfl) (by decide) ?_
        repeat (refine awp_seq ?_)
        -- leaf 3 ret
        refine awp_ret ⟨.inr rfl, _, rfl, ?_⟩
        first | (rw [hf]; rfl) | (rw [ht]; rfl)

theorem typeLists_self (us : List Ty) (h1 : us.length * 40 ≤ 2 ^ 47) (h2 : ∀ u ∈ us, u.W) : PC Try.prog 101 [.slice (us.map Ty.enc) .none, .slice (us.map Ty.enc) .none] (.bool true) := by
  have hs := Ty.eqb_self (Ty.mk 0 0 us)
  refine pc_of (N := 10) Try.func101 rfl rfl (by simp) (by simp [bel_slice_ty]) (.bool _) ?_
  -- region 0
  repeat (refine awp_seq ?_)
  refine e_eval (by simp only [asq, as0, as1, as2, awanted, aop, LS, SS, SX, HS, mkS_cons, mkS_nil, ↓reduceIte, eq_self', List.map_nil, beq_self_eq_true, Nat.reduceEqDiff, Nat.reduceAdd, Nat.reduceMul, Nat.reduceLT, Nat.reduceLeDiff, Nat.reducePow, Nat.reduceDiv, Nat.reduceMod, Nat.succ_ne_self, Nat.reduceBEq, Nat.reduceBNe, vint, TyS, TyF, TBS, TBF, DcS, DcF, SvS, SvF, PfS, PfF] <;> with_reducible rfl) (by decide) ?_
  -- region 1
  repeat (refine awp_seq ?_)
  refine awp_region ?_
  refine e_take 4 (by simp only [asq, as0, as1, as2, awanted, aop, abuild, splice, LS, SS, SX, HS, mkS_cons, mkS_nil, ↓reduceIte, eq_self', List.map_nil, beq_self_eq_true, Nat.reduceEqDiff, Nat.reduceAdd, Nat.reduceMul, Nat.reduceLT, Nat.reduceLeDiff, Nat.reducePow, Nat.reduceDiv, Nat.reduceMod, Nat.succ_ne_self, Nat.reduceBEq, Nat.reduceBNe, Tryti24, Trytf24, Trytz24, Trytp24, vint, TyS, TyF, TBS, TBF, DcS, DcF, SvS, SvF, PfS, PfF] <;> with_reducible rfl) (by decide) ?_
  refine aops_pure (by simp only [acall, awanted, LS, SS, SX, HS, mkS_cons, mkS_nil, ↓reduceIte, eq_self', List.map_nil, beq_self_eq_true, Nat.reduceEqDiff, Nat.reduceAdd, Nat.reduceMul, Nat.reduceLT, Nat.reduceLeDiff, Nat.reducePow, Nat.reduceDiv, Nat.reduceMod, Nat.succ_ne_self, Nat.reduceBEq, Nat.reduceBNe, vint, TyS, TyF, TBS, TBF, DcS, DcF, SvS, SvF, PfS, PfF] <;> with_reducible rfl) (by simp only [acall, awanted, LS, SS, SX, HS, mkS_cons, mkS_nil, ↓reduceIte, eq_self', List.map_nil, beq_self_eq_true, Nat.reduceEqDiff, Nat.reduceAdd, Nat.reduceMul, Nat.reduceLT, Nat.reduceLeDiff, Nat.reducePow, Nat.reduceDiv, Nat.reduceMod, Nat.succ_ne_self, Nat.reduceBEq, Nat.reduceBNe, vint, TyS, TyF, TBS, TBF, DcS, DcF, SvS, SvF, PfS, PfF]) (by decide) Trygo38 (typesEq_k _ (Ty.mk 0 0 us) (Ty.mk 0 0 us) (Nat.le_refl _) ((Ty.W_iff _ _ _).2 ⟨h1, h2⟩) _) ?_
  refine e_end (by simp only [asq, as0, as1, as2, awanted, aop, LS, SS, SX, HS, mkS_cons, mkS_nil, ↓reduceIte, eq_self', List.map_nil, beq_self_eq_true, Nat.reduceEqDiff, Nat.reduceAdd, Nat.reduceMul, Nat.reduceLT, Nat.reduceLeDiff, Nat.reducePow, Nat.reduceDiv, Nat.reduceMod, Nat.succ_ne_self, Nat.reduceBEq, Nat.reduceBNe, vint, TyS, TyF, TBS, TBF, DcS, DcF, SvS, SvF, PfS, PfF] <;> with_reducible rfl) (by decide) ?_
  repeat (refine awp_seq ?_)
  -- leaf 0 ret
  refine awp_ret ⟨.inr rfl, _, rfl, ?_⟩
  simp only [LS, SS, SX, HS, mkS_cons, mkS_nil, ↓reduceIte, eq_self', List.map_nil, beq_self_eq_true, Nat.reduceEqDiff, Nat.reduceAdd, Nat.succ_ne_self, vint, TyS, TyF, TBS, TBF, DcS, DcF, SvS, SvF, PfS, PfF, hs]

theorem proofs_self : ∀ (k : Nat) (a : Pf), a.size ≤ k → a.W → PC Try.prog 47 [a.enc, a.enc] (.bool true)
  | 0, a, h, _ => by cases a; simp [Pf.size] at h
  | k + 1, a, h, hw => by
    have hs := Ty.eqb_self a.t
    refine pc_of (N := 69) Try.func47 rfl rfl (by simp) (by simp [Pf.bel]) (.bool _) ?_
    -- region 0
    repeat (refine awp_seq ?_)
    refine e_eval (by simp only [asq, as0, as1, as2, awanted, aop, LS, SS, SX, HS, mkS_cons, mkS_nil, ↓reduceIte, eq_self', List.map_nil, beq_self_eq_true, Nat.reduceEqDiff, Nat.reduceAdd, Nat.reduceMul, Nat.reduceLT, Nat.reduceLeDiff, Nat.reducePow, Nat.reduceDiv, Nat.reduceMod, Nat.succ_ne_self, Nat.reduceBEq, Nat.reduceBNe, Tryti63, Trytf63, Trytz63, Trytp63, vint, TyS, TyF, TBS, TBF, DcS, DcF, SvS, SvF, PfS, PfF, Bool.not_true, decide_true, Bool.or_false, Bool.or_self] <;> with_reducible rfl) (by decide) ?_
    -- region 1
    repeat (refine awp_seq ?_)
    refine awp_region ?_
    refine aops_gstart ?_
    refine g_take 4 (by simp only [gsq, gs0, gs1, gs2, gcond, gop, SG, Op.operands, Call.operands, Array.toList_append, aop, afldAddr, ajust, aload, LS, SS, SX, HS, mkS_cons, mkS_nil, ↓reduceIte, eq_self', List.map_nil, beq_self_eq_true, Nat.reduceEqDiff, Nat.reduceAdd, Nat.reduceMul, Nat.reduceLT, Nat.reduceLeDiff, Nat.reducePow, Nat.reduceDiv, Nat.reduceMod, Nat.succ_ne_self, Nat.reduceBEq, Nat.reduceBNe, Tryti24, Trytf24, Trytz24, Trytp24, Tryti63, Trytf63, Trytz63, Trytp63, vint, TyS, TyF, TBS, TBF, DcS, DcF, SvS, SvF, PfS, PfF, Bool.not_true, decide_true, Bool.or_false, Bool.or_self, hs] <;> with_reducible rfl) (by decide) ?_
    refine aops_gpure (by simp only [acall, gcond, SG, Op.operands, Call.operands, Array.toList_append, LS, SS, SX, HS, mkS_cons, mkS_nil, ↓reduceIte, eq_self', List.map_nil, beq_self_eq_true, Nat.reduceEqDiff, Nat.reduceAdd, Nat.reduceMul, Nat.reduceLT, Nat.reduceLeDiff, Nat.reducePow, Nat.reduceDiv, Nat.reduceMod, Nat.succ_ne_self, Nat.reduceBEq, Nat.reduceBNe, vint, TyS, TyF, TBS, TBF, DcS, DcF, SvS, SvF, PfS, PfF, Bool.not_true, decide_true, Bool.or_false, Bool.or_self, hs] <;> with_reducible rfl) (by simp only [acall, gcond, SG, Op.operands, Call.operands, Array.toList_append, LS, SS, SX, HS, mkS_cons, mkS_nil, ↓reduceIte, eq_self', List.map_nil, beq_self_eq_true, Nat.reduceEqDiff, Nat.reduceAdd, Nat.reduceMul, Nat.reduceLT, Nat.reduceLeDiff, Nat.reducePow, Nat.reduceDiv, Nat.reduceMod, Nat.succ_ne_self, Nat.reduceBEq, Nat.reduceBNe, vint, TyS, TyF, TBS, TBF, DcS, DcF, SvS, SvF, PfS, PfF, Bool.not_true, decide_true, Bool.or_false, Bool.or_self, hs] <;> with_reducible rfl) (by simp only [acall, gcond, SG, Op.operands, Call.operands, Array.toList_append, LS, SS, SX, HS, mkS_cons, mkS_nil, ↓reduceIte, eq_self', List.map_nil, beq_self_eq_true, Nat.reduceEqDiff, Nat.reduceAdd, Nat.reduceMul, Nat.reduceLT, Nat.reduceLeDiff, Nat.reducePow, Nat.reduceDiv, Nat.reduceMod, Nat.succ_ne_self, Nat.reduceBEq, Nat.reduceBNe, vint, TyS, TyF, TBS, TBF, DcS, DcF, SvS, SvF, PfS, PfF, Bool.not_true, decide_true, Bool.or_false, Bool.or_self, hs]) (by decide) Trygo38 (fun hc => typesEq_k _ a.t a.t (Nat.le_refl _) hw.st_t _) ?_
    refine g_take 27 (by simp only [gsq, gs0, gs1, gs2, gcond, gop, SG, Op.operands, Call.operands, Array.toList_append, aop, aun, ajust, afldAddr, aload, abin, LS, SS, SX, HS, mkS_cons, mkS_nil, ↓reduceIte, eq_self', List.map_nil, beq_self_eq_true, Nat.reduceEqDiff, Nat.reduceAdd, Nat.reduceMul, Nat.reduceLT, Nat.reduceLeDiff, Nat.reducePow, Nat.reduceDiv, Nat.reduceMod, Nat.succ_ne_self, Nat.reduceBEq, Nat.reduceBNe, Tryti3, Trytz3, Trytp3, Trytk3, Tryti22, Tryte22, Trytz22, Trytp22, Tryti24, Trytf24, Trytz24, Trytp24, Tryti63, Trytf63, Trytz63, Trytp63, vint, TyS, TyF, TBS, TBF, DcS, DcF, SvS, SvF, PfS, PfF, Bool.not_true, decide_true, Bool.or_false, Bool.or_self, hs] <;> with_reducible rfl) (by decide) ?_
    refine aops_gpure (by simp only [acall, gcond, SG, Op.operands, Call.operands, Array.toList_append, LS, SS, SX, HS, mkS_cons, mkS_nil, ↓reduceIte, eq_self', List.map_nil, beq_self_eq_true, Nat.reduceEqDiff, Nat.reduceAdd, Nat.reduceMul, Nat.reduceLT, Nat.reduceLeDiff, Nat.reducePow, Nat.reduceDiv, Nat.reduceMod, Nat.succ_ne_self, Nat.reduceBEq, Nat.reduceBNe, vint, TyS, TyF, TBS, TBF, DcS, DcF, SvS, SvF, PfS, PfF, Bool.not_true, decide_true, Bool.or_false, Bool.or_self, hs] <;> with_reducible rfl) (by simp only [acall, gcond, SG, Op.operands, Call.operands, Array.toList_append, LS, SS, SX, HS, mkS_cons, mkS_nil, ↓reduceIte, eq_self', List.map_nil, beq_self_eq_true, Nat.reduceEqDiff, Nat.reduceAdd, Nat.reduceMul, Nat.reduceLT, Nat.reduceLeDiff, Nat.reducePow, Nat.reduceDiv, Nat.reduceMod, Nat.succ_ne_self, Nat.reduceBEq, Nat.reduceBNe, vint, TyS, TyF, TBS, TBF, DcS, DcF, SvS, SvF, PfS, PfF, Bool.not_true, decide_true, Bool.or_false, Bool.or_self, hs] <;> with_reducible rfl) (by simp only [acall, gcond, SG, Op.operands, Call.operands, Array.toList_append, LS, SS, SX, HS, mkS_cons, mkS_nil, ↓reduceIte, eq_self', List.map_nil, beq_self_eq_true, Nat.reduceEqDiff, Nat.reduceAdd, Nat.reduceMul, Nat.reduceLT, Nat.reduceLeDiff, Nat.reducePow, Nat.reduceDiv, Nat.reduceMod, Nat.succ_ne_self, Nat.reduceBEq, Nat.reduceBNe, vint, TyS, TyF, TBS, TBF, DcS, DcF, SvS, SvF, PfS, PfF, Bool.not_true, decide_true, Bool.or_false, Bool.or_self, hs]) (by decide) Trygo101 (fun hc => typeLists_self a.args hw.len_args hw.el_args _) ?_
    refine g_end (by simp only [gsq, gs0, gs1, gs2, gcond, gop, SG, Op.operands, Call.operands, Array.toList_append, aop, aun, ajust, afldAddr, aload, abuiltin, abin, LS, SS, SX, HS, mkS_cons, mkS_nil, ↓reduceIte, eq_self', List.map_nil, beq_self_eq_true, Nat.reduceEqDiff, Nat.reduceAdd, Nat.reduceMul, Nat.reduceLT, Nat.reduceLeDiff, Nat.reducePow, Nat.reduceDiv, Nat.reduceMod, Nat.succ_ne_self, Nat.reduceBEq, Nat.reduceBNe, Tryti3, Trytz3, Trytp3, Trytk3, Tryti61, Tryte61, Trytz61, Trytp61, Tryti63, Trytf63, Trytz63, Trytp63, vint, TyS, TyF, TBS, TBF, DcS, DcF, SvS, SvF, PfS, PfF, Bool.not_true, decide_true, Bool.or_false, Bool.or_self, hs] <;> with_reducible rfl) (by decide) (by repeat (first | exact Fin.base _ | with_reducible apply Fin.keep | apply Fin.drop)) ?_
    repeat (refine awp_seq ?_)
    refine awp_cond_false rfl (by simp only [LS, SS, SX, HS, mkS_cons, mkS_nil, ↓reduceIte, eq_self', List.map_nil, beq_self_eq_true, Nat.reduceEqDiff, Nat.reduceAdd, Nat.succ_ne_self, vint, TyS, TyF, TBS, TBF, DcS, DcF, SvS, SvF, PfS, PfF, Bool.not_true, decide_true, Bool.or_false, Bool.or_self] <;> with_reducible rfl) ?_
    repeat (refine awp_seq ?_)
    refine awp_skip ?_
    refine awp_sel [2, 3] (by simp only [LS, SS, SX, HS, mkS_cons, mkS_nil, ↓reduceIte, eq_self', List.map_nil, beq_self_eq_true, Nat.reduceEqDiff, Nat.reduceAdd, Nat.succ_ne_self, vint, TyS, TyF, TBS, TBF, DcS, DcF, SvS, SvF, PfS, PfF, Bool.not_true, decide_true, Bool.or_false, Bool.or_self] <;> with_reducible rfl) ?_
    -- region 3
    repeat (refine awp_seq ?_)
    refine e_eval (by simp only [asq, as0, as1, as2, awanted, aop, afldAddr, ajust, aload, abuiltin, LS, SS, SX, HS, mkS_cons, mkS_nil, ↓reduceIte, eq_self', List.map_nil, beq_self_eq_true, Nat.reduceEqDiff, Nat.reduceAdd, Nat.reduceMul, Nat.reduceLT, Nat.reduceLeDiff, Nat.reducePow, Nat.reduceDiv, Nat.reduceMod, Nat.succ_ne_self, Nat.reduceBEq, Nat.reduceBNe, Tryti61, Tryte61, Trytz61, Trytp61, Tryti63, Trytf63, Trytz63, Trytp63, vint, TyS, TyF, TBS, TBF, DcS, DcF, SvS, SvF, PfS, PfF, Bool.not_true, decide_true, Bool.or_false, Bool.or_self] <;> with_reducible rfl) (by decide) ?_
    repeat (refine awp_seq ?_)
    refine awp_forS (σ := Unit) (a.prems.length) (fun (s : Unit) => [(2, .optr 0 0), (3, .optr 1 0)]) [2, 3] ([]) (fun (s : Unit) => [.row a.enc.cells, .row a.enc.cells]) (fun (i : Nat) (s : Unit) => True) (()) ([]) rfl rfl rfl rfl rfl rfl rfl rfl rfl (by decide) (by decide) (by decide) (fun _ => rfl) (hw.max_prems) ⟨(by first | rfl | (simp only [LS, SS, SX, HS, mkS_cons, mkS_nil, ↓reduceIte, eq_self', List.map_nil, beq_self_eq_true, Nat.reduceEqDiff, Nat.reduceAdd, Nat.succ_ne_self, vint, TyS, TyF, TBS, TBF, DcS, DcF, SvS, SvF, PfS, PfF, Bool.not_true, decide_true, Bool.or_false, Bool.or_self] <;> first | done | with_reducible rfl)), (by first | rfl | (simp only [LS, SS, SX, HS, mkS_cons, mkS_nil, ↓reduceIte, eq_self', List.map_nil, beq_self_eq_true, Nat.reduceEqDiff, Nat.reduceAdd, Nat.succ_ne_self, vint, TyS, TyF, TBS, TBF, DcS, DcF, SvS, SvF, PfS, PfF, Bool.not_true, decide_true, Bool.or_false, Bool.or_self] <;> first | done | with_reducible rfl)), (by first | rfl | (simp only [LS, SS, SX, HS, mkS_cons, mkS_nil, ↓reduceIte, eq_self', List.map_nil, beq_self_eq_true, Nat.reduceEqDiff, Nat.reduceAdd, Nat.succ_ne_self, vint, TyS, TyF, TBS, TBF, DcS, DcF, SvS, SvF, PfS, PfF, Bool.not_true, decide_true, Bool.or_false, Bool.or_self] <;> first | done | with_reducible rfl)), (by first | rfl | (simp only [LS, SS, SX, HS, mkS_cons, mkS_nil, ↓reduceIte, eq_self', List.map_nil, beq_self_eq_true, Nat.reduceEqDiff, Nat.reduceAdd, Nat.succ_ne_self, vint, TyS, TyF, TBS, TBF, DcS, DcF, SvS, SvF, PfS, PfF, Bool.not_true, decide_true, Bool.or_false, Bool.or_self] <;> first | done | with_reducible rfl)), trivial⟩ (by first | rfl | (simp only [LS, SS, SX, HS, mkS_cons, mkS_nil, ↓reduceIte, eq_self', List.map_nil, beq_self_eq_true, Nat.reduceEqDiff, Nat.reduceAdd, Nat.succ_ne_self, vint, TyS, TyF, TBS, TBF, DcS, DcF, SvS, SvF, PfS, PfF, Bool.not_true, decide_true, Bool.or_false, Bool.or_self] <;> first | done | with_reducible rfl)) (by simp) (fun _ _ _ => by first | exact Nat.zero_le _ | (simp only [List.length_append]; omega)) ?_ ?_ ?_
    · exact fun i s hg => ⟨by simp only [PfS, List.nil_append]; repeat (first | exact hbel_nil _ | exact trivial | exact obel_row_nil _ | (refine HBel.cons ?_ ?_) | (refine obel_row_cons (by first | exact bel_TB _ _ | exact TB.bel _ _ | exact bel_Dc _ _ | exact Dc.bel _ _ | exact Pf.bel _ _ | exact bel_Pf _ _ | exact Sv.bel _ _ | exact bel_Pf_tok _ (by simp) | exact bel_ints0 _ _ | exact bel_slice_ty _ _ | exact Ty.bel _ _ | exact bel_ty_tok _ (by simp) | exact Bel.int _ _ | exact Bel.bool _ | exact Bel.str _ | exact Bel.nilp | exact Bel.nilfn | exact Bel.optr _ _ (by simp) | exact bel_nil0 _ | exact bel_nil1 _ | exact bel_fn0 _ _ | assumption) ?_)), by repeat (first | exact BelL.nil | refine BelL.cons (by first | exact bel_TB _ _ | exact TB.bel _ _ | exact bel_Dc _ _ | exact Dc.bel _ _ | exact Pf.bel _ _ | exact bel_Pf _ _ | exact Sv.bel _ _ | exact bel_Pf_tok _ (by simp) | exact bel_ints0 _ _ | exact bel_slice_ty _ _ | exact Ty.bel _ _ | exact bel_ty_tok _ (by simp) | exact Bel.int _ _ | exact Bel.bool _ | exact Bel.str _ | exact Bel.nilp | exact Bel.nilfn | exact Bel.optr _ _ (by simp) | exact bel_nil0 _ | exact bel_nil1 _ | exact bel_fn0 _ _ | assumption) ?_)⟩
    · intro i s hi hg
      have g1 := ix_nat hi
      have g2 := get_enc Pf.enc hi
      have hmem : a.prems[i] ∈ a.prems := List.getElem_mem hi
      have hsa := Pf.size_prems hmem
      -- region 5
      repeat (refine awp_seq ?_)
      refine e_eval (by simp only [asq, as0, as1, as2, awanted, aop, LS, SS, SX, HS, mkS_cons, mkS_nil, ↓reduceIte, eq_self', List.map_nil, beq_self_eq_true, Nat.reduceEqDiff, Nat.reduceAdd, Nat.reduceMul, Nat.reduceLT, Nat.reduceLeDiff, Nat.reducePow, Nat.reduceDiv, Nat.reduceMod, Nat.succ_ne_self, Nat.reduceBEq, Nat.reduceBNe, vint, TyS, TyF, TBS, TBF, DcS, DcF, SvS, SvF, PfS, PfF, Bool.not_true, decide_true, Bool.or_false, Bool.or_self, g1, Int.toNat_natCast, g2] <;> with_reducible rfl) (by decide) ?_
      -- region 6
      repeat (refine awp_seq ?_)
      refine awp_draw 0 (by kernel_rfl) ?_
      refine d_take (bm := [0, 1, 0, 7, 15, 0, 32, 0, 224, 480, 1023, 2047]) 10 (fresh := 0) (by kernel_rfl) (by simp only [dsq, ds0, ds1, ds2, ds3, awanted, hapB, effIds, effSet, nextFresh, ard, freshOk, isUnborn, aop, afldAddr, ajust, aload, aidxAddr, aidx, LS, SS, SX, HS, mkS_cons, mkS_nil, ↓reduceIte, eq_self', List.map_nil, beq_self_eq_true, Nat.reduceEqDiff, Nat.reduceAdd, Nat.reduceMul, Nat.reduceLT, Nat.reduceLeDiff, Nat.reducePow, Nat.reduceDiv, Nat.reduceMod, Nat.succ_ne_self, Nat.reduceBEq, Nat.reduceBNe, Tryti61, Tryte61, Trytz61, Trytp61, Tryti63, Trytf63, Trytz63, Trytp63, vint, TyS, TyF, TBS, TBF, DcS, DcF, SvS, SvF, PfS, PfF, Bool.not_true, decide_true, Bool.or_false, Bool.or_self, g1, Int.toNat_natCast, g2] <;> with_reducible rfl) (by decide) (by decide) ?_
      refine dops_keep (bm := [0, 1, 0, 7, 15, 0, 32, 0, 224, 480, 1023, 2047]) ([]) (by kernel_rfl) (by simp only [acall, awanted, LS, SS, SX, HS, mkS_cons, mkS_nil, ↓reduceIte, eq_self', List.map_nil, beq_self_eq_true, Nat.reduceEqDiff, Nat.reduceAdd, Nat.reduceMul, Nat.reduceLT, Nat.reduceLeDiff, Nat.reducePow, Nat.reduceDiv, Nat.reduceMod, Nat.succ_ne_self, Nat.reduceBEq, Nat.reduceBNe, vint, TyS, TyF, TBS, TBF, DcS, DcF, SvS, SvF, PfS, PfF, Bool.not_true, decide_true, Bool.or_false, Bool.or_self, g1, Int.toNat_natCast, g2] <;> with_reducible rfl) (by simp only [acall, awanted, LS, SS, SX, HS, mkS_cons, mkS_nil, ↓reduceIte, eq_self', List.map_nil, beq_self_eq_true, Nat.reduceEqDiff, Nat.reduceAdd, Nat.reduceMul, Nat.reduceLT, Nat.reduceLeDiff, Nat.reducePow, Nat.reduceDiv, Nat.reduceMod, Nat.succ_ne_self, Nat.reduceBEq, Nat.reduceBNe, vint, TyS, TyF, TBS, TBF, DcS, DcF, SvS, SvF, PfS, PfF, Bool.not_true, decide_true, Bool.or_false, Bool.or_self, g1, Int.toNat_natCast, g2]) (by decide) Trygo47 (fun H' _ => proofs_self k a.prems[i] (by omega) (hw.prems hmem) H') (by simp only [dsq, ds0, ds1, ds2, ds3, awanted, hapB, effIds, effSet, nextFresh, ard, freshOk, isUnborn, aop, LS, SS, SX, HS, mkS_cons, mkS_nil, ↓reduceIte, eq_self', List.map_nil, beq_self_eq_true, Nat.reduceEqDiff, Nat.reduceAdd, Nat.reduceMul, Nat.reduceLT, Nat.reduceLeDiff, Nat.reducePow, Nat.reduceDiv, Nat.reduceMod, Nat.succ_ne_self, Nat.reduceBEq, Nat.reduceBNe, vint, TyS, TyF, TBS, TBF, DcS, DcF, SvS, SvF, PfS, PfF, Bool.not_true, decide_true, Bool.or_false, Bool.or_self, g1, Int.toNat_natCast, g2] <;> first | done | rfl) ?_
      refine d_end (bm := [0, 1, 0, 7, 15, 0, 32, 0, 224, 480, 1023, 2047]) (fresh := 0) (by kernel_rfl) (by simp only [dsq, ds0, ds1, ds2, ds3, awanted, hapB, effIds, effSet, nextFresh, ard, freshOk, isUnborn, aop, aun, ajust, LS, SS, SX, HS, mkS_cons, mkS_nil, ↓reduceIte, eq_self', List.map_nil, beq_self_eq_true, Nat.reduceEqDiff, Nat.reduceAdd, Nat.reduceMul, Nat.reduceLT, Nat.reduceLeDiff, Nat.reducePow, Nat.reduceDiv, Nat.reduceMod, Nat.succ_ne_self, Nat.reduceBEq, Nat.reduceBNe, vint, TyS, TyF, TBS, TBF, DcS, DcF, SvS, SvF, PfS, PfF, Bool.not_true, decide_true, Bool.or_false, Bool.or_self, g1, Int.toNat_natCast, g2] <;> with_reducible rfl) (by decide) ?_
      repeat (refine awp_seq ?_)
      refine awp_cond_false rfl (by simp only [LS, SS, SX, HS, mkS_cons, mkS_nil, ↓reduceIte, eq_self', List.map_nil, beq_self_eq_true, Nat.reduceEqDiff, Nat.reduceAdd, Nat.succ_ne_self, vint, TyS, TyF, TBS, TBF, DcS, DcF, SvS, SvF, PfS, PfF, Bool.not_true, decide_true, Bool.or_false, Bool.or_self, g1, Int.toNat_natCast, g2] <;> with_reducible rfl) ?_
      repeat (refine awp_seq ?_)
      refine awp_skip ?_
      -- leaf 0 next0
      exact ⟨⟨rfl, rfl, trivial⟩, (), [], ⟨rfl, rfl, trivial⟩, by simp only [LS, SS, SX, HS, mkS_cons, mkS_nil, ↓reduceIte, eq_self', List.map_nil, beq_self_eq_true, Nat.reduceEqDiff, Nat.reduceAdd, Nat.succ_ne_self, vint, TyS, TyF, TBS, TBF, DcS, DcF, SvS, SvF, PfS, PfF] <;> rfl, trivial⟩
    · intro s hg
      -- region 9
      repeat (refine awp_seq ?_)
      refine e_eval (by simp only [asq, as0, as1, as2, awanted, aop, LS, SS, SX, HS, mkS_cons, mkS_nil, ↓reduceIte, eq_self', List.map_nil, beq_self_eq_true, Nat.reduceEqDiff, Nat.reduceAdd, Nat.reduceMul, Nat.reduceLT, Nat.reduceLeDiff, Nat.reducePow, Nat.reduceDiv, Nat.reduceMod, Nat.succ_ne_self, Nat.reduceBEq, Nat.reduceBNe, vint, TyS, TyF, TBS, TBF, DcS, DcF, SvS, SvF, PfS, PfF, Bool.not_true, decide_true, Bool.or_false, Bool.or_self] <;> with_reducible rfl) (by decide) ?_
      repeat (refine awp_seq ?_)
      -- leaf 1 ret
      refine awp_ret ⟨.inr rfl, _, rfl, ?_⟩
      rfl

end Go.Abs
