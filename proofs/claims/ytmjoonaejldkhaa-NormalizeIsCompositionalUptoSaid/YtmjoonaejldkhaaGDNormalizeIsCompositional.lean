/- Part 4 of a proof of the law NormalizeIsCompositional: Go data as trees, the walks of the functions that the law reaches, the plain laws. -/
import Derived.Test.YtmjoonaejldkhaaGCNormalizeIsCompositional
set_option linter.unusedVariables false
set_option linter.unusedSimpArgs false
set_option maxRecDepth 4000
namespace Go.Abs
/-- api.TraitBound, as data. -/
structure TB where
  t : Ty
  tr : Int
def TB.enc (t : TB) : PV := .agg [.int .i64 t.t.kind, .int .i64 t.t.id, .slice (t.t.args.map Ty.enc) .none, .int .i64 t.tr]
theorem TB.enc_eq (t : TB) : t.enc = .agg [.int .i64 t.t.kind, .int .i64 t.t.id, .slice (t.t.args.map Ty.enc) .none, .int .i64 t.tr] := rfl
theorem TB.enc_cells (t : TB) : t.enc.cells = [.int .i64 t.t.kind, .int .i64 t.t.id, .slice (t.t.args.map Ty.enc) .none, .int .i64 t.tr] := rfl
theorem TB.eta (t : TB) : TB.mk t.t t.tr = t := rfl
theorem TB.enc_drop1 (t : TB) : t.enc.drop1 = t.enc := by rw [TB.enc_eq]; rfl
theorem TB.enc_drop0 (t : TB) : t.enc.drop0 = t.enc := by rw [TB.enc_eq]; rfl
theorem TB.enc_len (t : TB) : t.enc.cells.length = 4 := by rw [TB.enc_cells]; rfl
theorem TB.enc_junk (t : TB) : t.enc.isJunk = false := by rw [TB.enc_eq]; rfl
theorem TB.enc_agg (t : TB) : PV.agg t.enc.cells = t.enc := by rw [TB.enc_cells, TB.enc_eq]
theorem TB.bel (n : Nat) (t : TB) : Bel n t.enc := .agg _ (by
  intro c hc
  simp only [List.mem_cons, List.not_mem_nil, or_false] at hc
  rcases hc with rfl | rfl | rfl | rfl
  · exact .int _ _
  · exact .int _ _
  · exact bel_slice_ty _ _
  · exact .int _ _)
theorem bel_TB (n : Nat) (us : List TB) : Bel n (.slice (us.map TB.enc) .none) := .slice _ _ (fun e he c hc => by
  obtain ⟨b, _, rfl⟩ := List.mem_map.1 he
  have := TB.bel n b
  rw [TB.enc_eq] at this hc
  cases this with | agg _ h => exact h c hc) (by simp)
theorem bel_TB_tok {n id : Nat} (us : List TB) (h : id < n) : Bel n (.slice (us.map TB.enc) (.tok id)) := by
  have := bel_TB n us
  cases this with
  | slice _ _ h1 h2 => exact .slice _ _ h1 (fun _ e => by cases e; exact h)
/-- Rules. -/
theorem TBS : (∀ t : TB, t.enc.cells = [.int .i64 t.t.kind, .int .i64 t.t.id, .slice (t.t.args.map Ty.enc) .none, .int .i64 t.tr]) ∧ (∀ t : TB, t.enc.isJunk = false) ∧ (∀ t : TB, t.enc.drop1 = t.enc) ∧ (∀ t : TB, t.enc.drop0 = t.enc) ∧ (∀ (t : TB) (b : Nat), t.enc.fits ⟨true, 4, b⟩ = true) :=
  ⟨TB.enc_cells, TB.enc_junk, TB.enc_drop1, TB.enc_drop0, fun t b => by rw [TB.enc_eq]; rfl⟩
theorem TBF : (∀ (tkind : Int) (tid : Int) (targs : List (Ty)) (tr : Int), PV.agg [.int .i64 tkind, .int .i64 tid, .slice (targs.map Ty.enc) .none, .int .i64 tr] = (TB.mk (Ty.mk tkind tid targs) tr).enc) ∧
    (∀ (tkind : Int) (tid : Int) (tr : Int), PV.agg [.int .i64 tkind, .int .i64 tid, .slice [] .none, .int .i64 tr] = (TB.mk (Ty.mk tkind tid []) tr).enc) ∧
    (∀ t : TB, TB.mk t.t t.tr = t) ∧
    (∀ (t : Ty) (tr : Int), (TB.mk t tr).t = t) ∧
    (∀ (t : Ty) (tr : Int), (TB.mk t tr).tr = tr) :=
  ⟨fun tkind tid targs tr => (TB.enc_eq (TB.mk (Ty.mk tkind tid targs) tr)).symm, fun tkind tid tr => (TB.enc_eq (TB.mk (Ty.mk tkind tid []) tr)).symm, TB.eta, fun _ _ => rfl, fun _ _ => rfl⟩
/-- No list is longer than the rows bear. -/
def TB.W (t : TB) : Prop := t.t.W
theorem TB.W.st_t {t : TB} (h : t.W) : t.t.W := h
theorem app_TB {us : List TB} {u : TB} {id : Nat} {tl : Tail} (hb : (us.length + 1) * 48 ≤ 2 ^ 47) (fresh : Nat) (H : Heap) (hH : H[id]? = some (.buf us.length 4)) :
    aappend ⟨true, 4, 48⟩ fresh H (.slice (us.map TB.enc) (.tok id)) (.slice [u.enc] tl) = some (.slice ((us ++ [u]).map TB.enc) (.tok id), some (id, .buf (us.length + 1) 4)) := by
  have hmx : maxLen = 9223372036854775807 := by decide
  rw [aappend_tok1 (n := us.length) hH (by simp) (by simpa using hb) (by simp; omega) (fun e he => by obtain ⟨v, _, rfl⟩ := List.mem_map.1 he; exact v.enc_len) u.enc_len (by rw [TB.enc_cells]; rfl) (by decide)]
  simp
/-- api.Declaration, as data. -/
structure Dc where
  ps : List (Int)
  t : Ty
  tr : Int
  bs : List (TB)
  ms : List (Int)
def Dc.enc (t : Dc) : PV := .agg [.slice (t.ps.map vint) .none, .int .i64 t.t.kind, .int .i64 t.t.id, .slice (t.t.args.map Ty.enc) .none, .int .i64 t.tr, .slice (t.bs.map TB.enc) .none, .slice (t.ms.map vint) .none]
theorem Dc.enc_eq (t : Dc) : t.enc = .agg [.slice (t.ps.map vint) .none, .int .i64 t.t.kind, .int .i64 t.t.id, .slice (t.t.args.map Ty.enc) .none, .int .i64 t.tr, .slice (t.bs.map TB.enc) .none, .slice (t.ms.map vint) .none] := rfl
theorem Dc.enc_cells (t : Dc) : t.enc.cells = [.slice (t.ps.map vint) .none, .int .i64 t.t.kind, .int .i64 t.t.id, .slice (t.t.args.map Ty.enc) .none, .int .i64 t.tr, .slice (t.bs.map TB.enc) .none, .slice (t.ms.map vint) .none] := rfl
theorem Dc.eta (t : Dc) : Dc.mk t.ps t.t t.tr t.bs t.ms = t := rfl
theorem Dc.enc_drop1 (t : Dc) : t.enc.drop1 = t.enc := by rw [Dc.enc_eq]; rfl
theorem Dc.enc_drop0 (t : Dc) : t.enc.drop0 = t.enc := by rw [Dc.enc_eq]; rfl
theorem Dc.enc_len (t : Dc) : t.enc.cells.length = 7 := by rw [Dc.enc_cells]; rfl
theorem Dc.enc_junk (t : Dc) : t.enc.isJunk = false := by rw [Dc.enc_eq]; rfl
theorem Dc.enc_agg (t : Dc) : PV.agg t.enc.cells = t.enc := by rw [Dc.enc_cells, Dc.enc_eq]
theorem Dc.bel (n : Nat) (t : Dc) : Bel n t.enc := .agg _ (by
  intro c hc
  simp only [List.mem_cons, List.not_mem_nil, or_false] at hc
  rcases hc with rfl | rfl | rfl | rfl | rfl | rfl | rfl
  · exact bel_ints0 _ _
  · exact .int _ _
  · exact .int _ _
  · exact bel_slice_ty _ _
  · exact .int _ _
  · exact bel_TB _ _
  · exact bel_ints0 _ _)
theorem bel_Dc (n : Nat) (us : List Dc) : Bel n (.slice (us.map Dc.enc) .none) := .slice _ _ (fun e he c hc => by
  obtain ⟨b, _, rfl⟩ := List.mem_map.1 he
  have := Dc.bel n b
  rw [Dc.enc_eq] at this hc
  cases this with | agg _ h => exact h c hc) (by simp)
theorem bel_Dc_tok {n id : Nat} (us : List Dc) (h : id < n) : Bel n (.slice (us.map Dc.enc) (.tok id)) := by
  have := bel_Dc n us
  cases this with
  | slice _ _ h1 h2 => exact .slice _ _ h1 (fun _ e => by cases e; exact h)
/-- Rules. -/
theorem DcS : (∀ t : Dc, t.enc.cells = [.slice (t.ps.map vint) .none, .int .i64 t.t.kind, .int .i64 t.t.id, .slice (t.t.args.map Ty.enc) .none, .int .i64 t.tr, .slice (t.bs.map TB.enc) .none, .slice (t.ms.map vint) .none]) ∧ (∀ t : Dc, t.enc.isJunk = false) ∧ (∀ t : Dc, t.enc.drop1 = t.enc) ∧ (∀ t : Dc, t.enc.drop0 = t.enc) ∧ (∀ (t : Dc) (b : Nat), t.enc.fits ⟨true, 7, b⟩ = true) :=
  ⟨Dc.enc_cells, Dc.enc_junk, Dc.enc_drop1, Dc.enc_drop0, fun t b => by rw [Dc.enc_eq]; rfl⟩
theorem DcF : (∀ (ps : List (Int)) (tkind : Int) (tid : Int) (targs : List (Ty)) (tr : Int) (bs : List (TB)) (ms : List (Int)), PV.agg [.slice (ps.map vint) .none, .int .i64 tkind, .int .i64 tid, .slice (targs.map Ty.enc) .none, .int .i64 tr, .slice (bs.map TB.enc) .none, .slice (ms.map vint) .none] = (Dc.mk ps (Ty.mk tkind tid targs) tr bs ms).enc) ∧
    (∀ (tkind : Int) (tid : Int) (targs : List (Ty)) (tr : Int) (bs : List (TB)) (ms : List (Int)), PV.agg [.slice [] .none, .int .i64 tkind, .int .i64 tid, .slice (targs.map Ty.enc) .none, .int .i64 tr, .slice (bs.map TB.enc) .none, .slice (ms.map vint) .none] = (Dc.mk [] (Ty.mk tkind tid targs) tr bs ms).enc) ∧
    (∀ (ps : List (Int)) (tkind : Int) (tid : Int) (tr : Int) (bs : List (TB)) (ms : List (Int)), PV.agg [.slice (ps.map vint) .none, .int .i64 tkind, .int .i64 tid, .slice [] .none, .int .i64 tr, .slice (bs.map TB.enc) .none, .slice (ms.map vint) .none] = (Dc.mk ps (Ty.mk tkind tid []) tr bs ms).enc) ∧
    (∀ (ps : List (Int)) (tkind : Int) (tid : Int) (targs : List (Ty)) (tr : Int) (ms : List (Int)), PV.agg [.slice (ps.map vint) .none, .int .i64 tkind, .int .i64 tid, .slice (targs.map Ty.enc) .none, .int .i64 tr, .slice [] .none, .slice (ms.map vint) .none] = (Dc.mk ps (Ty.mk tkind tid targs) tr [] ms).enc) ∧
    (∀ (ps : List (Int)) (tkind : Int) (tid : Int) (targs : List (Ty)) (tr : Int) (bs : List (TB)), PV.agg [.slice (ps.map vint) .none, .int .i64 tkind, .int .i64 tid, .slice (targs.map Ty.enc) .none, .int .i64 tr, .slice (bs.map TB.enc) .none, .slice [] .none] = (Dc.mk ps (Ty.mk tkind tid targs) tr bs []).enc) ∧
    (∀ (tkind : Int) (tid : Int) (tr : Int) (bs : List (TB)) (ms : List (Int)), PV.agg [.slice [] .none, .int .i64 tkind, .int .i64 tid, .slice [] .none, .int .i64 tr, .slice (bs.map TB.enc) .none, .slice (ms.map vint) .none] = (Dc.mk [] (Ty.mk tkind tid []) tr bs ms).enc) ∧
    (∀ (tkind : Int) (tid : Int) (targs : List (Ty)) (tr : Int) (ms : List (Int)), PV.agg [.slice [] .none, .int .i64 tkind, .int .i64 tid, .slice (targs.map Ty.enc) .none, .int .i64 tr, .slice [] .none, .slice (ms.map vint) .none] = (Dc.mk [] (Ty.mk tkind tid targs) tr [] ms).enc) ∧
    (∀ (tkind : Int) (tid : Int) (targs : List (Ty)) (tr : Int) (bs : List (TB)), PV.agg [.slice [] .none, .int .i64 tkind, .int .i64 tid, .slice (targs.map Ty.enc) .none, .int .i64 tr, .slice (bs.map TB.enc) .none, .slice [] .none] = (Dc.mk [] (Ty.mk tkind tid targs) tr bs []).enc) ∧
    (∀ (ps : List (Int)) (tkind : Int) (tid : Int) (tr : Int) (ms : List (Int)), PV.agg [.slice (ps.map vint) .none, .int .i64 tkind, .int .i64 tid, .slice [] .none, .int .i64 tr, .slice [] .none, .slice (ms.map vint) .none] = (Dc.mk ps (Ty.mk tkind tid []) tr [] ms).enc) ∧
    (∀ (ps : List (Int)) (tkind : Int) (tid : Int) (tr : Int) (bs : List (TB)), PV.agg [.slice (ps.map vint) .none, .int .i64 tkind, .int .i64 tid, .slice [] .none, .int .i64 tr, .slice (bs.map TB.enc) .none, .slice [] .none] = (Dc.mk ps (Ty.mk tkind tid []) tr bs []).enc) ∧
    (∀ (ps : List (Int)) (tkind : Int) (tid : Int) (targs : List (Ty)) (tr : Int), PV.agg [.slice (ps.map vint) .none, .int .i64 tkind, .int .i64 tid, .slice (targs.map Ty.enc) .none, .int .i64 tr, .slice [] .none, .slice [] .none] = (Dc.mk ps (Ty.mk tkind tid targs) tr [] []).enc) ∧
    (∀ (tkind : Int) (tid : Int) (tr : Int) (ms : List (Int)), PV.agg [.slice [] .none, .int .i64 tkind, .int .i64 tid, .slice [] .none, .int .i64 tr, .slice [] .none, .slice (ms.map vint) .none] = (Dc.mk [] (Ty.mk tkind tid []) tr [] ms).enc) ∧
    (∀ (tkind : Int) (tid : Int) (tr : Int) (bs : List (TB)), PV.agg [.slice [] .none, .int .i64 tkind, .int .i64 tid, .slice [] .none, .int .i64 tr, .slice (bs.map TB.enc) .none, .slice [] .none] = (Dc.mk [] (Ty.mk tkind tid []) tr bs []).enc) ∧
    (∀ (tkind : Int) (tid : Int) (targs : List (Ty)) (tr : Int), PV.agg [.slice [] .none, .int .i64 tkind, .int .i64 tid, .slice (targs.map Ty.enc) .none, .int .i64 tr, .slice [] .none, .slice [] .none] = (Dc.mk [] (Ty.mk tkind tid targs) tr [] []).enc) ∧
    (∀ (ps : List (Int)) (tkind : Int) (tid : Int) (tr : Int), PV.agg [.slice (ps.map vint) .none, .int .i64 tkind, .int .i64 tid, .slice [] .none, .int .i64 tr, .slice [] .none, .slice [] .none] = (Dc.mk ps (Ty.mk tkind tid []) tr [] []).enc) ∧
    (∀ (tkind : Int) (tid : Int) (tr : Int), PV.agg [.slice [] .none, .int .i64 tkind, .int .i64 tid, .slice [] .none, .int .i64 tr, .slice [] .none, .slice [] .none] = (Dc.mk [] (Ty.mk tkind tid []) tr [] []).enc) ∧
    (∀ t : Dc, Dc.mk t.ps t.t t.tr t.bs t.ms = t) ∧
    (∀ (ps : List (Int)) (t : Ty) (tr : Int) (bs : List (TB)) (ms : List (Int)), (Dc.mk ps t tr bs ms).ps = ps) ∧
    (∀ (ps : List (Int)) (t : Ty) (tr : Int) (bs : List (TB)) (ms : List (Int)), (Dc.mk ps t tr bs ms).t = t) ∧
    (∀ (ps : List (Int)) (t : Ty) (tr : Int) (bs : List (TB)) (ms : List (Int)), (Dc.mk ps t tr bs ms).tr = tr) ∧
    (∀ (ps : List (Int)) (t : Ty) (tr : Int) (bs : List (TB)) (ms : List (Int)), (Dc.mk ps t tr bs ms).bs = bs) ∧
    (∀ (ps : List (Int)) (t : Ty) (tr : Int) (bs : List (TB)) (ms : List (Int)), (Dc.mk ps t tr bs ms).ms = ms) :=
  ⟨fun ps tkind tid targs tr bs ms => (Dc.enc_eq (Dc.mk ps (Ty.mk tkind tid targs) tr bs ms)).symm, fun tkind tid targs tr bs ms => (Dc.enc_eq (Dc.mk [] (Ty.mk tkind tid targs) tr bs ms)).symm, fun ps tkind tid tr bs ms => (Dc.enc_eq (Dc.mk ps (Ty.mk tkind tid []) tr bs ms)).symm, fun ps tkind tid targs tr ms => (Dc.enc_eq (Dc.mk ps (Ty.mk tkind tid targs) tr [] ms)).symm, fun ps tkind tid targs tr bs => (Dc.enc_eq (Dc.mk ps (Ty.mk tkind tid targs) tr bs [])).symm, fun tkind tid tr bs ms => (Dc.enc_eq (Dc.mk [] (Ty.mk tkind tid []) tr bs ms)).symm, fun tkind tid targs tr ms => (Dc.enc_eq (Dc.mk [] (Ty.mk tkind tid targs) tr [] ms)).symm, fun tkind tid targs tr bs => (Dc.enc_eq (Dc.mk [] (Ty.mk tkind tid targs) tr bs [])).symm, fun ps tkind tid tr ms => (Dc.enc_eq (Dc.mk ps (Ty.mk tkind tid []) tr [] ms)).symm, fun ps tkind tid tr bs => (Dc.enc_eq (Dc.mk ps (Ty.mk tkind tid []) tr bs [])).symm, fun ps tkind tid targs tr => (Dc.enc_eq (Dc.mk ps (Ty.mk tkind tid targs) tr [] [])).symm, fun tkind tid tr ms => (Dc.enc_eq (Dc.mk [] (Ty.mk tkind tid []) tr [] ms)).symm, fun tkind tid tr bs => (Dc.enc_eq (Dc.mk [] (Ty.mk tkind tid []) tr bs [])).symm, fun tkind tid targs tr => (Dc.enc_eq (Dc.mk [] (Ty.mk tkind tid targs) tr [] [])).symm, fun ps tkind tid tr => (Dc.enc_eq (Dc.mk ps (Ty.mk tkind tid []) tr [] [])).symm, fun tkind tid tr => (Dc.enc_eq (Dc.mk [] (Ty.mk tkind tid []) tr [] [])).symm, Dc.eta, fun _ _ _ _ _ => rfl, fun _ _ _ _ _ => rfl, fun _ _ _ _ _ => rfl, fun _ _ _ _ _ => rfl, fun _ _ _ _ _ => rfl⟩
/-- No list is longer than the rows bear. -/
def Dc.W (t : Dc) : Prop := t.ps.length * 8 ≤ 2 ^ 47 ∧ t.t.W ∧ t.bs.length * 48 ≤ 2 ^ 47 ∧ (∀ u ∈ t.bs, u.W) ∧ t.ms.length * 8 ≤ 2 ^ 47
theorem Dc.W.len_ps {t : Dc} (h : t.W) : t.ps.length * 8 ≤ 2 ^ 47 := h.1
theorem Dc.W.max_ps {t : Dc} (h : t.W) : t.ps.length ≤ maxLen := by
  have em : maxLen = 9223372036854775807 := by decide
  have := h.len_ps; rw [em]; omega
theorem Dc.W.len_bs {t : Dc} (h : t.W) : t.bs.length * 48 ≤ 2 ^ 47 := h.2.2.1
theorem Dc.W.max_bs {t : Dc} (h : t.W) : t.bs.length ≤ maxLen := by
  have em : maxLen = 9223372036854775807 := by decide
  have := h.len_bs; rw [em]; omega
theorem Dc.W.el_bs {t : Dc} (h : t.W) : ∀ u ∈ t.bs, u.W := h.2.2.2.1
theorem Dc.W.len_ms {t : Dc} (h : t.W) : t.ms.length * 8 ≤ 2 ^ 47 := h.2.2.2.2
theorem Dc.W.max_ms {t : Dc} (h : t.W) : t.ms.length ≤ maxLen := by
  have em : maxLen = 9223372036854775807 := by decide
  have := h.len_ms; rw [em]; omega
theorem Dc.W.st_t {t : Dc} (h : t.W) : t.t.W := h.2.1
theorem app_Dc {us : List Dc} {u : Dc} {id : Nat} {tl : Tail} (hb : (us.length + 1) * 120 ≤ 2 ^ 47) (fresh : Nat) (H : Heap) (hH : H[id]? = some (.buf us.length 7)) :
    aappend ⟨true, 7, 120⟩ fresh H (.slice (us.map Dc.enc) (.tok id)) (.slice [u.enc] tl) = some (.slice ((us ++ [u]).map Dc.enc) (.tok id), some (id, .buf (us.length + 1) 7)) := by
  have hmx : maxLen = 9223372036854775807 := by decide
  rw [aappend_tok1 (n := us.length) hH (by simp) (by simpa using hb) (by simp; omega) (fun e he => by obtain ⟨v, _, rfl⟩ := List.mem_map.1 he; exact v.enc_len) u.enc_len (by rw [Dc.enc_cells]; rfl) (by decide)]
  simp
/-- traits.solver, as data. -/
structure Sv where
  ds : List (Dc)
  sas : List (TB)
def Sv.enc (t : Sv) : PV := .agg [.slice (t.ds.map Dc.enc) .none, .slice (t.sas.map TB.enc) .none]
theorem Sv.enc_eq (t : Sv) : t.enc = .agg [.slice (t.ds.map Dc.enc) .none, .slice (t.sas.map TB.enc) .none] := rfl
theorem Sv.enc_cells (t : Sv) : t.enc.cells = [.slice (t.ds.map Dc.enc) .none, .slice (t.sas.map TB.enc) .none] := rfl
theorem Sv.eta (t : Sv) : Sv.mk t.ds t.sas = t := rfl
theorem Sv.enc_drop1 (t : Sv) : t.enc.drop1 = t.enc := by rw [Sv.enc_eq]; rfl
theorem Sv.enc_drop0 (t : Sv) : t.enc.drop0 = t.enc := by rw [Sv.enc_eq]; rfl
theorem Sv.enc_len (t : Sv) : t.enc.cells.length = 2 := by rw [Sv.enc_cells]; rfl
theorem Sv.enc_junk (t : Sv) : t.enc.isJunk = false := by rw [Sv.enc_eq]; rfl
theorem Sv.enc_agg (t : Sv) : PV.agg t.enc.cells = t.enc := by rw [Sv.enc_cells, Sv.enc_eq]
theorem Sv.bel (n : Nat) (t : Sv) : Bel n t.enc := .agg _ (by
  intro c hc
  simp only [List.mem_cons, List.not_mem_nil, or_false] at hc
  rcases hc with rfl | rfl
  · exact bel_Dc _ _
  · exact bel_TB _ _)
theorem bel_Sv (n : Nat) (us : List Sv) : Bel n (.slice (us.map Sv.enc) .none) := .slice _ _ (fun e he c hc => by
  obtain ⟨b, _, rfl⟩ := List.mem_map.1 he
  have := Sv.bel n b
  rw [Sv.enc_eq] at this hc
  cases this with | agg _ h => exact h c hc) (by simp)
theorem bel_Sv_tok {n id : Nat} (us : List Sv) (h : id < n) : Bel n (.slice (us.map Sv.enc) (.tok id)) := by
  have := bel_Sv n us
  cases this with
  | slice _ _ h1 h2 => exact .slice _ _ h1 (fun _ e => by cases e; exact h)
/-- Rules. -/
theorem SvS : (∀ t : Sv, t.enc.cells = [.slice (t.ds.map Dc.enc) .none, .slice (t.sas.map TB.enc) .none]) ∧ (∀ t : Sv, t.enc.isJunk = false) ∧ (∀ t : Sv, t.enc.drop1 = t.enc) ∧ (∀ t : Sv, t.enc.drop0 = t.enc) ∧ (∀ (t : Sv) (b : Nat), t.enc.fits ⟨true, 2, b⟩ = true) :=
  ⟨Sv.enc_cells, Sv.enc_junk, Sv.enc_drop1, Sv.enc_drop0, fun t b => by rw [Sv.enc_eq]; rfl⟩
theorem SvF : (∀ (ds : List (Dc)) (sas : List (TB)), PV.agg [.slice (ds.map Dc.enc) .none, .slice (sas.map TB.enc) .none] = (Sv.mk ds sas).enc) ∧
    (∀ (sas : List (TB)), PV.agg [.slice [] .none, .slice (sas.map TB.enc) .none] = (Sv.mk [] sas).enc) ∧
    (∀ (ds : List (Dc)), PV.agg [.slice (ds.map Dc.enc) .none, .slice [] .none] = (Sv.mk ds []).enc) ∧
    (PV.agg [.slice [] .none, .slice [] .none] = (Sv.mk [] []).enc) ∧
    (∀ t : Sv, Sv.mk t.ds t.sas = t) ∧
    (∀ (ds : List (Dc)) (sas : List (TB)), (Sv.mk ds sas).ds = ds) ∧
    (∀ (ds : List (Dc)) (sas : List (TB)), (Sv.mk ds sas).sas = sas) :=
  ⟨fun ds sas => (Sv.enc_eq (Sv.mk ds sas)).symm, fun sas => (Sv.enc_eq (Sv.mk [] sas)).symm, fun ds => (Sv.enc_eq (Sv.mk ds [])).symm, (Sv.enc_eq (Sv.mk [] [])).symm, Sv.eta, fun _ _ => rfl, fun _ _ => rfl⟩
/-- No list is longer than the rows bear. -/
def Sv.W (t : Sv) : Prop := t.ds.length * 120 ≤ 2 ^ 47 ∧ (∀ u ∈ t.ds, u.W) ∧ t.sas.length * 48 ≤ 2 ^ 47 ∧ (∀ u ∈ t.sas, u.W)
theorem Sv.W.len_ds {t : Sv} (h : t.W) : t.ds.length * 120 ≤ 2 ^ 47 := h.1
theorem Sv.W.max_ds {t : Sv} (h : t.W) : t.ds.length ≤ maxLen := by
  have em : maxLen = 9223372036854775807 := by decide
  have := h.len_ds; rw [em]; omega
theorem Sv.W.el_ds {t : Sv} (h : t.W) : ∀ u ∈ t.ds, u.W := h.2.1
theorem Sv.W.len_sas {t : Sv} (h : t.W) : t.sas.length * 48 ≤ 2 ^ 47 := h.2.2.1
theorem Sv.W.max_sas {t : Sv} (h : t.W) : t.sas.length ≤ maxLen := by
  have em : maxLen = 9223372036854775807 := by decide
  have := h.len_sas; rw [em]; omega
theorem Sv.W.el_sas {t : Sv} (h : t.W) : ∀ u ∈ t.sas, u.W := h.2.2.2
theorem app_Sv {us : List Sv} {u : Sv} {id : Nat} {tl : Tail} (hb : (us.length + 1) * 48 ≤ 2 ^ 47) (fresh : Nat) (H : Heap) (hH : H[id]? = some (.buf us.length 2)) :
    aappend ⟨true, 2, 48⟩ fresh H (.slice (us.map Sv.enc) (.tok id)) (.slice [u.enc] tl) = some (.slice ((us ++ [u]).map Sv.enc) (.tok id), some (id, .buf (us.length + 1) 2)) := by
  have hmx : maxLen = 9223372036854775807 := by decide
  rw [aappend_tok1 (n := us.length) hH (by simp) (by simpa using hb) (by simp; omega) (fun e he => by obtain ⟨v, _, rfl⟩ := List.mem_map.1 he; exact v.enc_len) u.enc_len (by rw [Sv.enc_cells]; rfl) (by decide)]
  simp
/-- api.TraitProof, as data. -/
inductive Pf where
  | mk (t : Ty) (tr : Int) (im : Int) (bd : Int) (args : List (Ty)) (prems : List (Pf))
def Pf.t : Pf → Ty | .mk x0 _ _ _ _ _ => x0
def Pf.tr : Pf → Int | .mk _ x1 _ _ _ _ => x1
def Pf.im : Pf → Int | .mk _ _ x2 _ _ _ => x2
def Pf.bd : Pf → Int | .mk _ _ _ x3 _ _ => x3
def Pf.args : Pf → List (Ty) | .mk _ _ _ _ x4 _ => x4
def Pf.prems : Pf → List (Pf) | .mk _ _ _ _ _ x5 => x5
mutual
def Pf.enc : Pf → PV
  | .mk x0 x1 x2 x3 x4 x5 => .agg [.int .i64 x0.kind, .int .i64 x0.id, .slice (x0.args.map Ty.enc) .none, .int .i64 x1, .int .i64 x2, .int .i64 x3, .slice (x4.map Ty.enc) .none, .slice (pfEncs x5) .none]
def pfEncs : List Pf → List PV
  | [] => []
  | t :: ts => t.enc :: pfEncs ts
end
theorem pfEncs_eq (ts : List Pf) : pfEncs ts = ts.map Pf.enc := by
  induction ts with
  | nil => rfl
  | cons t ts ih => simp [pfEncs, ih]
theorem Pf.enc_eq (t : Pf) : t.enc = .agg [.int .i64 t.t.kind, .int .i64 t.t.id, .slice (t.t.args.map Ty.enc) .none, .int .i64 t.tr, .int .i64 t.im, .int .i64 t.bd, .slice (t.args.map Ty.enc) .none, .slice (t.prems.map Pf.enc) .none] := by
  cases t; simp [Pf.enc, pfEncs_eq, Pf.t, Pf.tr, Pf.im, Pf.bd, Pf.args, Pf.prems]
theorem Pf.enc_cells (t : Pf) : t.enc.cells = [.int .i64 t.t.kind, .int .i64 t.t.id, .slice (t.t.args.map Ty.enc) .none, .int .i64 t.tr, .int .i64 t.im, .int .i64 t.bd, .slice (t.args.map Ty.enc) .none, .slice (t.prems.map Pf.enc) .none] := by
  rw [Pf.enc_eq]; rfl
theorem Pf.eta (t : Pf) : Pf.mk t.t t.tr t.im t.bd t.args t.prems = t := by cases t; rfl
theorem Pf.enc_drop1 (t : Pf) : t.enc.drop1 = t.enc := by rw [Pf.enc_eq]; rfl
theorem Pf.enc_drop0 (t : Pf) : t.enc.drop0 = t.enc := by rw [Pf.enc_eq]; rfl
theorem Pf.enc_len (t : Pf) : t.enc.cells.length = 8 := by rw [Pf.enc_cells]; rfl
theorem Pf.enc_junk (t : Pf) : t.enc.isJunk = false := by rw [Pf.enc_eq]; rfl
theorem Pf.enc_agg (t : Pf) : PV.agg t.enc.cells = t.enc := by rw [Pf.enc_cells, Pf.enc_eq]
mutual
theorem Pf.bel (n : Nat) : ∀ t : Pf, Bel n t.enc
  | .mk x0 x1 x2 x3 x4 x5 => .agg _ (by
      intro c hc
      simp only [List.mem_cons, List.not_mem_nil, or_false] at hc
      rcases hc with rfl | rfl | rfl | rfl | rfl | rfl | rfl | rfl
      · exact .int _ _
      · exact .int _ _
      · exact bel_slice_ty _ _
      · exact .int _ _
      · exact .int _ _
      · exact .int _ _
      · exact bel_slice_ty _ _
      · exact .slice _ _ (pfEncsBel n x5) (fun id h => by cases h))
theorem pfEncsBel (n : Nat) : ∀ ts : List Pf, ∀ e ∈ pfEncs ts, ∀ c ∈ e.cells, Bel n c
  | [] => fun e he => by simp [pfEncs] at he
  | t :: ts => fun e he c hc => by
    simp only [pfEncs, List.mem_cons] at he
    rcases he with rfl | he
    · have h := Pf.bel n t
      rw [Pf.enc_eq] at h hc
      cases h with
      | agg _ q => exact q c hc
    · exact pfEncsBel n ts e he c hc
end
theorem bel_Pf (n : Nat) (ts : List Pf) : Bel n (.slice (ts.map Pf.enc) .none) := by
  rw [← pfEncs_eq]; exact .slice _ _ (pfEncsBel n ts) (fun id h => by cases h)
mutual
def Pf.size : Pf → Nat
  | .mk _ _ _ _ _ x5 => 1 + pfSizes x5
def pfSizes : List Pf → Nat
  | [] => 0
  | t :: ts => t.size + pfSizes ts
end
theorem pfSizes_mem {u : Pf} : ∀ {us : List Pf}, u ∈ us → u.size ≤ pfSizes us
  | [], h => by cases h
  | v :: us, h => by
    simp only [pfSizes]
    rcases List.mem_cons.1 h with rfl | h
    · omega
    · have := pfSizes_mem h; omega
theorem Pf.size_prems {t u : Pf} (h : u ∈ t.prems) : u.size < t.size := by
  cases t with
  | mk x0 x1 x2 x3 x4 x5 => have := pfSizes_mem (us := x5) h; simp only [Pf.size]; omega
theorem bel_Pf_tok {n id : Nat} (us : List Pf) (h : id < n) : Bel n (.slice (us.map Pf.enc) (.tok id)) := by
  have := bel_Pf n us
  cases this with
  | slice _ _ h1 h2 => exact .slice _ _ h1 (fun _ e => by cases e; exact h)
/-- Rules. -/
theorem PfS : (∀ t : Pf, t.enc.cells = [.int .i64 t.t.kind, .int .i64 t.t.id, .slice (t.t.args.map Ty.enc) .none, .int .i64 t.tr, .int .i64 t.im, .int .i64 t.bd, .slice (t.args.map Ty.enc) .none, .slice (t.prems.map Pf.enc) .none]) ∧ (∀ t : Pf, t.enc.isJunk = false) ∧ (∀ t : Pf, t.enc.drop1 = t.enc) ∧ (∀ t : Pf, t.enc.drop0 = t.enc) ∧ (∀ (t : Pf) (b : Nat), t.enc.fits ⟨true, 8, b⟩ = true) :=
  ⟨Pf.enc_cells, Pf.enc_junk, Pf.enc_drop1, Pf.enc_drop0, fun t b => by rw [Pf.enc_eq]; rfl⟩
theorem PfF : (∀ (tkind : Int) (tid : Int) (targs : List (Ty)) (tr : Int) (im : Int) (bd : Int) (args : List (Ty)) (prems : List (Pf)), PV.agg [.int .i64 tkind, .int .i64 tid, .slice (targs.map Ty.enc) .none, .int .i64 tr, .int .i64 im, .int .i64 bd, .slice (args.map Ty.enc) .none, .slice (prems.map Pf.enc) .none] = (Pf.mk (Ty.mk tkind tid targs) tr im bd args prems).enc) ∧
    (∀ (tkind : Int) (tid : Int) (tr : Int) (im : Int) (bd : Int) (args : List (Ty)) (prems : List (Pf)), PV.agg [.int .i64 tkind, .int .i64 tid, .slice [] .none, .int .i64 tr, .int .i64 im, .int .i64 bd, .slice (args.map Ty.enc) .none, .slice (prems.map Pf.enc) .none] = (Pf.mk (Ty.mk tkind tid []) tr im bd args prems).enc) ∧
    (∀ (tkind : Int) (tid : Int) (targs : List (Ty)) (tr : Int) (im : Int) (bd : Int) (prems : List (Pf)), PV.agg [.int .i64 tkind, .int .i64 tid, .slice (targs.map Ty.enc) .none, .int .i64 tr, .int .i64 im, .int .i64 bd, .slice [] .none, .slice (prems.map Pf.enc) .none] = (Pf.mk (Ty.mk tkind tid targs) tr im bd [] prems).enc) ∧
    (∀ (tkind : Int) (tid : Int) (targs : List (Ty)) (tr : Int) (im : Int) (bd : Int) (args : List (Ty)), PV.agg [.int .i64 tkind, .int .i64 tid, .slice (targs.map Ty.enc) .none, .int .i64 tr, .int .i64 im, .int .i64 bd, .slice (args.map Ty.enc) .none, .slice [] .none] = (Pf.mk (Ty.mk tkind tid targs) tr im bd args []).enc) ∧
    (∀ (tkind : Int) (tid : Int) (tr : Int) (im : Int) (bd : Int) (prems : List (Pf)), PV.agg [.int .i64 tkind, .int .i64 tid, .slice [] .none, .int .i64 tr, .int .i64 im, .int .i64 bd, .slice [] .none, .slice (prems.map Pf.enc) .none] = (Pf.mk (Ty.mk tkind tid []) tr im bd [] prems).enc) ∧
    (∀ (tkind : Int) (tid : Int) (tr : Int) (im : Int) (bd : Int) (args : List (Ty)), PV.agg [.int .i64 tkind, .int .i64 tid, .slice [] .none, .int .i64 tr, .int .i64 im, .int .i64 bd, .slice (args.map Ty.enc) .none, .slice [] .none] = (Pf.mk (Ty.mk tkind tid []) tr im bd args []).enc) ∧
    (∀ (tkind : Int) (tid : Int) (targs : List (Ty)) (tr : Int) (im : Int) (bd : Int), PV.agg [.int .i64 tkind, .int .i64 tid, .slice (targs.map Ty.enc) .none, .int .i64 tr, .int .i64 im, .int .i64 bd, .slice [] .none, .slice [] .none] = (Pf.mk (Ty.mk tkind tid targs) tr im bd [] []).enc) ∧
    (∀ (tkind : Int) (tid : Int) (tr : Int) (im : Int) (bd : Int), PV.agg [.int .i64 tkind, .int .i64 tid, .slice [] .none, .int .i64 tr, .int .i64 im, .int .i64 bd, .slice [] .none, .slice [] .none] = (Pf.mk (Ty.mk tkind tid []) tr im bd [] []).enc) ∧
    (∀ t : Pf, Pf.mk t.t t.tr t.im t.bd t.args t.prems = t) ∧
    (∀ (t : Ty) (tr : Int) (im : Int) (bd : Int) (args : List (Ty)) (prems : List (Pf)), (Pf.mk t tr im bd args prems).t = t) ∧
    (∀ (t : Ty) (tr : Int) (im : Int) (bd : Int) (args : List (Ty)) (prems : List (Pf)), (Pf.mk t tr im bd args prems).tr = tr) ∧
    (∀ (t : Ty) (tr : Int) (im : Int) (bd : Int) (args : List (Ty)) (prems : List (Pf)), (Pf.mk t tr im bd args prems).im = im) ∧
    (∀ (t : Ty) (tr : Int) (im : Int) (bd : Int) (args : List (Ty)) (prems : List (Pf)), (Pf.mk t tr im bd args prems).bd = bd) ∧
    (∀ (t : Ty) (tr : Int) (im : Int) (bd : Int) (args : List (Ty)) (prems : List (Pf)), (Pf.mk t tr im bd args prems).args = args) ∧
    (∀ (t : Ty) (tr : Int) (im : Int) (bd : Int) (args : List (Ty)) (prems : List (Pf)), (Pf.mk t tr im bd args prems).prems = prems) :=
  ⟨fun tkind tid targs tr im bd args prems => (Pf.enc_eq (Pf.mk (Ty.mk tkind tid targs) tr im bd args prems)).symm, fun tkind tid tr im bd args prems => (Pf.enc_eq (Pf.mk (Ty.mk tkind tid []) tr im bd args prems)).symm, fun tkind tid targs tr im bd prems => (Pf.enc_eq (Pf.mk (Ty.mk tkind tid targs) tr im bd [] prems)).symm, fun tkind tid targs tr im bd args => (Pf.enc_eq (Pf.mk (Ty.mk tkind tid targs) tr im bd args [])).symm, fun tkind tid tr im bd prems => (Pf.enc_eq (Pf.mk (Ty.mk tkind tid []) tr im bd [] prems)).symm, fun tkind tid tr im bd args => (Pf.enc_eq (Pf.mk (Ty.mk tkind tid []) tr im bd args [])).symm, fun tkind tid targs tr im bd => (Pf.enc_eq (Pf.mk (Ty.mk tkind tid targs) tr im bd [] [])).symm, fun tkind tid tr im bd => (Pf.enc_eq (Pf.mk (Ty.mk tkind tid []) tr im bd [] [])).symm, Pf.eta, fun _ _ _ _ _ _ => rfl, fun _ _ _ _ _ _ => rfl, fun _ _ _ _ _ _ => rfl, fun _ _ _ _ _ _ => rfl, fun _ _ _ _ _ _ => rfl, fun _ _ _ _ _ _ => rfl⟩
/-- No list is longer than the rows bear. -/
inductive Pf.W : Pf → Prop
  | mk {t : Ty} {tr : Int} {im : Int} {bd : Int} {args : List (Ty)} {prems : List (Pf)} (h0 : t.W) (h1 : args.length * 40 ≤ 2 ^ 47) (h2 : (∀ u ∈ args, u.W)) (h3 : prems.length * 112 ≤ 2 ^ 47) (kprems : ∀ u ∈ prems, Pf.W u) : Pf.W (.mk t tr im bd args prems)
theorem Pf.W.w0 {t : Pf} (h : t.W) : t.t.W := by cases h; assumption
theorem Pf.W.w1 {t : Pf} (h : t.W) : t.args.length * 40 ≤ 2 ^ 47 := by cases h; assumption
theorem Pf.W.w2 {t : Pf} (h : t.W) : (∀ u ∈ t.args, u.W) := by cases h; assumption
theorem Pf.W.w3 {t : Pf} (h : t.W) : t.prems.length * 112 ≤ 2 ^ 47 := by cases h; assumption
theorem Pf.W.prems {t u : Pf} (h : t.W) (hu : u ∈ t.prems) : u.W := by cases h with | mk => exact (by assumption : ∀ u ∈ _, Pf.W u) u hu
theorem Pf.W_iff {t : Ty} {tr : Int} {im : Int} {bd : Int} {args : List (Ty)} {prems : List (Pf)} : (Pf.mk t tr im bd args prems).W ↔ t.W ∧ args.length * 40 ≤ 2 ^ 47 ∧ (∀ u ∈ args, u.W) ∧ prems.length * 112 ≤ 2 ^ 47 ∧ (∀ u ∈ prems, u.W) := by
  constructor
  · intro h
    cases h
    simp_all
  · intro h
    constructor <;> simp_all
theorem Pf.W.len_args {t : Pf} (h : t.W) : t.args.length * 40 ≤ 2 ^ 47 := h.w1
theorem Pf.W.max_args {t : Pf} (h : t.W) : t.args.length ≤ maxLen := by
  have em : maxLen = 9223372036854775807 := by decide
  have := h.len_args; rw [em]; omega
theorem Pf.W.el_args {t : Pf} (h : t.W) : ∀ u ∈ t.args, u.W := h.w2
theorem Pf.W.len_prems {t : Pf} (h : t.W) : t.prems.length * 112 ≤ 2 ^ 47 := h.w3
theorem Pf.W.max_prems {t : Pf} (h : t.W) : t.prems.length ≤ maxLen := by
  have em : maxLen = 9223372036854775807 := by decide
  have := h.len_prems; rw [em]; omega
theorem Pf.W.st_t {t : Pf} (h : t.W) : t.t.W := h.w0
theorem app_Pf {us : List Pf} {u : Pf} {id : Nat} {tl : Tail} (hb : (us.length + 1) * 112 ≤ 2 ^ 47) (fresh : Nat) (H : Heap) (hH : H[id]? = some (.buf us.length 8)) :
    aappend ⟨true, 8, 112⟩ fresh H (.slice (us.map Pf.enc) (.tok id)) (.slice [u.enc] tl) = some (.slice ((us ++ [u]).map Pf.enc) (.tok id), some (id, .buf (us.length + 1) 8)) := by
  have hmx : maxLen = 9223372036854775807 := by decide
  rw [aappend_tok1 (n := us.length) hH (by simp) (by simpa using hb) (by simp; omega) (fun e he => by obtain ⟨v, _, rfl⟩ := List.mem_map.1 he; exact v.enc_len) u.enc_len (by rw [Pf.enc_cells]; rfl) (by decide)]
  simp
end Go.Abs
set_option linter.unusedVariables false
namespace Go.Abs
/-! The chapter 'traits': searching and checking proofs, as functions of trees. -/
def Pf.zero : Pf := .mk (.mk 0 0 []) 0 0 0 [] []
def boundP (t : Ty) (tr : Int) (b : TB) : Bool := decide (b.tr = tr) && b.t.eqb t
def implP (t : Ty) (tr : Int) (d : Dc) : Bool := decide (d.tr = tr) && !(d.ps.any fun p => !cpar p d.t) && (matchP d.ps t d.t).2
def Dc.zero : Dc := .mk [] (.mk 0 0 []) 0 [] []
def implIx (ds : List Dc) (t : Ty) (tr : Int) : Int := idxI (implP t tr) ds
def implD (ds : List Dc) (t : Ty) (tr : Int) : Dc := ds.getD (implIx ds t tr).toNat .zero
def implAs (ds : List Dc) (t : Ty) (tr : Int) : List Ty := if 0 ≤ implIx ds t tr then (matchP (implD ds t tr).ps t (implD ds t tr).t).1 else []
def solveT (ds : List Dc) (as' : List TB) : Nat → Ty → Int → Pf × Bool
  | 0, _, _ => (.zero, false)
  | n + 1, t, tr =>
    if t.kind = 0 ∨ tr < 0 then (.zero, false)
    else if 0 ≤ idxI (boundP t tr) as' then (.mk t tr (-1) (idxI (boundP t tr) as') [] [], true)
    else if implIx ds t tr < 0 ∨ 4 < (implD ds t tr).bs.length then (.zero, false)
    else if ((implD ds t tr).bs.all fun b => (solveT ds as' n (mapT (appG (implD ds t tr).ps (implAs ds t tr)) b.t) b.tr).2) = true then
      (.mk t tr (implIx ds t tr) (-1) (implAs ds t tr) ((implD ds t tr).bs.map fun b => (solveT ds as' n (mapT (appG (implD ds t tr).ps (implAs ds t tr)) b.t) b.tr).1), true)
    else (.zero, false)
def checkT (ds : List Dc) (as' : List TB) : Nat → Pf → Bool
  | 0, _ => false
  | n + 1, p =>
    if p.im = -1 then
      decide (0 ≤ p.bd ∧ p.bd < as'.length) && p.args.isEmpty && p.prems.isEmpty && (match as'[p.bd.toNat]? with | some b => decide (b.tr = p.tr) && b.t.eqb p.t | none => false)
    else if p.bd ≠ -1 ∨ p.im < 0 ∨ (ds.length : Int) ≤ p.im ∨ p.tr < 0 then false
    else match ds[p.im.toNat]? with
      | none => false
      | some d => decide (d.tr = p.tr) && decide (p.args.length = d.ps.length) && decide (p.prems.length = d.bs.length) && (mapT (appG d.ps p.args) d.t).eqb p.t &&
        ((d.bs.zip p.prems).all fun x => decide (x.2.tr = x.1.tr) && x.2.t.eqb (mapT (appG d.ps p.args) x.1.t) && checkT ds as' n x.2)
theorem idxI_get {α : Type} {p : α → Bool} {xs : List α} (h : 0 ≤ idxI p xs) : ∃ (hl : (idxI p xs).toNat < xs.length), p (xs[(idxI p xs).toNat]'hl) = true := by
  obtain ⟨i, e, hi, hp⟩ : ∃ i : Nat, idxI p xs = i ∧ ∃ hi : i < xs.length, p xs[i] = true := by
    unfold idxI at h ⊢
    cases hf : xs.findIdx? p with
    | none => rw [hf] at h; simp at h
    | some i =>
      obtain ⟨hi, hp, _⟩ := List.findIdx?_eq_some_iff_getElem.1 hf
      exact ⟨i, rfl, hi, hp⟩
  rw [e]
  exact ⟨hi, hp⟩
theorem implD_get {ds : List Dc} {t : Ty} {tr : Int} (h : 0 ≤ implIx ds t tr) : ds[(implIx ds t tr).toNat]? = some (implD ds t tr) ∧ implP t tr (implD ds t tr) = true := by
  obtain ⟨hl, hp⟩ := idxI_get h
  have hl : (implIx ds t tr).toNat < ds.length := hl
  have e : implD ds t tr = ds[(implIx ds t tr).toNat] := by unfold implD; rw [List.getD_eq_getElem?_getD, List.getElem?_eq_getElem hl]; rfl
  exact ⟨by rw [List.getElem?_eq_getElem hl, e], by rw [e]; exact hp⟩
theorem solve_ty (ds : List Dc) (as' : List TB) (n : Nat) (t : Ty) (tr : Int) (h : (solveT ds as' n t tr).2 = true) : (solveT ds as' n t tr).1.t = t ∧ (solveT ds as' n t tr).1.tr = tr := by
  cases n with
  | zero => simp [solveT] at h
  | succ n =>
    rw [solveT] at h ⊢
    split at h
    · simp at h
    · rename_i h1
      rw [if_neg h1]
      split at h
      · rename_i h2
        rw [if_pos h2]; exact ⟨rfl, rfl⟩
      · rename_i h2
        rw [if_neg h2]
        split at h
        · simp at h
        · rename_i h3
          rw [if_neg h3]
          split at h
          · rename_i h4
            rw [if_pos h4]; exact ⟨rfl, rfl⟩
          · simp at h
/-- A found proof is accepted, whatever the fuel. -/
theorem solve_check (ds : List Dc) (as' : List TB) : ∀ (n : Nat) (t : Ty) (tr : Int) (k : Nat), t.W → (∀ d ∈ ds, d.W) → (solveT ds as' n t tr).2 = true → (solveT ds as' n t tr).1.size ≤ k → checkT ds as' k (solveT ds as' n t tr).1 = true := by
  intro n
  induction n with
  | zero => intro t tr k _ _ h; simp [solveT] at h
  | succ n ih =>
    intro t tr k hw hds h hk
    rw [solveT] at h hk ⊢
    split at h
    · simp at h
    · rename_i h1
      rw [if_neg h1] at hk ⊢
      split at h
      · rename_i h2
        rw [if_pos h2] at hk ⊢
        cases k with
        | zero => simp [Pf.size] at hk
        | succ k =>
          obtain ⟨hl, hp⟩ := idxI_get h2
          have hlt := idxI_lt h2
          simp only [boundP, Bool.and_eq_true, decide_eq_true_eq] at hp
          rw [checkT, if_pos (by rfl)]
          simp only [Pf.bd, Pf.args, Pf.prems, Pf.tr, Pf.t, List.getElem?_eq_getElem hl, hp, h2, hlt]
          simp
      · rename_i h2
        rw [if_neg h2] at hk ⊢
        split at h
        · simp at h
        · rename_i h3
          rw [if_neg h3] at hk ⊢
          split at h
          · rename_i h4
            rw [if_pos h4] at hk ⊢
            have hix : 0 ≤ implIx ds t tr := by omega
            obtain ⟨hg, hp⟩ := implD_get hix
            have hlt := idxI_lt hix
            have hlt : implIx ds t tr < ds.length := hlt
            unfold implP at hp
            simp only [Bool.and_eq_true, decide_eq_true_eq] at hp
            obtain ⟨hl, he⟩ := match_apply _ _ _ hw hp.2
            have hmem : implD ds t tr ∈ ds := List.mem_of_getElem? hg
            have ha : implAs ds t tr = (matchP (implD ds t tr).ps t (implD ds t tr).t).1 := by unfold implAs; rw [if_pos hix]
            cases k with
            | zero => simp [Pf.size] at hk
            | succ k =>
              rw [checkT, if_neg (by simp only [Pf.im]; omega), if_neg (by simp only [Pf.bd, Pf.im, Pf.tr]; omega)]
              simp only [Pf.im, hg, Pf.tr, Pf.args, Pf.prems, Pf.t]
              rw [ha] at h4 hk ⊢
              simp only [hl, he, Ty.eqb_self, hp.1.1, decide_true, List.length_map, Bool.and_self, Bool.true_and]
              rw [List.all_eq_true]
              intro x hx
              obtain ⟨b, hb, rfl⟩ : ∃ b ∈ (implD ds t tr).bs, x = (b, (solveT ds as' n (mapT (appG (implD ds t tr).ps (matchP (implD ds t tr).ps t (implD ds t tr).t).1) b.t) b.tr).1) := by
                have := List.zip_map_right (l₁ := (implD ds t tr).bs) (l₂ := (implD ds t tr).bs) (f := fun b => (solveT ds as' n (mapT (appG (implD ds t tr).ps (matchP (implD ds t tr).ps t (implD ds t tr).t).1) b.t) b.tr).1)
                rw [this] at hx
                obtain ⟨⟨b, b'⟩, hb, rfl⟩ := List.mem_map.1 hx
                have hbb : b = b' ∧ b ∈ (implD ds t tr).bs := by
                  rw [List.zip_eq_zipWith] at hb
                  obtain ⟨i, hi, hie⟩ := List.mem_iff_getElem.1 hb
                  simp at hie
                  exact ⟨hie.1.symm.trans hie.2, by rw [← hie.1]; exact List.getElem_mem _⟩
                exact ⟨b, hbb.2, by simp [Prod.map, hbb.1]⟩
              have hbo := List.all_eq_true.1 h4 b hb
              have hWb : (mapT (appG (implD ds t tr).ps (matchP (implD ds t tr).ps t (implD ds t tr).t).1) b.t).W := app_W (matchP_W _ _ _ hw) ((hds _ hmem).el_bs b hb).st_t
              obtain ⟨e1, e2⟩ := solve_ty ds as' n _ _ hbo
              have hsz : (solveT ds as' n (mapT (appG (implD ds t tr).ps (matchP (implD ds t tr).ps t (implD ds t tr).t).1) b.t) b.tr).1.size ≤ k := by
                have hm : (solveT ds as' n (mapT (appG (implD ds t tr).ps (matchP (implD ds t tr).ps t (implD ds t tr).t).1) b.t) b.tr).1 ∈ ((implD ds t tr).bs.map fun b => (solveT ds as' n (mapT (appG (implD ds t tr).ps (matchP (implD ds t tr).ps t (implD ds t tr).t).1) b.t) b.tr).1) := List.mem_map.2 ⟨b, hb, rfl⟩
                have := pfSizes_mem hm
                simp only [Pf.size] at hk
                omega
              simp only [Pf.t, Pf.tr] at e1 e2
              simp only [e1, e2, decide_true, Ty.eqb_self, ih _ _ k hWb hds hbo hsz, Bool.and_self]
          · simp at h
/-- A type other than the proved one is refused. -/
theorem check_other (ds : List Dc) (as' : List TB) (n : Nat) (t o : Ty) (tr : Int) (k : Nat) (hw : t.W) (h : (solveT ds as' n t tr).2 = true) (ho : t.eqb o = false) :
    checkT ds as' k (.mk o (solveT ds as' n t tr).1.tr (solveT ds as' n t tr).1.im (solveT ds as' n t tr).1.bd (solveT ds as' n t tr).1.args (solveT ds as' n t tr).1.prems) = false := by
  cases n with
  | zero => simp [solveT] at h
  | succ n =>
    cases k with
    | zero => rfl
    | succ k =>
      rw [solveT] at h ⊢
      split at h
      · simp at h
      · rename_i h1
        rw [if_neg h1]
        split at h
        · rename_i h2
          rw [if_pos h2]
          obtain ⟨hl, hp⟩ := idxI_get h2
          simp only [boundP, Bool.and_eq_true, decide_eq_true_eq, Ty.eqb_iff] at hp
          rw [checkT, if_pos (by rfl)]
          simp only [Pf.bd, Pf.args, Pf.prems, Pf.tr, Pf.t, List.getElem?_eq_getElem hl, hp, ho]
          simp
        · rename_i h2
          rw [if_neg h2]
          split at h
          · simp at h
          · rename_i h3
            rw [if_neg h3]
            split at h
            · rename_i h4
              rw [if_pos h4]
              have hix : 0 ≤ implIx ds t tr := by omega
              obtain ⟨hg, hp⟩ := implD_get hix
              unfold implP at hp
              simp only [Bool.and_eq_true, decide_eq_true_eq] at hp
              obtain ⟨hl, he⟩ := match_apply _ _ _ hw hp.2
              have ha : implAs ds t tr = (matchP (implD ds t tr).ps t (implD ds t tr).t).1 := by unfold implAs; rw [if_pos hix]
              have hlt := idxI_lt hix
              have hlt : implIx ds t tr < ds.length := hlt
              rw [checkT, if_neg (by simp only [Pf.im]; omega), if_neg (by simp only [Pf.bd, Pf.im, Pf.tr]; omega)]
              simp only [Pf.im, hg, Pf.tr, Pf.args, Pf.prems, Pf.t]
              rw [ha, he, ho]
              simp
            · simp at h
/-- An assumption more. -/
theorem solve_more (ds : List Dc) (as' : List TB) (e : TB) : ∀ (n : Nat) (t : Ty) (tr : Int), (solveT ds as' n t tr).2 = true → (solveT ds (as' ++ [e]) n t tr).2 = true := by
  intro n
  induction n with
  | zero => intro t tr h; simp [solveT] at h
  | succ n ih =>
    intro t tr h
    rw [solveT] at h ⊢
    split at h
    · simp at h
    · rename_i h1
      rw [if_neg h1]
      by_cases h5 : 0 ≤ idxI (boundP t tr) (as' ++ [e])
      · rw [if_pos h5]
      · rw [if_neg h5]
        have h2 : ¬ 0 ≤ idxI (boundP t tr) as' := by
          rw [← ge_iff_le, ← decide_eq_true_eq (p := _ ≥ _), idxI_nonneg] at h5 ⊢
          simp only [List.any_append, Bool.or_eq_true, not_or] at h5
          exact h5.1
        rw [if_neg h2] at h
        split at h
        · simp at h
        · rename_i h3
          rw [if_neg h3]
          split at h
          · rename_i h4
            rw [if_pos]
            rw [List.all_eq_true] at h4 ⊢
            exact fun b hb => ih _ _ (h4 b hb)
          · simp at h
theorem solve_extra (ds : List Dc) (as' : List TB) (e : TB) (n : Nat) (h1 : ¬ e.t.kind = 0) (h2 : ¬ e.tr < 0) : (solveT ds (as' ++ [e]) (n + 1) e.t e.tr).2 = true := by
  rw [solveT, if_neg (by omega), if_pos]
  rw [← ge_iff_le, ← decide_eq_true_eq (p := _ ≥ _), idxI_nonneg]
  simp [boundP, Ty.eqb_self]
end Go.Abs
set_option linter.unusedVariables false
namespace Go.Abs
section
variable {P : Program} {N nb : Nat} {Q : Post}
/-- Paths that meet: from here on a state, its slots and its heap alone. -/
theorem awp_join {x y : Code} {T : Slots} {H : Heap} {σ : Type} (rep : σ → List (Nat × PV)) (hp : σ → Heap) (good : σ → Prop)
    (bel : ∀ s, good s → nb ≤ (hp s).length ∧ HBel (hp s).length (hp s) ∧ BelL (hp s).length (rep s))
    (hx : AWP P N nb x (thenQ (fun T' H' => ∃ s L, Fits T' (rep s) ∧ H' = hp s ++ L ∧ good s) Q) T H)
    (hy : ∀ s, good s → AWP P N nb y Q (mkS (rep s)) (hp s)) : AWP P N nb (.seq x y) Q T H := by
  refine awp_seq (hx.mono fun e T' H' he => ?_)
  cases e with
  | normal =>
    obtain ⟨s, L, h1, h2, h3⟩ := he
    obtain ⟨b1, b2, b3⟩ := bel s h3
    exact awp_fix (rep s) h1 h2 b1 b2 b3 (hy s h3)
  | _ => exact he
theorem awp_joinT {x y : Code} {Q0 : Post} {T : Slots} {H : Heap} {σ : Type} (rep : σ → List (Nat × PV)) (hp : σ → Heap) (good : σ → Prop)
    (bel : ∀ s, good s → nb ≤ (hp s).length ∧ HBel (hp s).length (hp s) ∧ BelL (hp s).length (rep s))
    (hx : AWP P N nb x (thenQ (fun T' H' => ∃ s L, Fits T' (rep s) ∧ H' = hp s ++ L ∧ good s) Q) T H)
    (hy : ∀ s, good s → AWP P N nb y Q0 (mkS (rep s)) (hp s)) : AWP P N nb x (thenQ (AWP P N nb y Q0) Q) T H := by
  refine hx.mono fun e T' H' he => ?_
  cases e with
  | normal =>
    obtain ⟨s, L, h1, h2, h3⟩ := he
    obtain ⟨b1, b2, b3⟩ := bel s h3
    exact awp_fix (rep s) h1 h2 b1 b2 b3 (hy s h3)
  | _ => exact he
end
theorem aops_gskip {P : Program} {N nb : Nat} {ops : Array Oper} {Q : Exit → Slots → Heap → Prop} {o : Oper} {l : List Oper} {T : Slots} {G : Nat → Bool} {H : Heap} {r : PV} (hc : gcond ops.toList T G N o = some false)
    (h : AOps P N nb ops Q l (msk (.tup []) (updO T o.dst r) (ugO G o.dst false)) H) : AOps P N nb ops Q (o :: l) (msk (.tup []) T G) H := by
  rw [msk_put_false] at h
  exact aops_skipU (fun E a ht => gcond_false ht hc) h
theorem guard_sl {P : Program} {w : World} (op : BinOp) (t : TypeId) (x y : Operand) (a b : Option Addr) (n m k l : Nat) : (eqGuard op t x y (.slice a n m) (.slice b k l)).run P w = .ok () w := by
  cases op <;> rfl
/-- A comparison of a slice with nil. -/
theorem aops_nilcmp {P : Program} {N nb : Nat} {ops : Array Oper} {Q : Post} {o : Oper} {l : List Oper} {T : Slots} {H : Heap} {t y : TypeId} {x : Operand} {es : List PV} {tl : Tail}
    (hop : o.op = .binOp .eql t x (.const (.slice none 0 0)) y) (hx : aev T x = .slice es tl) (hw : awanted ops.toList T N o = some true) (hok : okOpnd N x = true) (hte : (telem P t).isSome = true)
    (h : ∀ b, (es ≠ [] → b = false) → AOps P N nb ops Q l (updO T o.dst (.bool b)) H) : AOps P N nb ops Q (o :: l) T H := by
  intro E a ho hH ht
  have hr := vrel_eval ht x hok
  rw [hx] at hr
  obtain ⟨e, hu⟩ := telem_isSome hte
  obtain ⟨b, hb, hres⟩ : ∃ b, (es ≠ [] → b = false) ∧ (execOp a.eval o).run P E.w = .ok (.value (.bool b)) E.w := by
    have hc : a.eval (.const (.slice none 0 0)) = .slice none 0 0 := rfl
    generalize hvx : a.eval x = vx at hr
    cases hr with
    | nils _ _ =>
      refine ⟨true, fun h => (h rfl).elim, ?_⟩
      have he : (Op.equal t (.slice none 0 0) (.slice none 0 0)).run P E.w = .ok true E.w := by
        have key : ∀ d, (Op.equalIn (d + 1) t (.slice none 0 0) (.slice none 0 0)).run P E.w = .ok true E.w := by
          intro d; simp only [Op.equalIn, Sem.run_bind, run_under hu, Result.andThen_ok, Sem.run_pure, Option.isNone_none]
        exact key 9999
      unfold execOp
      rw [hop]
      simp only [Sem.run_bind, hc, hvx, guard_sl, Result.andThen_ok, binOp, he, Sem.run_pure]
    | slice a' len cap sz _ _ vs h1 h2 h3 h4 h5 h6 h7 =>
      refine ⟨false, fun _ => rfl, ?_⟩
      have he : (Op.equal t (.slice (some a') len cap) (.slice none 0 0)).run P E.w = .ok false E.w := by
        have key : ∀ d, (Op.equalIn (d + 1) t (.slice (some a') len cap) (.slice none 0 0)).run P E.w = .ok false E.w := by
          intro d; simp only [Op.equalIn, Sem.run_bind, run_under hu, Result.andThen_ok, Sem.run_pure]
        exact key 9999
      unfold execOp
      rw [hop]
      simp only [Sem.run_bind, hc, hvx, guard_sl, Result.andThen_ok, binOp, he, Sem.run_pure]
  have hn := h b hb E (a.put o.dst (.bool b)) ho hH (ht.put o.dst (.bool b))
  refine wpList_cons (awanted_sound ht hw) ?_
  unfold Oper.wp
  rw [hres]
  exact hn
/-- An empty slice, and a list behind it. -/
theorem aappend_all {i : TI} {fresh : Nat} {H : Heap} {ys : List PV} {tl : Tail} (hne : ys ≠ []) (hb : ys.length * i.bytes ≤ 2 ^ 47) (hm : ys.length ≤ maxLen)
    (hys : ∀ e ∈ ys, e.cells.length = i.sz ∧ e.cells.all PV.isCell = true) (hs : 0 < i.sz) :
    aappend i fresh H (.slice [] .full) (.slice ys tl) = some (.slice ys (.tok fresh), some (fresh, .buf ys.length i.sz)) := by
  unfold aappend
  simp only [if_neg hne, List.length_nil, Nat.zero_add]
  rw [if_pos ⟨hb, hm, by simp, hys, hs⟩]
  rfl
section
variable {P : Program} {N nb : Nat} {Q : Post}
/-- An operation that lays something new at a place that is named ahead. -/
theorem aops_opF {ops : Array Oper} {o : Oper} {l : List Oper} {T : Slots} {H : Heap} (mt : Bool) (id : Nat) {v : PV} {e : Eff} {H' : Heap} (hid : H[id]? = some .unborn) (hw : awanted ops.toList T N o = some true) (hok : okOp N o.op = true)
    (hv : aop P mt id T H o.op = some (v, e)) (hH' : e.app H = H') (h : AOps P N nb ops Q l (updO T o.dst v) H') : AOps P N nb ops Q (o :: l) T H := by
  refine aops_done hw (fun E a ho hH ht => ?_) h
  subst hH
  obtain ⟨E', val, h1, h2, h3, h4, h5⟩ := aop_sound ho ht hok hv (fun ob he => hid)
  exact ⟨E', val, h1, h2, h3, h4.trans hH', h5⟩
/-- A slice in a slot, made a token's at a place that is named ahead. -/
theorem awp_retokF {c : Code} {T : Slots} {H : Heap} (id t sz : Nat) {es : List PV} (hid : H[id]? = some .unborn) (ht : T t = .slice es .full) (h : AWP P N nb c Q (upd T t (.slice es (.tok id))) (H.set id (.buf es.length sz))) : AWP P N nb c Q T H := by
  intro E a ho hH hr
  subst hH
  have ho2 := Env.Ok.retok (n := es.length) (sz := sz) ho hid
  have hle := Env.retok_le (n := es.length) (sz := sz) hid
  have hH2 : (E.retok id es.length sz).H = E.H.set id (.buf es.length sz) := rfl
  have hlen := len_of_get hid
  have := h (E.retok id es.length sz) a ho2 hH2 ⟨hr.size, hr.defers, fun i hi => ?_⟩
  · exact wp_mono this fun e a w hl => lift_mono (hle.leN nb) (fun _ _ _ q => q) hl
  · have h0 := (hr.rel i hi).mono hle.view
    unfold upd
    split
    · rename_i e
      subst e
      rw [ht] at h0
      refine h0.retok ⟨.buf es.length sz, by rw [hH2]; simp [hlen], by simp⟩ (fun t e => ?_)
      simp only [Env.view, hH2, List.getElem?_set_self hlen, Option.some.injEq] at e
      subst e; exact Nat.le_refl _
    · exact h0
end
/-- A call in a region that draws, which lays something new at a place that is named ahead. -/
theorem dops_fx {P : Program} {N : Nat} {Q : Post} {ops : Array Oper} {bm : List Nat} {k : Nat} {o : Oper} {l : List Oper} {prev : Prev} {T : Slots} {H : Heap} {f : FuncId} {args : List PV} {r : PV} (rd : List Nat) (id : Nat) (ob : AObj) (hbm : bmasks ops.toList = bm) (hcall : acall T o.op = some (f, args)) (hw : awanted ops.toList T N o = some true) (hok : okOp N o.op = true)
    (hgo : goFn P f = true) (hc : ∀ H' : Heap, (∀ id ∈ rd, H'[id]? = H[id]?) → ACalls P f args H' fun r' H'' => r' = r ∧ H'' = H'.set id ob) (hid : id ∈ rd)
    (hap : hapB (bm.getD k 0) prev rd [id] = true) (h : DOps P N ops Q (k + 1) l (prev ++ [(k, rd, [id])]) (updO T o.dst r) (H.set id ob)) : DOps P N ops Q k (o :: l) prev T H := by
  obtain ⟨fo, xs, ts, pf, pc, h1, h2, h3⟩ := acall_spec hcall
  exact dops_call (eff := [(id, ob)]) (rd := rd) h1 hw hok h2 hgo h3 (by simp [hid]) (fun H' hH _ => hc H' hH) (hapB_spec (eff := [(id, ob)]) (by rw [hbm]; exact hap)) h
end Go.Abs
set_option linter.unusedVariables false
set_option linter.unusedSimpArgs false
set_option maxRecDepth 4000
namespace Go.Abs
open Go.Proofs

theorem indexFuncTB {f : FuncId} {caps : List PV} {H : Heap} {us : List TB} {p : TB → Bool} (hc : CloB Try.prog TB.enc f caps H us p) (hl : us.length ≤ maxLen) : ACalls Try.prog 127 [.slice (us.map TB.enc) .none, .fn (.func f) [] caps] H fun r' H' => r' = vint (idxI p us) ∧ H' = H := by
  have hgo := hc.go
  refine keeps_of (N := 19) Try.func127 rfl rfl (by simp) (.int _ _) fun hb' => ?_
  -- region 0
  repeat (refine awp_seq ?_)
  refine e_eval (by simp only [asq, as0, as1, as2, awanted, aop, LS, SS, SX, HS, mkS_cons, mkS_nil, ↓reduceIte, eq_self', List.map_nil, beq_self_eq_true, Nat.reduceEqDiff, Nat.reduceAdd, Nat.reduceMul, Nat.reduceLT, Nat.reduceLeDiff, Nat.reducePow, Nat.reduceDiv, Nat.reduceMod, Nat.succ_ne_self, Nat.reduceBEq, Nat.reduceBNe, vint, TyS, TyF, TBS, TBF, DcS, DcF, SvS, SvF, PfS, PfF] <;> with_reducible rfl) (by decide) ?_
  -- region 1
  repeat (refine awp_seq ?_)
  refine e_eval (by simp only [asq, as0, as1, as2, awanted, aop, abuiltin, LS, SS, SX, HS, mkS_cons, mkS_nil, ↓reduceIte, eq_self', List.map_nil, beq_self_eq_true, Nat.reduceEqDiff, Nat.reduceAdd, Nat.reduceMul, Nat.reduceLT, Nat.reduceLeDiff, Nat.reducePow, Nat.reduceDiv, Nat.reduceMod, Nat.succ_ne_self, Nat.reduceBEq, Nat.reduceBNe, Tryti60, Tryte60, Trytz60, Trytp60, Tryti74, Trytf74, Trytz74, Trytp74, vint, TyS, TyF, TBS, TBF, DcS, DcF, SvS, SvF, PfS, PfF] <;> with_reducible rfl) (by decide) ?_
  repeat (refine awp_seq ?_)
  refine awp_forS (σ := Unit) (us.length) (fun (s : Unit) => [(0, .slice (us.map TB.enc) .none), (1, .fn (.func f) [] caps)]) [0, 1] (H) (fun (s : Unit) => []) (fun (i : Nat) (s : Unit) => (us.take i).any p = false) (()) ([]) rfl rfl rfl rfl rfl rfl rfl rfl rfl (by decide) (by decide) (by decide) (fun _ => rfl) (hl) ⟨(by first | rfl | (simp only [LS, SS, SX, HS, mkS_cons, mkS_nil, ↓reduceIte, eq_self', List.map_nil, beq_self_eq_true, Nat.reduceEqDiff, Nat.reduceAdd, Nat.succ_ne_self, vint, TyS, TyF, TBS, TBF, DcS, DcF, SvS, SvF, PfS, PfF] <;> first | done | with_reducible rfl)), (by first | rfl | (simp only [LS, SS, SX, HS, mkS_cons, mkS_nil, ↓reduceIte, eq_self', List.map_nil, beq_self_eq_true, Nat.reduceEqDiff, Nat.reduceAdd, Nat.succ_ne_self, vint, TyS, TyF, TBS, TBF, DcS, DcF, SvS, SvF, PfS, PfF] <;> first | done | with_reducible rfl)), (by first | rfl | (simp only [LS, SS, SX, HS, mkS_cons, mkS_nil, ↓reduceIte, eq_self', List.map_nil, beq_self_eq_true, Nat.reduceEqDiff, Nat.reduceAdd, Nat.succ_ne_self, vint, TyS, TyF, TBS, TBF, DcS, DcF, SvS, SvF, PfS, PfF] <;> first | done | with_reducible rfl)), (by first | rfl | (simp only [LS, SS, SX, HS, mkS_cons, mkS_nil, ↓reduceIte, eq_self', List.map_nil, beq_self_eq_true, Nat.reduceEqDiff, Nat.reduceAdd, Nat.succ_ne_self, vint, TyS, TyF, TBS, TBF, DcS, DcF, SvS, SvF, PfS, PfF] <;> first | done | with_reducible rfl)), trivial⟩ (by first | rfl | (simp only [LS, SS, SX, HS, mkS_cons, mkS_nil, ↓reduceIte, eq_self', List.map_nil, beq_self_eq_true, Nat.reduceEqDiff, Nat.reduceAdd, Nat.succ_ne_self, vint, TyS, TyF, TBS, TBF, DcS, DcF, SvS, SvF, PfS, PfF] <;> first | done | with_reducible rfl)) (by simp) (fun _ _ _ => by first | exact Nat.zero_le _ | (simp only [List.length_append]; omega)) ?_ ?_ ?_
  · exact fun i s hg => ⟨by simp only [List.append_nil]; exact hb', .cons (bel_TB _ _) (.cons (.fn _ _ _ (by simp) (fun c hc' => (hc.bel c hc').mono (by simp))) .nil)⟩
  · intro i s hi hg
    have g1 := ix_nat hi
    have g2 := get_enc TB.enc hi
    -- region 3
    repeat (refine awp_seq ?_)
    refine e_eval (by simp only [asq, as0, as1, as2, awanted, aop, LS, SS, SX, HS, mkS_cons, mkS_nil, ↓reduceIte, eq_self', List.map_nil, beq_self_eq_true, Nat.reduceEqDiff, Nat.reduceAdd, Nat.reduceMul, Nat.reduceLT, Nat.reduceLeDiff, Nat.reducePow, Nat.reduceDiv, Nat.reduceMod, Nat.succ_ne_self, Nat.reduceBEq, Nat.reduceBNe, vint, TyS, TyF, TBS, TBF, DcS, DcF, SvS, SvF, PfS, PfF, g1, Int.toNat_natCast, g2] <;> with_reducible rfl) (by decide) ?_
    -- region 4
    repeat (refine awp_seq ?_)
    refine awp_region ?_
    refine e_take 5 (by simp only [asq, as0, as1, as2, awanted, aop, aidxAddr, aidx, ajust, aload, LS, SS, SX, HS, mkS_cons, mkS_nil, ↓reduceIte, eq_self', List.map_nil, beq_self_eq_true, Nat.reduceEqDiff, Nat.reduceAdd, Nat.reduceMul, Nat.reduceLT, Nat.reduceLeDiff, Nat.reducePow, Nat.reduceDiv, Nat.reduceMod, Nat.succ_ne_self, Nat.reduceBEq, Nat.reduceBNe, Tryti60, Tryte60, Trytz60, Trytp60, Tryti74, Trytf74, Trytz74, Trytp74, vint, TyS, TyF, TBS, TBF, DcS, DcF, SvS, SvF, PfS, PfF, g1, Int.toNat_natCast, g2] <;> with_reducible rfl) (by decide) ?_
    refine aops_pure (by simp only [acall, awanted, LS, SS, SX, HS, mkS_cons, mkS_nil, ↓reduceIte, eq_self', List.map_nil, beq_self_eq_true, Nat.reduceEqDiff, Nat.reduceAdd, Nat.reduceMul, Nat.reduceLT, Nat.reduceLeDiff, Nat.reducePow, Nat.reduceDiv, Nat.reduceMod, Nat.succ_ne_self, Nat.reduceBEq, Nat.reduceBNe, vint, TyS, TyF, TBS, TBF, DcS, DcF, SvS, SvF, PfS, PfF, g1, Int.toNat_natCast, g2] <;> with_reducible rfl) (by simp only [acall, awanted, LS, SS, SX, HS, mkS_cons, mkS_nil, ↓reduceIte, eq_self', List.map_nil, beq_self_eq_true, Nat.reduceEqDiff, Nat.reduceAdd, Nat.reduceMul, Nat.reduceLT, Nat.reduceLeDiff, Nat.reducePow, Nat.reduceDiv, Nat.reduceMod, Nat.succ_ne_self, Nat.reduceBEq, Nat.reduceBNe, vint, TyS, TyF, TBS, TBF, DcS, DcF, SvS, SvF, PfS, PfF, g1, Int.toNat_natCast, g2]) (by decide) (by assumption) (hc.call _ (List.getElem_mem hi)) ?_
    refine aops_nil ?_
    repeat (refine awp_seq ?_)
    refine awp_cond rfl (by simp only [LS, SS, SX, HS, mkS_cons, mkS_nil, ↓reduceIte, eq_self', List.map_nil, beq_self_eq_true, Nat.reduceEqDiff, Nat.reduceAdd, Nat.succ_ne_self, vint, TyS, TyF, TBS, TBF, DcS, DcF, SvS, SvF, PfS, PfF, g1, Int.toNat_natCast, g2] <;> with_reducible rfl) (fun b0 => ?_) (fun b0 => ?_)
    · -- if t16
      -- region 5
      repeat (refine awp_seq ?_)
      refine e_eval (by simp only [asq, as0, as1, as2, awanted, aop, LS, SS, SX, HS, mkS_cons, mkS_nil, ↓reduceIte, eq_self', List.map_nil, beq_self_eq_true, Nat.reduceEqDiff, Nat.reduceAdd, Nat.reduceMul, Nat.reduceLT, Nat.reduceLeDiff, Nat.reducePow, Nat.reduceDiv, Nat.reduceMod, Nat.succ_ne_self, Nat.reduceBEq, Nat.reduceBNe, vint, TyS, TyF, TBS, TBF, DcS, DcF, SvS, SvF, PfS, PfF, g1, Int.toNat_natCast, g2] <;> with_reducible rfl) (by decide) ?_
      repeat (refine awp_seq ?_)
      -- leaf 0 ret
      refine awp_ret ⟨.inr rfl, _, _, rfl, ?_, (by first | exact (List.append_nil _).symm | rfl)⟩
      rw [idxI_at hi b0 hg]; rfl
    · -- else t16
      repeat (refine awp_seq ?_)
      refine awp_skip ?_
      -- leaf 1 next0
      exact ⟨⟨rfl, rfl, trivial⟩, (), [], ⟨rfl, rfl, trivial⟩, by simp only [List.append_nil], any_take_succ hi hg b0⟩
  · intro s hg
    rw [List.take_length] at hg
    -- region 7
    repeat (refine awp_seq ?_)
    refine e_eval (by simp only [asq, as0, as1, as2, awanted, aop, LS, SS, SX, HS, mkS_cons, mkS_nil, ↓reduceIte, eq_self', List.map_nil, beq_self_eq_true, Nat.reduceEqDiff, Nat.reduceAdd, Nat.reduceMul, Nat.reduceLT, Nat.reduceLeDiff, Nat.reducePow, Nat.reduceDiv, Nat.reduceMod, Nat.succ_ne_self, Nat.reduceBEq, Nat.reduceBNe, vint, TyS, TyF, TBS, TBF, DcS, DcF, SvS, SvF, PfS, PfF] <;> with_reducible rfl) (by decide) ?_
    repeat (refine awp_seq ?_)
    -- leaf 2 ret
    refine awp_ret ⟨.inr rfl, _, _, rfl, ?_, (by first | exact (List.append_nil _).symm | rfl)⟩
    rw [idxI_none hg]; rfl

theorem solve1 (t : Ty) (tr : Int) (H : Heap) (i1 i2 : Nat) (h1 : H[i1]? = some (.row [.int .i64 tr])) (h2 : H[i2]? = some (.row t.enc.cells)) (b : TB) (hb : b.t.W) :
    ACalls Try.prog 128 [b.enc, .optr i1 0, .optr i2 0] H fun r' H' => r' = .bool (boundP t tr b) ∧ H' = H := by
  simp only [TyS] at h2
  have q1 : ∀ L, (H ++ L)[i1]? = some (.row [.int .i64 tr]) := fun L => by rw [List.getElem?_append_left (len_of_get h1)]; exact h1
  have q2 : ∀ L, (H ++ L)[i2]? = some (.row [.int .i64 t.kind, .int .i64 t.id, .slice (t.args.map Ty.enc) .none]) := fun L => by rw [List.getElem?_append_left (len_of_get h2)]; exact h2
  refine keeps_of (N := 15) Try.func128 rfl rfl (by simp) (.bool _) fun hb' => ?_
  -- region 0
  repeat (refine awp_seq ?_)
  refine e_eval (by simp only [asq, as0, as1, as2, awanted, aop, LS, SS, SX, HS, mkS_cons, mkS_nil, ↓reduceIte, eq_self', List.map_nil, beq_self_eq_true, Nat.reduceEqDiff, Nat.reduceAdd, Nat.reduceMul, Nat.reduceLT, Nat.reduceLeDiff, Nat.reducePow, Nat.reduceDiv, Nat.reduceMod, Nat.succ_ne_self, Nat.reduceBEq, Nat.reduceBNe, Tryti74, Trytf74, Trytz74, Trytp74, vint, TyS, TyF, TBS, TBF, DcS, DcF, SvS, SvF, PfS, PfF, q1, q2] <;> with_reducible rfl) (by decide) ?_
  -- region 1
  repeat (refine awp_seq ?_)
  refine awp_region ?_
  refine aops_gstart ?_
  refine g_take 8 (by simp only [gsq, gs0, gs1, gs2, gcond, gop, SG, Op.operands, Call.operands, Array.toList_append, aop, afldAddr, ajust, aload, abin, LS, SS, SX, HS, mkS_cons, mkS_nil, ↓reduceIte, eq_self', List.map_nil, beq_self_eq_true, Nat.reduceEqDiff, Nat.reduceAdd, Nat.reduceMul, Nat.reduceLT, Nat.reduceLeDiff, Nat.reducePow, Nat.reduceDiv, Nat.reduceMod, Nat.succ_ne_self, Nat.reduceBEq, Nat.reduceBNe, Tryti3, Trytz3, Trytp3, Trytk3, Tryti24, Trytf24, Trytz24, Trytp24, Tryti74, Trytf74, Trytz74, Trytp74, vint, TyS, TyF, TBS, TBF, DcS, DcF, SvS, SvF, PfS, PfF, q1, q2] <;> with_reducible rfl) (by decide) ?_
  refine aops_gpure (by simp only [acall, gcond, SG, Op.operands, Call.operands, Array.toList_append, LS, SS, SX, HS, mkS_cons, mkS_nil, ↓reduceIte, eq_self', List.map_nil, beq_self_eq_true, Nat.reduceEqDiff, Nat.reduceAdd, Nat.reduceMul, Nat.reduceLT, Nat.reduceLeDiff, Nat.reducePow, Nat.reduceDiv, Nat.reduceMod, Nat.succ_ne_self, Nat.reduceBEq, Nat.reduceBNe, vint, TyS, TyF, TBS, TBF, DcS, DcF, SvS, SvF, PfS, PfF, q1, q2] <;> with_reducible rfl) (by simp only [acall, gcond, SG, Op.operands, Call.operands, Array.toList_append, LS, SS, SX, HS, mkS_cons, mkS_nil, ↓reduceIte, eq_self', List.map_nil, beq_self_eq_true, Nat.reduceEqDiff, Nat.reduceAdd, Nat.reduceMul, Nat.reduceLT, Nat.reduceLeDiff, Nat.reducePow, Nat.reduceDiv, Nat.reduceMod, Nat.succ_ne_self, Nat.reduceBEq, Nat.reduceBNe, vint, TyS, TyF, TBS, TBF, DcS, DcF, SvS, SvF, PfS, PfF, q1, q2] <;> with_reducible rfl) (by simp only [acall, gcond, SG, Op.operands, Call.operands, Array.toList_append, LS, SS, SX, HS, mkS_cons, mkS_nil, ↓reduceIte, eq_self', List.map_nil, beq_self_eq_true, Nat.reduceEqDiff, Nat.reduceAdd, Nat.reduceMul, Nat.reduceLT, Nat.reduceLeDiff, Nat.reducePow, Nat.reduceDiv, Nat.reduceMod, Nat.succ_ne_self, Nat.reduceBEq, Nat.reduceBNe, vint, TyS, TyF, TBS, TBF, DcS, DcF, SvS, SvF, PfS, PfF, q1, q2]) (by decide) Trygo23 (fun hc => equal_any b.t t hb _) ?_
  refine g_end (by simp only [gsq, gs0, gs1, gs2, gcond, gop, SG, Op.operands, Call.operands, Array.toList_append, aop, LS, SS, SX, HS, mkS_cons, mkS_nil, ↓reduceIte, eq_self', List.map_nil, beq_self_eq_true, Nat.reduceEqDiff, Nat.reduceAdd, Nat.reduceMul, Nat.reduceLT, Nat.reduceLeDiff, Nat.reducePow, Nat.reduceDiv, Nat.reduceMod, Nat.succ_ne_self, Nat.reduceBEq, Nat.reduceBNe, vint, TyS, TyF, TBS, TBF, DcS, DcF, SvS, SvF, PfS, PfF, q1, q2] <;> with_reducible rfl) (by decide) (by repeat (first | exact Fin.base _ | with_reducible apply Fin.keep | apply Fin.drop)) ?_
  repeat (refine awp_seq ?_)
  -- leaf 0 ret
  refine awp_ret ⟨.inr rfl, _, _, rfl, ?_, (by first | exact (List.append_nil _).symm | rfl)⟩
  simp only [LS, SS, SX, HS, mkS_cons, mkS_nil, ↓reduceIte, eq_self', List.map_nil, beq_self_eq_true, Nat.reduceEqDiff, Nat.reduceAdd, Nat.succ_ne_self, vint, TyS, TyF, TBS, TBF, DcS, DcF, SvS, SvF, PfS, PfF]
  rfl

theorem mi1 (d : Dc) (hd : d.t.W) (H : Heap) (id : Nat) (h1 : H[id]? = some (.row d.enc.cells)) (p : Int) : ACalls Try.prog 144 [vint p, .optr id 0] H fun r' H' => r' = .bool (!cpar p d.t) ∧ H' = H := by
  simp only [DcS] at h1
  have q1 : ∀ L, (H ++ L)[id]? = some (.row [.slice (d.ps.map vint) .none, .int .i64 d.t.kind, .int .i64 d.t.id, .slice (d.t.args.map Ty.enc) .none, .int .i64 d.tr, .slice (d.bs.map TB.enc) .none, .slice (d.ms.map vint) .none]) := fun L => by rw [List.getElem?_append_left (len_of_get h1)]; exact h1
  refine keeps_of (N := 9) Try.func144 rfl rfl (by simp) (.bool _) fun hb' => ?_
  -- region 0
  repeat (refine awp_seq ?_)
  refine e_eval (by simp only [asq, as0, as1, as2, awanted, aop, LS, SS, SX, HS, mkS_cons, mkS_nil, ↓reduceIte, eq_self', List.map_nil, beq_self_eq_true, Nat.reduceEqDiff, Nat.reduceAdd, Nat.reduceMul, Nat.reduceLT, Nat.reduceLeDiff, Nat.reducePow, Nat.reduceDiv, Nat.reduceMod, Nat.succ_ne_self, Nat.reduceBEq, Nat.reduceBNe, vint, TyS, TyF, TBS, TBF, DcS, DcF, SvS, SvF, PfS, PfF, q1, h1] <;> with_reducible rfl) (by decide) ?_
  -- region 1
  repeat (refine awp_seq ?_)
  refine awp_region ?_
  refine e_take 3 (by simp only [asq, as0, as1, as2, awanted, aop, afldAddr, ajust, aload, LS, SS, SX, HS, mkS_cons, mkS_nil, ↓reduceIte, eq_self', List.map_nil, beq_self_eq_true, Nat.reduceEqDiff, Nat.reduceAdd, Nat.reduceMul, Nat.reduceLT, Nat.reduceLeDiff, Nat.reducePow, Nat.reduceDiv, Nat.reduceMod, Nat.succ_ne_self, Nat.reduceBEq, Nat.reduceBNe, Tryti24, Trytf24, Trytz24, Trytp24, Tryti71, Trytf71, Trytz71, Trytp71, vint, TyS, TyF, TBS, TBF, DcS, DcF, SvS, SvF, PfS, PfF, q1, h1] <;> with_reducible rfl) (by decide) ?_
  refine aops_pure (by simp only [acall, awanted, LS, SS, SX, HS, mkS_cons, mkS_nil, ↓reduceIte, eq_self', List.map_nil, beq_self_eq_true, Nat.reduceEqDiff, Nat.reduceAdd, Nat.reduceMul, Nat.reduceLT, Nat.reduceLeDiff, Nat.reducePow, Nat.reduceDiv, Nat.reduceMod, Nat.succ_ne_self, Nat.reduceBEq, Nat.reduceBNe, vint, TyS, TyF, TBS, TBF, DcS, DcF, SvS, SvF, PfS, PfF, q1, h1] <;> with_reducible rfl) (by simp only [acall, awanted, LS, SS, SX, HS, mkS_cons, mkS_nil, ↓reduceIte, eq_self', List.map_nil, beq_self_eq_true, Nat.reduceEqDiff, Nat.reduceAdd, Nat.reduceMul, Nat.reduceLT, Nat.reduceLeDiff, Nat.reducePow, Nat.reduceDiv, Nat.reduceMod, Nat.succ_ne_self, Nat.reduceBEq, Nat.reduceBNe, vint, TyS, TyF, TBS, TBF, DcS, DcF, SvS, SvF, PfS, PfF, q1, h1]) (by decide) Trygo145 (cpT d.t p hd _) ?_
  refine e_end (by simp only [asq, as0, as1, as2, awanted, aop, aun, ajust, LS, SS, SX, HS, mkS_cons, mkS_nil, ↓reduceIte, eq_self', List.map_nil, beq_self_eq_true, Nat.reduceEqDiff, Nat.reduceAdd, Nat.reduceMul, Nat.reduceLT, Nat.reduceLeDiff, Nat.reducePow, Nat.reduceDiv, Nat.reduceMod, Nat.succ_ne_self, Nat.reduceBEq, Nat.reduceBNe, vint, TyS, TyF, TBS, TBF, DcS, DcF, SvS, SvF, PfS, PfF, q1, h1] <;> with_reducible rfl) (by decide) ?_
  repeat (refine awp_seq ?_)
  -- leaf 0 ret
  refine awp_ret ⟨.inr rfl, _, _, rfl, ?_, (by first | exact (List.append_nil _).symm | rfl)⟩
  simp only [LS, SS, SX, HS, mkS_cons, mkS_nil, ↓reduceIte, eq_self', List.map_nil, beq_self_eq_true, Nat.reduceEqDiff, Nat.reduceAdd, Nat.succ_ne_self, vint, TyS, TyF, TBS, TBF, DcS, DcF, SvS, SvF, PfS, PfF]

/-- What the walks ask of a declaration. -/
def Dc.B (d : Dc) : Prop := d.W ∧ d.ps.length * 40 ≤ 2 ^ 47

theorem mi_c (ds : List Dc) (sas : List TB) (t : Ty) (tr : Int) (hl : ds.length ≤ maxLen) (hd : ∀ d ∈ ds, d.B) (ht : t.W) : PC Try.prog 129 [(Sv.mk ds sas).enc, t.enc, vint tr] (.tup [vint (implIx ds t tr), .slice ((implAs ds t tr).map Ty.enc) .none]) := by
  refine pc_of (N := 43) Try.func129 rfl rfl (by simp) (by simp [Ty.bel, Sv.bel, Bel.int]) (.tup _ (by simp [bel_slice_ty, Bel.int])) ?_
  -- region 0
  repeat (refine awp_seq ?_)
  refine e_eval (by simp only [asq, as0, as1, as2, awanted, aop, LS, SS, SX, HS, mkS_cons, mkS_nil, ↓reduceIte, eq_self', List.map_nil, beq_self_eq_true, Nat.reduceEqDiff, Nat.reduceAdd, Nat.reduceMul, Nat.reduceLT, Nat.reduceLeDiff, Nat.reducePow, Nat.reduceDiv, Nat.reduceMod, Nat.succ_ne_self, Nat.reduceBEq, Nat.reduceBNe, Tryti24, Trytf24, Trytz24, Trytp24, Tryti123, Trytf123, Trytz123, Trytp123, vint, TyS, TyF, TBS, TBF, DcS, DcF, SvS, SvF, PfS, PfF, Bool.or_assoc] <;> with_reducible rfl) (by decide) ?_
  -- region 1
  repeat (refine awp_seq ?_)
  refine e_eval (by simp only [asq, as0, as1, as2, awanted, aop, afldAddr, ajust, aload, abuiltin, LS, SS, SX, HS, mkS_cons, mkS_nil, ↓reduceIte, eq_self', List.map_nil, beq_self_eq_true, Nat.reduceEqDiff, Nat.reduceAdd, Nat.reduceMul, Nat.reduceLT, Nat.reduceLeDiff, Nat.reducePow, Nat.reduceDiv, Nat.reduceMod, Nat.succ_ne_self, Nat.reduceBEq, Nat.reduceBNe, Tryti59, Tryte59, Trytz59, Trytp59, Tryti71, Trytf71, Trytz71, Trytp71, Tryti123, Trytf123, Trytz123, Trytp123, vint, TyS, TyF, TBS, TBF, DcS, DcF, SvS, SvF, PfS, PfF, Bool.or_assoc] <;> with_reducible rfl) (by decide) ?_
  repeat (refine awp_seq ?_)
  refine awp_forS (σ := Unit) (ds.length) (fun (s : Unit) => [(2, vint tr), (4, .optr 1 0), (13, .slice (ds.map Dc.enc) .none)]) [2, 4, 13] ([]) (fun (s : Unit) => [.row (Sv.mk ds sas).enc.cells, .row t.enc.cells]) (fun (i : Nat) (s : Unit) => (ds.take i).any (implP t tr) = false) (()) ([]) rfl rfl rfl rfl rfl rfl rfl rfl rfl (by decide) (by decide) (by decide) (fun _ => rfl) (hl) ⟨(by first | rfl | (simp only [LS, SS, SX, HS, mkS_cons, mkS_nil, ↓reduceIte, eq_self', List.map_nil, beq_self_eq_true, Nat.reduceEqDiff, Nat.reduceAdd, Nat.succ_ne_self, vint, TyS, TyF, TBS, TBF, DcS, DcF, SvS, SvF, PfS, PfF, Bool.or_assoc] <;> first | done | with_reducible rfl)), (by first | rfl | (simp only [LS, SS, SX, HS, mkS_cons, mkS_nil, ↓reduceIte, eq_self', List.map_nil, beq_self_eq_true, Nat.reduceEqDiff, Nat.reduceAdd, Nat.succ_ne_self, vint, TyS, TyF, TBS, TBF, DcS, DcF, SvS, SvF, PfS, PfF, Bool.or_assoc] <;> first | done | with_reducible rfl)), (by first | rfl | (simp only [LS, SS, SX, HS, mkS_cons, mkS_nil, ↓reduceIte, eq_self', List.map_nil, beq_self_eq_true, Nat.reduceEqDiff, Nat.reduceAdd, Nat.succ_ne_self, vint, TyS, TyF, TBS, TBF, DcS, DcF, SvS, SvF, PfS, PfF, Bool.or_assoc] <;> first | done | with_reducible rfl)), (by first | rfl | (simp only [LS, SS, SX, HS, mkS_cons, mkS_nil, ↓reduceIte, eq_self', List.map_nil, beq_self_eq_true, Nat.reduceEqDiff, Nat.reduceAdd, Nat.succ_ne_self, vint, TyS, TyF, TBS, TBF, DcS, DcF, SvS, SvF, PfS, PfF, Bool.or_assoc] <;> first | done | with_reducible rfl)), (by first | rfl | (simp only [LS, SS, SX, HS, mkS_cons, mkS_nil, ↓reduceIte, eq_self', List.map_nil, beq_self_eq_true, Nat.reduceEqDiff, Nat.reduceAdd, Nat.succ_ne_self, vint, TyS, TyF, TBS, TBF, DcS, DcF, SvS, SvF, PfS, PfF, Bool.or_assoc] <;> first | done | with_reducible rfl)), trivial⟩ (by first | rfl | (simp only [LS, SS, SX, HS, mkS_cons, mkS_nil, ↓reduceIte, eq_self', List.map_nil, beq_self_eq_true, Nat.reduceEqDiff, Nat.reduceAdd, Nat.succ_ne_self, vint, TyS, TyF, TBS, TBF, DcS, DcF, SvS, SvF, PfS, PfF, Bool.or_assoc] <;> first | done | with_reducible rfl)) (by simp) (fun _ _ _ => by first | exact Nat.zero_le _ | (simp only [List.length_append]; omega)) ?_ ?_ ?_
  · exact fun i s hg => ⟨by simp only [SvS, TyS, List.nil_append]; repeat (first | exact hbel_nil _ | exact trivial | exact obel_row_nil _ | (refine HBel.cons ?_ ?_) | (refine obel_row_cons (by first | exact bel_TB _ _ | exact TB.bel _ _ | exact bel_Dc _ _ | exact Dc.bel _ _ | exact Pf.bel _ _ | exact bel_Pf _ _ | exact Sv.bel _ _ | exact bel_Pf_tok _ (by simp) | exact bel_ints0 _ _ | exact bel_slice_ty _ _ | exact Ty.bel _ _ | exact bel_ty_tok _ (by simp) | exact Bel.int _ _ | exact Bel.bool _ | exact Bel.str _ | exact Bel.nilp | exact Bel.nilfn | exact Bel.optr _ _ (by simp) | exact bel_nil0 _ | exact bel_nil1 _ | exact bel_fn0 _ _ | assumption) ?_)), by repeat (first | exact BelL.nil | refine BelL.cons (by first | exact bel_TB _ _ | exact TB.bel _ _ | exact bel_Dc _ _ | exact Dc.bel _ _ | exact Pf.bel _ _ | exact bel_Pf _ _ | exact Sv.bel _ _ | exact bel_Pf_tok _ (by simp) | exact bel_ints0 _ _ | exact bel_slice_ty _ _ | exact Ty.bel _ _ | exact bel_ty_tok _ (by simp) | exact Bel.int _ _ | exact Bel.bool _ | exact Bel.str _ | exact Bel.nilp | exact Bel.nilfn | exact Bel.optr _ _ (by simp) | exact bel_nil0 _ | exact bel_nil1 _ | exact bel_fn0 _ _ | assumption) ?_)⟩
  · intro i s hi hg
    have g1 := ix_nat hi
    have g2 := get_enc Dc.enc hi
    obtain ⟨hW, h40⟩ := hd ds[i] (List.getElem_mem hi)
    obtain ⟨d, hde⟩ : ∃ d, ds[i] = d := ⟨_, rfl⟩
    rw [hde] at g2 hW h40
    have hmx := hW.max_ps
    -- region 3
    repeat (refine awp_seq ?_)
    refine e_eval (by simp only [asq, as0, as1, as2, awanted, aop, aidxAddr, aidx, ajust, aload, astore, splice, LS, SS, SX, HS, mkS_cons, mkS_nil, ↓reduceIte, eq_self', List.map_nil, beq_self_eq_true, Nat.reduceEqDiff, Nat.reduceAdd, Nat.reduceMul, Nat.reduceLT, Nat.reduceLeDiff, Nat.reducePow, Nat.reduceDiv, Nat.reduceMod, Nat.succ_ne_self, Nat.reduceBEq, Nat.reduceBNe, Tryti59, Tryte59, Trytz59, Trytp59, Tryti71, Trytf71, Trytz71, Trytp71, vint, TyS, TyF, TBS, TBF, DcS, DcF, SvS, SvF, PfS, PfF, Bool.or_assoc, g1, Int.toNat_natCast, g2] <;> with_reducible rfl) (by decide) ?_
    -- region 4
    repeat (refine awp_seq ?_)
    refine awp_region ?_
    refine aops_gstart ?_
    refine g_take 8 (by simp only [gsq, gs0, gs1, gs2, gcond, gop, SG, Op.operands, Call.operands, Array.toList_append, aop, afldAddr, ajust, aload, abin, LS, SS, SX, HS, mkS_cons, mkS_nil, ↓reduceIte, eq_self', List.map_nil, beq_self_eq_true, Nat.reduceEqDiff, Nat.reduceAdd, Nat.reduceMul, Nat.reduceLT, Nat.reduceLeDiff, Nat.reducePow, Nat.reduceDiv, Nat.reduceMod, Nat.succ_ne_self, Nat.reduceBEq, Nat.reduceBNe, Tryti3, Trytz3, Trytp3, Trytk3, Tryti25, Tryte25, Trytz25, Trytp25, Tryti71, Trytf71, Trytz71, Trytp71, vint, TyS, TyF, TBS, TBF, DcS, DcF, SvS, SvF, PfS, PfF, Bool.or_assoc, g1, Int.toNat_natCast, g2] <;> with_reducible rfl) (by decide) ?_
    refine aops_gpure (by simp only [acall, gcond, SG, Op.operands, Call.operands, Array.toList_append, LS, SS, SX, HS, mkS_cons, mkS_nil, ↓reduceIte, eq_self', List.map_nil, beq_self_eq_true, Nat.reduceEqDiff, Nat.reduceAdd, Nat.reduceMul, Nat.reduceLT, Nat.reduceLeDiff, Nat.reducePow, Nat.reduceDiv, Nat.reduceMod, Nat.succ_ne_self, Nat.reduceBEq, Nat.reduceBNe, vint, TyS, TyF, TBS, TBF, DcS, DcF, SvS, SvF, PfS, PfF, Bool.or_assoc, g1, Int.toNat_natCast, g2] <;> with_reducible rfl) (by simp only [acall, gcond, SG, Op.operands, Call.operands, Array.toList_append, LS, SS, SX, HS, mkS_cons, mkS_nil, ↓reduceIte, eq_self', List.map_nil, beq_self_eq_true, Nat.reduceEqDiff, Nat.reduceAdd, Nat.reduceMul, Nat.reduceLT, Nat.reduceLeDiff, Nat.reducePow, Nat.reduceDiv, Nat.reduceMod, Nat.succ_ne_self, Nat.reduceBEq, Nat.reduceBNe, vint, TyS, TyF, TBS, TBF, DcS, DcF, SvS, SvF, PfS, PfF, Bool.or_assoc, g1, Int.toNat_natCast, g2] <;> with_reducible rfl) (by simp only [acall, gcond, SG, Op.operands, Call.operands, Array.toList_append, LS, SS, SX, HS, mkS_cons, mkS_nil, ↓reduceIte, eq_self', List.map_nil, beq_self_eq_true, Nat.reduceEqDiff, Nat.reduceAdd, Nat.reduceMul, Nat.reduceLT, Nat.reduceLeDiff, Nat.reducePow, Nat.reduceDiv, Nat.reduceMod, Nat.succ_ne_self, Nat.reduceBEq, Nat.reduceBNe, vint, TyS, TyF, TBS, TBF, DcS, DcF, SvS, SvF, PfS, PfF, Bool.or_assoc, g1, Int.toNat_natCast, g2]) (by decide) Trygo25 (fun hc => containsFuncInt (p := fun p => !cpar p d.t) ⟨Trygo144, by simp; exact .optr _ _ (by simp), fun u hu => mi1 d hW.st_t _ 2 rfl u⟩ hmx) ?_
    refine g_end (by simp only [gsq, gs0, gs1, gs2, gcond, gop, SG, Op.operands, Call.operands, Array.toList_append, aop, LS, SS, SX, HS, mkS_cons, mkS_nil, ↓reduceIte, eq_self', List.map_nil, beq_self_eq_true, Nat.reduceEqDiff, Nat.reduceAdd, Nat.reduceMul, Nat.reduceLT, Nat.reduceLeDiff, Nat.reducePow, Nat.reduceDiv, Nat.reduceMod, Nat.succ_ne_self, Nat.reduceBEq, Nat.reduceBNe, vint, TyS, TyF, TBS, TBF, DcS, DcF, SvS, SvF, PfS, PfF, Bool.or_assoc, g1, Int.toNat_natCast, g2] <;> with_reducible rfl) (by decide) (by repeat (first | exact Fin.base _ | with_reducible apply Fin.keep | apply Fin.drop)) ?_
    repeat (refine awp_seq ?_)
    refine awp_cond rfl (by simp only [LS, SS, SX, HS, mkS_cons, mkS_nil, ↓reduceIte, eq_self', List.map_nil, beq_self_eq_true, Nat.reduceEqDiff, Nat.reduceAdd, Nat.succ_ne_self, vint, TyS, TyF, TBS, TBF, DcS, DcF, SvS, SvF, PfS, PfF, Bool.or_assoc, g1, Int.toNat_natCast, g2] <;> with_reducible rfl) (fun b0 => ?_) (fun b0 => ?_)
    · -- if t29
      repeat (refine awp_seq ?_)
      refine awp_exit ?_
      -- leaf 0 next0
      exact ⟨⟨rfl, rfl, trivial⟩, (), _, ⟨rfl, rfl, rfl, trivial⟩, by simp only [LS, SS, SX, HS, mkS_cons, mkS_nil, ↓reduceIte, eq_self', List.map_nil, beq_self_eq_true, Nat.reduceEqDiff, Nat.reduceAdd, Nat.succ_ne_self, vint, TyS, TyF, TBS, TBF, DcS, DcF, SvS, SvF, PfS, PfF] <;> rfl, any_take_succ hi hg (by rw [hde]; unfold implP; grind)⟩
    · -- else t29
      repeat (refine awp_seq ?_)
      refine awp_skip ?_
      refine awp_sel [2, 4, 8, 9, 13, 14, 15] (by simp only [LS, SS, SX, HS, mkS_cons, mkS_nil, ↓reduceIte, eq_self', List.map_nil, beq_self_eq_true, Nat.reduceEqDiff, Nat.reduceAdd, Nat.succ_ne_self, vint, TyS, TyF, TBS, TBF, DcS, DcF, SvS, SvF, PfS, PfF, Bool.or_assoc, g1, Int.toNat_natCast, g2] <;> with_reducible rfl) ?_
      -- region 5
      repeat (refine awp_seq ?_)
      refine awp_region ?_
      refine e_take 5 (by simp only [asq, as0, as1, as2, awanted, aop, aload, ajust, afldAddr, LS, SS, SX, HS, mkS_cons, mkS_nil, ↓reduceIte, eq_self', List.map_nil, beq_self_eq_true, Nat.reduceEqDiff, Nat.reduceAdd, Nat.reduceMul, Nat.reduceLT, Nat.reduceLeDiff, Nat.reducePow, Nat.reduceDiv, Nat.reduceMod, Nat.succ_ne_self, Nat.reduceBEq, Nat.reduceBNe, Tryti3, Trytz3, Trytp3, Trytk3, Tryti24, Trytf24, Trytz24, Trytp24, Tryti25, Tryte25, Trytz25, Trytp25, Tryti71, Trytf71, Trytz71, Trytp71, vint, TyS, TyF, TBS, TBF, DcS, DcF, SvS, SvF, PfS, PfF, Bool.or_assoc, g1, Int.toNat_natCast, g2] <;> with_reducible rfl) (by decide) ?_
      refine aops_pure (by simp only [acall, awanted, LS, SS, SX, HS, mkS_cons, mkS_nil, ↓reduceIte, eq_self', List.map_nil, beq_self_eq_true, Nat.reduceEqDiff, Nat.reduceAdd, Nat.reduceMul, Nat.reduceLT, Nat.reduceLeDiff, Nat.reducePow, Nat.reduceDiv, Nat.reduceMod, Nat.succ_ne_self, Nat.reduceBEq, Nat.reduceBNe, vint, TyS, TyF, TBS, TBF, DcS, DcF, SvS, SvF, PfS, PfF, Bool.or_assoc, g1, Int.toNat_natCast, g2] <;> with_reducible rfl) (by simp only [acall, awanted, LS, SS, SX, HS, mkS_cons, mkS_nil, ↓reduceIte, eq_self', List.map_nil, beq_self_eq_true, Nat.reduceEqDiff, Nat.reduceAdd, Nat.reduceMul, Nat.reduceLT, Nat.reduceLeDiff, Nat.reducePow, Nat.reduceDiv, Nat.reduceMod, Nat.succ_ne_self, Nat.reduceBEq, Nat.reduceBNe, vint, TyS, TyF, TBS, TBF, DcS, DcF, SvS, SvF, PfS, PfF, Bool.or_assoc, g1, Int.toNat_natCast, g2]) (by decide) Trygo22 (match_c d.ps t d.t h40 ht hW.st_t _) ?_
      refine e_end (by simp only [asq, as0, as1, as2, awanted, aop, ajust, LS, SS, SX, HS, mkS_cons, mkS_nil, ↓reduceIte, eq_self', List.map_nil, beq_self_eq_true, Nat.reduceEqDiff, Nat.reduceAdd, Nat.reduceMul, Nat.reduceLT, Nat.reduceLeDiff, Nat.reducePow, Nat.reduceDiv, Nat.reduceMod, Nat.succ_ne_self, Nat.reduceBEq, Nat.reduceBNe, vint, TyS, TyF, TBS, TBF, DcS, DcF, SvS, SvF, PfS, PfF, Bool.or_assoc, g1, Int.toNat_natCast, g2] <;> with_reducible rfl) (by decide) ?_
      -- region 6
      repeat (refine awp_seq ?_)
      refine e_eval (by simp only [asq, as0, as1, as2, awanted, aop, LS, SS, SX, HS, mkS_cons, mkS_nil, ↓reduceIte, eq_self', List.map_nil, beq_self_eq_true, Nat.reduceEqDiff, Nat.reduceAdd, Nat.reduceMul, Nat.reduceLT, Nat.reduceLeDiff, Nat.reducePow, Nat.reduceDiv, Nat.reduceMod, Nat.succ_ne_self, Nat.reduceBEq, Nat.reduceBNe, vint, TyS, TyF, TBS, TBF, DcS, DcF, SvS, SvF, PfS, PfF, Bool.or_assoc, g1, Int.toNat_natCast, g2] <;> with_reducible rfl) (by decide) ?_
      repeat (refine awp_seq ?_)
      refine awp_cond rfl (by simp only [LS, SS, SX, HS, mkS_cons, mkS_nil, ↓reduceIte, eq_self', List.map_nil, beq_self_eq_true, Nat.reduceEqDiff, Nat.reduceAdd, Nat.succ_ne_self, vint, TyS, TyF, TBS, TBF, DcS, DcF, SvS, SvF, PfS, PfF, Bool.or_assoc, g1, Int.toNat_natCast, g2] <;> with_reducible rfl) (fun b1 => ?_) (fun b1 => ?_)
      · -- if t39
        -- region 7
        repeat (refine awp_seq ?_)
        refine e_eval (by simp only [asq, as0, as1, as2, awanted, aop, LS, SS, SX, HS, mkS_cons, mkS_nil, ↓reduceIte, eq_self', List.map_nil, beq_self_eq_true, Nat.reduceEqDiff, Nat.reduceAdd, Nat.reduceMul, Nat.reduceLT, Nat.reduceLeDiff, Nat.reducePow, Nat.reduceDiv, Nat.reduceMod, Nat.succ_ne_self, Nat.reduceBEq, Nat.reduceBNe, vint, TyS, TyF, TBS, TBF, DcS, DcF, SvS, SvF, PfS, PfF, Bool.or_assoc, g1, Int.toNat_natCast, g2] <;> with_reducible rfl) (by decide) ?_
        repeat (refine awp_seq ?_)
        -- leaf 1 ret
        refine awp_ret ⟨.inr rfl, _, (ares_two (.tmp 6) (.tmp 7) rfl (ares_tmp1 (by decide)) (ares_tmp1 (by decide))), ?_⟩
        have hix : implIx ds t tr = i := idxI_at hi (by rw [hde]; unfold implP; grind) hg
        have hda : implAs ds t tr = (matchP d.ps t d.t).1 := by
          unfold implAs implD
          rw [hix, if_pos (by omega), Int.toNat_natCast, List.getD_eq_getElem?_getD, List.getElem?_eq_getElem hi, hde]
          rfl
        rw [hix, hda]
        simp only [LS, SS, SX, HS, mkS_cons, mkS_nil, ↓reduceIte, eq_self', List.map_nil, beq_self_eq_true, Nat.reduceEqDiff, Nat.reduceAdd, Nat.succ_ne_self, vint, TyS, TyF, TBS, TBF, DcS, DcF, SvS, SvF, PfS, PfF]
      · -- else t39
        repeat (refine awp_seq ?_)
        refine awp_skip ?_
        -- leaf 2 next0
        exact ⟨⟨rfl, rfl, trivial⟩, (), _, ⟨rfl, rfl, rfl, trivial⟩, by simp only [LS, SS, SX, HS, mkS_cons, mkS_nil, ↓reduceIte, eq_self', List.map_nil, beq_self_eq_true, Nat.reduceEqDiff, Nat.reduceAdd, Nat.succ_ne_self, vint, TyS, TyF, TBS, TBF, DcS, DcF, SvS, SvF, PfS, PfF] <;> rfl, any_take_succ hi hg (by rw [hde]; unfold implP; grind)⟩
  · intro s hg
    rw [List.take_length] at hg
    -- region 9
    repeat (refine awp_seq ?_)
    refine e_eval (by simp only [asq, as0, as1, as2, awanted, aop, LS, SS, SX, HS, mkS_cons, mkS_nil, ↓reduceIte, eq_self', List.map_nil, beq_self_eq_true, Nat.reduceEqDiff, Nat.reduceAdd, Nat.reduceMul, Nat.reduceLT, Nat.reduceLeDiff, Nat.reducePow, Nat.reduceDiv, Nat.reduceMod, Nat.succ_ne_self, Nat.reduceBEq, Nat.reduceBNe, vint, TyS, TyF, TBS, TBF, DcS, DcF, SvS, SvF, PfS, PfF, Bool.or_assoc] <;> with_reducible rfl) (by decide) ?_
    repeat (refine awp_seq ?_)
    -- leaf 3 ret
    refine awp_ret ⟨.inr rfl, _, (ares_two (.tmp 6) (.tmp 7) rfl (ares_tmp1 (by decide)) (ares_tmp1 (by decide))), ?_⟩
    have hix : implIx ds t tr = -1 := idxI_none hg
    have hda : implAs ds t tr = [] := by
      unfold implAs
      rw [hix]; rfl
    rw [hix, hda]
    simp only [LS, SS, SX, HS, mkS_cons, mkS_nil, ↓reduceIte, eq_self', List.map_nil, beq_self_eq_true, Nat.reduceEqDiff, Nat.reduceAdd, Nat.succ_ne_self, vint, TyS, TyF, TBS, TBF, DcS, DcF, SvS, SvF, PfS, PfF]

end Go.Abs
set_option linter.unusedVariables false
set_option linter.unusedSimpArgs false
set_option maxRecDepth 4000
namespace Go.Abs
open Go.Proofs

theorem solveT_s (ds : List Dc) (sas : List TB) (n : Nat) (t : Ty) (tr : Int) : solveT ds sas (n + 1) t tr =
    if t.kind = 0 ∨ tr < 0 then (.zero, false)
    else if 0 ≤ idxI (boundP t tr) sas then (.mk t tr (-1) (idxI (boundP t tr) sas) [] [], true)
    else if implIx ds t tr < 0 ∨ 4 < (implD ds t tr).bs.length then (.zero, false)
    else if ((implD ds t tr).bs.all fun b => (solveT ds sas n (mapT (appG (implD ds t tr).ps (implAs ds t tr)) b.t) b.tr).2) = true then
      (.mk t tr (implIx ds t tr) (-1) (implAs ds t tr) ((implD ds t tr).bs.map fun b => (solveT ds sas n (mapT (appG (implD ds t tr).ps (implAs ds t tr)) b.t) b.tr).1), true)
    else (.zero, false) := rfl
theorem implAs_W {ds : List Dc} {t : Ty} {tr : Int} (ht : t.W) : ∀ a ∈ implAs ds t tr, a.W := by
  unfold implAs
  split
  · exact matchP_W _ _ _ ht
  · simp

theorem solve_0 (ds : List Dc) (sas : List TB) (t : Ty) (tr : Int) : PC Try.prog 100 [(Sv.mk ds sas).enc, t.enc, vint tr, .int .i64 0] (.tup [(solveT ds sas 0 t tr).1.enc, .bool (solveT ds sas 0 t tr).2]) := by
  refine pc_of (N := 108) Try.func100 rfl rfl (by simp) (by simp [Ty.bel, Sv.bel, Bel.int]) (.tup _ (by simp [Pf.bel, Bel.bool])) ?_
  -- region 0
  repeat (refine awp_seq ?_)
  refine e_eval (by simp only [asq, as0, as1, as2, awanted, aop, LS, SS, SX, HS, mkS_cons, mkS_nil, ↓reduceIte, eq_self', List.map_nil, beq_self_eq_true, Nat.reduceEqDiff, Nat.reduceAdd, Nat.reduceMul, Nat.reduceLT, Nat.reduceLeDiff, Nat.reducePow, Nat.reduceDiv, Nat.reduceMod, Nat.succ_ne_self, Nat.reduceBEq, Nat.reduceBNe, Tryti3, Trytz3, Trytp3, Trytk3, Tryti24, Trytf24, Trytz24, Trytp24, Tryti63, Trytf63, Trytz63, Trytp63, Tryti123, Trytf123, Trytz123, Trytp123, vint, TyS, TyF, TBS, TBF, DcS, DcF, SvS, SvF, PfS, PfF, Bool.or_true, decide_true] <;> with_reducible rfl) (by decide) ?_
  -- region 1
  repeat (refine awp_seq ?_)
  refine g_eval (by simp only [gsq, gs0, gs1, gs2, gcond, gop, SG, Op.operands, Call.operands, Array.toList_append, aop, afldAddr, ajust, aload, abin, LS, SS, SX, HS, mkS_cons, mkS_nil, ↓reduceIte, eq_self', List.map_nil, beq_self_eq_true, Nat.reduceEqDiff, Nat.reduceAdd, Nat.reduceMul, Nat.reduceLT, Nat.reduceLeDiff, Nat.reducePow, Nat.reduceDiv, Nat.reduceMod, Nat.succ_ne_self, Nat.reduceBEq, Nat.reduceBNe, Tryti3, Trytz3, Trytp3, Trytk3, Tryti24, Trytf24, Trytz24, Trytp24, vint, TyS, TyF, TBS, TBF, DcS, DcF, SvS, SvF, PfS, PfF, Bool.or_true, decide_true] <;> with_reducible rfl) (by decide) (by repeat (first | exact Fin.base _ | with_reducible apply Fin.keep | apply Fin.drop)) ?_
  repeat (refine awp_seq ?_)
  refine awp_cond_true rfl (by simp only [LS, SS, SX, HS, mkS_cons, mkS_nil, ↓reduceIte, eq_self', List.map_nil, beq_self_eq_true, Nat.reduceEqDiff, Nat.reduceAdd, Nat.succ_ne_self, vint, TyS, TyF, TBS, TBF, DcS, DcF, SvS, SvF, PfS, PfF, Bool.or_true, decide_true] <;> with_reducible rfl) ?_
  refine awp_sel [8] (by simp only [LS, SS, SX, HS, mkS_cons, mkS_nil, ↓reduceIte, eq_self', List.map_nil, beq_self_eq_true, Nat.reduceEqDiff, Nat.reduceAdd, Nat.succ_ne_self, vint, TyS, TyF, TBS, TBF, DcS, DcF, SvS, SvF, PfS, PfF, Bool.or_true, decide_true] <;> with_reducible rfl) ?_
  -- region 2
  repeat (refine awp_seq ?_)
  refine e_eval (by simp only [asq, as0, as1, as2, awanted, aop, abuild, splice, astore, LS, SS, SX, HS, mkS_cons, mkS_nil, ↓reduceIte, eq_self', List.map_nil, beq_self_eq_true, Nat.reduceEqDiff, Nat.reduceAdd, Nat.reduceMul, Nat.reduceLT, Nat.reduceLeDiff, Nat.reducePow, Nat.reduceDiv, Nat.reduceMod, Nat.succ_ne_self, Nat.reduceBEq, Nat.reduceBNe, Tryti63, Trytf63, Trytz63, Trytp63, vint, TyS, TyF, TBS, TBF, DcS, DcF, SvS, SvF, PfS, PfF, Bool.or_true, decide_true] <;> with_reducible rfl) (by decide) ?_
  repeat (refine awp_seq ?_)
  -- leaf 0 ret
  refine awp_ret ⟨.inr rfl, _, (ares_two (.cell 8 63) (.tmp 9) rfl (ares_cell1 Tryti63 (by decide) (by simp only [aload, LS, SS, SX, HS, mkS_cons, mkS_nil, ↓reduceIte, eq_self', List.map_nil, beq_self_eq_true, Nat.reduceEqDiff, Nat.reduceAdd, Nat.reduceMul, Nat.reduceLT, Nat.reduceLeDiff, Nat.reducePow, Nat.reduceDiv, Nat.reduceMod, Nat.succ_ne_self, Nat.reduceBEq, Nat.reduceBNe, vint, TyS, TyF, TBS, TBF, DcS, DcF, SvS, SvF, PfS, PfF, Bool.or_true, decide_true] <;> with_reducible rfl)) (ares_tmp1 (by decide))), ?_⟩
  simp only [LS, SS, SX, HS, mkS_cons, mkS_nil, ↓reduceIte, eq_self', List.map_nil, beq_self_eq_true, Nat.reduceEqDiff, Nat.reduceAdd, Nat.succ_ne_self, vint, TyS, TyF, TBS, TBF, DcS, DcF, SvS, SvF, PfS, PfF]
  rfl

theorem solve_k (ds : List Dc) (sas : List TB) (hl : ds.length ≤ maxLen) (hd : ∀ d ∈ ds, d.B) (hsl : sas.length ≤ maxLen) (hs : ∀ b ∈ sas, b.W) : ∀ (n : Nat) (t : Ty) (tr : Int), n ≤ 8 → t.W → PC Try.prog 100 [(Sv.mk ds sas).enc, t.enc, vint tr, .int .i64 n] (.tup [(solveT ds sas n t tr).1.enc, .bool (solveT ds sas n t tr).2])
  | 0, t, tr, _, _ => solve_0 ds sas t tr
  | n + 1, t, tr, hn, ht => by
    have hn0 : decide (((n + 1 : Nat) : Int) = 0) = false := decide_eq_false (by omega)
    have hn1 : IntKind.i64.wrap (((n + 1 : Nat) : Int) - 1) = (n : Nat) := by rw [wrap_id (by omega) (by omega)]; omega
    rw [solveT_s]
    refine pc_of (N := 108) Try.func100 rfl rfl (by simp) (by simp [Ty.bel, Sv.bel, Bel.int]) (.tup _ (by simp [Pf.bel, Bel.bool])) ?_
    -- region 0
    repeat (refine awp_seq ?_)
    refine e_eval (by simp only [asq, as0, as1, as2, awanted, aop, LS, SS, SX, HS, mkS_cons, mkS_nil, ↓reduceIte, eq_self', List.map_nil, beq_self_eq_true, Nat.reduceEqDiff, Nat.reduceAdd, Nat.reduceMul, Nat.reduceLT, Nat.reduceLeDiff, Nat.reducePow, Nat.reduceDiv, Nat.reduceMod, Nat.succ_ne_self, Nat.reduceBEq, Nat.reduceBNe, Tryti3, Trytz3, Trytp3, Trytk3, Tryti24, Trytf24, Trytz24, Trytp24, Tryti63, Trytf63, Trytz63, Trytp63, Tryti123, Trytf123, Trytz123, Trytp123, vint, TyS, TyF, TBS, TBF, DcS, DcF, SvS, SvF, PfS, PfF, hn0, hn1] <;> with_reducible rfl) (by decide) ?_
    -- region 1
    repeat (refine awp_seq ?_)
    refine g_eval (by simp only [gsq, gs0, gs1, gs2, gcond, gop, SG, Op.operands, Call.operands, Array.toList_append, aop, afldAddr, ajust, aload, abin, LS, SS, SX, HS, mkS_cons, mkS_nil, ↓reduceIte, eq_self', List.map_nil, beq_self_eq_true, Nat.reduceEqDiff, Nat.reduceAdd, Nat.reduceMul, Nat.reduceLT, Nat.reduceLeDiff, Nat.reducePow, Nat.reduceDiv, Nat.reduceMod, Nat.succ_ne_self, Nat.reduceBEq, Nat.reduceBNe, Tryti3, Trytz3, Trytp3, Trytk3, Tryti24, Trytf24, Trytz24, Trytp24, vint, TyS, TyF, TBS, TBF, DcS, DcF, SvS, SvF, PfS, PfF, hn0, hn1] <;> with_reducible rfl) (by decide) (by repeat (first | exact Fin.base _ | with_reducible apply Fin.keep | apply Fin.drop)) ?_
    repeat (refine awp_seq ?_)
    refine awp_cond rfl (by simp only [LS, SS, SX, HS, mkS_cons, mkS_nil, ↓reduceIte, eq_self', List.map_nil, beq_self_eq_true, Nat.reduceEqDiff, Nat.reduceAdd, Nat.succ_ne_self, vint, TyS, TyF, TBS, TBF, DcS, DcF, SvS, SvF, PfS, PfF, hn0, hn1] <;> with_reducible rfl) (fun b0 => ?_) (fun b0 => ?_)
    · -- if t28
      have hq : t.kind = 0 ∨ tr < 0 := by simpa using b0
      refine awp_sel [8] (by simp only [LS, SS, SX, HS, mkS_cons, mkS_nil, ↓reduceIte, eq_self', List.map_nil, beq_self_eq_true, Nat.reduceEqDiff, Nat.reduceAdd, Nat.succ_ne_self, vint, TyS, TyF, TBS, TBF, DcS, DcF, SvS, SvF, PfS, PfF, hn0, hn1] <;> with_reducible rfl) ?_
      -- region 2
      repeat (refine awp_seq ?_)
      refine e_eval (by simp only [asq, as0, as1, as2, awanted, aop, abuild, splice, astore, LS, SS, SX, HS, mkS_cons, mkS_nil, ↓reduceIte, eq_self', List.map_nil, beq_self_eq_true, Nat.reduceEqDiff, Nat.reduceAdd, Nat.reduceMul, Nat.reduceLT, Nat.reduceLeDiff, Nat.reducePow, Nat.reduceDiv, Nat.reduceMod, Nat.succ_ne_self, Nat.reduceBEq, Nat.reduceBNe, Tryti63, Trytf63, Trytz63, Trytp63, vint, TyS, TyF, TBS, TBF, DcS, DcF, SvS, SvF, PfS, PfF, hn0, hn1] <;> with_reducible rfl) (by decide) ?_
      repeat (refine awp_seq ?_)
      -- leaf 0 ret
      refine awp_ret ⟨.inr rfl, _, (ares_two (.cell 8 63) (.tmp 9) rfl (ares_cell1 Tryti63 (by decide) (by simp only [aload, LS, SS, SX, HS, mkS_cons, mkS_nil, ↓reduceIte, eq_self', List.map_nil, beq_self_eq_true, Nat.reduceEqDiff, Nat.reduceAdd, Nat.reduceMul, Nat.reduceLT, Nat.reduceLeDiff, Nat.reducePow, Nat.reduceDiv, Nat.reduceMod, Nat.succ_ne_self, Nat.reduceBEq, Nat.reduceBNe, vint, TyS, TyF, TBS, TBF, DcS, DcF, SvS, SvF, PfS, PfF, hn0, hn1] <;> with_reducible rfl)) (ares_tmp1 (by decide))), ?_⟩
      rw [if_pos hq]
      simp only [LS, SS, SX, HS, mkS_cons, mkS_nil, ↓reduceIte, eq_self', List.map_nil, beq_self_eq_true, Nat.reduceEqDiff, Nat.reduceAdd, Nat.succ_ne_self, vint, TyS, TyF, TBS, TBF, DcS, DcF, SvS, SvF, PfS, PfF]
      rfl
    · -- else t28
      have hq : ¬ (t.kind = 0 ∨ tr < 0) := by simpa using b0
      repeat (refine awp_seq ?_)
      refine awp_skip ?_
      refine awp_sel [3, 4, 5, 6, 8] (by simp only [LS, SS, SX, HS, mkS_cons, mkS_nil, ↓reduceIte, eq_self', List.map_nil, beq_self_eq_true, Nat.reduceEqDiff, Nat.reduceAdd, Nat.succ_ne_self, vint, TyS, TyF, TBS, TBF, DcS, DcF, SvS, SvF, PfS, PfF, hn0, hn1] <;> with_reducible rfl) ?_
      -- region 3
      repeat (refine awp_seq ?_)
      refine awp_region ?_
      refine e_take 3 (by simp only [asq, as0, as1, as2, awanted, aop, afldAddr, ajust, aload, LS, SS, SX, HS, mkS_cons, mkS_nil, ↓reduceIte, eq_self', List.map_nil, beq_self_eq_true, Nat.reduceEqDiff, Nat.reduceAdd, Nat.reduceMul, Nat.reduceLT, Nat.reduceLeDiff, Nat.reducePow, Nat.reduceDiv, Nat.reduceMod, Nat.succ_ne_self, Nat.reduceBEq, Nat.reduceBNe, Tryti60, Tryte60, Trytz60, Trytp60, Tryti74, Trytf74, Trytz74, Trytp74, Tryti123, Trytf123, Trytz123, Trytp123, vint, TyS, TyF, TBS, TBF, DcS, DcF, SvS, SvF, PfS, PfF, hn0, hn1] <;> with_reducible rfl) (by decide) ?_
      refine aops_pure (by simp only [acall, awanted, LS, SS, SX, HS, mkS_cons, mkS_nil, ↓reduceIte, eq_self', List.map_nil, beq_self_eq_true, Nat.reduceEqDiff, Nat.reduceAdd, Nat.reduceMul, Nat.reduceLT, Nat.reduceLeDiff, Nat.reducePow, Nat.reduceDiv, Nat.reduceMod, Nat.succ_ne_self, Nat.reduceBEq, Nat.reduceBNe, vint, TyS, TyF, TBS, TBF, DcS, DcF, SvS, SvF, PfS, PfF, hn0, hn1] <;> with_reducible rfl) (by simp only [acall, awanted, LS, SS, SX, HS, mkS_cons, mkS_nil, ↓reduceIte, eq_self', List.map_nil, beq_self_eq_true, Nat.reduceEqDiff, Nat.reduceAdd, Nat.reduceMul, Nat.reduceLT, Nat.reduceLeDiff, Nat.reducePow, Nat.reduceDiv, Nat.reduceMod, Nat.succ_ne_self, Nat.reduceBEq, Nat.reduceBNe, vint, TyS, TyF, TBS, TBF, DcS, DcF, SvS, SvF, PfS, PfF, hn0, hn1]) (by decide) Trygo127 (indexFuncTB (p := boundP t tr) ⟨Trygo128, by simp; exact ⟨.optr _ _ (by simp), .optr _ _ (by simp)⟩, fun u hu => solve1 t tr _ 2 1 rfl (by simp only [TyS]; rfl) u (hs u hu).st_t⟩ hsl) ?_
      refine e_end (by simp only [asq, as0, as1, as2, awanted, aop, LS, SS, SX, HS, mkS_cons, mkS_nil, ↓reduceIte, eq_self', List.map_nil, beq_self_eq_true, Nat.reduceEqDiff, Nat.reduceAdd, Nat.reduceMul, Nat.reduceLT, Nat.reduceLeDiff, Nat.reducePow, Nat.reduceDiv, Nat.reduceMod, Nat.succ_ne_self, Nat.reduceBEq, Nat.reduceBNe, vint, TyS, TyF, TBS, TBF, DcS, DcF, SvS, SvF, PfS, PfF, hn0, hn1] <;> with_reducible rfl) (by decide) ?_
      -- region 4
      repeat (refine awp_seq ?_)
      refine e_eval (by simp only [asq, as0, as1, as2, awanted, aop, abin, ajust, LS, SS, SX, HS, mkS_cons, mkS_nil, ↓reduceIte, eq_self', List.map_nil, beq_self_eq_true, Nat.reduceEqDiff, Nat.reduceAdd, Nat.reduceMul, Nat.reduceLT, Nat.reduceLeDiff, Nat.reducePow, Nat.reduceDiv, Nat.reduceMod, Nat.succ_ne_self, Nat.reduceBEq, Nat.reduceBNe, Tryti3, Trytz3, Trytp3, Trytk3, vint, TyS, TyF, TBS, TBF, DcS, DcF, SvS, SvF, PfS, PfF, hn0, hn1] <;> with_reducible rfl) (by decide) ?_
      repeat (refine awp_seq ?_)
      refine awp_cond rfl (by simp only [LS, SS, SX, HS, mkS_cons, mkS_nil, ↓reduceIte, eq_self', List.map_nil, beq_self_eq_true, Nat.reduceEqDiff, Nat.reduceAdd, Nat.succ_ne_self, vint, TyS, TyF, TBS, TBF, DcS, DcF, SvS, SvF, PfS, PfF, hn0, hn1] <;> with_reducible rfl) (fun b1 => ?_) (fun b1 => ?_)
      · -- if t35
        have h2 : 0 ≤ idxI (boundP t tr) sas := by simpa using b1
        -- region 5
        repeat (refine awp_seq ?_)
        refine awp_draw 0 (by kernel_rfl) ?_
        refine d_take (bm := [0, 1, 0, 0, 15, 31, 63]) 1 (fresh := 0) (by kernel_rfl) (by simp only [dsq, ds0, ds1, ds2, ds3, awanted, hapB, effIds, effSet, nextFresh, ard, freshOk, isUnborn, aop, aload, ajust, LS, SS, SX, HS, mkS_cons, mkS_nil, ↓reduceIte, eq_self', List.map_nil, beq_self_eq_true, Nat.reduceEqDiff, Nat.reduceAdd, Nat.reduceMul, Nat.reduceLT, Nat.reduceLeDiff, Nat.reducePow, Nat.reduceDiv, Nat.reduceMod, Nat.succ_ne_self, Nat.reduceBEq, Nat.reduceBNe, Tryti24, Trytf24, Trytz24, Trytp24, vint, TyS, TyF, TBS, TBF, DcS, DcF, SvS, SvF, PfS, PfF, hn0, hn1] <;> with_reducible rfl) (by decide) (by decide) ?_
        refine dops_keep (bm := [0, 1, 0, 0, 15, 31, 63]) ([]) (by kernel_rfl) (by simp only [acall, awanted, LS, SS, SX, HS, mkS_cons, mkS_nil, ↓reduceIte, eq_self', List.map_nil, beq_self_eq_true, Nat.reduceEqDiff, Nat.reduceAdd, Nat.reduceMul, Nat.reduceLT, Nat.reduceLeDiff, Nat.reducePow, Nat.reduceDiv, Nat.reduceMod, Nat.succ_ne_self, Nat.reduceBEq, Nat.reduceBNe, vint, TyS, TyF, TBS, TBF, DcS, DcF, SvS, SvF, PfS, PfF, hn0, hn1] <;> with_reducible rfl) (by simp only [acall, awanted, LS, SS, SX, HS, mkS_cons, mkS_nil, ↓reduceIte, eq_self', List.map_nil, beq_self_eq_true, Nat.reduceEqDiff, Nat.reduceAdd, Nat.reduceMul, Nat.reduceLT, Nat.reduceLeDiff, Nat.reducePow, Nat.reduceDiv, Nat.reduceMod, Nat.succ_ne_self, Nat.reduceBEq, Nat.reduceBNe, vint, TyS, TyF, TBS, TBF, DcS, DcF, SvS, SvF, PfS, PfF, hn0, hn1]) (by decide) Trygo79 (fun H' _ => clone _ ht H') (by simp only [dsq, ds0, ds1, ds2, ds3, awanted, hapB, effIds, effSet, nextFresh, ard, freshOk, isUnborn, aop, LS, SS, SX, HS, mkS_cons, mkS_nil, ↓reduceIte, eq_self', List.map_nil, beq_self_eq_true, Nat.reduceEqDiff, Nat.reduceAdd, Nat.reduceMul, Nat.reduceLT, Nat.reduceLeDiff, Nat.reducePow, Nat.reduceDiv, Nat.reduceMod, Nat.succ_ne_self, Nat.reduceBEq, Nat.reduceBNe, vint, TyS, TyF, TBS, TBF, DcS, DcF, SvS, SvF, PfS, PfF, hn0, hn1] <;> first | done | rfl) ?_
        refine d_end (bm := [0, 1, 0, 0, 15, 31, 63]) (fresh := 0) (by kernel_rfl) (by simp only [dsq, ds0, ds1, ds2, ds3, awanted, hapB, effIds, effSet, nextFresh, ard, freshOk, isUnborn, aop, aload, ajust, abuild, splice, astore, LS, SS, SX, HS, mkS_cons, mkS_nil, ↓reduceIte, eq_self', List.map_nil, beq_self_eq_true, Nat.reduceEqDiff, Nat.reduceAdd, Nat.reduceMul, Nat.reduceLT, Nat.reduceLeDiff, Nat.reducePow, Nat.reduceDiv, Nat.reduceMod, Nat.succ_ne_self, Nat.reduceBEq, Nat.reduceBNe, Tryti3, Trytz3, Trytp3, Trytk3, Tryti63, Trytf63, Trytz63, Trytp63, vint, TyS, TyF, TBS, TBF, DcS, DcF, SvS, SvF, PfS, PfF, hn0, hn1] <;> with_reducible rfl) (by decide) ?_
        repeat (refine awp_seq ?_)
        -- leaf 1 ret
        refine awp_ret ⟨.inr rfl, _, (ares_two (.cell 8 63) (.tmp 9) rfl (ares_cell1 Tryti63 (by decide) (by simp only [aload, LS, SS, SX, HS, mkS_cons, mkS_nil, ↓reduceIte, eq_self', List.map_nil, beq_self_eq_true, Nat.reduceEqDiff, Nat.reduceAdd, Nat.reduceMul, Nat.reduceLT, Nat.reduceLeDiff, Nat.reducePow, Nat.reduceDiv, Nat.reduceMod, Nat.succ_ne_self, Nat.reduceBEq, Nat.reduceBNe, vint, TyS, TyF, TBS, TBF, DcS, DcF, SvS, SvF, PfS, PfF, hn0, hn1] <;> with_reducible rfl)) (ares_tmp1 (by decide))), ?_⟩
        rw [if_neg hq, if_pos h2]
        simp only [LS, SS, SX, HS, mkS_cons, mkS_nil, ↓reduceIte, eq_self', List.map_nil, beq_self_eq_true, Nat.reduceEqDiff, Nat.reduceAdd, Nat.succ_ne_self, vint, TyS, TyF, TBS, TBF, DcS, DcF, SvS, SvF, PfS, PfF]
      · -- else t35
        have h2 : ¬ 0 ≤ idxI (boundP t tr) sas := by simpa using b1
        repeat (refine awp_seq ?_)
        refine awp_skip ?_
        -- region 6
        repeat (refine awp_seq ?_)
        refine awp_region ?_
        refine e_take 3 (by simp only [asq, as0, as1, as2, awanted, aop, aload, ajust, LS, SS, SX, HS, mkS_cons, mkS_nil, ↓reduceIte, eq_self', List.map_nil, beq_self_eq_true, Nat.reduceEqDiff, Nat.reduceAdd, Nat.reduceMul, Nat.reduceLT, Nat.reduceLeDiff, Nat.reducePow, Nat.reduceDiv, Nat.reduceMod, Nat.succ_ne_self, Nat.reduceBEq, Nat.reduceBNe, Tryti3, Trytz3, Trytp3, Trytk3, Tryti24, Trytf24, Trytz24, Trytp24, Tryti123, Trytf123, Trytz123, Trytp123, vint, TyS, TyF, TBS, TBF, DcS, DcF, SvS, SvF, PfS, PfF, hn0, hn1] <;> with_reducible rfl) (by decide) ?_
        refine aops_pure (by simp only [acall, awanted, LS, SS, SX, HS, mkS_cons, mkS_nil, ↓reduceIte, eq_self', List.map_nil, beq_self_eq_true, Nat.reduceEqDiff, Nat.reduceAdd, Nat.reduceMul, Nat.reduceLT, Nat.reduceLeDiff, Nat.reducePow, Nat.reduceDiv, Nat.reduceMod, Nat.succ_ne_self, Nat.reduceBEq, Nat.reduceBNe, vint, TyS, TyF, TBS, TBF, DcS, DcF, SvS, SvF, PfS, PfF, hn0, hn1] <;> with_reducible rfl) (by simp only [acall, awanted, LS, SS, SX, HS, mkS_cons, mkS_nil, ↓reduceIte, eq_self', List.map_nil, beq_self_eq_true, Nat.reduceEqDiff, Nat.reduceAdd, Nat.reduceMul, Nat.reduceLT, Nat.reduceLeDiff, Nat.reducePow, Nat.reduceDiv, Nat.reduceMod, Nat.succ_ne_self, Nat.reduceBEq, Nat.reduceBNe, vint, TyS, TyF, TBS, TBF, DcS, DcF, SvS, SvF, PfS, PfF, hn0, hn1]) (by decide) Trygo129 (mi_c ds sas t tr hl hd ht _) ?_
        refine e_end (by simp only [asq, as0, as1, as2, awanted, aop, ajust, LS, SS, SX, HS, mkS_cons, mkS_nil, ↓reduceIte, eq_self', List.map_nil, beq_self_eq_true, Nat.reduceEqDiff, Nat.reduceAdd, Nat.reduceMul, Nat.reduceLT, Nat.reduceLeDiff, Nat.reducePow, Nat.reduceDiv, Nat.reduceMod, Nat.succ_ne_self, Nat.reduceBEq, Nat.reduceBNe, vint, TyS, TyF, TBS, TBF, DcS, DcF, SvS, SvF, PfS, PfF, hn0, hn1] <;> with_reducible rfl) (by decide) ?_
        refine awp_sel [3, 4, 5, 6, 8, 11, 12] (by simp only [LS, SS, SX, HS, mkS_cons, mkS_nil, ↓reduceIte, eq_self', List.map_nil, beq_self_eq_true, Nat.reduceEqDiff, Nat.reduceAdd, Nat.succ_ne_self, vint, TyS, TyF, TBS, TBF, DcS, DcF, SvS, SvF, PfS, PfF, hn0, hn1] <;> with_reducible rfl) ?_
        by_cases hix : implIx ds t tr < 0
        · -- case
          have hx : decide (implIx ds t tr < 0) = true := decide_eq_true hix
          have g1 : True = True := rfl
          have g2 : True = True := rfl
          -- region 7
          repeat (refine awp_seq ?_)
          refine awp_region ?_
          refine aops_gstart ?_
          refine g_take 6 (by simp only [gsq, gs0, gs1, gs2, gcond, gop, SG, Op.operands, Call.operands, Array.toList_append, aop, abin, ajust, afldAddr, aload, LS, SS, SX, HS, mkS_cons, mkS_nil, ↓reduceIte, eq_self', List.map_nil, beq_self_eq_true, Nat.reduceEqDiff, Nat.reduceAdd, Nat.reduceMul, Nat.reduceLT, Nat.reduceLeDiff, Nat.reducePow, Nat.reduceDiv, Nat.reduceMod, Nat.succ_ne_self, Nat.reduceBEq, Nat.reduceBNe, Tryti3, Trytz3, Trytp3, Trytk3, Tryti59, Tryte59, Trytz59, Trytp59, Tryti71, Trytf71, Trytz71, Trytp71, Tryti123, Trytf123, Trytz123, Trytp123, vint, TyS, TyF, TBS, TBF, DcS, DcF, SvS, SvF, PfS, PfF, hn0, hn1, hx, Bool.true_or] <;> with_reducible rfl) (by decide) ?_
          refine aops_gskip (r := .tup []) (by simp only [acall, gcond, SG, Op.operands, Call.operands, Array.toList_append, LS, SS, SX, HS, mkS_cons, mkS_nil, ↓reduceIte, eq_self', List.map_nil, beq_self_eq_true, Nat.reduceEqDiff, Nat.reduceAdd, Nat.reduceMul, Nat.reduceLT, Nat.reduceLeDiff, Nat.reducePow, Nat.reduceDiv, Nat.reduceMod, Nat.succ_ne_self, Nat.reduceBEq, Nat.reduceBNe, vint, TyS, TyF, TBS, TBF, DcS, DcF, SvS, SvF, PfS, PfF, hx, Bool.true_or, Bool.not_true, Bool.not_false] <;> with_reducible rfl) ?_
          refine aops_gskip (r := .tup []) (by simp only [acall, gcond, SG, Op.operands, Call.operands, Array.toList_append, LS, SS, SX, HS, mkS_cons, mkS_nil, ↓reduceIte, eq_self', List.map_nil, beq_self_eq_true, Nat.reduceEqDiff, Nat.reduceAdd, Nat.reduceMul, Nat.reduceLT, Nat.reduceLeDiff, Nat.reducePow, Nat.reduceDiv, Nat.reduceMod, Nat.succ_ne_self, Nat.reduceBEq, Nat.reduceBNe, vint, TyS, TyF, TBS, TBF, DcS, DcF, SvS, SvF, PfS, PfF, hx, Bool.true_or, Bool.not_true, Bool.not_false] <;> with_reducible rfl) ?_
          refine aops_gskip (r := .tup []) (by simp only [acall, gcond, SG, Op.operands, Call.operands, Array.toList_append, LS, SS, SX, HS, mkS_cons, mkS_nil, ↓reduceIte, eq_self', List.map_nil, beq_self_eq_true, Nat.reduceEqDiff, Nat.reduceAdd, Nat.reduceMul, Nat.reduceLT, Nat.reduceLeDiff, Nat.reducePow, Nat.reduceDiv, Nat.reduceMod, Nat.succ_ne_self, Nat.reduceBEq, Nat.reduceBNe, vint, TyS, TyF, TBS, TBF, DcS, DcF, SvS, SvF, PfS, PfF, hx, Bool.true_or, Bool.not_true, Bool.not_false] <;> with_reducible rfl) ?_
          refine aops_gskip (r := .tup []) (by simp only [acall, gcond, SG, Op.operands, Call.operands, Array.toList_append, LS, SS, SX, HS, mkS_cons, mkS_nil, ↓reduceIte, eq_self', List.map_nil, beq_self_eq_true, Nat.reduceEqDiff, Nat.reduceAdd, Nat.reduceMul, Nat.reduceLT, Nat.reduceLeDiff, Nat.reducePow, Nat.reduceDiv, Nat.reduceMod, Nat.succ_ne_self, Nat.reduceBEq, Nat.reduceBNe, vint, TyS, TyF, TBS, TBF, DcS, DcF, SvS, SvF, PfS, PfF, hx, Bool.true_or, Bool.not_true, Bool.not_false] <;> with_reducible rfl) ?_
          refine aops_gskip (r := .tup []) (by simp only [acall, gcond, SG, Op.operands, Call.operands, Array.toList_append, LS, SS, SX, HS, mkS_cons, mkS_nil, ↓reduceIte, eq_self', List.map_nil, beq_self_eq_true, Nat.reduceEqDiff, Nat.reduceAdd, Nat.reduceMul, Nat.reduceLT, Nat.reduceLeDiff, Nat.reducePow, Nat.reduceDiv, Nat.reduceMod, Nat.succ_ne_self, Nat.reduceBEq, Nat.reduceBNe, vint, TyS, TyF, TBS, TBF, DcS, DcF, SvS, SvF, PfS, PfF, hx, Bool.true_or, Bool.not_true, Bool.not_false] <;> with_reducible rfl) ?_
          refine g_end (by simp only [gsq, gs0, gs1, gs2, gcond, gop, SG, Op.operands, Call.operands, Array.toList_append, aop, LS, SS, SX, HS, mkS_cons, mkS_nil, ↓reduceIte, eq_self', List.map_nil, beq_self_eq_true, Nat.reduceEqDiff, Nat.reduceAdd, Nat.reduceMul, Nat.reduceLT, Nat.reduceLeDiff, Nat.reducePow, Nat.reduceDiv, Nat.reduceMod, Nat.succ_ne_self, Nat.reduceBEq, Nat.reduceBNe, vint, TyS, TyF, TBS, TBF, DcS, DcF, SvS, SvF, PfS, PfF, hn0, hn1, hx, Bool.true_or] <;> with_reducible rfl) (by decide) (by repeat (first | exact Fin.base _ | with_reducible apply Fin.keep | apply Fin.drop)) ?_
          repeat (refine awp_seq ?_)
          refine awp_cond_true rfl (by simp only [LS, SS, SX, HS, mkS_cons, mkS_nil, ↓reduceIte, eq_self', List.map_nil, beq_self_eq_true, Nat.reduceEqDiff, Nat.reduceAdd, Nat.succ_ne_self, vint, TyS, TyF, TBS, TBF, DcS, DcF, SvS, SvF, PfS, PfF, hn0, hn1, hx, Bool.true_or] <;> with_reducible rfl) ?_
          -- region 8
          repeat (refine awp_seq ?_)
          refine e_eval (by simp only [asq, as0, as1, as2, awanted, aop, abuild, splice, astore, LS, SS, SX, HS, mkS_cons, mkS_nil, ↓reduceIte, eq_self', List.map_nil, beq_self_eq_true, Nat.reduceEqDiff, Nat.reduceAdd, Nat.reduceMul, Nat.reduceLT, Nat.reduceLeDiff, Nat.reducePow, Nat.reduceDiv, Nat.reduceMod, Nat.succ_ne_self, Nat.reduceBEq, Nat.reduceBNe, Tryti63, Trytf63, Trytz63, Trytp63, vint, TyS, TyF, TBS, TBF, DcS, DcF, SvS, SvF, PfS, PfF, hn0, hn1, hx, Bool.true_or] <;> with_reducible rfl) (by decide) ?_
          repeat (refine awp_seq ?_)
          -- leaf 2 ret
          refine awp_ret ⟨.inr rfl, _, (ares_two (.cell 8 63) (.tmp 9) rfl (ares_cell1 Tryti63 (by decide) (by simp only [aload, LS, SS, SX, HS, mkS_cons, mkS_nil, ↓reduceIte, eq_self', List.map_nil, beq_self_eq_true, Nat.reduceEqDiff, Nat.reduceAdd, Nat.reduceMul, Nat.reduceLT, Nat.reduceLeDiff, Nat.reducePow, Nat.reduceDiv, Nat.reduceMod, Nat.succ_ne_self, Nat.reduceBEq, Nat.reduceBNe, vint, TyS, TyF, TBS, TBF, DcS, DcF, SvS, SvF, PfS, PfF, hn0, hn1, hx, Bool.true_or] <;> with_reducible rfl)) (ares_tmp1 (by decide))), ?_⟩
          rw [if_neg hq, if_neg h2, if_pos (Or.inl hix)]
          simp only [LS, SS, SX, HS, mkS_cons, mkS_nil, ↓reduceIte, eq_self', List.map_nil, beq_self_eq_true, Nat.reduceEqDiff, Nat.reduceAdd, Nat.succ_ne_self, vint, TyS, TyF, TBS, TBF, DcS, DcF, SvS, SvF, PfS, PfF]
          rfl
        · -- case
          have hx : decide (implIx ds t tr < 0) = false := decide_eq_false hix
          have hlt : (implIx ds t tr).toNat < ds.length := by have := idxI_lt (p := implP t tr) (xs := ds) (by unfold implIx at hix; omega); unfold implIx at hix ⊢; omega
          have g1 : ((0 : Int) ≤ implIx ds t tr ∧ implIx ds t tr < ds.length) = True := by simp; omega
          obtain ⟨d, hde⟩ : ∃ d, implD ds t tr = d := ⟨_, rfl⟩
          have hgd := (implD_get (ds := ds) (t := t) (tr := tr) (by omega)).1
          rw [hde] at hgd
          have g2 : (ds.map Dc.enc)[(implIx ds t tr).toNat]? = some d.enc := by rw [List.getElem?_map, hgd]; rfl
          obtain ⟨hW, h40⟩ := hd d (List.mem_of_getElem? hgd)
          -- region 7
          repeat (refine awp_seq ?_)
          refine g_eval (by simp only [gsq, gs0, gs1, gs2, gcond, gop, SG, Op.operands, Call.operands, Array.toList_append, aop, abin, ajust, afldAddr, aload, aidxAddr, aidx, abuiltin, LS, SS, SX, HS, mkS_cons, mkS_nil, ↓reduceIte, eq_self', List.map_nil, beq_self_eq_true, Nat.reduceEqDiff, Nat.reduceAdd, Nat.reduceMul, Nat.reduceLT, Nat.reduceLeDiff, Nat.reducePow, Nat.reduceDiv, Nat.reduceMod, Nat.succ_ne_self, Nat.reduceBEq, Nat.reduceBNe, Tryti3, Trytz3, Trytp3, Trytk3, Tryti59, Tryte59, Trytz59, Trytp59, Tryti60, Tryte60, Trytz60, Trytp60, Tryti71, Trytf71, Trytz71, Trytp71, Tryti74, Trytf74, Trytz74, Trytp74, Tryti123, Trytf123, Trytz123, Trytp123, vint, TyS, TyF, TBS, TBF, DcS, DcF, SvS, SvF, PfS, PfF, hn0, hn1, hx, Bool.false_or, g1, g2] <;> with_reducible rfl) (by decide) (by repeat (first | exact Fin.base _ | with_reducible apply Fin.keep | apply Fin.drop)) ?_
          repeat (refine awp_seq ?_)
          refine awp_cond rfl (by simp only [LS, SS, SX, HS, mkS_cons, mkS_nil, ↓reduceIte, eq_self', List.map_nil, beq_self_eq_true, Nat.reduceEqDiff, Nat.reduceAdd, Nat.succ_ne_self, vint, TyS, TyF, TBS, TBF, DcS, DcF, SvS, SvF, PfS, PfF, hn0, hn1, hx, Bool.false_or, g1, g2] <;> with_reducible rfl) (fun b3 => ?_) (fun b3 => ?_)
          · -- if t59
            have h3 : implIx ds t tr < 0 ∨ 4 < (implD ds t tr).bs.length := by rw [hde]; right; have := b3; simp at this; omega
            -- region 8
            repeat (refine awp_seq ?_)
            refine e_eval (by simp only [asq, as0, as1, as2, awanted, aop, abuild, splice, astore, LS, SS, SX, HS, mkS_cons, mkS_nil, ↓reduceIte, eq_self', List.map_nil, beq_self_eq_true, Nat.reduceEqDiff, Nat.reduceAdd, Nat.reduceMul, Nat.reduceLT, Nat.reduceLeDiff, Nat.reducePow, Nat.reduceDiv, Nat.reduceMod, Nat.succ_ne_self, Nat.reduceBEq, Nat.reduceBNe, Tryti63, Trytf63, Trytz63, Trytp63, vint, TyS, TyF, TBS, TBF, DcS, DcF, SvS, SvF, PfS, PfF, hn0, hn1, hx, Bool.false_or, g1, g2] <;> with_reducible rfl) (by decide) ?_
            repeat (refine awp_seq ?_)
            -- leaf 3 ret
            refine awp_ret ⟨.inr rfl, _, (ares_two (.cell 8 63) (.tmp 9) rfl (ares_cell1 Tryti63 (by decide) (by simp only [aload, LS, SS, SX, HS, mkS_cons, mkS_nil, ↓reduceIte, eq_self', List.map_nil, beq_self_eq_true, Nat.reduceEqDiff, Nat.reduceAdd, Nat.reduceMul, Nat.reduceLT, Nat.reduceLeDiff, Nat.reducePow, Nat.reduceDiv, Nat.reduceMod, Nat.succ_ne_self, Nat.reduceBEq, Nat.reduceBNe, vint, TyS, TyF, TBS, TBF, DcS, DcF, SvS, SvF, PfS, PfF, hn0, hn1, hx, Bool.false_or, g1, g2] <;> with_reducible rfl)) (ares_tmp1 (by decide))), ?_⟩
            rw [if_neg hq, if_neg h2, if_pos h3]
            simp only [LS, SS, SX, HS, mkS_cons, mkS_nil, ↓reduceIte, eq_self', List.map_nil, beq_self_eq_true, Nat.reduceEqDiff, Nat.reduceAdd, Nat.succ_ne_self, vint, TyS, TyF, TBS, TBF, DcS, DcF, SvS, SvF, PfS, PfF]
            rfl
          · -- else t59
            have hb4 : d.bs.length ≤ 4 := by simp at b3; omega
            have h3 : ¬ (implIx ds t tr < 0 ∨ 4 < (implD ds t tr).bs.length) := by rw [hde]; omega
            rw [if_neg hq, if_neg h2, if_neg h3, hde]
            have hmx : maxLen = 9223372036854775807 := by decide
            repeat (refine awp_seq ?_)
            refine awp_skip ?_
            -- region 9
            repeat (refine awp_seq ?_)
            refine awp_draw 1 (by kernel_rfl) ?_
            refine d_take (bm := [0, 1, 0, 0, 0, 31, 0, 127]) 1 (fresh := (4)) (by kernel_rfl) (by simp only [dsq, ds0, ds1, ds2, ds3, awanted, hapB, effIds, effSet, nextFresh, ard, freshOk, isUnborn, aop, aload, ajust, LS, SS, SX, HS, mkS_cons, mkS_nil, ↓reduceIte, eq_self', List.map_nil, beq_self_eq_true, Nat.reduceEqDiff, Nat.reduceAdd, Nat.reduceMul, Nat.reduceLT, Nat.reduceLeDiff, Nat.reducePow, Nat.reduceDiv, Nat.reduceMod, Nat.succ_ne_self, Nat.reduceBEq, Nat.reduceBNe, Tryti24, Trytf24, Trytz24, Trytp24, vint, TyS, TyF, TBS, TBF, DcS, DcF, SvS, SvF, PfS, PfF, hn0, hn1, hx, Bool.false_or, g1, g2] <;> with_reducible rfl) (by decide) (by decide) ?_
            refine dops_keep (bm := [0, 1, 0, 0, 0, 31, 0, 127]) ([]) (by kernel_rfl) (by simp only [acall, awanted, LS, SS, SX, HS, mkS_cons, mkS_nil, ↓reduceIte, eq_self', List.map_nil, beq_self_eq_true, Nat.reduceEqDiff, Nat.reduceAdd, Nat.reduceMul, Nat.reduceLT, Nat.reduceLeDiff, Nat.reducePow, Nat.reduceDiv, Nat.reduceMod, Nat.succ_ne_self, Nat.reduceBEq, Nat.reduceBNe, vint, TyS, TyF, TBS, TBF, DcS, DcF, SvS, SvF, PfS, PfF, hn0, hn1, hx, Bool.false_or, g1, g2] <;> with_reducible rfl) (by simp only [acall, awanted, LS, SS, SX, HS, mkS_cons, mkS_nil, ↓reduceIte, eq_self', List.map_nil, beq_self_eq_true, Nat.reduceEqDiff, Nat.reduceAdd, Nat.reduceMul, Nat.reduceLT, Nat.reduceLeDiff, Nat.reducePow, Nat.reduceDiv, Nat.reduceMod, Nat.succ_ne_self, Nat.reduceBEq, Nat.reduceBNe, vint, TyS, TyF, TBS, TBF, DcS, DcF, SvS, SvF, PfS, PfF, hn0, hn1, hx, Bool.false_or, g1, g2]) (by decide) Trygo79 (fun H' _ => clone _ ht H') (by simp only [dsq, ds0, ds1, ds2, ds3, awanted, hapB, effIds, effSet, nextFresh, ard, freshOk, isUnborn, aop, LS, SS, SX, HS, mkS_cons, mkS_nil, ↓reduceIte, eq_self', List.map_nil, beq_self_eq_true, Nat.reduceEqDiff, Nat.reduceAdd, Nat.reduceMul, Nat.reduceLT, Nat.reduceLeDiff, Nat.reducePow, Nat.reduceDiv, Nat.reduceMod, Nat.succ_ne_self, Nat.reduceBEq, Nat.reduceBNe, vint, TyS, TyF, TBS, TBF, DcS, DcF, SvS, SvF, PfS, PfF, hn0, hn1, hx, Bool.false_or, g1, g2] <;> first | done | rfl) ?_
            refine d_end (bm := [0, 1, 0, 0, 0, 31, 0, 127]) (fresh := (4)) (by kernel_rfl) (by simp only [dsq, ds0, ds1, ds2, ds3, awanted, hapB, effIds, effSet, nextFresh, ard, freshOk, isUnborn, aop, aload, ajust, abuild, splice, astore, LS, SS, SX, HS, mkS_cons, mkS_nil, ↓reduceIte, eq_self', List.map_nil, beq_self_eq_true, Nat.reduceEqDiff, Nat.reduceAdd, Nat.reduceMul, Nat.reduceLT, Nat.reduceLeDiff, Nat.reducePow, Nat.reduceDiv, Nat.reduceMod, Nat.succ_ne_self, Nat.reduceBEq, Nat.reduceBNe, Tryti3, Trytz3, Trytp3, Trytk3, Tryti63, Trytf63, Trytz63, Trytp63, vint, TyS, TyF, TBS, TBF, DcS, DcF, SvS, SvF, PfS, PfF, hn0, hn1, hx, Bool.false_or, g1, g2] <;> with_reducible rfl) (by decide) ?_
            refine awp_sel [3, 4, 8, 11, 12, 13] (by simp only [LS, SS, SX, HS, mkS_cons, mkS_nil, ↓reduceIte, eq_self', List.map_nil, beq_self_eq_true, Nat.reduceEqDiff, Nat.reduceAdd, Nat.succ_ne_self, vint, TyS, TyF, TBS, TBF, DcS, DcF, SvS, SvF, PfS, PfF, hn0, hn1, hx, Bool.false_or, g1, g2] <;> with_reducible rfl) ?_
            -- region 10
            repeat (refine awp_seq ?_)
            refine e_eval (by simp only [asq, as0, as1, as2, awanted, aop, afldAddr, ajust, aload, aidxAddr, aidx, abuiltin, LS, SS, SX, HS, mkS_cons, mkS_nil, ↓reduceIte, eq_self', List.map_nil, beq_self_eq_true, Nat.reduceEqDiff, Nat.reduceAdd, Nat.reduceMul, Nat.reduceLT, Nat.reduceLeDiff, Nat.reducePow, Nat.reduceDiv, Nat.reduceMod, Nat.succ_ne_self, Nat.reduceBEq, Nat.reduceBNe, Tryti59, Tryte59, Trytz59, Trytp59, Tryti60, Tryte60, Trytz60, Trytp60, Tryti71, Trytf71, Trytz71, Trytp71, Tryti74, Trytf74, Trytz74, Trytp74, Tryti123, Trytf123, Trytz123, Trytp123, vint, TyS, TyF, TBS, TBF, DcS, DcF, SvS, SvF, PfS, PfF, hn0, hn1, hx, Bool.false_or, g1, g2] <;> with_reducible rfl) (by decide) ?_
            repeat (refine awp_seq ?_)
            refine awp_retok_row 4 7 8 (by simp only [LS, SS, SX, HS]; rfl) rfl ?_
            refine awp_forS (σ := List Pf) (d.bs.length) (fun (s : List Pf) => [(3, .int .i64 ((n + 1 : Nat) : Int)), (4, .optr 0 0), (8, .optr 3 0), (11, .int .i64 (implIx ds t tr)), (12, .slice ((implAs ds t tr).map Ty.enc) .none), (13, .optr 4 0), (72, .slice (d.bs.map TB.enc) .none)]) [3, 4, 8, 11, 12, 13, 72] ([]) (fun (s : List Pf) => [.row (Sv.mk ds sas).enc.cells, .row t.enc.cells, .row [.int .i64 tr], .row [.int .i64 0, .int .i64 0, .slice [] .full, .int .i64 0, .int .i64 0, .int .i64 0, .slice [] .full, .slice [] .full], .row [.int .i64 t.kind, .int .i64 t.id, .slice (t.args.map Ty.enc) .none, .int .i64 tr, .int .i64 (implIx ds t tr), .int .i64 (-1), .slice ((implAs ds t tr).map Ty.enc) .none, .slice (s.map Pf.enc) (.tok 5)], .buf s.length 8]) (fun (i : Nat) (s : List Pf) => (d.bs.take i).all (fun b => (solveT ds sas n (mapT (appG d.ps (implAs ds t tr)) b.t) b.tr).2) = true ∧ s = (d.bs.take i).map (fun b => (solveT ds sas n (mapT (appG d.ps (implAs ds t tr)) b.t) b.tr).1)) ([]) ([]) rfl rfl rfl rfl rfl rfl rfl rfl rfl (by decide) (by decide) (by decide) (fun _ => rfl) (by omega) ⟨(by first | rfl | (simp only [LS, SS, SX, HS, mkS_cons, mkS_nil, ↓reduceIte, eq_self', List.map_nil, beq_self_eq_true, Nat.reduceEqDiff, Nat.reduceAdd, Nat.succ_ne_self, vint, TyS, TyF, TBS, TBF, DcS, DcF, SvS, SvF, PfS, PfF, hn0, hn1, hx, Bool.false_or, g1, g2] <;> first | done | with_reducible rfl)), (by first | rfl | (simp only [LS, SS, SX, HS, mkS_cons, mkS_nil, ↓reduceIte, eq_self', List.map_nil, beq_self_eq_true, Nat.reduceEqDiff, Nat.reduceAdd, Nat.succ_ne_self, vint, TyS, TyF, TBS, TBF, DcS, DcF, SvS, SvF, PfS, PfF, hn0, hn1, hx, Bool.false_or, g1, g2] <;> first | done | with_reducible rfl)), (by first | rfl | (simp only [LS, SS, SX, HS, mkS_cons, mkS_nil, ↓reduceIte, eq_self', List.map_nil, beq_self_eq_true, Nat.reduceEqDiff, Nat.reduceAdd, Nat.succ_ne_self, vint, TyS, TyF, TBS, TBF, DcS, DcF, SvS, SvF, PfS, PfF, hn0, hn1, hx, Bool.false_or, g1, g2] <;> first | done | with_reducible rfl)), (by first | rfl | (simp only [LS, SS, SX, HS, mkS_cons, mkS_nil, ↓reduceIte, eq_self', List.map_nil, beq_self_eq_true, Nat.reduceEqDiff, Nat.reduceAdd, Nat.succ_ne_self, vint, TyS, TyF, TBS, TBF, DcS, DcF, SvS, SvF, PfS, PfF, hn0, hn1, hx, Bool.false_or, g1, g2] <;> first | done | with_reducible rfl)), (by first | rfl | (simp only [LS, SS, SX, HS, mkS_cons, mkS_nil, ↓reduceIte, eq_self', List.map_nil, beq_self_eq_true, Nat.reduceEqDiff, Nat.reduceAdd, Nat.succ_ne_self, vint, TyS, TyF, TBS, TBF, DcS, DcF, SvS, SvF, PfS, PfF, hn0, hn1, hx, Bool.false_or, g1, g2] <;> first | done | with_reducible rfl)), (by first | rfl | (simp only [LS, SS, SX, HS, mkS_cons, mkS_nil, ↓reduceIte, eq_self', List.map_nil, beq_self_eq_true, Nat.reduceEqDiff, Nat.reduceAdd, Nat.succ_ne_self, vint, TyS, TyF, TBS, TBF, DcS, DcF, SvS, SvF, PfS, PfF, hn0, hn1, hx, Bool.false_or, g1, g2] <;> first | done | with_reducible rfl)), (by first | rfl | (simp only [LS, SS, SX, HS, mkS_cons, mkS_nil, ↓reduceIte, eq_self', List.map_nil, beq_self_eq_true, Nat.reduceEqDiff, Nat.reduceAdd, Nat.succ_ne_self, vint, TyS, TyF, TBS, TBF, DcS, DcF, SvS, SvF, PfS, PfF, hn0, hn1, hx, Bool.false_or, g1, g2] <;> first | done | with_reducible rfl)), (by first | rfl | (simp only [LS, SS, SX, HS, mkS_cons, mkS_nil, ↓reduceIte, eq_self', List.map_nil, beq_self_eq_true, Nat.reduceEqDiff, Nat.reduceAdd, Nat.succ_ne_self, vint, TyS, TyF, TBS, TBF, DcS, DcF, SvS, SvF, PfS, PfF, hn0, hn1, hx, Bool.false_or, g1, g2] <;> first | done | with_reducible rfl)), (by first | rfl | (simp only [LS, SS, SX, HS, mkS_cons, mkS_nil, ↓reduceIte, eq_self', List.map_nil, beq_self_eq_true, Nat.reduceEqDiff, Nat.reduceAdd, Nat.succ_ne_self, vint, TyS, TyF, TBS, TBF, DcS, DcF, SvS, SvF, PfS, PfF, hn0, hn1, hx, Bool.false_or, g1, g2] <;> first | done | with_reducible rfl)), trivial⟩ (by first | rfl | (simp only [LS, SS, SX, HS, mkS_cons, mkS_nil, ↓reduceIte, eq_self', List.map_nil, beq_self_eq_true, Nat.reduceEqDiff, Nat.reduceAdd, Nat.succ_ne_self, vint, TyS, TyF, TBS, TBF, DcS, DcF, SvS, SvF, PfS, PfF, hn0, hn1, hx, Bool.false_or, g1, g2] <;> first | done | with_reducible rfl)) (by simp) (fun _ _ _ => by first | exact Nat.zero_le _ | (simp only [List.length_append]; omega)) ?_ ?_ ?_
            · exact fun i s hg => ⟨by simp only [SvS, TyS, List.nil_append]; repeat (first | exact hbel_nil _ | exact trivial | exact obel_row_nil _ | (refine HBel.cons ?_ ?_) | (refine obel_row_cons (by first | exact bel_TB _ _ | exact TB.bel _ _ | exact bel_Dc _ _ | exact Dc.bel _ _ | exact Pf.bel _ _ | exact bel_Pf _ _ | exact Sv.bel _ _ | exact bel_Pf_tok _ (by simp) | exact bel_ints0 _ _ | exact bel_slice_ty _ _ | exact Ty.bel _ _ | exact bel_ty_tok _ (by simp) | exact Bel.int _ _ | exact Bel.bool _ | exact Bel.str _ | exact Bel.nilp | exact Bel.nilfn | exact Bel.optr _ _ (by simp) | exact bel_nil0 _ | exact bel_nil1 _ | exact bel_fn0 _ _ | assumption) ?_)), by repeat (first | exact BelL.nil | refine BelL.cons (by first | exact bel_TB _ _ | exact TB.bel _ _ | exact bel_Dc _ _ | exact Dc.bel _ _ | exact Pf.bel _ _ | exact bel_Pf _ _ | exact Sv.bel _ _ | exact bel_Pf_tok _ (by simp) | exact bel_ints0 _ _ | exact bel_slice_ty _ _ | exact Ty.bel _ _ | exact bel_ty_tok _ (by simp) | exact Bel.int _ _ | exact Bel.bool _ | exact Bel.str _ | exact Bel.nilp | exact Bel.nilfn | exact Bel.optr _ _ (by simp) | exact bel_nil0 _ | exact bel_nil1 _ | exact bel_fn0 _ _ | assumption) ?_)⟩
            · intro i s hi hg
              have g3 := ix_nat hi
              have g4 := get_enc TB.enc hi
              have hbw := hW.el_bs _ (List.getElem_mem hi)
              obtain ⟨b, hbe⟩ : ∃ b, d.bs[i] = b := ⟨_, rfl⟩
              rw [hbe] at g4 hbw
              have hps := hW.max_ps
              have hWa := app_W (ps := d.ps) (implAs_W (ds := ds) (tr := tr) ht) hbw.st_t
              have hsn : s.length = i := by rw [hg.2, List.length_map, List.length_take]; omega
              have happ := app_Pf (us := s) (u := (solveT ds sas n (mapT (appG d.ps (implAs ds t tr)) b.t) b.tr).1) (id := 5) (tl := .full) (by omega)
              -- region 12
              repeat (refine awp_seq ?_)
              refine e_eval (by simp only [asq, as0, as1, as2, awanted, aop, aidxAddr, aidx, ajust, aload, astore, splice, LS, SS, SX, HS, mkS_cons, mkS_nil, ↓reduceIte, eq_self', List.map_nil, beq_self_eq_true, Nat.reduceEqDiff, Nat.reduceAdd, Nat.reduceMul, Nat.reduceLT, Nat.reduceLeDiff, Nat.reducePow, Nat.reduceDiv, Nat.reduceMod, Nat.succ_ne_self, Nat.reduceBEq, Nat.reduceBNe, Tryti60, Tryte60, Trytz60, Trytp60, Tryti74, Trytf74, Trytz74, Trytp74, vint, TyS, TyF, TBS, TBF, DcS, DcF, SvS, SvF, PfS, PfF, hn0, hn1, hx, Bool.false_or, g1, g2, g3, g4, Int.toNat_natCast] <;> with_reducible rfl) (by decide) ?_
              -- region 13
              repeat (refine awp_seq ?_)
              refine awp_draw 1 (by kernel_rfl) ?_
              refine d_take (bm := [0, 0, 2, 0, 8, 0, 56, 120, 248, 0, 1022, 0, 2048, 0, 8192, 32767, 65535, 131071, 131071, 0, 786431, 2097151]) 10 (fresh := (7)) (by kernel_rfl) (by simp only [dsq, ds0, ds1, ds2, ds3, awanted, hapB, effIds, effSet, nextFresh, ard, freshOk, isUnborn, aop, aload, ajust, afldAddr, aidxAddr, aidx, LS, SS, SX, HS, mkS_cons, mkS_nil, ↓reduceIte, eq_self', List.map_nil, beq_self_eq_true, Nat.reduceEqDiff, Nat.reduceAdd, Nat.reduceMul, Nat.reduceLT, Nat.reduceLeDiff, Nat.reducePow, Nat.reduceDiv, Nat.reduceMod, Nat.succ_ne_self, Nat.reduceBEq, Nat.reduceBNe, Tryti3, Trytz3, Trytp3, Trytk3, Tryti24, Trytf24, Trytz24, Trytp24, Tryti25, Tryte25, Trytz25, Trytp25, Tryti59, Tryte59, Trytz59, Trytp59, Tryti71, Trytf71, Trytz71, Trytp71, Tryti74, Trytf74, Trytz74, Trytp74, Tryti123, Trytf123, Trytz123, Trytp123, vint, TyS, TyF, TBS, TBF, DcS, DcF, SvS, SvF, PfS, PfF, hn0, hn1, hx, Bool.false_or, g1, g2, g3, g4, Int.toNat_natCast] <;> with_reducible rfl) (by decide) (by decide) ?_
              refine dops_keep (bm := [0, 0, 2, 0, 8, 0, 56, 120, 248, 0, 1022, 0, 2048, 0, 8192, 32767, 65535, 131071, 131071, 0, 786431, 2097151]) ([]) (by kernel_rfl) (by simp only [acall, awanted, LS, SS, SX, HS, mkS_cons, mkS_nil, ↓reduceIte, eq_self', List.map_nil, beq_self_eq_true, Nat.reduceEqDiff, Nat.reduceAdd, Nat.reduceMul, Nat.reduceLT, Nat.reduceLeDiff, Nat.reducePow, Nat.reduceDiv, Nat.reduceMod, Nat.succ_ne_self, Nat.reduceBEq, Nat.reduceBNe, vint, TyS, TyF, TBS, TBF, DcS, DcF, SvS, SvF, PfS, PfF, hn0, hn1, hx, Bool.false_or, g1, g2, g3, g4, Int.toNat_natCast] <;> with_reducible rfl) (by simp only [acall, awanted, LS, SS, SX, HS, mkS_cons, mkS_nil, ↓reduceIte, eq_self', List.map_nil, beq_self_eq_true, Nat.reduceEqDiff, Nat.reduceAdd, Nat.reduceMul, Nat.reduceLT, Nat.reduceLeDiff, Nat.reducePow, Nat.reduceDiv, Nat.reduceMod, Nat.succ_ne_self, Nat.reduceBEq, Nat.reduceBNe, vint, TyS, TyF, TBS, TBF, DcS, DcF, SvS, SvF, PfS, PfF, hn0, hn1, hx, Bool.false_or, g1, g2, g3, g4, Int.toNat_natCast]) (by decide) Trygo24 (fun H' _ => apply_c b.t d.ps (implAs ds t tr) hbw.st_t hps (implAs_W ht) H') (by simp only [dsq, ds0, ds1, ds2, ds3, awanted, hapB, effIds, effSet, nextFresh, ard, freshOk, isUnborn, aop, LS, SS, SX, HS, mkS_cons, mkS_nil, ↓reduceIte, eq_self', List.map_nil, beq_self_eq_true, Nat.reduceEqDiff, Nat.reduceAdd, Nat.reduceMul, Nat.reduceLT, Nat.reduceLeDiff, Nat.reducePow, Nat.reduceDiv, Nat.reduceMod, Nat.succ_ne_self, Nat.reduceBEq, Nat.reduceBNe, vint, TyS, TyF, TBS, TBF, DcS, DcF, SvS, SvF, PfS, PfF, hn0, hn1, hx, Bool.false_or, g1, g2, g3, g4, Int.toNat_natCast] <;> first | done | rfl) ?_
              refine d_take (bm := [0, 0, 2, 0, 8, 0, 56, 120, 248, 0, 1022, 0, 2048, 0, 8192, 32767, 65535, 131071, 131071, 0, 786431, 2097151]) 4 (fresh := (7)) (by kernel_rfl) (by simp only [dsq, ds0, ds1, ds2, ds3, awanted, hapB, effIds, effSet, nextFresh, ard, freshOk, isUnborn, aop, afldAddr, ajust, aload, abin, LS, SS, SX, HS, mkS_cons, mkS_nil, ↓reduceIte, eq_self', List.map_nil, beq_self_eq_true, Nat.reduceEqDiff, Nat.reduceAdd, Nat.reduceMul, Nat.reduceLT, Nat.reduceLeDiff, Nat.reducePow, Nat.reduceDiv, Nat.reduceMod, Nat.succ_ne_self, Nat.reduceBEq, Nat.reduceBNe, Tryti3, Trytz3, Trytp3, Trytk3, Tryti74, Trytf74, Trytz74, Trytp74, vint, TyS, TyF, TBS, TBF, DcS, DcF, SvS, SvF, PfS, PfF, hn0, hn1, hx, Bool.false_or, g1, g2, g3, g4, Int.toNat_natCast] <;> with_reducible rfl) (by decide) (by decide) ?_
              refine dops_keep (bm := [0, 0, 2, 0, 8, 0, 56, 120, 248, 0, 1022, 0, 2048, 0, 8192, 32767, 65535, 131071, 131071, 0, 786431, 2097151]) ([]) (by kernel_rfl) (by simp only [acall, awanted, LS, SS, SX, HS, mkS_cons, mkS_nil, ↓reduceIte, eq_self', List.map_nil, beq_self_eq_true, Nat.reduceEqDiff, Nat.reduceAdd, Nat.reduceMul, Nat.reduceLT, Nat.reduceLeDiff, Nat.reducePow, Nat.reduceDiv, Nat.reduceMod, Nat.succ_ne_self, Nat.reduceBEq, Nat.reduceBNe, vint, TyS, TyF, TBS, TBF, DcS, DcF, SvS, SvF, PfS, PfF, hn0, hn1, hx, Bool.false_or, g1, g2, g3, g4, Int.toNat_natCast] <;> with_reducible rfl) (by simp only [acall, awanted, LS, SS, SX, HS, mkS_cons, mkS_nil, ↓reduceIte, eq_self', List.map_nil, beq_self_eq_true, Nat.reduceEqDiff, Nat.reduceAdd, Nat.reduceMul, Nat.reduceLT, Nat.reduceLeDiff, Nat.reducePow, Nat.reduceDiv, Nat.reduceMod, Nat.succ_ne_self, Nat.reduceBEq, Nat.reduceBNe, vint, TyS, TyF, TBS, TBF, DcS, DcF, SvS, SvF, PfS, PfF, hn0, hn1, hx, Bool.false_or, g1, g2, g3, g4, Int.toNat_natCast]) (by decide) Trygo100 (fun H' _ => solve_k ds sas hl hd hsl hs n (mapT (appG d.ps (implAs ds t tr)) b.t) b.tr (by omega) hWa H') (by simp only [dsq, ds0, ds1, ds2, ds3, awanted, hapB, effIds, effSet, nextFresh, ard, freshOk, isUnborn, aop, LS, SS, SX, HS, mkS_cons, mkS_nil, ↓reduceIte, eq_self', List.map_nil, beq_self_eq_true, Nat.reduceEqDiff, Nat.reduceAdd, Nat.reduceMul, Nat.reduceLT, Nat.reduceLeDiff, Nat.reducePow, Nat.reduceDiv, Nat.reduceMod, Nat.succ_ne_self, Nat.reduceBEq, Nat.reduceBNe, vint, TyS, TyF, TBS, TBF, DcS, DcF, SvS, SvF, PfS, PfF, hn0, hn1, hx, Bool.false_or, g1, g2, g3, g4, Int.toNat_natCast] <;> first | done | rfl) ?_
              refine d_end (bm := [0, 0, 2, 0, 8, 0, 56, 120, 248, 0, 1022, 0, 2048, 0, 8192, 32767, 65535, 131071, 131071, 0, 786431, 2097151]) (fresh := (7)) (by kernel_rfl) (by simp only [dsq, ds0, ds1, ds2, ds3, awanted, hapB, effIds, effSet, nextFresh, ard, freshOk, isUnborn, aop, ajust, astore, splice, LS, SS, SX, HS, mkS_cons, mkS_nil, ↓reduceIte, eq_self', List.map_nil, beq_self_eq_true, Nat.reduceEqDiff, Nat.reduceAdd, Nat.reduceMul, Nat.reduceLT, Nat.reduceLeDiff, Nat.reducePow, Nat.reduceDiv, Nat.reduceMod, Nat.succ_ne_self, Nat.reduceBEq, Nat.reduceBNe, Tryti63, Trytf63, Trytz63, Trytp63, vint, TyS, TyF, TBS, TBF, DcS, DcF, SvS, SvF, PfS, PfF, hn0, hn1, hx, Bool.false_or, g1, g2, g3, g4, Int.toNat_natCast] <;> with_reducible rfl) (by decide) ?_
              refine awp_sel [3, 4, 8, 11, 12, 13, 16, 17, 72, 73, 74] (by simp only [LS, SS, SX, HS, mkS_cons, mkS_nil, ↓reduceIte, eq_self', List.map_nil, beq_self_eq_true, Nat.reduceEqDiff, Nat.reduceAdd, Nat.succ_ne_self, vint, TyS, TyF, TBS, TBF, DcS, DcF, SvS, SvF, PfS, PfF, hn0, hn1, hx, Bool.false_or, g1, g2, g3, g4, Int.toNat_natCast] <;> with_reducible rfl) ?_
              -- region 14
              repeat (refine awp_seq ?_)
              refine e_eval (by simp only [asq, as0, as1, as2, awanted, aop, aun, ajust, LS, SS, SX, HS, mkS_cons, mkS_nil, ↓reduceIte, eq_self', List.map_nil, beq_self_eq_true, Nat.reduceEqDiff, Nat.reduceAdd, Nat.reduceMul, Nat.reduceLT, Nat.reduceLeDiff, Nat.reducePow, Nat.reduceDiv, Nat.reduceMod, Nat.succ_ne_self, Nat.reduceBEq, Nat.reduceBNe, vint, TyS, TyF, TBS, TBF, DcS, DcF, SvS, SvF, PfS, PfF, hn0, hn1, hx, Bool.false_or, g1, g2, g3, g4, Int.toNat_natCast] <;> with_reducible rfl) (by decide) ?_
              repeat (refine awp_seq ?_)
              refine awp_cond rfl (by simp only [LS, SS, SX, HS, mkS_cons, mkS_nil, ↓reduceIte, eq_self', List.map_nil, beq_self_eq_true, Nat.reduceEqDiff, Nat.reduceAdd, Nat.succ_ne_self, vint, TyS, TyF, TBS, TBF, DcS, DcF, SvS, SvF, PfS, PfF, hn0, hn1, hx, Bool.false_or, g1, g2, g3, g4, Int.toNat_natCast] <;> with_reducible rfl) (fun b4 => ?_) (fun b4 => ?_)
              · -- if t98
                -- region 15
                repeat (refine awp_seq ?_)
                refine e_eval (by simp only [asq, as0, as1, as2, awanted, aop, abuild, splice, astore, LS, SS, SX, HS, mkS_cons, mkS_nil, ↓reduceIte, eq_self', List.map_nil, beq_self_eq_true, Nat.reduceEqDiff, Nat.reduceAdd, Nat.reduceMul, Nat.reduceLT, Nat.reduceLeDiff, Nat.reducePow, Nat.reduceDiv, Nat.reduceMod, Nat.succ_ne_self, Nat.reduceBEq, Nat.reduceBNe, Tryti63, Trytf63, Trytz63, Trytp63, vint, TyS, TyF, TBS, TBF, DcS, DcF, SvS, SvF, PfS, PfF, hn0, hn1, hx, Bool.false_or, g1, g2, g3, g4, Int.toNat_natCast] <;> with_reducible rfl) (by decide) ?_
                repeat (refine awp_seq ?_)
                -- leaf 4 ret
                refine awp_ret ⟨.inr rfl, _, (ares_two (.cell 8 63) (.tmp 9) rfl (ares_cell1 Tryti63 (by decide) (by simp only [aload, LS, SS, SX, HS, mkS_cons, mkS_nil, ↓reduceIte, eq_self', List.map_nil, beq_self_eq_true, Nat.reduceEqDiff, Nat.reduceAdd, Nat.reduceMul, Nat.reduceLT, Nat.reduceLeDiff, Nat.reducePow, Nat.reduceDiv, Nat.reduceMod, Nat.succ_ne_self, Nat.reduceBEq, Nat.reduceBNe, vint, TyS, TyF, TBS, TBF, DcS, DcF, SvS, SvF, PfS, PfF, hn0, hn1, hx, Bool.false_or, g1, g2, g3, g4, Int.toNat_natCast] <;> with_reducible rfl)) (ares_tmp1 (by decide))), ?_⟩
                have hbad : ¬ (d.bs.all (fun b => (solveT ds sas n (mapT (appG d.ps (implAs ds t tr)) b.t) b.tr).2)) = true := by
                  rw [List.all_eq_true]
                  intro h
                  have := h d.bs[i] (List.getElem_mem hi)
                  rw [hbe] at this
                  simp [this] at b4
                rw [if_neg hbad]
                simp only [LS, SS, SX, HS, mkS_cons, mkS_nil, ↓reduceIte, eq_self', List.map_nil, beq_self_eq_true, Nat.reduceEqDiff, Nat.reduceAdd, Nat.succ_ne_self, vint, TyS, TyF, TBS, TBF, DcS, DcF, SvS, SvF, PfS, PfF]
                rfl
              · -- else t98
                repeat (refine awp_seq ?_)
                refine awp_skip ?_
                -- region 16
                repeat (refine awp_seq ?_)
                refine e_eval (by simp only [asq, as0, as1, as2, awanted, aop, afldAddr, ajust, aload, abuildS, abuiltin, astore, splice, LS, SS, SX, HS, mkS_cons, mkS_nil, ↓reduceIte, eq_self', List.map_nil, beq_self_eq_true, Nat.reduceEqDiff, Nat.reduceAdd, Nat.reduceMul, Nat.reduceLT, Nat.reduceLeDiff, Nat.reducePow, Nat.reduceDiv, Nat.reduceMod, Nat.succ_ne_self, Nat.reduceBEq, Nat.reduceBNe, Tryti61, Tryte61, Trytz61, Trytp61, Tryti63, Trytf63, Trytz63, Trytp63, vint, TyS, TyF, TBS, TBF, DcS, DcF, SvS, SvF, PfS, PfF, hn0, hn1, hx, Bool.false_or, g1, g2, g3, g4, Int.toNat_natCast, happ] <;> with_reducible rfl) (by decide) ?_
                -- leaf 5 next0
                exact ⟨⟨rfl, rfl, trivial⟩, s ++ [(solveT ds sas n (mapT (appG d.ps (implAs ds t tr)) b.t) b.tr).1], _, ⟨rfl, rfl, rfl, rfl, rfl, rfl, rfl, trivial⟩, by simp only [LS, SS, SX, HS, mkS_cons, mkS_nil, ↓reduceIte, eq_self', List.map_nil, beq_self_eq_true, Nat.reduceEqDiff, Nat.reduceAdd, Nat.succ_ne_self, vint, TyS, TyF, TBS, TBF, DcS, DcF, SvS, SvF, PfS, PfF, List.length_append, List.length_singleton] <;> rfl, all_take_succ hi hg.1 (by simp only [hbe]; simpa using b4), by rw [hg.2, map_take_succ _ hi, hbe]⟩
            · intro s hg
              rw [List.take_length] at hg
              -- region 18
              repeat (refine awp_seq ?_)
              refine e_eval (by simp only [asq, as0, as1, as2, awanted, aop, aload, ajust, astore, splice, LS, SS, SX, HS, mkS_cons, mkS_nil, ↓reduceIte, eq_self', List.map_nil, beq_self_eq_true, Nat.reduceEqDiff, Nat.reduceAdd, Nat.reduceMul, Nat.reduceLT, Nat.reduceLeDiff, Nat.reducePow, Nat.reduceDiv, Nat.reduceMod, Nat.succ_ne_self, Nat.reduceBEq, Nat.reduceBNe, Tryti63, Trytf63, Trytz63, Trytp63, vint, TyS, TyF, TBS, TBF, DcS, DcF, SvS, SvF, PfS, PfF, hn0, hn1, hx, Bool.false_or, g1, g2] <;> with_reducible rfl) (by decide) ?_
              repeat (refine awp_seq ?_)
              -- leaf 6 ret
              refine awp_ret ⟨.inr rfl, _, (ares_two (.cell 8 63) (.tmp 9) rfl (ares_cell1 Tryti63 (by decide) (by simp only [aload, LS, SS, SX, HS, mkS_cons, mkS_nil, ↓reduceIte, eq_self', List.map_nil, beq_self_eq_true, Nat.reduceEqDiff, Nat.reduceAdd, Nat.reduceMul, Nat.reduceLT, Nat.reduceLeDiff, Nat.reducePow, Nat.reduceDiv, Nat.reduceMod, Nat.succ_ne_self, Nat.reduceBEq, Nat.reduceBNe, vint, TyS, TyF, TBS, TBF, DcS, DcF, SvS, SvF, PfS, PfF, hn0, hn1, hx, Bool.false_or, g1, g2] <;> with_reducible rfl)) (ares_tmp1 (by decide))), ?_⟩
              rw [if_pos hg.1, ← hg.2]
              simp only [LS, SS, SX, HS, mkS_cons, mkS_nil, ↓reduceIte, eq_self', List.map_nil, beq_self_eq_true, Nat.reduceEqDiff, Nat.reduceAdd, Nat.succ_ne_self, vint, TyS, TyF, TBS, TBF, DcS, DcF, SvS, SvF, PfS, PfF]

end Go.Abs
set_option linter.unusedVariables false
set_option linter.unusedSimpArgs false
set_option maxRecDepth 4000
namespace Go.Abs
/-- api.Symbol, as data. -/
structure Sy where
  kind : Int
  mod : Int
  st : Int
  par : Int
  name : List UInt8
  pub : Bool
def Sy.enc (t : Sy) : PV := .agg [.int .i64 t.kind, .int .i64 t.mod, .int .i64 t.st, .int .i64 t.par, .str t.name, .bool t.pub]
theorem Sy.enc_eq (t : Sy) : t.enc = .agg [.int .i64 t.kind, .int .i64 t.mod, .int .i64 t.st, .int .i64 t.par, .str t.name, .bool t.pub] := rfl
theorem Sy.enc_cells (t : Sy) : t.enc.cells = [.int .i64 t.kind, .int .i64 t.mod, .int .i64 t.st, .int .i64 t.par, .str t.name, .bool t.pub] := rfl
theorem Sy.eta (t : Sy) : Sy.mk t.kind t.mod t.st t.par t.name t.pub = t := rfl
theorem Sy.enc_drop1 (t : Sy) : t.enc.drop1 = t.enc := by rw [Sy.enc_eq]; rfl
theorem Sy.enc_drop0 (t : Sy) : t.enc.drop0 = t.enc := by rw [Sy.enc_eq]; rfl
theorem Sy.enc_len (t : Sy) : t.enc.cells.length = 6 := by rw [Sy.enc_cells]; rfl
theorem Sy.enc_junk (t : Sy) : t.enc.isJunk = false := by rw [Sy.enc_eq]; rfl
theorem Sy.enc_agg (t : Sy) : PV.agg t.enc.cells = t.enc := by rw [Sy.enc_cells, Sy.enc_eq]
theorem Sy.bel (n : Nat) (t : Sy) : Bel n t.enc := .agg _ (by
  intro c hc
  simp only [List.mem_cons, List.not_mem_nil, or_false] at hc
  rcases hc with rfl | rfl | rfl | rfl | rfl | rfl
  · exact .int _ _
  · exact .int _ _
  · exact .int _ _
  · exact .int _ _
  · exact .str _
  · exact .bool _)
theorem bel_Sy (n : Nat) (us : List Sy) : Bel n (.slice (us.map Sy.enc) .none) := .slice _ _ (fun e he c hc => by
  obtain ⟨b, _, rfl⟩ := List.mem_map.1 he
  have := Sy.bel n b
  rw [Sy.enc_eq] at this hc
  cases this with | agg _ h => exact h c hc) (by simp)
theorem bel_Sy_tok {n id : Nat} (us : List Sy) (h : id < n) : Bel n (.slice (us.map Sy.enc) (.tok id)) := by
  have := bel_Sy n us
  cases this with
  | slice _ _ h1 h2 => exact .slice _ _ h1 (fun _ e => by cases e; exact h)
/-- Rules. -/
theorem SyS : (∀ t : Sy, t.enc.cells = [.int .i64 t.kind, .int .i64 t.mod, .int .i64 t.st, .int .i64 t.par, .str t.name, .bool t.pub]) ∧ (∀ t : Sy, t.enc.isJunk = false) ∧ (∀ t : Sy, t.enc.drop1 = t.enc) ∧ (∀ t : Sy, t.enc.drop0 = t.enc) ∧ (∀ (t : Sy) (b : Nat), t.enc.fits ⟨true, 6, b⟩ = true) :=
  ⟨Sy.enc_cells, Sy.enc_junk, Sy.enc_drop1, Sy.enc_drop0, fun t b => by rw [Sy.enc_eq]; rfl⟩
theorem SyF : (∀ (kind : Int) (mod : Int) (st : Int) (par : Int) (name : List UInt8) (pub : Bool), PV.agg [.int .i64 kind, .int .i64 mod, .int .i64 st, .int .i64 par, .str name, .bool pub] = (Sy.mk kind mod st par name pub).enc) ∧
    (∀ t : Sy, Sy.mk t.kind t.mod t.st t.par t.name t.pub = t) ∧
    (∀ (kind : Int) (mod : Int) (st : Int) (par : Int) (name : List UInt8) (pub : Bool), (Sy.mk kind mod st par name pub).kind = kind) ∧
    (∀ (kind : Int) (mod : Int) (st : Int) (par : Int) (name : List UInt8) (pub : Bool), (Sy.mk kind mod st par name pub).mod = mod) ∧
    (∀ (kind : Int) (mod : Int) (st : Int) (par : Int) (name : List UInt8) (pub : Bool), (Sy.mk kind mod st par name pub).st = st) ∧
    (∀ (kind : Int) (mod : Int) (st : Int) (par : Int) (name : List UInt8) (pub : Bool), (Sy.mk kind mod st par name pub).par = par) ∧
    (∀ (kind : Int) (mod : Int) (st : Int) (par : Int) (name : List UInt8) (pub : Bool), (Sy.mk kind mod st par name pub).name = name) ∧
    (∀ (kind : Int) (mod : Int) (st : Int) (par : Int) (name : List UInt8) (pub : Bool), (Sy.mk kind mod st par name pub).pub = pub) :=
  ⟨fun kind mod st par name pub => (Sy.enc_eq (Sy.mk kind mod st par name pub)).symm, Sy.eta, fun _ _ _ _ _ _ => rfl, fun _ _ _ _ _ _ => rfl, fun _ _ _ _ _ _ => rfl, fun _ _ _ _ _ _ => rfl, fun _ _ _ _ _ _ => rfl, fun _ _ _ _ _ _ => rfl⟩
/-- No list is longer than the rows bear. -/
def Sy.W (t : Sy) : Prop := t.name.length ≤ 2 ^ 47
theorem app_Sy {us : List Sy} {u : Sy} {id : Nat} {tl : Tail} (hb : (us.length + 1) * 56 ≤ 2 ^ 47) (fresh : Nat) (H : Heap) (hH : H[id]? = some (.buf us.length 6)) :
    aappend ⟨true, 6, 56⟩ fresh H (.slice (us.map Sy.enc) (.tok id)) (.slice [u.enc] tl) = some (.slice ((us ++ [u]).map Sy.enc) (.tok id), some (id, .buf (us.length + 1) 6)) := by
  have hmx : maxLen = 9223372036854775807 := by decide
  rw [aappend_tok1 (n := us.length) hH (by simp) (by simpa using hb) (by simp; omega) (fun e he => by obtain ⟨v, _, rfl⟩ := List.mem_map.1 he; exact v.enc_len) u.enc_len (by rw [Sy.enc_cells]; rfl) (by decide)]
  simp
/-- api.Reference, as data. -/
structure Rf where
  mod : Int
  st : Int
  sym : Int
def Rf.enc (t : Rf) : PV := .agg [.int .i64 t.mod, .int .i64 t.st, .int .i64 t.sym]
theorem Rf.enc_eq (t : Rf) : t.enc = .agg [.int .i64 t.mod, .int .i64 t.st, .int .i64 t.sym] := rfl
theorem Rf.enc_cells (t : Rf) : t.enc.cells = [.int .i64 t.mod, .int .i64 t.st, .int .i64 t.sym] := rfl
theorem Rf.eta (t : Rf) : Rf.mk t.mod t.st t.sym = t := rfl
theorem Rf.enc_drop1 (t : Rf) : t.enc.drop1 = t.enc := by rw [Rf.enc_eq]; rfl
theorem Rf.enc_drop0 (t : Rf) : t.enc.drop0 = t.enc := by rw [Rf.enc_eq]; rfl
theorem Rf.enc_len (t : Rf) : t.enc.cells.length = 3 := by rw [Rf.enc_cells]; rfl
theorem Rf.enc_junk (t : Rf) : t.enc.isJunk = false := by rw [Rf.enc_eq]; rfl
theorem Rf.enc_agg (t : Rf) : PV.agg t.enc.cells = t.enc := by rw [Rf.enc_cells, Rf.enc_eq]
theorem Rf.bel (n : Nat) (t : Rf) : Bel n t.enc := .agg _ (by
  intro c hc
  simp only [List.mem_cons, List.not_mem_nil, or_false] at hc
  rcases hc with rfl | rfl | rfl
  · exact .int _ _
  · exact .int _ _
  · exact .int _ _)
theorem bel_Rf (n : Nat) (us : List Rf) : Bel n (.slice (us.map Rf.enc) .none) := .slice _ _ (fun e he c hc => by
  obtain ⟨b, _, rfl⟩ := List.mem_map.1 he
  have := Rf.bel n b
  rw [Rf.enc_eq] at this hc
  cases this with | agg _ h => exact h c hc) (by simp)
theorem bel_Rf_tok {n id : Nat} (us : List Rf) (h : id < n) : Bel n (.slice (us.map Rf.enc) (.tok id)) := by
  have := bel_Rf n us
  cases this with
  | slice _ _ h1 h2 => exact .slice _ _ h1 (fun _ e => by cases e; exact h)
/-- Rules. -/
theorem RfS : (∀ t : Rf, t.enc.cells = [.int .i64 t.mod, .int .i64 t.st, .int .i64 t.sym]) ∧ (∀ t : Rf, t.enc.isJunk = false) ∧ (∀ t : Rf, t.enc.drop1 = t.enc) ∧ (∀ t : Rf, t.enc.drop0 = t.enc) ∧ (∀ (t : Rf) (b : Nat), t.enc.fits ⟨true, 3, b⟩ = true) :=
  ⟨Rf.enc_cells, Rf.enc_junk, Rf.enc_drop1, Rf.enc_drop0, fun t b => by rw [Rf.enc_eq]; rfl⟩
theorem RfF : (∀ (mod : Int) (st : Int) (sym : Int), PV.agg [.int .i64 mod, .int .i64 st, .int .i64 sym] = (Rf.mk mod st sym).enc) ∧
    (∀ t : Rf, Rf.mk t.mod t.st t.sym = t) ∧
    (∀ (mod : Int) (st : Int) (sym : Int), (Rf.mk mod st sym).mod = mod) ∧
    (∀ (mod : Int) (st : Int) (sym : Int), (Rf.mk mod st sym).st = st) ∧
    (∀ (mod : Int) (st : Int) (sym : Int), (Rf.mk mod st sym).sym = sym) :=
  ⟨fun mod st sym => (Rf.enc_eq (Rf.mk mod st sym)).symm, Rf.eta, fun _ _ _ => rfl, fun _ _ _ => rfl, fun _ _ _ => rfl⟩
/-- No list is longer than the rows bear. -/
def Rf.W (t : Rf) : Prop := True
theorem app_Rf {us : List Rf} {u : Rf} {id : Nat} {tl : Tail} (hb : (us.length + 1) * 24 ≤ 2 ^ 47) (fresh : Nat) (H : Heap) (hH : H[id]? = some (.buf us.length 3)) :
    aappend ⟨true, 3, 24⟩ fresh H (.slice (us.map Rf.enc) (.tok id)) (.slice [u.enc] tl) = some (.slice ((us ++ [u]).map Rf.enc) (.tok id), some (id, .buf (us.length + 1) 3)) := by
  have hmx : maxLen = 9223372036854775807 := by decide
  rw [aappend_tok1 (n := us.length) hH (by simp) (by simpa using hb) (by simp; omega) (fun e he => by obtain ⟨v, _, rfl⟩ := List.mem_map.1 he; exact v.enc_len) u.enc_len (by rw [Rf.enc_cells]; rfl) (by decide)]
  simp
/-- api.Diagnostic, as data. -/
structure Dg where
  code : Int
  mod : Int
  st : Int
  en : Int
  name : List UInt8
def Dg.enc (t : Dg) : PV := .agg [.int .i64 t.code, .int .i64 t.mod, .int .i64 t.st, .int .i64 t.en, .str t.name]
theorem Dg.enc_eq (t : Dg) : t.enc = .agg [.int .i64 t.code, .int .i64 t.mod, .int .i64 t.st, .int .i64 t.en, .str t.name] := rfl
theorem Dg.enc_cells (t : Dg) : t.enc.cells = [.int .i64 t.code, .int .i64 t.mod, .int .i64 t.st, .int .i64 t.en, .str t.name] := rfl
theorem Dg.eta (t : Dg) : Dg.mk t.code t.mod t.st t.en t.name = t := rfl
theorem Dg.enc_drop1 (t : Dg) : t.enc.drop1 = t.enc := by rw [Dg.enc_eq]; rfl
theorem Dg.enc_drop0 (t : Dg) : t.enc.drop0 = t.enc := by rw [Dg.enc_eq]; rfl
theorem Dg.enc_len (t : Dg) : t.enc.cells.length = 5 := by rw [Dg.enc_cells]; rfl
theorem Dg.enc_junk (t : Dg) : t.enc.isJunk = false := by rw [Dg.enc_eq]; rfl
theorem Dg.enc_agg (t : Dg) : PV.agg t.enc.cells = t.enc := by rw [Dg.enc_cells, Dg.enc_eq]
theorem Dg.bel (n : Nat) (t : Dg) : Bel n t.enc := .agg _ (by
  intro c hc
  simp only [List.mem_cons, List.not_mem_nil, or_false] at hc
  rcases hc with rfl | rfl | rfl | rfl | rfl
  · exact .int _ _
  · exact .int _ _
  · exact .int _ _
  · exact .int _ _
  · exact .str _)
theorem bel_Dg (n : Nat) (us : List Dg) : Bel n (.slice (us.map Dg.enc) .none) := .slice _ _ (fun e he c hc => by
  obtain ⟨b, _, rfl⟩ := List.mem_map.1 he
  have := Dg.bel n b
  rw [Dg.enc_eq] at this hc
  cases this with | agg _ h => exact h c hc) (by simp)
theorem bel_Dg_tok {n id : Nat} (us : List Dg) (h : id < n) : Bel n (.slice (us.map Dg.enc) (.tok id)) := by
  have := bel_Dg n us
  cases this with
  | slice _ _ h1 h2 => exact .slice _ _ h1 (fun _ e => by cases e; exact h)
/-- Rules. -/
theorem DgS : (∀ t : Dg, t.enc.cells = [.int .i64 t.code, .int .i64 t.mod, .int .i64 t.st, .int .i64 t.en, .str t.name]) ∧ (∀ t : Dg, t.enc.isJunk = false) ∧ (∀ t : Dg, t.enc.drop1 = t.enc) ∧ (∀ t : Dg, t.enc.drop0 = t.enc) ∧ (∀ (t : Dg) (b : Nat), t.enc.fits ⟨true, 5, b⟩ = true) :=
  ⟨Dg.enc_cells, Dg.enc_junk, Dg.enc_drop1, Dg.enc_drop0, fun t b => by rw [Dg.enc_eq]; rfl⟩
theorem DgF : (∀ (code : Int) (mod : Int) (st : Int) (en : Int) (name : List UInt8), PV.agg [.int .i64 code, .int .i64 mod, .int .i64 st, .int .i64 en, .str name] = (Dg.mk code mod st en name).enc) ∧
    (∀ t : Dg, Dg.mk t.code t.mod t.st t.en t.name = t) ∧
    (∀ (code : Int) (mod : Int) (st : Int) (en : Int) (name : List UInt8), (Dg.mk code mod st en name).code = code) ∧
    (∀ (code : Int) (mod : Int) (st : Int) (en : Int) (name : List UInt8), (Dg.mk code mod st en name).mod = mod) ∧
    (∀ (code : Int) (mod : Int) (st : Int) (en : Int) (name : List UInt8), (Dg.mk code mod st en name).st = st) ∧
    (∀ (code : Int) (mod : Int) (st : Int) (en : Int) (name : List UInt8), (Dg.mk code mod st en name).en = en) ∧
    (∀ (code : Int) (mod : Int) (st : Int) (en : Int) (name : List UInt8), (Dg.mk code mod st en name).name = name) :=
  ⟨fun code mod st en name => (Dg.enc_eq (Dg.mk code mod st en name)).symm, Dg.eta, fun _ _ _ _ _ => rfl, fun _ _ _ _ _ => rfl, fun _ _ _ _ _ => rfl, fun _ _ _ _ _ => rfl, fun _ _ _ _ _ => rfl⟩
/-- No list is longer than the rows bear. -/
def Dg.W (t : Dg) : Prop := t.name.length ≤ 2 ^ 47
theorem app_Dg {us : List Dg} {u : Dg} {id : Nat} {tl : Tail} (hb : (us.length + 1) * 48 ≤ 2 ^ 47) (fresh : Nat) (H : Heap) (hH : H[id]? = some (.buf us.length 5)) :
    aappend ⟨true, 5, 48⟩ fresh H (.slice (us.map Dg.enc) (.tok id)) (.slice [u.enc] tl) = some (.slice ((us ++ [u]).map Dg.enc) (.tok id), some (id, .buf (us.length + 1) 5)) := by
  have hmx : maxLen = 9223372036854775807 := by decide
  rw [aappend_tok1 (n := us.length) hH (by simp) (by simpa using hb) (by simp; omega) (fun e he => by obtain ⟨v, _, rfl⟩ := List.mem_map.1 he; exact v.enc_len) u.enc_len (by rw [Dg.enc_cells]; rfl) (by decide)]
  simp
/-- api.Resolution, as data. -/
structure Rs where
  syms : List (Sy)
  refs : List (Rf)
  dgs : List (Dg)
def Rs.enc (t : Rs) : PV := .agg [.slice (t.syms.map Sy.enc) .none, .slice (t.refs.map Rf.enc) .none, .slice (t.dgs.map Dg.enc) .none]
theorem Rs.enc_eq (t : Rs) : t.enc = .agg [.slice (t.syms.map Sy.enc) .none, .slice (t.refs.map Rf.enc) .none, .slice (t.dgs.map Dg.enc) .none] := rfl
theorem Rs.enc_cells (t : Rs) : t.enc.cells = [.slice (t.syms.map Sy.enc) .none, .slice (t.refs.map Rf.enc) .none, .slice (t.dgs.map Dg.enc) .none] := rfl
theorem Rs.eta (t : Rs) : Rs.mk t.syms t.refs t.dgs = t := rfl
theorem Rs.enc_drop1 (t : Rs) : t.enc.drop1 = t.enc := by rw [Rs.enc_eq]; rfl
theorem Rs.enc_drop0 (t : Rs) : t.enc.drop0 = t.enc := by rw [Rs.enc_eq]; rfl
theorem Rs.enc_len (t : Rs) : t.enc.cells.length = 3 := by rw [Rs.enc_cells]; rfl
theorem Rs.enc_junk (t : Rs) : t.enc.isJunk = false := by rw [Rs.enc_eq]; rfl
theorem Rs.enc_agg (t : Rs) : PV.agg t.enc.cells = t.enc := by rw [Rs.enc_cells, Rs.enc_eq]
theorem Rs.bel (n : Nat) (t : Rs) : Bel n t.enc := .agg _ (by
  intro c hc
  simp only [List.mem_cons, List.not_mem_nil, or_false] at hc
  rcases hc with rfl | rfl | rfl
  · exact bel_Sy _ _
  · exact bel_Rf _ _
  · exact bel_Dg _ _)
theorem bel_Rs (n : Nat) (us : List Rs) : Bel n (.slice (us.map Rs.enc) .none) := .slice _ _ (fun e he c hc => by
  obtain ⟨b, _, rfl⟩ := List.mem_map.1 he
  have := Rs.bel n b
  rw [Rs.enc_eq] at this hc
  cases this with | agg _ h => exact h c hc) (by simp)
theorem bel_Rs_tok {n id : Nat} (us : List Rs) (h : id < n) : Bel n (.slice (us.map Rs.enc) (.tok id)) := by
  have := bel_Rs n us
  cases this with
  | slice _ _ h1 h2 => exact .slice _ _ h1 (fun _ e => by cases e; exact h)
/-- Rules. -/
theorem RsS : (∀ t : Rs, t.enc.cells = [.slice (t.syms.map Sy.enc) .none, .slice (t.refs.map Rf.enc) .none, .slice (t.dgs.map Dg.enc) .none]) ∧ (∀ t : Rs, t.enc.isJunk = false) ∧ (∀ t : Rs, t.enc.drop1 = t.enc) ∧ (∀ t : Rs, t.enc.drop0 = t.enc) ∧ (∀ (t : Rs) (b : Nat), t.enc.fits ⟨true, 3, b⟩ = true) :=
  ⟨Rs.enc_cells, Rs.enc_junk, Rs.enc_drop1, Rs.enc_drop0, fun t b => by rw [Rs.enc_eq]; rfl⟩
theorem RsF : (∀ (syms : List (Sy)) (refs : List (Rf)) (dgs : List (Dg)), PV.agg [.slice (syms.map Sy.enc) .none, .slice (refs.map Rf.enc) .none, .slice (dgs.map Dg.enc) .none] = (Rs.mk syms refs dgs).enc) ∧
    (∀ (refs : List (Rf)) (dgs : List (Dg)), PV.agg [.slice [] .none, .slice (refs.map Rf.enc) .none, .slice (dgs.map Dg.enc) .none] = (Rs.mk [] refs dgs).enc) ∧
    (∀ (syms : List (Sy)) (dgs : List (Dg)), PV.agg [.slice (syms.map Sy.enc) .none, .slice [] .none, .slice (dgs.map Dg.enc) .none] = (Rs.mk syms [] dgs).enc) ∧
    (∀ (syms : List (Sy)) (refs : List (Rf)), PV.agg [.slice (syms.map Sy.enc) .none, .slice (refs.map Rf.enc) .none, .slice [] .none] = (Rs.mk syms refs []).enc) ∧
    (∀ (dgs : List (Dg)), PV.agg [.slice [] .none, .slice [] .none, .slice (dgs.map Dg.enc) .none] = (Rs.mk [] [] dgs).enc) ∧
    (∀ (refs : List (Rf)), PV.agg [.slice [] .none, .slice (refs.map Rf.enc) .none, .slice [] .none] = (Rs.mk [] refs []).enc) ∧
    (∀ (syms : List (Sy)), PV.agg [.slice (syms.map Sy.enc) .none, .slice [] .none, .slice [] .none] = (Rs.mk syms [] []).enc) ∧
    (PV.agg [.slice [] .none, .slice [] .none, .slice [] .none] = (Rs.mk [] [] []).enc) ∧
    (∀ t : Rs, Rs.mk t.syms t.refs t.dgs = t) ∧
    (∀ (syms : List (Sy)) (refs : List (Rf)) (dgs : List (Dg)), (Rs.mk syms refs dgs).syms = syms) ∧
    (∀ (syms : List (Sy)) (refs : List (Rf)) (dgs : List (Dg)), (Rs.mk syms refs dgs).refs = refs) ∧
    (∀ (syms : List (Sy)) (refs : List (Rf)) (dgs : List (Dg)), (Rs.mk syms refs dgs).dgs = dgs) :=
  ⟨fun syms refs dgs => (Rs.enc_eq (Rs.mk syms refs dgs)).symm, fun refs dgs => (Rs.enc_eq (Rs.mk [] refs dgs)).symm, fun syms dgs => (Rs.enc_eq (Rs.mk syms [] dgs)).symm, fun syms refs => (Rs.enc_eq (Rs.mk syms refs [])).symm, fun dgs => (Rs.enc_eq (Rs.mk [] [] dgs)).symm, fun refs => (Rs.enc_eq (Rs.mk [] refs [])).symm, fun syms => (Rs.enc_eq (Rs.mk syms [] [])).symm, (Rs.enc_eq (Rs.mk [] [] [])).symm, Rs.eta, fun _ _ _ => rfl, fun _ _ _ => rfl, fun _ _ _ => rfl⟩
/-- No list is longer than the rows bear. -/
def Rs.W (t : Rs) : Prop := t.syms.length * 56 ≤ 2 ^ 47 ∧ (∀ u ∈ t.syms, u.W) ∧ t.refs.length * 24 ≤ 2 ^ 47 ∧ (∀ u ∈ t.refs, u.W) ∧ t.dgs.length * 48 ≤ 2 ^ 47 ∧ (∀ u ∈ t.dgs, u.W)
theorem Rs.W.len_syms {t : Rs} (h : t.W) : t.syms.length * 56 ≤ 2 ^ 47 := h.1
theorem Rs.W.max_syms {t : Rs} (h : t.W) : t.syms.length ≤ maxLen := by
  have em : maxLen = 9223372036854775807 := by decide
  have := h.len_syms; rw [em]; omega
theorem Rs.W.el_syms {t : Rs} (h : t.W) : ∀ u ∈ t.syms, u.W := h.2.1
theorem Rs.W.len_refs {t : Rs} (h : t.W) : t.refs.length * 24 ≤ 2 ^ 47 := h.2.2.1
theorem Rs.W.max_refs {t : Rs} (h : t.W) : t.refs.length ≤ maxLen := by
  have em : maxLen = 9223372036854775807 := by decide
  have := h.len_refs; rw [em]; omega
theorem Rs.W.el_refs {t : Rs} (h : t.W) : ∀ u ∈ t.refs, u.W := h.2.2.2.1
theorem Rs.W.len_dgs {t : Rs} (h : t.W) : t.dgs.length * 48 ≤ 2 ^ 47 := h.2.2.2.2.1
theorem Rs.W.max_dgs {t : Rs} (h : t.W) : t.dgs.length ≤ maxLen := by
  have em : maxLen = 9223372036854775807 := by decide
  have := h.len_dgs; rw [em]; omega
theorem Rs.W.el_dgs {t : Rs} (h : t.W) : ∀ u ∈ t.dgs, u.W := h.2.2.2.2.2
theorem app_Rs {us : List Rs} {u : Rs} {id : Nat} {tl : Tail} (hb : (us.length + 1) * 72 ≤ 2 ^ 47) (fresh : Nat) (H : Heap) (hH : H[id]? = some (.buf us.length 3)) :
    aappend ⟨true, 3, 72⟩ fresh H (.slice (us.map Rs.enc) (.tok id)) (.slice [u.enc] tl) = some (.slice ((us ++ [u]).map Rs.enc) (.tok id), some (id, .buf (us.length + 1) 3)) := by
  have hmx : maxLen = 9223372036854775807 := by decide
  rw [aappend_tok1 (n := us.length) hH (by simp) (by simpa using hb) (by simp; omega) (fun e he => by obtain ⟨v, _, rfl⟩ := List.mem_map.1 he; exact v.enc_len) u.enc_len (by rw [Rs.enc_cells]; rfl) (by decide)]
  simp
end Go.Abs
set_option linter.unusedVariables false
namespace Go.Abs
/-! The chapter 'types': bindings, sizes, variables. -/
structure Bd where
  v : Int
  t : Ty
def Bd.enc (b : Bd) : PV := .agg [.int .i64 b.v, .int .i64 b.t.kind, .int .i64 b.t.id, .slice (b.t.args.map Ty.enc) .none]
theorem Bd.enc_len (b : Bd) : b.enc.cells.length = 4 := rfl
theorem Bd.bel (n : Nat) (b : Bd) : Bel n b.enc := .agg _ (by
  intro c hc
  simp at hc
  rcases hc with rfl | rfl | rfl | rfl
  · exact .int _ _
  · exact .int _ _
  · exact .int _ _
  · exact bel_slice_ty _ _)
theorem bel_Bd (n : Nat) (us : List Bd) : Bel n (.slice (us.map Bd.enc) .none) := .slice _ _ (fun e he c hc => by
  obtain ⟨b, _, rfl⟩ := List.mem_map.1 he
  have := Bd.bel n b
  unfold Bd.enc at this hc
  cases this with | agg _ h => exact h c hc) (by simp)
/-- Rules for bindings. -/
theorem BdS : (∀ b : Bd, b.enc.cells = [.int .i64 b.v, .int .i64 b.t.kind, .int .i64 b.t.id, .slice (b.t.args.map Ty.enc) .none]) ∧ (∀ b : Bd, b.enc.isJunk = false) ∧ (∀ b : Bd, b.enc.drop1 = b.enc) ∧ (∀ (b : Bd) (n : Nat), b.enc.fits ⟨true, 4, n⟩ = true) ∧
    (∀ (v : Int) (t : Ty), PV.agg [.int .i64 v, .int .i64 t.kind, .int .i64 t.id, .slice (t.args.map Ty.enc) .none] = (Bd.mk v t).enc) ∧ (∀ (v : Int) (t : Ty), (Bd.mk v t).v = v) ∧ (∀ (v : Int) (t : Ty), (Bd.mk v t).t = t) ∧ (∀ b : Bd, Bd.mk b.v b.t = b) ∧
    (∀ (v k i : Int), PV.agg [.int .i64 v, .int .i64 k, .int .i64 i, .slice [] .none] = (Bd.mk v (Ty.mk k i [])).enc) :=
  ⟨fun _ => rfl, fun _ => rfl, fun _ => rfl, fun _ _ => rfl, fun _ _ => rfl, fun _ _ => rfl, fun _ _ => rfl, fun _ => rfl, fun _ _ _ => rfl⟩

def subG (s : List Bd) (u : Ty) : Ty × Bool :=
  if (!decide (u.kind = 1)) = true then (u, false)
  else if decide (idxI (fun b : Bd => decide (b.v = u.id)) s < 0) = true then (u, false)
  else ((s.getD (idxI (fun b : Bd => decide (b.v = u.id)) s).toNat ⟨0, .mk 0 0 []⟩).t, true)

theorem sub_W {s : List Bd} (hs : ∀ b ∈ s, b.t.W) {t : Ty} (ht : t.W) : (mapT (subG s) t).W :=
  mapT_W (fun u hu => by
    unfold subG at hu ⊢
    split at hu
    · cases hu
    · rename_i h1
      split at hu
      · cases hu
      · rename_i h2
        rw [if_neg h1, if_neg h2]
        simp only
        rw [List.getD_eq_getElem?_getD]
        cases hq : s[(idxI (fun b : Bd => decide (b.v = u.id)) s).toNat]? with
        | none => exact .mk (by simp) (by simp)
        | some a => exact hs a (List.mem_of_getElem? hq)) t ht

/-- Sizes and depths as 'measure' counts them. -/
def measL : List (Int → Int × Int) → Int → Int × Int → Int × Int
  | [], _, s => s
  | f :: fs, L, s => if decide (s.1 > L) = true then s else measL fs L (s.1 + (f (L - s.1)).1, max s.2 (f (L - s.1)).2)
def measT : Ty → Int → Int × Int
  | .mk _ _ us, L => ((measL (us.map fun u L => measT u L) L (1, 0)).1, (measL (us.map fun u L => measT u L) L (1, 0)).2 + 1)
theorem measT_eq (t : Ty) (L : Int) : measT t L = ((measL (t.args.map measT) L (1, 0)).1, (measL (t.args.map measT) L (1, 0)).2 + 1) := by
  cases t; rw [measT]; rfl
theorem measL_bd : ∀ (fs : List (Int → Int × Int)) (L : Int) (s : Int × Int), 0 ≤ L → (∀ f ∈ fs, ∀ M, 0 ≤ M → M < L → 1 ≤ (f M).1 ∧ (f M).1 ≤ M + 1 ∧ 1 ≤ (f M).2 ∧ (f M).2 ≤ M + 1) → 1 ≤ s.1 → s.1 ≤ L + 1 → 0 ≤ s.2 → s.2 ≤ L →
    1 ≤ (measL fs L s).1 ∧ (measL fs L s).1 ≤ L + 1 ∧ 0 ≤ (measL fs L s).2 ∧ (measL fs L s).2 ≤ L
  | [], L, s, hL, _, h1, h2, h3, h4 => ⟨h1, h2, h3, h4⟩
  | f :: fs, L, s, hL, hf, h1, h2, h3, h4 => by
    unfold measL
    split
    · exact ⟨h1, h2, h3, h4⟩
    · rename_i hs
      have hs' : s.1 ≤ L := by have : ¬ s.1 > L := fun q => hs (decide_eq_true q); omega
      obtain ⟨q1, q2, q3, q4⟩ := hf f (List.mem_cons_self ..) (L - s.1) (by omega) (by omega)
      exact measL_bd fs L _ hL (fun g hg => hf g (List.mem_cons_of_mem _ hg)) (by simp only; omega) (by simp only; omega) (by simp only; omega) (by simp only; omega)
theorem measT_bd : ∀ (t : Ty) (L : Int), 0 ≤ L → 1 ≤ (measT t L).1 ∧ (measT t L).1 ≤ L + 1 ∧ 1 ≤ (measT t L).2 ∧ (measT t L).2 ≤ L + 1
  | .mk k i us, L, hL => by
    have := measL_bd (us.map fun u L => measT u L) L (1, 0) hL (fun f hf M h0 _ => by
      obtain ⟨u, hu, rfl⟩ := List.mem_map.1 hf
      exact measT_bd u M h0) (by simp) (by simp; omega) (by simp) (by simp; omega)
    rw [measT]
    simp only
    omega

def nwf (t : Ty) : Bool :=
  if decide (t.kind = 0) || decide (t.kind = 3) || decide (t.kind = 4) || decide (t.kind = 5) || decide (t.kind = 6) then decide (t.id = 0) && decide ((t.args.length : Int) = 0)
  else if decide (t.kind = 1) || decide (t.kind = 2) then decide (t.id ≥ 0) && decide ((t.args.length : Int) = 0)
  else if decide (t.kind = 7) then decide (t.id ≥ 0)
  else if decide (t.kind = 8) then (decide (t.id = 0) || decide (t.id = 1)) && decide ((t.args.length : Int) = 1)
  else if decide (t.kind = 9) then decide (t.id = 0) && decide ((t.args.length : Int) > 0)
  else if decide (t.kind = 10) then decide (t.id ≥ 0) && decide ((t.args.length : Int) = 1)
  else false
def wfT : Ty → Bool
  | .mk k i us => nwf (.mk k i us) && !((us.map fun u => wfT u).any (fun b => !b))
theorem wfT_eq (t : Ty) : wfT t = (nwf t && !(t.args.any fun u => !wfT u)) := by
  cases t; rw [wfT, List.any_map]; rfl
/-- What Validate answers. -/
def valT (t : Ty) : Int := if (decide ((measT t 100).1 > 100) || decide ((measT t 100).2 > 12)) = true then 2 else if (!wfT t) = true then 3 else 0

/-- The free variables, in order of first occurrence. -/
def afvL : List (List Int → List Int) → List Int → List Int
  | [], vs => vs
  | f :: fs, vs => afvL fs (f vs)
def afv : Ty → List Int → List Int
  | .mk k i us, vs => afvL (us.map fun u vs => afv u vs) (if (decide (k = 1) && !vs.any (fun x => decide (i = x))) = true then vs ++ [i] else vs)
theorem afv_eq (t : Ty) (vs : List Int) : afv t vs = afvL (t.args.map afv) (if (decide (t.kind = 1) && !vs.any (fun x => decide (t.id = x))) = true then vs ++ [t.id] else vs) := by
  cases t; rw [afv]; rfl
theorem afv_len : ∀ (t : Ty) (vs : List Int), vs.length ≤ (afv t vs).length ∧ (afv t vs).length ≤ vs.length + t.size
  | .mk k i us, vs => by
    have key : ∀ (us : List Ty), (∀ u ∈ us, ∀ vs : List Int, vs.length ≤ (afv u vs).length ∧ (afv u vs).length ≤ vs.length + u.size) → ∀ vs : List Int, vs.length ≤ (afvL (us.map fun u vs => afv u vs) vs).length ∧ (afvL (us.map fun u vs => afv u vs) vs).length ≤ vs.length + Ty.sizes us := by
      intro us
      induction us with
      | nil => intro _ vs; simp [afvL, Ty.sizes]
      | cons u us ih =>
        intro h vs
        have h1 := h u (List.mem_cons_self ..) vs
        have h2 := ih (fun u hu => h u (List.mem_cons_of_mem _ hu)) (afv u vs)
        simp only [List.map_cons, afvL, Ty.sizes]
        omega
    rw [afv]
    have := key us (fun u hu vs => afv_len u vs) (if (decide (k = 1) && !vs.any (fun x => decide (i = x))) = true then vs ++ [i] else vs)
    have hs : (Ty.mk k i us).size = 1 + Ty.sizes us := by simp [Ty.size]
    rw [hs]
    split at this
    · rename_i hq; rw [if_pos hq]; simp at this ⊢; omega
    · rename_i hq; rw [if_neg hq]; omega
end Go.Abs
namespace Go.Abs
theorem measL_nil (L : Int) (s : Int × Int) : measL [] L s = s := rfl
theorem measL_cons (f : Int → Int × Int) (fs : List (Int → Int × Int)) (L : Int) (s : Int × Int) : measL (f :: fs) L s = if decide (s.1 > L) = true then s else measL fs L (s.1 + (f (L - s.1)).1, max s.2 (f (L - s.1)).2) := rfl
theorem afvL_nil (vs : List Int) : afvL [] vs = vs := rfl
theorem afvL_cons (f : List Int → List Int) (fs : List (List Int → List Int)) (vs : List Int) : afvL (f :: fs) vs = afvL fs (f vs) := rfl
end Go.Abs
set_option linter.unusedVariables false
set_option linter.unusedSimpArgs false
namespace Go.Abs
/-! The chapter 'assoctypes': normal forms, as functions of trees. -/
def Sy.zero : Sy := ⟨0, 0, 0, 0, [], false⟩
def traitIx (sy : List Sy) (a : Int) : Int :=
  if ¬ (0 ≤ a ∧ a < sy.length) ∨ (sy.getD a.toNat .zero).kind ≠ 13 then -1
  else if ¬ (0 ≤ (sy.getD a.toNat .zero).par ∧ (sy.getD a.toNat .zero).par < sy.length) ∨ (sy.getD (sy.getD a.toNat .zero).par.toNat .zero).kind ≠ 5 then -1
  else (sy.getD a.toNat .zero).par
def memP (im : Int) (nm : List UInt8) (s : Sy) : Bool := (decide (s.kind = 13) && decide (s.par = im)) && decide (s.name = nm)
section
variable (sy : List Sy) (ds : List Dc) (sas : List TB)
def rigid (i : Int) (a : Ty) : Prop := ¬ traitIx sy i < 0 ∧ ((solveT ds sas 8 a (traitIx sy i)).2 = false ∨ (solveT ds sas 8 a (traitIx sy i)).1.im < 0)
def memIx (i : Int) (a : Ty) : Int := idxI (memP (solveT ds sas 8 a (traitIx sy i)).1.im (sy.getD i.toNat .zero).name) sy
def projX (i : Int) (a : Ty) : Ty := mapT (appG (ds.getD (solveT ds sas 8 a (traitIx sy i)).1.im.toNat .zero).ps (solveT ds sas 8 a (traitIx sy i)).1.args) (ds.getD (memIx sy ds sas i a).toNat .zero).t
def projT (f : Option (Ty → Ty × Bool)) (t : Ty) : Ty × Bool :=
  match t.args with
  | [a] =>
    if traitIx sy t.id < 0 then (.zero, true)
    else if (solveT ds sas 8 a (traitIx sy t.id)).2 = false ∨ (solveT ds sas 8 a (traitIx sy t.id)).1.im < 0 then (t, false)
    else match f with
      | none => (.zero, false)
      | some g => if memIx sy ds sas t.id a < 0 then (.zero, false) else g (projX sy ds sas t.id a)
  | _ => (.zero, true)
def normD (P : Ty → Ty × Bool) : Ty → Ty × Bool
  | .mk k i us =>
    if k = 10 then ((P (.mk k i (us.map fun u => (normD P u).1))).1, (us.map fun u => (normD P u).2).any id || (P (.mk k i (us.map fun u => (normD P u).1))).2)
    else (.mk k i (us.map fun u => (normD P u).1), (us.map fun u => (normD P u).2).any id)
theorem normD_eq (P : Ty → Ty × Bool) (t : Ty) : normD P t =
    if t.kind = 10 then ((P (.mk t.kind t.id (t.args.map fun u => (normD P u).1))).1, (t.args.any fun u => (normD P u).2) || (P (.mk t.kind t.id (t.args.map fun u => (normD P u).1))).2)
    else (.mk t.kind t.id (t.args.map fun u => (normD P u).1), t.args.any fun u => (normD P u).2) := by
  cases t
  rw [normD, List.any_map]
  rfl
theorem normD_mk (P : Ty → Ty × Bool) (k i : Int) (us : List Ty) : normD P (.mk k i us) =
    if k = 10 then ((P (.mk k i (us.map fun u => (normD P u).1))).1, (us.any fun u => (normD P u).2) || (P (.mk k i (us.map fun u => (normD P u).1))).2)
    else (.mk k i (us.map fun u => (normD P u).1), us.any fun u => (normD P u).2) := normD_eq P (.mk k i us)
theorem projT_one (f : Option (Ty → Ty × Bool)) (k i : Int) (a : Ty) : projT sy ds sas f (.mk k i [a]) =
    if traitIx sy i < 0 then (.zero, true)
    else if (solveT ds sas 8 a (traitIx sy i)).2 = false ∨ (solveT ds sas 8 a (traitIx sy i)).1.im < 0 then (.mk k i [a], false)
    else match f with
      | none => (.zero, false)
      | some g => if memIx sy ds sas i a < 0 then (.zero, false) else g (projX sy ds sas i a) := rfl
def projN : Nat → Ty → Ty × Bool
  | 0 => projT sy ds sas none
  | d + 1 => projT sy ds sas (some (normD (projN d)))
def normalT (t : Ty) : Ty := if (normD (projN sy ds sas 8) t).2 = true ∨ valT (normD (projN sy ds sas 8) t).1 = 2 then .zero else (normD (projN sy ds sas 8) t).1
/-- Normal forms. -/
inductive NF : Ty → Prop
  | mk {k i us} (h : ∀ u ∈ us, NF u) (hp : k = 10 → ∃ a, us = [a] ∧ rigid sy ds sas i a) : NF (.mk k i us)
variable {sy ds sas}
theorem NF.zero : NF sy ds sas .zero := .mk (by simp) (by intro h; cases h)
theorem proj_rigid {f : Option (Ty → Ty × Bool)} {k i : Int} {a : Ty} (h : rigid sy ds sas i a) : projT sy ds sas f (.mk k i [a]) = (.mk k i [a], false) := by
  rw [projT_one, if_neg h.1, if_pos h.2]
theorem projN_rigid {d : Nat} {k i : Int} {a : Ty} (h : rigid sy ds sas i a) : projN sy ds sas d (.mk k i [a]) = (.mk k i [a], false) := by
  cases d with
  | zero => exact proj_rigid h
  | succ d => exact proj_rigid h
theorem nf_norm (d : Nat) : ∀ t : Ty, NF sy ds sas t → normD (projN sy ds sas d) t = (t, false)
  | .mk k i us, h => by
    cases h with
    | mk h hp =>
      have ih : ∀ u ∈ us, normD (projN sy ds sas d) u = (u, false) := fun u hu => nf_norm d u (h u hu)
      have e1 : us.map (fun u => (normD (projN sy ds sas d) u).1) = us := by
        rw [List.map_congr_left (g := fun u => u) (fun u hu => by rw [ih u hu])]; simp
      have e2 : (us.any fun u => (normD (projN sy ds sas d) u).2) = false := by
        rw [List.any_eq_false]; intro u hu; rw [ih u hu]; simp
      rw [normD_mk, e1, e2]
      split
      · rename_i hk
        obtain ⟨a, rfl, hr⟩ := hp hk
        rw [projN_rigid hr]; rfl
      · rfl
theorem projT_nf {f : Option (Ty → Ty × Bool)} (hf : ∀ g, f = some g → ∀ u, (g u).2 = false → NF sy ds sas (g u).1) {k i : Int} {us : List Ty} (hu : ∀ u ∈ us, NF sy ds sas u) (h : (projT sy ds sas f (.mk k i us)).2 = false) : NF sy ds sas (projT sy ds sas f (.mk k i us)).1 := by
  match us, hu, h with
  | [], _, _ => exact .zero
  | _ :: _ :: _, _, _ => exact .zero
  | [a], hu, h =>
    rw [projT_one] at h ⊢
    by_cases h1 : traitIx sy i < 0
    · rw [if_pos h1] at h; cases h
    · rw [if_neg h1] at h ⊢
      by_cases h2 : (solveT ds sas 8 a (traitIx sy i)).2 = false ∨ (solveT ds sas 8 a (traitIx sy i)).1.im < 0
      · rw [if_pos h2]
        exact .mk hu fun _ => ⟨a, rfl, h1, h2⟩
      · rw [if_neg h2] at h ⊢
        cases f with
        | none => exact .zero
        | some g =>
          simp only at h ⊢
          by_cases h3 : memIx sy ds sas i a < 0
          · rw [if_pos h3]; exact .zero
          · rw [if_neg h3] at h ⊢
            exact hf g rfl _ h
theorem normD_nf {P : Ty → Ty × Bool} (hP : ∀ (k i : Int) (us : List Ty), (∀ u ∈ us, NF sy ds sas u) → (P (.mk k i us)).2 = false → NF sy ds sas (P (.mk k i us)).1) : ∀ t : Ty, (normD P t).2 = false → NF sy ds sas (normD P t).1
  | .mk k i us, h => by
    rw [normD_mk] at h ⊢
    have ih : (us.any fun u => (normD P u).2) = false → ∀ u ∈ us.map (fun u => (normD P u).1), NF sy ds sas u := fun hn u hu => by
      obtain ⟨v, hv, rfl⟩ := List.mem_map.1 hu
      rw [List.any_eq_false] at hn
      exact normD_nf hP v (by simpa using hn v hv)
    by_cases hk : k = 10
    · rw [if_pos hk] at h ⊢
      simp only [Bool.or_eq_false_iff] at h
      exact hP _ _ _ (ih h.1) h.2
    · rw [if_neg hk] at h ⊢
      exact .mk (ih h) fun e => (hk e).elim
theorem projN_nf : ∀ (d : Nat) (k i : Int) (us : List Ty), (∀ u ∈ us, NF sy ds sas u) → (projN sy ds sas d (.mk k i us)).2 = false → NF sy ds sas (projN sy ds sas d (.mk k i us)).1
  | 0, k, i, us, hu, h => projT_nf (f := none) (fun g e => by cases e) hu h
  | d + 1, k, i, us, hu, h => projT_nf (f := some _) (fun g e u hg => by cases e; exact normD_nf (projN_nf d) u hg) hu h
theorem norm_nf (d : Nat) (t : Ty) (h : (normD (projN sy ds sas d) t).2 = false) : NF sy ds sas (normD (projN sy ds sas d) t).1 := normD_nf (projN_nf d) t h
def cproj : Ty → Bool
  | .mk k i us => decide (k = 10) || (us.map fun u => cproj u).any id
theorem cproj_eq (t : Ty) : cproj t = (decide (t.kind = 10) || t.args.any cproj) := by
  cases t; rw [cproj, List.any_map]; rfl
def cerr : Ty → Bool
  | .mk k i us => decide (k = 0) || (us.map fun u => cerr u).any id
theorem cerr_eq (t : Ty) : cerr t = (decide (t.kind = 0) || t.args.any cerr) := by
  cases t; rw [cerr, List.any_map]; rfl
theorem noproj_nf : ∀ t : Ty, cproj t = false → NF sy ds sas t
  | .mk k i us, h => by
    rw [cproj_eq] at h
    simp only [Ty.kind, Ty.args, Bool.or_eq_false_iff, List.any_eq_false] at h
    refine .mk (fun u hu => noproj_nf u (by simpa using h.2 u hu)) fun hk => ?_
    simp [hk] at h
/-- Normalizing twice. -/
theorem normal_idem (t : Ty) (h : cerr (normalT sy ds sas t) = false) : normalT sy ds sas (normalT sy ds sas t) = normalT sy ds sas t := by
  have hz : cerr .zero = true := by rw [cerr_eq]; rfl
  unfold normalT at h ⊢
  by_cases hc : (normD (projN sy ds sas 8) t).2 = true ∨ valT (normD (projN sy ds sas 8) t).1 = 2
  · rw [if_pos hc, hz] at h; cases h
  · simp only [if_neg hc]
    have hf : (normD (projN sy ds sas 8) t).2 = false := by
      cases hq : (normD (projN sy ds sas 8) t).2 with
      | false => rfl
      | true => exact (hc (.inl hq)).elim
    have hn := nf_norm 8 _ (norm_nf 8 t hf)
    rw [hn, if_neg]
    intro h'
    rcases h' with h' | h'
    · cases h'
    · exact hc (.inr h')
theorem normal_noproj (t : Ty) (h : cproj t = false) (hv : valT t = 0) : normalT sy ds sas t = t := by
  unfold normalT
  rw [nf_norm 8 t (noproj_nf t h), if_neg]
  simp [hv]
/-- Normalizing the arguments first. -/
theorem normal_parts (t : Ty) (hk : ¬ t.kind = 10) (h1 : cerr (normalT sy ds sas t) = false) (h2 : cerr (.mk t.kind t.id (t.args.map (normalT sy ds sas))) = false) :
    normalT sy ds sas t = .mk t.kind t.id (t.args.map (normalT sy ds sas)) := by
  have hz : cerr .zero = true := by rw [cerr_eq]; rfl
  rw [cerr_eq] at h2
  simp only [Ty.kind, Ty.args, Bool.or_eq_false_iff, List.any_eq_false, List.mem_map] at h2
  have hc : ¬ ((normD (projN sy ds sas 8) t).2 = true ∨ valT (normD (projN sy ds sas 8) t).1 = 2) := by
    intro hc
    unfold normalT at h1
    rw [if_pos hc, hz] at h1; cases h1
  have e : normalT sy ds sas t = (normD (projN sy ds sas 8) t).1 := by
    show (if _ then _ else _) = _
    rw [if_neg hc]
  rw [e, normD_eq, if_neg hk]
  simp only
  congr 1
  refine List.map_congr_left fun u hu => ?_
  have hu2 := h2.2 _ ⟨u, hu, rfl⟩
  show _ = (if _ then _ else _)
  rw [if_neg]
  intro hcu
  apply hu2
  unfold normalT
  rw [if_pos hcu, hz]
end
end Go.Abs
set_option linter.unusedVariables false
set_option linter.unusedSimpArgs false
namespace Go.Abs
/-! The normalizer's row. -/
structure NC where
  r : Rs
  ds : List Dc
  sas : List TB
def NC.row (c : NC) (b : Bool) : AObj := .row [.slice (c.r.syms.map Sy.enc) .none, .slice (c.r.refs.map Rf.enc) .none, .slice (c.r.dgs.map Dg.enc) .none, .slice (c.ds.map Dc.enc) .none, .slice (c.sas.map TB.enc) .none, .bool b]
def nH (c : NC) (H : Heap) (im : Nat) (b : Bool) : Heap := H.set im (c.row b)
theorem nH_len (c : NC) (H : Heap) (im : Nat) (b : Bool) : (nH c H im b).length = H.length := by simp [nH]
theorem nH_rules (c : NC) {H : Heap} {im : Nat} (him : im < H.length) :
    (∀ b L, (nH c H im b ++ L)[im]? = some (.row [.slice (c.r.syms.map Sy.enc) .none, .slice (c.r.refs.map Rf.enc) .none, .slice (c.r.dgs.map Dg.enc) .none, .slice (c.ds.map Dc.enc) .none, .slice (c.sas.map TB.enc) .none, .bool b])) ∧
    (∀ b L b', (nH c H im b ++ L).set im (.row [.slice (c.r.syms.map Sy.enc) .none, .slice (c.r.refs.map Rf.enc) .none, .slice (c.r.dgs.map Dg.enc) .none, .slice (c.ds.map Dc.enc) .none, .slice (c.sas.map TB.enc) .none, .bool b']) = nH c H im b' ++ L) ∧
    (∀ b L b', (nH c H im b ++ L).set im (c.row b') = nH c H im b' ++ L) ∧
    (∀ b L k, (nH c H im b ++ L)[H.length + k]? = L[k]?) ∧ (∀ b L, (nH c H im b ++ L)[H.length]? = L[0]?) ∧ (∀ b L k o, (nH c H im b ++ L).set (H.length + k) o = nH c H im b ++ L.set k o) ∧ (∀ b L o, (nH c H im b ++ L).set H.length o = nH c H im b ++ L.set 0 o) ∧
    (∀ b, (nH c H im b).length = H.length) := by
  have hset : ∀ b L o, (nH c H im b ++ L).set im o = H.set im o ++ L := fun b L o => by rw [List.set_append_left _ _ (by rw [nH_len]; exact him)]; simp only [nH]; rw [List.set_set]
  refine ⟨fun b L => ?_, fun b L b' => hset _ _ _, fun b L b' => hset _ _ _, fun b L k => ?_, fun b L => ?_, fun b L k o => ?_, fun b L o => ?_, fun b => nH_len ..⟩
  · rw [List.getElem?_append_left (by rw [nH_len]; exact him)]; simp only [nH]; rw [List.getElem?_set_self him]; rfl
  · have := get_app (nH c H im b) L k; rwa [nH_len] at this
  · have := get_app0 (nH c H im b) L; rwa [nH_len] at this
  · have := set_app (nH c H im b) L k o; rwa [nH_len] at this
  · have := set_app0 (nH c H im b) L o; rwa [nH_len] at this
theorem nH_self {c : NC} {H : Heap} {im : Nat} {b : Bool} (h : H[im]? = some (c.row b)) : nH c H im b = H := list_set_self h
theorem nrow_bel (c : NC) (n : Nat) (b : Bool) : OBel n (c.row b) := by
  intro x hx
  simp only [List.mem_cons, List.not_mem_nil, or_false] at hx
  rcases hx with rfl | rfl | rfl | rfl | rfl | rfl
  · exact bel_Sy _ _
  · exact bel_Rf _ _
  · exact bel_Dg _ _
  · exact bel_Dc _ _
  · exact bel_TB _ _
  · exact .bool _
theorem nH_bel {c : NC} {H : Heap} {im : Nat} {b b' : Bool} (hb : HBel H.length (nH c H im b)) (him : im < H.length) : HBel H.length (nH c H im b') := by
  intro o ho
  obtain ⟨k, hk⟩ := List.mem_iff_getElem?.1 ho
  simp only [nH] at hk
  by_cases e1 : k = im
  · subst e1
    rw [List.getElem?_set_self him] at hk
    cases hk
    exact nrow_bel c _ _
  · rw [List.getElem?_set_ne (Ne.symm e1)] at hk
    refine hb o (List.mem_iff_getElem?.2 ⟨k, ?_⟩)
    simp only [nH]
    rw [List.getElem?_set_ne (Ne.symm e1)]; exact hk
theorem nSet {P : Program} {f : FuncId} {args : List PV} {r : PV} {c : NC} {im : Nat} {b b2 : Bool}
    (hk : ∀ H : Heap, im < H.length → ACalls P f args (nH c H im b) fun r' H' => r' = r ∧ H' = nH c H im b2) (H : Heap) (h : H[im]? = some (c.row b)) : ACalls P f args H fun r' H' => r' = r ∧ H' = H.set im (c.row b2) := by
  have := hk H (len_of_get h)
  rw [nH_self h] at this
  exact this
end Go.Abs
set_option linter.unusedVariables false
set_option linter.unusedSimpArgs false
set_option maxRecDepth 4000
namespace Go.Abs
open Go.Proofs

theorem trait_c (c : NC) (b : Bool) (H : Heap) (im : Nat) (h1 : H[im]? = some (c.row b)) (a : Int) : ACalls Try.prog 146 [.optr im 0, vint a] H fun r' H' => r' = vint (traitIx c.r.syms a) ∧ H' = H := by
  have q1 : ∀ L, (H ++ L)[im]? = some (.row [.slice (c.r.syms.map Sy.enc) .none, .slice (c.r.refs.map Rf.enc) .none, .slice (c.r.dgs.map Dg.enc) .none, .slice (c.ds.map Dc.enc) .none, .slice (c.sas.map TB.enc) .none, .bool b]) := fun L => by rw [List.getElem?_append_left (len_of_get h1)]; exact h1
  have q0 : H[im]? = some (.row [.slice (c.r.syms.map Sy.enc) .none, .slice (c.r.refs.map Rf.enc) .none, .slice (c.r.dgs.map Dg.enc) .none, .slice (c.ds.map Dc.enc) .none, .slice (c.sas.map TB.enc) .none, .bool b]) := h1
  refine keeps_of (N := 64) Try.func146 rfl rfl (by simp) (.int _ _) fun hb' => ?_
  -- region 0
  repeat (refine awp_seq ?_)
  refine e_eval (by simp only [asq, as0, as1, as2, awanted, aop, LS, SS, SX, HS, mkS_cons, mkS_nil, ↓reduceIte, eq_self', List.map_nil, beq_self_eq_true, Nat.reduceEqDiff, Nat.reduceAdd, Nat.reduceMul, Nat.reduceLT, Nat.reduceLeDiff, Nat.reducePow, Nat.reduceDiv, Nat.reduceMod, Nat.succ_ne_self, Nat.reduceBEq, Nat.reduceBNe, vint, TyS, TyF, TBS, TBF, DcS, DcF, PfS, PfF, SyS, SyF, RsS, RsF, q1, q0] <;> with_reducible rfl) (by decide) ?_
  rcases (by omega : a < 0 ∨ (¬ a < 0 ∧ (a : Int) ≥ c.r.syms.length) ∨ (0 ≤ a ∧ a < c.r.syms.length)) with h | ⟨h, h5⟩ | ⟨h, h5⟩
  · -- case
    have hx : decide (a < 0) = true := decide_eq_true h
    have hx2 : True = True := rfl
    have hT : traitIx c.r.syms a = -1 := by unfold traitIx; rw [if_pos (Or.inl (by omega))]
    -- region 1
    repeat (refine awp_seq ?_)
    refine awp_region ?_
    refine aops_gstart ?_
    refine g_take 19 (by simp only [gsq, gs0, gs1, gs2, gcond, gop, SG, Op.operands, Call.operands, Array.toList_append, aop, abin, ajust, afldAddr, aload, abuiltin, LS, SS, SX, HS, mkS_cons, mkS_nil, ↓reduceIte, eq_self', List.map_nil, beq_self_eq_true, Nat.reduceEqDiff, Nat.reduceAdd, Nat.reduceMul, Nat.reduceLT, Nat.reduceLeDiff, Nat.reducePow, Nat.reduceDiv, Nat.reduceMod, Nat.succ_ne_self, Nat.reduceBEq, Nat.reduceBNe, Tryti3, Trytz3, Trytp3, Trytk3, Tryti52, Tryte52, Trytz52, Trytp52, Tryti56, Trytf56, Trytz56, Trytp56, Tryti117, Trytf117, Trytz117, Trytp117, Tryti130, Trytf130, Trytz130, Trytp130, vint, TyS, TyF, TBS, TBF, DcS, DcF, PfS, PfF, SyS, SyF, RsS, RsF, q1, q0, hx, Bool.true_or] <;> with_reducible rfl) (by decide) ?_
    refine aops_gskip (r := .tup []) (by simp only [acall, gcond, SG, Op.operands, Call.operands, Array.toList_append, LS, SS, SX, HS, mkS_cons, mkS_nil, ↓reduceIte, eq_self', List.map_nil, beq_self_eq_true, Nat.reduceEqDiff, Nat.reduceAdd, Nat.reduceMul, Nat.reduceLT, Nat.reduceLeDiff, Nat.reducePow, Nat.reduceDiv, Nat.reduceMod, Nat.succ_ne_self, Nat.reduceBEq, Nat.reduceBNe, vint, TyS, TyF, TBS, TBF, DcS, DcF, PfS, PfF, SyS, SyF, RsS, RsF, hx, hx2, Bool.true_or, Bool.or_true, Bool.false_or, Bool.not_true, Bool.not_false, q1, q0] <;> with_reducible rfl) ?_
    refine aops_gskip (r := .tup []) (by simp only [acall, gcond, SG, Op.operands, Call.operands, Array.toList_append, LS, SS, SX, HS, mkS_cons, mkS_nil, ↓reduceIte, eq_self', List.map_nil, beq_self_eq_true, Nat.reduceEqDiff, Nat.reduceAdd, Nat.reduceMul, Nat.reduceLT, Nat.reduceLeDiff, Nat.reducePow, Nat.reduceDiv, Nat.reduceMod, Nat.succ_ne_self, Nat.reduceBEq, Nat.reduceBNe, vint, TyS, TyF, TBS, TBF, DcS, DcF, PfS, PfF, SyS, SyF, RsS, RsF, hx, hx2, Bool.true_or, Bool.or_true, Bool.false_or, Bool.not_true, Bool.not_false, q1, q0] <;> with_reducible rfl) ?_
    refine aops_gskip (r := .tup []) (by simp only [acall, gcond, SG, Op.operands, Call.operands, Array.toList_append, LS, SS, SX, HS, mkS_cons, mkS_nil, ↓reduceIte, eq_self', List.map_nil, beq_self_eq_true, Nat.reduceEqDiff, Nat.reduceAdd, Nat.reduceMul, Nat.reduceLT, Nat.reduceLeDiff, Nat.reducePow, Nat.reduceDiv, Nat.reduceMod, Nat.succ_ne_self, Nat.reduceBEq, Nat.reduceBNe, vint, TyS, TyF, TBS, TBF, DcS, DcF, PfS, PfF, SyS, SyF, RsS, RsF, hx, hx2, Bool.true_or, Bool.or_true, Bool.false_or, Bool.not_true, Bool.not_false, q1, q0] <;> with_reducible rfl) ?_
    refine aops_gskip (r := .tup []) (by simp only [acall, gcond, SG, Op.operands, Call.operands, Array.toList_append, LS, SS, SX, HS, mkS_cons, mkS_nil, ↓reduceIte, eq_self', List.map_nil, beq_self_eq_true, Nat.reduceEqDiff, Nat.reduceAdd, Nat.reduceMul, Nat.reduceLT, Nat.reduceLeDiff, Nat.reducePow, Nat.reduceDiv, Nat.reduceMod, Nat.succ_ne_self, Nat.reduceBEq, Nat.reduceBNe, vint, TyS, TyF, TBS, TBF, DcS, DcF, PfS, PfF, SyS, SyF, RsS, RsF, hx, hx2, Bool.true_or, Bool.or_true, Bool.false_or, Bool.not_true, Bool.not_false, q1, q0] <;> with_reducible rfl) ?_
    refine g_end (by simp only [gsq, gs0, gs1, gs2, gcond, gop, SG, Op.operands, Call.operands, Array.toList_append, aop, LS, SS, SX, HS, mkS_cons, mkS_nil, ↓reduceIte, eq_self', List.map_nil, beq_self_eq_true, Nat.reduceEqDiff, Nat.reduceAdd, Nat.reduceMul, Nat.reduceLT, Nat.reduceLeDiff, Nat.reducePow, Nat.reduceDiv, Nat.reduceMod, Nat.succ_ne_self, Nat.reduceBEq, Nat.reduceBNe, vint, TyS, TyF, TBS, TBF, DcS, DcF, PfS, PfF, SyS, SyF, RsS, RsF, q1, q0, hx, Bool.true_or] <;> with_reducible rfl) (by decide) (by repeat (first | exact Fin.base _ | with_reducible apply Fin.keep | apply Fin.drop)) ?_
    repeat (refine awp_seq ?_)
    refine awp_cond_true rfl (by simp only [LS, SS, SX, HS, mkS_cons, mkS_nil, ↓reduceIte, eq_self', List.map_nil, beq_self_eq_true, Nat.reduceEqDiff, Nat.reduceAdd, Nat.succ_ne_self, vint, TyS, TyF, TBS, TBF, DcS, DcF, PfS, PfF, SyS, SyF, RsS, RsF, q1, q0, hx, Bool.true_or] <;> with_reducible rfl) ?_
    refine awp_sel [] (by simp only [LS, SS, SX, HS, mkS_cons, mkS_nil, ↓reduceIte, eq_self', List.map_nil, beq_self_eq_true, Nat.reduceEqDiff, Nat.reduceAdd, Nat.succ_ne_self, vint, TyS, TyF, TBS, TBF, DcS, DcF, PfS, PfF, SyS, SyF, RsS, RsF, q1, q0, hx, Bool.true_or] <;> with_reducible rfl) ?_
    -- region 2
    repeat (refine awp_seq ?_)
    refine e_eval (by simp only [asq, as0, as1, as2, awanted, aop, LS, SS, SX, HS, mkS_cons, mkS_nil, ↓reduceIte, eq_self', List.map_nil, beq_self_eq_true, Nat.reduceEqDiff, Nat.reduceAdd, Nat.reduceMul, Nat.reduceLT, Nat.reduceLeDiff, Nat.reducePow, Nat.reduceDiv, Nat.reduceMod, Nat.succ_ne_self, Nat.reduceBEq, Nat.reduceBNe, vint, TyS, TyF, TBS, TBF, DcS, DcF, PfS, PfF, SyS, SyF, RsS, RsF, q1, q0, hx, Bool.true_or] <;> with_reducible rfl) (by decide) ?_
    repeat (refine awp_seq ?_)
    -- leaf 0 ret
    refine awp_ret ⟨.inr rfl, _, _, rfl, ?_, (by first | exact (List.append_nil _).symm | rfl)⟩
    rw [hT]
    simp only [LS, SS, SX, HS, mkS_cons, mkS_nil, ↓reduceIte, eq_self', List.map_nil, beq_self_eq_true, Nat.reduceEqDiff, Nat.reduceAdd, Nat.succ_ne_self, vint, TyS, TyF, TBS, TBF, DcS, DcF, PfS, PfF, SyS, SyF, RsS, RsF]
  · -- case
    have hx : decide (a < 0) = false := decide_eq_false h
    have hx2 : decide (a ≥ (c.r.syms.length : Int)) = true := decide_eq_true h5
    have hT : traitIx c.r.syms a = -1 := by unfold traitIx; rw [if_pos (Or.inl (by omega))]
    -- region 1
    repeat (refine awp_seq ?_)
    refine awp_region ?_
    refine aops_gstart ?_
    refine g_take 19 (by simp only [gsq, gs0, gs1, gs2, gcond, gop, SG, Op.operands, Call.operands, Array.toList_append, aop, abin, ajust, afldAddr, aload, abuiltin, LS, SS, SX, HS, mkS_cons, mkS_nil, ↓reduceIte, eq_self', List.map_nil, beq_self_eq_true, Nat.reduceEqDiff, Nat.reduceAdd, Nat.reduceMul, Nat.reduceLT, Nat.reduceLeDiff, Nat.reducePow, Nat.reduceDiv, Nat.reduceMod, Nat.succ_ne_self, Nat.reduceBEq, Nat.reduceBNe, Tryti3, Trytz3, Trytp3, Trytk3, Tryti52, Tryte52, Trytz52, Trytp52, Tryti56, Trytf56, Trytz56, Trytp56, Tryti117, Trytf117, Trytz117, Trytp117, Tryti130, Trytf130, Trytz130, Trytp130, vint, TyS, TyF, TBS, TBF, DcS, DcF, PfS, PfF, SyS, SyF, RsS, RsF, q1, q0, hx, hx2, Bool.false_or, Bool.true_or] <;> with_reducible rfl) (by decide) ?_
    refine aops_gskip (r := .tup []) (by simp only [acall, gcond, SG, Op.operands, Call.operands, Array.toList_append, LS, SS, SX, HS, mkS_cons, mkS_nil, ↓reduceIte, eq_self', List.map_nil, beq_self_eq_true, Nat.reduceEqDiff, Nat.reduceAdd, Nat.reduceMul, Nat.reduceLT, Nat.reduceLeDiff, Nat.reducePow, Nat.reduceDiv, Nat.reduceMod, Nat.succ_ne_self, Nat.reduceBEq, Nat.reduceBNe, vint, TyS, TyF, TBS, TBF, DcS, DcF, PfS, PfF, SyS, SyF, RsS, RsF, hx, hx2, Bool.true_or, Bool.or_true, Bool.false_or, Bool.not_true, Bool.not_false, q1, q0] <;> with_reducible rfl) ?_
    refine aops_gskip (r := .tup []) (by simp only [acall, gcond, SG, Op.operands, Call.operands, Array.toList_append, LS, SS, SX, HS, mkS_cons, mkS_nil, ↓reduceIte, eq_self', List.map_nil, beq_self_eq_true, Nat.reduceEqDiff, Nat.reduceAdd, Nat.reduceMul, Nat.reduceLT, Nat.reduceLeDiff, Nat.reducePow, Nat.reduceDiv, Nat.reduceMod, Nat.succ_ne_self, Nat.reduceBEq, Nat.reduceBNe, vint, TyS, TyF, TBS, TBF, DcS, DcF, PfS, PfF, SyS, SyF, RsS, RsF, hx, hx2, Bool.true_or, Bool.or_true, Bool.false_or, Bool.not_true, Bool.not_false, q1, q0] <;> with_reducible rfl) ?_
    refine aops_gskip (r := .tup []) (by simp only [acall, gcond, SG, Op.operands, Call.operands, Array.toList_append, LS, SS, SX, HS, mkS_cons, mkS_nil, ↓reduceIte, eq_self', List.map_nil, beq_self_eq_true, Nat.reduceEqDiff, Nat.reduceAdd, Nat.reduceMul, Nat.reduceLT, Nat.reduceLeDiff, Nat.reducePow, Nat.reduceDiv, Nat.reduceMod, Nat.succ_ne_self, Nat.reduceBEq, Nat.reduceBNe, vint, TyS, TyF, TBS, TBF, DcS, DcF, PfS, PfF, SyS, SyF, RsS, RsF, hx, hx2, Bool.true_or, Bool.or_true, Bool.false_or, Bool.not_true, Bool.not_false, q1, q0] <;> with_reducible rfl) ?_
    refine aops_gskip (r := .tup []) (by simp only [acall, gcond, SG, Op.operands, Call.operands, Array.toList_append, LS, SS, SX, HS, mkS_cons, mkS_nil, ↓reduceIte, eq_self', List.map_nil, beq_self_eq_true, Nat.reduceEqDiff, Nat.reduceAdd, Nat.reduceMul, Nat.reduceLT, Nat.reduceLeDiff, Nat.reducePow, Nat.reduceDiv, Nat.reduceMod, Nat.succ_ne_self, Nat.reduceBEq, Nat.reduceBNe, vint, TyS, TyF, TBS, TBF, DcS, DcF, PfS, PfF, SyS, SyF, RsS, RsF, hx, hx2, Bool.true_or, Bool.or_true, Bool.false_or, Bool.not_true, Bool.not_false, q1, q0] <;> with_reducible rfl) ?_
    refine g_end (by simp only [gsq, gs0, gs1, gs2, gcond, gop, SG, Op.operands, Call.operands, Array.toList_append, aop, LS, SS, SX, HS, mkS_cons, mkS_nil, ↓reduceIte, eq_self', List.map_nil, beq_self_eq_true, Nat.reduceEqDiff, Nat.reduceAdd, Nat.reduceMul, Nat.reduceLT, Nat.reduceLeDiff, Nat.reducePow, Nat.reduceDiv, Nat.reduceMod, Nat.succ_ne_self, Nat.reduceBEq, Nat.reduceBNe, vint, TyS, TyF, TBS, TBF, DcS, DcF, PfS, PfF, SyS, SyF, RsS, RsF, q1, q0, hx, hx2, Bool.false_or, Bool.true_or] <;> with_reducible rfl) (by decide) (by repeat (first | exact Fin.base _ | with_reducible apply Fin.keep | apply Fin.drop)) ?_
    repeat (refine awp_seq ?_)
    refine awp_cond_true rfl (by simp only [LS, SS, SX, HS, mkS_cons, mkS_nil, ↓reduceIte, eq_self', List.map_nil, beq_self_eq_true, Nat.reduceEqDiff, Nat.reduceAdd, Nat.succ_ne_self, vint, TyS, TyF, TBS, TBF, DcS, DcF, PfS, PfF, SyS, SyF, RsS, RsF, q1, q0, hx, hx2, Bool.false_or, Bool.true_or] <;> with_reducible rfl) ?_
    refine awp_sel [] (by simp only [LS, SS, SX, HS, mkS_cons, mkS_nil, ↓reduceIte, eq_self', List.map_nil, beq_self_eq_true, Nat.reduceEqDiff, Nat.reduceAdd, Nat.succ_ne_self, vint, TyS, TyF, TBS, TBF, DcS, DcF, PfS, PfF, SyS, SyF, RsS, RsF, q1, q0, hx, hx2, Bool.false_or, Bool.true_or] <;> with_reducible rfl) ?_
    -- region 2
    repeat (refine awp_seq ?_)
    refine e_eval (by simp only [asq, as0, as1, as2, awanted, aop, LS, SS, SX, HS, mkS_cons, mkS_nil, ↓reduceIte, eq_self', List.map_nil, beq_self_eq_true, Nat.reduceEqDiff, Nat.reduceAdd, Nat.reduceMul, Nat.reduceLT, Nat.reduceLeDiff, Nat.reducePow, Nat.reduceDiv, Nat.reduceMod, Nat.succ_ne_self, Nat.reduceBEq, Nat.reduceBNe, vint, TyS, TyF, TBS, TBF, DcS, DcF, PfS, PfF, SyS, SyF, RsS, RsF, q1, q0, hx, hx2, Bool.false_or, Bool.true_or] <;> with_reducible rfl) (by decide) ?_
    repeat (refine awp_seq ?_)
    -- leaf 1 ret
    refine awp_ret ⟨.inr rfl, _, _, rfl, ?_, (by first | exact (List.append_nil _).symm | rfl)⟩
    rw [hT]
    simp only [LS, SS, SX, HS, mkS_cons, mkS_nil, ↓reduceIte, eq_self', List.map_nil, beq_self_eq_true, Nat.reduceEqDiff, Nat.reduceAdd, Nat.succ_ne_self, vint, TyS, TyF, TBS, TBF, DcS, DcF, PfS, PfF, SyS, SyF, RsS, RsF]
  · -- case
    have hx : decide (a < 0) = false := decide_eq_false (by omega)
    have hx2 : decide (a ≥ (c.r.syms.length : Int)) = false := decide_eq_false (by omega)
    have ga : ((0 : Int) ≤ a ∧ a < (c.r.syms).length) = True := by simp; omega
    have gl : (a).toNat < (c.r.syms).length := by omega
    obtain ⟨s, se⟩ : ∃ z_, (c.r.syms)[(a).toNat] = z_ := ⟨_, rfl⟩
    have gb := get_enc Sy.enc gl
    rw [se] at gb
    have gd : (c.r.syms).getD (a).toNat .zero = s := by rw [List.getD_eq_getElem?_getD, List.getElem?_eq_getElem gl, se]; rfl
    -- region 1
    repeat (refine awp_seq ?_)
    refine g_eval (by simp only [gsq, gs0, gs1, gs2, gcond, gop, SG, Op.operands, Call.operands, Array.toList_append, aop, abin, ajust, afldAddr, aload, abuiltin, aidxAddr, aidx, LS, SS, SX, HS, mkS_cons, mkS_nil, ↓reduceIte, eq_self', List.map_nil, beq_self_eq_true, Nat.reduceEqDiff, Nat.reduceAdd, Nat.reduceMul, Nat.reduceLT, Nat.reduceLeDiff, Nat.reducePow, Nat.reduceDiv, Nat.reduceMod, Nat.succ_ne_self, Nat.reduceBEq, Nat.reduceBNe, Tryti3, Trytz3, Trytp3, Trytk3, Tryti52, Tryte52, Trytz52, Trytp52, Tryti56, Trytf56, Trytz56, Trytp56, Tryti117, Trytf117, Trytz117, Trytp117, Tryti130, Trytf130, Trytz130, Trytp130, vint, TyS, TyF, TBS, TBF, DcS, DcF, PfS, PfF, SyS, SyF, RsS, RsF, q1, q0, hx, hx2, Bool.false_or, ga, gb] <;> with_reducible rfl) (by decide) (by repeat (first | exact Fin.base _ | with_reducible apply Fin.keep | apply Fin.drop)) ?_
    repeat (refine awp_seq ?_)
    refine awp_cond rfl (by simp only [LS, SS, SX, HS, mkS_cons, mkS_nil, ↓reduceIte, eq_self', List.map_nil, beq_self_eq_true, Nat.reduceEqDiff, Nat.reduceAdd, Nat.succ_ne_self, vint, TyS, TyF, TBS, TBF, DcS, DcF, PfS, PfF, SyS, SyF, RsS, RsF, q1, q0, hx, hx2, Bool.false_or, ga, gb] <;> with_reducible rfl) (fun b2 => ?_) (fun b2 => ?_)
    · -- if t29
      have hT : traitIx c.r.syms a = -1 := by unfold traitIx; rw [gd, if_pos (Or.inr (by simpa using b2))]
      refine awp_sel [] (by simp only [LS, SS, SX, HS, mkS_cons, mkS_nil, ↓reduceIte, eq_self', List.map_nil, beq_self_eq_true, Nat.reduceEqDiff, Nat.reduceAdd, Nat.succ_ne_self, vint, TyS, TyF, TBS, TBF, DcS, DcF, PfS, PfF, SyS, SyF, RsS, RsF, q1, q0, hx, hx2, Bool.false_or, ga, gb] <;> with_reducible rfl) ?_
      -- region 2
      repeat (refine awp_seq ?_)
      refine e_eval (by simp only [asq, as0, as1, as2, awanted, aop, LS, SS, SX, HS, mkS_cons, mkS_nil, ↓reduceIte, eq_self', List.map_nil, beq_self_eq_true, Nat.reduceEqDiff, Nat.reduceAdd, Nat.reduceMul, Nat.reduceLT, Nat.reduceLeDiff, Nat.reducePow, Nat.reduceDiv, Nat.reduceMod, Nat.succ_ne_self, Nat.reduceBEq, Nat.reduceBNe, vint, TyS, TyF, TBS, TBF, DcS, DcF, PfS, PfF, SyS, SyF, RsS, RsF, q1, q0, hx, hx2, Bool.false_or, ga, gb] <;> with_reducible rfl) (by decide) ?_
      repeat (refine awp_seq ?_)
      -- leaf 2 ret
      refine awp_ret ⟨.inr rfl, _, _, rfl, ?_, (by first | exact (List.append_nil _).symm | rfl)⟩
      rw [hT]
      simp only [LS, SS, SX, HS, mkS_cons, mkS_nil, ↓reduceIte, eq_self', List.map_nil, beq_self_eq_true, Nat.reduceEqDiff, Nat.reduceAdd, Nat.succ_ne_self, vint, TyS, TyF, TBS, TBF, DcS, DcF, PfS, PfF, SyS, SyF, RsS, RsF]
    · -- else t29
      have hk1 : ¬ (¬ (0 ≤ a ∧ a < c.r.syms.length) ∨ s.kind ≠ 13) := by simp at b2; simp [b2]; omega
      repeat (refine awp_seq ?_)
      refine awp_skip ?_
      refine awp_sel [0, 1] (by simp only [LS, SS, SX, HS, mkS_cons, mkS_nil, ↓reduceIte, eq_self', List.map_nil, beq_self_eq_true, Nat.reduceEqDiff, Nat.reduceAdd, Nat.succ_ne_self, vint, TyS, TyF, TBS, TBF, DcS, DcF, PfS, PfF, SyS, SyF, RsS, RsF, q1, q0, hx, hx2, Bool.false_or, ga, gb] <;> with_reducible rfl) ?_
      -- region 3
      repeat (refine awp_seq ?_)
      refine e_eval (by simp only [asq, as0, as1, as2, awanted, aop, afldAddr, ajust, aload, aidxAddr, aidx, LS, SS, SX, HS, mkS_cons, mkS_nil, ↓reduceIte, eq_self', List.map_nil, beq_self_eq_true, Nat.reduceEqDiff, Nat.reduceAdd, Nat.reduceMul, Nat.reduceLT, Nat.reduceLeDiff, Nat.reducePow, Nat.reduceDiv, Nat.reduceMod, Nat.succ_ne_self, Nat.reduceBEq, Nat.reduceBNe, Tryti3, Trytz3, Trytp3, Trytk3, Tryti52, Tryte52, Trytz52, Trytp52, Tryti56, Trytf56, Trytz56, Trytp56, Tryti117, Trytf117, Trytz117, Trytp117, Tryti130, Trytf130, Trytz130, Trytp130, vint, TyS, TyF, TBS, TBF, DcS, DcF, PfS, PfF, SyS, SyF, RsS, RsF, q1, q0, hx, hx2, Bool.false_or, ga, gb, ga, gb] <;> with_reducible rfl) (by decide) ?_
      rcases (by omega : s.par < 0 ∨ (¬ s.par < 0 ∧ (s.par : Int) ≥ c.r.syms.length) ∨ (0 ≤ s.par ∧ s.par < c.r.syms.length)) with h | ⟨h, h5⟩ | ⟨h, h5⟩
      · -- case
        have hx : decide (s.par < 0) = true := decide_eq_true h
        have hx2 : True = True := rfl
        have hT : traitIx c.r.syms a = -1 := by unfold traitIx; rw [gd, if_neg hk1, if_pos (Or.inl (by omega))]
        -- region 4
        repeat (refine awp_seq ?_)
        refine awp_region ?_
        refine aops_gstart ?_
        refine g_take 19 (by simp only [gsq, gs0, gs1, gs2, gcond, gop, SG, Op.operands, Call.operands, Array.toList_append, aop, abin, ajust, afldAddr, aload, abuiltin, LS, SS, SX, HS, mkS_cons, mkS_nil, ↓reduceIte, eq_self', List.map_nil, beq_self_eq_true, Nat.reduceEqDiff, Nat.reduceAdd, Nat.reduceMul, Nat.reduceLT, Nat.reduceLeDiff, Nat.reducePow, Nat.reduceDiv, Nat.reduceMod, Nat.succ_ne_self, Nat.reduceBEq, Nat.reduceBNe, Tryti3, Trytz3, Trytp3, Trytk3, Tryti52, Tryte52, Trytz52, Trytp52, Tryti56, Trytf56, Trytz56, Trytp56, Tryti117, Trytf117, Trytz117, Trytp117, Tryti130, Trytf130, Trytz130, Trytp130, vint, TyS, TyF, TBS, TBF, DcS, DcF, PfS, PfF, SyS, SyF, RsS, RsF, q1, q0, hx, hx2, Bool.false_or, ga, gb, hx, Bool.true_or] <;> with_reducible rfl) (by decide) ?_
        refine aops_gskip (r := .tup []) (by simp only [acall, gcond, SG, Op.operands, Call.operands, Array.toList_append, LS, SS, SX, HS, mkS_cons, mkS_nil, ↓reduceIte, eq_self', List.map_nil, beq_self_eq_true, Nat.reduceEqDiff, Nat.reduceAdd, Nat.reduceMul, Nat.reduceLT, Nat.reduceLeDiff, Nat.reducePow, Nat.reduceDiv, Nat.reduceMod, Nat.succ_ne_self, Nat.reduceBEq, Nat.reduceBNe, vint, TyS, TyF, TBS, TBF, DcS, DcF, PfS, PfF, SyS, SyF, RsS, RsF, hx, hx2, Bool.true_or, Bool.or_true, Bool.false_or, Bool.not_true, Bool.not_false, q1, q0, ga, gb] <;> with_reducible rfl) ?_
        refine aops_gskip (r := .tup []) (by simp only [acall, gcond, SG, Op.operands, Call.operands, Array.toList_append, LS, SS, SX, HS, mkS_cons, mkS_nil, ↓reduceIte, eq_self', List.map_nil, beq_self_eq_true, Nat.reduceEqDiff, Nat.reduceAdd, Nat.reduceMul, Nat.reduceLT, Nat.reduceLeDiff, Nat.reducePow, Nat.reduceDiv, Nat.reduceMod, Nat.succ_ne_self, Nat.reduceBEq, Nat.reduceBNe, vint, TyS, TyF, TBS, TBF, DcS, DcF, PfS, PfF, SyS, SyF, RsS, RsF, hx, hx2, Bool.true_or, Bool.or_true, Bool.false_or, Bool.not_true, Bool.not_false, q1, q0, ga, gb] <;> with_reducible rfl) ?_
        refine aops_gskip (r := .tup []) (by simp only [acall, gcond, SG, Op.operands, Call.operands, Array.toList_append, LS, SS, SX, HS, mkS_cons, mkS_nil, ↓reduceIte, eq_self', List.map_nil, beq_self_eq_true, Nat.reduceEqDiff, Nat.reduceAdd, Nat.reduceMul, Nat.reduceLT, Nat.reduceLeDiff, Nat.reducePow, Nat.reduceDiv, Nat.reduceMod, Nat.succ_ne_self, Nat.reduceBEq, Nat.reduceBNe, vint, TyS, TyF, TBS, TBF, DcS, DcF, PfS, PfF, SyS, SyF, RsS, RsF, hx, hx2, Bool.true_or, Bool.or_true, Bool.false_or, Bool.not_true, Bool.not_false, q1, q0, ga, gb] <;> with_reducible rfl) ?_
        refine aops_gskip (r := .tup []) (by simp only [acall, gcond, SG, Op.operands, Call.operands, Array.toList_append, LS, SS, SX, HS, mkS_cons, mkS_nil, ↓reduceIte, eq_self', List.map_nil, beq_self_eq_true, Nat.reduceEqDiff, Nat.reduceAdd, Nat.reduceMul, Nat.reduceLT, Nat.reduceLeDiff, Nat.reducePow, Nat.reduceDiv, Nat.reduceMod, Nat.succ_ne_self, Nat.reduceBEq, Nat.reduceBNe, vint, TyS, TyF, TBS, TBF, DcS, DcF, PfS, PfF, SyS, SyF, RsS, RsF, hx, hx2, Bool.true_or, Bool.or_true, Bool.false_or, Bool.not_true, Bool.not_false, q1, q0, ga, gb] <;> with_reducible rfl) ?_
        refine g_end (by simp only [gsq, gs0, gs1, gs2, gcond, gop, SG, Op.operands, Call.operands, Array.toList_append, aop, LS, SS, SX, HS, mkS_cons, mkS_nil, ↓reduceIte, eq_self', List.map_nil, beq_self_eq_true, Nat.reduceEqDiff, Nat.reduceAdd, Nat.reduceMul, Nat.reduceLT, Nat.reduceLeDiff, Nat.reducePow, Nat.reduceDiv, Nat.reduceMod, Nat.succ_ne_self, Nat.reduceBEq, Nat.reduceBNe, vint, TyS, TyF, TBS, TBF, DcS, DcF, PfS, PfF, SyS, SyF, RsS, RsF, q1, q0, hx, hx2, Bool.false_or, ga, gb, hx, Bool.true_or] <;> with_reducible rfl) (by decide) (by repeat (first | exact Fin.base _ | with_reducible apply Fin.keep | apply Fin.drop)) ?_
        repeat (refine awp_seq ?_)
        refine awp_cond_true rfl (by simp only [LS, SS, SX, HS, mkS_cons, mkS_nil, ↓reduceIte, eq_self', List.map_nil, beq_self_eq_true, Nat.reduceEqDiff, Nat.reduceAdd, Nat.succ_ne_self, vint, TyS, TyF, TBS, TBF, DcS, DcF, PfS, PfF, SyS, SyF, RsS, RsF, q1, q0, hx, hx2, Bool.false_or, ga, gb, hx, Bool.true_or] <;> with_reducible rfl) ?_
        refine awp_sel [] (by simp only [LS, SS, SX, HS, mkS_cons, mkS_nil, ↓reduceIte, eq_self', List.map_nil, beq_self_eq_true, Nat.reduceEqDiff, Nat.reduceAdd, Nat.succ_ne_self, vint, TyS, TyF, TBS, TBF, DcS, DcF, PfS, PfF, SyS, SyF, RsS, RsF, q1, q0, hx, hx2, Bool.false_or, ga, gb, hx, Bool.true_or] <;> with_reducible rfl) ?_
        -- region 5
        repeat (refine awp_seq ?_)
        refine e_eval (by simp only [asq, as0, as1, as2, awanted, aop, LS, SS, SX, HS, mkS_cons, mkS_nil, ↓reduceIte, eq_self', List.map_nil, beq_self_eq_true, Nat.reduceEqDiff, Nat.reduceAdd, Nat.reduceMul, Nat.reduceLT, Nat.reduceLeDiff, Nat.reducePow, Nat.reduceDiv, Nat.reduceMod, Nat.succ_ne_self, Nat.reduceBEq, Nat.reduceBNe, vint, TyS, TyF, TBS, TBF, DcS, DcF, PfS, PfF, SyS, SyF, RsS, RsF, q1, q0, hx, hx2, Bool.false_or, ga, gb, hx, Bool.true_or] <;> with_reducible rfl) (by decide) ?_
        repeat (refine awp_seq ?_)
        -- leaf 3 ret
        refine awp_ret ⟨.inr rfl, _, _, rfl, ?_, (by first | exact (List.append_nil _).symm | rfl)⟩
        rw [hT]
        simp only [LS, SS, SX, HS, mkS_cons, mkS_nil, ↓reduceIte, eq_self', List.map_nil, beq_self_eq_true, Nat.reduceEqDiff, Nat.reduceAdd, Nat.succ_ne_self, vint, TyS, TyF, TBS, TBF, DcS, DcF, PfS, PfF, SyS, SyF, RsS, RsF]
      · -- case
        have hx : decide (s.par < 0) = false := decide_eq_false h
        have hx2 : decide (s.par ≥ (c.r.syms.length : Int)) = true := decide_eq_true h5
        have hT : traitIx c.r.syms a = -1 := by unfold traitIx; rw [gd, if_neg hk1, if_pos (Or.inl (by omega))]
        -- region 4
        repeat (refine awp_seq ?_)
        refine awp_region ?_
        refine aops_gstart ?_
        refine g_take 19 (by simp only [gsq, gs0, gs1, gs2, gcond, gop, SG, Op.operands, Call.operands, Array.toList_append, aop, abin, ajust, afldAddr, aload, abuiltin, LS, SS, SX, HS, mkS_cons, mkS_nil, ↓reduceIte, eq_self', List.map_nil, beq_self_eq_true, Nat.reduceEqDiff, Nat.reduceAdd, Nat.reduceMul, Nat.reduceLT, Nat.reduceLeDiff, Nat.reducePow, Nat.reduceDiv, Nat.reduceMod, Nat.succ_ne_self, Nat.reduceBEq, Nat.reduceBNe, Tryti3, Trytz3, Trytp3, Trytk3, Tryti52, Tryte52, Trytz52, Trytp52, Tryti56, Trytf56, Trytz56, Trytp56, Tryti117, Trytf117, Trytz117, Trytp117, Tryti130, Trytf130, Trytz130, Trytp130, vint, TyS, TyF, TBS, TBF, DcS, DcF, PfS, PfF, SyS, SyF, RsS, RsF, q1, q0, hx, hx2, Bool.false_or, ga, gb, hx, hx2, Bool.false_or, Bool.true_or] <;> with_reducible rfl) (by decide) ?_
        refine aops_gskip (r := .tup []) (by simp only [acall, gcond, SG, Op.operands, Call.operands, Array.toList_append, LS, SS, SX, HS, mkS_cons, mkS_nil, ↓reduceIte, eq_self', List.map_nil, beq_self_eq_true, Nat.reduceEqDiff, Nat.reduceAdd, Nat.reduceMul, Nat.reduceLT, Nat.reduceLeDiff, Nat.reducePow, Nat.reduceDiv, Nat.reduceMod, Nat.succ_ne_self, Nat.reduceBEq, Nat.reduceBNe, vint, TyS, TyF, TBS, TBF, DcS, DcF, PfS, PfF, SyS, SyF, RsS, RsF, hx, hx2, Bool.true_or, Bool.or_true, Bool.false_or, Bool.not_true, Bool.not_false, q1, q0, ga, gb] <;> with_reducible rfl) ?_
        refine aops_gskip (r := .tup []) (by simp only [acall, gcond, SG, Op.operands, Call.operands, Array.toList_append, LS, SS, SX, HS, mkS_cons, mkS_nil, ↓reduceIte, eq_self', List.map_nil, beq_self_eq_true, Nat.reduceEqDiff, Nat.reduceAdd, Nat.reduceMul, Nat.reduceLT, Nat.reduceLeDiff, Nat.reducePow, Nat.reduceDiv, Nat.reduceMod, Nat.succ_ne_self, Nat.reduceBEq, Nat.reduceBNe, vint, TyS, TyF, TBS, TBF, DcS, DcF, PfS, PfF, SyS, SyF, RsS, RsF, hx, hx2, Bool.true_or, Bool.or_true, Bool.false_or, Bool.not_true, Bool.not_false, q1, q0, ga, gb] <;> with_reducible rfl) ?_
        refine aops_gskip (r := .tup []) (by simp only [acall, gcond, SG, Op.operands, Call.operands, Array.toList_append, LS, SS, SX, HS, mkS_cons, mkS_nil, ↓reduceIte, eq_self', List.map_nil, beq_self_eq_true, Nat.reduceEqDiff, Nat.reduceAdd, Nat.reduceMul, Nat.reduceLT, Nat.reduceLeDiff, Nat.reducePow, Nat.reduceDiv, Nat.reduceMod, Nat.succ_ne_self, Nat.reduceBEq, Nat.reduceBNe, vint, TyS, TyF, TBS, TBF, DcS, DcF, PfS, PfF, SyS, SyF, RsS, RsF, hx, hx2, Bool.true_or, Bool.or_true, Bool.false_or, Bool.not_true, Bool.not_false, q1, q0, ga, gb] <;> with_reducible rfl) ?_
        refine aops_gskip (r := .tup []) (by simp only [acall, gcond, SG, Op.operands, Call.operands, Array.toList_append, LS, SS, SX, HS, mkS_cons, mkS_nil, ↓reduceIte, eq_self', List.map_nil, beq_self_eq_true, Nat.reduceEqDiff, Nat.reduceAdd, Nat.reduceMul, Nat.reduceLT, Nat.reduceLeDiff, Nat.reducePow, Nat.reduceDiv, Nat.reduceMod, Nat.succ_ne_self, Nat.reduceBEq, Nat.reduceBNe, vint, TyS, TyF, TBS, TBF, DcS, DcF, PfS, PfF, SyS, SyF, RsS, RsF, hx, hx2, Bool.true_or, Bool.or_true, Bool.false_or, Bool.not_true, Bool.not_false, q1, q0, ga, gb] <;> with_reducible rfl) ?_
        refine g_end (by simp only [gsq, gs0, gs1, gs2, gcond, gop, SG, Op.operands, Call.operands, Array.toList_append, aop, LS, SS, SX, HS, mkS_cons, mkS_nil, ↓reduceIte, eq_self', List.map_nil, beq_self_eq_true, Nat.reduceEqDiff, Nat.reduceAdd, Nat.reduceMul, Nat.reduceLT, Nat.reduceLeDiff, Nat.reducePow, Nat.reduceDiv, Nat.reduceMod, Nat.succ_ne_self, Nat.reduceBEq, Nat.reduceBNe, vint, TyS, TyF, TBS, TBF, DcS, DcF, PfS, PfF, SyS, SyF, RsS, RsF, q1, q0, hx, hx2, Bool.false_or, ga, gb, hx, hx2, Bool.false_or, Bool.true_or] <;> with_reducible rfl) (by decide) (by repeat (first | exact Fin.base _ | with_reducible apply Fin.keep | apply Fin.drop)) ?_
        repeat (refine awp_seq ?_)
        refine awp_cond_true rfl (by simp only [LS, SS, SX, HS, mkS_cons, mkS_nil, ↓reduceIte, eq_self', List.map_nil, beq_self_eq_true, Nat.reduceEqDiff, Nat.reduceAdd, Nat.succ_ne_self, vint, TyS, TyF, TBS, TBF, DcS, DcF, PfS, PfF, SyS, SyF, RsS, RsF, q1, q0, hx, hx2, Bool.false_or, ga, gb, hx, hx2, Bool.false_or, Bool.true_or] <;> with_reducible rfl) ?_
        refine awp_sel [] (by simp only [LS, SS, SX, HS, mkS_cons, mkS_nil, ↓reduceIte, eq_self', List.map_nil, beq_self_eq_true, Nat.reduceEqDiff, Nat.reduceAdd, Nat.succ_ne_self, vint, TyS, TyF, TBS, TBF, DcS, DcF, PfS, PfF, SyS, SyF, RsS, RsF, q1, q0, hx, hx2, Bool.false_or, ga, gb, hx, hx2, Bool.false_or, Bool.true_or] <;> with_reducible rfl) ?_
        -- region 5
        repeat (refine awp_seq ?_)
        refine e_eval (by simp only [asq, as0, as1, as2, awanted, aop, LS, SS, SX, HS, mkS_cons, mkS_nil, ↓reduceIte, eq_self', List.map_nil, beq_self_eq_true, Nat.reduceEqDiff, Nat.reduceAdd, Nat.reduceMul, Nat.reduceLT, Nat.reduceLeDiff, Nat.reducePow, Nat.reduceDiv, Nat.reduceMod, Nat.succ_ne_self, Nat.reduceBEq, Nat.reduceBNe, vint, TyS, TyF, TBS, TBF, DcS, DcF, PfS, PfF, SyS, SyF, RsS, RsF, q1, q0, hx, hx2, Bool.false_or, ga, gb, hx, hx2, Bool.false_or, Bool.true_or] <;> with_reducible rfl) (by decide) ?_
        repeat (refine awp_seq ?_)
        -- leaf 4 ret
        refine awp_ret ⟨.inr rfl, _, _, rfl, ?_, (by first | exact (List.append_nil _).symm | rfl)⟩
        rw [hT]
        simp only [LS, SS, SX, HS, mkS_cons, mkS_nil, ↓reduceIte, eq_self', List.map_nil, beq_self_eq_true, Nat.reduceEqDiff, Nat.reduceAdd, Nat.succ_ne_self, vint, TyS, TyF, TBS, TBF, DcS, DcF, PfS, PfF, SyS, SyF, RsS, RsF]
      · -- case
        have hx : decide (s.par < 0) = false := decide_eq_false (by omega)
        have hx2 : decide (s.par ≥ (c.r.syms.length : Int)) = false := decide_eq_false (by omega)
        have ka : ((0 : Int) ≤ s.par ∧ s.par < (c.r.syms).length) = True := by simp; omega
        have kl : (s.par).toNat < (c.r.syms).length := by omega
        obtain ⟨p, pe⟩ : ∃ z_, (c.r.syms)[(s.par).toNat] = z_ := ⟨_, rfl⟩
        have kb := get_enc Sy.enc kl
        rw [pe] at kb
        have kd : (c.r.syms).getD (s.par).toNat .zero = p := by rw [List.getD_eq_getElem?_getD, List.getElem?_eq_getElem kl, pe]; rfl
        -- region 4
        repeat (refine awp_seq ?_)
        refine g_eval (by simp only [gsq, gs0, gs1, gs2, gcond, gop, SG, Op.operands, Call.operands, Array.toList_append, aop, abin, ajust, afldAddr, aload, abuiltin, aidxAddr, aidx, LS, SS, SX, HS, mkS_cons, mkS_nil, ↓reduceIte, eq_self', List.map_nil, beq_self_eq_true, Nat.reduceEqDiff, Nat.reduceAdd, Nat.reduceMul, Nat.reduceLT, Nat.reduceLeDiff, Nat.reducePow, Nat.reduceDiv, Nat.reduceMod, Nat.succ_ne_self, Nat.reduceBEq, Nat.reduceBNe, Tryti3, Trytz3, Trytp3, Trytk3, Tryti52, Tryte52, Trytz52, Trytp52, Tryti56, Trytf56, Trytz56, Trytp56, Tryti117, Trytf117, Trytz117, Trytp117, Tryti130, Trytf130, Trytz130, Trytp130, vint, TyS, TyF, TBS, TBF, DcS, DcF, PfS, PfF, SyS, SyF, RsS, RsF, q1, q0, hx, hx2, Bool.false_or, ga, gb, hx, hx2, Bool.false_or, ka, kb] <;> with_reducible rfl) (by decide) (by repeat (first | exact Fin.base _ | with_reducible apply Fin.keep | apply Fin.drop)) ?_
        repeat (refine awp_seq ?_)
        refine awp_cond rfl (by simp only [LS, SS, SX, HS, mkS_cons, mkS_nil, ↓reduceIte, eq_self', List.map_nil, beq_self_eq_true, Nat.reduceEqDiff, Nat.reduceAdd, Nat.succ_ne_self, vint, TyS, TyF, TBS, TBF, DcS, DcF, PfS, PfF, SyS, SyF, RsS, RsF, q1, q0, hx, hx2, Bool.false_or, ga, gb, hx, hx2, Bool.false_or, ka, kb] <;> with_reducible rfl) (fun b5 => ?_) (fun b5 => ?_)
        · -- if t62
          have hT : traitIx c.r.syms a = -1 := by unfold traitIx; rw [gd, if_neg hk1, kd, if_pos (Or.inr (by simpa using b5))]
          refine awp_sel [] (by simp only [LS, SS, SX, HS, mkS_cons, mkS_nil, ↓reduceIte, eq_self', List.map_nil, beq_self_eq_true, Nat.reduceEqDiff, Nat.reduceAdd, Nat.succ_ne_self, vint, TyS, TyF, TBS, TBF, DcS, DcF, PfS, PfF, SyS, SyF, RsS, RsF, q1, q0, hx, hx2, Bool.false_or, ga, gb, hx, hx2, Bool.false_or, ka, kb] <;> with_reducible rfl) ?_
          -- region 5
          repeat (refine awp_seq ?_)
          refine e_eval (by simp only [asq, as0, as1, as2, awanted, aop, LS, SS, SX, HS, mkS_cons, mkS_nil, ↓reduceIte, eq_self', List.map_nil, beq_self_eq_true, Nat.reduceEqDiff, Nat.reduceAdd, Nat.reduceMul, Nat.reduceLT, Nat.reduceLeDiff, Nat.reducePow, Nat.reduceDiv, Nat.reduceMod, Nat.succ_ne_self, Nat.reduceBEq, Nat.reduceBNe, vint, TyS, TyF, TBS, TBF, DcS, DcF, PfS, PfF, SyS, SyF, RsS, RsF, q1, q0, hx, hx2, Bool.false_or, ga, gb, hx, hx2, Bool.false_or, ka, kb] <;> with_reducible rfl) (by decide) ?_
          repeat (refine awp_seq ?_)
          -- leaf 5 ret
          refine awp_ret ⟨.inr rfl, _, _, rfl, ?_, (by first | exact (List.append_nil _).symm | rfl)⟩
          rw [hT]
          simp only [LS, SS, SX, HS, mkS_cons, mkS_nil, ↓reduceIte, eq_self', List.map_nil, beq_self_eq_true, Nat.reduceEqDiff, Nat.reduceAdd, Nat.succ_ne_self, vint, TyS, TyF, TBS, TBF, DcS, DcF, PfS, PfF, SyS, SyF, RsS, RsF]
        · -- else t62
          have hT : traitIx c.r.syms a = s.par := by unfold traitIx; rw [gd, if_neg hk1, kd, if_neg (by simp at b5; simp [b5]; omega)]
          repeat (refine awp_seq ?_)
          refine awp_skip ?_
          refine awp_sel [5] (by simp only [LS, SS, SX, HS, mkS_cons, mkS_nil, ↓reduceIte, eq_self', List.map_nil, beq_self_eq_true, Nat.reduceEqDiff, Nat.reduceAdd, Nat.succ_ne_self, vint, TyS, TyF, TBS, TBF, DcS, DcF, PfS, PfF, SyS, SyF, RsS, RsF, q1, q0, hx, hx2, Bool.false_or, ga, gb, hx, hx2, Bool.false_or, ka, kb] <;> with_reducible rfl) ?_
          -- region 6
          repeat (refine awp_seq ?_)
          refine e_eval (by simp only [asq, as0, as1, as2, awanted, aop, LS, SS, SX, HS, mkS_cons, mkS_nil, ↓reduceIte, eq_self', List.map_nil, beq_self_eq_true, Nat.reduceEqDiff, Nat.reduceAdd, Nat.reduceMul, Nat.reduceLT, Nat.reduceLeDiff, Nat.reducePow, Nat.reduceDiv, Nat.reduceMod, Nat.succ_ne_self, Nat.reduceBEq, Nat.reduceBNe, vint, TyS, TyF, TBS, TBF, DcS, DcF, PfS, PfF, SyS, SyF, RsS, RsF, q1, q0, hx, hx2, Bool.false_or, ga, gb, hx, hx2, Bool.false_or, ka, kb] <;> with_reducible rfl) (by decide) ?_
          repeat (refine awp_seq ?_)
          -- leaf 6 ret
          refine awp_ret ⟨.inr rfl, _, _, rfl, ?_, (by first | exact (List.append_nil _).symm | rfl)⟩
          rw [hT]
          simp only [LS, SS, SX, HS, mkS_cons, mkS_nil, ↓reduceIte, eq_self', List.map_nil, beq_self_eq_true, Nat.reduceEqDiff, Nat.reduceAdd, Nat.succ_ne_self, vint, TyS, TyF, TBS, TBF, DcS, DcF, PfS, PfF, SyS, SyF, RsS, RsF]

end Go.Abs
set_option linter.unusedVariables false
namespace Go.Abs
/-! Drawn regions in which nothing is laid: the order is of no account. -/
def NoEff (prev : Prev) : Prop := ∀ p ∈ prev, p.2.2 = []
theorem hapB_noeff {prev : Prev} (h : NoEff prev) (m : Nat) (rd : List Nat) : hapB m prev rd [] = true := by
  unfold hapB
  rw [List.all_eq_true]
  intro p hp
  rw [h p hp]; simp
theorem NoEff.app {prev : Prev} (h : NoEff prev) (k : Nat) (rd : List Nat) : NoEff (prev ++ [(k, rd, [])]) := by
  intro p hp
  rcases List.mem_append.1 hp with hp | hp
  · exact h p hp
  · rw [List.mem_singleton] at hp; rw [hp]
section
variable {P : Program} {N nb : Nat} {ops : Array Oper} {Q : Post}
def DP (P : Program) (N : Nat) (ops : Array Oper) (Q : Post) (k : Nat) (l : List Oper) (T : Slots) (H : Heap) : Prop := ∀ prev, NoEff prev → DOps P N ops (fun e T1 H1 => ∃ T2, (∀ i, T2 i = .junk ∨ T2 i = T1 i) ∧ Q e T2 H1) k l prev T H
theorem dp_draw {id : Nat} {T : Slots} {H : Heap} (hok : drawOk P ops.toList = true) (h : DP P N ops Q 0 ops.toList (msk (.tup []) T allG) H) : AWP P N nb (.region id ops true) Q T H := by
  refine awp_drawW 0 hok ?_
  have := h [] (by intro p hp; cases hp)
  simp only [List.replicate_zero, List.append_nil]
  exact this
def ps2 (o : Oper) (T : Slots) (G : Nat → Bool) (H : Heap) (c : Bool) : Option (PV × Eff) → Option (Slots × (Nat → Bool) × Heap)
  | some (v, none) => some (updO T o.dst v, ugO G o.dst c, H)
  | _ => none
def ps1 (P : Program) (o : Oper) (T : Slots) (G : Nat → Bool) (H : Heap) : Option Bool → Option (Slots × (Nat → Bool) × Heap)
  | some c => ps2 o T G H c (gop P H.length c T G H o.op)
  | none => none
def ps0 (P : Program) (N : Nat) (ops : List Oper) (o : Oper) : Option (Slots × (Nat → Bool) × Heap) → Option (Slots × (Nat → Bool) × Heap)
  | some (T, G, H) => ps1 P o T G H (gcond ops T G N o)
  | none => none
def psq (P : Program) (N : Nat) (ops : List Oper) : List Oper → Option (Slots × (Nat → Bool) × Heap) → Option (Slots × (Nat → Bool) × Heap)
  | [], s => s
  | o :: l, s => psq P N ops l (ps0 P N ops o s)
theorem psq_none : ∀ l, psq P N ops.toList l none = none
  | [] => rfl
  | o :: l => psq_none l
theorem dp_run : ∀ (l l2 : List Oper) (k : Nat) (T : Slots) (G : Nat → Bool) (H : Heap) {T' : Slots} {G' : Nat → Bool} {H' : Heap}, l.all (fun o => okOp N o.op) = true →
    psq P N ops.toList l (some (T, G, H)) = some (T', G', H') → (DP P N ops Q (k + l.length) l2 (msk (.tup []) T' G') H') → DP P N ops Q k (l ++ l2) (msk (.tup []) T G) H
  | [], l2, k, T, G, H, T', G', H', _, hs, h => by cases hs; exact h
  | o :: l, l2, k, T, G, H, T', G', H', hok, hs, h => by
    simp only [List.all_cons, Bool.and_eq_true] at hok
    simp only [psq, ps0] at hs
    cases hw : gcond ops.toList T G N o with
    | none => rw [hw] at hs; simp only [ps1, psq_none] at hs; cases hs
    | some c =>
      rw [hw] at hs
      simp only [ps1] at hs
      cases hg : gop P H.length c T G H o.op with
      | none => rw [hg] at hs; simp only [ps2, psq_none] at hs; cases hs
      | some r =>
        rw [hg] at hs
        obtain ⟨v, e⟩ := r
        cases e with
        | some e => simp only [ps2, psq_none] at hs; cases hs
        | none =>
          simp only [ps2] at hs
          intro prev hp
          refine dops_gstep (fresh := H.length) rfl hok.1 hw hg rfl (hapB_noeff hp _ _) ?_
          have := dp_run l l2 (k + 1) _ _ _ hok.2 hs (by rw [show k + 1 + l.length = k + (o :: l).length by simp only [List.length_cons]; omega]; exact h)
          exact this _ (hp.app _ _)
theorem dp_take (n : Nat) {l : List Oper} {k : Nat} {T T' : Slots} {G G' : Nat → Bool} {H H' : Heap} (hs : psq P N ops.toList (l.take n) (some (T, G, H)) = some (T', G', H'))
    (hok : (l.take n).all (fun o => okOp N o.op) = true) (h : DP P N ops Q (k + (l.take n).length) (l.drop n) (msk (.tup []) T' G') H') : DP P N ops Q k l (msk (.tup []) T G) H := by
  have := dp_run (l.take n) (l.drop n) k T G H hok hs h
  rwa [List.take_append_drop] at this
theorem dp_end {l : List Oper} {k : Nat} {T T' F : Slots} {G G' : Nat → Bool} {H H' : Heap} (hs : psq P N ops.toList l (some (T, G, H)) = some (T', G', H'))
    (hok : l.all (fun o => okOp N o.op) = true) (hf : Fin T' G' F) (h : Q .normal F H') : DP P N ops Q k l (msk (.tup []) T G) H := by
  have := dp_run l [] k T G H hok hs (Q := Q) (fun prev _ => dops_nil ⟨F, fun i => ?_, h⟩)
  · rwa [List.append_nil] at this
  · rcases hf.spec i with e | ⟨e1, e2⟩
    · exact .inl e
    · exact .inr (by simp only [msk, e1, if_true]; exact e2)
theorem dp_fin {k : Nat} {T F : Slots} {G : Nat → Bool} {H : Heap} (hf : Fin T G F) (h : Q .normal F H) : DP P N ops Q k [] (msk (.tup []) T G) H := dp_end (T' := T) (G' := G) (H' := H) rfl rfl hf h
theorem dp_keep {k : Nat} {o : Oper} {l : List Oper} {T : Slots} {G : Nat → Bool} {H : Heap} {c : Bool} {f : FuncId} {args : List PV} {r : PV} (hcall : acall T o.op = some (f, args)) (hc : gcond ops.toList T G N o = some c)
    (hg : o.op.operands.toList.all (gOk c G) = true) (hok : okOp N o.op = true) (hgo : goFn P f = true) (hp : c = true → ACalls P f args H fun r' H'' => r' = r ∧ H'' = H)
    (h : DP P N ops Q (k + 1) l (msk (.tup []) (updO T o.dst r) (ugO G o.dst c)) H) : DP P N ops Q k (o :: l) (msk (.tup []) T G) H := by
  intro prev hn
  cases c
  · rw [msk_put_false] at h
    exact dops_skipR [] (fun p hp => .inr ⟨by rw [hn p hp]; simp, by simp⟩) hc (h _ (hn.app _ _))
  · rw [msk_put_true] at h
    have hcall' := acall_msk (u := .tup []) hcall hg
    obtain ⟨fo, xs, ts, pf, pc, h1, h2, h3⟩ := acall_spec hcall'
    refine dops_call (eff := []) (rd := List.range H.length) h1 ((gcond_sound hc).1 rfl _) hok h2 hgo h3 (by simp) (fun H' hH hl => ?_) (fun p hp => .inr ⟨by rw [hn p hp]; simp, by simp⟩) (h _ (hn.app _ _))
    have he : H' = H := List.ext_getElem? fun i => by
      by_cases hi : i < H.length
      · exact hH i (List.mem_range.2 hi)
      · rw [List.getElem?_eq_none (by omega), List.getElem?_eq_none (by omega)]
    subst he
    exact hp rfl
end
end Go.Abs
set_option linter.unusedVariables false
set_option linter.unusedSimpArgs false
set_option maxRecDepth 4000
namespace Go.Abs
open Go.Proofs

theorem indexFuncSy {f : FuncId} {caps : List PV} {H : Heap} {us : List Sy} {p : Sy → Bool} (hc : CloB Try.prog Sy.enc f caps H us p) (hl : us.length ≤ maxLen) : ACalls Try.prog 147 [.slice (us.map Sy.enc) .none, .fn (.func f) [] caps] H fun r' H' => r' = vint (idxI p us) ∧ H' = H := by
  have hgo := hc.go
  refine keeps_of (N := 19) Try.func147 rfl rfl (by simp) (.int _ _) fun hb' => ?_
  -- region 0
  repeat (refine awp_seq ?_)
  refine e_eval (by simp only [asq, as0, as1, as2, awanted, aop, LS, SS, SX, HS, mkS_cons, mkS_nil, ↓reduceIte, eq_self', List.map_nil, beq_self_eq_true, Nat.reduceEqDiff, Nat.reduceAdd, Nat.reduceMul, Nat.reduceLT, Nat.reduceLeDiff, Nat.reducePow, Nat.reduceDiv, Nat.reduceMod, Nat.succ_ne_self, Nat.reduceBEq, Nat.reduceBNe, vint, TyS, TyF, TBS, TBF, DcS, DcF, PfS, PfF, SyS, SyF, RsS, RsF] <;> with_reducible rfl) (by decide) ?_
  -- region 1
  repeat (refine awp_seq ?_)
  refine e_eval (by simp only [asq, as0, as1, as2, awanted, aop, abuiltin, LS, SS, SX, HS, mkS_cons, mkS_nil, ↓reduceIte, eq_self', List.map_nil, beq_self_eq_true, Nat.reduceEqDiff, Nat.reduceAdd, Nat.reduceMul, Nat.reduceLT, Nat.reduceLeDiff, Nat.reducePow, Nat.reduceDiv, Nat.reduceMod, Nat.succ_ne_self, Nat.reduceBEq, Nat.reduceBNe, Tryti52, Tryte52, Trytz52, Trytp52, Tryti117, Trytf117, Trytz117, Trytp117, vint, TyS, TyF, TBS, TBF, DcS, DcF, PfS, PfF, SyS, SyF, RsS, RsF] <;> with_reducible rfl) (by decide) ?_
  repeat (refine awp_seq ?_)
  refine awp_forS (σ := Unit) (us.length) (fun (s : Unit) => [(0, .slice (us.map Sy.enc) .none), (1, .fn (.func f) [] caps)]) [0, 1] (H) (fun (s : Unit) => []) (fun (i : Nat) (s : Unit) => (us.take i).any p = false) (()) ([]) rfl rfl rfl rfl rfl rfl rfl rfl rfl (by decide) (by decide) (by decide) (fun _ => rfl) (hl) ⟨(by first | rfl | (simp only [LS, SS, SX, HS, mkS_cons, mkS_nil, ↓reduceIte, eq_self', List.map_nil, beq_self_eq_true, Nat.reduceEqDiff, Nat.reduceAdd, Nat.succ_ne_self, vint, TyS, TyF, TBS, TBF, DcS, DcF, PfS, PfF, SyS, SyF, RsS, RsF] <;> first | done | with_reducible rfl)), (by first | rfl | (simp only [LS, SS, SX, HS, mkS_cons, mkS_nil, ↓reduceIte, eq_self', List.map_nil, beq_self_eq_true, Nat.reduceEqDiff, Nat.reduceAdd, Nat.succ_ne_self, vint, TyS, TyF, TBS, TBF, DcS, DcF, PfS, PfF, SyS, SyF, RsS, RsF] <;> first | done | with_reducible rfl)), (by first | rfl | (simp only [LS, SS, SX, HS, mkS_cons, mkS_nil, ↓reduceIte, eq_self', List.map_nil, beq_self_eq_true, Nat.reduceEqDiff, Nat.reduceAdd, Nat.succ_ne_self, vint, TyS, TyF, TBS, TBF, DcS, DcF, PfS, PfF, SyS, SyF, RsS, RsF] <;> first | done | with_reducible rfl)), (by first | rfl | (simp only [LS, SS, SX, HS, mkS_cons, mkS_nil, ↓reduceIte, eq_self', List.map_nil, beq_self_eq_true, Nat.reduceEqDiff, Nat.reduceAdd, Nat.succ_ne_self, vint, TyS, TyF, TBS, TBF, DcS, DcF, PfS, PfF, SyS, SyF, RsS, RsF] <;> first | done | with_reducible rfl)), trivial⟩ (by first | rfl | (simp only [LS, SS, SX, HS, mkS_cons, mkS_nil, ↓reduceIte, eq_self', List.map_nil, beq_self_eq_true, Nat.reduceEqDiff, Nat.reduceAdd, Nat.succ_ne_self, vint, TyS, TyF, TBS, TBF, DcS, DcF, PfS, PfF, SyS, SyF, RsS, RsF] <;> first | done | with_reducible rfl)) (by simp) (fun _ _ _ => by first | exact Nat.zero_le _ | (simp only [List.length_append]; omega)) ?_ ?_ ?_
  · exact fun i s hg => ⟨by simp only [List.append_nil]; exact hb', .cons (bel_Sy _ _) (.cons (.fn _ _ _ (by simp) (fun c hc' => (hc.bel c hc').mono (by simp))) .nil)⟩
  · intro i s hi hg
    have g1 := ix_nat hi
    have g2 := get_enc Sy.enc hi
    -- region 3
    repeat (refine awp_seq ?_)
    refine e_eval (by simp only [asq, as0, as1, as2, awanted, aop, LS, SS, SX, HS, mkS_cons, mkS_nil, ↓reduceIte, eq_self', List.map_nil, beq_self_eq_true, Nat.reduceEqDiff, Nat.reduceAdd, Nat.reduceMul, Nat.reduceLT, Nat.reduceLeDiff, Nat.reducePow, Nat.reduceDiv, Nat.reduceMod, Nat.succ_ne_self, Nat.reduceBEq, Nat.reduceBNe, vint, TyS, TyF, TBS, TBF, DcS, DcF, PfS, PfF, SyS, SyF, RsS, RsF, g1, Int.toNat_natCast, g2] <;> with_reducible rfl) (by decide) ?_
    -- region 4
    repeat (refine awp_seq ?_)
    refine awp_region ?_
    refine e_take 5 (by simp only [asq, as0, as1, as2, awanted, aop, aidxAddr, aidx, ajust, aload, LS, SS, SX, HS, mkS_cons, mkS_nil, ↓reduceIte, eq_self', List.map_nil, beq_self_eq_true, Nat.reduceEqDiff, Nat.reduceAdd, Nat.reduceMul, Nat.reduceLT, Nat.reduceLeDiff, Nat.reducePow, Nat.reduceDiv, Nat.reduceMod, Nat.succ_ne_self, Nat.reduceBEq, Nat.reduceBNe, Tryti52, Tryte52, Trytz52, Trytp52, Tryti117, Trytf117, Trytz117, Trytp117, vint, TyS, TyF, TBS, TBF, DcS, DcF, PfS, PfF, SyS, SyF, RsS, RsF, g1, Int.toNat_natCast, g2] <;> with_reducible rfl) (by decide) ?_
    refine aops_pure (by simp only [acall, awanted, LS, SS, SX, HS, mkS_cons, mkS_nil, ↓reduceIte, eq_self', List.map_nil, beq_self_eq_true, Nat.reduceEqDiff, Nat.reduceAdd, Nat.reduceMul, Nat.reduceLT, Nat.reduceLeDiff, Nat.reducePow, Nat.reduceDiv, Nat.reduceMod, Nat.succ_ne_self, Nat.reduceBEq, Nat.reduceBNe, vint, TyS, TyF, TBS, TBF, DcS, DcF, PfS, PfF, SyS, SyF, RsS, RsF, g1, Int.toNat_natCast, g2] <;> with_reducible rfl) (by simp only [acall, awanted, LS, SS, SX, HS, mkS_cons, mkS_nil, ↓reduceIte, eq_self', List.map_nil, beq_self_eq_true, Nat.reduceEqDiff, Nat.reduceAdd, Nat.reduceMul, Nat.reduceLT, Nat.reduceLeDiff, Nat.reducePow, Nat.reduceDiv, Nat.reduceMod, Nat.succ_ne_self, Nat.reduceBEq, Nat.reduceBNe, vint, TyS, TyF, TBS, TBF, DcS, DcF, PfS, PfF, SyS, SyF, RsS, RsF, g1, Int.toNat_natCast, g2]) (by decide) (by assumption) (hc.call _ (List.getElem_mem hi)) ?_
    refine aops_nil ?_
    repeat (refine awp_seq ?_)
    refine awp_cond rfl (by simp only [LS, SS, SX, HS, mkS_cons, mkS_nil, ↓reduceIte, eq_self', List.map_nil, beq_self_eq_true, Nat.reduceEqDiff, Nat.reduceAdd, Nat.succ_ne_self, vint, TyS, TyF, TBS, TBF, DcS, DcF, PfS, PfF, SyS, SyF, RsS, RsF, g1, Int.toNat_natCast, g2] <;> with_reducible rfl) (fun b0 => ?_) (fun b0 => ?_)
    · -- if t16
      -- region 5
      repeat (refine awp_seq ?_)
      refine e_eval (by simp only [asq, as0, as1, as2, awanted, aop, LS, SS, SX, HS, mkS_cons, mkS_nil, ↓reduceIte, eq_self', List.map_nil, beq_self_eq_true, Nat.reduceEqDiff, Nat.reduceAdd, Nat.reduceMul, Nat.reduceLT, Nat.reduceLeDiff, Nat.reducePow, Nat.reduceDiv, Nat.reduceMod, Nat.succ_ne_self, Nat.reduceBEq, Nat.reduceBNe, vint, TyS, TyF, TBS, TBF, DcS, DcF, PfS, PfF, SyS, SyF, RsS, RsF, g1, Int.toNat_natCast, g2] <;> with_reducible rfl) (by decide) ?_
      repeat (refine awp_seq ?_)
      -- leaf 0 ret
      refine awp_ret ⟨.inr rfl, _, _, rfl, ?_, (by first | exact (List.append_nil _).symm | rfl)⟩
      rw [idxI_at hi b0 hg]; rfl
    · -- else t16
      repeat (refine awp_seq ?_)
      refine awp_skip ?_
      -- leaf 1 next0
      exact ⟨⟨rfl, rfl, trivial⟩, (), [], ⟨rfl, rfl, trivial⟩, by simp only [List.append_nil], any_take_succ hi hg b0⟩
  · intro s hg
    rw [List.take_length] at hg
    -- region 7
    repeat (refine awp_seq ?_)
    refine e_eval (by simp only [asq, as0, as1, as2, awanted, aop, LS, SS, SX, HS, mkS_cons, mkS_nil, ↓reduceIte, eq_self', List.map_nil, beq_self_eq_true, Nat.reduceEqDiff, Nat.reduceAdd, Nat.reduceMul, Nat.reduceLT, Nat.reduceLeDiff, Nat.reducePow, Nat.reduceDiv, Nat.reduceMod, Nat.succ_ne_self, Nat.reduceBEq, Nat.reduceBNe, vint, TyS, TyF, TBS, TBF, DcS, DcF, PfS, PfF, SyS, SyF, RsS, RsF] <;> with_reducible rfl) (by decide) ?_
    repeat (refine awp_seq ?_)
    -- leaf 2 ret
    refine awp_ret ⟨.inr rfl, _, _, rfl, ?_, (by first | exact (List.append_nil _).symm | rfl)⟩
    rw [idxI_none hg]; rfl

theorem memP1 (c : NC) (b : Bool) (p : Pf) (u : Ty) (H : Heap) (im i1 i2 i3 : Nat) (h0 : H[im]? = some (c.row b)) (h1 : H[i1]? = some (.row p.enc.cells)) (h2 : H[i2]? = some (.row [.optr im 0])) (h3 : H[i3]? = some (.row u.enc.cells)) (hu : 0 ≤ u.id ∧ u.id < c.r.syms.length) (s : Sy) :
    ACalls Try.prog 148 [s.enc, .optr i1 0, .optr i2 0, .optr i3 0] H fun r' H' => r' = .bool (memP p.im (c.r.syms.getD u.id.toNat .zero).name s) ∧ H' = H := by
  simp only [PfS, TyS] at h1 h3
  have l1 := len_of_get h1
  have l2 := len_of_get h2
  have l3 := len_of_get h3
  have l0 := len_of_get h0
  have q0 : ∀ L, (H ++ L)[im]? = some (.row [.slice (c.r.syms.map Sy.enc) .none, .slice (c.r.refs.map Rf.enc) .none, .slice (c.r.dgs.map Dg.enc) .none, .slice (c.ds.map Dc.enc) .none, .slice (c.sas.map TB.enc) .none, .bool b]) := fun L => by rw [List.getElem?_append_left l0]; exact h0
  have q1 : ∀ L, (H ++ L)[i1]? = some (.row [.int .i64 p.t.kind, .int .i64 p.t.id, .slice (p.t.args.map Ty.enc) .none, .int .i64 p.tr, .int .i64 p.im, .int .i64 p.bd, .slice (p.args.map Ty.enc) .none, .slice (p.prems.map Pf.enc) .none]) := fun L => by rw [List.getElem?_append_left l1]; exact h1
  have q2 : ∀ L, (H ++ L)[i2]? = some (.row [.optr im 0]) := fun L => by rw [List.getElem?_append_left l2]; exact h2
  have q3 : ∀ L, (H ++ L)[i3]? = some (.row [.int .i64 u.kind, .int .i64 u.id, .slice (u.args.map Ty.enc) .none]) := fun L => by rw [List.getElem?_append_left l3]; exact h3
  have ga : ((0 : Int) ≤ u.id ∧ u.id < (c.r.syms).length) = True := by simp; omega
  have gl : (u.id).toNat < (c.r.syms).length := by omega
  obtain ⟨v, ve⟩ : ∃ z_, (c.r.syms)[(u.id).toNat] = z_ := ⟨_, rfl⟩
  have gb := get_enc Sy.enc gl
  rw [ve] at gb
  have gd : (c.r.syms).getD (u.id).toNat .zero = v := by rw [List.getD_eq_getElem?_getD, List.getElem?_eq_getElem gl, ve]; rfl
  refine keeps_of (N := 31) Try.func148 rfl rfl (by simp) (.bool _) fun hb' => ?_
  -- region 0
  repeat (refine awp_seq ?_)
  refine e_eval (by simp only [asq, as0, as1, as2, awanted, aop, LS, SS, SX, HS, mkS_cons, mkS_nil, ↓reduceIte, eq_self', List.map_nil, beq_self_eq_true, Nat.reduceEqDiff, Nat.reduceAdd, Nat.reduceMul, Nat.reduceLT, Nat.reduceLeDiff, Nat.reducePow, Nat.reduceDiv, Nat.reduceMod, Nat.succ_ne_self, Nat.reduceBEq, Nat.reduceBNe, Tryti117, Trytf117, Trytz117, Trytp117, vint, TyS, TyF, TBS, TBF, DcS, DcF, PfS, PfF, SyS, SyF, RsS, RsF, q0, q1, q2, q3, ga, gb] <;> with_reducible rfl) (by decide) ?_
  -- region 1
  repeat (refine awp_seq ?_)
  refine dp_draw (by kernel_rfl) ?_
  refine dp_end (by simp only [psq, ps0, ps1, ps2, gcond, gop, SG, Op.operands, Call.operands, Array.toList_append, aop, afldAddr, ajust, aload, abin, aidxAddr, aidx, LS, SS, SX, HS, mkS_cons, mkS_nil, ↓reduceIte, eq_self', List.map_nil, beq_self_eq_true, Nat.reduceEqDiff, Nat.reduceAdd, Nat.reduceMul, Nat.reduceLT, Nat.reduceLeDiff, Nat.reducePow, Nat.reduceDiv, Nat.reduceMod, Nat.succ_ne_self, Nat.reduceBEq, Nat.reduceBNe, Tryti3, Trytz3, Trytp3, Trytk3, Tryti9, Trytz9, Trytp9, Tryts9, Tryti24, Trytf24, Trytz24, Trytp24, Tryti52, Tryte52, Trytz52, Trytp52, Tryti56, Trytf56, Trytz56, Trytp56, Tryti63, Trytf63, Trytz63, Trytp63, Tryti117, Trytf117, Trytz117, Trytp117, Tryti128, Trytz128, Trytp128, Tryti130, Trytf130, Trytz130, Trytp130, vint, TyS, TyF, TBS, TBF, DcS, DcF, PfS, PfF, SyS, SyF, RsS, RsF, q0, q1, q2, q3, ga, gb] <;> with_reducible rfl) (by decide) (by repeat (first | exact Fin.base _ | with_reducible apply Fin.keep | apply Fin.drop)) ?_
  repeat (refine awp_seq ?_)
  -- leaf 0 ret
  refine awp_ret ⟨.inr rfl, _, _, rfl, ?_, (by first | exact (List.append_nil _).symm | rfl)⟩
  rw [gd]
  simp only [LS, SS, SX, HS, mkS_cons, mkS_nil, ↓reduceIte, eq_self', List.map_nil, beq_self_eq_true, Nat.reduceEqDiff, Nat.reduceAdd, Nat.succ_ne_self, vint, TyS, TyF, TBS, TBF, DcS, DcF, PfS, PfF, SyS, SyF, RsS, RsF]
  rfl

end Go.Abs
set_option linter.unusedVariables false
set_option linter.unusedSimpArgs false
namespace Go.Abs
def showD : List Dc := [⟨[], .mk 0 0 [], -1, [], []⟩, ⟨[], .mk 3 0 [], 0, [], []⟩, ⟨[3], .mk 7 9 [.mk 2 3 []], 0, [⟨.mk 2 3 [], 0⟩], []⟩]
def showP (n : Nat) : Pf := match n with
  | 0 => .mk (.mk 3 0 []) 0 1 (-1) [] []
  | n + 1 => .mk (.mk 0 0 []) 0 0 0 [] []
theorem idx_none (f : TB → Bool) : idxI f [] = -1 := rfl
theorem impl_int : implIx showD (.mk 3 0 []) 0 = 1 := by
  simp [implIx, showD, idxI, List.findIdx?_cons, implP, matchP, matchT, Ty.kind, Ty.id, Ty.args, mS0, matchL, cpar]
theorem impl_bool : implIx showD (.mk 4 0 []) 0 = -1 := by
  simp [implIx, showD, idxI, List.findIdx?_cons, implP, matchP, matchT, Ty.kind, Ty.id, Ty.args, mS0, matchL, cpar]
theorem impl_list (u : Ty) : implIx showD (.mk 7 9 [u]) 0 = 2 := by
  simp [implIx, showD, idxI, List.findIdx?_cons, implP, matchP, matchT, Ty.kind, Ty.id, Ty.args, mS0, matchL, cpar]
theorem args_int : implAs showD (.mk 3 0 []) 0 = [] := by
  unfold implAs implD; rw [impl_int]; simp [showD, matchP, matchT, Ty.kind, Ty.id, Ty.args, mS0, matchL]
theorem args_list (u : Ty) : implAs showD (.mk 7 9 [u]) 0 = [u] := by
  unfold implAs implD; rw [impl_list]; simp [showD, matchP, matchT, Ty.kind, Ty.id, Ty.args, mS0, matchL, idxI, List.findIdx?_cons]
theorem app_p (u : Ty) : mapT (appG [3] [u]) (.mk 2 3 []) = u := by
  rw [mapT_eq]; simp [appG, Ty.kind, Ty.id, idxI, List.findIdx?_cons]
theorem solve_int (n : Nat) : solveT showD [] (n + 1) (.mk 3 0 []) 0 = (.mk (.mk 3 0 []) 0 1 (-1) [] [], true) := by
  rw [solveT]; simp [impl_int, args_int, idx_none, Ty.kind, implD]; simp [showD]
theorem solve_bool (n : Nat) : (solveT showD [] n (.mk 4 0 []) 0).2 = false := by
  cases n with
  | zero => rfl
  | succ n => rw [solveT]; simp [impl_bool, idx_none, Ty.kind]
theorem solve_list (n : Nat) (u : Ty) : solveT showD [] (n + 1) (.mk 7 9 [u]) 0 = if (solveT showD [] n u 0).2 = true then (.mk (.mk 7 9 [u]) 0 2 (-1) [u] [(solveT showD [] n u 0).1], true) else (.zero, false) := by
  have hD : implD showD (.mk 7 9 [u]) 0 = ⟨[3], .mk 7 9 [.mk 2 3 []], 0, [⟨.mk 2 3 [], 0⟩], []⟩ := by unfold implD; rw [impl_list]; rfl
  rw [solveT]; simp [impl_list, args_list, idx_none, Ty.kind, hD, app_p]
theorem solve_show : solveT showD [] 8 (.mk 7 9 [.mk 7 9 [.mk 3 0 []]]) 0 = (.mk (.mk 7 9 [.mk 7 9 [.mk 3 0 []]]) 0 2 (-1) [.mk 7 9 [.mk 3 0 []]] [.mk (.mk 7 9 [.mk 3 0 []]) 0 2 (-1) [.mk 3 0 []] [.mk (.mk 3 0 []) 0 1 (-1) [] []]], true) := by
  rw [solve_list, solve_list, solve_int]; simp
theorem solve_wrong : (solveT showD [] 8 (.mk 7 9 [.mk 4 0 []]) 0).2 = false := by
  rw [solve_list]; simp [solve_bool]
theorem showD_W : ∀ d ∈ showD, d.W ∧ d.ps.length * 40 ≤ 2 ^ 47 := by
  intro d hd
  simp only [showD, List.mem_cons, List.not_mem_nil, or_false] at hd
  rcases hd with rfl | rfl | rfl <;> simp [Dc.W, Ty.W_iff, TB.W]
theorem show_P : checkT showD [] 4 (.mk (.mk 7 9 [.mk 7 9 [.mk 3 0 []]]) 0 2 (-1) [.mk 7 9 [.mk 3 0 []]] [.mk (.mk 7 9 [.mk 3 0 []]) 0 2 (-1) [.mk 3 0 []] [.mk (.mk 3 0 []) 0 1 (-1) [] []]]) = true := by
  have := solve_check showD [] 8 (.mk 7 9 [.mk 7 9 [.mk 3 0 []]]) 0 4 (by simp [Ty.W_iff]) (fun d hd => (showD_W d hd).1)
  rw [solve_show] at this
  exact this rfl (by simp [Pf.size, pfSizes])
end Go.Abs
