/- Part 5 of a proof of the law NormalizeMatchesReference: Go data as trees, the walks of the functions that the law reaches, the plain laws. -/
import Derived.Test.YtmjoonaejldkhaaGDNormalizeMatchesReference
set_option linter.unusedVariables false
set_option linter.unusedSimpArgs false
set_option maxRecDepth 4000
namespace Go.Abs
/-- api.Symbol, as data. -/
structure Sy where
  kind : Int
  mod : Int
  st : Int
  par : Int
  name : List UInt8
  pub : Bool
def Sy.enc (t : Sy) : PV := .agg [.int .i64 t.kind, .int .i64 t.mod, .int .i64 t.st, .int .i64 t.par, .str t.name, .bool t.pub]
theorem Sy.enc_eq (t : Sy) : t.enc = .agg [.int .i64 t.kind, .int .i64 t.mod, .int .i64 t.st, .int .i64 t.par, .str t.name, .bool t.pub] := rfl
theorem Sy.enc_cells (t : Sy) : t.enc.cells = [.int .i64 t.kind, .int .i64 t.mod, .int .i64 t.st, .int .i64 t.par, .str t.name, .bool t.pub] := rfl
theorem Sy.eta (t : Sy) : Sy.mk t.kind t.mod t.st t.par t.name t.pub = t := rfl
theorem Sy.enc_drop1 (t : Sy) : t.enc.drop1 = t.enc := by rw [Sy.enc_eq]; rfl
theorem Sy.enc_drop0 (t : Sy) : t.enc.drop0 = t.enc := by rw [Sy.enc_eq]; rfl
theorem Sy.enc_len (t : Sy) : t.enc.cells.length = 6 := by rw [Sy.enc_cells]; rfl
theorem Sy.enc_junk (t : Sy) : t.enc.isJunk = false := by rw [Sy.enc_eq]; rfl
theorem Sy.enc_agg (t : Sy) : PV.agg t.enc.cells = t.enc := by rw [Sy.enc_cells, Sy.enc_eq]
theorem Sy.bel (n : Nat) (t : Sy) : Bel n t.enc := .agg _ (by
  intro c hc
  simp only [List.mem_cons, List.not_mem_nil, or_false] at hc
  rcases hc with rfl | rfl | rfl | rfl | rfl | rfl
  · exact .int _ _
  · exact .int _ _
  · exact .int _ _
  · exact .int _ _
  · exact .str _
  · exact .bool _)
theorem bel_Sy (n : Nat) (us : List Sy) : Bel n (.slice (us.map Sy.enc) .none) := .slice _ _ (fun e he c hc => by
  obtain ⟨b, _, rfl⟩ := List.mem_map.1 he
  have := Sy.bel n b
  rw [Sy.enc_eq] at this hc
  cases this with | agg _ h => exact h c hc) (by simp)
theorem bel_Sy_tok {n id : Nat} (us : List Sy) (h : id < n) : Bel n (.slice (us.map Sy.enc) (.tok id)) := by
  have := bel_Sy n us
  cases this with
  | slice _ _ h1 h2 => exact .slice _ _ h1 (fun _ e => by cases e; exact h)
/-- Rules. -/
theorem SyS : (∀ t : Sy, t.enc.cells = [.int .i64 t.kind, .int .i64 t.mod, .int .i64 t.st, .int .i64 t.par, .str t.name, .bool t.pub]) ∧ (∀ t : Sy, t.enc.isJunk = false) ∧ (∀ t : Sy, t.enc.drop1 = t.enc) ∧ (∀ t : Sy, t.enc.drop0 = t.enc) ∧ (∀ (t : Sy) (b : Nat), t.enc.fits ⟨true, 6, b⟩ = true) :=
  ⟨Sy.enc_cells, Sy.enc_junk, Sy.enc_drop1, Sy.enc_drop0, fun t b => by rw [Sy.enc_eq]; rfl⟩
theorem SyF : (∀ (kind : Int) (mod : Int) (st : Int) (par : Int) (name : List UInt8) (pub : Bool), PV.agg [.int .i64 kind, .int .i64 mod, .int .i64 st, .int .i64 par, .str name, .bool pub] = (Sy.mk kind mod st par name pub).enc) ∧
    (∀ t : Sy, Sy.mk t.kind t.mod t.st t.par t.name t.pub = t) ∧
    (∀ (kind : Int) (mod : Int) (st : Int) (par : Int) (name : List UInt8) (pub : Bool), (Sy.mk kind mod st par name pub).kind = kind) ∧
    (∀ (kind : Int) (mod : Int) (st : Int) (par : Int) (name : List UInt8) (pub : Bool), (Sy.mk kind mod st par name pub).mod = mod) ∧
    (∀ (kind : Int) (mod : Int) (st : Int) (par : Int) (name : List UInt8) (pub : Bool), (Sy.mk kind mod st par name pub).st = st) ∧
    (∀ (kind : Int) (mod : Int) (st : Int) (par : Int) (name : List UInt8) (pub : Bool), (Sy.mk kind mod st par name pub).par = par) ∧
    (∀ (kind : Int) (mod : Int) (st : Int) (par : Int) (name : List UInt8) (pub : Bool), (Sy.mk kind mod st par name pub).name = name) ∧
    (∀ (kind : Int) (mod : Int) (st : Int) (par : Int) (name : List UInt8) (pub : Bool), (Sy.mk kind mod st par name pub).pub = pub) :=
  ⟨fun kind mod st par name pub => (Sy.enc_eq (Sy.mk kind mod st par name pub)).symm, Sy.eta, fun _ _ _ _ _ _ => rfl, fun _ _ _ _ _ _ => rfl, fun _ _ _ _ _ _ => rfl, fun _ _ _ _ _ _ => rfl, fun _ _ _ _ _ _ => rfl, fun _ _ _ _ _ _ => rfl⟩
/-- No list is longer than the rows bear. -/
def Sy.W (t : Sy) : Prop := t.name.length ≤ 2 ^ 47
theorem app_Sy {us : List Sy} {u : Sy} {id : Nat} {tl : Tail} (hb : (us.length + 1) * 56 ≤ 2 ^ 47) (fresh : Nat) (H : Heap) (hH : H[id]? = some (.buf us.length 6)) :
    aappend ⟨true, 6, 56⟩ fresh H (.slice (us.map Sy.enc) (.tok id)) (.slice [u.enc] tl) = some (.slice ((us ++ [u]).map Sy.enc) (.tok id), some (id, .buf (us.length + 1) 6)) := by
  have hmx : maxLen = 9223372036854775807 := by decide
  rw [aappend_tok1 (n := us.length) hH (by simp) (by simpa using hb) (by simp; omega) (fun e he => by obtain ⟨v, _, rfl⟩ := List.mem_map.1 he; exact v.enc_len) u.enc_len (by rw [Sy.enc_cells]; rfl) (by decide)]
  simp
/-- api.Reference, as data. -/
structure Rf where
  mod : Int
  st : Int
  sym : Int
def Rf.enc (t : Rf) : PV := .agg [.int .i64 t.mod, .int .i64 t.st, .int .i64 t.sym]
theorem Rf.enc_eq (t : Rf) : t.enc = .agg [.int .i64 t.mod, .int .i64 t.st, .int .i64 t.sym] := rfl
theorem Rf.enc_cells (t : Rf) : t.enc.cells = [.int .i64 t.mod, .int .i64 t.st, .int .i64 t.sym] := rfl
theorem Rf.eta (t : Rf) : Rf.mk t.mod t.st t.sym = t := rfl
theorem Rf.enc_drop1 (t : Rf) : t.enc.drop1 = t.enc := by rw [Rf.enc_eq]; rfl
theorem Rf.enc_drop0 (t : Rf) : t.enc.drop0 = t.enc := by rw [Rf.enc_eq]; rfl
theorem Rf.enc_len (t : Rf) : t.enc.cells.length = 3 := by rw [Rf.enc_cells]; rfl
theorem Rf.enc_junk (t : Rf) : t.enc.isJunk = false := by rw [Rf.enc_eq]; rfl
theorem Rf.enc_agg (t : Rf) : PV.agg t.enc.cells = t.enc := by rw [Rf.enc_cells, Rf.enc_eq]
theorem Rf.bel (n : Nat) (t : Rf) : Bel n t.enc := .agg _ (by
  intro c hc
  simp only [List.mem_cons, List.not_mem_nil, or_false] at hc
  rcases hc with rfl | rfl | rfl
  · exact .int _ _
  · exact .int _ _
  · exact .int _ _)
theorem bel_Rf (n : Nat) (us : List Rf) : Bel n (.slice (us.map Rf.enc) .none) := .slice _ _ (fun e he c hc => by
  obtain ⟨b, _, rfl⟩ := List.mem_map.1 he
  have := Rf.bel n b
  rw [Rf.enc_eq] at this hc
  cases this with | agg _ h => exact h c hc) (by simp)
theorem bel_Rf_tok {n id : Nat} (us : List Rf) (h : id < n) : Bel n (.slice (us.map Rf.enc) (.tok id)) := by
  have := bel_Rf n us
  cases this with
  | slice _ _ h1 h2 => exact .slice _ _ h1 (fun _ e => by cases e; exact h)
/-- Rules. -/
theorem RfS : (∀ t : Rf, t.enc.cells = [.int .i64 t.mod, .int .i64 t.st, .int .i64 t.sym]) ∧ (∀ t : Rf, t.enc.isJunk = false) ∧ (∀ t : Rf, t.enc.drop1 = t.enc) ∧ (∀ t : Rf, t.enc.drop0 = t.enc) ∧ (∀ (t : Rf) (b : Nat), t.enc.fits ⟨true, 3, b⟩ = true) :=
  ⟨Rf.enc_cells, Rf.enc_junk, Rf.enc_drop1, Rf.enc_drop0, fun t b => by rw [Rf.enc_eq]; rfl⟩
theorem RfF : (∀ (mod : Int) (st : Int) (sym : Int), PV.agg [.int .i64 mod, .int .i64 st, .int .i64 sym] = (Rf.mk mod st sym).enc) ∧
    (∀ t : Rf, Rf.mk t.mod t.st t.sym = t) ∧
    (∀ (mod : Int) (st : Int) (sym : Int), (Rf.mk mod st sym).mod = mod) ∧
    (∀ (mod : Int) (st : Int) (sym : Int), (Rf.mk mod st sym).st = st) ∧
    (∀ (mod : Int) (st : Int) (sym : Int), (Rf.mk mod st sym).sym = sym) :=
  ⟨fun mod st sym => (Rf.enc_eq (Rf.mk mod st sym)).symm, Rf.eta, fun _ _ _ => rfl, fun _ _ _ => rfl, fun _ _ _ => rfl⟩
/-- No list is longer than the rows bear. -/
def Rf.W (t : Rf) : Prop := True
theorem app_Rf {us : List Rf} {u : Rf} {id : Nat} {tl : Tail} (hb : (us.length + 1) * 24 ≤ 2 ^ 47) (fresh : Nat) (H : Heap) (hH : H[id]? = some (.buf us.length 3)) :
    aappend ⟨true, 3, 24⟩ fresh H (.slice (us.map Rf.enc) (.tok id)) (.slice [u.enc] tl) = some (.slice ((us ++ [u]).map Rf.enc) (.tok id), some (id, .buf (us.length + 1) 3)) := by
  have hmx : maxLen = 9223372036854775807 := by decide
  rw [aappend_tok1 (n := us.length) hH (by simp) (by simpa using hb) (by simp; omega) (fun e he => by obtain ⟨v, _, rfl⟩ := List.mem_map.1 he; exact v.enc_len) u.enc_len (by rw [Rf.enc_cells]; rfl) (by decide)]
  simp
/-- api.Diagnostic, as data. -/
structure Dg where
  code : Int
  mod : Int
  st : Int
  en : Int
  name : List UInt8
def Dg.enc (t : Dg) : PV := .agg [.int .i64 t.code, .int .i64 t.mod, .int .i64 t.st, .int .i64 t.en, .str t.name]
theorem Dg.enc_eq (t : Dg) : t.enc = .agg [.int .i64 t.code, .int .i64 t.mod, .int .i64 t.st, .int .i64 t.en, .str t.name] := rfl
theorem Dg.enc_cells (t : Dg) : t.enc.cells = [.int .i64 t.code, .int .i64 t.mod, .int .i64 t.st, .int .i64 t.en, .str t.name] := rfl
theorem Dg.eta (t : Dg) : Dg.mk t.code t.mod t.st t.en t.name = t := rfl
theorem Dg.enc_drop1 (t : Dg) : t.enc.drop1 = t.enc := by rw [Dg.enc_eq]; rfl
theorem Dg.enc_drop0 (t : Dg) : t.enc.drop0 = t.enc := by rw [Dg.enc_eq]; rfl
theorem Dg.enc_len (t : Dg) : t.enc.cells.length = 5 := by rw [Dg.enc_cells]; rfl
theorem Dg.enc_junk (t : Dg) : t.enc.isJunk = false := by rw [Dg.enc_eq]; rfl
theorem Dg.enc_agg (t : Dg) : PV.agg t.enc.cells = t.enc := by rw [Dg.enc_cells, Dg.enc_eq]
theorem Dg.bel (n : Nat) (t : Dg) : Bel n t.enc := .agg _ (by
  intro c hc
  simp only [List.mem_cons, List.not_mem_nil, or_false] at hc
  rcases hc with rfl | rfl | rfl | rfl | rfl
  · exact .int _ _
  · exact .int _ _
  · exact .int _ _
  · exact .int _ _
  · exact .str _)
theorem bel_Dg (n : Nat) (us : List Dg) : Bel n (.slice (us.map Dg.enc) .none) := .slice _ _ (fun e he c hc => by
  obtain ⟨b, _, rfl⟩ := List.mem_map.1 he
  have := Dg.bel n b
  rw [Dg.enc_eq] at this hc
  cases this with | agg _ h => exact h c hc) (by simp)
theorem bel_Dg_tok {n id : Nat} (us : List Dg) (h : id < n) : Bel n (.slice (us.map Dg.enc) (.tok id)) := by
  have := bel_Dg n us
  cases this with
  | slice _ _ h1 h2 => exact .slice _ _ h1 (fun _ e => by cases e; exact h)
/-- Rules. -/
theorem DgS : (∀ t : Dg, t.enc.cells = [.int .i64 t.code, .int .i64 t.mod, .int .i64 t.st, .int .i64 t.en, .str t.name]) ∧ (∀ t : Dg, t.enc.isJunk = false) ∧ (∀ t : Dg, t.enc.drop1 = t.enc) ∧ (∀ t : Dg, t.enc.drop0 = t.enc) ∧ (∀ (t : Dg) (b : Nat), t.enc.fits ⟨true, 5, b⟩ = true) :=
  ⟨Dg.enc_cells, Dg.enc_junk, Dg.enc_drop1, Dg.enc_drop0, fun t b => by rw [Dg.enc_eq]; rfl⟩
theorem DgF : (∀ (code : Int) (mod : Int) (st : Int) (en : Int) (name : List UInt8), PV.agg [.int .i64 code, .int .i64 mod, .int .i64 st, .int .i64 en, .str name] = (Dg.mk code mod st en name).enc) ∧
    (∀ t : Dg, Dg.mk t.code t.mod t.st t.en t.name = t) ∧
    (∀ (code : Int) (mod : Int) (st : Int) (en : Int) (name : List UInt8), (Dg.mk code mod st en name).code = code) ∧
    (∀ (code : Int) (mod : Int) (st : Int) (en : Int) (name : List UInt8), (Dg.mk code mod st en name).mod = mod) ∧
    (∀ (code : Int) (mod : Int) (st : Int) (en : Int) (name : List UInt8), (Dg.mk code mod st en name).st = st) ∧
    (∀ (code : Int) (mod : Int) (st : Int) (en : Int) (name : List UInt8), (Dg.mk code mod st en name).en = en) ∧
    (∀ (code : Int) (mod : Int) (st : Int) (en : Int) (name : List UInt8), (Dg.mk code mod st en name).name = name) :=
  ⟨fun code mod st en name => (Dg.enc_eq (Dg.mk code mod st en name)).symm, Dg.eta, fun _ _ _ _ _ => rfl, fun _ _ _ _ _ => rfl, fun _ _ _ _ _ => rfl, fun _ _ _ _ _ => rfl, fun _ _ _ _ _ => rfl⟩
/-- No list is longer than the rows bear. -/
def Dg.W (t : Dg) : Prop := t.name.length ≤ 2 ^ 47
theorem app_Dg {us : List Dg} {u : Dg} {id : Nat} {tl : Tail} (hb : (us.length + 1) * 48 ≤ 2 ^ 47) (fresh : Nat) (H : Heap) (hH : H[id]? = some (.buf us.length 5)) :
    aappend ⟨true, 5, 48⟩ fresh H (.slice (us.map Dg.enc) (.tok id)) (.slice [u.enc] tl) = some (.slice ((us ++ [u]).map Dg.enc) (.tok id), some (id, .buf (us.length + 1) 5)) := by
  have hmx : maxLen = 9223372036854775807 := by decide
  rw [aappend_tok1 (n := us.length) hH (by simp) (by simpa using hb) (by simp; omega) (fun e he => by obtain ⟨v, _, rfl⟩ := List.mem_map.1 he; exact v.enc_len) u.enc_len (by rw [Dg.enc_cells]; rfl) (by decide)]
  simp
/-- api.Resolution, as data. -/
structure Rs where
  syms : List (Sy)
  refs : List (Rf)
  dgs : List (Dg)
def Rs.enc (t : Rs) : PV := .agg [.slice (t.syms.map Sy.enc) .none, .slice (t.refs.map Rf.enc) .none, .slice (t.dgs.map Dg.enc) .none]
theorem Rs.enc_eq (t : Rs) : t.enc = .agg [.slice (t.syms.map Sy.enc) .none, .slice (t.refs.map Rf.enc) .none, .slice (t.dgs.map Dg.enc) .none] := rfl
theorem Rs.enc_cells (t : Rs) : t.enc.cells = [.slice (t.syms.map Sy.enc) .none, .slice (t.refs.map Rf.enc) .none, .slice (t.dgs.map Dg.enc) .none] := rfl
theorem Rs.eta (t : Rs) : Rs.mk t.syms t.refs t.dgs = t := rfl
theorem Rs.enc_drop1 (t : Rs) : t.enc.drop1 = t.enc := by rw [Rs.enc_eq]; rfl
theorem Rs.enc_drop0 (t : Rs) : t.enc.drop0 = t.enc := by rw [Rs.enc_eq]; rfl
theorem Rs.enc_len (t : Rs) : t.enc.cells.length = 3 := by rw [Rs.enc_cells]; rfl
theorem Rs.enc_junk (t : Rs) : t.enc.isJunk = false := by rw [Rs.enc_eq]; rfl
theorem Rs.enc_agg (t : Rs) : PV.agg t.enc.cells = t.enc := by rw [Rs.enc_cells, Rs.enc_eq]
theorem Rs.bel (n : Nat) (t : Rs) : Bel n t.enc := .agg _ (by
  intro c hc
  simp only [List.mem_cons, List.not_mem_nil, or_false] at hc
  rcases hc with rfl | rfl | rfl
  · exact bel_Sy _ _
  · exact bel_Rf _ _
  · exact bel_Dg _ _)
theorem bel_Rs (n : Nat) (us : List Rs) : Bel n (.slice (us.map Rs.enc) .none) := .slice _ _ (fun e he c hc => by
  obtain ⟨b, _, rfl⟩ := List.mem_map.1 he
  have := Rs.bel n b
  rw [Rs.enc_eq] at this hc
  cases this with | agg _ h => exact h c hc) (by simp)
theorem bel_Rs_tok {n id : Nat} (us : List Rs) (h : id < n) : Bel n (.slice (us.map Rs.enc) (.tok id)) := by
  have := bel_Rs n us
  cases this with
  | slice _ _ h1 h2 => exact .slice _ _ h1 (fun _ e => by cases e; exact h)
/-- Rules. -/
theorem RsS : (∀ t : Rs, t.enc.cells = [.slice (t.syms.map Sy.enc) .none, .slice (t.refs.map Rf.enc) .none, .slice (t.dgs.map Dg.enc) .none]) ∧ (∀ t : Rs, t.enc.isJunk = false) ∧ (∀ t : Rs, t.enc.drop1 = t.enc) ∧ (∀ t : Rs, t.enc.drop0 = t.enc) ∧ (∀ (t : Rs) (b : Nat), t.enc.fits ⟨true, 3, b⟩ = true) :=
  ⟨Rs.enc_cells, Rs.enc_junk, Rs.enc_drop1, Rs.enc_drop0, fun t b => by rw [Rs.enc_eq]; rfl⟩
theorem RsF : (∀ (syms : List (Sy)) (refs : List (Rf)) (dgs : List (Dg)), PV.agg [.slice (syms.map Sy.enc) .none, .slice (refs.map Rf.enc) .none, .slice (dgs.map Dg.enc) .none] = (Rs.mk syms refs dgs).enc) ∧
    (∀ (refs : List (Rf)) (dgs : List (Dg)), PV.agg [.slice [] .none, .slice (refs.map Rf.enc) .none, .slice (dgs.map Dg.enc) .none] = (Rs.mk [] refs dgs).enc) ∧
    (∀ (syms : List (Sy)) (dgs : List (Dg)), PV.agg [.slice (syms.map Sy.enc) .none, .slice [] .none, .slice (dgs.map Dg.enc) .none] = (Rs.mk syms [] dgs).enc) ∧
    (∀ (syms : List (Sy)) (refs : List (Rf)), PV.agg [.slice (syms.map Sy.enc) .none, .slice (refs.map Rf.enc) .none, .slice [] .none] = (Rs.mk syms refs []).enc) ∧
    (∀ (dgs : List (Dg)), PV.agg [.slice [] .none, .slice [] .none, .slice (dgs.map Dg.enc) .none] = (Rs.mk [] [] dgs).enc) ∧
    (∀ (refs : List (Rf)), PV.agg [.slice [] .none, .slice (refs.map Rf.enc) .none, .slice [] .none] = (Rs.mk [] refs []).enc) ∧
    (∀ (syms : List (Sy)), PV.agg [.slice (syms.map Sy.enc) .none, .slice [] .none, .slice [] .none] = (Rs.mk syms [] []).enc) ∧
    (PV.agg [.slice [] .none, .slice [] .none, .slice [] .none] = (Rs.mk [] [] []).enc) ∧
    (∀ t : Rs, Rs.mk t.syms t.refs t.dgs = t) ∧
    (∀ (syms : List (Sy)) (refs : List (Rf)) (dgs : List (Dg)), (Rs.mk syms refs dgs).syms = syms) ∧
    (∀ (syms : List (Sy)) (refs : List (Rf)) (dgs : List (Dg)), (Rs.mk syms refs dgs).refs = refs) ∧
    (∀ (syms : List (Sy)) (refs : List (Rf)) (dgs : List (Dg)), (Rs.mk syms refs dgs).dgs = dgs) :=
  ⟨fun syms refs dgs => (Rs.enc_eq (Rs.mk syms refs dgs)).symm, fun refs dgs => (Rs.enc_eq (Rs.mk [] refs dgs)).symm, fun syms dgs => (Rs.enc_eq (Rs.mk syms [] dgs)).symm, fun syms refs => (Rs.enc_eq (Rs.mk syms refs [])).symm, fun dgs => (Rs.enc_eq (Rs.mk [] [] dgs)).symm, fun refs => (Rs.enc_eq (Rs.mk [] refs [])).symm, fun syms => (Rs.enc_eq (Rs.mk syms [] [])).symm, (Rs.enc_eq (Rs.mk [] [] [])).symm, Rs.eta, fun _ _ _ => rfl, fun _ _ _ => rfl, fun _ _ _ => rfl⟩
/-- No list is longer than the rows bear. -/
def Rs.W (t : Rs) : Prop := t.syms.length * 56 ≤ 2 ^ 47 ∧ (∀ u ∈ t.syms, u.W) ∧ t.refs.length * 24 ≤ 2 ^ 47 ∧ (∀ u ∈ t.refs, u.W) ∧ t.dgs.length * 48 ≤ 2 ^ 47 ∧ (∀ u ∈ t.dgs, u.W)
theorem Rs.W.len_syms {t : Rs} (h : t.W) : t.syms.length * 56 ≤ 2 ^ 47 := h.1
theorem Rs.W.max_syms {t : Rs} (h : t.W) : t.syms.length ≤ maxLen := by
  have em : maxLen = 9223372036854775807 := by decide
  have := h.len_syms; rw [em]; omega
theorem Rs.W.el_syms {t : Rs} (h : t.W) : ∀ u ∈ t.syms, u.W := h.2.1
theorem Rs.W.len_refs {t : Rs} (h : t.W) : t.refs.length * 24 ≤ 2 ^ 47 := h.2.2.1
theorem Rs.W.max_refs {t : Rs} (h : t.W) : t.refs.length ≤ maxLen := by
  have em : maxLen = 9223372036854775807 := by decide
  have := h.len_refs; rw [em]; omega
theorem Rs.W.el_refs {t : Rs} (h : t.W) : ∀ u ∈ t.refs, u.W := h.2.2.2.1
theorem Rs.W.len_dgs {t : Rs} (h : t.W) : t.dgs.length * 48 ≤ 2 ^ 47 := h.2.2.2.2.1
theorem Rs.W.max_dgs {t : Rs} (h : t.W) : t.dgs.length ≤ maxLen := by
  have em : maxLen = 9223372036854775807 := by decide
  have := h.len_dgs; rw [em]; omega
theorem Rs.W.el_dgs {t : Rs} (h : t.W) : ∀ u ∈ t.dgs, u.W := h.2.2.2.2.2
theorem app_Rs {us : List Rs} {u : Rs} {id : Nat} {tl : Tail} (hb : (us.length + 1) * 72 ≤ 2 ^ 47) (fresh : Nat) (H : Heap) (hH : H[id]? = some (.buf us.length 3)) :
    aappend ⟨true, 3, 72⟩ fresh H (.slice (us.map Rs.enc) (.tok id)) (.slice [u.enc] tl) = some (.slice ((us ++ [u]).map Rs.enc) (.tok id), some (id, .buf (us.length + 1) 3)) := by
  have hmx : maxLen = 9223372036854775807 := by decide
  rw [aappend_tok1 (n := us.length) hH (by simp) (by simpa using hb) (by simp; omega) (fun e he => by obtain ⟨v, _, rfl⟩ := List.mem_map.1 he; exact v.enc_len) u.enc_len (by rw [Rs.enc_cells]; rfl) (by decide)]
  simp
/-- Rules in one. -/
theorem qA : type_of% (And.intro @TyS (And.intro @TyF (And.intro @TBS (And.intro @TBF (And.intro @DcS (And.intro @DcF (And.intro @PfS (And.intro @PfF (And.intro @SyS (And.intro @SyF (And.intro @RsS (@RsF)))))))))))) := And.intro @TyS (And.intro @TyF (And.intro @TBS (And.intro @TBF (And.intro @DcS (And.intro @DcF (And.intro @PfS (And.intro @PfF (And.intro @SyS (And.intro @SyF (And.intro @RsS (@RsF)))))))))))
end Go.Abs
namespace Go.Abs
/-! The chapter 'types': bindings, sizes, variables. -/
structure Bd where
  v : Int
  t : Ty
def Bd.enc (b : Bd) : PV := .agg [.int .i64 b.v, .int .i64 b.t.kind, .int .i64 b.t.id, .slice (b.t.args.map Ty.enc) .none]
theorem Bd.enc_len (b : Bd) : b.enc.cells.length = 4 := rfl
theorem Bd.bel (n : Nat) (b : Bd) : Bel n b.enc := .agg _ (by
  intro c hc
  simp at hc
  rcases hc with rfl | rfl | rfl | rfl
  · exact .int _ _
  · exact .int _ _
  · exact .int _ _
  · exact bel_slice_ty _ _)
theorem bel_Bd (n : Nat) (us : List Bd) : Bel n (.slice (us.map Bd.enc) .none) := .slice _ _ (fun e he c hc => by
  obtain ⟨b, _, rfl⟩ := List.mem_map.1 he
  have := Bd.bel n b
  unfold Bd.enc at this hc
  cases this with | agg _ h => exact h c hc) (by simp)
/-- Rules for bindings. -/
theorem BdS : (∀ b : Bd, b.enc.cells = [.int .i64 b.v, .int .i64 b.t.kind, .int .i64 b.t.id, .slice (b.t.args.map Ty.enc) .none]) ∧ (∀ b : Bd, b.enc.isJunk = false) ∧ (∀ b : Bd, b.enc.drop1 = b.enc) ∧ (∀ (b : Bd) (n : Nat), b.enc.fits ⟨true, 4, n⟩ = true) ∧
    (∀ (v : Int) (t : Ty), PV.agg [.int .i64 v, .int .i64 t.kind, .int .i64 t.id, .slice (t.args.map Ty.enc) .none] = (Bd.mk v t).enc) ∧ (∀ (v : Int) (t : Ty), (Bd.mk v t).v = v) ∧ (∀ (v : Int) (t : Ty), (Bd.mk v t).t = t) ∧ (∀ b : Bd, Bd.mk b.v b.t = b) ∧
    (∀ (v k i : Int), PV.agg [.int .i64 v, .int .i64 k, .int .i64 i, .slice [] .none] = (Bd.mk v (Ty.mk k i [])).enc) :=
  ⟨fun _ => rfl, fun _ => rfl, fun _ => rfl, fun _ _ => rfl, fun _ _ => rfl, fun _ _ => rfl, fun _ _ => rfl, fun _ => rfl, fun _ _ _ => rfl⟩

def subG (s : List Bd) (u : Ty) : Ty × Bool :=
  if (!decide (u.kind = 1)) = true then (u, false)
  else if decide (idxI (fun b : Bd => decide (b.v = u.id)) s < 0) = true then (u, false)
  else ((s.getD (idxI (fun b : Bd => decide (b.v = u.id)) s).toNat ⟨0, .mk 0 0 []⟩).t, true)

theorem sub_W {s : List Bd} (hs : ∀ b ∈ s, b.t.W) {t : Ty} (ht : t.W) : (mapT (subG s) t).W :=
  mapT_W (fun u hu => by
    unfold subG at hu ⊢
    split at hu
    · cases hu
    · rename_i h1
      split at hu
      · cases hu
      · rename_i h2
        rw [if_neg h1, if_neg h2]
        simp only
        rw [List.getD_eq_getElem?_getD]
        cases hq : s[(idxI (fun b : Bd => decide (b.v = u.id)) s).toNat]? with
        | none => exact .mk (by simp) (by simp)
        | some a => exact hs a (List.mem_of_getElem? hq)) t ht

/-- Sizes and depths as 'measure' counts them. -/
def measL : List (Int → Int × Int) → Int → Int × Int → Int × Int
  | [], _, s => s
  | f :: fs, L, s => if decide (s.1 > L) = true then s else measL fs L (s.1 + (f (L - s.1)).1, max s.2 (f (L - s.1)).2)
def measT : Ty → Int → Int × Int
  | .mk _ _ us, L => ((measL (us.map fun u L => measT u L) L (1, 0)).1, (measL (us.map fun u L => measT u L) L (1, 0)).2 + 1)
theorem measT_eq (t : Ty) (L : Int) : measT t L = ((measL (t.args.map measT) L (1, 0)).1, (measL (t.args.map measT) L (1, 0)).2 + 1) := by
  cases t; rw [measT]; rfl
theorem measL_bd : ∀ (fs : List (Int → Int × Int)) (L : Int) (s : Int × Int), 0 ≤ L → (∀ f ∈ fs, ∀ M, 0 ≤ M → M < L → 1 ≤ (f M).1 ∧ (f M).1 ≤ M + 1 ∧ 1 ≤ (f M).2 ∧ (f M).2 ≤ M + 1) → 1 ≤ s.1 → s.1 ≤ L + 1 → 0 ≤ s.2 → s.2 ≤ L →
    1 ≤ (measL fs L s).1 ∧ (measL fs L s).1 ≤ L + 1 ∧ 0 ≤ (measL fs L s).2 ∧ (measL fs L s).2 ≤ L
  | [], L, s, hL, _, h1, h2, h3, h4 => ⟨h1, h2, h3, h4⟩
  | f :: fs, L, s, hL, hf, h1, h2, h3, h4 => by
    unfold measL
    split
    · exact ⟨h1, h2, h3, h4⟩
    · rename_i hs
      have hs' : s.1 ≤ L := by have : ¬ s.1 > L := fun q => hs (decide_eq_true q); omega
      obtain ⟨q1, q2, q3, q4⟩ := hf f (List.mem_cons_self ..) (L - s.1) (by omega) (by omega)
      exact measL_bd fs L _ hL (fun g hg => hf g (List.mem_cons_of_mem _ hg)) (by simp only; omega) (by simp only; omega) (by simp only; omega) (by simp only; omega)
theorem measT_bd : ∀ (t : Ty) (L : Int), 0 ≤ L → 1 ≤ (measT t L).1 ∧ (measT t L).1 ≤ L + 1 ∧ 1 ≤ (measT t L).2 ∧ (measT t L).2 ≤ L + 1
  | .mk k i us, L, hL => by
    have := measL_bd (us.map fun u L => measT u L) L (1, 0) hL (fun f hf M h0 _ => by
      obtain ⟨u, hu, rfl⟩ := List.mem_map.1 hf
      exact measT_bd u M h0) (by simp) (by simp; omega) (by simp) (by simp; omega)
    rw [measT]
    simp only
    omega

def nwf (t : Ty) : Bool :=
  if decide (t.kind = 0) || decide (t.kind = 3) || decide (t.kind = 4) || decide (t.kind = 5) || decide (t.kind = 6) then decide (t.id = 0) && decide ((t.args.length : Int) = 0)
  else if decide (t.kind = 1) || decide (t.kind = 2) then decide (t.id ≥ 0) && decide ((t.args.length : Int) = 0)
  else if decide (t.kind = 7) then decide (t.id ≥ 0)
  else if decide (t.kind = 8) then (decide (t.id = 0) || decide (t.id = 1)) && decide ((t.args.length : Int) = 1)
  else if decide (t.kind = 9) then decide (t.id = 0) && decide ((t.args.length : Int) > 0)
  else if decide (t.kind = 10) then decide (t.id ≥ 0) && decide ((t.args.length : Int) = 1)
  else false
def wfT : Ty → Bool
  | .mk k i us => nwf (.mk k i us) && !((us.map fun u => wfT u).any (fun b => !b))
theorem wfT_eq (t : Ty) : wfT t = (nwf t && !(t.args.any fun u => !wfT u)) := by
  cases t; rw [wfT, List.any_map]; rfl
/-- What Validate answers. -/
def valT (t : Ty) : Int := if (decide ((measT t 100).1 > 100) || decide ((measT t 100).2 > 12)) = true then 2 else if (!wfT t) = true then 3 else 0

/-- The free variables, in order of first occurrence. -/
def afvL : List (List Int → List Int) → List Int → List Int
  | [], vs => vs
  | f :: fs, vs => afvL fs (f vs)
def afv : Ty → List Int → List Int
  | .mk k i us, vs => afvL (us.map fun u vs => afv u vs) (if (decide (k = 1) && !vs.any (fun x => decide (i = x))) = true then vs ++ [i] else vs)
theorem afv_eq (t : Ty) (vs : List Int) : afv t vs = afvL (t.args.map afv) (if (decide (t.kind = 1) && !vs.any (fun x => decide (t.id = x))) = true then vs ++ [t.id] else vs) := by
  cases t; rw [afv]; rfl
theorem afv_len : ∀ (t : Ty) (vs : List Int), vs.length ≤ (afv t vs).length ∧ (afv t vs).length ≤ vs.length + t.size
  | .mk k i us, vs => by
    have key : ∀ (us : List Ty), (∀ u ∈ us, ∀ vs : List Int, vs.length ≤ (afv u vs).length ∧ (afv u vs).length ≤ vs.length + u.size) → ∀ vs : List Int, vs.length ≤ (afvL (us.map fun u vs => afv u vs) vs).length ∧ (afvL (us.map fun u vs => afv u vs) vs).length ≤ vs.length + Ty.sizes us := by
      intro us
      induction us with
      | nil => intro _ vs; simp [afvL, Ty.sizes]
      | cons u us ih =>
        intro h vs
        have h1 := h u (List.mem_cons_self ..) vs
        have h2 := ih (fun u hu => h u (List.mem_cons_of_mem _ hu)) (afv u vs)
        simp only [List.map_cons, afvL, Ty.sizes]
        omega
    rw [afv]
    have := key us (fun u hu vs => afv_len u vs) (if (decide (k = 1) && !vs.any (fun x => decide (i = x))) = true then vs ++ [i] else vs)
    have hs : (Ty.mk k i us).size = 1 + Ty.sizes us := by simp [Ty.size]
    rw [hs]
    split at this
    · rename_i hq; rw [if_pos hq]; simp at this ⊢; omega
    · rename_i hq; rw [if_neg hq]; omega
end Go.Abs
namespace Go.Abs
theorem measL_nil (L : Int) (s : Int × Int) : measL [] L s = s := rfl
theorem measL_cons (f : Int → Int × Int) (fs : List (Int → Int × Int)) (L : Int) (s : Int × Int) : measL (f :: fs) L s = if decide (s.1 > L) = true then s else measL fs L (s.1 + (f (L - s.1)).1, max s.2 (f (L - s.1)).2) := rfl
theorem afvL_nil (vs : List Int) : afvL [] vs = vs := rfl
theorem afvL_cons (f : List Int → List Int) (fs : List (List Int → List Int)) (vs : List Int) : afvL (f :: fs) vs = afvL fs (f vs) := rfl
end Go.Abs
namespace Go.Abs
/-! The chapter 'assoctypes': normal forms, as functions of trees. -/
def Sy.zero : Sy := ⟨0, 0, 0, 0, [], false⟩
def traitIx (sy : List Sy) (a : Int) : Int :=
  if ¬ (0 ≤ a ∧ a < sy.length) ∨ (sy.getD a.toNat .zero).kind ≠ 13 then -1
  else if ¬ (0 ≤ (sy.getD a.toNat .zero).par ∧ (sy.getD a.toNat .zero).par < sy.length) ∨ (sy.getD (sy.getD a.toNat .zero).par.toNat .zero).kind ≠ 5 then -1
  else (sy.getD a.toNat .zero).par
def memP (im : Int) (nm : List UInt8) (s : Sy) : Bool := (decide (s.kind = 13) && decide (s.par = im)) && decide (s.name = nm)
section
variable (sy : List Sy) (ds : List Dc) (sas : List TB)
def rigid (i : Int) (a : Ty) : Prop := ¬ traitIx sy i < 0 ∧ ((solveT ds sas 8 a (traitIx sy i)).2 = false ∨ (solveT ds sas 8 a (traitIx sy i)).1.im < 0)
def memIx (i : Int) (a : Ty) : Int := idxI (memP (solveT ds sas 8 a (traitIx sy i)).1.im (sy.getD i.toNat .zero).name) sy
def projX (i : Int) (a : Ty) : Ty := mapT (appG (ds.getD (solveT ds sas 8 a (traitIx sy i)).1.im.toNat .zero).ps (solveT ds sas 8 a (traitIx sy i)).1.args) (ds.getD (memIx sy ds sas i a).toNat .zero).t
def projT (f : Option (Ty → Ty × Bool)) (t : Ty) : Ty × Bool :=
  match t.args with
  | [a] =>
    if traitIx sy t.id < 0 then (.zero, true)
    else if (solveT ds sas 8 a (traitIx sy t.id)).2 = false ∨ (solveT ds sas 8 a (traitIx sy t.id)).1.im < 0 then (t, false)
    else match f with
      | none => (.zero, false)
      | some g => if memIx sy ds sas t.id a < 0 then (.zero, false) else g (projX sy ds sas t.id a)
  | _ => (.zero, true)
def normD (P : Ty → Ty × Bool) : Ty → Ty × Bool
  | .mk k i us =>
    if k = 10 then ((P (.mk k i (us.map fun u => (normD P u).1))).1, (us.map fun u => (normD P u).2).any id || (P (.mk k i (us.map fun u => (normD P u).1))).2)
    else (.mk k i (us.map fun u => (normD P u).1), (us.map fun u => (normD P u).2).any id)
theorem normD_eq (P : Ty → Ty × Bool) (t : Ty) : normD P t =
    if t.kind = 10 then ((P (.mk t.kind t.id (t.args.map fun u => (normD P u).1))).1, (t.args.any fun u => (normD P u).2) || (P (.mk t.kind t.id (t.args.map fun u => (normD P u).1))).2)
    else (.mk t.kind t.id (t.args.map fun u => (normD P u).1), t.args.any fun u => (normD P u).2) := by
  cases t
  rw [normD, List.any_map]
  rfl
theorem normD_mk (P : Ty → Ty × Bool) (k i : Int) (us : List Ty) : normD P (.mk k i us) =
    if k = 10 then ((P (.mk k i (us.map fun u => (normD P u).1))).1, (us.any fun u => (normD P u).2) || (P (.mk k i (us.map fun u => (normD P u).1))).2)
    else (.mk k i (us.map fun u => (normD P u).1), us.any fun u => (normD P u).2) := normD_eq P (.mk k i us)
theorem projT_one (f : Option (Ty → Ty × Bool)) (k i : Int) (a : Ty) : projT sy ds sas f (.mk k i [a]) =
    if traitIx sy i < 0 then (.zero, true)
    else if (solveT ds sas 8 a (traitIx sy i)).2 = false ∨ (solveT ds sas 8 a (traitIx sy i)).1.im < 0 then (.mk k i [a], false)
    else match f with
      | none => (.zero, false)
      | some g => if memIx sy ds sas i a < 0 then (.zero, false) else g (projX sy ds sas i a) := rfl
def projN : Nat → Ty → Ty × Bool
  | 0 => projT sy ds sas none
  | d + 1 => projT sy ds sas (some (normD (projN d)))
def normalT (t : Ty) : Ty := if (normD (projN sy ds sas 8) t).2 = true ∨ valT (normD (projN sy ds sas 8) t).1 = 2 then .zero else (normD (projN sy ds sas 8) t).1
/-- Normal forms. -/
inductive NF : Ty → Prop
  | mk {k i us} (h : ∀ u ∈ us, NF u) (hp : k = 10 → ∃ a, us = [a] ∧ rigid sy ds sas i a) : NF (.mk k i us)
variable {sy ds sas}
theorem NF.zero : NF sy ds sas .zero := .mk (by simp) (by intro h; cases h)
theorem proj_rigid {f : Option (Ty → Ty × Bool)} {k i : Int} {a : Ty} (h : rigid sy ds sas i a) : projT sy ds sas f (.mk k i [a]) = (.mk k i [a], false) := by
  rw [projT_one, if_neg h.1, if_pos h.2]
theorem projN_rigid {d : Nat} {k i : Int} {a : Ty} (h : rigid sy ds sas i a) : projN sy ds sas d (.mk k i [a]) = (.mk k i [a], false) := by
  cases d with
  | zero => exact proj_rigid h
  | succ d => exact proj_rigid h
theorem nf_norm (d : Nat) : ∀ t : Ty, NF sy ds sas t → normD (projN sy ds sas d) t = (t, false)
  | .mk k i us, h => by
    cases h with
    | mk h hp =>
      have ih : ∀ u ∈ us, normD (projN sy ds sas d) u = (u, false) := fun u hu => nf_norm d u (h u hu)
      have e1 : us.map (fun u => (normD (projN sy ds sas d) u).1) = us := by
        rw [List.map_congr_left (g := fun u => u) (fun u hu => by rw [ih u hu])]; simp
      have e2 : (us.any fun u => (normD (projN sy ds sas d) u).2) = false := by
        rw [List.any_eq_false]; intro u hu; rw [ih u hu]; simp
      rw [normD_mk, e1, e2]
      split
      · rename_i hk
        obtain ⟨a, rfl, hr⟩ := hp hk
        rw [projN_rigid hr]; rfl
      · rfl
theorem projT_nf {f : Option (Ty → Ty × Bool)} (hf : ∀ g, f = some g → ∀ u, (g u).2 = false → NF sy ds sas (g u).1) {k i : Int} {us : List Ty} (hu : ∀ u ∈ us, NF sy ds sas u) (h : (projT sy ds sas f (.mk k i us)).2 = false) : NF sy ds sas (projT sy ds sas f (.mk k i us)).1 := by
  match us, hu, h with
  | [], _, _ => exact .zero
  | _ :: _ :: _, _, _ => exact .zero
  | [a], hu, h =>
    rw [projT_one] at h ⊢
    by_cases h1 : traitIx sy i < 0
    · rw [if_pos h1] at h; cases h
    · rw [if_neg h1] at h ⊢
      by_cases h2 : (solveT ds sas 8 a (traitIx sy i)).2 = false ∨ (solveT ds sas 8 a (traitIx sy i)).1.im < 0
      · rw [if_pos h2]
        exact .mk hu fun _ => ⟨a, rfl, h1, h2⟩
      · rw [if_neg h2] at h ⊢
        cases f with
        | none => exact .zero
        | some g =>
          simp only at h ⊢
          by_cases h3 : memIx sy ds sas i a < 0
          · rw [if_pos h3]; exact .zero
          · rw [if_neg h3] at h ⊢
            exact hf g rfl _ h
theorem normD_nf {P : Ty → Ty × Bool} (hP : ∀ (k i : Int) (us : List Ty), (∀ u ∈ us, NF sy ds sas u) → (P (.mk k i us)).2 = false → NF sy ds sas (P (.mk k i us)).1) : ∀ t : Ty, (normD P t).2 = false → NF sy ds sas (normD P t).1
  | .mk k i us, h => by
    rw [normD_mk] at h ⊢
    have ih : (us.any fun u => (normD P u).2) = false → ∀ u ∈ us.map (fun u => (normD P u).1), NF sy ds sas u := fun hn u hu => by
      obtain ⟨v, hv, rfl⟩ := List.mem_map.1 hu
      rw [List.any_eq_false] at hn
      exact normD_nf hP v (by simpa using hn v hv)
    by_cases hk : k = 10
    · rw [if_pos hk] at h ⊢
      simp only [Bool.or_eq_false_iff] at h
      exact hP _ _ _ (ih h.1) h.2
    · rw [if_neg hk] at h ⊢
      exact .mk (ih h) fun e => (hk e).elim
theorem projN_nf : ∀ (d : Nat) (k i : Int) (us : List Ty), (∀ u ∈ us, NF sy ds sas u) → (projN sy ds sas d (.mk k i us)).2 = false → NF sy ds sas (projN sy ds sas d (.mk k i us)).1
  | 0, k, i, us, hu, h => projT_nf (f := none) (fun g e => by cases e) hu h
  | d + 1, k, i, us, hu, h => projT_nf (f := some _) (fun g e u hg => by cases e; exact normD_nf (projN_nf d) u hg) hu h
theorem norm_nf (d : Nat) (t : Ty) (h : (normD (projN sy ds sas d) t).2 = false) : NF sy ds sas (normD (projN sy ds sas d) t).1 := normD_nf (projN_nf d) t h
def cproj : Ty → Bool
  | .mk k i us => decide (k = 10) || (us.map fun u => cproj u).any id
theorem cproj_eq (t : Ty) : cproj t = (decide (t.kind = 10) || t.args.any cproj) := by
  cases t; rw [cproj, List.any_map]; rfl
def cerr : Ty → Bool
  | .mk k i us => decide (k = 0) || (us.map fun u => cerr u).any id
theorem cerr_eq (t : Ty) : cerr t = (decide (t.kind = 0) || t.args.any cerr) := by
  cases t; rw [cerr, List.any_map]; rfl
theorem noproj_nf : ∀ t : Ty, cproj t = false → NF sy ds sas t
  | .mk k i us, h => by
    rw [cproj_eq] at h
    simp only [Ty.kind, Ty.args, Bool.or_eq_false_iff, List.any_eq_false] at h
    refine .mk (fun u hu => noproj_nf u (by simpa using h.2 u hu)) fun hk => ?_
    simp [hk] at h
/-- Normalizing twice. -/
theorem normal_idem (t : Ty) (h : cerr (normalT sy ds sas t) = false) : normalT sy ds sas (normalT sy ds sas t) = normalT sy ds sas t := by
  have hz : cerr .zero = true := by rw [cerr_eq]; rfl
  unfold normalT at h ⊢
  by_cases hc : (normD (projN sy ds sas 8) t).2 = true ∨ valT (normD (projN sy ds sas 8) t).1 = 2
  · rw [if_pos hc, hz] at h; cases h
  · simp only [if_neg hc]
    have hf : (normD (projN sy ds sas 8) t).2 = false := by
      cases hq : (normD (projN sy ds sas 8) t).2 with
      | false => rfl
      | true => exact (hc (.inl hq)).elim
    have hn := nf_norm 8 _ (norm_nf 8 t hf)
    rw [hn, if_neg]
    intro h'
    rcases h' with h' | h'
    · cases h'
    · exact hc (.inr h')
theorem normal_noproj (t : Ty) (h : cproj t = false) (hv : valT t = 0) : normalT sy ds sas t = t := by
  unfold normalT
  rw [nf_norm 8 t (noproj_nf t h), if_neg]
  simp [hv]
/-- Normalizing the arguments first. -/
theorem normal_parts (t : Ty) (hk : ¬ t.kind = 10) (h1 : cerr (normalT sy ds sas t) = false) (h2 : cerr (.mk t.kind t.id (t.args.map (normalT sy ds sas))) = false) :
    normalT sy ds sas t = .mk t.kind t.id (t.args.map (normalT sy ds sas)) := by
  have hz : cerr .zero = true := by rw [cerr_eq]; rfl
  rw [cerr_eq] at h2
  simp only [Ty.kind, Ty.args, Bool.or_eq_false_iff, List.any_eq_false, List.mem_map] at h2
  have hc : ¬ ((normD (projN sy ds sas 8) t).2 = true ∨ valT (normD (projN sy ds sas 8) t).1 = 2) := by
    intro hc
    unfold normalT at h1
    rw [if_pos hc, hz] at h1; cases h1
  have e : normalT sy ds sas t = (normD (projN sy ds sas 8) t).1 := by
    show (if _ then _ else _) = _
    rw [if_neg hc]
  rw [e, normD_eq, if_neg hk]
  simp only
  congr 1
  refine List.map_congr_left fun u hu => ?_
  have hu2 := h2.2 _ ⟨u, hu, rfl⟩
  show _ = (if _ then _ else _)
  rw [if_neg]
  intro hcu
  apply hu2
  unfold normalT
  rw [if_pos hcu, hz]
end
end Go.Abs
namespace Go.Abs
/-! The normalizer's row. -/
structure NC where
  r : Rs
  ds : List Dc
  sas : List TB
def NC.row (c : NC) (b : Bool) : AObj := .row [.slice (c.r.syms.map Sy.enc) .none, .slice (c.r.refs.map Rf.enc) .none, .slice (c.r.dgs.map Dg.enc) .none, .slice (c.ds.map Dc.enc) .none, .slice (c.sas.map TB.enc) .none, .bool b]
def nH (c : NC) (H : Heap) (im : Nat) (b : Bool) : Heap := H.set im (c.row b)
theorem nH_len (c : NC) (H : Heap) (im : Nat) (b : Bool) : (nH c H im b).length = H.length := by simp [nH]
theorem nH_rules (c : NC) {H : Heap} {im : Nat} (him : im < H.length) :
    (∀ b L, (nH c H im b ++ L)[im]? = some (.row [.slice (c.r.syms.map Sy.enc) .none, .slice (c.r.refs.map Rf.enc) .none, .slice (c.r.dgs.map Dg.enc) .none, .slice (c.ds.map Dc.enc) .none, .slice (c.sas.map TB.enc) .none, .bool b])) ∧
    (∀ b L b', (nH c H im b ++ L).set im (.row [.slice (c.r.syms.map Sy.enc) .none, .slice (c.r.refs.map Rf.enc) .none, .slice (c.r.dgs.map Dg.enc) .none, .slice (c.ds.map Dc.enc) .none, .slice (c.sas.map TB.enc) .none, .bool b']) = nH c H im b' ++ L) ∧
    (∀ b L b', (nH c H im b ++ L).set im (c.row b') = nH c H im b' ++ L) ∧
    (∀ b L k, (nH c H im b ++ L)[H.length + k]? = L[k]?) ∧ (∀ b L, (nH c H im b ++ L)[H.length]? = L[0]?) ∧ (∀ b L k o, (nH c H im b ++ L).set (H.length + k) o = nH c H im b ++ L.set k o) ∧ (∀ b L o, (nH c H im b ++ L).set H.length o = nH c H im b ++ L.set 0 o) ∧
    (∀ b, (nH c H im b).length = H.length) := by
  have hset : ∀ b L o, (nH c H im b ++ L).set im o = H.set im o ++ L := fun b L o => by rw [List.set_append_left _ _ (by rw [nH_len]; exact him)]; simp only [nH]; rw [List.set_set]
  refine ⟨fun b L => ?_, fun b L b' => hset _ _ _, fun b L b' => hset _ _ _, fun b L k => ?_, fun b L => ?_, fun b L k o => ?_, fun b L o => ?_, fun b => nH_len ..⟩
  · rw [List.getElem?_append_left (by rw [nH_len]; exact him)]; simp only [nH]; rw [List.getElem?_set_self him]; rfl
  · have := get_app (nH c H im b) L k; rwa [nH_len] at this
  · have := get_app0 (nH c H im b) L; rwa [nH_len] at this
  · have := set_app (nH c H im b) L k o; rwa [nH_len] at this
  · have := set_app0 (nH c H im b) L o; rwa [nH_len] at this
theorem nH_self {c : NC} {H : Heap} {im : Nat} {b : Bool} (h : H[im]? = some (c.row b)) : nH c H im b = H := list_set_self h
theorem nrow_bel (c : NC) (n : Nat) (b : Bool) : OBel n (c.row b) := by
  intro x hx
  simp only [List.mem_cons, List.not_mem_nil, or_false] at hx
  rcases hx with rfl | rfl | rfl | rfl | rfl | rfl
  · exact bel_Sy _ _
  · exact bel_Rf _ _
  · exact bel_Dg _ _
  · exact bel_Dc _ _
  · exact bel_TB _ _
  · exact .bool _
theorem nH_bel {c : NC} {H : Heap} {im : Nat} {b b' : Bool} (hb : HBel H.length (nH c H im b)) (him : im < H.length) : HBel H.length (nH c H im b') := by
  intro o ho
  obtain ⟨k, hk⟩ := List.mem_iff_getElem?.1 ho
  simp only [nH] at hk
  by_cases e1 : k = im
  · subst e1
    rw [List.getElem?_set_self him] at hk
    cases hk
    exact nrow_bel c _ _
  · rw [List.getElem?_set_ne (Ne.symm e1)] at hk
    refine hb o (List.mem_iff_getElem?.2 ⟨k, ?_⟩)
    simp only [nH]
    rw [List.getElem?_set_ne (Ne.symm e1)]; exact hk
theorem nSet {P : Program} {f : FuncId} {args : List PV} {r : PV} {c : NC} {im : Nat} {b b2 : Bool}
    (hk : ∀ H : Heap, im < H.length → ACalls P f args (nH c H im b) fun r' H' => r' = r ∧ H' = nH c H im b2) (H : Heap) (h : H[im]? = some (c.row b)) : ACalls P f args H fun r' H' => r' = r ∧ H' = H.set im (c.row b2) := by
  have := hk H (len_of_get h)
  rw [nH_self h] at this
  exact this
end Go.Abs
set_option maxRecDepth 4000
namespace Go.Abs
open Go.Proofs

theorem trait_c (c : NC) (b : Bool) (H : Heap) (im : Nat) (h1 : H[im]? = some (c.row b)) (a : Int) : ACalls Try.prog 146 [.optr im 0, vint a] H fun r' H' => r' = vint (traitIx c.r.syms a) ∧ H' = H := by
  have q1 : ∀ L, (H ++ L)[im]? = some (.row [.slice (c.r.syms.map Sy.enc) .none, .slice (c.r.refs.map Rf.enc) .none, .slice (c.r.dgs.map Dg.enc) .none, .slice (c.ds.map Dc.enc) .none, .slice (c.sas.map TB.enc) .none, .bool b]) := fun L => by rw [List.getElem?_append_left (len_of_get h1)]; exact h1
  have q0 : H[im]? = some (.row [.slice (c.r.syms.map Sy.enc) .none, .slice (c.r.refs.map Rf.enc) .none, .slice (c.r.dgs.map Dg.enc) .none, .slice (c.ds.map Dc.enc) .none, .slice (c.sas.map TB.enc) .none, .bool b]) := h1
  refine keeps_of (N := 64) Try.func146 rfl rfl (by simp) (.int _ _) fun hb' => ?_
  repeat (refine awp_seq ?_)
  refine e_eval (by simp only [jA, jO, jN, seval, vint, qA, q1, q0] <;> with_reducible rfl) (by decide) ?_
  rcases (by omega : a < 0 ∨ (¬ a < 0 ∧ (a : Int) ≥ c.r.syms.length) ∨ (0 ≤ a ∧ a < c.r.syms.length)) with h | ⟨h, h5⟩ | ⟨h, h5⟩
  ·
    have hx : decide (a < 0) = true := decide_eq_true h
    have hx2 : True = True := rfl
    have hT : traitIx c.r.syms a = -1 := by unfold traitIx; rw [if_pos (Or.inl (by omega))]
    repeat (refine awp_seq ?_)
    refine awp_region ?_
    refine aops_gstart ?_
    refine g_take 19 (by simp only [jG, jO, jN, seval, y3, y52, y56, y117, y130, vint, qA, q1, q0, hx, Bool.true_or] <;> with_reducible rfl) (by decide) ?_
    refine aops_gskip (r := .tup []) (by simp only [jE, jN, seval, vint, qA, hx, hx2, Bool.true_or, Bool.or_true, Bool.false_or, Bool.not_true, Bool.not_false, q1, q0] <;> with_reducible rfl) ?_
    refine aops_gskip (r := .tup []) (by simp only [jE, jN, seval, vint, qA, hx, hx2, Bool.true_or, Bool.or_true, Bool.false_or, Bool.not_true, Bool.not_false, q1, q0] <;> with_reducible rfl) ?_
    refine aops_gskip (r := .tup []) (by simp only [jE, jN, seval, vint, qA, hx, hx2, Bool.true_or, Bool.or_true, Bool.false_or, Bool.not_true, Bool.not_false, q1, q0] <;> with_reducible rfl) ?_
    refine aops_gskip (r := .tup []) (by simp only [jE, jN, seval, vint, qA, hx, hx2, Bool.true_or, Bool.or_true, Bool.false_or, Bool.not_true, Bool.not_false, q1, q0] <;> with_reducible rfl) ?_
    refine g_end (by simp only [jG, jO, jN, seval, vint, qA, q1, q0, hx, Bool.true_or] <;> with_reducible rfl) (by decide) (by repeat (first | exact Fin.base _ | with_reducible apply Fin.keep | apply Fin.drop)) ?_
    repeat (refine awp_seq ?_)
    refine awp_cond_true rfl (by simp only [jN, seval, vint, qA, q1, q0, hx, Bool.true_or] <;> with_reducible rfl) ?_
    refine awp_sel [] (by simp only [jN, seval, vint, qA, q1, q0, hx, Bool.true_or] <;> with_reducible rfl) ?_
    repeat (refine awp_seq ?_)
    refine e_eval (by simp only [jA, jO, jN, seval, vint, qA, q1, q0, hx, Bool.true_or] <;> with_reducible rfl) (by decide) ?_
    repeat (refine awp_seq ?_)
    refine awp_ret ⟨.inr rfl, _, _, rfl, ?_, (by first | exact (List.append_nil _).symm | rfl)⟩
    rw [hT]
    simp only [jN, seval, vint, qA]
  ·
    have hx : decide (a < 0) = false := decide_eq_false h
    have hx2 : decide (a ≥ (c.r.syms.length : Int)) = true := decide_eq_true h5
    have hT : traitIx c.r.syms a = -1 := by unfold traitIx; rw [if_pos (Or.inl (by omega))]
    repeat (refine awp_seq ?_)
    refine awp_region ?_
    refine aops_gstart ?_
    refine g_take 19 (by simp only [jG, jO, jN, seval, y3, y52, y56, y117, y130, vint, qA, q1, q0, hx, hx2, Bool.false_or, Bool.true_or] <;> with_reducible rfl) (by decide) ?_
    refine aops_gskip (r := .tup []) (by simp only [jE, jN, seval, vint, qA, hx, hx2, Bool.true_or, Bool.or_true, Bool.false_or, Bool.not_true, Bool.not_false, q1, q0] <;> with_reducible rfl) ?_
    refine aops_gskip (r := .tup []) (by simp only [jE, jN, seval, vint, qA, hx, hx2, Bool.true_or, Bool.or_true, Bool.false_or, Bool.not_true, Bool.not_false, q1, q0] <;> with_reducible rfl) ?_
    refine aops_gskip (r := .tup []) (by simp only [jE, jN, seval, vint, qA, hx, hx2, Bool.true_or, Bool.or_true, Bool.false_or, Bool.not_true, Bool.not_false, q1, q0] <;> with_reducible rfl) ?_
    refine aops_gskip (r := .tup []) (by simp only [jE, jN, seval, vint, qA, hx, hx2, Bool.true_or, Bool.or_true, Bool.false_or, Bool.not_true, Bool.not_false, q1, q0] <;> with_reducible rfl) ?_
    refine g_end (by simp only [jG, jO, jN, seval, vint, qA, q1, q0, hx, hx2, Bool.false_or, Bool.true_or] <;> with_reducible rfl) (by decide) (by repeat (first | exact Fin.base _ | with_reducible apply Fin.keep | apply Fin.drop)) ?_
    repeat (refine awp_seq ?_)
    refine awp_cond_true rfl (by simp only [jN, seval, vint, qA, q1, q0, hx, hx2, Bool.false_or, Bool.true_or] <;> with_reducible rfl) ?_
    refine awp_sel [] (by simp only [jN, seval, vint, qA, q1, q0, hx, hx2, Bool.false_or, Bool.true_or] <;> with_reducible rfl) ?_
    repeat (refine awp_seq ?_)
    refine e_eval (by simp only [jA, jO, jN, seval, vint, qA, q1, q0, hx, hx2, Bool.false_or, Bool.true_or] <;> with_reducible rfl) (by decide) ?_
    repeat (refine awp_seq ?_)
    refine awp_ret ⟨.inr rfl, _, _, rfl, ?_, (by first | exact (List.append_nil _).symm | rfl)⟩
    rw [hT]
    simp only [jN, seval, vint, qA]
  ·
    have hx : decide (a < 0) = false := decide_eq_false (by omega)
    have hx2 : decide (a ≥ (c.r.syms.length : Int)) = false := decide_eq_false (by omega)
    have ga : ((0 : Int) ≤ a ∧ a < (c.r.syms).length) = True := by simp; omega
    have gl : (a).toNat < (c.r.syms).length := by omega
    obtain ⟨s, se⟩ : ∃ z_, (c.r.syms)[(a).toNat] = z_ := ⟨_, rfl⟩
    have gb := get_enc Sy.enc gl
    rw [se] at gb
    have gd : (c.r.syms).getD (a).toNat .zero = s := by rw [List.getD_eq_getElem?_getD, List.getElem?_eq_getElem gl, se]; rfl
    repeat (refine awp_seq ?_)
    refine g_eval (by simp only [jG, jO, jN, seval, y3, y52, y56, y117, y130, vint, qA, q1, q0, hx, hx2, Bool.false_or, ga, gb] <;> with_reducible rfl) (by decide) (by repeat (first | exact Fin.base _ | with_reducible apply Fin.keep | apply Fin.drop)) ?_
    repeat (refine awp_seq ?_)
    refine awp_cond rfl (by simp only [jN, seval, vint, qA, q1, q0, hx, hx2, Bool.false_or, ga, gb] <;> with_reducible rfl) (fun b2 => ?_) (fun b2 => ?_)
    ·
      have hT : traitIx c.r.syms a = -1 := by unfold traitIx; rw [gd, if_pos (Or.inr (by simpa using b2))]
      refine awp_sel [] (by simp only [jN, seval, vint, qA, q1, q0, hx, hx2, Bool.false_or, ga, gb] <;> with_reducible rfl) ?_
      repeat (refine awp_seq ?_)
      refine e_eval (by simp only [jA, jO, jN, seval, vint, qA, q1, q0, hx, hx2, Bool.false_or, ga, gb] <;> with_reducible rfl) (by decide) ?_
      repeat (refine awp_seq ?_)
      refine awp_ret ⟨.inr rfl, _, _, rfl, ?_, (by first | exact (List.append_nil _).symm | rfl)⟩
      rw [hT]
      simp only [jN, seval, vint, qA]
    ·
      have hk1 : ¬ (¬ (0 ≤ a ∧ a < c.r.syms.length) ∨ s.kind ≠ 13) := by simp at b2; simp [b2]; omega
      repeat (refine awp_seq ?_)
      refine awp_skip ?_
      refine awp_sel [0, 1] (by simp only [jN, seval, vint, qA, q1, q0, hx, hx2, Bool.false_or, ga, gb] <;> with_reducible rfl) ?_
      repeat (refine awp_seq ?_)
      refine e_eval (by simp only [jA, jO, jN, seval, y3, y52, y56, y117, y130, vint, qA, q1, q0, hx, hx2, Bool.false_or, ga, gb, ga, gb] <;> with_reducible rfl) (by decide) ?_
      rcases (by omega : s.par < 0 ∨ (¬ s.par < 0 ∧ (s.par : Int) ≥ c.r.syms.length) ∨ (0 ≤ s.par ∧ s.par < c.r.syms.length)) with h | ⟨h, h5⟩ | ⟨h, h5⟩
      ·
        have hx : decide (s.par < 0) = true := decide_eq_true h
        have hx2 : True = True := rfl
        have hT : traitIx c.r.syms a = -1 := by unfold traitIx; rw [gd, if_neg hk1, if_pos (Or.inl (by omega))]
        repeat (refine awp_seq ?_)
        refine awp_region ?_
        refine aops_gstart ?_
        refine g_take 19 (by simp only [jG, jO, jN, seval, y3, y52, y56, y117, y130, vint, qA, q1, q0, hx, hx2, Bool.false_or, ga, gb, hx, Bool.true_or] <;> with_reducible rfl) (by decide) ?_
        refine aops_gskip (r := .tup []) (by simp only [jE, jN, seval, vint, qA, hx, hx2, Bool.true_or, Bool.or_true, Bool.false_or, Bool.not_true, Bool.not_false, q1, q0, ga, gb] <;> with_reducible rfl) ?_
        refine aops_gskip (r := .tup []) (by simp only [jE, jN, seval, vint, qA, hx, hx2, Bool.true_or, Bool.or_true, Bool.false_or, Bool.not_true, Bool.not_false, q1, q0, ga, gb] <;> with_reducible rfl) ?_
        refine aops_gskip (r := .tup []) (by simp only [jE, jN, seval, vint, qA, hx, hx2, Bool.true_or, Bool.or_true, Bool.false_or, Bool.not_true, Bool.not_false, q1, q0, ga, gb] <;> with_reducible rfl) ?_
        refine aops_gskip (r := .tup []) (by simp only [jE, jN, seval, vint, qA, hx, hx2, Bool.true_or, Bool.or_true, Bool.false_or, Bool.not_true, Bool.not_false, q1, q0, ga, gb] <;> with_reducible rfl) ?_
        refine g_end (by simp only [jG, jO, jN, seval, vint, qA, q1, q0, hx, hx2, Bool.false_or, ga, gb, hx, Bool.true_or] <;> with_reducible rfl) (by decide) (by repeat (first | exact Fin.base _ | with_reducible apply Fin.keep | apply Fin.drop)) ?_
        repeat (refine awp_seq ?_)
        refine awp_cond_true rfl (by simp only [jN, seval, vint, qA, q1, q0, hx, hx2, Bool.false_or, ga, gb, hx, Bool.true_or] <;> with_reducible rfl) ?_
        refine awp_sel [] (by simp only [jN, seval, vint, qA, q1, q0, hx, hx2, Bool.false_or, ga, gb, hx, Bool.true_or] <;> with_reducible rfl) ?_
        repeat (refine awp_seq ?_)
        refine e_eval (by simp only [jA, jO, jN, seval, vint, qA, q1, q0, hx, hx2, Bool.false_or, ga, gb, hx, Bool.true_or] <;> with_reducible rfl) (by decide) ?_
        repeat (refine awp_seq ?_)
        refine awp_ret ⟨.inr rfl, _, _, rfl, ?_, (by first | exact (List.append_nil _).symm | rfl)⟩
        rw [hT]
        simp only [jN, seval, vint, qA]
      ·
        have hx : decide (s.par < 0) = false := decide_eq_false h
        have hx2 : decide (s.par ≥ (c.r.syms.length : Int)) = true := decide_eq_true h5
        have hT : traitIx c.r.syms a = -1 := by unfold traitIx; rw [gd, if_neg hk1, if_pos (Or.inl (by omega))]
        repeat (refine awp_seq ?_)
        refine awp_region ?_
        refine aops_gstart ?_
        refine g_take 19 (by simp only [jG, jO, jN, seval, y3, y52, y56, y117, y130, vint, qA, q1, q0, hx, hx2, Bool.false_or, ga, gb, hx, hx2, Bool.false_or, Bool.true_or] <;> with_reducible rfl) (by decide) ?_
        refine aops_gskip (r := .tup []) (by simp only [jE, jN, seval, vint, qA, hx, hx2, Bool.true_or, Bool.or_true, Bool.false_or, Bool.not_true, Bool.not_false, q1, q0, ga, gb] <;> with_reducible rfl) ?_
        refine aops_gskip (r := .tup []) (by simp only [jE, jN, seval, vint, qA, hx, hx2, Bool.true_or, Bool.or_true, Bool.false_or, Bool.not_true, Bool.not_false, q1, q0, ga, gb] <;> with_reducible rfl) ?_
        refine aops_gskip (r := .tup []) (by simp only [jE, jN, seval, vint, qA, hx, hx2, Bool.true_or, Bool.or_true, Bool.false_or, Bool.not_true, Bool.not_false, q1, q0, ga, gb] <;> with_reducible rfl) ?_
        refine aops_gskip (r := .tup []) (by simp only [jE, jN, seval, vint, qA, hx, hx2, Bool.true_or, Bool.or_true, Bool.false_or, Bool.not_true, Bool.not_false, q1, q0, ga, gb] <;> with_reducible rfl) ?_
        refine g_end (by simp only [jG, jO, jN, seval, vint, qA, q1, q0, hx, hx2, Bool.false_or, ga, gb, hx, hx2, Bool.false_or, Bool.true_or] <;> with_reducible rfl) (by decide) (by repeat (first | exact Fin.base _ | with_reducible apply Fin.keep | apply Fin.drop)) ?_
        repeat (refine awp_seq ?_)
        refine awp_cond_true rfl (by simp only [jN, seval, vint, qA, q1, q0, hx, hx2, Bool.false_or, ga, gb, hx, hx2, Bool.false_or, Bool.true_or] <;> with_reducible rfl) ?_
        refine awp_sel [] (by simp only [jN, seval, vint, qA, q1, q0, hx, hx2, Bool.false_or, ga, gb, hx, hx2, Bool.false_or, Bool.true_or] <;> with_reducible rfl) ?_
        repeat (refine awp_seq ?_)
        refine e_eval (by simp only [jA, jO, jN, seval, vint, qA, q1, q0, hx, hx2, Bool.false_or, ga, gb, hx, hx2, Bool.false_or, Bool.true_or] <;> with_reducible rfl) (by decide) ?_
        repeat (refine awp_seq ?_)
        refine awp_ret ⟨.inr rfl, _, _, rfl, ?_, (by first | exact (List.append_nil _).symm | rfl)⟩
        rw [hT]
        simp only [jN, seval, vint, qA]
      ·
        have hx : decide (s.par < 0) = false := decide_eq_false (by omega)
        have hx2 : decide (s.par ≥ (c.r.syms.length : Int)) = false := decide_eq_false (by omega)
        have ka : ((0 : Int) ≤ s.par ∧ s.par < (c.r.syms).length) = True := by simp; omega
        have kl : (s.par).toNat < (c.r.syms).length := by omega
        obtain ⟨p, pe⟩ : ∃ z_, (c.r.syms)[(s.par).toNat] = z_ := ⟨_, rfl⟩
        have kb := get_enc Sy.enc kl
        rw [pe] at kb
        have kd : (c.r.syms).getD (s.par).toNat .zero = p := by rw [List.getD_eq_getElem?_getD, List.getElem?_eq_getElem kl, pe]; rfl
        repeat (refine awp_seq ?_)
        refine g_eval (by simp only [jG, jO, jN, seval, y3, y52, y56, y117, y130, vint, qA, q1, q0, hx, hx2, Bool.false_or, ga, gb, hx, hx2, Bool.false_or, ka, kb] <;> with_reducible rfl) (by decide) (by repeat (first | exact Fin.base _ | with_reducible apply Fin.keep | apply Fin.drop)) ?_
        repeat (refine awp_seq ?_)
        refine awp_cond rfl (by simp only [jN, seval, vint, qA, q1, q0, hx, hx2, Bool.false_or, ga, gb, hx, hx2, Bool.false_or, ka, kb] <;> with_reducible rfl) (fun b5 => ?_) (fun b5 => ?_)
        ·
          have hT : traitIx c.r.syms a = -1 := by unfold traitIx; rw [gd, if_neg hk1, kd, if_pos (Or.inr (by simpa using b5))]
          refine awp_sel [] (by simp only [jN, seval, vint, qA, q1, q0, hx, hx2, Bool.false_or, ga, gb, hx, hx2, Bool.false_or, ka, kb] <;> with_reducible rfl) ?_
          repeat (refine awp_seq ?_)
          refine e_eval (by simp only [jA, jO, jN, seval, vint, qA, q1, q0, hx, hx2, Bool.false_or, ga, gb, hx, hx2, Bool.false_or, ka, kb] <;> with_reducible rfl) (by decide) ?_
          repeat (refine awp_seq ?_)
          refine awp_ret ⟨.inr rfl, _, _, rfl, ?_, (by first | exact (List.append_nil _).symm | rfl)⟩
          rw [hT]
          simp only [jN, seval, vint, qA]
        ·
          have hT : traitIx c.r.syms a = s.par := by unfold traitIx; rw [gd, if_neg hk1, kd, if_neg (by simp at b5; simp [b5]; omega)]
          repeat (refine awp_seq ?_)
          refine awp_skip ?_
          refine awp_sel [5] (by simp only [jN, seval, vint, qA, q1, q0, hx, hx2, Bool.false_or, ga, gb, hx, hx2, Bool.false_or, ka, kb] <;> with_reducible rfl) ?_
          repeat (refine awp_seq ?_)
          refine e_eval (by simp only [jA, jO, jN, seval, vint, qA, q1, q0, hx, hx2, Bool.false_or, ga, gb, hx, hx2, Bool.false_or, ka, kb] <;> with_reducible rfl) (by decide) ?_
          repeat (refine awp_seq ?_)
          refine awp_ret ⟨.inr rfl, _, _, rfl, ?_, (by first | exact (List.append_nil _).symm | rfl)⟩
          rw [hT]
          simp only [jN, seval, vint, qA]

end Go.Abs
set_option maxRecDepth 4000
namespace Go.Abs
open Go.Proofs

theorem indexFuncSy {f : FuncId} {caps : List PV} {H : Heap} {us : List Sy} {p : Sy → Bool} (hc : CloB Try.prog Sy.enc f caps H us p) (hl : us.length ≤ maxLen) : ACalls Try.prog 147 [.slice (us.map Sy.enc) .none, .fn (.func f) [] caps] H fun r' H' => r' = vint (idxI p us) ∧ H' = H := by
  have hgo := hc.go
  refine keeps_of (N := 19) Try.func147 rfl rfl (by simp) (.int _ _) fun hb' => ?_
  repeat (refine awp_seq ?_)
  refine e_eval (by simp only [jA, jO, jN, seval, vint, qA] <;> with_reducible rfl) (by decide) ?_
  repeat (refine awp_seq ?_)
  refine e_eval (by simp only [jA, jO, jN, seval, y52, y117, vint, qA] <;> with_reducible rfl) (by decide) ?_
  repeat (refine awp_seq ?_)
  refine awp_forS (σ := Unit) (us.length) (fun (s : Unit) => [(0, .slice (us.map Sy.enc) .none), (1, .fn (.func f) [] caps)]) [0, 1] (H) (fun (s : Unit) => []) (fun (i : Nat) (s : Unit) => (us.take i).any p = false) (()) ([]) rfl rfl rfl rfl rfl rfl rfl rfl rfl (by decide) (by decide) (by decide) (fun _ => rfl) (hl) ⟨(by first | rfl | (simp only [jN, seval, vint, qA] <;> first | done | with_reducible rfl)), (by first | rfl | (simp only [jN, seval, vint, qA] <;> first | done | with_reducible rfl)), (by first | rfl | (simp only [jN, seval, vint, qA] <;> first | done | with_reducible rfl)), (by first | rfl | (simp only [jN, seval, vint, qA] <;> first | done | with_reducible rfl)), trivial⟩ (by first | rfl | (simp only [jN, seval, vint, qA] <;> first | done | with_reducible rfl)) (by simp) (fun _ _ _ => by first | exact Nat.zero_le _ | (simp only [List.length_append]; omega)) ?_ ?_ ?_
  · exact fun i s hg => ⟨by simp only [List.append_nil]; exact hb', .cons (bel_Sy _ _) (.cons (.fn _ _ _ (by simp) (fun c hc' => (hc.bel c hc').mono (by simp))) .nil)⟩
  · intro i s hi hg
    have g1 := ix_nat hi
    have g2 := get_enc Sy.enc hi
    repeat (refine awp_seq ?_)
    refine e_eval (by simp only [jA, jO, jN, seval, vint, qA, g1, Int.toNat_natCast, g2] <;> with_reducible rfl) (by decide) ?_
    repeat (refine awp_seq ?_)
    refine awp_region ?_
    refine e_take 5 (by simp only [jA, jO, jN, seval, y52, y117, vint, qA, g1, Int.toNat_natCast, g2] <;> with_reducible rfl) (by decide) ?_
    refine aops_pure (by simp only [jC, jN, seval, vint, qA, g1, Int.toNat_natCast, g2] <;> with_reducible rfl) (by simp only [jC, jN, seval, vint, qA, g1, Int.toNat_natCast, g2]) (by decide) (by assumption) (hc.call _ (List.getElem_mem hi)) ?_
    refine aops_nil ?_
    repeat (refine awp_seq ?_)
    refine awp_cond rfl (by simp only [jN, seval, vint, qA, g1, Int.toNat_natCast, g2] <;> with_reducible rfl) (fun b0 => ?_) (fun b0 => ?_)
    ·
      repeat (refine awp_seq ?_)
      refine e_eval (by simp only [jA, jO, jN, seval, vint, qA, g1, Int.toNat_natCast, g2] <;> with_reducible rfl) (by decide) ?_
      repeat (refine awp_seq ?_)
      refine awp_ret ⟨.inr rfl, _, _, rfl, ?_, (by first | exact (List.append_nil _).symm | rfl)⟩
      rw [idxI_at hi b0 hg]; rfl
    ·
      repeat (refine awp_seq ?_)
      refine awp_skip ?_
      exact ⟨⟨rfl, rfl, trivial⟩, (), [], ⟨rfl, rfl, trivial⟩, by simp only [List.append_nil], any_take_succ hi hg b0⟩
  · intro s hg
    rw [List.take_length] at hg
    repeat (refine awp_seq ?_)
    refine e_eval (by simp only [jA, jO, jN, seval, vint, qA] <;> with_reducible rfl) (by decide) ?_
    repeat (refine awp_seq ?_)
    refine awp_ret ⟨.inr rfl, _, _, rfl, ?_, (by first | exact (List.append_nil _).symm | rfl)⟩
    rw [idxI_none hg]; rfl

theorem memP1 (c : NC) (b : Bool) (p : Pf) (u : Ty) (H : Heap) (im i1 i2 i3 : Nat) (h0 : H[im]? = some (c.row b)) (h1 : H[i1]? = some (.row p.enc.cells)) (h2 : H[i2]? = some (.row [.optr im 0])) (h3 : H[i3]? = some (.row u.enc.cells)) (hu : 0 ≤ u.id ∧ u.id < c.r.syms.length) (s : Sy) :
    ACalls Try.prog 148 [s.enc, .optr i1 0, .optr i2 0, .optr i3 0] H fun r' H' => r' = .bool (memP p.im (c.r.syms.getD u.id.toNat .zero).name s) ∧ H' = H := by
  simp only [PfS, TyS] at h1 h3
  have l1 := len_of_get h1
  have l2 := len_of_get h2
  have l3 := len_of_get h3
  have l0 := len_of_get h0
  have q0 : ∀ L, (H ++ L)[im]? = some (.row [.slice (c.r.syms.map Sy.enc) .none, .slice (c.r.refs.map Rf.enc) .none, .slice (c.r.dgs.map Dg.enc) .none, .slice (c.ds.map Dc.enc) .none, .slice (c.sas.map TB.enc) .none, .bool b]) := fun L => by rw [List.getElem?_append_left l0]; exact h0
  have q1 : ∀ L, (H ++ L)[i1]? = some (.row [.int .i64 p.t.kind, .int .i64 p.t.id, .slice (p.t.args.map Ty.enc) .none, .int .i64 p.tr, .int .i64 p.im, .int .i64 p.bd, .slice (p.args.map Ty.enc) .none, .slice (p.prems.map Pf.enc) .none]) := fun L => by rw [List.getElem?_append_left l1]; exact h1
  have q2 : ∀ L, (H ++ L)[i2]? = some (.row [.optr im 0]) := fun L => by rw [List.getElem?_append_left l2]; exact h2
  have q3 : ∀ L, (H ++ L)[i3]? = some (.row [.int .i64 u.kind, .int .i64 u.id, .slice (u.args.map Ty.enc) .none]) := fun L => by rw [List.getElem?_append_left l3]; exact h3
  have ga : ((0 : Int) ≤ u.id ∧ u.id < (c.r.syms).length) = True := by simp; omega
  have gl : (u.id).toNat < (c.r.syms).length := by omega
  obtain ⟨v, ve⟩ : ∃ z_, (c.r.syms)[(u.id).toNat] = z_ := ⟨_, rfl⟩
  have gb := get_enc Sy.enc gl
  rw [ve] at gb
  have gd : (c.r.syms).getD (u.id).toNat .zero = v := by rw [List.getD_eq_getElem?_getD, List.getElem?_eq_getElem gl, ve]; rfl
  refine keeps_of (N := 31) Try.func148 rfl rfl (by simp) (.bool _) fun hb' => ?_
  repeat (refine awp_seq ?_)
  refine e_eval (by simp only [jA, jO, jN, seval, y117, vint, qA, q0, q1, q2, q3, ga, gb] <;> with_reducible rfl) (by decide) ?_
  repeat (refine awp_seq ?_)
  refine dp_draw (by kernel_rfl) ?_
  refine dp_end (by simp only [jP, jO, jN, seval, y3, y9, y24, y52, y56, y63, y117, y128, y130, vint, qA, q0, q1, q2, q3, ga, gb] <;> with_reducible rfl) (by decide) (by repeat (first | exact Fin.base _ | with_reducible apply Fin.keep | apply Fin.drop)) ?_
  repeat (refine awp_seq ?_)
  refine awp_ret ⟨.inr rfl, _, _, rfl, ?_, (by first | exact (List.append_nil _).symm | rfl)⟩
  rw [gd]
  simp only [jN, seval, vint, qA]
  rfl

end Go.Abs
namespace Go.Abs
def showD : List Dc := [⟨[], .mk 0 0 [], -1, [], []⟩, ⟨[], .mk 3 0 [], 0, [], []⟩, ⟨[3], .mk 7 9 [.mk 2 3 []], 0, [⟨.mk 2 3 [], 0⟩], []⟩]
def showP (n : Nat) : Pf := match n with
  | 0 => .mk (.mk 3 0 []) 0 1 (-1) [] []
  | n + 1 => .mk (.mk 0 0 []) 0 0 0 [] []
theorem idx_none (f : TB → Bool) : idxI f [] = -1 := rfl
theorem impl_int : implIx showD (.mk 3 0 []) 0 = 1 := by
  simp [implIx, showD, idxI, List.findIdx?_cons, implP, matchP, matchT, Ty.kind, Ty.id, Ty.args, mS0, matchL, cpar]
theorem impl_bool : implIx showD (.mk 4 0 []) 0 = -1 := by
  simp [implIx, showD, idxI, List.findIdx?_cons, implP, matchP, matchT, Ty.kind, Ty.id, Ty.args, mS0, matchL, cpar]
theorem impl_list (u : Ty) : implIx showD (.mk 7 9 [u]) 0 = 2 := by
  simp [implIx, showD, idxI, List.findIdx?_cons, implP, matchP, matchT, Ty.kind, Ty.id, Ty.args, mS0, matchL, cpar]
theorem args_int : implAs showD (.mk 3 0 []) 0 = [] := by
  unfold implAs implD; rw [impl_int]; simp [showD, matchP, matchT, Ty.kind, Ty.id, Ty.args, mS0, matchL]
theorem args_list (u : Ty) : implAs showD (.mk 7 9 [u]) 0 = [u] := by
  unfold implAs implD; rw [impl_list]; simp [showD, matchP, matchT, Ty.kind, Ty.id, Ty.args, mS0, matchL, idxI, List.findIdx?_cons]
theorem app_p (u : Ty) : mapT (appG [3] [u]) (.mk 2 3 []) = u := by
  rw [mapT_eq]; simp [appG, Ty.kind, Ty.id, idxI, List.findIdx?_cons]
theorem solve_int (n : Nat) : solveT showD [] (n + 1) (.mk 3 0 []) 0 = (.mk (.mk 3 0 []) 0 1 (-1) [] [], true) := by
  rw [solveT]; simp [impl_int, args_int, idx_none, Ty.kind, implD]; simp [showD]
theorem solve_bool (n : Nat) : (solveT showD [] n (.mk 4 0 []) 0).2 = false := by
  cases n with
  | zero => rfl
  | succ n => rw [solveT]; simp [impl_bool, idx_none, Ty.kind]
theorem solve_list (n : Nat) (u : Ty) : solveT showD [] (n + 1) (.mk 7 9 [u]) 0 = if (solveT showD [] n u 0).2 = true then (.mk (.mk 7 9 [u]) 0 2 (-1) [u] [(solveT showD [] n u 0).1], true) else (.zero, false) := by
  have hD : implD showD (.mk 7 9 [u]) 0 = ⟨[3], .mk 7 9 [.mk 2 3 []], 0, [⟨.mk 2 3 [], 0⟩], []⟩ := by unfold implD; rw [impl_list]; rfl
  rw [solveT]; simp [impl_list, args_list, idx_none, Ty.kind, hD, app_p]
theorem solve_show : solveT showD [] 8 (.mk 7 9 [.mk 7 9 [.mk 3 0 []]]) 0 = (.mk (.mk 7 9 [.mk 7 9 [.mk 3 0 []]]) 0 2 (-1) [.mk 7 9 [.mk 3 0 []]] [.mk (.mk 7 9 [.mk 3 0 []]) 0 2 (-1) [.mk 3 0 []] [.mk (.mk 3 0 []) 0 1 (-1) [] []]], true) := by
  rw [solve_list, solve_list, solve_int]; simp
theorem solve_wrong : (solveT showD [] 8 (.mk 7 9 [.mk 4 0 []]) 0).2 = false := by
  rw [solve_list]; simp [solve_bool]
theorem showD_W : ∀ d ∈ showD, d.W ∧ d.ps.length * 40 ≤ 2 ^ 47 := by
  intro d hd
  simp only [showD, List.mem_cons, List.not_mem_nil, or_false] at hd
  rcases hd with rfl | rfl | rfl <;> simp [Dc.W, Ty.W_iff, TB.W]
theorem show_P : checkT showD [] 4 (.mk (.mk 7 9 [.mk 7 9 [.mk 3 0 []]]) 0 2 (-1) [.mk 7 9 [.mk 3 0 []]] [.mk (.mk 7 9 [.mk 3 0 []]) 0 2 (-1) [.mk 3 0 []] [.mk (.mk 3 0 []) 0 1 (-1) [] []]]) = true := by
  have := solve_check showD [] 8 (.mk 7 9 [.mk 7 9 [.mk 3 0 []]]) 0 4 (by simp [Ty.W_iff]) (fun d hd => (showD_W d hd).1)
  rw [solve_show] at this
  exact this rfl (by simp [Pf.size, pfSizes])
end Go.Abs
set_option maxRecDepth 4000
namespace Go.Abs
open Go.Proofs

theorem implAs_len {ds : List Dc} {t : Ty} {tr : Int} (ht : t.W) (hd : ∀ d ∈ ds, d.B) : (implAs ds t tr).length * 40 ≤ 2 ^ 47 := by
  unfold implAs
  split
  · rename_i h
    obtain ⟨hg, hp⟩ := implD_get h
    unfold implP at hp
    simp only [Bool.and_eq_true] at hp
    rw [(match_apply _ _ _ ht hp.2).1]
    exact (hd _ (List.mem_of_getElem? hg)).2
  · simp
theorem solve_W {ds : List Dc} {sas : List TB} (hd : ∀ d ∈ ds, d.B) : ∀ (n : Nat) (t : Ty) (tr : Int), t.W → (solveT ds sas n t tr).1.W := by
  have hz : Pf.zero.W := by simp [Pf.zero, Pf.W_iff, Ty.W_iff]
  intro n
  induction n with
  | zero => intro t tr _; exact hz
  | succ n ih =>
    intro t tr ht
    rw [solveT]
    split
    · exact hz
    · split
      · simp [Pf.W_iff, ht]
      · split
        · exact hz
        · rename_i h3
          split
          · rw [Pf.W_iff]
            refine ⟨ht, implAs_len ht hd, implAs_W ht, by rw [List.length_map]; omega, fun u hu => ?_⟩
            obtain ⟨b, hb, rfl⟩ := List.mem_map.1 hu
            obtain ⟨hg, _⟩ := implD_get (ds := ds) (t := t) (tr := tr) (by omega)
            exact ih _ _ (app_W (implAs_W ht) ((hd _ (List.mem_of_getElem? hg)).1.el_bs b hb).st_t)
          · exact hz
theorem checkT_s (ds : List Dc) (sas : List TB) (n : Nat) (p : Pf) : checkT ds sas (n + 1) p =
    if p.im = -1 then
      decide (0 ≤ p.bd ∧ p.bd < sas.length) && p.args.isEmpty && p.prems.isEmpty && (match sas[p.bd.toNat]? with | some b => decide (b.tr = p.tr) && b.t.eqb p.t | none => false)
    else if p.bd ≠ -1 ∨ p.im < 0 ∨ (ds.length : Int) ≤ p.im ∨ p.tr < 0 then false
    else match ds[p.im.toNat]? with
      | none => false
      | some d => decide (d.tr = p.tr) && decide (p.args.length = d.ps.length) && decide (p.prems.length = d.bs.length) && (mapT (appG d.ps p.args) d.t).eqb p.t &&
        ((d.bs.zip p.prems).all fun x => decide (x.2.tr = x.1.tr) && x.2.t.eqb (mapT (appG d.ps p.args) x.1.t) && checkT ds sas n x.2) := rfl
theorem solve_8 (ds : List Dc) (sas : List TB) (hl : ds.length ≤ maxLen) (hd : ∀ d ∈ ds, d.B) (hsl : sas.length ≤ maxLen) (hs : ∀ b ∈ sas, b.W) (t : Ty) (tr : Int) (ht : t.W) : PC Try.prog 100 [(Sv.mk ds sas).enc, t.enc, vint tr, .int .i64 8] (.tup [(solveT ds sas 8 t tr).1.enc, .bool (solveT ds sas 8 t tr).2]) :=
  solve_k ds sas hl hd hsl hs 8 t tr (by omega) ht
theorem solve_zero (ds : List Dc) (sas : List TB) (n : Nat) (t : Ty) (tr : Int) (h : (solveT ds sas n t tr).2 = false) : (solveT ds sas n t tr).1 = Pf.zero := by
  cases n with
  | zero => rfl
  | succ n =>
    rw [solveT] at h ⊢
    repeat' split
    all_goals simp_all
theorem isE {α : Type} (l : List α) : l.isEmpty = !decide (0 < l.length) := by cases l <;> simp

theorem solve_c (ds : List Dc) (sas : List TB) (t : Ty) (tr : Int) (hl : ds.length ≤ maxLen) (hd : ∀ d ∈ ds, d.B) (hsl : sas.length ≤ maxLen) (hs : ∀ b ∈ sas, b.W) (ht : t.W) : PC Try.prog 46 [.slice (ds.map Dc.enc) .none, .slice (sas.map TB.enc) .none, t.enc, vint tr] (.tup [(solveT ds sas 8 t tr).1.enc, .bool (solveT ds sas 8 t tr).2]) := by
  refine pc_of (N := 18) Try.func46 rfl rfl (by simp) (by simp [Ty.bel, Bel.int, bel_Dc, bel_TB]) (.tup _ (by simp [Pf.bel, Bel.bool])) ?_
  repeat (refine awp_seq ?_)
  refine e_eval (by simp only [jA, jO, jN, seval, y24, y63, vint, qT] <;> with_reducible rfl) (by decide) ?_
  repeat (refine awp_seq ?_)
  refine awp_region ?_
  refine e_take 5 (by simp only [jA, jO, jN, seval, y24, y123, vint, qT] <;> with_reducible rfl) (by decide) ?_
  refine aops_pure (by simp only [jC, jN, seval, vint, qT] <;> with_reducible rfl) (by simp only [jC, jN, seval, vint, qT]) (by decide) Trygo100 (solve_8 ds sas hl hd hsl hs t tr ht _) ?_
  refine e_end (by simp only [jA, jO, jN, seval, y63, vint, qT] <;> with_reducible rfl) (by decide) ?_
  repeat (refine awp_seq ?_)
  refine awp_ret ⟨.inr rfl, _, (ares_two (.cell 8 63) (.tmp 9) rfl (ares_cell1 Tryti63 (by decide) (by simp only [jL, jN, seval, vint, qT] <;> with_reducible rfl)) (ares_tmp1 (by decide))), ?_⟩
  simp only [jN, seval, vint, qT]

theorem check_k (ds : List Dc) (sas : List TB) (hl : ds.length ≤ maxLen) (hd : ∀ d ∈ ds, d.W) (hsl : sas.length ≤ maxLen) (hs : ∀ b ∈ sas, b.W) : ∀ (k : Nat) (p : Pf), p.size ≤ k → p.W → PC Try.prog 48 [.slice (ds.map Dc.enc) .none, .slice (sas.map TB.enc) .none, p.enc] (.bool (checkT ds sas k p))
  | 0, p, h, _ => by cases p; simp [Pf.size] at h
  | k + 1, p, h, hw => by
    rw [checkT_s]
    refine pc_of (N := 154) Try.func48 rfl rfl (by simp) (by simp [Pf.bel, bel_Dc, bel_TB]) (.bool _) ?_
    repeat (refine awp_seq ?_)
    refine e_eval (by simp only [jA, jO, jN, seval, y63, vint, qT] <;> with_reducible rfl) (by decide) ?_
    repeat (refine awp_seq ?_)
    refine e_eval (by simp only [jA, jO, jN, seval, y3, y63, vint, qT] <;> with_reducible rfl) (by decide) ?_
    repeat (refine awp_seq ?_)
    refine awp_cond rfl (by simp only [jN, seval, vint, qT] <;> with_reducible rfl) (fun b0 => ?_) (fun b0 => ?_)
    ·
      have him : p.im = -1 := of_decide_eq_true b0
      rw [if_pos him]
      repeat (refine awp_seq ?_)
      refine g_eval (by simp only [jG, jO, jN, seval, y3, y22, y24, y60, y61, y63, y74, vint, qT] <;> with_reducible rfl) (by decide) (by repeat (first | exact Fin.base _ | with_reducible apply Fin.keep | apply Fin.drop)) ?_
      repeat (refine awp_seq ?_)
      refine awp_cond rfl (by simp only [jN, seval, vint, qT] <;> with_reducible rfl) (fun b1 => ?_) (fun b1 => ?_)
      ·
        refine awp_sel [] (by simp only [jN, seval, vint, qT] <;> with_reducible rfl) ?_
        repeat (refine awp_seq ?_)
        refine e_eval (by simp only [jA, jO, jN, seval, vint, qT] <;> with_reducible rfl) (by decide) ?_
        repeat (refine awp_seq ?_)
        refine awp_ret ⟨.inr rfl, _, rfl, ?_⟩
        simp only [jN, seval, vint, qT, isE]
        congr 1
        grind
      ·
        have hb : (0 ≤ p.bd ∧ p.bd < sas.length) ∧ p.args.length = 0 ∧ p.prems.length = 0 := by simp at b1; grind
        have g1 : ((0 : Int) ≤ p.bd ∧ p.bd < sas.length) = True := by simp [hb]
        have hlt : p.bd.toNat < sas.length := by omega
        obtain ⟨b, hbe⟩ : ∃ b, sas[p.bd.toNat] = b := ⟨_, rfl⟩
        have g2 := get_enc TB.enc hlt
        rw [hbe] at g2
        have hbw : b.W := by rw [← hbe]; exact hs _ (List.getElem_mem hlt)
        repeat (refine awp_seq ?_)
        refine awp_skip ?_
        refine awp_sel [1, 5] (by simp only [jN, seval, vint, qT] <;> with_reducible rfl) ?_
        repeat (refine awp_seq ?_)
        refine e_eval (by simp only [jA, jO, jN, seval, y3, y60, y63, y74, vint, qT, g1, g2] <;> with_reducible rfl) (by decide) ?_
        repeat (refine awp_seq ?_)
        refine awp_region ?_
        refine aops_gstart ?_
        refine g_take 10 (by simp only [jG, jO, jN, seval, y3, y24, y63, y74, vint, qT, g1, g2] <;> with_reducible rfl) (by decide) ?_
        refine aops_gpure (by simp only [jE, jN, seval, vint, qT, g1, g2] <;> with_reducible rfl) (by simp only [jE, jN, seval, vint, qT, g1, g2] <;> with_reducible rfl) (by simp only [jE, jN, seval, vint, qT, g1, g2]) (by decide) Trygo23 (fun hc => equal_any b.t p.t hbw.st_t _) ?_
        refine g_end (by simp only [jG, jO, jN, seval, vint, qT, g1, g2] <;> with_reducible rfl) (by decide) (by repeat (first | exact Fin.base _ | with_reducible apply Fin.keep | apply Fin.drop)) ?_
        repeat (refine awp_seq ?_)
        refine awp_ret ⟨.inr rfl, _, rfl, ?_⟩
        have hg : sas[p.bd.toNat]? = some b := by rw [List.getElem?_eq_getElem hlt, hbe]
        simp only [jN, seval, vint, qT, isE, hg, hb]
        try simp [hb]
    ·
      have him : ¬ p.im = -1 := of_decide_eq_false b0
      rw [if_neg him]
      repeat (refine awp_seq ?_)
      refine awp_skip ?_
      repeat (refine awp_seq ?_)
      refine g_eval (by simp only [jG, jO, jN, seval, y3, y59, y63, y71, vint, qT] <;> with_reducible rfl) (by decide) (by repeat (first | exact Fin.base _ | with_reducible apply Fin.keep | apply Fin.drop)) ?_
      repeat (refine awp_seq ?_)
      refine awp_cond rfl (by simp only [jN, seval, vint, qT] <;> with_reducible rfl) (fun b2 => ?_) (fun b2 => ?_)
      ·
        refine awp_sel [] (by simp only [jN, seval, vint, qT] <;> with_reducible rfl) ?_
        repeat (refine awp_seq ?_)
        refine e_eval (by simp only [jA, jO, jN, seval, vint, qT] <;> with_reducible rfl) (by decide) ?_
        repeat (refine awp_seq ?_)
        refine awp_ret ⟨.inr rfl, _, rfl, ?_⟩
        have hq : p.bd ≠ -1 ∨ p.im < 0 ∨ (ds.length : Int) ≤ p.im ∨ p.tr < 0 := by simp at b2; omega
        rw [if_pos hq]
        simp only [jN, seval, vint, qT]
      ·
        have hq : ¬ (p.bd ≠ -1 ∨ p.im < 0 ∨ (ds.length : Int) ≤ p.im ∨ p.tr < 0) := by simp at b2; omega
        rw [if_neg hq]
        have g1 : ((0 : Int) ≤ p.im ∧ p.im < ds.length) = True := by simp; omega
        have hlt : p.im.toNat < ds.length := by omega
        obtain ⟨d, hde⟩ : ∃ d, ds[p.im.toNat] = d := ⟨_, rfl⟩
        have g2 := get_enc Dc.enc hlt
        rw [hde] at g2
        have hgd : ds[p.im.toNat]? = some d := by rw [List.getElem?_eq_getElem hlt, hde]
        rw [hgd]
        have hW : d.W := by rw [← hde]; exact hd _ (List.getElem_mem hlt)
        have hps := hW.max_ps
        have hpa := hw.el_args
        repeat (refine awp_seq ?_)
        refine awp_skip ?_
        refine awp_sel [0, 1, 5] (by simp only [jN, seval, vint, qT] <;> with_reducible rfl) ?_
        repeat (refine awp_seq ?_)
        refine e_eval (by simp only [jA, jO, jN, seval, y3, y59, y63, y71, vint, qT, g1, g2] <;> with_reducible rfl) (by decide) ?_
        repeat (refine awp_seq ?_)
        refine awp_drawW 0 (by kernel_rfl) ?_
        refine dops_gstart ?_
        refine gd_take (bm := [0, 1, 0, 4, 15, 31, 63, 127, 255, 63, 575, 1599, 4095, 8191, 16383, 32767, 65535, 131071, 32767, 294911, 819199, 2097151, 4194303, 8388607, 16777215, 33554431, 16777215, 83886079, 16777215, 285212671, 1073741823, 16777215, 2164260863, 8589934591, 17179869183, 34359738367]) 10 (fresh := 0) (by kernel_rfl) (by simp only [jH, jO, jN, seval, y3, y22, y24, y63, y71, vint, qT] <;> with_reducible rfl) (by decide) (by decide) ?_
        refine gd_take (bm := [0, 1, 0, 4, 15, 31, 63, 127, 255, 63, 575, 1599, 4095, 8191, 16383, 32767, 65535, 131071, 32767, 294911, 819199, 2097151, 4194303, 8388607, 16777215, 33554431, 16777215, 83886079, 16777215, 285212671, 1073741823, 16777215, 2164260863, 8589934591, 17179869183, 34359738367]) 10 (fresh := 0) (by kernel_rfl) (by simp only [jH, jO, jN, seval, y3, y25, y60, y61, y63, y71, y74, vint, qT] <;> with_reducible rfl) (by decide) (by decide) ?_
        refine gd_take (bm := [0, 1, 0, 4, 15, 31, 63, 127, 255, 63, 575, 1599, 4095, 8191, 16383, 32767, 65535, 131071, 32767, 294911, 819199, 2097151, 4194303, 8388607, 16777215, 33554431, 16777215, 83886079, 16777215, 285212671, 1073741823, 16777215, 2164260863, 8589934591, 17179869183, 34359738367]) 10 (fresh := 0) (by kernel_rfl) (by simp only [jH, jO, jN, seval, y3, y22, y24, y25, y60, y63, y71, y74, vint, qT] <;> with_reducible rfl) (by decide) (by decide) ?_
        refine dops_gkeep (bm := [0, 1, 0, 4, 15, 31, 63, 127, 255, 63, 575, 1599, 4095, 8191, 16383, 32767, 65535, 131071, 32767, 294911, 819199, 2097151, 4194303, 8388607, 16777215, 33554431, 16777215, 83886079, 16777215, 285212671, 1073741823, 16777215, 2164260863, 8589934591, 17179869183, 34359738367]) ([]) (by kernel_rfl) (by simp only [jE, jN, seval, vint, qT] <;> with_reducible rfl) (by simp only [jE, jN, seval, vint, qT] <;> with_reducible rfl) (by simp only [jE, jN, seval, vint, qT]) (by decide) Trygo24 (fun hc => fun H' _ => apply_c d.t d.ps p.args hW.st_t hps hpa H') (by simp only [jH, jO, jN, seval, vint, qT] <;> first | done | rfl) ?_
        refine gd_take (bm := [0, 1, 0, 4, 15, 31, 63, 127, 255, 63, 575, 1599, 4095, 8191, 16383, 32767, 65535, 131071, 32767, 294911, 819199, 2097151, 4194303, 8388607, 16777215, 33554431, 16777215, 83886079, 16777215, 285212671, 1073741823, 16777215, 2164260863, 8589934591, 17179869183, 34359738367]) 2 (fresh := 0) (by kernel_rfl) (by simp only [jH, jO, jN, seval, y24, y63, vint, qT] <;> with_reducible rfl) (by decide) (by decide) ?_
        refine dops_gkeep (bm := [0, 1, 0, 4, 15, 31, 63, 127, 255, 63, 575, 1599, 4095, 8191, 16383, 32767, 65535, 131071, 32767, 294911, 819199, 2097151, 4194303, 8388607, 16777215, 33554431, 16777215, 83886079, 16777215, 285212671, 1073741823, 16777215, 2164260863, 8589934591, 17179869183, 34359738367]) ([]) (by kernel_rfl) (by simp only [jE, jN, seval, vint, qT] <;> with_reducible rfl) (by simp only [jE, jN, seval, vint, qT] <;> with_reducible rfl) (by simp only [jE, jN, seval, vint, qT]) (by decide) Trygo23 (fun hc => fun H' _ => equal_any (mapT (appG d.ps p.args) d.t) p.t (app_W hpa hW.st_t) H') (by simp only [jH, jO, jN, seval, vint, qT] <;> first | done | rfl) ?_
        refine gd_end (bm := [0, 1, 0, 4, 15, 31, 63, 127, 255, 63, 575, 1599, 4095, 8191, 16383, 32767, 65535, 131071, 32767, 294911, 819199, 2097151, 4194303, 8388607, 16777215, 33554431, 16777215, 83886079, 16777215, 285212671, 1073741823, 16777215, 2164260863, 8589934591, 17179869183, 34359738367]) (fresh := 0) (by kernel_rfl) (by simp only [jH, jO, jN, seval, vint, qT] <;> with_reducible rfl) (by decide) (by repeat (first | exact Fin.base _ | with_reducible apply Fin.keep | apply Fin.drop)) ?_
        repeat (refine awp_seq ?_)
        refine awp_cond rfl (by simp only [jN, seval, vint, qT] <;> with_reducible rfl) (fun b3 => ?_) (fun b3 => ?_)
        ·
          refine awp_sel [] (by simp only [jN, seval, vint, qT] <;> with_reducible rfl) ?_
          repeat (refine awp_seq ?_)
          refine e_eval (by simp only [jA, jO, jN, seval, vint, qT] <;> with_reducible rfl) (by decide) ?_
          repeat (refine awp_seq ?_)
          refine awp_ret ⟨.inr rfl, _, rfl, ?_⟩
          simp only [jN, seval, vint, qT]
          congr 1
          grind
        ·
          have hq2 : d.tr = p.tr ∧ p.args.length = d.ps.length ∧ p.prems.length = d.bs.length ∧ (mapT (appG d.ps p.args) d.t).eqb p.t = true := by simp at b3; grind
          repeat (refine awp_seq ?_)
          refine awp_skip ?_
          refine awp_sel [0, 1, 5, 8] (by simp only [jN, seval, vint, qT] <;> with_reducible rfl) ?_
          repeat (refine awp_seq ?_)
          refine e_eval (by simp only [jA, jO, jN, seval, y60, y71, y74, vint, qT] <;> with_reducible rfl) (by decide) ?_
          repeat (refine awp_seq ?_)
          refine awp_forS (σ := Unit) (d.bs.length) (fun (s : Unit) => [(0, .slice (ds.map Dc.enc) .none), (1, .slice (sas.map TB.enc) .none), (5, .optr 0 0), (8, .optr 1 0), (116, .slice (d.bs.map TB.enc) .none)]) [0, 1, 5, 8, 116] ([]) (fun (s : Unit) => [.row p.enc.cells, .row d.enc.cells]) (fun (i : Nat) (s : Unit) => ((d.bs.zip p.prems).take i).all (fun x : TB × Pf => decide (x.2.tr = x.1.tr) && x.2.t.eqb (mapT (appG d.ps p.args) x.1.t) && checkT ds sas k x.2) = true) (()) ([]) rfl rfl rfl rfl rfl rfl rfl rfl rfl (by decide) (by decide) (by decide) (fun _ => rfl) (hW.max_bs) ⟨(by first | rfl | (simp only [jN, seval, vint, qT] <;> first | done | with_reducible rfl)), (by first | rfl | (simp only [jN, seval, vint, qT] <;> first | done | with_reducible rfl)), (by first | rfl | (simp only [jN, seval, vint, qT] <;> first | done | with_reducible rfl)), (by first | rfl | (simp only [jN, seval, vint, qT] <;> first | done | with_reducible rfl)), (by first | rfl | (simp only [jN, seval, vint, qT] <;> first | done | with_reducible rfl)), (by first | rfl | (simp only [jN, seval, vint, qT] <;> first | done | with_reducible rfl)), (by first | rfl | (simp only [jN, seval, vint, qT] <;> first | done | with_reducible rfl)), trivial⟩ (by first | rfl | (simp only [jN, seval, vint, qT] <;> first | done | with_reducible rfl)) (by simp) (fun _ _ _ => by first | exact Nat.zero_le _ | (simp only [List.length_append]; omega)) ?_ ?_ ?_
          · exact fun i s hg => ⟨by simp only [PfS, DcS, List.nil_append]; repeat (first | exact hbel_nil _ | exact trivial | exact obel_row_nil _ | (refine HBel.cons ?_ ?_) | (refine obel_row_cons (by first | exact bel_TB _ _ | exact TB.bel _ _ | exact bel_Dc _ _ | exact Dc.bel _ _ | exact Pf.bel _ _ | exact bel_Pf _ _ | exact Sv.bel _ _ | exact bel_Pf_tok _ (by simp) | exact bel_ints0 _ _ | exact bel_slice_ty _ _ | exact Ty.bel _ _ | exact bel_ty_tok _ (by simp) | exact Bel.int _ _ | exact Bel.bool _ | exact Bel.str _ | exact Bel.nilp | exact Bel.nilfn | exact Bel.optr _ _ (by simp) | exact bel_nil0 _ | exact bel_nil1 _ | exact bel_fn0 _ _ | assumption) ?_)), by repeat (first | exact BelL.nil | refine BelL.cons (by first | exact bel_TB _ _ | exact TB.bel _ _ | exact bel_Dc _ _ | exact Dc.bel _ _ | exact Pf.bel _ _ | exact bel_Pf _ _ | exact Sv.bel _ _ | exact bel_Pf_tok _ (by simp) | exact bel_ints0 _ _ | exact bel_slice_ty _ _ | exact Ty.bel _ _ | exact bel_ty_tok _ (by simp) | exact Bel.int _ _ | exact Bel.bool _ | exact Bel.str _ | exact Bel.nilp | exact Bel.nilfn | exact Bel.optr _ _ (by simp) | exact bel_nil0 _ | exact bel_nil1 _ | exact bel_fn0 _ _ | assumption) ?_)⟩
          · intro i s hi hg
            have g3 := ix_nat hi
            have g4 := get_enc TB.enc hi
            have hip : i < p.prems.length := by omega
            have g5 := ix_nat hip
            have g6 := get_enc Pf.enc hip
            have hbw := hW.el_bs _ (List.getElem_mem hi)
            have hmem : p.prems[i] ∈ p.prems := List.getElem_mem hip
            have hqw := hw.prems hmem
            have hqs := Pf.size_prems hmem
            obtain ⟨b, hbe⟩ : ∃ b, d.bs[i] = b := ⟨_, rfl⟩
            obtain ⟨q, hqe⟩ : ∃ q, p.prems[i] = q := ⟨_, rfl⟩
            rw [hbe] at g4 hbw
            rw [hqe] at g6 hqw hqs
            have hz : (d.bs.zip p.prems)[i]'(by simp; omega) = (b, q) := by simp [hbe, hqe]
            repeat (refine awp_seq ?_)
            refine e_eval (by simp only [jA, jO, jN, seval, y60, y74, vint, qT, g3, g4, g5, g6, Int.toNat_natCast] <;> with_reducible rfl) (by decide) ?_
            repeat (refine awp_seq ?_)
            refine e_eval (by simp only [jA, jO, jN, seval, y61, y63, vint, qT, g3, g4, g5, g6, Int.toNat_natCast] <;> with_reducible rfl) (by decide) ?_
            repeat (refine awp_seq ?_)
            refine awp_drawW 0 (by kernel_rfl) ?_
            refine dops_gstart ?_
            refine gd_take (bm := [0, 1, 0, 4, 15, 31, 63, 127, 63, 319, 63, 1087, 63, 4159, 16191, 32767, 65535, 131071, 262143, 524287, 524287, 524287, 4194303, 8388607, 16777215]) 10 (fresh := 0) (by kernel_rfl) (by simp only [jH, jO, jN, seval, y3, y24, y63, y74, vint, qT, g3, g4, g5, g6, Int.toNat_natCast] <;> with_reducible rfl) (by decide) (by decide) ?_
            refine gd_take (bm := [0, 1, 0, 4, 15, 31, 63, 127, 63, 319, 63, 1087, 63, 4159, 16191, 32767, 65535, 131071, 262143, 524287, 524287, 524287, 4194303, 8388607, 16777215]) 4 (fresh := 0) (by kernel_rfl) (by simp only [jH, jO, jN, seval, y3, y22, y24, y25, y63, y71, vint, qT, g3, g4, g5, g6, Int.toNat_natCast] <;> with_reducible rfl) (by decide) (by decide) ?_
            refine dops_gkeep (bm := [0, 1, 0, 4, 15, 31, 63, 127, 63, 319, 63, 1087, 63, 4159, 16191, 32767, 65535, 131071, 262143, 524287, 524287, 524287, 4194303, 8388607, 16777215]) ([]) (by kernel_rfl) (by simp only [jE, jN, seval, vint, qT, g3, g4, g5, g6, Int.toNat_natCast] <;> with_reducible rfl) (by simp only [jE, jN, seval, vint, qT, g3, g4, g5, g6, Int.toNat_natCast] <;> with_reducible rfl) (by simp only [jE, jN, seval, vint, qT, g3, g4, g5, g6, Int.toNat_natCast]) (by decide) Trygo24 (fun hc => fun H' _ => apply_c b.t d.ps p.args hbw.st_t hps hpa H') (by simp only [jH, jO, jN, seval, vint, qT, g3, g4, g5, g6, Int.toNat_natCast] <;> first | done | rfl) ?_
            refine dops_gkeep (bm := [0, 1, 0, 4, 15, 31, 63, 127, 63, 319, 63, 1087, 63, 4159, 16191, 32767, 65535, 131071, 262143, 524287, 524287, 524287, 4194303, 8388607, 16777215]) ([]) (by kernel_rfl) (by simp only [jE, jN, seval, vint, qT, g3, g4, g5, g6, Int.toNat_natCast] <;> with_reducible rfl) (by simp only [jE, jN, seval, vint, qT, g3, g4, g5, g6, Int.toNat_natCast] <;> with_reducible rfl) (by simp only [jE, jN, seval, vint, qT, g3, g4, g5, g6, Int.toNat_natCast]) (by decide) Trygo23 (fun hc => fun H' _ => equal_any q.t (mapT (appG d.ps p.args) b.t) hqw.st_t H') (by simp only [jH, jO, jN, seval, vint, qT, g3, g4, g5, g6, Int.toNat_natCast] <;> first | done | rfl) ?_
            refine gd_take (bm := [0, 1, 0, 4, 15, 31, 63, 127, 63, 319, 63, 1087, 63, 4159, 16191, 32767, 65535, 131071, 262143, 524287, 524287, 524287, 4194303, 8388607, 16777215]) 6 (fresh := 0) (by kernel_rfl) (by simp only [jH, jO, jN, seval, y63, vint, qT, g3, g4, g5, g6, Int.toNat_natCast] <;> with_reducible rfl) (by decide) (by decide) ?_
            refine dops_gkeep (bm := [0, 1, 0, 4, 15, 31, 63, 127, 63, 319, 63, 1087, 63, 4159, 16191, 32767, 65535, 131071, 262143, 524287, 524287, 524287, 4194303, 8388607, 16777215]) ([]) (by kernel_rfl) (by simp only [jE, jN, seval, vint, qT, g3, g4, g5, g6, Int.toNat_natCast] <;> with_reducible rfl) (by simp only [jE, jN, seval, vint, qT, g3, g4, g5, g6, Int.toNat_natCast] <;> with_reducible rfl) (by simp only [jE, jN, seval, vint, qT, g3, g4, g5, g6, Int.toNat_natCast]) (by decide) Trygo48 (fun hc => fun H' _ => check_k ds sas hl hd hsl hs k q (by omega) hqw H') (by simp only [jH, jO, jN, seval, vint, qT, g3, g4, g5, g6, Int.toNat_natCast] <;> first | done | rfl) ?_
            refine gd_end (bm := [0, 1, 0, 4, 15, 31, 63, 127, 63, 319, 63, 1087, 63, 4159, 16191, 32767, 65535, 131071, 262143, 524287, 524287, 524287, 4194303, 8388607, 16777215]) (fresh := 0) (by kernel_rfl) (by simp only [jH, jO, jN, seval, vint, qT, g3, g4, g5, g6, Int.toNat_natCast] <;> with_reducible rfl) (by decide) (by repeat (first | exact Fin.base _ | with_reducible apply Fin.keep | apply Fin.drop)) ?_
            repeat (refine awp_seq ?_)
            refine awp_cond rfl (by simp only [jN, seval, vint, qT, g3, g4, g5, g6, Int.toNat_natCast] <;> with_reducible rfl) (fun b4 => ?_) (fun b4 => ?_)
            ·
              refine awp_sel [0, 1, 5, 8, 116, 117, 118] (by simp only [jN, seval, vint, qT, g3, g4, g5, g6, Int.toNat_natCast] <;> with_reducible rfl) ?_
              repeat (refine awp_seq ?_)
              refine e_eval (by simp only [jA, jO, jN, seval, vint, qT, g3, g4, g5, g6, Int.toNat_natCast] <;> with_reducible rfl) (by decide) ?_
              repeat (refine awp_seq ?_)
              refine awp_ret ⟨.inr rfl, _, rfl, ?_⟩
              have hx : ((d.bs.zip p.prems).all (fun x : TB × Pf => decide (x.2.tr = x.1.tr) && x.2.t.eqb (mapT (appG d.ps p.args) x.1.t) && checkT ds sas k x.2)) = false := by
                rw [List.all_eq_false]
                refine ⟨(b, q), by rw [← hz]; exact List.getElem_mem _, ?_⟩
                simp only
                grind
              simp only [hx, Bool.and_false]
              simp only [jN, seval, vint, qT]
            ·
              repeat (refine awp_seq ?_)
              refine awp_skip ?_
              exact ⟨⟨rfl, rfl, trivial⟩, (), _, ⟨rfl, rfl, rfl, rfl, rfl, trivial⟩, by simp only [jN, seval, vint, qT] <;> rfl, all_take_succ (by simp; omega) hg (by rw [hz]; simp only; grind)⟩
          · intro s hg
            rw [List.take_of_length_le (by simp; omega)] at hg
            repeat (refine awp_seq ?_)
            refine e_eval (by simp only [jA, jO, jN, seval, vint, qT] <;> with_reducible rfl) (by decide) ?_
            repeat (refine awp_seq ?_)
            refine awp_ret ⟨.inr rfl, _, rfl, ?_⟩
            simp only [hg, hq2, decide_true, Bool.and_self]
            simp only [jN, seval, vint, qT]

end Go.Abs
set_option maxRecDepth 4000
namespace Go.Abs
open Go.Proofs

structure NC.Ok (c : NC) : Prop where
  len : c.ds.length = c.r.syms.length
  hl : c.ds.length ≤ maxLen
  hd : ∀ d ∈ c.ds, d.B
  hsl : c.sas.length ≤ maxLen
  hs : ∀ b ∈ c.sas, b.W
/-- What normalizing with the depth ahead answers. -/
def NormC (c : NC) (d : Nat) : Prop := ∀ (u : Ty) (im : Nat) (b : Bool) (H : Heap), u.W → im < H.length → ACalls Try.prog 107 [.optr im 0, u.enc, .int .i64 (d : Nat)] (nH c H im b) fun r' H' => r' = (normD (projN c.r.syms c.ds c.sas d) u).1.enc ∧ H' = nH c H im (b || (normD (projN c.r.syms c.ds c.sas d) u).2)
theorem solve_im {ds : List Dc} {sas : List TB} {n : Nat} {t : Ty} {tr : Int} (h : (solveT ds sas n t tr).2 = true) (h2 : 0 ≤ (solveT ds sas n t tr).1.im) : (solveT ds sas n t tr).1.im < ds.length := by
  cases n with
  | zero => simp [solveT] at h
  | succ n =>
    rw [solveT] at h h2 ⊢
    split at h
    · simp at h
    · rename_i h1
      rw [if_neg h1] at h2 ⊢
      split at h
      · rename_i h3; rw [if_pos h3] at h2; simp [Pf.im] at h2
      · rename_i h3
        rw [if_neg h3] at h2 ⊢
        split at h
        · simp at h
        · rename_i h4
          rw [if_neg h4] at h2 ⊢
          split at h
          · rename_i h5
            rw [if_pos h5] at h2 ⊢
            have : 0 ≤ implIx ds t tr := by omega
            exact idxI_lt this
          · simp at h
theorem idx_mem {ds : List Dc} {i : Int} (h : 0 ≤ i ∧ i < ds.length) : ds.getD i.toNat .zero ∈ ds := by
  rw [List.getD_eq_getElem?_getD, List.getElem?_eq_getElem (by omega), Option.getD_some]; exact List.getElem_mem _
theorem zero_W : Ty.zero.W := by simp [Ty.zero, Ty.W_iff]
theorem normD_W {P : Ty → Ty × Bool} (hP : ∀ t, t.W → (P t).1.W) : ∀ t : Ty, t.W → (normD P t).1.W
  | .mk k i us, h => by
    rw [normD_mk]
    have hu : (Ty.mk k i (us.map fun u => (normD P u).1)).W := by
      rw [Ty.W_iff, List.length_map]
      refine ⟨((Ty.W_iff _ _ _).1 h).1, fun u hu => ?_⟩
      obtain ⟨v, hv, rfl⟩ := List.mem_map.1 hu
      exact normD_W hP v (((Ty.W_iff _ _ _).1 h).2 v hv)
    split
    · exact hP _ hu
    · exact hu
theorem projT_W (c : NC) (hc : c.Ok) {f : Option (Ty → Ty × Bool)} (hf : ∀ g, f = some g → ∀ u, u.W → (g u).1.W) (t : Ty) (h : t.W) : (projT c.r.syms c.ds c.sas f t).1.W := by
  obtain ⟨k, i, us⟩ := t
  match us, h with
  | [], _ => exact zero_W
  | _ :: _ :: _, _ => exact zero_W
  | [a], h =>
    have ha : a.W := h.arg (by simp [Ty.args])
    rw [projT_one]
    split
    · exact zero_W
    · split
      · exact h
      · rename_i h2
        cases f with
        | none => exact zero_W
        | some g =>
          simp only
          split
          · exact zero_W
          · rename_i h3
            refine hf g rfl _ ?_
            have hs := solve_W (ds := c.ds) (sas := c.sas) hc.hd 8 a (traitIx c.r.syms i) ha
            have h4 : idxI (memP (solveT c.ds c.sas 8 a (traitIx c.r.syms i)).1.im (c.r.syms.getD i.toNat .zero).name) c.r.syms ≥ 0 := by unfold memIx at h3; omega
            have h5 := idxI_lt h4
            have hm := idx_mem (ds := c.ds) (i := memIx c.r.syms c.ds c.sas i a) ⟨by omega, by rw [hc.len]; exact h5⟩
            exact app_W hs.el_args (hc.hd _ hm).1.st_t
theorem projN_W (c : NC) (hc : c.Ok) : ∀ (d : Nat) (t : Ty), t.W → (projN c.r.syms c.ds c.sas d t).1.W
  | 0, t, h => projT_W c hc (f := none) (fun g e => by cases e) t h
  | d + 1, t, h => projT_W c hc (f := some _) (fun g e u hu => by cases e; exact normD_W (projN_W c hc d) u hu) t h
theorem norm_W (c : NC) (hc : c.Ok) (d : Nat) (t : Ty) (h : t.W) : (normD (projN c.r.syms c.ds c.sas d) t).1.W := normD_W (projN_W c hc d) t h
theorem projN_bad {sy : List Sy} {ds : List Dc} {sas : List TB} {d : Nat} {t : Ty} (h : traitIx sy t.id < 0 ∨ t.args.length ≠ 1) : projN sy ds sas d t = (.zero, true) := by
  have key : ∀ f, projT sy ds sas f t = (.zero, true) := fun f => by
    obtain ⟨k, i, us⟩ := t
    match us, h with
    | [], _ => rfl
    | _ :: _ :: _, _ => rfl
    | [a], h =>
      rw [projT_one, if_pos]
      rcases h with h | h
      · exact h
      · exact (h rfl).elim
  cases d with
  | zero => exact key _
  | succ d => exact key _
theorem projN_rig {sy : List Sy} {ds : List Dc} {sas : List TB} {d : Nat} {t a : Ty} (ha : t.args = [a]) (h : rigid sy ds sas t.id a) : projN sy ds sas d t = (t, false) := by
  obtain ⟨k, i, us⟩ := t
  simp only [Ty.args] at ha
  subst ha
  exact projN_rigid h
theorem projN_none {sy : List Sy} {ds : List Dc} {sas : List TB} {d : Nat} {t a : Ty} (ha : t.args = [a]) (h1 : ¬ traitIx sy t.id < 0) (h2 : ¬ ((solveT ds sas 8 a (traitIx sy t.id)).2 = false ∨ (solveT ds sas 8 a (traitIx sy t.id)).1.im < 0)) (h3 : memIx sy ds sas t.id a < 0 ∨ d = 0) : projN sy ds sas d t = (.zero, false) := by
  obtain ⟨k, i, us⟩ := t
  simp only [Ty.args] at ha
  subst ha
  have h1 : ¬ traitIx sy i < 0 := h1
  have h2 : ¬ ((solveT ds sas 8 a (traitIx sy i)).2 = false ∨ (solveT ds sas 8 a (traitIx sy i)).1.im < 0) := h2
  cases d with
  | zero => rw [projN, projT_one, if_neg h1, if_neg h2]
  | succ d =>
    rw [projN, projT_one, if_neg h1, if_neg h2]
    rcases h3 with h3 | h3
    · exact if_pos h3
    · cases h3
theorem projN_step {sy : List Sy} {ds : List Dc} {sas : List TB} {d : Nat} {t a : Ty} (ha : t.args = [a]) (h1 : ¬ traitIx sy t.id < 0) (h2 : ¬ ((solveT ds sas 8 a (traitIx sy t.id)).2 = false ∨ (solveT ds sas 8 a (traitIx sy t.id)).1.im < 0)) (h3 : ¬ memIx sy ds sas t.id a < 0) : projN sy ds sas (d + 1) t = normD (projN sy ds sas d) (projX sy ds sas t.id a) := by
  obtain ⟨k, i, us⟩ := t
  simp only [Ty.args] at ha
  subst ha
  have h1 : ¬ traitIx sy i < 0 := h1
  have h2 : ¬ ((solveT ds sas 8 a (traitIx sy i)).2 = false ∨ (solveT ds sas 8 a (traitIx sy i)).1.im < 0) := h2
  rw [projN, projT_one, if_neg h1, if_neg h2]
  exact if_neg h3
theorem traitIx_pos {sy : List Sy} {a : Int} (h : ¬ traitIx sy a < 0) : 0 ≤ a ∧ a < sy.length := by
  unfold traitIx at h
  split at h
  · simp at h
  · rename_i h1
    simp only [not_or, Classical.not_not] at h1
    exact h1.1

theorem proj_k (c : NC) (hc : c.Ok) (d : Nat) (hn : ∀ d', d = d' + 1 → NormC c d') (hd9 : d ≤ 8) (t : Ty) (im : Nat) (b : Bool) (H : Heap) (ht : t.W) (him : im < H.length) :
    ACalls Try.prog 132 [.optr im 0, t.enc, .int .i64 (d : Nat)] (nH c H im b) fun r' H' => r' = (projN c.r.syms c.ds c.sas d t).1.enc ∧ H' = nH c H im (b || (projN c.r.syms c.ds c.sas d t).2) := by
  obtain ⟨hlen, hl, hd, hsl, hs⟩ := hc
  have MH := nH_rules c him
  have fa : ∀ k, (im = H.length + k) = False := fun k => by simp; omega
  have fa0 : (im = H.length) = False := by simp; omega
  have fb : ∀ k, (H.length + k == im) = false := fun k => by simp; omega
  have fb0 : (H.length == im) = false := by simp; omega
  have fc : ∀ k, (im == H.length + k) = false := fun k => by simp; omega
  have fc0 : (im == H.length) = false := by simp; omega
  refine muts_of (N := 90) Try.func132 rfl rfl (by simp) (Ty.bel _ _) (by simp only [nH_len]) (fun hb => by rw [nH_len] at hb ⊢; exact nH_bel hb him) fun hb' => ?_
  rw [nH_len]
  rw [nH_len] at hb'
  repeat (refine awp_seq ?_)
  refine e_eval (by simp only [jA, jO, jN, seval, y24, y128, vint, qA, MH, fa, fa0, fb, fb0, fc, fc0, Bool.not_false] <;> with_reducible rfl) (by decide) ?_
  repeat (refine awp_seq ?_)
  refine awp_region ?_
  refine e_take 3 (by simp only [jA, jO, jN, seval, y3, y24, y128, vint, qA, MH, fa, fa0, fb, fb0, fc, fc0, Bool.not_false] <;> with_reducible rfl) (by decide) ?_
  refine aops_pure (by simp only [jC, jN, seval, vint, qA, MH, fa, fa0, fb, fb0, fc, fc0, Bool.not_false] <;> with_reducible rfl) (by simp only [jC, jN, seval, vint, qA, MH, fa, fa0, fb, fb0, fc, fc0, Bool.not_false]) (by decide) Trygo146 (trait_c c b _ im (by simp only [MH]; rfl) t.id) ?_
  refine e_end (by simp only [jA, jO, jN, seval, vint, qA, MH, fa, fa0, fb, fb0, fc, fc0, Bool.not_false] <;> with_reducible rfl) (by decide) ?_
  repeat (refine awp_seq ?_)
  refine g_eval (by simp only [jG, jO, jN, seval, y3, y22, y24, vint, qA, MH, fa, fa0, fb, fb0, fc, fc0, Bool.not_false] <;> with_reducible rfl) (by decide) (by repeat (first | exact Fin.base _ | with_reducible apply Fin.keep | apply Fin.drop)) ?_
  repeat (refine awp_seq ?_)
  refine awp_cond rfl (by simp only [jN, seval, vint, qA, MH, fa, fa0, fb, fb0, fc, fc0, Bool.not_false] <;> with_reducible rfl) (fun b0 => ?_) (fun b0 => ?_)
  ·
    have hp0 : projN c.r.syms c.ds c.sas d t = (.zero, true) := projN_bad (by simp at b0; omega)
    rw [hp0, show (b || ((Ty.zero, true) : Ty × Bool).2) = true from by simp]
    refine awp_sel [3, 6] (by simp only [jN, seval, vint, qA, MH, fa, fa0, fb, fb0, fc, fc0, Bool.not_false] <;> with_reducible rfl) ?_
    repeat (refine awp_seq ?_)
    refine e_eval (by simp only [jA, jO, jN, seval, y4, y128, y130, vint, qA, MH, fa, fa0, fb, fb0, fc, fc0, Bool.not_false] <;> with_reducible rfl) (by decide) ?_
    repeat (refine awp_seq ?_)
    refine e_eval (by simp only [jA, jO, jN, seval, y24, vint, qA, MH, fa, fa0, fb, fb0, fc, fc0, Bool.not_false] <;> with_reducible rfl) (by decide) ?_
    repeat (refine awp_seq ?_)
    refine awp_ret ⟨.inr rfl, _, _, (ares_cell 6 24 rfl Tryti24 (by decide) (by simp only [jL, jN, seval, vint, qA, MH, fa, fa0, fb, fb0, fc, fc0, Bool.not_false] <;> with_reducible rfl)), ?_, rfl⟩
    simp only [jN, seval, vint, qA]
    rfl
  ·
    have hq : ¬ traitIx c.r.syms t.id < 0 ∧ t.args.length = 1 := by simp at b0; omega
    obtain ⟨a, hargs⟩ := List.length_eq_one_iff.1 hq.2
    have g1 : (0 < (t.args.length : Int)) = True := by rw [hq.2]; simp
    have g2 : (t.args.map Ty.enc)[0]? = some a.enc := by rw [hargs]; rfl
    have haW : a.W := ht.arg (by rw [hargs]; simp)
    have hid := traitIx_pos hq.1
    repeat (refine awp_seq ?_)
    refine awp_skip ?_
    refine awp_sel [2, 3, 4, 6, 7] (by simp only [jN, seval, vint, qA, MH, fa, fa0, fb, fb0, fc, fc0, Bool.not_false] <;> with_reducible rfl) ?_
    repeat (refine awp_seq ?_)
    refine x_draw 1 (n0 := H.length + 3) (by first | rfl | (simp only [List.length_append, List.length_cons, List.length_nil, Nat.reduceAdd, Nat.zero_add, MH, fa, fa0, fb, fb0, fc, fc0, Bool.not_false, g1, g2]; done)) (by kernel_rfl) ?_
    refine x1_take 13 (by first | rfl | (simp only [List.length_append, List.length_cons, List.length_nil, Nat.reduceAdd, Nat.zero_add, MH, fa, fa0, fb, fb0, fc, fc0, Bool.not_false, g1, g2]; done)) (by simp only [jP, jO, jN, seval, y22, y24, y59, y60, y71, y74, y128, y130, vint, qA, MH, fa, fa0, fb, fb0, fc, fc0, Bool.not_false, g1, g2] <;> with_reducible rfl) (by decide) (by decide) (by decide) ?_
    refine x1_keep (by first | rfl | (simp only [List.length_append, List.length_cons, List.length_nil, Nat.reduceAdd, Nat.zero_add, MH, fa, fa0, fb, fb0, fc, fc0, Bool.not_false, g1, g2]; done)) (by simp only [jE, jN, seval, vint, qA, MH, fa, fa0, fb, fb0, fc, fc0, Bool.not_false, g1, g2] <;> with_reducible rfl) (by simp only [jE, jN, seval, vint, qA, MH, fa, fa0, fb, fb0, fc, fc0, Bool.not_false, g1, g2] <;> with_reducible rfl) (by simp only [jE, jN, seval, vint, qA, MH, fa, fa0, fb, fb0, fc, fc0, Bool.not_false, g1, g2]) (by decide) Trygo46 (fun hc L => solve_c c.ds c.sas a (traitIx c.r.syms t.id) hl hd hsl hs haW _) ?_
    refine x1_take 3 (by first | rfl | (simp only [List.length_append, List.length_cons, List.length_nil, Nat.reduceAdd, Nat.zero_add, MH, fa, fa0, fb, fb0, fc, fc0, Bool.not_false, g1, g2]; done)) (by simp only [jP, jO, jN, seval, vint, qA, MH, fa, fa0, fb, fb0, fc, fc0, Bool.not_false, g1, g2] <;> with_reducible rfl) (by decide) (by decide) (by decide) ?_
    refine x_mid (by first | (simp only [LS, HS, List.append_assoc, List.cons_append, List.nil_append, MH, fa, fa0, fb, fb0, fc, fc0, Bool.not_false, g1, g2] <;> with_reducible rfl) | rfl) ?_
    refine x2_end (bm := [0, 1, 3, 7, 0, 16, 48, 112, 0, 256, 768, 1792, 0, 8191, 16383, 32767, 32767, 0, 196607, 524287]) (fresh := (H.length + 3)) (by kernel_rfl) (by simp only [jX, jO, jN, seval, y63, vint, qA, MH, fa, fa0, fb, fb0, fc, fc0, Bool.not_false, g1, g2] <;> with_reducible rfl) (by decide) (by repeat (first | exact Fin.base _ | with_reducible apply Fin.keep | apply Fin.drop)) ?_
    refine awp_sel [2, 3, 4, 6, 8, 9] (by simp only [jN, seval, vint, qA, MH, fa, fa0, fb, fb0, fc, fc0, Bool.not_false] <;> with_reducible rfl) ?_
    repeat (refine awp_seq ?_)
    refine g_eval (by simp only [jG, jO, jN, seval, y3, y63, vint, qA, MH, fa, fa0, fb, fb0, fc, fc0, Bool.not_false] <;> with_reducible rfl) (by decide) (by repeat (first | exact Fin.base _ | with_reducible apply Fin.keep | apply Fin.drop)) ?_
    repeat (refine awp_seq ?_)
    refine awp_cond rfl (by simp only [jN, seval, vint, qA, MH, fa, fa0, fb, fb0, fc, fc0, Bool.not_false] <;> with_reducible rfl) (fun b1 => ?_) (fun b1 => ?_)
    ·
      have hr : rigid c.r.syms c.ds c.sas t.id a := ⟨hq.1, by simpa using b1⟩
      have hp1 : projN c.r.syms c.ds c.sas d t = (t, false) := projN_rig hargs hr
      rw [hp1, show (b || ((t, false) : Ty × Bool).2) = b from by simp]
      repeat (refine awp_seq ?_)
      refine e_eval (by simp only [jA, jO, jN, seval, y24, vint, qA, MH, fa, fa0, fb, fb0, fc, fc0, Bool.not_false] <;> with_reducible rfl) (by decide) ?_
      repeat (refine awp_seq ?_)
      refine awp_ret ⟨.inr rfl, _, _, (ares_cell 6 24 rfl Tryti24 (by decide) (by simp only [jL, jN, seval, vint, qA, MH, fa, fa0, fb, fb0, fc, fc0, Bool.not_false] <;> with_reducible rfl)), ?_, rfl⟩
      exact Ty.enc_drop1 _
    ·
      have h2 : (solveT c.ds c.sas 8 a (traitIx c.r.syms t.id)).2 = true ∧ 0 ≤ (solveT c.ds c.sas 8 a (traitIx c.r.syms t.id)).1.im := by simpa using b1
      have h2n : ¬ ((solveT c.ds c.sas 8 a (traitIx c.r.syms t.id)).2 = false ∨ (solveT c.ds c.sas 8 a (traitIx c.r.syms t.id)).1.im < 0) := by rw [h2.1]; simp; omega
      have him2 := solve_im h2.1 h2.2
      have hpW := solve_W (ds := c.ds) (sas := c.sas) hd 8 a (traitIx c.r.syms t.id) haW
      have hmxl : c.r.syms.length ≤ maxLen := by omega
      obtain ⟨p, hpe⟩ : ∃ p, (solveT c.ds c.sas 8 a (traitIx c.r.syms t.id)).1 = p := ⟨_, rfl⟩
      have hme : memIx c.r.syms c.ds c.sas t.id a = idxI (memP p.im (c.r.syms.getD t.id.toNat .zero).name) c.r.syms := by unfold memIx; rw [hpe]
      rw [hpe] at him2 hpW
      repeat (refine awp_seq ?_)
      refine awp_skip ?_
      repeat (refine awp_seq ?_)
      rw [hpe]
      refine awp_region ?_
      refine e_take 6 (by simp only [jA, jO, jN, seval, y52, y56, y117, y128, y130, vint, qA, MH, fa, fa0, fb, fb0, fc, fc0, Bool.not_false] <;> with_reducible rfl) (by decide) ?_
      refine aops_pure (by simp only [jC, jN, seval, vint, qA, MH, fa, fa0, fb, fb0, fc, fc0, Bool.not_false] <;> with_reducible rfl) (by simp only [jC, jN, seval, vint, qA, MH, fa, fa0, fb, fb0, fc, fc0, Bool.not_false]) (by decide) Trygo147 (indexFuncSy (p := memP p.im (c.r.syms.getD t.id.toNat .zero).name) ⟨Trygo148, by simp; exact ⟨.optr _ _ (by simp [nH_len]), .optr _ _ (by simp [nH_len]), .optr _ _ (by simp [nH_len])⟩, fun u hu => memP1 c b p t _ im (H.length + 3) H.length (H.length + 1) (by simp only [MH]; rfl) (by simp only [MH, PfS]; rfl) (by simp only [MH]; rfl) (by simp only [MH, TyS]; rfl) hid u⟩ hmxl) ?_
      refine e_end (by simp only [jA, jO, jN, seval, vint, qA, MH, fa, fa0, fb, fb0, fc, fc0, Bool.not_false] <;> with_reducible rfl) (by decide) ?_
      refine awp_sel [2, 3, 6, 8, 10] (by simp only [jN, seval, vint, qA, MH, fa, fa0, fb, fb0, fc, fc0, Bool.not_false] <;> with_reducible rfl) ?_
      repeat (refine awp_seq ?_)
      refine g_eval (by simp only [jG, jO, jN, seval, y3, vint, qA, MH, fa, fa0, fb, fb0, fc, fc0, Bool.not_false] <;> with_reducible rfl) (by decide) (by repeat (first | exact Fin.base _ | with_reducible apply Fin.keep | apply Fin.drop)) ?_
      repeat (refine awp_seq ?_)
      refine awp_cond rfl (by simp only [jN, seval, vint, qA, MH, fa, fa0, fb, fb0, fc, fc0, Bool.not_false] <;> with_reducible rfl) (fun b2 => ?_) (fun b2 => ?_)
      ·
        have h3 : memIx c.r.syms c.ds c.sas t.id a < 0 ∨ d = 0 := by
          rw [hme]
          simp only [Bool.or_eq_true, decide_eq_true_eq] at b2
          omega
        have hp2 : projN c.r.syms c.ds c.sas d t = (.zero, false) := projN_none hargs hq.1 h2n h3
        rw [hp2, show (b || ((Ty.zero, false) : Ty × Bool).2) = b from by simp]
        repeat (refine awp_seq ?_)
        refine e_eval (by simp only [jA, jO, jN, seval, y24, vint, qA, MH, fa, fa0, fb, fb0, fc, fc0, Bool.not_false] <;> with_reducible rfl) (by decide) ?_
        repeat (refine awp_seq ?_)
        refine awp_ret ⟨.inr rfl, _, _, (ares_cell 6 24 rfl Tryti24 (by decide) (by simp only [jL, jN, seval, vint, qA, MH, fa, fa0, fb, fb0, fc, fc0, Bool.not_false] <;> with_reducible rfl)), ?_, rfl⟩
        simp only [jN, seval, vint, qA]
        rfl
      ·
        have h3 : ¬ memIx c.r.syms c.ds c.sas t.id a < 0 ∧ d ≠ 0 := by
          rw [hme]
          simp only [Bool.or_eq_false_iff, decide_eq_false_iff_not] at b2
          omega
        have hpi : 0 ≤ p.im := hpe ▸ h2.2
        obtain ⟨d', rfl⟩ : ∃ d', d = d' + 1 := ⟨d - 1, by omega⟩
        have hw1 : IntKind.i64.wrap (((d' + 1 : Nat) : Int) - 1) = (d' : Nat) := by rw [wrap_id (by omega) (by omega)]; omega
        have hp3 := projN_step (d := d') hargs hq.1 h2n h3.1
        obtain ⟨m, hmm⟩ : ∃ m, idxI (memP p.im (c.r.syms.getD t.id.toNat .zero).name) c.r.syms = m := ⟨_, rfl⟩
        have hmr : 0 ≤ m ∧ m < c.ds.length := by
          have e : memIx c.r.syms c.ds c.sas t.id a = m := hme.trans hmm
          have h5 : 0 ≤ idxI (memP p.im (c.r.syms.getD t.id.toNat .zero).name) c.r.syms := by omega
          have := idxI_lt h5
          omega
        have ga : ((0 : Int) ≤ m ∧ m < (c.ds).length) = True := by simp; omega
        have gl : (m).toNat < (c.ds).length := by omega
        obtain ⟨dm, dme⟩ : ∃ z_, (c.ds)[(m).toNat] = z_ := ⟨_, rfl⟩
        have gb := get_enc Dc.enc gl
        rw [dme] at gb
        have gd : (c.ds).getD (m).toNat .zero = dm := by rw [List.getD_eq_getElem?_getD, List.getElem?_eq_getElem gl, dme]; rfl
        have ka : ((0 : Int) ≤ p.im ∧ p.im < (c.ds).length) = True := by simp; omega
        have kl : (p.im).toNat < (c.ds).length := by omega
        obtain ⟨di, die⟩ : ∃ z_, (c.ds)[(p.im).toNat] = z_ := ⟨_, rfl⟩
        have kb := get_enc Dc.enc kl
        rw [die] at kb
        have kd : (c.ds).getD (p.im).toNat .zero = di := by rw [List.getD_eq_getElem?_getD, List.getElem?_eq_getElem kl, die]; rfl
        have hdm := hd dm (by rw [← dme]; exact List.getElem_mem _)
        have hdi := hd di (by rw [← die]; exact List.getElem_mem _)
        have hX : projX c.r.syms c.ds c.sas t.id a = mapT (appG di.ps p.args) dm.t := by
          unfold projX
          rw [hpe, hme, hmm, gd, kd]
        have hXW : (mapT (appG di.ps p.args) dm.t).W := app_W hpW.el_args hdm.1.st_t
        rw [hp3, hX]
        repeat (refine awp_seq ?_)
        refine awp_skip ?_
        repeat (refine awp_seq ?_)
        rw [hmm]
        refine x_draw 0 rfl (by kernel_rfl) ?_
        refine x1_take 16 rfl (by simp only [jP, jO, jN, seval, y3, y24, y59, y63, y71, y128, y130, vint, qA, MH, fa, fa0, fb, fb0, fc, fc0, Bool.not_false, ga, gb, ka, kb, hw1] <;> with_reducible rfl) (by decide) (by decide) (by decide) ?_
        refine x1_take 4 rfl (by simp only [jP, jO, jN, seval, y3, y22, y24, y25, y63, y71, vint, qA, MH, fa, fa0, fb, fb0, fc, fc0, Bool.not_false, ga, gb, ka, kb, hw1] <;> with_reducible rfl) (by decide) (by decide) (by decide) ?_
        refine x1_keep rfl (by simp only [jE, jN, seval, vint, qA, MH, fa, fa0, fb, fb0, fc, fc0, Bool.not_false, ga, gb, ka, kb, hw1] <;> with_reducible rfl) (by simp only [jE, jN, seval, vint, qA, MH, fa, fa0, fb, fb0, fc, fc0, Bool.not_false, ga, gb, ka, kb, hw1] <;> with_reducible rfl) (by simp only [jE, jN, seval, vint, qA, MH, fa, fa0, fb, fb0, fc, fc0, Bool.not_false, ga, gb, ka, kb, hw1]) (by decide) Trygo24 (fun hc L => apply_c dm.t di.ps p.args hdm.1.st_t hdi.1.max_ps hpW.el_args _) ?_
        refine x1_take 2 rfl (by simp only [jP, jO, jN, seval, y3, vint, qA, MH, fa, fa0, fb, fb0, fc, fc0, Bool.not_false, ga, gb, ka, kb, hw1] <;> with_reducible rfl) (by decide) (by decide) (by decide) ?_
        refine x_mid (by first | (simp only [LS, HS, List.append_assoc, List.cons_append, List.nil_append, MH, fa, fa0, fb, fb0, fc, fc0, Bool.not_false, ga, gb, ka, kb, hw1] <;> with_reducible rfl) | rfl) ?_
        refine x2_fx (bm := [0, 0, 2, 6, 14, 0, 62, 126, 254, 0, 512, 1536, 3584, 0, 8192, 32256, 65024, 130560, 0, 262144, 1048574, 0, 2097152, 8388607, 16777215]) [im] im (c.row (b || (normD (projN c.r.syms c.ds c.sas d') (mapT (appG di.ps p.args) dm.t)).2)) (by kernel_rfl) (by simp only [jE, jN, seval, vint, qA, MH, fa, fa0, fb, fb0, fc, fc0, Bool.not_false, ga, gb, ka, kb, hw1] <;> with_reducible rfl) (by simp only [jE, jN, seval, vint, qA, MH, fa, fa0, fb, fb0, fc, fc0, Bool.not_false, ga, gb, ka, kb, hw1] <;> with_reducible rfl) (by simp only [jE, jN, seval, vint, qA, MH, fa, fa0, fb, fb0, fc, fc0, Bool.not_false, ga, gb, ka, kb, hw1]) (by decide) Trygo107 (fun H' hr _ => nSet (fun H him => hn d' rfl (mapT (appG di.ps p.args) dm.t) im b H hXW him) H' (by have := hr im (by simp); simp only [MH] at this; exact this)) (by simp) (by simp only [jX, jO, jN, seval, vint, qA, MH, fa, fa0, fb, fb0, fc, fc0, Bool.not_false, ga, gb, ka, kb, hw1] <;> first | done | rfl) (by simp only [jX, jO, jN, seval, vint, qA, MH, fa, fa0, fb, fb0, fc, fc0, Bool.not_false, ga, gb, ka, kb, hw1] <;> first | done | rfl) (by simp only [jX, jO, jN, seval, vint, qA, MH, fa, fa0, fb, fb0, fc, fc0, Bool.not_false, ga, gb, ka, kb, hw1] <;> with_reducible rfl) ?_
        refine x2_end (bm := [0, 0, 2, 6, 14, 0, 62, 126, 254, 0, 512, 1536, 3584, 0, 8192, 32256, 65024, 130560, 0, 262144, 1048574, 0, 2097152, 8388607, 16777215]) (fresh := 0) (by kernel_rfl) (by simp only [jX, jO, jN, seval, y24, vint, qA, MH, fa, fa0, fb, fb0, fc, fc0, Bool.not_false, ga, gb, ka, kb, hw1] <;> with_reducible rfl) (by decide) (by repeat (first | exact Fin.base _ | with_reducible apply Fin.keep | apply Fin.drop)) ?_
        repeat (refine awp_seq ?_)
        refine awp_ret ⟨.inr rfl, _, _, (ares_cell 6 24 rfl Tryti24 (by decide) (by simp only [jL, jN, seval, vint, qA, MH, fa, fa0, fb, fb0, fc, fc0, Bool.not_false] <;> with_reducible rfl)), ?_, rfl⟩
        exact Ty.enc_drop1 _

end Go.Abs
set_option maxRecDepth 4000
namespace Go.Abs
open Go.Proofs

theorem norm_k (c : NC) (hc : c.Ok) (d : Nat) (hproj : ∀ (t : Ty) (im : Nat) (b : Bool) (H : Heap), t.W → im < H.length → ACalls Try.prog 132 [.optr im 0, t.enc, .int .i64 (d : Nat)] (nH c H im b) fun r' H' => r' = ((projN c.r.syms c.ds c.sas d) t).1.enc ∧ H' = nH c H im (b || ((projN c.r.syms c.ds c.sas d) t).2))
    : ∀ (k : Nat) (u : Ty) (im : Nat) (b : Bool) (H : Heap), u.size ≤ k → u.W → im < H.length → ACalls Try.prog 107 [.optr im 0, u.enc, .int .i64 (d : Nat)] (nH c H im b) fun r' H' => r' = (normD (projN c.r.syms c.ds c.sas d) u).1.enc ∧ H' = nH c H im (b || (normD (projN c.r.syms c.ds c.sas d) u).2)
  | 0, u, im, b, H, h, _, _ => by cases u; simp [Ty.size] at h
  | k + 1, u, im, b, H, h, hu, him => by
    have MH := nH_rules c him
    have fa : ∀ k, (im = H.length + k) = False := fun k => by simp; omega
    have fa0 : (im = H.length) = False := by simp; omega
    have fb : ∀ k, (H.length + k == im) = false := fun k => by simp; omega
    have fb0 : (H.length == im) = false := by simp; omega
    have fc : ∀ k, (im == H.length + k) = false := fun k => by simp; omega
    have fc0 : (im == H.length) = false := by simp; omega
    have fd : ∀ k, (H.length + k = im) = False := fun k => by simp; omega
    have fd0 : (H.length = im) = False := by simp; omega
    refine muts_of (N := 40) Try.func107 rfl rfl (by simp) (Ty.bel _ _) (by simp only [nH_len]) (fun hb => by rw [nH_len] at hb ⊢; exact nH_bel hb him) fun hb' => ?_
    rw [nH_len]
    rw [nH_len] at hb'
    repeat (refine awp_seq ?_)
    refine e_eval (by simp only [jA, jO, jN, seval, y24, vint, qA, MH, fa, fa0, fb, fb0, fc, fc0, fd, fd0, Bool.not_false] <;> with_reducible rfl) (by decide) ?_
    repeat (refine awp_seq ?_)
    refine e_eval (by simp only [jA, jO, jN, seval, y3, y24, vint, qA, MH, fa, fa0, fb, fb0, fc, fc0, fd, fd0, Bool.not_false] <;> with_reducible rfl) (by decide) ?_
    repeat (refine awp_seq ?_)
    refine e_eval (by simp only [jA, jO, jN, seval, y22, y24, vint, qA, MH, fa, fa0, fb, fb0, fc, fc0, fd, fd0, Bool.not_false] <;> with_reducible rfl) (by decide) ?_
    repeat (refine awp_seq ?_)
    refine awp_retok_row (H.length + 2) 2 3 (by simp only [jD, jO, jN, seval, vint, qA, MH] <;> with_reducible rfl) rfl ?_
    refine awp_forS (σ := List Ty × Bool) (u.args.length) (fun (q : List Ty × Bool) => [(0, .optr im 0), (2, .int .i64 (d : Nat)), (4, .optr H.length 0), (6, .optr (H.length + 1) 0), (7, .optr (H.length + 2) 0), (16, .slice (u.args.map Ty.enc) .none)]) [0, 2, 4, 6, 7, 16] ([]) (fun (q : List Ty × Bool) => nH c H im q.2 ++ [.row u.enc.cells, .row [.int .i64 0, .int .i64 0, .slice [] .full], .row [.int .i64 u.kind, .int .i64 u.id, .slice (q.1.map Ty.enc) (.tok (H.length + 3))], .buf q.1.length 3]) (fun (i : Nat) (q : List Ty × Bool) => q.1 = (u.args.take i).map (fun v => (normD (projN c.r.syms c.ds c.sas d) v).1) ∧ q.2 = (b || (u.args.take i).any fun v => (normD (projN c.r.syms c.ds c.sas d) v).2)) (([], b)) ([]) rfl rfl rfl rfl rfl rfl rfl rfl rfl (by decide) (by decide) (by decide) (fun _ => rfl) (hu.lenMax) ⟨(by first | rfl | (simp only [jN, seval, vint, qA, MH, fa, fa0, fb, fb0, fc, fc0, fd, fd0, Bool.not_false] <;> first | done | with_reducible rfl)), (by first | rfl | (simp only [jN, seval, vint, qA, MH, fa, fa0, fb, fb0, fc, fc0, fd, fd0, Bool.not_false] <;> first | done | with_reducible rfl)), (by first | rfl | (simp only [jN, seval, vint, qA, MH, fa, fa0, fb, fb0, fc, fc0, fd, fd0, Bool.not_false] <;> first | done | with_reducible rfl)), (by first | rfl | (simp only [jN, seval, vint, qA, MH, fa, fa0, fb, fb0, fc, fc0, fd, fd0, Bool.not_false] <;> first | done | with_reducible rfl)), (by first | rfl | (simp only [jN, seval, vint, qA, MH, fa, fa0, fb, fb0, fc, fc0, fd, fd0, Bool.not_false] <;> first | done | with_reducible rfl)), (by first | rfl | (simp only [jN, seval, vint, qA, MH, fa, fa0, fb, fb0, fc, fc0, fd, fd0, Bool.not_false] <;> first | done | with_reducible rfl)), (by first | rfl | (simp only [jN, seval, vint, qA, MH, fa, fa0, fb, fb0, fc, fc0, fd, fd0, Bool.not_false] <;> first | done | with_reducible rfl)), (by first | rfl | (simp only [jN, seval, vint, qA, MH, fa, fa0, fb, fb0, fc, fc0, fd, fd0, Bool.not_false] <;> first | done | with_reducible rfl)), trivial⟩ (by first | rfl | (simp only [jN, seval, vint, qA, MH, fa, fa0, fb, fb0, fc, fc0, fd, fd0, Bool.not_false] <;> first | done | with_reducible rfl)) (by simp) (fun i q hg => by simp only [List.nil_append, List.length_append, nH_len]; omega) ?_ ?_ ?_
    · intro i q hg
      refine ⟨?_, by repeat (first | exact BelL.nil | refine BelL.cons (by first | exact Bel.optr _ _ (by simp only [List.length_append, List.length_cons, List.length_nil, nH_len]; omega) | exact bel_ty_tok _ (by simp [nH_len]) | exact bel_Sy _ _ | exact Sy.bel _ _ | exact bel_Rf _ _ | exact bel_Dg _ _ | exact Rs.bel _ _ | exact bel_TB _ _ | exact TB.bel _ _ | exact bel_Dc _ _ | exact Dc.bel _ _ | exact Pf.bel _ _ | exact bel_Pf _ _ | exact Sv.bel _ _ | exact bel_Pf_tok _ (by simp) | exact bel_ints0 _ _ | exact bel_slice_ty _ _ | exact Ty.bel _ _ | exact bel_ty_tok _ (by simp) | exact Bel.int _ _ | exact Bel.bool _ | exact Bel.str _ | exact Bel.nilp | exact Bel.nilfn | exact Bel.optr _ _ (by simp) | exact bel_nil0 _ | exact bel_nil1 _ | exact bel_fn0 _ _ | assumption) ?_)⟩
      simp only [List.nil_append, TyS]
      refine hbel_app' (nH_bel hb' him) (by simp [nH_len]) ?_
      repeat (first | exact hbel_nil _ | exact trivial | exact obel_row_nil _ | (refine HBel.cons ?_ ?_) | (refine obel_row_cons (by first | exact Bel.optr _ _ (by simp only [List.length_append, List.length_cons, List.length_nil, nH_len]; omega) | exact bel_ty_tok _ (by simp [nH_len]) | exact bel_Sy _ _ | exact Sy.bel _ _ | exact bel_Rf _ _ | exact bel_Dg _ _ | exact Rs.bel _ _ | exact bel_TB _ _ | exact TB.bel _ _ | exact bel_Dc _ _ | exact Dc.bel _ _ | exact Pf.bel _ _ | exact bel_Pf _ _ | exact Sv.bel _ _ | exact bel_Pf_tok _ (by simp) | exact bel_ints0 _ _ | exact bel_slice_ty _ _ | exact Ty.bel _ _ | exact bel_ty_tok _ (by simp) | exact Bel.int _ _ | exact Bel.bool _ | exact Bel.str _ | exact Bel.nilp | exact Bel.nilfn | exact Bel.optr _ _ (by simp) | exact bel_nil0 _ | exact bel_nil1 _ | exact bel_fn0 _ _ | assumption) ?_))
    · intro i q hi hg
      have g1 := ix_nat hi
      have g2 := get_enc Ty.enc hi
      have hmem : u.args[i] ∈ u.args := List.getElem_mem hi
      have hsa := Ty.size_arg hmem
      obtain ⟨a, hae⟩ : ∃ a, u.args[i] = a := ⟨_, rfl⟩
      have haw := hu.arg hmem
      rw [hae] at g2 hsa haw
      have hlen := hu.len
      have hql : q.1.length < u.args.length := by rw [hg.1, List.length_map, List.length_take]; omega
      have happ := app_ty (us := q.1) (u := (normD (projN c.r.syms c.ds c.sas d) a).1) (id := H.length + 3) (tl := .full) (by omega)
      repeat (refine awp_seq ?_)
      refine e_eval (by simp only [jA, jO, jN, seval, y22, y24, vint, qA, MH, fa, fa0, fb, fb0, fc, fc0, fd, fd0, Bool.not_false, g1, g2, Int.toNat_natCast] <;> with_reducible rfl) (by decide) ?_
      repeat (refine awp_seq ?_)
      refine x_draw 0 (n0 := H.length + 5) (by first | rfl | (simp only [List.length_append, List.length_cons, List.length_nil, Nat.reduceAdd, Nat.zero_add, MH, fa, fa0, fb, fb0, fc, fc0, fd, fd0, Bool.not_false, g1, g2, Int.toNat_natCast, happ]; done)) (by kernel_rfl) ?_
      refine x_mid (by first | (simp only [LS, HS, List.append_assoc, List.cons_append, List.nil_append, MH, fa, fa0, fb, fb0, fc, fc0, fd, fd0, Bool.not_false, g1, g2, Int.toNat_natCast, happ] <;> with_reducible rfl) | rfl) ?_
      refine x2_take 5 (bm := [0, 1, 0, 0, 0, 28, 60, 127, 255, 511]) (fresh := (H.length + 5)) (by kernel_rfl) (by simp only [jX, jO, jN, seval, y22, y24, vint, qA, MH, fa, fa0, fb, fb0, fc, fc0, fd, fd0, Bool.not_false, g1, g2, Int.toNat_natCast, happ] <;> with_reducible rfl) (by decide) (by decide) ?_
      refine x2_fx (bm := [0, 1, 0, 0, 0, 28, 60, 127, 255, 511]) [im] im (c.row (q.2 || (normD (projN c.r.syms c.ds c.sas d) a).2)) (by kernel_rfl) (by simp only [jE, jN, seval, vint, qA, MH, fa, fa0, fb, fb0, fc, fc0, fd, fd0, Bool.not_false, g1, g2, Int.toNat_natCast, happ] <;> with_reducible rfl) (by simp only [jE, jN, seval, vint, qA, MH, fa, fa0, fb, fb0, fc, fc0, fd, fd0, Bool.not_false, g1, g2, Int.toNat_natCast, happ] <;> with_reducible rfl) (by simp only [jE, jN, seval, vint, qA, MH, fa, fa0, fb, fb0, fc, fc0, fd, fd0, Bool.not_false, g1, g2, Int.toNat_natCast, happ]) (by decide) Trygo107 (fun H' hr _ => nSet (fun H him => norm_k c hc d hproj k a im q.2 H (by omega) haw him) H' (by have := hr im (by simp); simp only [MH] at this; exact this)) (by simp) (by simp only [jX, jO, jN, seval, vint, qA, MH, fa, fa0, fb, fb0, fc, fc0, fd, fd0, Bool.not_false, g1, g2, Int.toNat_natCast, happ] <;> first | done | rfl) (by simp only [jX, jO, jN, seval, vint, qA, MH, fa, fa0, fb, fb0, fc, fc0, fd, fd0, Bool.not_false, g1, g2, Int.toNat_natCast, happ] <;> first | done | rfl) (by simp only [jX, jO, jN, seval, vint, qA, MH, fa, fa0, fb, fb0, fc, fc0, fd, fd0, Bool.not_false, g1, g2, Int.toNat_natCast, happ] <;> with_reducible rfl) ?_
      refine x2_end (bm := [0, 1, 0, 0, 0, 28, 60, 127, 255, 511]) (fresh := (H.length + 5)) (by kernel_rfl) (by simp only [jX, jO, jN, seval, y22, y24, vint, qA, MH, fa, fa0, fb, fb0, fc, fc0, fd, fd0, Bool.not_false, g1, g2, Int.toNat_natCast, happ] <;> with_reducible rfl) (by decide) (by repeat (first | exact Fin.base _ | with_reducible apply Fin.keep | apply Fin.drop)) ?_
      exact ⟨⟨rfl, rfl, trivial⟩, (q.1 ++ [(normD (projN c.r.syms c.ds c.sas d) a).1], q.2 || (normD (projN c.r.syms c.ds c.sas d) a).2), _, ⟨rfl, rfl, rfl, rfl, rfl, rfl, trivial⟩, by simp only [jN, seval, vint, qA, MH, List.length_append, List.length_singleton, List.append_assoc, List.cons_append, List.nil_append] <;> rfl, by rw [map_take_succ _ hi, ← hg.1, hae], by rw [List.take_succ_eq_append_getElem hi, List.any_append, ← Bool.or_assoc, ← hg.2, hae]; simp⟩
    · intro q hg
      rw [List.take_length] at hg
      obtain ⟨hq1, hq2⟩ := hg
      have hqW : (Ty.mk u.kind u.id q.1).W := by
        rw [Ty.W_iff, hq1, List.length_map]
        exact ⟨hu.len, fun v hv => by obtain ⟨w, hw, rfl⟩ := List.mem_map.1 hv; exact norm_W c hc d w (hu.arg hw)⟩
      repeat (refine awp_seq ?_)
      refine e_eval (by simp only [jA, jO, jN, seval, y3, y24, vint, qA, MH, fa, fa0, fb, fb0, fc, fc0, fd, fd0, Bool.not_false] <;> with_reducible rfl) (by decide) ?_
      repeat (refine awp_seq ?_)
      refine awp_cond rfl (by simp only [jN, seval, vint, qA, MH, fa, fa0, fb, fb0, fc, fc0, fd, fd0, Bool.not_false] <;> with_reducible rfl) (fun b0 => ?_) (fun b0 => ?_)
      ·
        have hk : u.kind = 10 := of_decide_eq_true b0
        have hN : normD (projN c.r.syms c.ds c.sas d) u = (((projN c.r.syms c.ds c.sas d) (.mk u.kind u.id q.1)).1, (u.args.any fun v => (normD (projN c.r.syms c.ds c.sas d) v).2) || ((projN c.r.syms c.ds c.sas d) (.mk u.kind u.id q.1)).2) := by rw [normD_eq, if_pos hk, hq1]
        have hfin : (b || (normD (projN c.r.syms c.ds c.sas d) u).2) = (q.2 || ((projN c.r.syms c.ds c.sas d) (.mk u.kind u.id q.1)).2) := by rw [hN, hq2, Bool.or_assoc]
        rw [hfin, hN]
        repeat (refine awp_seq ?_)
        refine awp_region ?_
        refine e_take 3 (by simp only [jA, jO, jN, seval, y24, vint, qA, MH, fa, fa0, fb, fb0, fc, fc0, fd, fd0, Bool.not_false] <;> with_reducible rfl) (by decide) ?_
        refine aops_acall (by simp only [jC, jN, seval, vint, qA, MH, fa, fa0, fb, fb0, fc, fc0, fd, fd0, Bool.not_false] <;> with_reducible rfl) (by simp only [jC, jN, seval, vint, qA, MH, fa, fa0, fb, fb0, fc, fc0, fd, fd0, Bool.not_false]) (by decide) Trygo132 (nSet (fun H him => hproj (.mk u.kind u.id q.1) im q.2 H hqW him) _ (by simp only [MH]; rfl)) ?_
        rintro _ _ ⟨rfl, rfl⟩
        refine e_end (by simp only [jA, jO, jN, seval, y24, vint, qA, MH, fa, fa0, fb, fb0, fc, fc0, fd, fd0, Bool.not_false] <;> with_reducible rfl) (by decide) ?_
        repeat (refine awp_seq ?_)
        refine awp_ret ⟨.inr rfl, _, _, (ares_cell 6 24 rfl Tryti24 (by decide) (by simp only [jL, jN, seval, vint, qA, MH, fa, fa0, fb, fb0, fc, fc0, fd, fd0, Bool.not_false] <;> with_reducible rfl)), ?_, rfl⟩
        exact Ty.enc_drop1 _
      ·
        have hk : ¬ u.kind = 10 := of_decide_eq_false b0
        have hN : normD (projN c.r.syms c.ds c.sas d) u = (.mk u.kind u.id q.1, u.args.any fun v => (normD (projN c.r.syms c.ds c.sas d) v).2) := by rw [normD_eq, if_neg hk, hq1]
        have hfin : (b || (normD (projN c.r.syms c.ds c.sas d) u).2) = q.2 := by rw [hN, hq2]
        rw [hfin, hN]
        repeat (refine awp_seq ?_)
        refine awp_skip ?_
        repeat (refine awp_seq ?_)
        refine e_eval (by simp only [jA, jO, jN, seval, y24, vint, qA, MH, fa, fa0, fb, fb0, fc, fc0, fd, fd0, Bool.not_false] <;> with_reducible rfl) (by decide) ?_
        repeat (refine awp_seq ?_)
        refine awp_ret ⟨.inr rfl, _, _, (ares_cell 6 24 rfl Tryti24 (by decide) (by simp only [jL, jN, seval, vint, qA, MH, fa, fa0, fb, fb0, fc, fc0, fd, fd0, Bool.not_false] <;> with_reducible rfl)), ?_, rfl⟩
        first | exact Ty.enc_drop1 _ | (simp only [TyF, d1_agg, LS]; exact Ty.enc_drop1 _) | rfl

end Go.Abs
set_option maxRecDepth 4000
namespace Go.Abs
open Go.Proofs

theorem containsInt (xs : List Int) (n : Int) (hx : xs.length ≤ maxLen) : PC Try.prog 33 [.slice (xs.map vint) .none, vint n] (.bool (xs.any fun x => decide (n = x))) := by
  refine pc_of (N := 9) Try.func33 rfl rfl (by simp) (by simp [bel_ints0, Bel.int]) (.bool _) ?_
  repeat (refine awp_seq ?_)
  refine e_eval (by simp only [jA, jO, jN, seval, vint, TyS, TyF, BdS] <;> with_reducible rfl) (by decide) ?_
  repeat (refine awp_seq ?_)
  refine awp_region ?_
  refine e_take 2 (by simp only [jA, jO, jN, seval, vint, TyS, TyF, BdS] <;> with_reducible rfl) (by decide) ?_
  refine aops_pure (by simp only [jC, jN, seval, vint, TyS, TyF, BdS] <;> with_reducible rfl) (by simp only [jC, jN, seval, vint, TyS, TyF, BdS]) (by decide) Trygo78 (index xs n hx _) ?_
  refine e_end (by simp only [jA, jO, jN, seval, y3, vint, TyS, TyF, BdS] <;> with_reducible rfl) (by decide) ?_
  repeat (refine awp_seq ?_)
  refine awp_ret ⟨.inr rfl, _, rfl, ?_⟩
  rw [← idxI_nonneg]; rfl

theorem equalInts (us vs : List Int) (ha : us.length ≤ maxLen) : PC Try.prog 39 [.slice (us.map vint) .none, .slice (vs.map vint) .none] (.bool (decide (us = vs))) := by
  refine pc_of (N := 26) Try.func39 rfl rfl (by simp) (by simp [bel_ints0]) (.bool _) ?_
  repeat (refine awp_seq ?_)
  refine e_eval (by simp only [jA, jO, jN, seval, vint, TyS, TyF, BdS] <;> with_reducible rfl) (by decide) ?_
  repeat (refine awp_seq ?_)
  refine e_eval (by simp only [jA, jO, jN, seval, y3, y25, vint, TyS, TyF, BdS] <;> with_reducible rfl) (by decide) ?_
  repeat (refine awp_seq ?_)
  refine awp_cond rfl (by simp only [jN, seval, vint, TyS, TyF, BdS] <;> with_reducible rfl) (fun b0 => ?_) (fun b0 => ?_)
  ·
    repeat (refine awp_seq ?_)
    refine e_eval (by simp only [jA, jO, jN, seval, vint, TyS, TyF, BdS] <;> with_reducible rfl) (by decide) ?_
    repeat (refine awp_seq ?_)
    refine awp_ret ⟨.inr rfl, _, rfl, ?_⟩
    have : us ≠ vs := by rintro rfl; simp at b0
    simp [this, upd_apply, PV.drop1]
  ·
    have hlen : us.length = vs.length := by simp at b0; omega
    repeat (refine awp_seq ?_)
    refine awp_skip ?_
    repeat (refine awp_seq ?_)
    refine e_eval (by simp only [jA, jO, jN, seval, y3, y25, vint, TyS, TyF, BdS] <;> with_reducible rfl) (by decide) ?_
    repeat (refine awp_seq ?_)
    refine awp_forS (σ := Unit) (us.length) (fun (s : Unit) => [(0, .slice (us.map vint) .none), (1, .slice (vs.map vint) .none)]) [0, 1] ([]) (fun (s : Unit) => []) (fun (i : Nat) (s : Unit) => us.take i = vs.take i) (()) ([]) rfl rfl rfl rfl rfl rfl rfl rfl rfl (by decide) (by decide) (by decide) (fun _ => rfl) (ha) ⟨(by first | rfl | (simp only [jN, seval, vint, TyS, TyF, BdS] <;> first | done | with_reducible rfl)), (by first | rfl | (simp only [jN, seval, vint, TyS, TyF, BdS] <;> first | done | with_reducible rfl)), (by first | rfl | (simp only [jN, seval, vint, TyS, TyF, BdS] <;> first | done | with_reducible rfl)), (by first | rfl | (simp only [jN, seval, vint, TyS, TyF, BdS] <;> first | done | with_reducible rfl)), trivial⟩ (by first | rfl | (simp only [jN, seval, vint, TyS, TyF, BdS] <;> first | done | with_reducible rfl)) (by simp) (fun _ _ _ => by first | exact Nat.zero_le _ | (simp only [List.length_append]; omega)) ?_ ?_ ?_
    · exact fun i s hg => ⟨by first | exact hbel_nil _ | (simp only [List.append_nil]; assumption) | (refine hbel_app' hb' (by simp) ?_; repeat (first | exact hbel_nil _ | exact trivial | exact obel_row_nil _ | (refine HBel.cons ?_ ?_) | (refine obel_row_cons (by first | exact bel_Bd _ _ | exact Bd.bel _ _ | exact bel_ints0 _ _ | exact bel_slice_ty _ _ | exact Ty.bel _ _ | exact bel_ty_tok _ (by simp) | exact Bel.int _ _ | exact Bel.bool _ | exact Bel.str _ | exact Bel.nilp | exact Bel.nilfn | exact Bel.optr _ _ (by simp) | exact bel_nil0 _ | exact bel_nil1 _ | exact bel_fn0 _ _ | assumption) ?_))), by repeat (first | exact BelL.nil | refine BelL.cons (by first | exact bel_Bd _ _ | exact Bd.bel _ _ | exact bel_ints0 _ _ | exact bel_slice_ty _ _ | exact Ty.bel _ _ | exact bel_ty_tok _ (by simp) | exact Bel.int _ _ | exact Bel.bool _ | exact Bel.str _ | exact Bel.nilp | exact Bel.nilfn | exact Bel.optr _ _ (by simp) | exact bel_nil0 _ | exact bel_nil1 _ | exact bel_fn0 _ _ | assumption) ?_)⟩
    · intro i s hi hg
      have g1 := ix_nat hi
      have hi2 : i < vs.length := by omega
      have g3 := ix_nat hi2
      have g2 := get_enc vint hi
      have g4 := get_enc vint hi2
      repeat (refine awp_seq ?_)
      refine e_eval (by simp only [jA, jO, jN, seval, vint, TyS, TyF, BdS, g1, Int.toNat_natCast, g2, g3, g4] <;> with_reducible rfl) (by decide) ?_
      repeat (refine awp_seq ?_)
      refine awp_draw 0 (by kernel_rfl) ?_
      refine d_end (bm := [0, 0, 3, 7, 0, 0, 48, 112, 255]) (fresh := 0) (by kernel_rfl) (by simp only [jD, jO, jN, seval, y3, y25, vint, TyS, TyF, BdS, g1, Int.toNat_natCast, g2, g3, g4] <;> with_reducible rfl) (by decide) ?_
      repeat (refine awp_seq ?_)
      refine awp_cond rfl (by simp only [jN, seval, vint, TyS, TyF, BdS, g1, Int.toNat_natCast, g2, g3, g4] <;> with_reducible rfl) (fun b1 => ?_) (fun b1 => ?_)
      ·
        repeat (refine awp_seq ?_)
        refine e_eval (by simp only [jA, jO, jN, seval, vint, TyS, TyF, BdS, g1, Int.toNat_natCast, g2, g3, g4] <;> with_reducible rfl) (by decide) ?_
        repeat (refine awp_seq ?_)
        refine awp_ret ⟨.inr rfl, _, rfl, ?_⟩
        have : us ≠ vs := by rintro rfl; simp at b1
        simp [this, upd_apply, PV.drop1]
      ·
        repeat (refine awp_seq ?_)
        refine awp_skip ?_
        have he : us[i] = vs[i] := by simpa using b1
        exact ⟨⟨rfl, rfl, trivial⟩, (), _, ⟨rfl, rfl, trivial⟩, rfl, by rw [List.take_succ_eq_append_getElem hi, List.take_succ_eq_append_getElem hi2, hg, he]⟩
    · intro s hg
      repeat (refine awp_seq ?_)
      refine e_eval (by simp only [jA, jO, jN, seval, vint, TyS, TyF, BdS] <;> with_reducible rfl) (by decide) ?_
      repeat (refine awp_seq ?_)
      refine awp_ret ⟨.inr rfl, _, rfl, ?_⟩
      rw [List.take_length, hlen, List.take_length] at hg
      simp [hg, upd_apply, PV.drop1]

theorem allOK_c (us : List Int) (ha : us.length ≤ maxLen) : PC Try.prog 30 [.slice (us.map vint) .none] (.bool (us.all fun c => decide (c = 0))) := by
  refine pc_of (N := 14) Try.func30 rfl rfl (by simp) (by simp [bel_ints0]) (.bool _) ?_
  repeat (refine awp_seq ?_)
  refine e_eval (by simp only [jA, jO, jN, seval, vint, TyS, TyF, BdS] <;> with_reducible rfl) (by decide) ?_
  repeat (refine awp_seq ?_)
  refine e_eval (by simp only [jA, jO, jN, seval, y38, y112, vint, TyS, TyF, BdS] <;> with_reducible rfl) (by decide) ?_
  repeat (refine awp_seq ?_)
  refine awp_forS (σ := Unit) (us.length) (fun (s : Unit) => [(5, .slice (us.map vint) .none)]) [5] ([]) (fun (s : Unit) => []) (fun (i : Nat) (s : Unit) => (us.take i).all (fun c => decide (c = 0)) = true) (()) ([]) rfl rfl rfl rfl rfl rfl rfl rfl rfl (by decide) (by decide) (by decide) (fun _ => rfl) (ha) ⟨(by first | rfl | (simp only [jN, seval, vint, TyS, TyF, BdS] <;> first | done | with_reducible rfl)), (by first | rfl | (simp only [jN, seval, vint, TyS, TyF, BdS] <;> first | done | with_reducible rfl)), (by first | rfl | (simp only [jN, seval, vint, TyS, TyF, BdS] <;> first | done | with_reducible rfl)), trivial⟩ (by first | rfl | (simp only [jN, seval, vint, TyS, TyF, BdS] <;> first | done | with_reducible rfl)) (by simp) (fun _ _ _ => by first | exact Nat.zero_le _ | (simp only [List.length_append]; omega)) ?_ ?_ ?_
  · exact fun i s hg => ⟨by first | exact hbel_nil _ | (simp only [List.append_nil]; assumption) | (refine hbel_app' hb' (by simp) ?_; repeat (first | exact hbel_nil _ | exact trivial | exact obel_row_nil _ | (refine HBel.cons ?_ ?_) | (refine obel_row_cons (by first | exact bel_Bd _ _ | exact Bd.bel _ _ | exact bel_ints0 _ _ | exact bel_slice_ty _ _ | exact Ty.bel _ _ | exact bel_ty_tok _ (by simp) | exact Bel.int _ _ | exact Bel.bool _ | exact Bel.str _ | exact Bel.nilp | exact Bel.nilfn | exact Bel.optr _ _ (by simp) | exact bel_nil0 _ | exact bel_nil1 _ | exact bel_fn0 _ _ | assumption) ?_))), by repeat (first | exact BelL.nil | refine BelL.cons (by first | exact bel_Bd _ _ | exact Bd.bel _ _ | exact bel_ints0 _ _ | exact bel_slice_ty _ _ | exact Ty.bel _ _ | exact bel_ty_tok _ (by simp) | exact Bel.int _ _ | exact Bel.bool _ | exact Bel.str _ | exact Bel.nilp | exact Bel.nilfn | exact Bel.optr _ _ (by simp) | exact bel_nil0 _ | exact bel_nil1 _ | exact bel_fn0 _ _ | assumption) ?_)⟩
  · intro i s hi hg
    have g1 := ix_nat hi
    have g2 := get_enc vint hi
    repeat (refine awp_seq ?_)
    refine e_eval (by simp only [jA, jO, jN, seval, y38, y112, vint, TyS, TyF, BdS, g1, Int.toNat_natCast, g2] <;> with_reducible rfl) (by decide) ?_
    repeat (refine awp_seq ?_)
    refine e_eval (by simp only [jA, jO, jN, seval, y38, vint, TyS, TyF, BdS, g1, Int.toNat_natCast, g2] <;> with_reducible rfl) (by decide) ?_
    repeat (refine awp_seq ?_)
    refine awp_cond rfl (by simp only [jN, seval, vint, TyS, TyF, BdS, g1, Int.toNat_natCast, g2] <;> with_reducible rfl) (fun b0 => ?_) (fun b0 => ?_)
    ·
      repeat (refine awp_seq ?_)
      refine e_eval (by simp only [jA, jO, jN, seval, vint, TyS, TyF, BdS, g1, Int.toNat_natCast, g2] <;> with_reducible rfl) (by decide) ?_
      repeat (refine awp_seq ?_)
      refine awp_ret ⟨.inr rfl, _, rfl, ?_⟩
      have : us[i] ≠ 0 := by simpa using b0
      have : (us.all fun c => decide (c = 0)) = false := by rw [List.all_eq_false]; exact ⟨_, List.getElem_mem hi, by simpa using this⟩
      simp [this, upd_apply, PV.drop1]
    ·
      repeat (refine awp_seq ?_)
      refine awp_skip ?_
      exact ⟨⟨rfl, rfl, trivial⟩, (), _, ⟨rfl, trivial⟩, rfl, all_take_succ hi hg (by simpa using b0)⟩
  · intro s hg
    repeat (refine awp_seq ?_)
    refine e_eval (by simp only [jA, jO, jN, seval, vint, TyS, TyF, BdS] <;> with_reducible rfl) (by decide) ?_
    repeat (refine awp_seq ?_)
    refine awp_ret ⟨.inr rfl, _, rfl, ?_⟩
    rw [List.take_length] at hg
    simp [hg, upd_apply, PV.drop1]

theorem measure_k : ∀ (k : Nat) (t : Ty) (L : Int), t.size ≤ k → t.W → 0 ≤ L → L ≤ 1048576 → PC Try.prog 84 [t.enc, vint L] (.tup [vint (measT t L).1, vint (measT t L).2])
  | 0, t, L, h, _, _, _ => by cases t; simp [Ty.size] at h
  | k + 1, t, L, h, hw, hL0, hL => by
    have hbd := measT_bd t L hL0
    refine pc_of (N := 38) Try.func84 rfl rfl (by simp) (by simp [Ty.bel, Bel.int]) (.tup _ (by simp [Bel.int])) ?_
    repeat (refine awp_seq ?_)
    refine e_eval (by simp only [jA, jO, jN, seval, y24, vint, TyS, TyF, BdS] <;> with_reducible rfl) (by decide) ?_
    repeat (refine awp_seq ?_)
    refine e_eval (by simp only [jA, jO, jN, seval, vint, TyS, TyF, BdS] <;> with_reducible rfl) (by decide) ?_
    repeat (refine awp_seq ?_)
    refine e_eval (by simp only [jA, jO, jN, seval, y22, y24, vint, TyS, TyF, BdS] <;> with_reducible rfl) (by decide) ?_
    repeat (refine awp_seq ?_)
    refine awp_forS (σ := Int × Int) (t.args.length) (fun (q : Int × Int) => [(1, vint L), (4, vint q.1), (5, vint q.2), (11, .slice (t.args.map Ty.enc) .none)]) [1, 4, 5, 11] ([]) (fun (q : Int × Int) => []) (fun (i : Nat) (q : Int × Int) => (1 ≤ q.1 ∧ q.1 ≤ L + 1 ∧ 0 ≤ q.2 ∧ q.2 ≤ L) ∧ measL ((t.args.map measT).drop i) L q = measL (t.args.map measT) L (1, 0)) ((1, 0)) (_) rfl rfl rfl rfl rfl rfl rfl rfl rfl (by decide) (by decide) (by decide) (fun _ => rfl) (hw.lenMax) ⟨(by first | rfl | (simp only [jN, seval, vint, TyS, TyF, BdS] <;> first | done | with_reducible rfl)), (by first | rfl | (simp only [jN, seval, vint, TyS, TyF, BdS] <;> first | done | with_reducible rfl)), (by first | rfl | (simp only [jN, seval, vint, TyS, TyF, BdS] <;> first | done | with_reducible rfl)), (by first | rfl | (simp only [jN, seval, vint, TyS, TyF, BdS] <;> first | done | with_reducible rfl)), (by first | rfl | (simp only [jN, seval, vint, TyS, TyF, BdS] <;> first | done | with_reducible rfl)), (by first | rfl | (simp only [jN, seval, vint, TyS, TyF, BdS] <;> first | done | with_reducible rfl)), trivial⟩ (by first | rfl | (simp only [jN, seval, vint, TyS, TyF, BdS] <;> first | done | with_reducible rfl)) (⟨by simp; omega, rfl⟩) (fun _ _ _ => by first | exact Nat.zero_le _ | (simp only [List.length_append]; omega)) ?_ ?_ ?_
    · exact fun i s hg => ⟨by first | exact hbel_nil _ | (simp only [List.append_nil]; assumption) | (refine hbel_app' hb' (by simp) ?_; repeat (first | exact hbel_nil _ | exact trivial | exact obel_row_nil _ | (refine HBel.cons ?_ ?_) | (refine obel_row_cons (by first | exact bel_Bd _ _ | exact Bd.bel _ _ | exact bel_ints0 _ _ | exact bel_slice_ty _ _ | exact Ty.bel _ _ | exact bel_ty_tok _ (by simp) | exact Bel.int _ _ | exact Bel.bool _ | exact Bel.str _ | exact Bel.nilp | exact Bel.nilfn | exact Bel.optr _ _ (by simp) | exact bel_nil0 _ | exact bel_nil1 _ | exact bel_fn0 _ _ | assumption) ?_))), by repeat (first | exact BelL.nil | refine BelL.cons (by first | exact bel_Bd _ _ | exact Bd.bel _ _ | exact bel_ints0 _ _ | exact bel_slice_ty _ _ | exact Ty.bel _ _ | exact bel_ty_tok _ (by simp) | exact Bel.int _ _ | exact Bel.bool _ | exact Bel.str _ | exact Bel.nilp | exact Bel.nilfn | exact Bel.optr _ _ (by simp) | exact bel_nil0 _ | exact bel_nil1 _ | exact bel_fn0 _ _ | assumption) ?_)⟩
    · intro i q hi hg
      obtain ⟨⟨q1, q2, q3, q4⟩, hg⟩ := hg
      have g1 := ix_nat hi
      have g2 := get_enc Ty.enc hi
      have hmem : t.args[i] ∈ t.args := List.getElem_mem hi
      rw [List.drop_eq_getElem_cons (by simpa using hi), List.getElem_map, measL_cons] at hg
      repeat (refine awp_seq ?_)
      refine e_eval (by simp only [jA, jO, jN, seval, y22, y24, vint, TyS, TyF, BdS, g1, g2, Int.toNat_natCast] <;> with_reducible rfl) (by decide) ?_
      repeat (refine awp_seq ?_)
      refine e_eval (by simp only [jA, jO, jN, seval, y3, vint, TyS, TyF, BdS, g1, g2, Int.toNat_natCast] <;> with_reducible rfl) (by decide) ?_
      repeat (refine awp_seq ?_)
      refine awp_cond rfl (by simp only [jN, seval, vint, TyS, TyF, BdS, g1, g2, Int.toNat_natCast] <;> with_reducible rfl) (fun b0 => ?_) (fun b0 => ?_)
      ·
        rw [if_pos b0] at hg
        have hwr : IntKind.i64.wrap (q.2 + 1) = q.2 + 1 := wrap_id (by omega) (by omega)
        repeat (refine awp_seq ?_)
        refine awp_exit ?_
        simp only [thenQ, blockQ, reduceIte, Nat.reduceEqDiff, Nat.succ_ne_self, if_true, if_false]
        repeat (refine awp_seq ?_)
        refine e_eval (by simp only [jA, jO, jN, seval, y3, vint, TyS, TyF, BdS, g1, g2, Int.toNat_natCast, hwr] <;> with_reducible rfl) (by decide) ?_
        repeat (refine awp_seq ?_)
        refine awp_ret ⟨.inr rfl, _, (ares_two (.tmp 4) (.tmp 5) rfl (ares_tmp1 (by decide)) (ares_tmp1 (by decide))), ?_⟩
        rw [measT_eq t L, ← hg]; rfl
      ·
        rw [if_neg (by rw [b0]; simp)] at hg
        have hle : q.1 ≤ L := by have : ¬ q.1 > L := of_decide_eq_false b0; omega
        have hwr1 : IntKind.i64.wrap (L - q.1) = L - q.1 := wrap_id (by omega) (by omega)
        have hb2 := measT_bd t.args[i] (L - q.1) (by omega)
        have hwr2 : IntKind.i64.wrap (q.1 + (measT t.args[i] (L - q.1)).1) = q.1 + (measT t.args[i] (L - q.1)).1 := wrap_id (by omega) (by omega)
        repeat (refine awp_seq ?_)
        refine awp_skip ?_
        repeat (refine awp_seq ?_)
        refine awp_region ?_
        refine e_take 4 (by simp only [jA, jO, jN, seval, y3, y24, vint, TyS, TyF, BdS, g1, g2, Int.toNat_natCast, hwr1] <;> with_reducible rfl) (by decide) ?_
        refine aops_pure (by simp only [jC, jN, seval, vint, TyS, TyF, BdS, g1, g2, Int.toNat_natCast, hwr1] <;> with_reducible rfl) (by simp only [jC, jN, seval, vint, TyS, TyF, BdS, g1, g2, Int.toNat_natCast, hwr1]) (by decide) Trygo84 (measure_k k t.args[i] (L - q.1) (by have := Ty.size_arg hmem; omega) (hw.arg hmem) (by omega) (by omega) _) ?_
        refine e_end (by simp only [jA, jO, jN, seval, vint, TyS, TyF, BdS, g1, g2, Int.toNat_natCast, hwr1] <;> with_reducible rfl) (by decide) ?_
        refine awp_sel [1, 4, 5, 8, 9, 11, 12, 13] (by simp only [jN, seval, vint, TyS, TyF, BdS, g1, g2, Int.toNat_natCast] <;> with_reducible rfl) ?_
        repeat (refine awp_seq ?_)
        refine e_eval (by simp only [jA, jO, jN, seval, y3, vint, TyS, TyF, BdS, g1, g2, Int.toNat_natCast, hwr2] <;> with_reducible rfl) (by decide) ?_
        exact ⟨⟨rfl, rfl, trivial⟩, (q.1 + (measT t.args[i] (L - q.1)).1, max q.2 (measT t.args[i] (L - q.1)).2), _, ⟨rfl, rfl, rfl, rfl, trivial⟩, rfl, ⟨by simp only; omega, by simp only; omega, by simp only; omega, by simp only; omega⟩, hg⟩
    · intro q hg
      obtain ⟨⟨q1, q2, q3, q4⟩, hg⟩ := hg
      rw [List.drop_eq_nil_of_le (by simp), measL_nil] at hg
      have hwr : IntKind.i64.wrap (q.2 + 1) = q.2 + 1 := wrap_id (by omega) (by omega)
      repeat (refine awp_seq ?_)
      refine e_eval (by simp only [jA, jO, jN, seval, y3, vint, TyS, TyF, BdS, hwr] <;> with_reducible rfl) (by decide) ?_
      repeat (refine awp_seq ?_)
      refine awp_ret ⟨.inr rfl, _, (ares_two (.tmp 4) (.tmp 5) rfl (ares_tmp1 (by decide)) (ares_tmp1 (by decide))), ?_⟩
      rw [measT_eq t L, ← hg]; rfl

theorem nodeWellFormed (t : Ty) : PC Try.prog 124 [t.enc] (.bool (nwf t)) := by
  refine pc_of (N := 69) Try.func124 rfl rfl (by simp) (by simp [Ty.bel]) (.bool _) ?_
  repeat (refine awp_seq ?_)
  refine e_eval (by simp only [jA, jO, jN, seval, y24, vint, TyS, TyF, BdS, Int.cast_ofNat_Int] <;> with_reducible rfl) (by decide) ?_
  repeat (refine awp_seq ?_)
  refine e_eval (by simp only [jA, jO, jN, seval, y22, y24, vint, TyS, TyF, BdS, Int.cast_ofNat_Int] <;> with_reducible rfl) (by decide) ?_
  repeat (refine awp_seq ?_)
  refine e_eval (by simp only [jA, jO, jN, seval, y3, y24, vint, TyS, TyF, BdS, Int.cast_ofNat_Int] <;> with_reducible rfl) (by decide) ?_
  repeat (refine awp_seq ?_)
  refine awp_block ?_
  repeat (refine awp_seq ?_)
  refine e_eval (by simp only [jA, jO, jN, seval, y3, vint, TyS, TyF, BdS, Int.cast_ofNat_Int] <;> with_reducible rfl) (by decide) ?_
  repeat (refine awp_seq ?_)
  refine awp_cond rfl (by simp only [jN, seval, vint, TyS, TyF, BdS, Int.cast_ofNat_Int] <;> with_reducible rfl) (fun b0 => ?_) (fun b0 => ?_)
  ·
    repeat (refine awp_seq ?_)
    refine awp_skip ?_
    repeat (refine awp_seq ?_)
    refine awp_cond rfl (by simp only [jN, seval, vint, TyS, TyF, BdS, Int.cast_ofNat_Int] <;> with_reducible rfl) (fun b1 => ?_) (fun b1 => ?_)
    ·
      repeat (refine awp_seq ?_)
      refine g_eval (by simp only [jG, jO, jN, seval, y3, y24, vint, TyS, TyF, BdS, Int.cast_ofNat_Int] <;> with_reducible rfl) (by decide) (by repeat (first | exact Fin.base _ | with_reducible apply Fin.keep | apply Fin.drop)) ?_
      repeat (refine awp_seq ?_)
      refine awp_ret ⟨.inr rfl, _, rfl, ?_⟩
      simp only [jN, seval, vint, TyS, TyF, BdS]
      simp_all [nwf]
    ·
      repeat (refine awp_seq ?_)
      refine e_eval (by simp only [jA, jO, jN, seval, y3, vint, TyS, TyF, BdS, Int.cast_ofNat_Int] <;> with_reducible rfl) (by decide) ?_
      repeat (refine awp_seq ?_)
      refine awp_cond rfl (by simp only [jN, seval, vint, TyS, TyF, BdS, Int.cast_ofNat_Int] <;> with_reducible rfl) (fun b2 => ?_) (fun b2 => ?_)
      ·
        repeat (refine awp_seq ?_)
        refine awp_skip ?_
        repeat (refine awp_seq ?_)
        refine awp_cond rfl (by simp only [jN, seval, vint, TyS, TyF, BdS, Int.cast_ofNat_Int] <;> with_reducible rfl) (fun b3 => ?_) (fun b3 => ?_)
        ·
          repeat (refine awp_seq ?_)
          refine g_eval (by simp only [jG, jO, jN, seval, y3, y24, vint, TyS, TyF, BdS, Int.cast_ofNat_Int] <;> with_reducible rfl) (by decide) (by repeat (first | exact Fin.base _ | with_reducible apply Fin.keep | apply Fin.drop)) ?_
          repeat (refine awp_seq ?_)
          refine awp_ret ⟨.inr rfl, _, rfl, ?_⟩
          simp only [jN, seval, vint, TyS, TyF, BdS]
          simp_all [nwf]
        ·
          repeat (refine awp_seq ?_)
          refine e_eval (by simp only [jA, jO, jN, seval, y3, vint, TyS, TyF, BdS, Int.cast_ofNat_Int] <;> with_reducible rfl) (by decide) ?_
          repeat (refine awp_seq ?_)
          refine awp_cond rfl (by simp only [jN, seval, vint, TyS, TyF, BdS, Int.cast_ofNat_Int] <;> with_reducible rfl) (fun b4 => ?_) (fun b4 => ?_)
          ·
            repeat (refine awp_seq ?_)
            refine e_eval (by simp only [jA, jO, jN, seval, y3, y24, vint, TyS, TyF, BdS, Int.cast_ofNat_Int] <;> with_reducible rfl) (by decide) ?_
            repeat (refine awp_seq ?_)
            refine awp_ret ⟨.inr rfl, _, rfl, ?_⟩
            simp only [jN, seval, vint, TyS, TyF, BdS]
            simp_all [nwf]
          ·
            repeat (refine awp_seq ?_)
            refine e_eval (by simp only [jA, jO, jN, seval, y3, vint, TyS, TyF, BdS, Int.cast_ofNat_Int] <;> with_reducible rfl) (by decide) ?_
            repeat (refine awp_seq ?_)
            refine awp_cond rfl (by simp only [jN, seval, vint, TyS, TyF, BdS, Int.cast_ofNat_Int] <;> with_reducible rfl) (fun b5 => ?_) (fun b5 => ?_)
            ·
              refine awp_sel [1, 3] (by simp only [jN, seval, vint, TyS, TyF, BdS, Int.cast_ofNat_Int] <;> with_reducible rfl) ?_
              repeat (refine awp_seq ?_)
              refine g_eval (by simp only [jG, jO, jN, seval, y3, y24, vint, TyS, TyF, BdS, Int.cast_ofNat_Int] <;> with_reducible rfl) (by decide) (by repeat (first | exact Fin.base _ | with_reducible apply Fin.keep | apply Fin.drop)) ?_
              repeat (refine awp_seq ?_)
              refine awp_ret ⟨.inr rfl, _, rfl, ?_⟩
              simp only [jN, seval, vint, TyS, TyF, BdS]
              simp_all [nwf]
            ·
              refine awp_sel [1, 3, 8] (by simp only [jN, seval, vint, TyS, TyF, BdS, Int.cast_ofNat_Int] <;> with_reducible rfl) ?_
              repeat (refine awp_seq ?_)
              refine e_eval (by simp only [jA, jO, jN, seval, y3, vint, TyS, TyF, BdS, Int.cast_ofNat_Int] <;> with_reducible rfl) (by decide) ?_
              repeat (refine awp_seq ?_)
              refine awp_cond rfl (by simp only [jN, seval, vint, TyS, TyF, BdS, Int.cast_ofNat_Int] <;> with_reducible rfl) (fun b6 => ?_) (fun b6 => ?_)
              ·
                repeat (refine awp_seq ?_)
                refine g_eval (by simp only [jG, jO, jN, seval, y3, y24, vint, TyS, TyF, BdS, Int.cast_ofNat_Int] <;> with_reducible rfl) (by decide) (by repeat (first | exact Fin.base _ | with_reducible apply Fin.keep | apply Fin.drop)) ?_
                repeat (refine awp_seq ?_)
                refine awp_ret ⟨.inr rfl, _, rfl, ?_⟩
                simp only [jN, seval, vint, TyS, TyF, BdS]
                simp_all [nwf]
              ·
                repeat (refine awp_seq ?_)
                refine e_eval (by simp only [jA, jO, jN, seval, y3, vint, TyS, TyF, BdS, Int.cast_ofNat_Int] <;> with_reducible rfl) (by decide) ?_
                repeat (refine awp_seq ?_)
                refine awp_cond rfl (by simp only [jN, seval, vint, TyS, TyF, BdS, Int.cast_ofNat_Int] <;> with_reducible rfl) (fun b7 => ?_) (fun b7 => ?_)
                ·
                  repeat (refine awp_seq ?_)
                  refine g_eval (by simp only [jG, jO, jN, seval, y3, y24, vint, TyS, TyF, BdS, Int.cast_ofNat_Int] <;> with_reducible rfl) (by decide) (by repeat (first | exact Fin.base _ | with_reducible apply Fin.keep | apply Fin.drop)) ?_
                  repeat (refine awp_seq ?_)
                  refine awp_ret ⟨.inr rfl, _, rfl, ?_⟩
                  simp only [jN, seval, vint, TyS, TyF, BdS]
                  simp_all [nwf]
                ·
                  repeat (refine awp_seq ?_)
                  refine awp_skip ?_
                  repeat (refine awp_seq ?_)
                  refine e_eval (by simp only [jA, jO, jN, seval, vint, TyS, TyF, BdS, Int.cast_ofNat_Int] <;> with_reducible rfl) (by decide) ?_
                  repeat (refine awp_seq ?_)
                  refine awp_ret ⟨.inr rfl, _, rfl, ?_⟩
                  simp only [jN, seval, vint, TyS, TyF, BdS]
                  simp_all [nwf]
      ·
        repeat (refine awp_seq ?_)
        refine e_eval (by simp only [jA, jO, jN, seval, y3, vint, TyS, TyF, BdS, Int.cast_ofNat_Int] <;> with_reducible rfl) (by decide) ?_
        repeat (refine awp_seq ?_)
        refine awp_cond rfl (by simp only [jN, seval, vint, TyS, TyF, BdS, Int.cast_ofNat_Int] <;> with_reducible rfl) (fun b8 => ?_) (fun b8 => ?_)
        ·
          repeat (refine awp_seq ?_)
          refine g_eval (by simp only [jG, jO, jN, seval, y3, y24, vint, TyS, TyF, BdS, Int.cast_ofNat_Int] <;> with_reducible rfl) (by decide) (by repeat (first | exact Fin.base _ | with_reducible apply Fin.keep | apply Fin.drop)) ?_
          repeat (refine awp_seq ?_)
          refine awp_ret ⟨.inr rfl, _, rfl, ?_⟩
          simp only [jN, seval, vint, TyS, TyF, BdS]
          simp_all [nwf]
        ·
          repeat (refine awp_seq ?_)
          refine e_eval (by simp only [jA, jO, jN, seval, y3, vint, TyS, TyF, BdS, Int.cast_ofNat_Int] <;> with_reducible rfl) (by decide) ?_
          repeat (refine awp_seq ?_)
          refine awp_cond rfl (by simp only [jN, seval, vint, TyS, TyF, BdS, Int.cast_ofNat_Int] <;> with_reducible rfl) (fun b9 => ?_) (fun b9 => ?_)
          ·
            refine awp_sel [1] (by simp only [jN, seval, vint, TyS, TyF, BdS, Int.cast_ofNat_Int] <;> with_reducible rfl) ?_
            repeat (refine awp_seq ?_)
            refine e_eval (by simp only [jA, jO, jN, seval, y3, y24, vint, TyS, TyF, BdS, Int.cast_ofNat_Int] <;> with_reducible rfl) (by decide) ?_
            repeat (refine awp_seq ?_)
            refine awp_ret ⟨.inr rfl, _, rfl, ?_⟩
            simp only [jN, seval, vint, TyS, TyF, BdS]
            simp_all [nwf]
          ·
            refine awp_sel [1, 3, 8] (by simp only [jN, seval, vint, TyS, TyF, BdS, Int.cast_ofNat_Int] <;> with_reducible rfl) ?_
            repeat (refine awp_seq ?_)
            refine e_eval (by simp only [jA, jO, jN, seval, y3, vint, TyS, TyF, BdS, Int.cast_ofNat_Int] <;> with_reducible rfl) (by decide) ?_
            repeat (refine awp_seq ?_)
            refine awp_cond rfl (by simp only [jN, seval, vint, TyS, TyF, BdS, Int.cast_ofNat_Int] <;> with_reducible rfl) (fun b10 => ?_) (fun b10 => ?_)
            ·
              repeat (refine awp_seq ?_)
              refine g_eval (by simp only [jG, jO, jN, seval, y3, y24, vint, TyS, TyF, BdS, Int.cast_ofNat_Int] <;> with_reducible rfl) (by decide) (by repeat (first | exact Fin.base _ | with_reducible apply Fin.keep | apply Fin.drop)) ?_
              repeat (refine awp_seq ?_)
              refine awp_ret ⟨.inr rfl, _, rfl, ?_⟩
              simp only [jN, seval, vint, TyS, TyF, BdS]
              simp_all [nwf]
            ·
              repeat (refine awp_seq ?_)
              refine e_eval (by simp only [jA, jO, jN, seval, y3, vint, TyS, TyF, BdS, Int.cast_ofNat_Int] <;> with_reducible rfl) (by decide) ?_
              repeat (refine awp_seq ?_)
              refine awp_cond rfl (by simp only [jN, seval, vint, TyS, TyF, BdS, Int.cast_ofNat_Int] <;> with_reducible rfl) (fun b11 => ?_) (fun b11 => ?_)
              ·
                repeat (refine awp_seq ?_)
                refine g_eval (by simp only [jG, jO, jN, seval, y3, y24, vint, TyS, TyF, BdS, Int.cast_ofNat_Int] <;> with_reducible rfl) (by decide) (by repeat (first | exact Fin.base _ | with_reducible apply Fin.keep | apply Fin.drop)) ?_
                repeat (refine awp_seq ?_)
                refine awp_ret ⟨.inr rfl, _, rfl, ?_⟩
                simp only [jN, seval, vint, TyS, TyF, BdS]
                simp_all [nwf]
              ·
                repeat (refine awp_seq ?_)
                refine e_eval (by simp only [jA, jO, jN, seval, y3, vint, TyS, TyF, BdS, Int.cast_ofNat_Int] <;> with_reducible rfl) (by decide) ?_
                repeat (refine awp_seq ?_)
                refine awp_cond rfl (by simp only [jN, seval, vint, TyS, TyF, BdS, Int.cast_ofNat_Int] <;> with_reducible rfl) (fun b12 => ?_) (fun b12 => ?_)
                ·
                  repeat (refine awp_seq ?_)
                  refine g_eval (by simp only [jG, jO, jN, seval, y3, y24, vint, TyS, TyF, BdS, Int.cast_ofNat_Int] <;> with_reducible rfl) (by decide) (by repeat (first | exact Fin.base _ | with_reducible apply Fin.keep | apply Fin.drop)) ?_
                  repeat (refine awp_seq ?_)
                  refine awp_ret ⟨.inr rfl, _, rfl, ?_⟩
                  simp only [jN, seval, vint, TyS, TyF, BdS]
                  simp_all [nwf]
                ·
                  repeat (refine awp_seq ?_)
                  refine awp_skip ?_
                  repeat (refine awp_seq ?_)
                  refine e_eval (by simp only [jA, jO, jN, seval, vint, TyS, TyF, BdS, Int.cast_ofNat_Int] <;> with_reducible rfl) (by decide) ?_
                  repeat (refine awp_seq ?_)
                  refine awp_ret ⟨.inr rfl, _, rfl, ?_⟩
                  simp only [jN, seval, vint, TyS, TyF, BdS]
                  simp_all [nwf]
  ·
    repeat (refine awp_seq ?_)
    refine e_eval (by simp only [jA, jO, jN, seval, y3, vint, TyS, TyF, BdS, Int.cast_ofNat_Int] <;> with_reducible rfl) (by decide) ?_
    repeat (refine awp_seq ?_)
    refine awp_cond rfl (by simp only [jN, seval, vint, TyS, TyF, BdS, Int.cast_ofNat_Int] <;> with_reducible rfl) (fun b13 => ?_) (fun b13 => ?_)
    ·
      repeat (refine awp_seq ?_)
      refine awp_skip ?_
      repeat (refine awp_seq ?_)
      refine awp_cond rfl (by simp only [jN, seval, vint, TyS, TyF, BdS, Int.cast_ofNat_Int] <;> with_reducible rfl) (fun b14 => ?_) (fun b14 => ?_)
      ·
        repeat (refine awp_seq ?_)
        refine g_eval (by simp only [jG, jO, jN, seval, y3, y24, vint, TyS, TyF, BdS, Int.cast_ofNat_Int] <;> with_reducible rfl) (by decide) (by repeat (first | exact Fin.base _ | with_reducible apply Fin.keep | apply Fin.drop)) ?_
        repeat (refine awp_seq ?_)
        refine awp_ret ⟨.inr rfl, _, rfl, ?_⟩
        simp only [jN, seval, vint, TyS, TyF, BdS]
        simp_all [nwf]
      ·
        repeat (refine awp_seq ?_)
        refine e_eval (by simp only [jA, jO, jN, seval, y3, vint, TyS, TyF, BdS, Int.cast_ofNat_Int] <;> with_reducible rfl) (by decide) ?_
        repeat (refine awp_seq ?_)
        refine awp_cond rfl (by simp only [jN, seval, vint, TyS, TyF, BdS, Int.cast_ofNat_Int] <;> with_reducible rfl) (fun b15 => ?_) (fun b15 => ?_)
        ·
          repeat (refine awp_seq ?_)
          refine awp_skip ?_
          repeat (refine awp_seq ?_)
          refine awp_cond rfl (by simp only [jN, seval, vint, TyS, TyF, BdS, Int.cast_ofNat_Int] <;> with_reducible rfl) (fun b16 => ?_) (fun b16 => ?_)
          ·
            repeat (refine awp_seq ?_)
            refine g_eval (by simp only [jG, jO, jN, seval, y3, y24, vint, TyS, TyF, BdS, Int.cast_ofNat_Int] <;> with_reducible rfl) (by decide) (by repeat (first | exact Fin.base _ | with_reducible apply Fin.keep | apply Fin.drop)) ?_
            repeat (refine awp_seq ?_)
            refine awp_ret ⟨.inr rfl, _, rfl, ?_⟩
            simp only [jN, seval, vint, TyS, TyF, BdS]
            simp_all [nwf]
          ·
            repeat (refine awp_seq ?_)
            refine e_eval (by simp only [jA, jO, jN, seval, y3, vint, TyS, TyF, BdS, Int.cast_ofNat_Int] <;> with_reducible rfl) (by decide) ?_
            repeat (refine awp_seq ?_)
            refine awp_cond rfl (by simp only [jN, seval, vint, TyS, TyF, BdS, Int.cast_ofNat_Int] <;> with_reducible rfl) (fun b17 => ?_) (fun b17 => ?_)
            ·
              refine awp_sel [1] (by simp only [jN, seval, vint, TyS, TyF, BdS, Int.cast_ofNat_Int] <;> with_reducible rfl) ?_
              repeat (refine awp_seq ?_)
              refine e_eval (by simp only [jA, jO, jN, seval, y3, y24, vint, TyS, TyF, BdS, Int.cast_ofNat_Int] <;> with_reducible rfl) (by decide) ?_
              repeat (refine awp_seq ?_)
              refine awp_ret ⟨.inr rfl, _, rfl, ?_⟩
              simp only [jN, seval, vint, TyS, TyF, BdS]
              simp_all [nwf]
            ·
              refine awp_sel [1, 3, 8] (by simp only [jN, seval, vint, TyS, TyF, BdS, Int.cast_ofNat_Int] <;> with_reducible rfl) ?_
              repeat (refine awp_seq ?_)
              refine e_eval (by simp only [jA, jO, jN, seval, y3, vint, TyS, TyF, BdS, Int.cast_ofNat_Int] <;> with_reducible rfl) (by decide) ?_
              repeat (refine awp_seq ?_)
              refine awp_cond rfl (by simp only [jN, seval, vint, TyS, TyF, BdS, Int.cast_ofNat_Int] <;> with_reducible rfl) (fun b18 => ?_) (fun b18 => ?_)
              ·
                repeat (refine awp_seq ?_)
                refine g_eval (by simp only [jG, jO, jN, seval, y3, y24, vint, TyS, TyF, BdS, Int.cast_ofNat_Int] <;> with_reducible rfl) (by decide) (by repeat (first | exact Fin.base _ | with_reducible apply Fin.keep | apply Fin.drop)) ?_
                repeat (refine awp_seq ?_)
                refine awp_ret ⟨.inr rfl, _, rfl, ?_⟩
                simp only [jN, seval, vint, TyS, TyF, BdS]
                simp_all [nwf]
              ·
                repeat (refine awp_seq ?_)
                refine e_eval (by simp only [jA, jO, jN, seval, y3, vint, TyS, TyF, BdS, Int.cast_ofNat_Int] <;> with_reducible rfl) (by decide) ?_
                repeat (refine awp_seq ?_)
                refine awp_cond rfl (by simp only [jN, seval, vint, TyS, TyF, BdS, Int.cast_ofNat_Int] <;> with_reducible rfl) (fun b19 => ?_) (fun b19 => ?_)
                ·
                  repeat (refine awp_seq ?_)
                  refine g_eval (by simp only [jG, jO, jN, seval, y3, y24, vint, TyS, TyF, BdS, Int.cast_ofNat_Int] <;> with_reducible rfl) (by decide) (by repeat (first | exact Fin.base _ | with_reducible apply Fin.keep | apply Fin.drop)) ?_
                  repeat (refine awp_seq ?_)
                  refine awp_ret ⟨.inr rfl, _, rfl, ?_⟩
                  simp only [jN, seval, vint, TyS, TyF, BdS]
                  simp_all [nwf]
                ·
                  repeat (refine awp_seq ?_)
                  refine e_eval (by simp only [jA, jO, jN, seval, y3, vint, TyS, TyF, BdS, Int.cast_ofNat_Int] <;> with_reducible rfl) (by decide) ?_
                  repeat (refine awp_seq ?_)
                  refine awp_cond rfl (by simp only [jN, seval, vint, TyS, TyF, BdS, Int.cast_ofNat_Int] <;> with_reducible rfl) (fun b20 => ?_) (fun b20 => ?_)
                  ·
                    repeat (refine awp_seq ?_)
                    refine g_eval (by simp only [jG, jO, jN, seval, y3, y24, vint, TyS, TyF, BdS, Int.cast_ofNat_Int] <;> with_reducible rfl) (by decide) (by repeat (first | exact Fin.base _ | with_reducible apply Fin.keep | apply Fin.drop)) ?_
                    repeat (refine awp_seq ?_)
                    refine awp_ret ⟨.inr rfl, _, rfl, ?_⟩
                    simp only [jN, seval, vint, TyS, TyF, BdS]
                    simp_all [nwf]
                  ·
                    repeat (refine awp_seq ?_)
                    refine awp_skip ?_
                    repeat (refine awp_seq ?_)
                    refine e_eval (by simp only [jA, jO, jN, seval, vint, TyS, TyF, BdS, Int.cast_ofNat_Int] <;> with_reducible rfl) (by decide) ?_
                    repeat (refine awp_seq ?_)
                    refine awp_ret ⟨.inr rfl, _, rfl, ?_⟩
                    simp only [jN, seval, vint, TyS, TyF, BdS]
                    simp_all [nwf]
        ·
          repeat (refine awp_seq ?_)
          refine e_eval (by simp only [jA, jO, jN, seval, y3, vint, TyS, TyF, BdS, Int.cast_ofNat_Int] <;> with_reducible rfl) (by decide) ?_
          repeat (refine awp_seq ?_)
          refine awp_cond rfl (by simp only [jN, seval, vint, TyS, TyF, BdS, Int.cast_ofNat_Int] <;> with_reducible rfl) (fun b21 => ?_) (fun b21 => ?_)
          ·
            refine awp_sel [1, 3] (by simp only [jN, seval, vint, TyS, TyF, BdS, Int.cast_ofNat_Int] <;> with_reducible rfl) ?_
            repeat (refine awp_seq ?_)
            refine g_eval (by simp only [jG, jO, jN, seval, y3, y24, vint, TyS, TyF, BdS, Int.cast_ofNat_Int] <;> with_reducible rfl) (by decide) (by repeat (first | exact Fin.base _ | with_reducible apply Fin.keep | apply Fin.drop)) ?_
            repeat (refine awp_seq ?_)
            refine awp_ret ⟨.inr rfl, _, rfl, ?_⟩
            simp only [jN, seval, vint, TyS, TyF, BdS]
            simp_all [nwf]
          ·
            refine awp_sel [1, 3, 8] (by simp only [jN, seval, vint, TyS, TyF, BdS, Int.cast_ofNat_Int] <;> with_reducible rfl) ?_
            repeat (refine awp_seq ?_)
            refine e_eval (by simp only [jA, jO, jN, seval, y3, vint, TyS, TyF, BdS, Int.cast_ofNat_Int] <;> with_reducible rfl) (by decide) ?_
            repeat (refine awp_seq ?_)
            refine awp_cond rfl (by simp only [jN, seval, vint, TyS, TyF, BdS, Int.cast_ofNat_Int] <;> with_reducible rfl) (fun b22 => ?_) (fun b22 => ?_)
            ·
              repeat (refine awp_seq ?_)
              refine e_eval (by simp only [jA, jO, jN, seval, y3, y24, vint, TyS, TyF, BdS, Int.cast_ofNat_Int] <;> with_reducible rfl) (by decide) ?_
              repeat (refine awp_seq ?_)
              refine awp_ret ⟨.inr rfl, _, rfl, ?_⟩
              simp only [jN, seval, vint, TyS, TyF, BdS]
              simp_all [nwf]
            ·
              repeat (refine awp_seq ?_)
              refine e_eval (by simp only [jA, jO, jN, seval, y3, vint, TyS, TyF, BdS, Int.cast_ofNat_Int] <;> with_reducible rfl) (by decide) ?_
              repeat (refine awp_seq ?_)
              refine awp_cond rfl (by simp only [jN, seval, vint, TyS, TyF, BdS, Int.cast_ofNat_Int] <;> with_reducible rfl) (fun b23 => ?_) (fun b23 => ?_)
              ·
                repeat (refine awp_seq ?_)
                refine g_eval (by simp only [jG, jO, jN, seval, y3, y24, vint, TyS, TyF, BdS, Int.cast_ofNat_Int] <;> with_reducible rfl) (by decide) (by repeat (first | exact Fin.base _ | with_reducible apply Fin.keep | apply Fin.drop)) ?_
                repeat (refine awp_seq ?_)
                refine awp_ret ⟨.inr rfl, _, rfl, ?_⟩
                simp only [jN, seval, vint, TyS, TyF, BdS]
                simp_all [nwf]
              ·
                repeat (refine awp_seq ?_)
                refine e_eval (by simp only [jA, jO, jN, seval, y3, vint, TyS, TyF, BdS, Int.cast_ofNat_Int] <;> with_reducible rfl) (by decide) ?_
                repeat (refine awp_seq ?_)
                refine awp_cond rfl (by simp only [jN, seval, vint, TyS, TyF, BdS, Int.cast_ofNat_Int] <;> with_reducible rfl) (fun b24 => ?_) (fun b24 => ?_)
                ·
                  repeat (refine awp_seq ?_)
                  refine g_eval (by simp only [jG, jO, jN, seval, y3, y24, vint, TyS, TyF, BdS, Int.cast_ofNat_Int] <;> with_reducible rfl) (by decide) (by repeat (first | exact Fin.base _ | with_reducible apply Fin.keep | apply Fin.drop)) ?_
                  repeat (refine awp_seq ?_)
                  refine awp_ret ⟨.inr rfl, _, rfl, ?_⟩
                  simp only [jN, seval, vint, TyS, TyF, BdS]
                  simp_all [nwf]
                ·
                  repeat (refine awp_seq ?_)
                  refine e_eval (by simp only [jA, jO, jN, seval, y3, vint, TyS, TyF, BdS, Int.cast_ofNat_Int] <;> with_reducible rfl) (by decide) ?_
                  repeat (refine awp_seq ?_)
                  refine awp_cond rfl (by simp only [jN, seval, vint, TyS, TyF, BdS, Int.cast_ofNat_Int] <;> with_reducible rfl) (fun b25 => ?_) (fun b25 => ?_)
                  ·
                    repeat (refine awp_seq ?_)
                    refine g_eval (by simp only [jG, jO, jN, seval, y3, y24, vint, TyS, TyF, BdS, Int.cast_ofNat_Int] <;> with_reducible rfl) (by decide) (by repeat (first | exact Fin.base _ | with_reducible apply Fin.keep | apply Fin.drop)) ?_
                    repeat (refine awp_seq ?_)
                    refine awp_ret ⟨.inr rfl, _, rfl, ?_⟩
                    simp only [jN, seval, vint, TyS, TyF, BdS]
                    simp_all [nwf]
                  ·
                    repeat (refine awp_seq ?_)
                    refine awp_skip ?_
                    repeat (refine awp_seq ?_)
                    refine e_eval (by simp only [jA, jO, jN, seval, vint, TyS, TyF, BdS, Int.cast_ofNat_Int] <;> with_reducible rfl) (by decide) ?_
                    repeat (refine awp_seq ?_)
                    refine awp_ret ⟨.inr rfl, _, rfl, ?_⟩
                    simp only [jN, seval, vint, TyS, TyF, BdS]
                    simp_all [nwf]
    ·
      repeat (refine awp_seq ?_)
      refine e_eval (by simp only [jA, jO, jN, seval, y3, vint, TyS, TyF, BdS, Int.cast_ofNat_Int] <;> with_reducible rfl) (by decide) ?_
      repeat (refine awp_seq ?_)
      refine awp_cond rfl (by simp only [jN, seval, vint, TyS, TyF, BdS, Int.cast_ofNat_Int] <;> with_reducible rfl) (fun b26 => ?_) (fun b26 => ?_)
      ·
        repeat (refine awp_seq ?_)
        refine awp_skip ?_
        repeat (refine awp_seq ?_)
        refine awp_cond rfl (by simp only [jN, seval, vint, TyS, TyF, BdS, Int.cast_ofNat_Int] <;> with_reducible rfl) (fun b27 => ?_) (fun b27 => ?_)
        ·
          repeat (refine awp_seq ?_)
          refine g_eval (by simp only [jG, jO, jN, seval, y3, y24, vint, TyS, TyF, BdS, Int.cast_ofNat_Int] <;> with_reducible rfl) (by decide) (by repeat (first | exact Fin.base _ | with_reducible apply Fin.keep | apply Fin.drop)) ?_
          repeat (refine awp_seq ?_)
          refine awp_ret ⟨.inr rfl, _, rfl, ?_⟩
          simp only [jN, seval, vint, TyS, TyF, BdS]
          simp_all [nwf]
        ·
          repeat (refine awp_seq ?_)
          refine e_eval (by simp only [jA, jO, jN, seval, y3, vint, TyS, TyF, BdS, Int.cast_ofNat_Int] <;> with_reducible rfl) (by decide) ?_
          repeat (refine awp_seq ?_)
          refine awp_cond rfl (by simp only [jN, seval, vint, TyS, TyF, BdS, Int.cast_ofNat_Int] <;> with_reducible rfl) (fun b28 => ?_) (fun b28 => ?_)
          ·
            repeat (refine awp_seq ?_)
            refine awp_skip ?_
            repeat (refine awp_seq ?_)
            refine awp_cond rfl (by simp only [jN, seval, vint, TyS, TyF, BdS, Int.cast_ofNat_Int] <;> with_reducible rfl) (fun b29 => ?_) (fun b29 => ?_)
            ·
              refine awp_sel [1, 3] (by simp only [jN, seval, vint, TyS, TyF, BdS, Int.cast_ofNat_Int] <;> with_reducible rfl) ?_
              repeat (refine awp_seq ?_)
              refine g_eval (by simp only [jG, jO, jN, seval, y3, y24, vint, TyS, TyF, BdS, Int.cast_ofNat_Int] <;> with_reducible rfl) (by decide) (by repeat (first | exact Fin.base _ | with_reducible apply Fin.keep | apply Fin.drop)) ?_
              repeat (refine awp_seq ?_)
              refine awp_ret ⟨.inr rfl, _, rfl, ?_⟩
              simp only [jN, seval, vint, TyS, TyF, BdS]
              simp_all [nwf]
            ·
              refine awp_sel [1, 3, 8] (by simp only [jN, seval, vint, TyS, TyF, BdS, Int.cast_ofNat_Int] <;> with_reducible rfl) ?_
              repeat (refine awp_seq ?_)
              refine e_eval (by simp only [jA, jO, jN, seval, y3, vint, TyS, TyF, BdS, Int.cast_ofNat_Int] <;> with_reducible rfl) (by decide) ?_
              repeat (refine awp_seq ?_)
              refine awp_cond rfl (by simp only [jN, seval, vint, TyS, TyF, BdS, Int.cast_ofNat_Int] <;> with_reducible rfl) (fun b30 => ?_) (fun b30 => ?_)
              ·
                repeat (refine awp_seq ?_)
                refine e_eval (by simp only [jA, jO, jN, seval, y3, y24, vint, TyS, TyF, BdS, Int.cast_ofNat_Int] <;> with_reducible rfl) (by decide) ?_
                repeat (refine awp_seq ?_)
                refine awp_ret ⟨.inr rfl, _, rfl, ?_⟩
                simp only [jN, seval, vint, TyS, TyF, BdS]
                simp_all [nwf]
              ·
                repeat (refine awp_seq ?_)
                refine e_eval (by simp only [jA, jO, jN, seval, y3, vint, TyS, TyF, BdS, Int.cast_ofNat_Int] <;> with_reducible rfl) (by decide) ?_
                repeat (refine awp_seq ?_)
                refine awp_cond rfl (by simp only [jN, seval, vint, TyS, TyF, BdS, Int.cast_ofNat_Int] <;> with_reducible rfl) (fun b31 => ?_) (fun b31 => ?_)
                ·
                  repeat (refine awp_seq ?_)
                  refine g_eval (by simp only [jG, jO, jN, seval, y3, y24, vint, TyS, TyF, BdS, Int.cast_ofNat_Int] <;> with_reducible rfl) (by decide) (by repeat (first | exact Fin.base _ | with_reducible apply Fin.keep | apply Fin.drop)) ?_
                  repeat (refine awp_seq ?_)
                  refine awp_ret ⟨.inr rfl, _, rfl, ?_⟩
                  simp only [jN, seval, vint, TyS, TyF, BdS]
                  simp_all [nwf]
                ·
                  repeat (refine awp_seq ?_)
                  refine e_eval (by simp only [jA, jO, jN, seval, y3, vint, TyS, TyF, BdS, Int.cast_ofNat_Int] <;> with_reducible rfl) (by decide) ?_
                  repeat (refine awp_seq ?_)
                  refine awp_cond rfl (by simp only [jN, seval, vint, TyS, TyF, BdS, Int.cast_ofNat_Int] <;> with_reducible rfl) (fun b32 => ?_) (fun b32 => ?_)
                  ·
                    repeat (refine awp_seq ?_)
                    refine g_eval (by simp only [jG, jO, jN, seval, y3, y24, vint, TyS, TyF, BdS, Int.cast_ofNat_Int] <;> with_reducible rfl) (by decide) (by repeat (first | exact Fin.base _ | with_reducible apply Fin.keep | apply Fin.drop)) ?_
                    repeat (refine awp_seq ?_)
                    refine awp_ret ⟨.inr rfl, _, rfl, ?_⟩
                    simp only [jN, seval, vint, TyS, TyF, BdS]
                    simp_all [nwf]
                  ·
                    repeat (refine awp_seq ?_)
                    refine e_eval (by simp only [jA, jO, jN, seval, y3, vint, TyS, TyF, BdS, Int.cast_ofNat_Int] <;> with_reducible rfl) (by decide) ?_
                    repeat (refine awp_seq ?_)
                    refine awp_cond rfl (by simp only [jN, seval, vint, TyS, TyF, BdS, Int.cast_ofNat_Int] <;> with_reducible rfl) (fun b33 => ?_) (fun b33 => ?_)
                    ·
                      repeat (refine awp_seq ?_)
                      refine g_eval (by simp only [jG, jO, jN, seval, y3, y24, vint, TyS, TyF, BdS, Int.cast_ofNat_Int] <;> with_reducible rfl) (by decide) (by repeat (first | exact Fin.base _ | with_reducible apply Fin.keep | apply Fin.drop)) ?_
                      repeat (refine awp_seq ?_)
                      refine awp_ret ⟨.inr rfl, _, rfl, ?_⟩
                      simp only [jN, seval, vint, TyS, TyF, BdS]
                      simp_all [nwf]
                    ·
                      repeat (refine awp_seq ?_)
                      refine awp_skip ?_
                      repeat (refine awp_seq ?_)
                      refine e_eval (by simp only [jA, jO, jN, seval, vint, TyS, TyF, BdS, Int.cast_ofNat_Int] <;> with_reducible rfl) (by decide) ?_
                      repeat (refine awp_seq ?_)
                      refine awp_ret ⟨.inr rfl, _, rfl, ?_⟩
                      simp only [jN, seval, vint, TyS, TyF, BdS]
                      simp_all [nwf]
          ·
            refine awp_sel [1, 3, 8] (by simp only [jN, seval, vint, TyS, TyF, BdS, Int.cast_ofNat_Int] <;> with_reducible rfl) ?_
            repeat (refine awp_seq ?_)
            refine e_eval (by simp only [jA, jO, jN, seval, y3, vint, TyS, TyF, BdS, Int.cast_ofNat_Int] <;> with_reducible rfl) (by decide) ?_
            repeat (refine awp_seq ?_)
            refine awp_cond rfl (by simp only [jN, seval, vint, TyS, TyF, BdS, Int.cast_ofNat_Int] <;> with_reducible rfl) (fun b34 => ?_) (fun b34 => ?_)
            ·
              repeat (refine awp_seq ?_)
              refine g_eval (by simp only [jG, jO, jN, seval, y3, y24, vint, TyS, TyF, BdS, Int.cast_ofNat_Int] <;> with_reducible rfl) (by decide) (by repeat (first | exact Fin.base _ | with_reducible apply Fin.keep | apply Fin.drop)) ?_
              repeat (refine awp_seq ?_)
              refine awp_ret ⟨.inr rfl, _, rfl, ?_⟩
              simp only [jN, seval, vint, TyS, TyF, BdS]
              simp_all [nwf]
            ·
              repeat (refine awp_seq ?_)
              refine e_eval (by simp only [jA, jO, jN, seval, y3, vint, TyS, TyF, BdS, Int.cast_ofNat_Int] <;> with_reducible rfl) (by decide) ?_
              repeat (refine awp_seq ?_)
              refine awp_cond rfl (by simp only [jN, seval, vint, TyS, TyF, BdS, Int.cast_ofNat_Int] <;> with_reducible rfl) (fun b35 => ?_) (fun b35 => ?_)
              ·
                repeat (refine awp_seq ?_)
                refine e_eval (by simp only [jA, jO, jN, seval, y3, y24, vint, TyS, TyF, BdS, Int.cast_ofNat_Int] <;> with_reducible rfl) (by decide) ?_
                repeat (refine awp_seq ?_)
                refine awp_ret ⟨.inr rfl, _, rfl, ?_⟩
                simp only [jN, seval, vint, TyS, TyF, BdS]
                simp_all [nwf]
              ·
                repeat (refine awp_seq ?_)
                refine e_eval (by simp only [jA, jO, jN, seval, y3, vint, TyS, TyF, BdS, Int.cast_ofNat_Int] <;> with_reducible rfl) (by decide) ?_
                repeat (refine awp_seq ?_)
                refine awp_cond rfl (by simp only [jN, seval, vint, TyS, TyF, BdS, Int.cast_ofNat_Int] <;> with_reducible rfl) (fun b36 => ?_) (fun b36 => ?_)
                ·
                  repeat (refine awp_seq ?_)
                  refine g_eval (by simp only [jG, jO, jN, seval, y3, y24, vint, TyS, TyF, BdS, Int.cast_ofNat_Int] <;> with_reducible rfl) (by decide) (by repeat (first | exact Fin.base _ | with_reducible apply Fin.keep | apply Fin.drop)) ?_
                  repeat (refine awp_seq ?_)
                  refine awp_ret ⟨.inr rfl, _, rfl, ?_⟩
                  simp only [jN, seval, vint, TyS, TyF, BdS]
                  simp_all [nwf]
                ·
                  repeat (refine awp_seq ?_)
                  refine e_eval (by simp only [jA, jO, jN, seval, y3, vint, TyS, TyF, BdS, Int.cast_ofNat_Int] <;> with_reducible rfl) (by decide) ?_
                  repeat (refine awp_seq ?_)
                  refine awp_cond rfl (by simp only [jN, seval, vint, TyS, TyF, BdS, Int.cast_ofNat_Int] <;> with_reducible rfl) (fun b37 => ?_) (fun b37 => ?_)
                  ·
                    repeat (refine awp_seq ?_)
                    refine g_eval (by simp only [jG, jO, jN, seval, y3, y24, vint, TyS, TyF, BdS, Int.cast_ofNat_Int] <;> with_reducible rfl) (by decide) (by repeat (first | exact Fin.base _ | with_reducible apply Fin.keep | apply Fin.drop)) ?_
                    repeat (refine awp_seq ?_)
                    refine awp_ret ⟨.inr rfl, _, rfl, ?_⟩
                    simp only [jN, seval, vint, TyS, TyF, BdS]
                    simp_all [nwf]
                  ·
                    repeat (refine awp_seq ?_)
                    refine e_eval (by simp only [jA, jO, jN, seval, y3, vint, TyS, TyF, BdS, Int.cast_ofNat_Int] <;> with_reducible rfl) (by decide) ?_
                    repeat (refine awp_seq ?_)
                    refine awp_cond rfl (by simp only [jN, seval, vint, TyS, TyF, BdS, Int.cast_ofNat_Int] <;> with_reducible rfl) (fun b38 => ?_) (fun b38 => ?_)
                    ·
                      repeat (refine awp_seq ?_)
                      refine g_eval (by simp only [jG, jO, jN, seval, y3, y24, vint, TyS, TyF, BdS, Int.cast_ofNat_Int] <;> with_reducible rfl) (by decide) (by repeat (first | exact Fin.base _ | with_reducible apply Fin.keep | apply Fin.drop)) ?_
                      repeat (refine awp_seq ?_)
                      refine awp_ret ⟨.inr rfl, _, rfl, ?_⟩
                      simp only [jN, seval, vint, TyS, TyF, BdS]
                      simp_all [nwf]
                    ·
                      repeat (refine awp_seq ?_)
                      refine awp_skip ?_
                      repeat (refine awp_seq ?_)
                      refine e_eval (by simp only [jA, jO, jN, seval, vint, TyS, TyF, BdS, Int.cast_ofNat_Int] <;> with_reducible rfl) (by decide) ?_
                      repeat (refine awp_seq ?_)
                      refine awp_ret ⟨.inr rfl, _, rfl, ?_⟩
                      simp only [jN, seval, vint, TyS, TyF, BdS]
                      simp_all [nwf]
      ·
        repeat (refine awp_seq ?_)
        refine e_eval (by simp only [jA, jO, jN, seval, y3, vint, TyS, TyF, BdS, Int.cast_ofNat_Int] <;> with_reducible rfl) (by decide) ?_
        repeat (refine awp_seq ?_)
        refine awp_cond rfl (by simp only [jN, seval, vint, TyS, TyF, BdS, Int.cast_ofNat_Int] <;> with_reducible rfl) (fun b39 => ?_) (fun b39 => ?_)
        ·
          repeat (refine awp_seq ?_)
          refine awp_skip ?_
          repeat (refine awp_seq ?_)
          refine awp_cond rfl (by simp only [jN, seval, vint, TyS, TyF, BdS, Int.cast_ofNat_Int] <;> with_reducible rfl) (fun b40 => ?_) (fun b40 => ?_)
          ·
            refine awp_sel [1, 3] (by simp only [jN, seval, vint, TyS, TyF, BdS, Int.cast_ofNat_Int] <;> with_reducible rfl) ?_
            repeat (refine awp_seq ?_)
            refine g_eval (by simp only [jG, jO, jN, seval, y3, y24, vint, TyS, TyF, BdS, Int.cast_ofNat_Int] <;> with_reducible rfl) (by decide) (by repeat (first | exact Fin.base _ | with_reducible apply Fin.keep | apply Fin.drop)) ?_
            repeat (refine awp_seq ?_)
            refine awp_ret ⟨.inr rfl, _, rfl, ?_⟩
            simp only [jN, seval, vint, TyS, TyF, BdS]
            simp_all [nwf]
          ·
            refine awp_sel [1, 3, 8] (by simp only [jN, seval, vint, TyS, TyF, BdS, Int.cast_ofNat_Int] <;> with_reducible rfl) ?_
            repeat (refine awp_seq ?_)
            refine e_eval (by simp only [jA, jO, jN, seval, y3, vint, TyS, TyF, BdS, Int.cast_ofNat_Int] <;> with_reducible rfl) (by decide) ?_
            repeat (refine awp_seq ?_)
            refine awp_cond rfl (by simp only [jN, seval, vint, TyS, TyF, BdS, Int.cast_ofNat_Int] <;> with_reducible rfl) (fun b41 => ?_) (fun b41 => ?_)
            ·
              repeat (refine awp_seq ?_)
              refine awp_skip ?_
              repeat (refine awp_seq ?_)
              refine awp_cond rfl (by simp only [jN, seval, vint, TyS, TyF, BdS, Int.cast_ofNat_Int] <;> with_reducible rfl) (fun b42 => ?_) (fun b42 => ?_)
              ·
                repeat (refine awp_seq ?_)
                refine g_eval (by simp only [jG, jO, jN, seval, y3, y24, vint, TyS, TyF, BdS, Int.cast_ofNat_Int] <;> with_reducible rfl) (by decide) (by repeat (first | exact Fin.base _ | with_reducible apply Fin.keep | apply Fin.drop)) ?_
                repeat (refine awp_seq ?_)
                refine awp_ret ⟨.inr rfl, _, rfl, ?_⟩
                simp only [jN, seval, vint, TyS, TyF, BdS]
                simp_all [nwf]
              ·
                repeat (refine awp_seq ?_)
                refine e_eval (by simp only [jA, jO, jN, seval, y3, vint, TyS, TyF, BdS, Int.cast_ofNat_Int] <;> with_reducible rfl) (by decide) ?_
                repeat (refine awp_seq ?_)
                refine awp_cond rfl (by simp only [jN, seval, vint, TyS, TyF, BdS, Int.cast_ofNat_Int] <;> with_reducible rfl) (fun b43 => ?_) (fun b43 => ?_)
                ·
                  repeat (refine awp_seq ?_)
                  refine e_eval (by simp only [jA, jO, jN, seval, y3, y24, vint, TyS, TyF, BdS, Int.cast_ofNat_Int] <;> with_reducible rfl) (by decide) ?_
                  repeat (refine awp_seq ?_)
                  refine awp_ret ⟨.inr rfl, _, rfl, ?_⟩
                  simp only [jN, seval, vint, TyS, TyF, BdS]
                  simp_all [nwf]
                ·
                  repeat (refine awp_seq ?_)
                  refine e_eval (by simp only [jA, jO, jN, seval, y3, vint, TyS, TyF, BdS, Int.cast_ofNat_Int] <;> with_reducible rfl) (by decide) ?_
                  repeat (refine awp_seq ?_)
                  refine awp_cond rfl (by simp only [jN, seval, vint, TyS, TyF, BdS, Int.cast_ofNat_Int] <;> with_reducible rfl) (fun b44 => ?_) (fun b44 => ?_)
                  ·
                    repeat (refine awp_seq ?_)
                    refine g_eval (by simp only [jG, jO, jN, seval, y3, y24, vint, TyS, TyF, BdS, Int.cast_ofNat_Int] <;> with_reducible rfl) (by decide) (by repeat (first | exact Fin.base _ | with_reducible apply Fin.keep | apply Fin.drop)) ?_
                    repeat (refine awp_seq ?_)
                    refine awp_ret ⟨.inr rfl, _, rfl, ?_⟩
                    simp only [jN, seval, vint, TyS, TyF, BdS]
                    simp_all [nwf]
                  ·
                    repeat (refine awp_seq ?_)
                    refine e_eval (by simp only [jA, jO, jN, seval, y3, vint, TyS, TyF, BdS, Int.cast_ofNat_Int] <;> with_reducible rfl) (by decide) ?_
                    repeat (refine awp_seq ?_)
                    refine awp_cond rfl (by simp only [jN, seval, vint, TyS, TyF, BdS, Int.cast_ofNat_Int] <;> with_reducible rfl) (fun b45 => ?_) (fun b45 => ?_)
                    ·
                      repeat (refine awp_seq ?_)
                      refine g_eval (by simp only [jG, jO, jN, seval, y3, y24, vint, TyS, TyF, BdS, Int.cast_ofNat_Int] <;> with_reducible rfl) (by decide) (by repeat (first | exact Fin.base _ | with_reducible apply Fin.keep | apply Fin.drop)) ?_
                      repeat (refine awp_seq ?_)
                      refine awp_ret ⟨.inr rfl, _, rfl, ?_⟩
                      simp only [jN, seval, vint, TyS, TyF, BdS]
                      simp_all [nwf]
                    ·
                      repeat (refine awp_seq ?_)
                      refine e_eval (by simp only [jA, jO, jN, seval, y3, vint, TyS, TyF, BdS, Int.cast_ofNat_Int] <;> with_reducible rfl) (by decide) ?_
                      repeat (refine awp_seq ?_)
                      refine awp_cond rfl (by simp only [jN, seval, vint, TyS, TyF, BdS, Int.cast_ofNat_Int] <;> with_reducible rfl) (fun b46 => ?_) (fun b46 => ?_)
                      ·
                        repeat (refine awp_seq ?_)
                        refine g_eval (by simp only [jG, jO, jN, seval, y3, y24, vint, TyS, TyF, BdS, Int.cast_ofNat_Int] <;> with_reducible rfl) (by decide) (by repeat (first | exact Fin.base _ | with_reducible apply Fin.keep | apply Fin.drop)) ?_
                        repeat (refine awp_seq ?_)
                        refine awp_ret ⟨.inr rfl, _, rfl, ?_⟩
                        simp only [jN, seval, vint, TyS, TyF, BdS]
                        simp_all [nwf]
                      ·
                        repeat (refine awp_seq ?_)
                        refine awp_skip ?_
                        repeat (refine awp_seq ?_)
                        refine e_eval (by simp only [jA, jO, jN, seval, vint, TyS, TyF, BdS, Int.cast_ofNat_Int] <;> with_reducible rfl) (by decide) ?_
                        repeat (refine awp_seq ?_)
                        refine awp_ret ⟨.inr rfl, _, rfl, ?_⟩
                        simp only [jN, seval, vint, TyS, TyF, BdS]
                        simp_all [nwf]
            ·
              repeat (refine awp_seq ?_)
              refine e_eval (by simp only [jA, jO, jN, seval, y3, vint, TyS, TyF, BdS, Int.cast_ofNat_Int] <;> with_reducible rfl) (by decide) ?_
              repeat (refine awp_seq ?_)
              refine awp_cond rfl (by simp only [jN, seval, vint, TyS, TyF, BdS, Int.cast_ofNat_Int] <;> with_reducible rfl) (fun b47 => ?_) (fun b47 => ?_)
              ·
                repeat (refine awp_seq ?_)
                refine g_eval (by simp only [jG, jO, jN, seval, y3, y24, vint, TyS, TyF, BdS, Int.cast_ofNat_Int] <;> with_reducible rfl) (by decide) (by repeat (first | exact Fin.base _ | with_reducible apply Fin.keep | apply Fin.drop)) ?_
                repeat (refine awp_seq ?_)
                refine awp_ret ⟨.inr rfl, _, rfl, ?_⟩
                simp only [jN, seval, vint, TyS, TyF, BdS]
                simp_all [nwf]
              ·
                repeat (refine awp_seq ?_)
                refine e_eval (by simp only [jA, jO, jN, seval, y3, vint, TyS, TyF, BdS, Int.cast_ofNat_Int] <;> with_reducible rfl) (by decide) ?_
                repeat (refine awp_seq ?_)
                refine awp_cond rfl (by simp only [jN, seval, vint, TyS, TyF, BdS, Int.cast_ofNat_Int] <;> with_reducible rfl) (fun b48 => ?_) (fun b48 => ?_)
                ·
                  repeat (refine awp_seq ?_)
                  refine e_eval (by simp only [jA, jO, jN, seval, y3, y24, vint, TyS, TyF, BdS, Int.cast_ofNat_Int] <;> with_reducible rfl) (by decide) ?_
                  repeat (refine awp_seq ?_)
                  refine awp_ret ⟨.inr rfl, _, rfl, ?_⟩
                  simp only [jN, seval, vint, TyS, TyF, BdS]
                  simp_all [nwf]
                ·
                  repeat (refine awp_seq ?_)
                  refine e_eval (by simp only [jA, jO, jN, seval, y3, vint, TyS, TyF, BdS, Int.cast_ofNat_Int] <;> with_reducible rfl) (by decide) ?_
                  repeat (refine awp_seq ?_)
                  refine awp_cond rfl (by simp only [jN, seval, vint, TyS, TyF, BdS, Int.cast_ofNat_Int] <;> with_reducible rfl) (fun b49 => ?_) (fun b49 => ?_)
                  ·
                    repeat (refine awp_seq ?_)
                    refine g_eval (by simp only [jG, jO, jN, seval, y3, y24, vint, TyS, TyF, BdS, Int.cast_ofNat_Int] <;> with_reducible rfl) (by decide) (by repeat (first | exact Fin.base _ | with_reducible apply Fin.keep | apply Fin.drop)) ?_
                    repeat (refine awp_seq ?_)
                    refine awp_ret ⟨.inr rfl, _, rfl, ?_⟩
                    simp only [jN, seval, vint, TyS, TyF, BdS]
                    simp_all [nwf]
                  ·
                    repeat (refine awp_seq ?_)
                    refine e_eval (by simp only [jA, jO, jN, seval, y3, vint, TyS, TyF, BdS, Int.cast_ofNat_Int] <;> with_reducible rfl) (by decide) ?_
                    repeat (refine awp_seq ?_)
                    refine awp_cond rfl (by simp only [jN, seval, vint, TyS, TyF, BdS, Int.cast_ofNat_Int] <;> with_reducible rfl) (fun b50 => ?_) (fun b50 => ?_)
                    ·
                      repeat (refine awp_seq ?_)
                      refine g_eval (by simp only [jG, jO, jN, seval, y3, y24, vint, TyS, TyF, BdS, Int.cast_ofNat_Int] <;> with_reducible rfl) (by decide) (by repeat (first | exact Fin.base _ | with_reducible apply Fin.keep | apply Fin.drop)) ?_
                      repeat (refine awp_seq ?_)
                      refine awp_ret ⟨.inr rfl, _, rfl, ?_⟩
                      simp only [jN, seval, vint, TyS, TyF, BdS]
                      simp_all [nwf]
                    ·
                      repeat (refine awp_seq ?_)
                      refine e_eval (by simp only [jA, jO, jN, seval, y3, vint, TyS, TyF, BdS, Int.cast_ofNat_Int] <;> with_reducible rfl) (by decide) ?_
                      repeat (refine awp_seq ?_)
                      refine awp_cond rfl (by simp only [jN, seval, vint, TyS, TyF, BdS, Int.cast_ofNat_Int] <;> with_reducible rfl) (fun b51 => ?_) (fun b51 => ?_)
                      ·
                        repeat (refine awp_seq ?_)
                        refine g_eval (by simp only [jG, jO, jN, seval, y3, y24, vint, TyS, TyF, BdS, Int.cast_ofNat_Int] <;> with_reducible rfl) (by decide) (by repeat (first | exact Fin.base _ | with_reducible apply Fin.keep | apply Fin.drop)) ?_
                        repeat (refine awp_seq ?_)
                        refine awp_ret ⟨.inr rfl, _, rfl, ?_⟩
                        simp only [jN, seval, vint, TyS, TyF, BdS]
                        simp_all [nwf]
                      ·
                        repeat (refine awp_seq ?_)
                        refine awp_skip ?_
                        repeat (refine awp_seq ?_)
                        refine e_eval (by simp only [jA, jO, jN, seval, vint, TyS, TyF, BdS, Int.cast_ofNat_Int] <;> with_reducible rfl) (by decide) ?_
                        repeat (refine awp_seq ?_)
                        refine awp_ret ⟨.inr rfl, _, rfl, ?_⟩
                        simp only [jN, seval, vint, TyS, TyF, BdS]
                        simp_all [nwf]
        ·
          refine awp_sel [1, 3, 8] (by simp only [jN, seval, vint, TyS, TyF, BdS, Int.cast_ofNat_Int] <;> with_reducible rfl) ?_
          repeat (refine awp_seq ?_)
          refine e_eval (by simp only [jA, jO, jN, seval, y3, vint, TyS, TyF, BdS, Int.cast_ofNat_Int] <;> with_reducible rfl) (by decide) ?_
          repeat (refine awp_seq ?_)
          refine awp_cond rfl (by simp only [jN, seval, vint, TyS, TyF, BdS, Int.cast_ofNat_Int] <;> with_reducible rfl) (fun b52 => ?_) (fun b52 => ?_)
          ·
            repeat (refine awp_seq ?_)
            refine g_eval (by simp only [jG, jO, jN, seval, y3, y24, vint, TyS, TyF, BdS, Int.cast_ofNat_Int] <;> with_reducible rfl) (by decide) (by repeat (first | exact Fin.base _ | with_reducible apply Fin.keep | apply Fin.drop)) ?_
            repeat (refine awp_seq ?_)
            refine awp_ret ⟨.inr rfl, _, rfl, ?_⟩
            simp only [jN, seval, vint, TyS, TyF, BdS]
            simp_all [nwf]
          ·
            repeat (refine awp_seq ?_)
            refine e_eval (by simp only [jA, jO, jN, seval, y3, vint, TyS, TyF, BdS, Int.cast_ofNat_Int] <;> with_reducible rfl) (by decide) ?_
            repeat (refine awp_seq ?_)
            refine awp_cond rfl (by simp only [jN, seval, vint, TyS, TyF, BdS, Int.cast_ofNat_Int] <;> with_reducible rfl) (fun b53 => ?_) (fun b53 => ?_)
            ·
              repeat (refine awp_seq ?_)
              refine awp_skip ?_
              repeat (refine awp_seq ?_)
              refine awp_cond rfl (by simp only [jN, seval, vint, TyS, TyF, BdS, Int.cast_ofNat_Int] <;> with_reducible rfl) (fun b54 => ?_) (fun b54 => ?_)
              ·
                repeat (refine awp_seq ?_)
                refine g_eval (by simp only [jG, jO, jN, seval, y3, y24, vint, TyS, TyF, BdS, Int.cast_ofNat_Int] <;> with_reducible rfl) (by decide) (by repeat (first | exact Fin.base _ | with_reducible apply Fin.keep | apply Fin.drop)) ?_
                repeat (refine awp_seq ?_)
                refine awp_ret ⟨.inr rfl, _, rfl, ?_⟩
                simp only [jN, seval, vint, TyS, TyF, BdS]
                simp_all [nwf]
              ·
                repeat (refine awp_seq ?_)
                refine e_eval (by simp only [jA, jO, jN, seval, y3, vint, TyS, TyF, BdS, Int.cast_ofNat_Int] <;> with_reducible rfl) (by decide) ?_
                repeat (refine awp_seq ?_)
                refine awp_cond rfl (by simp only [jN, seval, vint, TyS, TyF, BdS, Int.cast_ofNat_Int] <;> with_reducible rfl) (fun b55 => ?_) (fun b55 => ?_)
                ·
                  repeat (refine awp_seq ?_)
                  refine e_eval (by simp only [jA, jO, jN, seval, y3, y24, vint, TyS, TyF, BdS, Int.cast_ofNat_Int] <;> with_reducible rfl) (by decide) ?_
                  repeat (refine awp_seq ?_)
                  refine awp_ret ⟨.inr rfl, _, rfl, ?_⟩
                  simp only [jN, seval, vint, TyS, TyF, BdS]
                  simp_all [nwf]
                ·
                  repeat (refine awp_seq ?_)
                  refine e_eval (by simp only [jA, jO, jN, seval, y3, vint, TyS, TyF, BdS, Int.cast_ofNat_Int] <;> with_reducible rfl) (by decide) ?_
                  repeat (refine awp_seq ?_)
                  refine awp_cond rfl (by simp only [jN, seval, vint, TyS, TyF, BdS, Int.cast_ofNat_Int] <;> with_reducible rfl) (fun b56 => ?_) (fun b56 => ?_)
                  ·
                    repeat (refine awp_seq ?_)
                    refine g_eval (by simp only [jG, jO, jN, seval, y3, y24, vint, TyS, TyF, BdS, Int.cast_ofNat_Int] <;> with_reducible rfl) (by decide) (by repeat (first | exact Fin.base _ | with_reducible apply Fin.keep | apply Fin.drop)) ?_
                    repeat (refine awp_seq ?_)
                    refine awp_ret ⟨.inr rfl, _, rfl, ?_⟩
                    simp only [jN, seval, vint, TyS, TyF, BdS]
                    simp_all [nwf]
                  ·
                    repeat (refine awp_seq ?_)
                    refine e_eval (by simp only [jA, jO, jN, seval, y3, vint, TyS, TyF, BdS, Int.cast_ofNat_Int] <;> with_reducible rfl) (by decide) ?_
                    repeat (refine awp_seq ?_)
                    refine awp_cond rfl (by simp only [jN, seval, vint, TyS, TyF, BdS, Int.cast_ofNat_Int] <;> with_reducible rfl) (fun b57 => ?_) (fun b57 => ?_)
                    ·
                      repeat (refine awp_seq ?_)
                      refine g_eval (by simp only [jG, jO, jN, seval, y3, y24, vint, TyS, TyF, BdS, Int.cast_ofNat_Int] <;> with_reducible rfl) (by decide) (by repeat (first | exact Fin.base _ | with_reducible apply Fin.keep | apply Fin.drop)) ?_
                      repeat (refine awp_seq ?_)
                      refine awp_ret ⟨.inr rfl, _, rfl, ?_⟩
                      simp only [jN, seval, vint, TyS, TyF, BdS]
                      simp_all [nwf]
                    ·
                      repeat (refine awp_seq ?_)
                      refine e_eval (by simp only [jA, jO, jN, seval, y3, vint, TyS, TyF, BdS, Int.cast_ofNat_Int] <;> with_reducible rfl) (by decide) ?_
                      repeat (refine awp_seq ?_)
                      refine awp_cond rfl (by simp only [jN, seval, vint, TyS, TyF, BdS, Int.cast_ofNat_Int] <;> with_reducible rfl) (fun b58 => ?_) (fun b58 => ?_)
                      ·
                        repeat (refine awp_seq ?_)
                        refine g_eval (by simp only [jG, jO, jN, seval, y3, y24, vint, TyS, TyF, BdS, Int.cast_ofNat_Int] <;> with_reducible rfl) (by decide) (by repeat (first | exact Fin.base _ | with_reducible apply Fin.keep | apply Fin.drop)) ?_
                        repeat (refine awp_seq ?_)
                        refine awp_ret ⟨.inr rfl, _, rfl, ?_⟩
                        simp only [jN, seval, vint, TyS, TyF, BdS]
                        simp_all [nwf]
                      ·
                        repeat (refine awp_seq ?_)
                        refine awp_skip ?_
                        repeat (refine awp_seq ?_)
                        refine e_eval (by simp only [jA, jO, jN, seval, vint, TyS, TyF, BdS, Int.cast_ofNat_Int] <;> with_reducible rfl) (by decide) ?_
                        repeat (refine awp_seq ?_)
                        refine awp_ret ⟨.inr rfl, _, rfl, ?_⟩
                        simp only [jN, seval, vint, TyS, TyF, BdS]
                        simp_all [nwf]
            ·
              repeat (refine awp_seq ?_)
              refine e_eval (by simp only [jA, jO, jN, seval, y3, vint, TyS, TyF, BdS, Int.cast_ofNat_Int] <;> with_reducible rfl) (by decide) ?_
              repeat (refine awp_seq ?_)
              refine awp_cond rfl (by simp only [jN, seval, vint, TyS, TyF, BdS, Int.cast_ofNat_Int] <;> with_reducible rfl) (fun b59 => ?_) (fun b59 => ?_)
              ·
                repeat (refine awp_seq ?_)
                refine g_eval (by simp only [jG, jO, jN, seval, y3, y24, vint, TyS, TyF, BdS, Int.cast_ofNat_Int] <;> with_reducible rfl) (by decide) (by repeat (first | exact Fin.base _ | with_reducible apply Fin.keep | apply Fin.drop)) ?_
                repeat (refine awp_seq ?_)
                refine awp_ret ⟨.inr rfl, _, rfl, ?_⟩
                simp only [jN, seval, vint, TyS, TyF, BdS]
                simp_all [nwf]
              ·
                repeat (refine awp_seq ?_)
                refine e_eval (by simp only [jA, jO, jN, seval, y3, vint, TyS, TyF, BdS, Int.cast_ofNat_Int] <;> with_reducible rfl) (by decide) ?_
                repeat (refine awp_seq ?_)
                refine awp_cond rfl (by simp only [jN, seval, vint, TyS, TyF, BdS, Int.cast_ofNat_Int] <;> with_reducible rfl) (fun b60 => ?_) (fun b60 => ?_)
                ·
                  repeat (refine awp_seq ?_)
                  refine e_eval (by simp only [jA, jO, jN, seval, y3, y24, vint, TyS, TyF, BdS, Int.cast_ofNat_Int] <;> with_reducible rfl) (by decide) ?_
                  repeat (refine awp_seq ?_)
                  refine awp_ret ⟨.inr rfl, _, rfl, ?_⟩
                  simp only [jN, seval, vint, TyS, TyF, BdS]
                  simp_all [nwf]
                ·
                  repeat (refine awp_seq ?_)
                  refine e_eval (by simp only [jA, jO, jN, seval, y3, vint, TyS, TyF, BdS, Int.cast_ofNat_Int] <;> with_reducible rfl) (by decide) ?_
                  repeat (refine awp_seq ?_)
                  refine awp_cond rfl (by simp only [jN, seval, vint, TyS, TyF, BdS, Int.cast_ofNat_Int] <;> with_reducible rfl) (fun b61 => ?_) (fun b61 => ?_)
                  ·
                    repeat (refine awp_seq ?_)
                    refine g_eval (by simp only [jG, jO, jN, seval, y3, y24, vint, TyS, TyF, BdS, Int.cast_ofNat_Int] <;> with_reducible rfl) (by decide) (by repeat (first | exact Fin.base _ | with_reducible apply Fin.keep | apply Fin.drop)) ?_
                    repeat (refine awp_seq ?_)
                    refine awp_ret ⟨.inr rfl, _, rfl, ?_⟩
                    simp only [jN, seval, vint, TyS, TyF, BdS]
                    simp_all [nwf]
                  ·
                    repeat (refine awp_seq ?_)
                    refine e_eval (by simp only [jA, jO, jN, seval, y3, vint, TyS, TyF, BdS, Int.cast_ofNat_Int] <;> with_reducible rfl) (by decide) ?_
                    repeat (refine awp_seq ?_)
                    refine awp_cond rfl (by simp only [jN, seval, vint, TyS, TyF, BdS, Int.cast_ofNat_Int] <;> with_reducible rfl) (fun b62 => ?_) (fun b62 => ?_)
                    ·
                      repeat (refine awp_seq ?_)
                      refine g_eval (by simp only [jG, jO, jN, seval, y3, y24, vint, TyS, TyF, BdS, Int.cast_ofNat_Int] <;> with_reducible rfl) (by decide) (by repeat (first | exact Fin.base _ | with_reducible apply Fin.keep | apply Fin.drop)) ?_
                      repeat (refine awp_seq ?_)
                      refine awp_ret ⟨.inr rfl, _, rfl, ?_⟩
                      simp only [jN, seval, vint, TyS, TyF, BdS]
                      simp_all [nwf]
                    ·
                      repeat (refine awp_seq ?_)
                      refine e_eval (by simp only [jA, jO, jN, seval, y3, vint, TyS, TyF, BdS, Int.cast_ofNat_Int] <;> with_reducible rfl) (by decide) ?_
                      repeat (refine awp_seq ?_)
                      refine awp_cond rfl (by simp only [jN, seval, vint, TyS, TyF, BdS, Int.cast_ofNat_Int] <;> with_reducible rfl) (fun b63 => ?_) (fun b63 => ?_)
                      ·
                        repeat (refine awp_seq ?_)
                        refine g_eval (by simp only [jG, jO, jN, seval, y3, y24, vint, TyS, TyF, BdS, Int.cast_ofNat_Int] <;> with_reducible rfl) (by decide) (by repeat (first | exact Fin.base _ | with_reducible apply Fin.keep | apply Fin.drop)) ?_
                        repeat (refine awp_seq ?_)
                        refine awp_ret ⟨.inr rfl, _, rfl, ?_⟩
                        simp only [jN, seval, vint, TyS, TyF, BdS]
                        simp_all [nwf]
                      ·
                        repeat (refine awp_seq ?_)
                        refine awp_skip ?_
                        repeat (refine awp_seq ?_)
                        refine e_eval (by simp only [jA, jO, jN, seval, vint, TyS, TyF, BdS, Int.cast_ofNat_Int] <;> with_reducible rfl) (by decide) ?_
                        repeat (refine awp_seq ?_)
                        refine awp_ret ⟨.inr rfl, _, rfl, ?_⟩
                        simp only [jN, seval, vint, TyS, TyF, BdS]
                        simp_all [nwf]

theorem wellFormed1 (H : Heap) (u : Ty) (b : Bool) (ih : PC Try.prog 85 [u.enc] (.bool b)) : ACalls Try.prog 125 [u.enc] H fun r' H' => r' = .bool (!b) ∧ H' = H := by
  refine keeps_of (N := 6) Try.func125 rfl rfl (by simp) (.bool _) fun hb' => ?_
  repeat (refine awp_seq ?_)
  refine e_eval (by simp only [jA, jO, jN, seval, y24, vint, TyS, TyF, BdS] <;> with_reducible rfl) (by decide) ?_
  repeat (refine awp_seq ?_)
  refine awp_region ?_
  refine e_take 1 (by simp only [jA, jO, jN, seval, y24, vint, TyS, TyF, BdS] <;> with_reducible rfl) (by decide) ?_
  refine aops_pure (by simp only [jC, jN, seval, vint, TyS, TyF, BdS] <;> with_reducible rfl) (by simp only [jC, jN, seval, vint, TyS, TyF, BdS]) (by decide) Trygo85 (ih _) ?_
  refine e_end (by simp only [jA, jO, jN, seval, vint, TyS, TyF, BdS] <;> with_reducible rfl) (by decide) ?_
  repeat (refine awp_seq ?_)
  refine awp_ret ⟨.inr rfl, _, _, rfl, ?_, (by first | exact (List.append_nil _).symm | rfl)⟩
  simp only [jN, seval, vint, TyS, TyF, BdS]

theorem wellFormed_k : ∀ (k : Nat) (t : Ty), t.size ≤ k → t.W → PC Try.prog 85 [t.enc] (.bool (wfT t))
  | 0, t, h, _ => by cases t; simp [Ty.size] at h
  | k + 1, t, h, hw => by
    refine pc_of (N := 11) Try.func85 rfl rfl (by simp) (by simp [Ty.bel]) (.bool _) ?_
    repeat (refine awp_seq ?_)
    refine e_eval (by simp only [jA, jO, jN, seval, y24, vint, TyS, TyF, BdS] <;> with_reducible rfl) (by decide) ?_
    repeat (refine awp_seq ?_)
    refine awp_region ?_
    refine aops_gstart ?_
    refine g_take 1 (by simp only [jG, jO, jN, seval, y24, vint, TyS, TyF, BdS] <;> with_reducible rfl) (by decide) ?_
    refine aops_gpure (by simp only [jE, jN, seval, vint, TyS, TyF, BdS] <;> with_reducible rfl) (by simp only [jE, jN, seval, vint, TyS, TyF, BdS] <;> with_reducible rfl) (by simp only [jE, jN, seval, vint, TyS, TyF, BdS]) (by decide) Trygo124 (fun hc => nodeWellFormed t _) ?_
    refine g_take 3 (by simp only [jG, jO, jN, seval, y22, y24, vint, TyS, TyF, BdS] <;> with_reducible rfl) (by decide) ?_
    refine aops_gpure (by simp only [jE, jN, seval, vint, TyS, TyF, BdS] <;> with_reducible rfl) (by simp only [jE, jN, seval, vint, TyS, TyF, BdS] <;> with_reducible rfl) (by simp only [jE, jN, seval, vint, TyS, TyF, BdS]) (by decide) Trygo81 (fun hc => containsFuncTy (p := fun u => !wfT u) ⟨Trygo125, by simp, fun u hu => wellFormed1 _ u _ (wellFormed_k k u (by have := Ty.size_arg hu; omega) (hw.arg hu))⟩ hw.lenMax) ?_
    refine g_end (by simp only [jG, jO, jN, seval, vint, TyS, TyF, BdS] <;> with_reducible rfl) (by decide) (by repeat (first | exact Fin.base _ | with_reducible apply Fin.keep | apply Fin.drop)) ?_
    repeat (refine awp_seq ?_)
    refine awp_ret ⟨.inr rfl, _, rfl, ?_⟩
    simp only [jN, seval, vint, TyS, TyF, BdS]
    rw [wfT_eq]

theorem wellFormed_c (t : Ty) (hw : t.W) : PC Try.prog 85 [t.enc] (.bool (wfT t)) := wellFormed_k t.size t (Nat.le_refl _) hw

theorem validate (t : Ty) (hw : t.W) : PC Try.prog 31 [t.enc] (vint (valT t)) := by
  refine pc_of (N := 19) Try.func31 rfl rfl (by simp) (by simp [Ty.bel]) (.int _ _) ?_
  repeat (refine awp_seq ?_)
  refine e_eval (by simp only [jA, jO, jN, seval, y24, vint, TyS, TyF, BdS] <;> with_reducible rfl) (by decide) ?_
  repeat (refine awp_seq ?_)
  refine awp_region ?_
  refine e_take 1 (by simp only [jA, jO, jN, seval, y24, vint, TyS, TyF, BdS] <;> with_reducible rfl) (by decide) ?_
  refine aops_pure (by simp only [jC, jN, seval, vint, TyS, TyF, BdS] <;> with_reducible rfl) (by simp only [jC, jN, seval, vint, TyS, TyF, BdS]) (by decide) Trygo84 (measure_k t.size t 100 (Nat.le_refl _) hw (by decide) (by decide) _) ?_
  refine e_end (by simp only [jA, jO, jN, seval, vint, TyS, TyF, BdS] <;> with_reducible rfl) (by decide) ?_
  repeat (refine awp_seq ?_)
  refine g_eval (by simp only [jG, jO, jN, seval, y3, vint, TyS, TyF, BdS] <;> with_reducible rfl) (by decide) (by repeat (first | exact Fin.base _ | with_reducible apply Fin.keep | apply Fin.drop)) ?_
  repeat (refine awp_seq ?_)
  refine awp_cond rfl (by simp only [jN, seval, vint, TyS, TyF, BdS] <;> with_reducible rfl) (fun b0 => ?_) (fun b0 => ?_)
  ·
    refine awp_sel [] (by simp only [jN, seval, vint, TyS, TyF, BdS] <;> with_reducible rfl) ?_
    repeat (refine awp_seq ?_)
    refine e_eval (by simp only [jA, jO, jN, seval, vint, TyS, TyF, BdS] <;> with_reducible rfl) (by decide) ?_
    repeat (refine awp_seq ?_)
    refine awp_ret ⟨.inr rfl, _, rfl, ?_⟩
    simp only [jN, seval, vint, TyS, TyF, BdS]
    simp_all [valT]
  ·
    repeat (refine awp_seq ?_)
    refine awp_skip ?_
    refine awp_sel [1] (by simp only [jN, seval, vint, TyS, TyF, BdS] <;> with_reducible rfl) ?_
    repeat (refine awp_seq ?_)
    refine awp_region ?_
    refine e_take 1 (by simp only [jA, jO, jN, seval, y24, vint, TyS, TyF, BdS] <;> with_reducible rfl) (by decide) ?_
    refine aops_pure (by simp only [jC, jN, seval, vint, TyS, TyF, BdS] <;> with_reducible rfl) (by simp only [jC, jN, seval, vint, TyS, TyF, BdS]) (by decide) Trygo85 (wellFormed_c t hw _) ?_
    refine e_end (by simp only [jA, jO, jN, seval, vint, TyS, TyF, BdS] <;> with_reducible rfl) (by decide) ?_
    repeat (refine awp_seq ?_)
    refine awp_cond rfl (by simp only [jN, seval, vint, TyS, TyF, BdS] <;> with_reducible rfl) (fun b1 => ?_) (fun b1 => ?_)
    ·
      repeat (refine awp_seq ?_)
      refine e_eval (by simp only [jA, jO, jN, seval, vint, TyS, TyF, BdS] <;> with_reducible rfl) (by decide) ?_
      repeat (refine awp_seq ?_)
      refine awp_ret ⟨.inr rfl, _, rfl, ?_⟩
      simp only [jN, seval, vint, TyS, TyF, BdS]
      simp_all [valT]
    ·
      repeat (refine awp_seq ?_)
      refine awp_skip ?_
      repeat (refine awp_seq ?_)
      refine e_eval (by simp only [jA, jO, jN, seval, vint, TyS, TyF, BdS] <;> with_reducible rfl) (by decide) ?_
      repeat (refine awp_seq ?_)
      refine awp_ret ⟨.inr rfl, _, rfl, ?_⟩
      simp only [jN, seval, vint, TyS, TyF, BdS]
      simp_all [valT]

theorem afv_k : ∀ (k : Nat) (t : Ty) (vs : List Int) (H : Heap) (id : Nat), t.size ≤ k → t.W → (vs.length + t.size) * 8 ≤ 2 ^ 47 → id < H.length →
    ACalls Try.prog 89 [.slice (vs.map vint) (.tok id), t.enc] (bH H id vs.length 1) fun r' H' => r' = .slice ((afv t vs).map vint) (.tok id) ∧ H' = bH H id (afv t vs).length 1
  | 0, t, vs, H, id, h, _, _, _ => by cases t; simp [Ty.size] at h
  | k + 1, t, vs, H, id, h, hw, hsz, hid => by
    have BH := bH_rules (sz := 1) hid
    have hts : t.size = 1 + Ty.sizes t.args := by cases t; simp [Ty.size, Ty.args]
    have em : maxLen = 9223372036854775807 := by decide
    have heq := afv_eq t vs
    refine muts_raw (N := 34) Try.func89 rfl rfl (by simp) (bel_int_tok _ (by rw [bH_len]; exact hid)) (by simp only [bH_len]) (fun hb => bH_bel hb) fun hb' => ?_
    rw [bH_len] at hb' ⊢
    repeat (refine awp_seq ?_)
    refine e_eval (by simp only [jA, jO, jN, seval, y24, vint, TyS, TyF, BdS, BH] <;> with_reducible rfl) (by decide) ?_
    repeat (refine awp_seq ?_)
    refine awp_region ?_
    refine aops_gstart ?_
    refine g_take 7 (by simp only [jG, jO, jN, seval, y3, y24, vint, TyS, TyF, BdS, BH] <;> with_reducible rfl) (by decide) ?_
    refine aops_gpure (by simp only [jE, jN, seval, vint, TyS, TyF, BdS, BH] <;> with_reducible rfl) (by simp only [jE, jN, seval, vint, TyS, TyF, BdS, BH] <;> with_reducible rfl) (by simp only [jE, jN, seval, vint, TyS, TyF, BdS, BH]) (by decide) Trygo33 (fun hc => containsInt vs t.id (by rw [em]; omega) _) ?_
    refine g_end (by simp only [jG, jO, jN, seval, vint, TyS, TyF, BdS, BH] <;> with_reducible rfl) (by decide) (by repeat (first | exact Fin.base _ | with_reducible apply Fin.keep | apply Fin.drop)) ?_
    repeat (refine awp_seq ?_)
    refine awp_cond rfl (by simp only [jN, seval, vint, TyS, TyF, BdS, BH] <;> with_reducible rfl) (fun b0 => ?_) (fun b0 => ?_)
    ·
      have happ := fun fresh L => app_int (us := vs) (u := t.id) (id := id) (tl := .full) (by omega) fresh (bH H id vs.length 1 ++ L) (BH.1 _ _)
      rw [if_pos b0] at heq
      have hq0 : ((vs ++ [t.id]).length + Ty.sizes t.args) * 8 ≤ 2 ^ 47 := by simp; omega
      repeat (refine awp_seq ?_)
      refine e_eval (by simp only [jA, jO, jN, seval, y3, y24, y25, vint, TyS, TyF, BdS, BH, happ] <;> with_reducible rfl) (by decide) ?_
      refine awp_sel [0, 3] (by simp only [jN, seval, vint, TyS, TyF, BdS, BH] <;> with_reducible rfl) ?_
      repeat (refine awp_seq ?_)
      refine e_eval (by simp only [jA, jO, jN, seval, y22, y24, vint, TyS, TyF, BdS, BH] <;> with_reducible rfl) (by decide) ?_
      repeat (refine awp_seq ?_)
      refine awp_forS (σ := List Int) (t.args.length) (fun (q : List Int) => [(0, .slice (q.map vint) (.tok id)), (23, .slice (t.args.map Ty.enc) .none)]) [0, 23] ([]) (fun (q : List Int) => bH H id q.length 1 ++ [.row t.enc.cells]) (fun (i : Nat) (q : List Int) => (q.length + Ty.sizes (t.args.drop i)) * 8 ≤ 2 ^ 47 ∧ afvL ((t.args.map afv).drop i) q = afv t vs) (_) ([]) rfl rfl rfl rfl rfl rfl rfl rfl rfl (by decide) (by decide) (by decide) (fun _ => rfl) (hw.lenMax) ⟨(by first | rfl | (simp only [jN, seval, vint, TyS, TyF, BdS, BH] <;> first | done | with_reducible rfl)), (by first | rfl | (simp only [jN, seval, vint, TyS, TyF, BdS, BH] <;> first | done | with_reducible rfl)), (by first | rfl | (simp only [jN, seval, vint, TyS, TyF, BdS, BH] <;> first | done | with_reducible rfl)), (by first | rfl | (simp only [jN, seval, vint, TyS, TyF, BdS, BH] <;> first | done | with_reducible rfl)), trivial⟩ (by first | rfl | (simp only [jN, seval, vint, TyS, TyF, BdS, BH] <;> first | done | with_reducible rfl)) (⟨hq0, heq.symm⟩) (fun i q hg => by simp only [List.nil_append, List.length_append, bH_len]; omega) ?_ ?_ ?_
      · intro i q hg
        refine ⟨?_, .cons (bel_int_tok _ (by simp [bH_len]; omega)) (.cons (bel_slice_ty _ _) .nil)⟩
        simp only [List.nil_append, TyS]
        refine hbel_app' (bH_bel hb') (by simp [bH_len]) ?_
        repeat (first | exact hbel_nil _ | exact trivial | exact obel_row_nil _ | (refine HBel.cons ?_ ?_) | (refine obel_row_cons (by first | exact bel_Bd _ _ | exact Bd.bel _ _ | exact bel_ints0 _ _ | exact bel_slice_ty _ _ | exact Ty.bel _ _ | exact bel_ty_tok _ (by simp) | exact Bel.int _ _ | exact Bel.bool _ | exact Bel.str _ | exact Bel.nilp | exact Bel.nilfn | exact Bel.optr _ _ (by simp) | exact bel_nil0 _ | exact bel_nil1 _ | exact bel_fn0 _ _ | assumption) ?_))
      · intro i q hi hg
        obtain ⟨hq, hg⟩ := hg
        have g1 := ix_nat hi
        have g2 := get_enc Ty.enc hi
        have hmem : t.args[i] ∈ t.args := List.getElem_mem hi
        rw [List.drop_eq_getElem_cons hi, Ty.sizes] at hq
        rw [List.drop_eq_getElem_cons (by simpa using hi), List.getElem_map, afvL_cons] at hg
        have hal := afv_len t.args[i] q
        have ih := afv_k k t.args[i] q (bH H id q.length 1 ++ [.row [.int .i64 t.kind, .int .i64 t.id, .slice (t.args.map Ty.enc) .none], .row [.int .i64 t.args[i].kind, .int .i64 t.args[i].id, .slice (t.args[i].args.map Ty.enc) .none]]) id (by have := Ty.size_arg hmem; omega) (hw.arg hmem) (by omega) (by simp [bH_len]; omega)
        simp only [BH] at ih
        repeat (refine awp_seq ?_)
        refine e_eval (by simp only [jA, jO, jN, seval, y22, y24, vint, TyS, TyF, BdS, BH, g1, g2, Int.toNat_natCast] <;> with_reducible rfl) (by decide) ?_
        repeat (refine awp_seq ?_)
        refine awp_region ?_
        refine e_take 2 (by simp only [jA, jO, jN, seval, y24, vint, TyS, TyF, BdS, BH, g1, g2, Int.toNat_natCast] <;> with_reducible rfl) (by decide) ?_
        refine aops_callR (by simp only [jC, jN, seval, vint, TyS, TyF, BdS, BH, g1, g2, Int.toNat_natCast] <;> with_reducible rfl) (by simp only [jC, jN, seval, vint, TyS, TyF, BdS, BH, g1, g2, Int.toNat_natCast]) (by decide) Trygo89 (ih) ?_
        rintro _ _ ⟨rfl, rfl⟩
        refine e_end (by simp only [jA, jO, jN, seval, vint, TyS, TyF, BdS, BH, g1, g2, Int.toNat_natCast] <;> with_reducible rfl) (by decide) ?_
        exact ⟨⟨rfl, rfl, trivial⟩, afv t.args[i] q, _, ⟨rfl, rfl, trivial⟩, by simp only [jN, seval, vint, TyS, TyF, BdS] <;> rfl, ⟨by omega, hg⟩⟩
      · intro q hg
        obtain ⟨hq, hg⟩ := hg
        rw [List.drop_eq_nil_of_le (by simp), afvL_nil] at hg
        subst hg
        repeat (refine awp_seq ?_)
        refine e_eval (by simp only [jA, jO, jN, seval, vint, TyS, TyF, BdS, BH] <;> with_reducible rfl) (by decide) ?_
        repeat (refine awp_seq ?_)
        refine awp_ret ⟨.inr rfl, _, _, rfl, ?_, rfl⟩
        rfl
    ·
      rw [if_neg (by rw [b0]; simp)] at heq
      have hq0 : (vs.length + Ty.sizes t.args) * 8 ≤ 2 ^ 47 := by omega
      repeat (refine awp_seq ?_)
      refine awp_skip ?_
      repeat (refine awp_seq ?_)
      refine e_eval (by simp only [jA, jO, jN, seval, y22, y24, vint, TyS, TyF, BdS, BH] <;> with_reducible rfl) (by decide) ?_
      repeat (refine awp_seq ?_)
      refine awp_forS (σ := List Int) (t.args.length) (fun (q : List Int) => [(0, .slice (q.map vint) (.tok id)), (23, .slice (t.args.map Ty.enc) .none)]) [0, 23] ([]) (fun (q : List Int) => bH H id q.length 1 ++ [.row t.enc.cells]) (fun (i : Nat) (q : List Int) => (q.length + Ty.sizes (t.args.drop i)) * 8 ≤ 2 ^ 47 ∧ afvL ((t.args.map afv).drop i) q = afv t vs) (_) ([]) rfl rfl rfl rfl rfl rfl rfl rfl rfl (by decide) (by decide) (by decide) (fun _ => rfl) (hw.lenMax) ⟨(by first | rfl | (simp only [jN, seval, vint, TyS, TyF, BdS, BH] <;> first | done | with_reducible rfl)), (by first | rfl | (simp only [jN, seval, vint, TyS, TyF, BdS, BH] <;> first | done | with_reducible rfl)), (by first | rfl | (simp only [jN, seval, vint, TyS, TyF, BdS, BH] <;> first | done | with_reducible rfl)), (by first | rfl | (simp only [jN, seval, vint, TyS, TyF, BdS, BH] <;> first | done | with_reducible rfl)), trivial⟩ (by first | rfl | (simp only [jN, seval, vint, TyS, TyF, BdS, BH] <;> first | done | with_reducible rfl)) (⟨hq0, heq.symm⟩) (fun i q hg => by simp only [List.nil_append, List.length_append, bH_len]; omega) ?_ ?_ ?_
      · intro i q hg
        refine ⟨?_, .cons (bel_int_tok _ (by simp [bH_len]; omega)) (.cons (bel_slice_ty _ _) .nil)⟩
        simp only [List.nil_append, TyS]
        refine hbel_app' (bH_bel hb') (by simp [bH_len]) ?_
        repeat (first | exact hbel_nil _ | exact trivial | exact obel_row_nil _ | (refine HBel.cons ?_ ?_) | (refine obel_row_cons (by first | exact bel_Bd _ _ | exact Bd.bel _ _ | exact bel_ints0 _ _ | exact bel_slice_ty _ _ | exact Ty.bel _ _ | exact bel_ty_tok _ (by simp) | exact Bel.int _ _ | exact Bel.bool _ | exact Bel.str _ | exact Bel.nilp | exact Bel.nilfn | exact Bel.optr _ _ (by simp) | exact bel_nil0 _ | exact bel_nil1 _ | exact bel_fn0 _ _ | assumption) ?_))
      · intro i q hi hg
        obtain ⟨hq, hg⟩ := hg
        have g1 := ix_nat hi
        have g2 := get_enc Ty.enc hi
        have hmem : t.args[i] ∈ t.args := List.getElem_mem hi
        rw [List.drop_eq_getElem_cons hi, Ty.sizes] at hq
        rw [List.drop_eq_getElem_cons (by simpa using hi), List.getElem_map, afvL_cons] at hg
        have hal := afv_len t.args[i] q
        have ih := afv_k k t.args[i] q (bH H id q.length 1 ++ [.row [.int .i64 t.kind, .int .i64 t.id, .slice (t.args.map Ty.enc) .none], .row [.int .i64 t.args[i].kind, .int .i64 t.args[i].id, .slice (t.args[i].args.map Ty.enc) .none]]) id (by have := Ty.size_arg hmem; omega) (hw.arg hmem) (by omega) (by simp [bH_len]; omega)
        simp only [BH] at ih
        repeat (refine awp_seq ?_)
        refine e_eval (by simp only [jA, jO, jN, seval, y22, y24, vint, TyS, TyF, BdS, BH, g1, g2, Int.toNat_natCast] <;> with_reducible rfl) (by decide) ?_
        repeat (refine awp_seq ?_)
        refine awp_region ?_
        refine e_take 2 (by simp only [jA, jO, jN, seval, y24, vint, TyS, TyF, BdS, BH, g1, g2, Int.toNat_natCast] <;> with_reducible rfl) (by decide) ?_
        refine aops_callR (by simp only [jC, jN, seval, vint, TyS, TyF, BdS, BH, g1, g2, Int.toNat_natCast] <;> with_reducible rfl) (by simp only [jC, jN, seval, vint, TyS, TyF, BdS, BH, g1, g2, Int.toNat_natCast]) (by decide) Trygo89 (ih) ?_
        rintro _ _ ⟨rfl, rfl⟩
        refine e_end (by simp only [jA, jO, jN, seval, vint, TyS, TyF, BdS, BH, g1, g2, Int.toNat_natCast] <;> with_reducible rfl) (by decide) ?_
        exact ⟨⟨rfl, rfl, trivial⟩, afv t.args[i] q, _, ⟨rfl, rfl, trivial⟩, by simp only [jN, seval, vint, TyS, TyF, BdS] <;> rfl, ⟨by omega, hg⟩⟩
      · intro q hg
        obtain ⟨hq, hg⟩ := hg
        rw [List.drop_eq_nil_of_le (by simp), afvL_nil] at hg
        subst hg
        repeat (refine awp_seq ?_)
        refine e_eval (by simp only [jA, jO, jN, seval, vint, TyS, TyF, BdS, BH] <;> with_reducible rfl) (by decide) ?_
        repeat (refine awp_seq ?_)
        refine awp_ret ⟨.inr rfl, _, _, rfl, ?_, rfl⟩
        rfl

theorem freeVars (t : Ty) (hw : t.W) (hs : t.size * 8 ≤ 2 ^ 47) : PC Try.prog 34 [t.enc] (.slice ((afv t []).map vint) .none) := by
  refine pc_of (N := 5) Try.func34 rfl rfl (by simp) (by simp [Ty.bel]) (bel_ints0 _ _) ?_
  repeat (refine awp_seq ?_)
  refine e_eval (by simp only [jA, jO, jN, seval, y24, vint, TyS, TyF, BdS] <;> with_reducible rfl) (by decide) ?_
  repeat (refine awp_seq ?_)
  refine awp_region ?_
  refine e_take 1 (by simp only [jA, jO, jN, seval, y24, vint, TyS, TyF, BdS] <;> with_reducible rfl) (by decide) ?_
  refine aops_callR (by simp only [jC, jN, seval, vint, TyS, TyF, BdS] <;> with_reducible rfl) (by simp only [jC, jN, seval, vint, TyS, TyF, BdS]) (by decide) Trygo89 (ACalls.retok (es := []) 1 (by have := afv_k t.size t [] [.row [.int .i64 t.kind, .int .i64 t.id, .slice (t.args.map Ty.enc) .none], .buf 0 1] 1 (Nat.le_refl _) hw (by simp; omega) (by simp); exact this)) ?_
  rintro _ _ ⟨rfl, rfl⟩
  refine e_end (by simp only [jA, jO, jN, seval, vint, TyS, TyF, BdS] <;> with_reducible rfl) (by decide) ?_
  repeat (refine awp_seq ?_)
  refine awp_ret ⟨.inr rfl, _, rfl, ?_⟩
  rfl

end Go.Abs
