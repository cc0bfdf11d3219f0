/- Part 1 of a proof of the law TopCanceled: Go data as trees, the walks of the functions that the law reaches, the plain laws. -/
import Derived.Tactics
import Derived.Laws.Cells
import Derived.Below
import Derived.ChangeKeysEq
import Derived.Laws.StructEq
set_option linter.unusedVariables false
set_option linter.unusedSimpArgs false
namespace Go.Memo
abbrev QK := Int × Int × Int
structure QV where
  nums : List Int
  text : List UInt8
  deriving DecidableEq
structure Cell where
  val : QV
  c : Nat
  d : Nat
def Cell.zero : Cell := ⟨⟨[], []⟩, 0, 0⟩
structure Rec where
  val : QV
  v : Nat
  c : Nat
  D : Nat
  deps : List QK
structure St where
  now : Nat
  lc : Nat → Nat
  cell : QK → Cell
  res : QK → Option Rec
  comps : Int
  clk : Nat
inductive Prog where
  | ret (v : QV)
  | get (k : QK) (c : QV → Prog)
def Prog.den (e : QK → QV) : Prog → QV
  | .ret v => v
  | .get k c => (c (e k)).den e
def Prog.reads (e : QK → QV) : Prog → List QK
  | .ret _ => []
  | .get k c => k :: (c (e k)).reads e
def Prog.bel (p : QK → Prop) : Prog → Prop
  | .ret _ => True
  | .get k c => p k ∧ ∀ v, (c v).bel p
theorem Prog.congr {e e' : QK → QV} : ∀ (p : Prog), (∀ d ∈ p.reads e, e' d = e d) → p.den e' = p.den e ∧ p.reads e' = p.reads e
  | .ret v, _ => ⟨rfl, rfl⟩
  | .get k c, h => by
    have h1 : e' k = e k := h k (by simp [reads])
    have h2 := Prog.congr (c (e k)) fun d hd => h d (by simp [reads, hd])
    simp only [den, reads, h1]
    exact ⟨h2.1, by rw [h2.2]⟩
theorem Prog.bel_reads {q : QK → Prop} {e : QK → QV} : ∀ (p : Prog), p.bel q → ∀ d ∈ p.reads e, q d
  | .ret v, _, d, hd => by cases hd
  | .get k c, h, d, hd => by
    rcases List.mem_cons.1 hd with rfl | hd
    · exact h.1
    · exact Prog.bel_reads (c (e k)) (h.2 _) d hd
abbrev Out (α : Type) := Option (Option α × St)
def runP {σ : Type} (step : QK → σ → Option (Option QV × σ)) : Prog → σ → Option (Option QV × σ)
  | .ret v, s => some (some v, s)
  | .get k c, s => match step k s with
    | none => none
    | some (none, s') => some (none, s')
    | some (some v, s') => runP step (c v) s'
structure Acc where
  deps : List QK
  D : Nat
def Acc.add (a : Acc) (k : QK) (d : Nat) : Acc := ⟨if k ∈ a.deps then a.deps else a.deps ++ [k], min a.D d⟩
def lim : Nat := 1099511627776
def okV (v : QV) : Bool := decide (v.nums.length ≤ lim)
def okA (a : Acc) : Bool := decide (a.deps.length < lim)
def getStep (u : QK → St → Out Rec) (k : QK) (s : Acc × St) : Option (Option QV × (Acc × St)) :=
  if k.1 = 0 then (if (okV (s.2.cell k).val && okA s.1) = true then some (some (s.2.cell k).val, (s.1.add k (s.2.cell k).d, s.2)) else none)
  else match u k s.2 with
    | none => none
    | some (none, st') => some (none, (s.1, st'))
    | some (some r, st') => if (okV r.val && okA s.1) = true then some (some r.val, (s.1.add k r.D, st')) else none
def setF (f : QK → Option Rec) (k : QK) (r : Option Rec) : QK → Option Rec := fun q => if q = k then r else f q
def wrap64 (n : Int) : Int := (n + 9223372036854775808) % 18446744073709551616 - 9223372036854775808
def newC (o : Option Rec) (now : Nat) (D : Nat) (v : QV) : Nat := match o with
  | some o => if o.D ≤ D ∧ o.val = v then o.c else now
  | none => now
def recomp (u : QK → St → Out Rec) (stp : Int → Bool) (cp : QK → Prog) (k : QK) (st : St) : Out Rec :=
  if stp st.comps = true then some (none, st) else
  match runP (getStep u) (cp k) (⟨[], 2⟩, st) with
  | none => none
  | some (none, s) => some (none, s.2)
  | some (some v, s) => if okV v = true then
      some (some ⟨v, st.now, newC (s.2.res k) st.now s.1.D v, s.1.D, s.1.deps⟩, { s.2 with res := setF s.2.res k (some ⟨v, st.now, newC (s.2.res k) st.now s.1.D v, s.1.D, s.1.deps⟩), comps := wrap64 (s.2.comps + 1) })
    else none
def chk (u : QK → St → Out Rec) (v : Nat) : List QK → St → Out Bool
  | [], st => some (some false, st)
  | d :: ds, st => if d.1 = 0 then (if v < (st.cell d).c then some (some true, st) else chk u v ds st)
    else match u d st with
      | none => none
      | some (none, st') => some (none, st')
      | some (some r, st') => if v < r.c then some (some true, st') else chk u v ds st'
def keep (k : QK) (r : Rec) (st : St) : Out Rec := some (some { r with v := st.now }, { st with res := setF st.res k (some { r with v := st.now }) })
def updF (u : QK → St → Out Rec) (stp : Int → Bool) (cp : QK → Prog) (k : QK) (st : St) : Out Rec :=
  match st.res k with
  | none => recomp u stp cp k st
  | some r => if r.v = st.now ∨ st.lc r.D ≤ r.v then keep k r st
    else match chk u r.v r.deps st with
      | none => none
      | some (none, st') => some (none, st')
      | some (some true, st') => recomp u stp cp k st'
      | some (some false, st') => keep k r st'
def bump (o : Option Rec) (st : St) : St := match o with
  | some _ => { st with clk := st.clk + 1 }
  | none => st
def upd (stp : Int → Bool) (cp : QK → Prog) : Nat → List QK → QK → St → Out Rec
  | 0, _, _, _ => none
  | n + 1, act, k, st => if k ∈ act then none else (updF (upd stp cp n (k :: act)) stp cp k st).map fun x => (x.1, bump x.1 x.2)
def setI (k : QK) (v : QV) (d : Nat) (st : St) : St :=
  if (st.cell k).d = d ∧ (st.cell k).val = v then st else
  { st with now := st.now + 1, lc := fun i => if i ≤ max (st.cell k).d d then st.now + 1 else st.lc i, cell := fun q => if q = k then ⟨v, st.now + 1, d⟩ else st.cell q }
section
variable (cp : QK → Prog) (rk : QK → Nat)
def semN (inp : QK → QV) : Nat → QK → QV
  | 0, k => if k.1 = 0 then inp k else ⟨[], []⟩
  | n + 1, k => if k.1 = 0 then inp k else (cp k).den (semN inp n)
def sem (inp : QK → QV) (k : QK) : QV := semN cp inp (rk k + 1) k
structure Ranked : Prop where
  below : ∀ k : QK, k.1 ≠ 0 → (cp k).bel fun d => d.1 = 0 ∨ rk d < rk k
variable {cp rk}
theorem semN_eq (h : Ranked cp rk) (inp : QK → QV) : ∀ (n m : Nat) (k : QK), rk k < n → rk k < m → semN cp inp n k = semN cp inp m k
  | 0, _, k, h1, _ => absurd h1 (Nat.not_lt_zero _)
  | _, 0, k, _, h2 => absurd h2 (Nat.not_lt_zero _)
  | n + 1, m + 1, k, h1, h2 => by
    unfold semN
    split
    · rfl
    · rename_i hk
      refine ((Prog.congr (e := semN cp inp m) (e' := semN cp inp n) (cp k) fun d hd => ?_).1)
      rcases Prog.bel_reads _ (h.below k hk) d hd with h0 | h0
      · cases n <;> cases m <;> simp [semN, h0]
      · exact semN_eq h inp n m d (by omega) (by omega)
theorem sem_in (inp : QK → QV) {k : QK} (hk : k.1 = 0) : sem cp rk inp k = inp k := by simp [sem, semN, hk]
theorem sem_q (h : Ranked cp rk) (inp : QK → QV) {k : QK} (hk : k.1 ≠ 0) : sem cp rk inp k = (cp k).den (sem cp rk inp) := by
  unfold sem
  rw [semN, if_neg hk]
  refine ((Prog.congr (e := fun k => semN cp inp (rk k + 1) k) (e' := semN cp inp (rk k)) (cp k) fun d hd => ?_).1)
  rcases Prog.bel_reads _ (h.below k hk) d hd with h0 | h0
  · cases rk k <;> simp [semN, h0]
  · exact semN_eq h inp _ _ d h0 (by omega)
inductive Clo (cp : QK → Prog) (e : QK → QV) : QK → QK → Prop
  | dir {k d : QK} (hk : k.1 ≠ 0) (hd : d ∈ (cp k).reads e) : Clo cp e k d
  | step {k d y : QK} (hk : k.1 ≠ 0) (hd : d ∈ (cp k).reads e) (h : Clo cp e d y) : Clo cp e k y
theorem Clo.src {e : QK → QV} {k y : QK} (h : Clo cp e k y) : k.1 ≠ 0 := by cases h <;> assumption
theorem Clo.cases' {e : QK → QV} {k y : QK} (h : Clo cp e k y) : ∃ d, d ∈ (cp k).reads e ∧ (d = y ∨ Clo cp e d y) := by
  cases h with
  | dir hk hd => exact ⟨y, hd, .inl rfl⟩
  | step hk hd h => exact ⟨_, hd, .inr h⟩
theorem Clo.trans {e : QK → QV} {k y z : QK} (h : Clo cp e k y) (h2 : Clo cp e y z) : Clo cp e k z := by
  induction h with
  | dir hk hd => exact .step hk hd h2
  | step hk hd _ ih => exact .step hk hd (ih h2)
theorem agree (h : Ranked cp rk) {i1 i2 : QK → QV} : ∀ (n : Nat) (k : QK), rk k < n → k.1 ≠ 0 → (∀ x : QK, Clo cp (sem cp rk i1) k x → x.1 = 0 → i2 x = i1 x) →
    sem cp rk i2 k = sem cp rk i1 k ∧ (cp k).reads (sem cp rk i2) = (cp k).reads (sem cp rk i1) ∧ ∀ y, Clo cp (sem cp rk i2) k y ↔ Clo cp (sem cp rk i1) k y
  | 0, k, hn, _, _ => absurd hn (Nat.not_lt_zero _)
  | n + 1, k, hn, hk, hs => by
    have hd : ∀ d ∈ (cp k).reads (sem cp rk i1), sem cp rk i2 d = sem cp rk i1 d ∧ ∀ y, d.1 ≠ 0 → (Clo cp (sem cp rk i2) d y ↔ Clo cp (sem cp rk i1) d y) := by
      intro d hd
      by_cases h0 : d.1 = 0
      · exact ⟨by rw [sem_in _ h0, sem_in _ h0]; exact hs d (.dir hk hd) h0, fun y h1 => absurd h0 h1⟩
      · have hr : rk d < rk k := (Prog.bel_reads _ (h.below k hk) d hd).resolve_left h0
        have := agree h n d (by omega) h0 fun x hx => hs x (.step hk hd hx)
        exact ⟨this.1, fun y _ => this.2.2 y⟩
    have hc := Prog.congr (e := sem cp rk i1) (e' := sem cp rk i2) (cp k) fun d h1 => (hd d h1).1
    refine ⟨by rw [sem_q h i2 hk, sem_q h i1 hk]; exact hc.1, hc.2, fun y => ⟨fun hy => ?_, fun hy => ?_⟩⟩
    · obtain ⟨d, h1, h2⟩ := hy.cases'
      rw [hc.2] at h1
      rcases h2 with rfl | h2
      · exact .dir hk h1
      · exact .step hk h1 (((hd d h1).2 y h2.src).1 h2)
    · obtain ⟨d, h1, h2⟩ := hy.cases'
      rcases h2 with rfl | h2
      · exact .dir hk (by rw [hc.2]; exact h1)
      · exact .step hk (by rw [hc.2]; exact h1) (((hd d h1).2 y h2.src).2 h2)
end
end Go.Memo
namespace Go.Abs
inductive Tail where
  | none | full | tok (id : Nat)
  deriving DecidableEq
inductive PV where
  | bool (b : Bool)
  | int (k : IntKind) (n : Int)
  | str (s : List UInt8)
  | nilp
  | optr (id off : Nat)
  | iptr (cs : List PV)
  | slice (es : List PV) (tl : Tail)
  | msl (id off n c : Nat)
  | fn (f : Fn) (first caps : List PV)
  | nilfn
  | agg (cs : List PV)
  | tup (vs : List PV)
  | mapp (id : Nat)
  | nilmap
  | ifc (o : Option (TypeId × Value))
  | junk
def PV.cells : PV → List PV
  | .agg cs => cs
  | p => [p]
def PV.drop0 : PV → PV
  | .slice es _ => .slice es .none
  | p => p
def PV.drop1 : PV → PV
  | .slice es _ => .slice es .none
  | .agg cs => .agg (cs.map PV.drop0)
  | p => p
structure TokI where
  n : Nat
  sz : Nat
  loc : Option (Nat × Nat × Nat)     -- block, end of what is laid, end of the block
structure View where
  cell : Addr → Option Value
  born : Nat → Prop
  rho : Nat → Nat
  tok : Nat → Option TokI
def TailOk (V : View) (tl : Tail) (a : Option Addr) (len cap : Nat) : Prop :=
  match tl with
  | .none => True
  | .full => cap = len
  | .tok id => V.born id ∧ ∀ t, V.tok id = some t → len ≤ t.n ∧
      (len = t.n → (cap = len ∧ (0 < len → ∃ b off, a = some ⟨b, off, none⟩)) ∨ ∃ b pos cend off, t.loc = some (b, pos, cend) ∧ a = some ⟨b, off, none⟩ ∧ off + len * t.sz = pos ∧ off + cap * t.sz = cend)
inductive VRel (V : View) : Value → PV → Prop
  | bool (b : Bool) : VRel V (.bool b) (.bool b)
  | int (k : IntKind) (n : Int) : VRel V (.int k n) (.int k n)
  | str (s : ByteArray) : VRel V (.string s) (.str s.data.toList)
  | nilp : VRel V (.pointer none) .nilp
  | optr (id off : Nat) (h : V.born id) : VRel V (.pointer (some ⟨V.rho id, off, none⟩)) (.optr id off)
  | iptr (a : Addr) (cs : List PV) (vs : Nat → Value)
      (hc : ∀ j, j < cs.length → V.cell (a.add j) = some (vs j))
      (hr : ∀ j (h : j < cs.length), VRel V (vs j) cs[j]) : VRel V (.pointer (some a)) (.iptr cs)
  | nils (tl : Tail) (ht : TailOk V tl none 0 0) : VRel V (.slice none 0 0) (.slice [] tl)
  | slice (a : Addr) (len cap sz : Nat) (es : List PV) (tl : Tail) (vs : Nat → Nat → Value)
      (hlen : es.length = len) (hcap : len ≤ cap) (hmax : cap ≤ maxLen)
      (hsz : ∀ i (h : i < es.length), (es[i].cells).length = sz)
      (hc : ∀ i j, i < len → j < sz → V.cell (a.add (i * sz + j)) = some (vs i j))
      (hr : ∀ i j (hi : i < es.length) (hj : j < (es[i].cells).length), VRel V (vs i j) ((es[i].cells)[j]))
      (ht : TailOk V tl (some a) len cap) : VRel V (.slice (some a) len cap) (.slice es tl)
  | msl (id off n c : Nat) (h : V.born id) (hmax : c ≤ maxLen) : VRel V (.slice (some ⟨V.rho id, off, none⟩) n c) (.msl id off n c)
  | fn (f : Fn) (first caps : Array Value) (pf pc : List PV) (hf : first.size = pf.length) (hc : caps.size = pc.length)
      (hrf : ∀ i (h : i < pf.length), VRel V (first.getD i undef) pf[i])
      (hrc : ∀ i (h : i < pc.length), VRel V (caps.getD i undef) pc[i]) : VRel V (.func f first caps) (.fn f pf pc)
  | nilfn : VRel V .nilFunc .nilfn
  | agg (arr : Array Value) (cs : List PV) (hl : arr.size = cs.length)
      (hr : ∀ i (h : i < cs.length), VRel V (arr.getD i undef) cs[i]) : VRel V (.agg arr) (.agg cs)
  | tup (arr : Array Value) (cs : List PV) (hl : arr.size = cs.length)
      (hr : ∀ i (h : i < cs.length), VRel V (arr.getD i undef) cs[i]) : VRel V (.tuple arr) (.tup cs)
  | mapp (id : Nat) (h : V.born id) : VRel V (.map (some (V.rho id))) (.mapp id)
  | nilmap : VRel V (.map none) .nilmap
  | nili : VRel V .nilIface (.ifc none)
  | ifc (t : TypeId) (v : Value) : VRel V (.iface t v) (.ifc (some (t, v)))
  | junk (v : Value) : VRel V v .junk
structure View.le (V V' : View) : Prop where
  cell : ∀ a v, V.cell a = some v → V'.cell a = some v
  born : ∀ id, V.born id → V'.born id
  rho : ∀ id, V.born id → V'.rho id = V.rho id
  tok : ∀ id t', V.born id → V'.tok id = some t' → ∃ t, V.tok id = some t ∧ (t' = t ∨ t.n < t'.n)
theorem View.le.refl (V : View) : V.le V := ⟨fun _ _ h => h, fun _ h => h, fun _ _ => rfl, fun _ t' _ h => ⟨t', h, .inl rfl⟩⟩
theorem View.le.trans {A B C : View} (h : A.le B) (k : B.le C) : A.le C :=
  ⟨fun a v x => k.cell a v (h.cell a v x), fun id x => k.born id (h.born id x),
   fun id x => (k.rho id (h.born id x)).trans (h.rho id x),
   fun id t' hb ht => by
    obtain ⟨t, h1, h2⟩ := k.tok id t' (h.born id hb) ht
    obtain ⟨t0, h3, h4⟩ := h.tok id t hb h1
    refine ⟨t0, h3, ?_⟩
    rcases h2 with rfl | h2
    · exact h4
    · rcases h4 with rfl | h4
      · exact .inr h2
      · exact .inr (by omega)⟩
theorem TailOk.mono {V V' : View} (h : V.le V') {tl a len cap} (ht : TailOk V tl a len cap) : TailOk V' tl a len cap := by
  cases tl with
  | none => trivial
  | full => exact ht
  | tok id =>
    obtain ⟨hb, ht⟩ := ht
    refine ⟨h.born id hb, fun t' e => ?_⟩
    obtain ⟨t, e', h'⟩ := h.tok id t' hb e
    have := ht t e'
    rcases h' with rfl | h'
    · exact this
    · exact ⟨by omega, fun q => by omega⟩
theorem VRel.mono {V V' : View} (h : V.le V') {v : Value} {p : PV} (r : VRel V v p) : VRel V' v p := by
  induction r with
  | bool b => exact .bool b
  | int k n => exact .int k n
  | str s => exact .str s
  | nilp => exact .nilp
  | optr id off hb => rw [← h.rho id hb]; exact .optr id off (h.born id hb)
  | iptr a cs vs hc _ ih => exact .iptr a cs vs (fun j hj => h.cell _ _ (hc j hj)) ih
  | nils tl ht => exact .nils tl (ht.mono h)
  | slice a len cap sz es tl vs hlen hcap hmax hsz hc _ ht ih =>
    exact .slice a len cap sz es tl vs hlen hcap hmax hsz (fun i j hi hj => h.cell _ _ (hc i j hi hj)) ih (ht.mono h)
  | msl id off n c hb hm => rw [← h.rho id hb]; exact .msl id off n c (h.born id hb) hm
  | fn f first caps pf pc hf hc _ _ ih1 ih2 => exact .fn f first caps pf pc hf hc ih1 ih2
  | nilfn => exact .nilfn
  | agg arr cs hl _ ih => exact .agg arr cs hl ih
  | tup arr cs hl _ ih => exact .tup arr cs hl ih
  | mapp id hb => rw [← h.rho id hb]; exact .mapp id (h.born id hb)
  | nilmap => exact .nilmap
  | nili => exact .nili
  | ifc t v => exact .ifc t v
  | junk v => exact .junk v
theorem VRel.drop0 {V : View} {v : Value} {p : PV} (r : VRel V v p) : VRel V v p.drop0 := by
  cases r with
  | nils tl ht => exact .nils .none trivial
  | slice a len cap sz es tl vs hlen hcap hmax hsz hc hr ht => exact .slice a len cap sz es .none vs hlen hcap hmax hsz hc hr trivial
  | bool b => exact .bool b
  | int k n => exact .int k n
  | str s => exact .str s
  | nilp => exact .nilp
  | optr id off hb => exact .optr id off hb
  | iptr a cs vs hc hr => exact .iptr a cs vs hc hr
  | msl id off n c hb hm => exact .msl id off n c hb hm
  | fn f first caps pf pc hf hc h1 h2 => exact .fn f first caps pf pc hf hc h1 h2
  | nilfn => exact .nilfn
  | agg arr cs hl hr => exact .agg arr cs hl hr
  | tup arr cs hl hr => exact .tup arr cs hl hr
  | mapp id hb => exact .mapp id hb
  | nilmap => exact .nilmap
  | nili => exact .nili
  | ifc t v => exact .ifc t v
  | junk v => exact .junk v
theorem VRel.drop1 {V : View} {v : Value} {p : PV} (r : VRel V v p) : VRel V v p.drop1 := by
  cases r with
  | nils tl ht => exact .nils .none trivial
  | slice a len cap sz es tl vs hlen hcap hmax hsz hc hr ht => exact .slice a len cap sz es .none vs hlen hcap hmax hsz hc hr trivial
  | bool b => exact .bool b
  | int k n => exact .int k n
  | str s => exact .str s
  | nilp => exact .nilp
  | optr id off hb => exact .optr id off hb
  | iptr a cs vs hc hr => exact .iptr a cs vs hc hr
  | msl id off n c hb hm => exact .msl id off n c hb hm
  | fn f first caps pf pc hf hc h1 h2 => exact .fn f first caps pf pc hf hc h1 h2
  | nilfn => exact .nilfn
  | agg arr cs hl hr => exact .agg arr _ (by simpa using hl) fun i h => by simp only [List.getElem_map]; exact (hr i (by simpa using h)).drop0
  | tup arr cs hl hr => exact .tup arr cs hl hr
  | mapp id hb => exact .mapp id hb
  | nilmap => exact .nilmap
  | nili => exact .nili
  | ifc t v => exact .ifc t v
  | junk v => exact .junk v
theorem VRel.cells {V : View} {v : Value} {p : PV} (r : VRel V v p) (hj : p ≠ .junk) :
    v.cells.size = p.cells.length ∧ ∀ i (h : i < p.cells.length), VRel V (v.cells.getD i undef) (p.cells[i]) := by
  cases r with
  | agg arr cs hl hr => exact ⟨hl, hr⟩
  | junk v => exact (hj rfl).elim
  | _ =>
    refine ⟨rfl, fun i h => ?_⟩
    simp only [PV.cells, List.length_singleton] at h
    obtain rfl : i = 0 := by omega
    simp only [PV.cells, Value.cells, List.getElem_cons_zero]
    first
      | exact .bool _ | exact .int _ _ | exact .str _ | exact .nilp | exact .optr _ _ ‹_› | exact .iptr _ _ _ ‹_› ‹_› | exact .nils _ ‹_›
      | exact .slice _ _ _ _ _ _ _ ‹_› ‹_› ‹_› ‹_› ‹_› ‹_› ‹_› | exact .msl _ _ _ _ ‹_› ‹_› | exact .fn _ _ _ _ _ ‹_› ‹_› ‹_› ‹_› | exact .nilfn
      | exact .tup _ _ ‹_› ‹_› | exact .mapp _ ‹_› | exact .nilmap | exact .nili | exact .ifc _ _
end Go.Abs
namespace Go.Abs
inductive OKind where
  | iter (s : List UInt8) (pos : Nat)
  | mapo (es : List (Int × PV))
  | miter (im n : Nat) (seen : List Nat)
  | mapg (es : List (Nat × (Int × Int × Int) × PV)) (clk : Nat)
  | mitg (im clk : Nat) (seen : List Nat)
def MRel (V : View) : List MapEntry → List (Int × PV) → Prop
  | [], [] => True
  | m :: ms, e :: es => m.key = .int .i64 e.1 ∧ VRel V m.val e.2 ∧ MRel V ms es
  | _, _ => False
def gkey (k : Int × Int × Int) : Value := .agg #[.int .i64 k.1, .int .i64 k.2.1, .int .i64 k.2.2]
def GRel (V : View) : List MapEntry → List (Nat × (Int × Int × Int) × PV) → Prop
  | [], [] => True
  | m :: ms, e :: es => m.born = e.1 ∧ m.key = gkey e.2.1 ∧ VRel V m.val e.2.2 ∧ GRel V ms es
  | _, _ => False
structure GOk (es : List (Nat × (Int × Int × Int) × PV)) (clk : Nat) : Prop where
  born : (es.map (·.1)).Pairwise (· < ·)
  lt : ∀ e ∈ es, e.1 < clk
  keys : (es.map (·.2.1)).Nodup
def OR (V : View) : OKind → Obj → Prop
  | .iter s pos, o => ∃ z : ByteArray, o = .stringIter z pos ∧ z.data.toList = s
  | .mapo es, o => ∃ (ms : List MapEntry) (clock : Nat), o = .map ms.toArray clock ∧ MRel V ms es ∧ clock = ms.length ∧ ms.map (·.born) = List.range ms.length ∧ (es.map (·.1)).Nodup
  | .miter im n seen, o => V.born im ∧ o = .mapIter (some (V.rho im)) n seen.toArray n
  | .mapg es clk, o => ∃ ms : List MapEntry, o = .map ms.toArray clk ∧ GRel V ms es ∧ GOk es clk
  | .mitg im clk seen, o => V.born im ∧ o = .mapIter (some (V.rho im)) clk seen.toArray clk
theorem MRel.imp {V V' : View} : ∀ {ms : List MapEntry} {es : List (Int × PV)}, (∀ v, ∀ e ∈ es, VRel V v e.2 → VRel V' v e.2) → MRel V ms es → MRel V' ms es
  | [], [], _, h => trivial
  | m :: ms, e :: es, hv, h => ⟨h.1, hv _ e (by simp) h.2.1, MRel.imp (fun v x hx => hv v x (by simp [hx])) h.2.2⟩
  | [], _ :: _, _, h => h.elim
  | _ :: _, [], _, h => h.elim
theorem GRel.imp {V V' : View} : ∀ {ms : List MapEntry} {es : List (Nat × (Int × Int × Int) × PV)}, (∀ v, ∀ e ∈ es, VRel V v e.2.2 → VRel V' v e.2.2) → GRel V ms es → GRel V' ms es
  | [], [], _, h => trivial
  | m :: ms, e :: es, hv, h => ⟨h.1, h.2.1, hv _ e (by simp) h.2.2.1, GRel.imp (fun v x hx => hv v x (by simp [hx])) h.2.2.2⟩
  | [], _ :: _, _, h => h.elim
  | _ :: _, [], _, h => h.elim
theorem OR.mono {V V' : View} (h : V.le V') {k : OKind} {o : Obj} (r : OR V k o) : OR V' k o := by
  cases k with
  | iter s pos => exact r
  | mapo es =>
    obtain ⟨ms, c, rfl, h1, h2⟩ := r
    exact ⟨ms, c, rfl, h1.imp fun v e _ hv => hv.mono h, h2⟩
  | miter im n seen => exact ⟨h.born im r.1, by rw [r.2, h.rho im r.1]⟩
  | mapg es c =>
    obtain ⟨ms, rfl, h1, h2⟩ := r
    exact ⟨ms, rfl, h1.imp fun v e _ hv => hv.mono h, h2⟩
  | mitg im n seen => exact ⟨h.born im r.1, by rw [r.2, h.rho im r.1]⟩
theorem OR.cells {V : View} {k : OKind} {arr : Array Value} {e : TypeId} {f : Nat × Nat} (r : OR V k (.cells arr e f)) : False := by
  cases k with
  | iter s pos => obtain ⟨z, h, _⟩ := r; cases h
  | mapo es => obtain ⟨a, c, h, _⟩ := r; cases h
  | miter im n seen => cases r.2
  | mapg es c => obtain ⟨a, h, _⟩ := r; cases h
  | mitg im n seen => cases r.2
inductive AObj where
  | unborn
  | row (cs : List PV)
  | buf (n sz : Nat)
  | glob (b : Nat) (vs : List Value)
  | obj (k : OKind)
inductive Kind where
  | fixed | mut | buf (pos cend : Nat)
def Kind.stable : Kind → Nat → Bool
  | .fixed, _ => true
  | .mut, _ => false
  | .buf pos _, o => decide (o < pos)
structure Env where
  w : World
  κ : Nat → Kind
  ρ : Nat → Nat
  tb : Nat → Option Nat
  H : List AObj
def isBorn (H : List AObj) (id : Nat) : Prop := ∃ o, H[id]? = some o ∧ o ≠ .unborn
def Env.view (E : Env) : View where
  cell a := if (E.κ a.block).stable a.off then E.w.cell? a else none
  born id := isBorn E.H id
  rho := E.ρ
  tok id := match E.H[id]? with
    | some (.buf n sz) => some ⟨n, sz, (E.tb id).bind fun b => match E.κ b with
      | .buf pos cend => some (b, pos, cend)
      | _ => none⟩
    | _ => none
def Env.ownsRow (E : Env) (b : Nat) : Prop := ∃ id cs, E.H[id]? = some (.row cs) ∧ E.ρ id = b
def Env.ownsBuf (E : Env) (b : Nat) : Prop := ∃ id n sz, E.H[id]? = some (.buf n sz) ∧ E.tb id = some b
def Env.ownsObj (E : Env) (b : Nat) : Prop := ∃ id k, E.H[id]? = some (.obj k) ∧ E.ρ id = b
def Env.owns (E : Env) (b : Nat) : Prop := E.ownsRow b ∨ E.ownsBuf b ∨ E.ownsObj b
structure Env.ObjsOk (E : Env) : Prop where
  at_ : ∀ id k, E.H[id]? = some (.obj k) → (∃ o, E.w.heap[E.ρ id]? = some o ∧ OR E.view k o) ∧ E.κ (E.ρ id) = .mut
  inj : ∀ id id' k k', E.H[id]? = some (.obj k) → E.H[id']? = some (.obj k') → E.ρ id = E.ρ id' → id = id'
theorem Env.ObjsOk.lt {E : Env} (h : E.ObjsOk) {id : Nat} {k : OKind} (hi : E.H[id]? = some (.obj k)) : E.ρ id < E.w.heap.size := by
  obtain ⟨⟨o, h1, _⟩, _⟩ := h.at_ id k hi
  rcases Nat.lt_or_ge (E.ρ id) E.w.heap.size with hl | hl
  · exact hl
  · rw [Array.getElem?_eq_none hl] at h1; cases h1
theorem Env.ObjsOk.of {E E' : Env} (h : E.ObjsOk) (hv : E.view.le E'.view) (hk : ∀ id k, E'.H[id]? = some (.obj k) → E.H[id]? = some (.obj k) ∧ E'.ρ id = E.ρ id ∧ E'.w.heap[E.ρ id]? = E.w.heap[E.ρ id]? ∧ E'.κ (E.ρ id) = E.κ (E.ρ id)) : E'.ObjsOk := by
  constructor
  · intro id k hi
    obtain ⟨h1, h2, h3, h4⟩ := hk id k hi
    obtain ⟨⟨o, a1, a2⟩, a3⟩ := h.at_ id k h1
    rw [h2, h3, h4]
    exact ⟨⟨o, a1, a2.mono hv⟩, a3⟩
  · intro id id' k k' h1 h2 e
    obtain ⟨a1, a2, _⟩ := hk id k h1
    obtain ⟨b1, b2, _⟩ := hk id' k' h2
    rw [a2, b2] at e
    exact h.inj id id' k k' a1 b1 e
theorem Env.ownsObj_of {E E' : Env} (hk : ∀ id k, E'.H[id]? = some (.obj k) → E.H[id]? = some (.obj k) ∧ E'.ρ id = E.ρ id) {b : Nat} (h : E'.ownsObj b) : E.ownsObj b := by
  obtain ⟨id, k, h1, h2⟩ := h
  obtain ⟨a1, a2⟩ := hk id k h1
  exact ⟨id, k, a1, a2.symm.trans h2⟩
structure Env.Ok (E : Env) : Prop where
  rows : ∀ id cs, E.H[id]? = some (.row cs) → ∃ arr elem, E.w.heap[E.ρ id]? = some (.cells arr elem (0, 0)) ∧ arr.size = cs.length ∧
    (∀ i (h : i < cs.length), VRel E.view (arr.getD i undef) cs[i]) ∧ E.κ (E.ρ id) = .mut
  bufs : ∀ id n sz b, E.H[id]? = some (.buf n sz) → E.tb id = some b → ∃ arr elem pos, E.w.heap[b]? = some (.cells arr elem (0, 0)) ∧ E.κ b = .buf pos arr.size
  injr : ∀ id id' cs cs', E.H[id]? = some (.row cs) → E.H[id']? = some (.row cs') → E.ρ id = E.ρ id' → id = id'
  injb : ∀ id id' n sz n' sz' b, E.H[id]? = some (.buf n sz) → E.H[id']? = some (.buf n' sz') → E.tb id = some b → E.tb id' = some b → id = id'
  globs : ∀ (id b : Nat) (vs : List Value), E.H[id]? = some (AObj.glob b vs) → ∀ i (h : i < vs.length), E.view.cell ⟨b, i, none⟩ = some vs[i]
  objs : E.ObjsOk
theorem Env.Ok.globs_of {E E' : Env} (ho : E.Ok) (hc : ∀ a v, E.view.cell a = some v → E'.view.cell a = some v) (h : ∀ (id b : Nat) (vs : List Value), E'.H[id]? = some (AObj.glob b vs) → E.H[id]? = some (.glob b vs)) :
    ∀ (id b : Nat) (vs : List Value), E'.H[id]? = some (AObj.glob b vs) → ∀ i (h : i < vs.length), E'.view.cell ⟨b, i, none⟩ = some vs[i] :=
  fun id b vs hi i hl => hc _ _ (ho.globs id b vs (h id b vs hi) i hl)
structure Env.le (E E' : Env) : Prop where
  os : E'.w.os = E.w.os
  tape : E'.w.tape = E.w.tape
  output : E'.w.output = E.w.output
  size : E.w.heap.size ≤ E'.w.heap.size
  other : ∀ b, b < E.w.heap.size → ¬ E.owns b → E'.κ b = E.κ b ∧ E'.w.heap[b]? = E.w.heap[b]?
  view : E.view.le E'.view
  born : ∀ b, b < E.w.heap.size → E'.owns b → E.owns b
theorem Env.le.refl (E : Env) : E.le E := ⟨rfl, rfl, rfl, Nat.le_refl _, fun _ _ _ => ⟨rfl, rfl⟩, .refl _, fun _ _ => id⟩
theorem Env.le.trans {A B C : Env} (h : A.le B) (k : B.le C) : A.le C :=
  ⟨k.os.trans h.os, k.tape.trans h.tape, k.output.trans h.output, Nat.le_trans h.size k.size,
   fun b hb h1 => by
    obtain ⟨e1, e2⟩ := h.other b hb h1
    obtain ⟨e3, e4⟩ := k.other b (Nat.lt_of_lt_of_le hb h.size) (fun x => h1 (h.born b hb x))
    exact ⟨e3.trans e1, e4.trans e2⟩,
   h.view.trans k.view,
   fun b hb x => h.born b hb (k.born b (Nat.lt_of_lt_of_le hb h.size) x)⟩
structure TRel (V : View) (N : Nat) (a : Act) (T : Nat → PV) : Prop where
  size : a.tmps.size = N
  defers : a.defers = []
  rel : ∀ i, i < N → VRel V (a.tmps.getD i undef) (T i)
def upd (T : Nat → PV) (d : Nat) (v : PV) : Nat → PV := fun i => if i = d then v else T i
def updO (T : Nat → PV) (d : Option Nat) (v : PV) : Nat → PV := match d with | some d => upd T d v | none => T
theorem TRel.mono {V V' : View} {N : Nat} {a : Act} {T : Nat → PV} (h : V.le V') (r : TRel V N a T) : TRel V' N a T :=
  ⟨r.size, r.defers, fun i hi => (r.rel i hi).mono h⟩
theorem TRel.put {V : View} {N : Nat} {a : Act} {T : Nat → PV} (r : TRel V N a T) (d : Option Nat) {v : Value} {p : PV} (hv : VRel V v p) :
    TRel V N (a.put d v) (updO T d p) := by
  cases d with
  | none => exact r
  | some d =>
    refine ⟨by simp [Act.put, r.size], r.defers, fun i hi => ?_⟩
    simp only [Act.put, updO, upd]
    by_cases h : i = d
    · subst h
      rw [if_pos rfl]
      rw [Array.getD_eq_getD_getElem?, Array.getElem?_setIfInBounds_self_of_lt (by rw [r.size]; exact hi)]
      exact hv
    · rw [if_neg h]
      have := r.rel i hi
      rw [Array.getD_eq_getD_getElem?] at this ⊢
      rw [Array.getElem?_setIfInBounds_ne (by omega)]
      exact this
def ofConst : Value → PV
  | .bool b => .bool b
  | .int k n => .int k n
  | .string s => .str s.data.toList
  | .pointer none => .nilp
  | .slice none 0 0 => .slice [] .full
  | .nilFunc => .nilfn
  | .map none => .nilmap
  | .nilIface => .ifc none
  | .agg cs => .agg (cs.toList.map fun
    | .bool b => .bool b
    | .int k n => .int k n
    | .string s => .str s.data.toList
    | .pointer none => .nilp
    | .slice none 0 0 => .slice [] .full
    | .nilFunc => .nilfn
    | .map none => .nilmap
    | _ => .junk)
  | _ => .junk
theorem vrel_ofConst (V : View) (v : Value) : VRel V v (ofConst v) := by
  unfold ofConst
  split
  · exact .bool _
  · exact .int _ _
  · exact .str _
  · exact .nilp
  · exact .nils _ rfl
  · exact .nilfn
  · exact .nilmap
  · exact .nili
  · rename_i cs
    refine .agg _ _ (by simp) fun i h => ?_
    simp only [List.length_map, Array.length_toList] at h
    simp only [List.getElem_map, Array.getElem_toList]
    rw [Array.getD_eq_getD_getElem?, Array.getElem?_eq_getElem h, Option.getD_some]
    generalize cs[i] = c
    split
    · exact .bool _
    · exact .int _ _
    · exact .str _
    · exact .nilp
    · exact .nils _ rfl
    · exact .nilfn
    · exact .nilmap
    · exact .junk _
  · exact .junk _
def aev (T : Nat → PV) : Operand → PV
  | .tmp t => T t
  | .const v => ofConst v
  | .global _ => .junk
  | .func f => .fn (.func f) [] []
def okOpnd (N : Nat) : Operand → Bool
  | .tmp t => decide (t < N)
  | _ => true
theorem vrel_eval {V : View} {N : Nat} {a : Act} {T : Nat → PV} (r : TRel V N a T) (x : Operand) (hx : okOpnd N x = true) : VRel V (a.eval x) (aev T x) := by
  cases x with
  | tmp t => exact r.rel t (of_decide_eq_true hx)
  | const v => exact vrel_ofConst V v
  | global g => exact .junk _
  | func f => exact .fn _ _ _ _ _ rfl rfl (fun i h => absurd h (by simp)) (fun i h => absurd h (by simp))
theorem add_add (a : Addr) (m n : Nat) : (a.add m).add n = a.add (m + n) := by
  unfold Addr.add
  by_cases hm : m = 0
  · subst hm; simp
  · by_cases hn : n = 0
    · subst hn; simp
    · have : m + n ≠ 0 := by omega
      simp only [if_neg hm, if_neg hn, if_neg this, Nat.add_assoc]
theorem add_zero' (a : Addr) : a.add 0 = a := by simp [Addr.add]
theorem add_plain (b o n : Nat) : (⟨b, o, none⟩ : Addr).add n = ⟨b, o + n, none⟩ := by
  unfold Addr.add
  by_cases hn : n = 0
  · subst hn; simp
  · simp [hn]
theorem Env.cell_stable {E : Env} {a : Addr} {v : Value} (h : E.view.cell a = some v) : E.w.cell? a = some v := by
  simp only [Env.view] at h
  split at h
  · exact h
  · cases h
theorem Env.cell_of {E : Env} {a : Addr} {v : Value} (hs : (E.κ a.block).stable a.off = true) (h : E.w.cell? a = some v) : E.view.cell a = some v := by
  simp only [Env.view, hs, if_true, h]
theorem cell?_lt {w : World} {a : Addr} {v : Value} (h : w.cell? a = some v) : a.block < w.heap.size := by
  unfold World.cell? at h
  rcases Nat.lt_or_ge a.block w.heap.size with hl | hl
  · exact hl
  · rw [Array.getElem?_eq_none hl] at h; cases h
end Go.Abs
namespace Go.Abs
theorem heap_alloc (w : World) (o : Obj) (b : Nat) (h : b < w.heap.size) : (w.alloc o).heap[b]? = w.heap[b]? := Go.RowKit.Below.heap_alloc w o b h
theorem heap_alloc_new (w : World) (o : Obj) : (w.alloc o).heap[w.heap.size]? = some o := by
  show (w.heap.push o)[w.heap.size]? = _
  simp
theorem cell?_congr {w w' : World} {a : Addr} (h : w'.heap[a.block]? = w.heap[a.block]?) : w'.cell? a = w.cell? a := by
  unfold World.cell?; rw [h]
theorem isBorn_append {H : List AObj} {id : Nat} : isBorn (H ++ [.unborn]) id ↔ isBorn H id := by
  unfold isBorn
  constructor
  · rintro ⟨o, h, ho⟩
    by_cases hl : id < H.length
    · rw [List.getElem?_append_left hl] at h; exact ⟨o, h, ho⟩
    · rw [List.getElem?_append_right (by omega)] at h
      rw [List.getElem?_singleton] at h
      split at h
      · cases h; exact (ho rfl).elim
      · cases h
  · rintro ⟨o, h, ho⟩
    have hl : id < H.length := by
      rcases Nat.lt_or_ge id H.length with hl | hl
      · exact hl
      · rw [List.getElem?_eq_none hl] at h; cases h
    exact ⟨o, by rw [List.getElem?_append_left hl]; exact h, ho⟩
theorem get_append_unborn {H : List AObj} {id : Nat} {o : AObj} (ho : o ≠ .unborn) : (H ++ [.unborn])[id]? = some o ↔ H[id]? = some o := by
  constructor
  · intro h
    by_cases hl : id < H.length
    · rwa [List.getElem?_append_left hl] at h
    · rw [List.getElem?_append_right (by omega)] at h
      rw [List.getElem?_singleton] at h
      split at h
      · cases h; exact (ho rfl).elim
      · cases h
  · intro h
    have hl : id < H.length := by
      rcases Nat.lt_or_ge id H.length with hl | hl
      · exact hl
      · rw [List.getElem?_eq_none hl] at h; cases h
    rw [List.getElem?_append_left hl]; exact h
def Env.ext (E : Env) : Env := { E with H := E.H ++ [.unborn] }
theorem Env.ext_view_le (E : Env) : E.view.le E.ext.view := by
  refine ⟨fun a v h => h, fun id h => isBorn_append.2 h, fun _ _ => rfl, fun id t' hb h => ⟨t', ?_, .inl rfl⟩⟩
  obtain ⟨o, h1, h2⟩ := hb
  have e : (E.H ++ [.unborn])[id]? = E.H[id]? := by
    rw [h1]; exact (get_append_unborn h2).2 h1
  simp only [Env.view, Env.ext, e] at h ⊢
  exact h
theorem Env.ext_le (E : Env) : E.le E.ext := by
  refine ⟨rfl, rfl, rfl, Nat.le_refl _, fun _ _ _ => ⟨rfl, rfl⟩, E.ext_view_le, fun b _ => Or.imp ?_ (Or.imp ?_ (Env.ownsObj_of (E := E) (E' := E.ext) fun id k h => ⟨(get_append_unborn (by simp)).1 h, rfl⟩))⟩
  · rintro ⟨id, cs, h, e⟩; exact ⟨id, cs, (get_append_unborn (by simp)).1 h, e⟩
  · rintro ⟨id, n, sz, h, e⟩; exact ⟨id, n, sz, (get_append_unborn (by simp)).1 h, e⟩
theorem Env.Ok.ext {E : Env} (h : E.Ok) : E.ext.Ok := by
  refine ⟨?_, ?_, ?_, ?_, h.globs_of E.ext_view_le.cell fun id b vs hi => (get_append_unborn (by simp)).1 hi, h.objs.of E.ext_view_le fun id k hi => ⟨(get_append_unborn (by simp)).1 hi, rfl, rfl, rfl⟩⟩
  · intro id cs hi
    obtain ⟨arr, elem, h1, h2, h3, h4⟩ := h.rows id cs ((get_append_unborn (by simp)).1 hi)
    exact ⟨arr, elem, h1, h2, fun i hl => (h3 i hl).mono E.ext_view_le, h4⟩
  · intro id n sz b hi hb
    exact h.bufs id n sz b ((get_append_unborn (by simp)).1 hi) hb
  · intro id id' cs cs' h1 h2 e
    exact h.injr id id' cs cs' ((get_append_unborn (by simp)).1 h1) ((get_append_unborn (by simp)).1 h2) e
  · intro id id' n sz n' sz' b h1 h2 e e'
    exact h.injb id id' n sz n' sz' b ((get_append_unborn (by simp)).1 h1) ((get_append_unborn (by simp)).1 h2) e e'
theorem Env.Ok.rowBlock {E : Env} (h : E.Ok) {id cs} (hi : E.H[id]? = some (.row cs)) : E.ρ id < E.w.heap.size := by
  obtain ⟨arr, elem, h1, _⟩ := h.rows id cs hi
  rcases Nat.lt_or_ge (E.ρ id) E.w.heap.size with hl | hl
  · exact hl
  · rw [Array.getElem?_eq_none hl] at h1; cases h1
theorem Env.Ok.bufBlock {E : Env} (h : E.Ok) {id n sz b} (hi : E.H[id]? = some (.buf n sz)) (hb : E.tb id = some b) : b < E.w.heap.size := by
  obtain ⟨arr, elem, pos, h1, _⟩ := h.bufs id n sz b hi hb
  rcases Nat.lt_or_ge b E.w.heap.size with hl | hl
  · exact hl
  · rw [Array.getElem?_eq_none hl] at h1; cases h1
def Env.drew (E : Env) : Env := { E with w := E.w.drew }
theorem Env.drew_le (E : Env) : E.le E.drew := ⟨rfl, rfl, rfl, Nat.le_refl _, fun _ _ _ => ⟨rfl, rfl⟩, .refl _, fun _ _ => id⟩
theorem Env.Ok.drew {E : Env} (h : E.Ok) : E.drew.Ok := ⟨h.rows, h.bufs, h.injr, h.injb, h.globs, ⟨h.objs.at_, h.objs.inj⟩⟩
def Env.newFixed (E : Env) (o : Obj) : Env :=
  { E with w := E.w.alloc o, κ := fun b => if b = E.w.heap.size then .fixed else E.κ b }
theorem Env.newFixed_view {E : Env} (h : E.Ok) (o : Obj) : E.view.le (E.newFixed o).view := by
  refine ⟨fun a v hc => ?_, fun id hb => hb, fun _ _ => rfl, fun id t' hb ht => ⟨t', ?_, .inl rfl⟩⟩
  · have hw := Env.cell_stable hc
    have hl := cell?_lt hw
    simp only [Env.view] at hc ⊢
    split at hc
    · rename_i hs
      have hne : a.block ≠ E.w.heap.size := by omega
      simp only [Env.newFixed, if_neg hne, hs, if_true]
      rw [cell?_congr (heap_alloc _ _ _ hl)]; exact hc
    · cases hc
  · simp only [Env.view, Env.newFixed] at ht ⊢
    split at ht
    · rename_i n sz hi
      rw [← ht]
      cases htb : E.tb id with
      | none => rfl
      | some b =>
        have := h.bufBlock hi htb
        have hne : b ≠ E.w.heap.size := by omega
        simp only [Option.bind_some, if_neg hne]
    · cases ht
theorem Env.newFixed_le {E : Env} (h : E.Ok) (o : Obj) : E.le (E.newFixed o) := by
  refine ⟨rfl, rfl, rfl, by simp [Env.newFixed], fun b hb _ => ⟨?_, heap_alloc _ _ _ hb⟩, E.newFixed_view h o, fun b hb => id⟩
  have hne : b ≠ E.w.heap.size := by omega
  simp only [Env.newFixed, if_neg hne]
theorem Env.Ok.newFixed {E : Env} (h : E.Ok) (o : Obj) : (E.newFixed o).Ok := by
  refine ⟨?_, ?_, h.injr, h.injb, h.globs_of (E.newFixed_view h o).cell fun _ _ _ hi => hi, h.objs.of (E.newFixed_view h o) fun id k hi => ⟨hi, rfl, heap_alloc _ _ _ (h.objs.lt hi), by simp only [Env.newFixed, if_neg (Nat.ne_of_lt (h.objs.lt hi))]⟩⟩
  · intro id cs hi
    have hl := h.rowBlock hi
    obtain ⟨arr, elem, h1, h2, h3, h4⟩ := h.rows id cs hi
    have hne : E.ρ id ≠ E.w.heap.size := by omega
    exact ⟨arr, elem, by rw [← h1]; exact heap_alloc _ _ _ hl, h2, fun i hl => (h3 i hl).mono (E.newFixed_view h o), by simp only [Env.newFixed, if_neg hne]; exact h4⟩
  · intro id n sz b hi hb
    have hl := h.bufBlock hi hb
    obtain ⟨arr, elem, pos, h1, h2⟩ := h.bufs id n sz b hi hb
    have hne : b ≠ E.w.heap.size := by omega
    exact ⟨arr, elem, pos, by rw [← h1]; exact heap_alloc _ _ _ hl, by simp only [Env.newFixed, if_neg hne]; exact h2⟩
theorem get_set {H : List AObj} {id id' : Nat} {o : AObj} (hl : id < H.length) : (H.set id o)[id']? = if id' = id then some o else H[id']? := by
  by_cases h : id' = id
  · subst h; rw [if_pos rfl, List.getElem?_set_self hl]
  · rw [if_neg h, List.getElem?_set_ne (fun e => h e.symm)]
def Env.newRow (E : Env) (id : Nat) (arr : Array Value) (elem : TypeId) (cs : List PV) : Env :=
  { w := E.w.alloc (.cells arr elem), κ := fun b => if b = E.w.heap.size then .mut else E.κ b, ρ := fun i => if i = id then E.w.heap.size else E.ρ i, tb := E.tb, H := E.H.set id (.row cs) }
section newRow
variable {E : Env} (h : E.Ok) {id : Nat} (hi : E.H[id]? = some .unborn) (arr : Array Value) (elem : TypeId) (cs : List PV)
include h hi
theorem Env.newRow_view : E.view.le (E.newRow id arr elem cs).view := by
  have hlen : id < E.H.length := by
    rcases Nat.lt_or_ge id E.H.length with hl | hl
    · exact hl
    · rw [List.getElem?_eq_none hl] at hi; cases hi
  have hne : ∀ x, isBorn E.H x → x ≠ id := by rintro x ⟨o, h1, h2⟩ rfl; rw [hi] at h1; cases h1; exact h2 rfl
  refine ⟨fun a v hc => ?_, fun x hb => ?_, fun x hb => ?_, fun x t' hb ht => ⟨t', ?_, .inl rfl⟩⟩
  · have hl := cell?_lt (Env.cell_stable hc)
    simp only [Env.view] at hc ⊢
    split at hc
    · rename_i hs
      have hne : a.block ≠ E.w.heap.size := by omega
      simp only [Env.newRow, if_neg hne, hs, if_true]
      rw [cell?_congr (heap_alloc _ _ _ hl)]; exact hc
    · cases hc
  · have := hne x hb
    obtain ⟨o, h1, h2⟩ := hb
    exact ⟨o, by simp only [Env.newRow, get_set hlen, if_neg this]; exact h1, h2⟩
  · simp only [Env.view, Env.newRow, if_neg (hne x hb)]
  · have := hne x hb
    simp only [Env.view, Env.newRow, get_set hlen, if_neg this] at ht ⊢
    split at ht
    · rename_i n sz hx
      rw [← ht]
      cases htb : E.tb x with
      | none => rfl
      | some b =>
        have := h.bufBlock hx htb
        have hne : b ≠ E.w.heap.size := by omega
        simp only [Option.bind_some, if_neg hne]
    · cases ht
theorem Env.newRow_le : E.le (E.newRow id arr elem cs) := by
  have hlen : id < E.H.length := by
    rcases Nat.lt_or_ge id E.H.length with hl | hl
    · exact hl
    · rw [List.getElem?_eq_none hl] at hi; cases hi
  refine ⟨rfl, rfl, rfl, by simp [Env.newRow], fun b hb _ => ⟨?_, heap_alloc _ _ _ hb⟩, Env.newRow_view h hi arr elem cs, fun b hb => Or.imp ?_ (Or.imp ?_ (Env.ownsObj_of fun x k hx => ?_))⟩
  · have hne : b ≠ E.w.heap.size := by omega
    simp only [Env.newRow, if_neg hne]
  · rintro ⟨x, cs', h1, h2⟩
    simp only [Env.newRow, get_set hlen] at h1 h2
    split at h1
    · rename_i e; rw [if_pos e] at h2; omega
    · rename_i e; rw [if_neg e] at h2; exact ⟨x, cs', h1, h2⟩
  · rintro ⟨x, n, sz, h1, h2⟩
    simp only [Env.newRow, get_set hlen] at h1 h2
    split at h1
    · cases h1
    · exact ⟨x, n, sz, h1, h2⟩
  · simp only [Env.newRow, get_set hlen] at hx ⊢
    split at hx
    · cases hx
    · rename_i e; exact ⟨hx, by rw [if_neg e]⟩
theorem Env.Ok.newRow (hs : arr.size = cs.length) (hr : ∀ i (hl : i < cs.length), VRel E.view (arr.getD i undef) cs[i]) : (E.newRow id arr elem cs).Ok := by
  have hlen : id < E.H.length := by
    rcases Nat.lt_or_ge id E.H.length with hl | hl
    · exact hl
    · rw [List.getElem?_eq_none hl] at hi; cases hi
  have hv := Env.newRow_view h hi arr elem cs
  refine ⟨?_, ?_, ?_, ?_, h.globs_of hv.cell (by intro x b vs hx; simp only [Env.newRow, get_set hlen] at hx; split at hx <;> first | exact hx | cases hx), h.objs.of hv fun x k hx => ?_⟩
  rotate_left 4
  · simp only [Env.newRow, get_set hlen] at hx ⊢
    split at hx
    · cases hx
    · rename_i e
      have hl := h.objs.lt hx
      exact ⟨hx, by rw [if_neg e], heap_alloc _ _ _ hl, by rw [if_neg (Nat.ne_of_lt hl)]⟩
  · intro x cs' hx
    simp only [Env.newRow, get_set hlen] at hx
    split at hx
    · rename_i e
      cases hx
      refine ⟨arr, elem, ?_, hs, fun i hl => (hr i hl).mono hv, ?_⟩
      · simp only [Env.newRow, if_pos e]; exact heap_alloc_new _ _
      · simp only [Env.newRow, if_pos e, if_true]
    · rename_i e
      have hl := h.rowBlock hx
      obtain ⟨arr', elem', h1, h2, h3, h4⟩ := h.rows x cs' hx
      have hne : E.ρ x ≠ E.w.heap.size := by omega
      refine ⟨arr', elem', ?_, h2, fun i hl => (h3 i hl).mono hv, ?_⟩
      · simp only [Env.newRow, if_neg e]; rw [← h1]; exact heap_alloc _ _ _ hl
      · simp only [Env.newRow, if_neg e, if_neg hne]; exact h4
  · intro x n sz b hx hb
    simp only [Env.newRow, get_set hlen] at hx hb
    split at hx
    · cases hx
    · have hl := h.bufBlock hx hb
      obtain ⟨arr', elem', pos, h1, h2⟩ := h.bufs x n sz b hx hb
      have hne : b ≠ E.w.heap.size := by omega
      exact ⟨arr', elem', pos, by rw [← h1]; exact heap_alloc _ _ _ hl, by simp only [Env.newRow, if_neg hne]; exact h2⟩
  · intro x x' c c' h1 h2 e
    simp only [Env.newRow, get_set hlen] at h1 h2 e
    split at h1 <;> split at h2
    · omega
    · rename_i a b
      rw [if_pos a, if_neg b] at e
      have := h.rowBlock h2; omega
    · rename_i a b
      rw [if_neg a, if_pos b] at e
      have := h.rowBlock h1; omega
    · rename_i a b
      rw [if_neg a, if_neg b] at e
      exact h.injr x x' c c' h1 h2 e
  · intro x x' n sz n' sz' b h1 h2 e e'
    simp only [Env.newRow, get_set hlen] at h1 h2 e e'
    split at h1 <;> split at h2
    · cases h1
    · cases h1
    · cases h2
    · exact h.injb x x' n sz n' sz' b h1 h2 e e'
end newRow
def Env.setRow (E : Env) (id off : Nat) (v : Value) (cs : List PV) (p : PV) : Env :=
  { E with w := E.w.setCell ⟨E.ρ id, off, none⟩ v, H := E.H.set id (.row (cs.set off p)) }
theorem heap_setCell_ne (w : World) (a : Addr) (u : Value) (k : Nat) (h : k ≠ a.block) : (w.setCell a u).heap[k]? = w.heap[k]? :=
  Go.RowKit.Below.heap_setCell w a u k h
theorem heap_setCell_eq {w : World} {b o : Nat} {u : Value} {arr elem fr} (h : w.heap[b]? = some (.cells arr elem fr)) :
    (w.setCell ⟨b, o, none⟩ u).heap[b]? = some (.cells (arr.setIfInBounds o u) elem fr) := by
  simp only [World.setCell, Array.getElem?_modify, if_true, h, Option.map_some]
  rfl
section setRow
variable {E : Env} (h : E.Ok) {id : Nat} {cs : List PV} (hi : E.H[id]? = some (.row cs)) (off : Nat) {v : Value} {p : PV}
include h hi
theorem Env.setRow_view : E.view.le (E.setRow id off v cs p).view := by
  have hlen : id < E.H.length := by
    rcases Nat.lt_or_ge id E.H.length with hl | hl
    · exact hl
    · rw [List.getElem?_eq_none hl] at hi; cases hi
  obtain ⟨arr, elem, h1, h2, h3, h4⟩ := h.rows id cs hi
  refine ⟨fun a u hc => ?_, fun x hb => ?_, fun x hb => rfl, fun x t' hb ht => ⟨t', ?_, .inl rfl⟩⟩
  · simp only [Env.view] at hc ⊢
    split at hc
    · rename_i hs
      have hne : a.block ≠ E.ρ id := by intro e; rw [e, h4] at hs; simp [Kind.stable] at hs
      simp only [Env.setRow, hs, if_true]
      rw [cell?_congr (heap_setCell_ne _ _ _ _ hne)]; exact hc
    · cases hc
  · obtain ⟨o, a1, a2⟩ := hb
    by_cases e : x = id
    · exact ⟨.row (cs.set off p), by simp only [Env.setRow, get_set hlen, if_pos e], by simp⟩
    · exact ⟨o, by simp only [Env.setRow, get_set hlen, if_neg e]; exact a1, a2⟩
  · by_cases e : x = id
    · simp only [Env.view, Env.setRow, get_set hlen, if_pos e] at ht; cases ht
    · simp only [Env.view, Env.setRow, get_set hlen, if_neg e] at ht ⊢; exact ht
theorem Env.setRow_le : E.le (E.setRow id off v cs p) := by
  have hlen : id < E.H.length := by
    rcases Nat.lt_or_ge id E.H.length with hl | hl
    · exact hl
    · rw [List.getElem?_eq_none hl] at hi; cases hi
  refine ⟨rfl, rfl, rfl, by simp [Env.setRow, World.setCell], fun b hb hn => ⟨rfl, ?_⟩, Env.setRow_view h hi off, fun b hb => Or.imp ?_ (Or.imp ?_ (Env.ownsObj_of fun x k hx => ?_))⟩
  · exact heap_setCell_ne _ _ _ _ (fun e => hn (.inl ⟨id, cs, hi, e.symm⟩))
  · rintro ⟨x, cs', a1, a2⟩
    simp only [Env.setRow, get_set hlen] at a1 a2
    split at a1
    · rename_i e; exact ⟨id, cs, hi, by rw [← e]; exact a2⟩
    · exact ⟨x, cs', a1, a2⟩
  · rintro ⟨x, n, sz, a1, a2⟩
    simp only [Env.setRow, get_set hlen] at a1 a2
    split at a1
    · cases a1
    · exact ⟨x, n, sz, a1, a2⟩
  · simp only [Env.setRow, get_set hlen] at hx
    split at hx
    · cases hx
    · exact ⟨hx, rfl⟩
theorem Env.Ok.setRow (hv : VRel E.view v p) : (E.setRow id off v cs p).Ok := by
  have hlen : id < E.H.length := by
    rcases Nat.lt_or_ge id E.H.length with hl | hl
    · exact hl
    · rw [List.getElem?_eq_none hl] at hi; cases hi
  have hle := Env.setRow_view h hi off (v := v) (p := p)
  obtain ⟨arr, elem, h1, h2, h3, h4⟩ := h.rows id cs hi
  refine ⟨?_, ?_, ?_, ?_, h.globs_of hle.cell (by intro x b vs hx; simp only [Env.setRow, get_set hlen] at hx; split at hx <;> first | exact hx | cases hx), h.objs.of hle fun x k hx => ?_⟩
  rotate_left 4
  · simp only [Env.setRow, get_set hlen] at hx
    split at hx
    · cases hx
    · refine ⟨hx, rfl, heap_setCell_ne _ _ _ _ fun e => ?_, rfl⟩
      obtain ⟨⟨o, b1, b2⟩, _⟩ := h.objs.at_ x k hx
      rw [show E.ρ x = E.ρ id from e, h1] at b1
      cases b1
      exact b2.cells
  · intro x cs' hx
    simp only [Env.setRow, get_set hlen] at hx
    split at hx
    · rename_i e
      cases hx
      subst e
      refine ⟨arr.setIfInBounds off v, elem, heap_setCell_eq h1, by simp [h2], fun i hl => ?_, h4⟩
      simp only [List.length_set] at hl
      rw [Array.getD_eq_getD_getElem?]
      by_cases e : off = i
      · subst e
        rw [Array.getElem?_setIfInBounds_self_of_lt (by omega)]
        simp only [Option.getD_some, List.getElem_set_self]
        exact hv.mono hle
      · rw [Array.getElem?_setIfInBounds_ne e, List.getElem_set_ne e, ← Array.getD_eq_getD_getElem?]
        exact (h3 i hl).mono hle
    · rename_i e
      obtain ⟨arr', elem', b1, b2, b3, b4⟩ := h.rows x cs' hx
      have hne : E.ρ x ≠ E.ρ id := fun q => e (h.injr x id cs' cs hx hi q)
      exact ⟨arr', elem', by rw [← b1]; exact heap_setCell_ne _ _ _ _ hne, b2, fun i hl => (b3 i hl).mono hle, b4⟩
  · intro x n sz b hx hb
    simp only [Env.setRow, get_set hlen] at hx hb
    split at hx
    · cases hx
    · obtain ⟨arr', elem', pos, b1, b2⟩ := h.bufs x n sz b hx hb
      have hne : b ≠ E.ρ id := by intro q; rw [q, h4] at b2; cases b2
      exact ⟨arr', elem', pos, by rw [← b1]; exact heap_setCell_ne _ _ _ _ hne, b2⟩
  · intro x x' c c' a1 a2 e
    simp only [Env.setRow, get_set hlen] at a1 a2 e
    have fix : ∀ y d, (if y = id then some (AObj.row (cs.set off p)) else E.H[y]?) = some (.row d) → ∃ d', E.H[y]? = some (.row d') := by
      intro y d q
      split at q
      · rename_i e; subst e; exact ⟨cs, hi⟩
      · exact ⟨d, q⟩
    obtain ⟨d, hd⟩ := fix _ _ a1
    obtain ⟨d', hd'⟩ := fix _ _ a2
    exact h.injr x x' d d' hd hd' e
  · intro x x' n sz n' sz' b a1 a2 e e'
    simp only [Env.setRow, get_set hlen] at a1 a2 e e'
    split at a1 <;> split at a2
    · cases a1
    · cases a1
    · cases a2
    · exact h.injb x x' n sz n' sz' b a1 a2 e e'
end setRow
end Go.Abs
namespace Go.Abs
def Env.newBuf (E : Env) (id n sz : Nat) (arr : Array Value) (elem : TypeId) (pos : Nat) : Env :=
  { w := E.w.alloc (.cells arr elem), κ := fun b => if b = E.w.heap.size then .buf pos arr.size else E.κ b, ρ := E.ρ,
    tb := fun i => if i = id then some E.w.heap.size else E.tb i, H := E.H.set id (.buf n sz) }
def Env.retok (E : Env) (id n sz : Nat) : Env :=
  { E with tb := fun i => if i = id then none else E.tb i, H := E.H.set id (.buf n sz) }
section newBuf
variable {E : Env} (h : E.Ok) {id n sz : Nat} (hi : E.H[id]? = some .unborn ∨ ∃ n0, E.H[id]? = some (.buf n0 sz) ∧ n0 < n) (arr : Array Value) (elem : TypeId) (pos : Nat)
include h hi
omit h in
theorem tok_len : id < E.H.length := by
  rcases Nat.lt_or_ge id E.H.length with hl | hl
  · exact hl
  · rw [List.getElem?_eq_none hl] at hi; rcases hi with hi | ⟨_, hi, _⟩ <;> cases hi
theorem Env.newBuf_view : E.view.le (E.newBuf id n sz arr elem pos).view := by
  have hlen := tok_len hi
  refine ⟨fun a v hc => ?_, fun x hb => ?_, fun x hb => rfl, fun x t' hb ht => ?_⟩
  · have hl := cell?_lt (Env.cell_stable hc)
    simp only [Env.view] at hc ⊢
    split at hc
    · rename_i hs
      have hne : a.block ≠ E.w.heap.size := by omega
      simp only [Env.newBuf, if_neg hne, hs, if_true]
      rw [cell?_congr (heap_alloc _ _ _ hl)]; exact hc
    · cases hc
  · obtain ⟨o, h1, h2⟩ := hb
    by_cases e : x = id
    · exact ⟨.buf n sz, by simp only [Env.newBuf, get_set hlen, if_pos e], by simp⟩
    · exact ⟨o, by simp only [Env.newBuf, get_set hlen, if_neg e]; exact h1, h2⟩
  · by_cases e : x = id
    · subst e
      rcases hi with hu | ⟨n0, hu, hn⟩
      · obtain ⟨o, h1, h2⟩ := hb
        rw [hu] at h1; cases h1; exact (h2 rfl).elim
      · refine ⟨_, by simp only [Env.view, hu]; rfl, .inr ?_⟩
        simp only [Env.view, Env.newBuf, get_set hlen, if_true] at ht
        cases ht
        exact hn
    · refine ⟨t', ?_, .inl rfl⟩
      simp only [Env.view, Env.newBuf, get_set hlen, if_neg e] at ht ⊢
      split at ht
      · rename_i n' sz' hx
        rw [← ht]
        cases htb : E.tb x with
        | none => rfl
        | some b =>
          have := h.bufBlock hx htb
          have hne : b ≠ E.w.heap.size := by omega
          simp only [Option.bind_some, if_neg hne]
      · cases ht
theorem Env.newBuf_le : E.le (E.newBuf id n sz arr elem pos) := by
  have hlen := tok_len hi
  refine ⟨rfl, rfl, rfl, by simp [Env.newBuf], fun b hb _ => ⟨?_, heap_alloc _ _ _ hb⟩, Env.newBuf_view h hi arr elem pos, fun b hb => Or.imp ?_ (Or.imp ?_ (Env.ownsObj_of fun x k hx => ?_))⟩
  · have hne : b ≠ E.w.heap.size := by omega
    simp only [Env.newBuf, if_neg hne]
  · rintro ⟨x, cs', h1, h2⟩
    simp only [Env.newBuf, get_set hlen] at h1 h2
    split at h1
    · cases h1
    · exact ⟨x, cs', h1, h2⟩
  · rintro ⟨x, m, s, h1, h2⟩
    simp only [Env.newBuf, get_set hlen] at h1 h2
    split at h1
    · rename_i e; rw [if_pos e] at h2; cases h2; omega
    · rename_i e; rw [if_neg e] at h2; exact ⟨x, m, s, h1, h2⟩
  · simp only [Env.newBuf, get_set hlen] at hx
    split at hx
    · cases hx
    · exact ⟨hx, rfl⟩
theorem Env.Ok.newBuf : (E.newBuf id n sz arr elem pos).Ok := by
  have hlen := tok_len hi
  have hv := Env.newBuf_view h hi arr elem pos
  refine ⟨?_, ?_, ?_, ?_, h.globs_of hv.cell (by intro x b vs hx; simp only [Env.newBuf, get_set hlen] at hx; split at hx <;> first | exact hx | cases hx), h.objs.of hv fun x k hx => ?_⟩
  rotate_left 4
  · simp only [Env.newBuf, get_set hlen] at hx
    split at hx
    · cases hx
    · have hl := h.objs.lt hx
      exact ⟨hx, rfl, heap_alloc _ _ _ hl, by simp only [Env.newBuf, if_neg (Nat.ne_of_lt hl)]⟩
  · intro x cs' hx
    simp only [Env.newBuf, get_set hlen] at hx
    split at hx
    · cases hx
    · have hl := h.rowBlock hx
      obtain ⟨arr', elem', h1, h2, h3, h4⟩ := h.rows x cs' hx
      have hne : E.ρ x ≠ E.w.heap.size := by omega
      refine ⟨arr', elem', ?_, h2, fun i hl => (h3 i hl).mono hv, ?_⟩
      · rw [← h1]; exact heap_alloc _ _ _ hl
      · simp only [Env.newBuf, if_neg hne]; exact h4
  · intro x m s b hx hb
    simp only [Env.newBuf, get_set hlen] at hx hb
    split at hx
    · rename_i e
      rw [if_pos e] at hb; cases hb
      exact ⟨arr, elem, pos, heap_alloc_new _ _, by simp only [Env.newBuf, if_true]⟩
    · rename_i e
      rw [if_neg e] at hb
      have hl := h.bufBlock hx hb
      obtain ⟨arr', elem', pos, h1, h2⟩ := h.bufs x m s b hx hb
      have hne : b ≠ E.w.heap.size := by omega
      exact ⟨arr', elem', pos, by rw [← h1]; exact heap_alloc _ _ _ hl, by simp only [Env.newBuf, if_neg hne]; exact h2⟩
  · intro x x' c c' h1 h2 e
    simp only [Env.newBuf, get_set hlen] at h1 h2 e
    split at h1 <;> split at h2
    · cases h1
    · cases h1
    · cases h2
    · exact h.injr x x' c c' h1 h2 e
  · intro x x' n1 s1 n2 s2 b h1 h2 e e'
    simp only [Env.newBuf, get_set hlen] at h1 h2 e e'
    split at h1 <;> split at h2
    · omega
    · rename_i a b
      rw [if_pos a] at e; rw [if_neg b] at e'; cases e
      have := h.bufBlock h2 e'; omega
    · rename_i a b
      rw [if_neg a] at e; rw [if_pos b] at e'; cases e'
      have := h.bufBlock h1 e; omega
    · rename_i a b
      rw [if_neg a] at e; rw [if_neg b] at e'
      exact h.injb x x' _ _ _ _ _ h1 h2 e e'
end newBuf
section retok
variable {E : Env} (h : E.Ok) {id n sz : Nat} (hi : E.H[id]? = some .unborn)
include h hi
omit h in
theorem Env.retok_view : E.view.le (E.retok id n sz).view := by
  have hlen : id < E.H.length := tok_len (.inl hi) (n := n) (sz := sz)
  have hne : ∀ x, isBorn E.H x → x ≠ id := by rintro x ⟨o, h1, h2⟩ rfl; rw [hi] at h1; cases h1; exact h2 rfl
  refine ⟨fun a v hc => hc, fun x hb => ?_, fun x hb => rfl, fun x t' hb ht => ⟨t', ?_, .inl rfl⟩⟩
  · have := hne x hb
    obtain ⟨o, h1, h2⟩ := hb
    exact ⟨o, by simp only [Env.retok, get_set hlen, if_neg this]; exact h1, h2⟩
  · simp only [Env.view, Env.retok, get_set hlen, if_neg (hne x hb)] at ht ⊢; exact ht
omit h in
theorem Env.retok_le : E.le (E.retok id n sz) := by
  have hlen : id < E.H.length := tok_len (.inl hi) (n := n) (sz := sz)
  refine ⟨rfl, rfl, rfl, Nat.le_refl _, fun b hb _ => ⟨rfl, rfl⟩, Env.retok_view hi, fun b hb => Or.imp ?_ (Or.imp ?_ (Env.ownsObj_of fun x k hx => ?_))⟩
  · rintro ⟨x, cs', h1, h2⟩
    simp only [Env.retok, get_set hlen] at h1 h2
    split at h1
    · cases h1
    · exact ⟨x, cs', h1, h2⟩
  · rintro ⟨x, m, s, h1, h2⟩
    simp only [Env.retok, get_set hlen] at h1 h2
    split at h1
    · rename_i e; rw [if_pos e] at h2; cases h2
    · rename_i e; rw [if_neg e] at h2; exact ⟨x, m, s, h1, h2⟩
  · simp only [Env.retok, get_set hlen] at hx
    split at hx
    · cases hx
    · exact ⟨hx, rfl⟩
theorem Env.Ok.retok : (E.retok id n sz).Ok := by
  have hlen : id < E.H.length := tok_len (.inl hi) (n := n) (sz := sz)
  have hv := Env.retok_view hi (n := n) (sz := sz)
  refine ⟨?_, ?_, ?_, ?_, h.globs_of hv.cell (by intro x b vs hx; simp only [Env.retok, get_set hlen] at hx; split at hx <;> first | exact hx | cases hx), h.objs.of hv fun x k hx => ?_⟩
  rotate_left 4
  · simp only [Env.retok, get_set hlen] at hx
    split at hx
    · cases hx
    · exact ⟨hx, rfl, rfl, rfl⟩
  · intro x cs' hx
    simp only [Env.retok, get_set hlen] at hx
    split at hx
    · cases hx
    · obtain ⟨arr', elem', h1, h2, h3, h4⟩ := h.rows x cs' hx
      exact ⟨arr', elem', h1, h2, fun i hl => (h3 i hl).mono hv, h4⟩
  · intro x m s b hx hb
    simp only [Env.retok, get_set hlen] at hx hb
    split at hx
    · rename_i e
      rw [if_pos e] at hb; cases hb
    · rename_i e
      rw [if_neg e] at hb
      exact h.bufs x m s b hx hb
  · intro x x' c c' h1 h2 e
    simp only [Env.retok, get_set hlen] at h1 h2 e
    split at h1 <;> split at h2
    · cases h1
    · cases h1
    · cases h2
    · exact h.injr x x' c c' h1 h2 e
  · intro x x' n1 s1 n2 s2 b h1 h2 e e'
    simp only [Env.retok, get_set hlen] at h1 h2 e e'
    split at h1 <;> split at h2
    · omega
    · rename_i a _; rw [if_pos a] at e; cases e
    · rename_i _ a; rw [if_pos a] at e'; cases e'
    · rename_i a b
      rw [if_neg a] at e; rw [if_neg b] at e'
      exact h.injb x x' _ _ _ _ _ h1 h2 e e'
end retok
def setCells (w : World) (a : Addr) : List Value → Nat → World
  | [], _ => w
  | v :: vs, i => setCells (w.setCell (a.add i) v) a vs (i + 1)
theorem setCells_os (a : Addr) : ∀ (vs : List Value) (i : Nat) (w : World), (setCells w a vs i).os = w.os ∧ (setCells w a vs i).tape = w.tape ∧ (setCells w a vs i).output = w.output ∧ (setCells w a vs i).heap.size = w.heap.size
  | [], _, _ => ⟨rfl, rfl, rfl, rfl⟩
  | v :: vs, i, w => by
    obtain ⟨h1, h2, h3, h4⟩ := setCells_os a vs (i + 1) (w.setCell (a.add i) v)
    exact ⟨h1, h2, h3, by rw [setCells, h4]; simp [World.setCell]⟩
theorem add_block (a : Addr) (n : Nat) : (a.add n).block = a.block := by unfold Addr.add; split <;> rfl
theorem setCells_ne (a : Addr) (k : Nat) (hk : k ≠ a.block) : ∀ (vs : List Value) (i : Nat) (w : World), (setCells w a vs i).heap[k]? = w.heap[k]?
  | [], _, _ => rfl
  | v :: vs, i, w => by
    rw [setCells, setCells_ne a k hk vs (i + 1)]
    exact heap_setCell_ne _ _ _ _ (by rw [add_block]; exact hk)
theorem setCells_eq (b off : Nat) (elem : TypeId) (fr : Nat × Nat) : ∀ (vs : List Value) (i : Nat) (w : World) (arr : Array Value), w.heap[b]? = some (.cells arr elem fr) →
    ∃ arr', (setCells w ⟨b, off, none⟩ vs i).heap[b]? = some (.cells arr' elem fr) ∧ arr'.size = arr.size ∧
      ∀ o, o < arr.size → arr'[o]? = if off + i ≤ o ∧ o < off + i + vs.length then vs[o - (off + i)]? else arr[o]?
  | [], i, w, arr, h => ⟨arr, h, rfl, fun o ho => by rw [if_neg (by simp)]⟩
  | v :: vs, i, w, arr, h => by
    have h1 : (w.setCell ((⟨b, off, none⟩ : Addr).add i) v).heap[b]? = some (.cells (arr.setIfInBounds (off + i) v) elem fr) := by
      rw [add_plain]; exact heap_setCell_eq h
    obtain ⟨arr', h2, h3, h4⟩ := setCells_eq b off elem fr vs (i + 1) _ _ h1
    refine ⟨arr', h2, by simpa using h3, fun o ho => ?_⟩
    rw [h4 o (by simpa using ho)]
    by_cases e : o = off + i
    · subst e
      rw [if_neg (by omega), if_pos (by simp only [List.length_cons]; omega), Array.getElem?_setIfInBounds_self_of_lt ho]
      simp
    · by_cases c : off + (i + 1) ≤ o ∧ o < off + (i + 1) + vs.length
      · rw [if_pos c, if_pos (by simp only [List.length_cons]; omega)]
        rw [show o - (off + i) = (o - (off + (i + 1))) + 1 by omega, List.getElem?_cons_succ]
      · rw [if_neg c, if_neg (by simp only [List.length_cons]; omega), Array.getElem?_setIfInBounds_ne (fun q => e q.symm)]
def Value.isCell : Value → Bool
  | .agg _ | .tuple _ => false
  | _ => true
theorem run_store1 {P : Program} {w : World} {a : Addr} {v : Value} (hv : Value.isCell v = true) (hc : ∃ u, w.cell? a = some u) (hf : w.frozen? a = false) :
    (store a v).run P w = .ok () (w.setCell a v) := by
  obtain ⟨u, hu⟩ := hc
  cases v <;> first | (simp [Value.isCell] at hv; done) | simp [store, Sem.run, hu, hf]
theorem frozen_row {w : World} {a : Addr} {arr elem} (h : w.heap[a.block]? = some (.cells arr elem (0, 0))) : w.frozen? a = false := by
  unfold World.frozen?; rw [h]; simp
theorem cell_row {w : World} {b o : Nat} {arr elem fr} (h : w.heap[b]? = some (.cells arr elem fr)) : w.cell? ⟨b, o, none⟩ = arr[o]? := by
  unfold World.cell?; simp [h]
theorem run_storeCells {P : Program} (b off : Nat) (elem : TypeId) : ∀ (vs : List Value) (i : Nat) (w : World) (arr : Array Value), w.heap[b]? = some (.cells arr elem (0, 0)) →
    (∀ v ∈ vs, Value.isCell v = true) → off + i + vs.length ≤ arr.size → (storeCells ⟨b, off, none⟩ vs i).run P w = .ok () (setCells w ⟨b, off, none⟩ vs i)
  | [], i, w, arr, _, _, _ => rfl
  | v :: vs, i, w, arr, h, hv, hl => by
    simp only [List.length_cons] at hl
    have h1 : (w.setCell ((⟨b, off, none⟩ : Addr).add i) v).heap[b]? = some (.cells (arr.setIfInBounds (off + i) v) elem (0, 0)) := by
      rw [add_plain]; exact heap_setCell_eq h
    have hs : (store ((⟨b, off, none⟩ : Addr).add i) v).run P w = .ok () (w.setCell ((⟨b, off, none⟩ : Addr).add i) v) := by
      refine run_store1 (hv v (by simp)) ⟨arr[off + i], ?_⟩ ?_
      · rw [add_plain, cell_row h, Array.getElem?_eq_getElem]
      · rw [add_plain]; exact frozen_row h
    simp only [storeCells, Sem.run_bind, hs, Result.andThen_ok]
    exact run_storeCells b off elem vs (i + 1) _ _ h1 (fun u hu => hv u (by simp [hu])) (by simp; omega)
end Go.Abs
namespace Go.Abs
def isAggD : TypeDesc → Bool
  | .struct _ | .array _ _ => true
  | _ => false
structure TI where
  agg : Bool
  sz : Nat
  bytes : Nat
def tinfo (P : Program) (t : TypeId) : Option TI :=
  match P.underlying t, P.info? t with
  | some d, some i => some ⟨isAggD d, i.size, i.bytes⟩
  | _, _ => none
def tflds (P : Program) (t : TypeId) : Option (List (Nat × TI)) :=
  match P.underlying t with
  | some (.struct fs) => fs.toList.mapM fun f => (tinfo P f.type).map fun i => (f.offset, i)
  | _ => none
def telem (P : Program) (t : TypeId) : Option (TypeId × TI) :=
  match P.underlying t with
  | some (.slice e) => (tinfo P e).map fun i => (e, i)
  | _ => none
def tzero (P : Program) (t : TypeId) : Option PV := ((P.info? t).bind (·.zero)).map ofConst
def tptr (P : Program) (t : TypeId) : Bool := match P.underlying t with | some (.pointer _) => true | _ => false
def tstr (P : Program) (t : TypeId) : Bool := match P.underlying t with | some .string => true | _ => false
def tbool (P : Program) (t : TypeId) : Bool := match P.underlying t with | some .bool => true | _ => false
def tint (P : Program) (t : TypeId) : Option IntKind := match P.underlying t with | some (.int k) => some k | _ => none
def PV.isCell : PV → Bool
  | .agg _ | .tup _ | .junk => false
  | _ => true
def PV.isJunk : PV → Bool
  | .junk => true
  | _ => false
def PV.fits (i : TI) (p : PV) : Bool := decide (p.cells.length = i.sz) && (match p with | .agg _ => i.agg | .tup _ | .junk => false | _ => !i.agg)
def aload (i : TI) (H : List AObj) : PV → Option PV
  | .optr id off => match H[id]? with
    | some (.row cs) => if i.agg then (if off + i.sz ≤ cs.length then some (.agg (((cs.drop off).take i.sz).map PV.drop1)) else none) else cs[off]?
    | _ => none
  | .iptr cs => if i.agg then (if i.sz ≤ cs.length then some (.agg (cs.take i.sz)) else none) else cs[0]?
  | _ => none
def splice (cs : List PV) (off : Nat) (vs : List PV) : List PV :=
  match vs with
  | [] => cs
  | v :: vs => splice (cs.set off v) (off + 1) vs
def astore (i : TI) (H : List AObj) (a : PV) (v : PV) : Option (Nat × AObj) :=
  match a with
  | .optr id off => match H[id]? with
    | some (.row cs) => if off + i.sz ≤ cs.length ∧ v.cells.length = i.sz ∧ v.cells.all PV.isCell = true then some (id, .row (splice cs off v.cells)) else none
    | _ => none
  | _ => none
def abin (P : Program) (op : BinOp) (xt : TypeId) (x y : PV) : Option PV :=
  match x, y with
  | .int k a, .int k' b => if k = k' then
      match op with
      | .add => some (.int k (k.wrap (a + b)))
      | .sub => some (.int k (k.wrap (a - b)))
      | .mul => some (.int k (k.wrap (a * b)))
      | .quo => if b = 0 then none else some (.int k (k.wrap (a.tdiv b)))
      | .rem => if b = 0 then none else some (.int k (a.tmod b))
      | .eql => some (.bool (decide (a = b)))
      | .neq => some (.bool (!decide (a = b)))
      | .lss => some (.bool (decide (a < b)))
      | .leq => some (.bool (decide (a ≤ b)))
      | .gtr => some (.bool (decide (a > b)))
      | .geq => some (.bool (decide (a ≥ b)))
      | _ => none
    else none
  | .bool a, .bool b => if tbool P xt then
      match op with
      | .eql => some (.bool (a == b))
      | .neq => some (.bool (!(a == b)))
      | _ => none
    else none
  | .str a, .str b =>
      match op with
      | .eql => some (.bool (decide (a = b)))
      | .neq => some (.bool (!decide (a = b)))
      | .add => if a.length + b.length ≤ maxLen then some (.str (a ++ b)) else none
      | .lss => some (.bool (Op.bytesLess a b))
      | _ => none
  | .nilp, .nilp => if tptr P xt then (match op with | .eql => some (.bool true) | .neq => some (.bool false) | _ => none) else none
  | .iptr _, .nilp | .optr _ _, .nilp => if tptr P xt then (match op with | .eql => some (.bool false) | .neq => some (.bool true) | _ => none) else none
  | _, _ => none
def aun (op : UnOp) (x : PV) : Option PV :=
  match op, x with
  | .not, .bool b => some (.bool !b)
  | .neg, .int k n => some (.int k (k.wrap (0 - n)))
  | _, _ => none
def aidx (i : PV) (n : Nat) : Option Nat :=
  match i with
  | .int _ i => if 0 ≤ i ∧ i < n then some i.toNat else none
  | _ => none
def abnd (i : PV) (n : Nat) : Option Nat :=
  match i with
  | .int _ i => if 0 ≤ i ∧ i ≤ n then some i.toNat else none
  | _ => none
def abndO (T : Nat → PV) (i : Option Operand) (n d : Nat) : Option Nat :=
  match i with
  | some x => abnd (aev T x) n
  | none => some d
def aslice (P : Program) (T : Nat → PV) (t : TypeId) (x : PV) (lo hi mx : Option Operand) : Option PV :=
  match x with
  | .str s => if tstr P t = true ∧ mx.isNone = true then
      (abndO T hi s.length s.length).bind fun h => (abndO T lo h 0).bind fun l => some (.str ((s.take h).drop l))
    else none
  | .slice es tl => match telem P t with
    | some (e, i) => if (∀ e ∈ es, e.cells.length = i.sz) then
      match mx with
      | none => (abndO T hi es.length es.length).bind fun h => (abndO T lo h 0).bind fun l =>
          some (.slice ((es.take h).drop l) (if h = es.length ∧ tl = .full then .full else if hi.isNone = true ∧ lo.isNone = true then tl else .none))
      | some m => match hi with
        | none => none
        | some h => (abnd (aev T m) es.length).bind fun m => (abnd (aev T h) m).bind fun h => (abndO T lo h 0).bind fun l =>
          some (.slice ((es.take h).drop l) (if h = m then .full else .none))
      else none
    | none => none
  | _ => none
def afld (fl : List (Nat × TI)) (f : Nat) (x : PV) : Option PV :=
  match fl[f]?, x with
  | some (off, i), .agg cs => if off + i.sz ≤ cs.length then (if i.agg then some (.agg ((cs.drop off).take i.sz)) else cs[off]?) else none
  | _, _ => none
def afldAddr (fl : List (Nat × TI)) (f : Nat) (x : PV) : Option PV :=
  match fl[f]? with
  | some (off, i) => if i.sz = 0 then none else
    match x with
    | .optr id o => some (.optr id (o + off))
    | .iptr cs => some (.iptr (cs.drop off))
    | _ => none
  | _ => none
def aidxAddr (ti : TypeId × TI) (x i : PV) : Option PV :=
  match x with
  | .slice es _ => (aidx i es.length).bind fun k => (es[k]?).bind fun e => if e.cells.length = ti.2.sz then some (.iptr e.cells) else none
  | .msl id off n _ => (aidx i n).bind fun k => some (.optr id (off + k * ti.2.sz))
  | _ => none
def abuild (fl : List (Nat × TI)) (T : Nat → PV) : List PV → List (Nat × Operand) → Option (List PV)
  | cs, [] => some cs
  | cs, (f, x) :: rest => match fl[f]? with
    | some (off, i) => if (aev T x).isJunk = false ∧ (aev T x).cells.length = i.sz ∧ off + i.sz ≤ cs.length then abuild fl T (splice cs off ((aev T x).cells.map PV.drop1)) rest else none
    | none => none
def abuildS (i : TI) (T : Nat → PV) : List PV → List (Nat × Operand) → Option (List PV)
  | es, [] => some es
  | es, (k, x) :: rest => if (aev T x).fits i = true ∧ k < es.length then abuildS i T (es.set k (aev T x).drop1) rest else none
abbrev Eff := Option (Nat × AObj)
def Eff.app (e : Eff) (H : List AObj) : List AObj :=
  match e with
  | some (id, o) => H.set id o
  | none => H
def aappend (i : TI) (fresh : Nat) (H : List AObj) (s x : PV) : Option (PV × Eff) :=
  match s, x with
  | .slice es tl, .slice xs _ =>
    if xs = [] then some (.slice es tl, none)
    else if (es.length + xs.length) * i.bytes ≤ 2 ^ 47 ∧ es.length + xs.length ≤ maxLen ∧ (∀ e ∈ es, e.cells.length = i.sz) ∧ (∀ e ∈ xs, e.cells.length = i.sz ∧ e.cells.all PV.isCell = true) ∧ 0 < i.sz then
      match tl with
      | .full => some (.slice (es ++ xs) (.tok fresh), some (fresh, .buf (es.length + xs.length) i.sz))
      | .tok id => match H[id]? with
        | some (.buf n sz) => if n = es.length ∧ sz = i.sz then some (.slice (es ++ xs) (.tok id), some (id, .buf (es.length + xs.length) sz)) else none
        | _ => none
      | .none => none
    else none
  | _, _ => none
def amakeSlice (mt : Bool) (z : PV) (i : TI) (fresh : Nat) (l c : PV) : Option (PV × Eff) :=
  match l, c with
  | .int .i64 l, .int .i64 c =>
    if 0 ≤ l ∧ l ≤ c ∧ c * i.bytes ≤ 2 ^ 47 ∧ c ≤ maxLen ∧ z.fits i = true ∧ 0 < i.sz then
      if mt then some (.msl fresh 0 l.toNat c.toNat, some (fresh, .row ((List.replicate c.toNat z.cells).flatten)))
      else if l = c then some (.slice (List.replicate l.toNat z.drop1) .full, none)
      else some (.slice (List.replicate l.toNat z.drop1) (.tok fresh), some (fresh, .buf l.toNat i.sz))
    else none
  | _, _ => none
def ajust (p : PV) : Option (PV × Eff) := some (p, none)
def abuiltin (P : Program) (fresh : Nat) (T : Nat → PV) (H : List AObj) (b : Builtin) (xs : List Operand) (ts : List TypeId) : Option (PV × Eff) :=
  match b, xs, ts with
  | .len, [x], [t] => match aev T x with
    | .slice es _ => if (telem P t).isSome then some (.int .i64 es.length, none) else none
    | .msl _ _ n _ => if (telem P t).isSome then some (.int .i64 n, none) else none
    | .str s => if tstr P t then some (.int .i64 s.length, none) else none
    | _ => none
  | .min, [x, y], _ => match aev T x, aev T y with
    | .int .i64 a, .int .i64 b => some (.int .i64 (min a b), none)
    | _, _ => none
  | .max, [x, y], _ => match aev T x, aev T y with
    | .int .i64 a, .int .i64 b => some (.int .i64 (max a b), none)
    | _, _ => none
  | .append, [x, y], [t, u] => (telem P t).bind fun ei => (tzero P ei.1).bind fun z => if (telem P u).isSome = true ∧ z.fits ei.2 = true then aappend ei.2 fresh H (aev T x) (aev T y) else none
  | _, _, _ => none
def tmap (P : Program) (t : TypeId) : Option TypeId :=
  match P.underlying t with
  | some (.map k e) => match P.underlying k with
    | some (.int .i64) => some e
    | _ => none
  | _ => none
def mfind : List (Int × PV) → Int → Nat → Option (Nat × PV)
  | [], _, _ => none
  | e :: es, n, j => if e.1 = n then some (j, e.2) else mfind es n (j + 1)
def mget (es : List (Int × PV)) (n : Int) : Option PV := (mfind es n 0).map (·.2)
def mset (es : List (Int × PV)) (n : Int) (v : PV) : List (Int × PV) :=
  match mfind es n 0 with
  | some (i, _) => es.set i (n, v)
  | none => es ++ [(n, v)]
def okFld (P : Program) (i : Nat) (f : Field) : Bool := decide (f.name ≠ "_") && decide (f.offset = i) && (match P.underlying f.type with | some (.int .i64) => true | _ => false)
def tmapg (P : Program) (t : TypeId) : Option TypeId :=
  match P.underlying t with
  | some (.map k e) => match P.underlying k with
    | some (.struct fs) => match fs.toList with
      | [a, b, c] => if (okFld P 0 a && okFld P 1 b && okFld P 2 c && !P.stoodInHeld k && !P.eqGuardType P.depth k) = true then some e else none
      | _ => none
    | _ => none
  | _ => none
def gfind : List (Nat × (Int × Int × Int) × PV) → Int × Int × Int → Nat → Option (Nat × Nat × PV)
  | [], _, _ => none
  | e :: es, n, j => if n = e.2.1 then some (j, e.1, e.2.2) else gfind es n (j + 1)
def gget (es : List (Nat × (Int × Int × Int) × PV)) (n : Int × Int × Int) : Option PV := (gfind es n 0).map (·.2.2)
def gset (es : List (Nat × (Int × Int × Int) × PV)) (clk : Nat) (n : Int × Int × Int) (v : PV) : List (Nat × (Int × Int × Int) × PV) :=
  match gfind es n 0 with
  | some (i, b, _) => es.set i (b, n, v)
  | none => es ++ [(clk, n, v)]
def gclk (es : List (Nat × (Int × Int × Int) × PV)) (clk : Nat) (n : Int × Int × Int) : Nat := if (gget es n).isSome then clk else clk + 1
def gdel (es : List (Nat × (Int × Int × Int) × PV)) (n : Int × Int × Int) : List (Nat × (Int × Int × Int) × PV) :=
  match gfind es n 0 with
  | some (i, _) => es.eraseIdx i
  | none => es
def alook (ok : Bool) (z : PV) : Option PV → PV
  | some v => if ok then .tup [v, .bool true] else v
  | none => if ok then .tup [z, .bool false] else z
def alookup (P : Program) (H : List AObj) (t : TypeId) (x k : PV) (ok : Bool) : Option PV :=
  match x, k with
  | .mapp id, .int .i64 n => match H[id]? with
    | some (.obj (.mapo es)) => (tmap P t).bind fun e => (tzero P e).bind fun z => some (alook ok z (mget es n))
    | _ => none
  | .mapp id, .agg [.int .i64 a, .int .i64 b, .int .i64 c] => match H[id]? with
    | some (.obj (.mapg es _)) => (tmapg P t).bind fun e => (tzero P e).bind fun z => some (alook ok z (gget es (a, b, c)))
    | _ => none
  | _, _ => none
def amapset (P : Program) (H : List AObj) (t : TypeId) (x k v : PV) : Option (Nat × AObj) :=
  match x, k with
  | .mapp id, .int .i64 n => match H[id]? with
    | some (.obj (.mapo es)) => if (tmap P t).isSome = true then some (id, .obj (.mapo (mset es n v.drop1))) else none
    | _ => none
  | .mapp id, .agg [.int .i64 a, .int .i64 b, .int .i64 c] => match H[id]? with
    | some (.obj (.mapg es clk)) => if (tmapg P t).isSome = true then some (id, .obj (.mapg (gset es clk (a, b, c) v.drop1) (gclk es clk (a, b, c)))) else none
    | _ => none
  | _, _ => none
def aop (P : Program) (mt : Bool) (fresh : Nat) (T : Nat → PV) (H : List AObj) : Op → Option (PV × Eff)
  | .move x | .assign x => some (aev T x, none)
  | .pick c a b => match aev T c with
    | .bool c => some (if c then aev T a else aev T b, none)
    | _ => none
  | .alloc e => (tzero P e).bind fun z => if z.isJunk then none else some (.optr fresh 0, some (fresh, .row z.cells))
  | .box e x => if (aev T x).isJunk then none else some (.optr fresh 0, some (fresh, .row (aev T x).cells))
  | .build t ps => (tflds P t).bind fun fl => (tzero P t).bind fun z => if z.isJunk then none else (abuild fl T z.cells ps.toList).bind fun cs => some (.agg cs, none)
  | .buildSlice t n ps => (telem P t).bind fun ei => (tzero P ei.1).bind fun z =>
      if z.fits ei.2 = true ∧ 0 < ei.2.sz ∧ n * ei.2.sz ≤ 2 ^ 24 then (abuildS ei.2 T (List.replicate n z) ps.toList).bind fun es => some (.slice es .full, none) else none
  | .load t a => (tinfo P t).bind fun i => (aload i H (aev T a)).bind ajust
  | .store t a v => (tinfo P t).bind fun i => (astore i H (aev T a) (aev T v)).bind fun e => some (.junk, some e)
  | .nilCheck x => match aev T x with
    | .optr id o => some (.optr id o, none)
    | .iptr cs => some (.iptr cs, none)
    | _ => none
  | .binOp op xt x y _ => (abin P op xt (aev T x) (aev T y)).bind ajust
  | .unOp op _ x => (aun op (aev T x)).bind ajust
  | .convert s d x => match aev T x, tint P d with
    | .int _ n, some k => if (tint P s).isSome then some (.int k (k.wrap n), none) else none
    | _, _ => none
  | .makeFunc f first caps => some (.fn f (first.toList.map fun x => (aev T x).drop1) (caps.toList.map fun x => (aev T x).drop1), none)
  | .makeSlice t l c => (telem P t).bind fun ei => (tzero P ei.1).bind fun z => amakeSlice mt z ei.2 fresh (aev T l) (aev T c)
  | .slice t x lo hi mx => (aslice P T t (aev T x) lo hi mx).bind ajust
  | .fieldAddr s x f => (tflds P s).bind fun fl => (afldAddr fl f (aev T x)).bind ajust
  | .field s x f => (tflds P s).bind fun fl => (afld fl f (aev T x)).bind ajust
  | .indexAddr t x i => (telem P t).bind fun ei => (aidxAddr ei (aev T x) (aev T i)).bind ajust
  | .index t x i => match aev T x with
    | .str s => if tstr P t then (aidx (aev T i) s.length).bind fun k => (s[k]?).bind fun b => some (.int .u8 b.toNat, none) else none
    | _ => none
  | .extract t i => match aev T t with
    | .tup vs => (vs[i]?).bind ajust
    | _ => none
  | .lookup t x k ok => (alookup P H t (aev T x) (aev T k) ok).bind ajust
  | .mapUpdate t x k v => (amapset P H t (aev T x) (aev T k) (aev T v)).bind fun e => some (.junk, some e)
  | .makeMap t none => if (tmapg P t).isSome = true then some (.mapp fresh, some (fresh, .obj (.mapg [] 0))) else (tmap P t).bind fun _ => some (.mapp fresh, some (fresh, .obj (.mapo [])))
  | .call c => match c.callee with
    | .builtin b => abuiltin P fresh T H b c.args.toList c.argTypes.toList
    | _ => none
  | _ => none
end Go.Abs
namespace Go.Abs
theorem run_prog {P : Program} {w : World} : (program).run P w = .ok P w := rfl
theorem run_under {P : Program} {w : World} {t : TypeId} {d : TypeDesc} (h : P.underlying t = some d) : (underlying t).run P w = .ok d w := by
  simp only [underlying, Sem.run_bind, run_prog, Result.andThen_ok, h, Sem.run_pure]
theorem run_tinfo {P : Program} {w : World} {t : TypeId} {i : TypeInfo} (h : P.info? t = some i) : (typeInfo t).run P w = .ok i w := by
  simp only [typeInfo, Sem.run_bind, run_prog, Result.andThen_ok, h, Sem.run_pure]
theorem run_size {P : Program} {w : World} {t : TypeId} {i : TypeInfo} (h : P.info? t = some i) : (sizeOf t).run P w = .ok i.size w := by
  simp only [sizeOf, Sem.run_bind, run_tinfo h, Result.andThen_ok, Sem.run_pure]
theorem run_zero {P : Program} {w : World} {t : TypeId} {i : TypeInfo} {z : Value} (h : P.info? t = some i) (hz : i.zero = some z) : (zeroValue t).run P w = .ok z w := by
  simp only [zeroValue, Sem.run_bind, run_tinfo h, Result.andThen_ok, hz, Sem.run_pure]
theorem run_agg {P : Program} {w : World} {t : TypeId} {d : TypeDesc} (h : P.underlying t = some d) : (isAgg t).run P w = .ok (isAggD d) w := by
  simp only [isAgg, Sem.run_bind, run_under h, Result.andThen_ok]
  cases d <;> rfl
theorem tinfo_some {P : Program} {t : TypeId} {i : TI} (h : tinfo P t = some i) : ∃ d f, P.underlying t = some d ∧ P.info? t = some f ∧ i = ⟨isAggD d, f.size, f.bytes⟩ := by
  unfold tinfo at h
  split at h
  · rename_i d f h1 h2; exact ⟨d, f, h1, h2, by cases h; rfl⟩
  · cases h
theorem tzero_some {P : Program} {t : TypeId} {z : PV} (h : tzero P t = some z) : ∃ f v, P.info? t = some f ∧ f.zero = some v ∧ z = ofConst v := by
  unfold tzero at h
  cases h1 : P.info? t with
  | none => rw [h1] at h; cases h
  | some f =>
    rw [h1] at h
    cases h2 : f.zero with
    | none => simp [h2] at h
    | some v => simp [h2] at h; exact ⟨f, v, rfl, h2, h.symm⟩
theorem telem_some {P : Program} {t e : TypeId} {i : TI} (h : telem P t = some (e, i)) : P.underlying t = some (.slice e) ∧ tinfo P e = some i := by
  unfold telem at h
  split at h
  · rename_i e' h1
    cases h2 : tinfo P e' with
    | none => simp [h2] at h
    | some j => simp [h2] at h; obtain ⟨rfl, rfl⟩ := h; exact ⟨h1, h2⟩
  · cases h
structure Done (P : Program) (E : Env) (s : Sem Next) (v : PV) (e : Eff) : Prop where
  out : ∃ E' val, (s.run P E.w = .ok (.value val) E'.w ∨ (s.run P E.w = .ok .skip E'.w ∧ val = undef)) ∧ E.le E' ∧ E'.Ok ∧ E'.H = e.app E.H ∧ VRel E'.view val v
theorem Done.val {P : Program} {E : Env} (h : E.Ok) {s : Sem Next} {val : Value} {v : PV} (hs : s.run P E.w = .ok (.value val) E.w) (hv : VRel E.view val v) : Done P E s v none :=
  ⟨E, val, .inl hs, .refl E, h, rfl, hv⟩
theorem vrel_drop1_list {V : View} {arr : Array Value} {cs : List PV} (hr : ∀ i (h : i < cs.length), VRel V (arr.getD i undef) cs[i]) :
    ∀ i (h : i < (cs.map PV.drop1).length), VRel V (arr.getD i undef) (cs.map PV.drop1)[i] := by
  intro i h
  simp only [List.getElem_map]
  exact (hr i (by simpa using h)).drop1
inductive Cells (E : Env) : Addr → List PV → Prop
  | row {id off : Nat} {cs : List PV} (h : E.H[id]? = some (.row cs)) : Cells E ⟨E.ρ id, off, none⟩ (cs.drop off)
  | imm {a : Addr} {cs : List PV} (h : VRel E.view (.pointer (some a)) (.iptr cs)) : Cells E a cs
theorem Cells.get {E : Env} (ho : E.Ok) {a : Addr} {cs : List PV} (h : Cells E a cs) : ∀ j (hj : j < cs.length), ∃ v, E.w.cell? (a.add j) = some v ∧ VRel E.view v cs[j] := by
  intro j hj
  cases h with
  | @row id off cs h =>
    obtain ⟨arr, elem, h1, h2, h3, h4⟩ := ho.rows id _ h
    simp only [List.length_drop] at hj
    refine ⟨arr.getD (off + j) undef, ?_, ?_⟩
    · rw [add_plain, cell_row h1, Array.getD_eq_getD_getElem?, Array.getElem?_eq_getElem (by omega)]; rfl
    · rw [List.getElem_drop]; exact h3 _ _
  | imm h =>
    cases h with
    | iptr _ _ vs hc hr => exact ⟨vs j, Env.cell_stable (hc j hj), hr j hj⟩
theorem Cells.loadCells {P : Program} {E : Env} (ho : E.Ok) {a : Addr} {cs : List PV} (h : Cells E a cs) {n : Nat} (hn : n ≤ cs.length) :
    ∃ arr, (loadCells a n).run P E.w = .ok arr E.w ∧ arr.size = n ∧ ∀ i (h : i < (cs.take n).length), VRel E.view (arr.getD i undef) (cs.take n)[i] := by
  let f : Nat → Value := fun j => (E.w.cell? (a.add j)).getD undef
  have hf : ∀ j, j < n → E.w.cell? (a.add j) = some (f j) := by
    intro j hj
    obtain ⟨v, hv, _⟩ := h.get ho j (by omega)
    simp only [f, hv, Option.getD_some]
  refine ⟨_, run_loadCells E.w a n f hf, by simp, fun i hi => ?_⟩
  simp only [List.length_take] at hi
  obtain ⟨v, hv, hr⟩ := h.get ho i (by omega)
  rw [List.getElem_take, Array.getD_eq_getD_getElem?]
  simp only [List.getElem?_toArray, List.getElem?_map, List.getElem?_range (by omega : i < n), Option.map_some, Option.getD_some]
  have : f i = v := by simp only [f, hv, Option.getD_some]
  rw [this]; exact hr
theorem Cells.loadVar {P : Program} {E : Env} (ho : E.Ok) {a : Addr} {cs : List PV} (h : Cells E a cs) {t : TypeId} {i : TI} (hi : tinfo P t = some i) :
    (i.agg = true → i.sz ≤ cs.length → ∃ arr, (loadVar t a).run P E.w = .ok (.agg arr) E.w ∧ VRel E.view (.agg arr) (.agg (cs.take i.sz))) ∧
    (i.agg = false → ∀ p, cs[0]? = some p → ∃ v, (loadVar t a).run P E.w = .ok v E.w ∧ VRel E.view v p) := by
  obtain ⟨d, f, h1, h2, rfl⟩ := tinfo_some hi
  constructor
  · intro hagg hsz
    simp only at hagg hsz
    obtain ⟨arr, e1, e2, e3⟩ := h.loadCells (P := P) ho hsz
    refine ⟨arr, ?_, .agg _ _ (by rw [e2]; simp; omega) e3⟩
    simp only [Go.loadVar, Sem.run_bind, run_agg h1, Result.andThen_ok, hagg, if_true, run_size h2, e1, Sem.run_pure]
  · intro hagg p hp
    simp only at hagg
    have hl : 0 < cs.length := by
      rcases Nat.eq_zero_or_pos cs.length with e | e
      · rw [List.getElem?_eq_none (by omega)] at hp; cases hp
      · exact e
    obtain ⟨v, hv, hr⟩ := h.get ho 0 hl
    rw [add_zero'] at hv
    refine ⟨v, ?_, ?_⟩
    · simp only [Go.loadVar, Sem.run_bind, run_agg h1, Result.andThen_ok, hagg, Bool.false_eq_true, if_false, run_load, hv]
    · rw [List.getElem?_eq_getElem hl] at hp; cases hp; exact hr
theorem VRel.optr_inv {V : View} {v : Value} {id off : Nat} (h : VRel V v (.optr id off)) : v = .pointer (some ⟨V.rho id, off, none⟩) ∧ V.born id := by
  cases h; exact ⟨rfl, ‹_›⟩
section ops
variable {P : Program} {E : Env} {N : Nat} {a : Act} {T : Nat → PV} (ho : E.Ok) (ht : TRel E.view N a T)
include ho ht
theorem sound_load {t : TypeId} {x : Operand} (hx : okOpnd N x = true) {i : TI} (hi : tinfo P t = some i) {v : PV} (hv : aload i E.H (aev T x) = some v) :
    ∃ val, (Instr.loadAt t (a.eval x)).run P E.w = .ok val E.w ∧ VRel E.view val v := by
  have hr := vrel_eval ht x hx
  generalize a.eval x = ax at hr
  generalize aev T x = px at hr hv
  unfold aload at hv
  split at hv
  · rename_i id off
    obtain ⟨rfl, hb⟩ := hr.optr_inv
    split at hv
    · rename_i cs hcs
      have hc : Cells E ⟨E.ρ id, off, none⟩ (cs.drop off) := .row hcs
      obtain ⟨h1, h2⟩ := hc.loadVar (P := P) ho hi
      split at hv
      · rename_i hagg
        split at hv
        · rename_i hl
          cases hv
          obtain ⟨arr, e1, e2⟩ := h1 hagg (by simp; omega)
          refine ⟨_, by simpa [Instr.loadAt, Instr.sureAddr, Env.view] using e1, ?_⟩
          cases e2 with
          | agg _ _ hl hr => exact .agg _ _ (by simpa using hl) (vrel_drop1_list hr)
        · cases hv
      · rename_i hagg
        obtain ⟨v', e1, e2⟩ := h2 (by simpa using hagg) v (by rw [List.getElem?_drop]; simpa using hv)
        exact ⟨_, by simpa [Instr.loadAt, Instr.sureAddr, Env.view] using e1, e2⟩
    · cases hv
  · rename_i cs
    cases hr with
    | iptr ad cs vs hc hr =>
      have hcl : Cells E ad cs := .imm (.iptr ad cs vs hc hr)
      obtain ⟨h1, h2⟩ := hcl.loadVar (P := P) ho hi
      split at hv
      · rename_i hagg
        split at hv
        · rename_i hl
          cases hv
          obtain ⟨arr, e1, e2⟩ := h1 hagg hl
          exact ⟨_, by simpa [Instr.loadAt, Instr.sureAddr] using e1, e2⟩
        · cases hv
      · rename_i hagg
        obtain ⟨v', e1, e2⟩ := h2 (by simpa using hagg) v hv
        exact ⟨_, by simpa [Instr.loadAt, Instr.sureAddr] using e1, e2⟩
  · cases hv
end ops
end Go.Abs
namespace Go.Abs
theorem VRel.isCell {V : View} {v : Value} {p : PV} (h : VRel V v p) (hp : p.isCell = true) : Value.isCell v = true := by
  cases h <;> first | rfl | (simp [PV.isCell] at hp; done)
theorem VRel.not_junk_cells {V : View} {v : Value} {p : PV} (h : VRel V v p) (hj : p.isJunk = false) :
    v.cells.size = p.cells.length ∧ ∀ i (h : i < p.cells.length), VRel V (v.cells.getD i undef) (p.cells[i]) :=
  h.cells (by rintro rfl; cases hj)
theorem set_set_same {H : List AObj} {id : Nat} {a b : AObj} : (H.set id a).set id b = H.set id b := by
  simp
theorem list_set_self {H : List AObj} {id : Nat} {o : AObj} (h : H[id]? = some o) : H.set id o = H := by
  apply List.ext_getElem?
  intro j
  by_cases e : id = j
  · subst e
    have hl : id < H.length := by
      rcases Nat.lt_or_ge id H.length with hl | hl
      · exact hl
      · rw [List.getElem?_eq_none hl] at h; cases h
    rw [List.getElem?_set_self hl, h]
  · rw [List.getElem?_set_ne e]
theorem len_of_get {α : Type} {H : List α} {id : Nat} {o : α} (h : H[id]? = some o) : id < H.length := by
  rcases Nat.lt_or_ge id H.length with hl | hl
  · exact hl
  · rw [List.getElem?_eq_none hl] at h; cases h
theorem storeRow {P : Program} {id off : Nat} : ∀ (vs : List Value) (ps : List PV) (i : Nat) (E : Env) (cs : List PV), E.Ok → E.H[id]? = some (.row cs) → vs.length = ps.length →
    (∀ j (h : j < ps.length), VRel E.view (vs.getD j undef) ps[j]) → ps.all PV.isCell = true → off + i + vs.length ≤ cs.length →
    ∃ E', (storeCells ⟨E.ρ id, off, none⟩ vs i).run P E.w = .ok () E'.w ∧ E.le E' ∧ E'.Ok ∧ E'.H = E.H.set id (.row (splice cs (off + i) ps))
  | [], ps, i, E, cs, ho, hi, hl, hr, hc, hb => by
    obtain rfl : ps = [] := by cases ps with | nil => rfl | cons _ _ => simp at hl
    exact ⟨E, rfl, .refl E, ho, by rw [splice, list_set_self hi]⟩
  | v :: vs, ps, i, E, cs, ho, hi, hl, hr, hc, hb => by
    match ps, hl with
    | p :: ps, hl =>
      simp only [List.length_cons] at hl hb hr
      have hv : VRel E.view v p := hr 0 (by omega)
      simp only [List.all_cons, Bool.and_eq_true] at hc
      obtain ⟨arr, elem, h1, h2, h3, h4⟩ := ho.rows id cs hi
      have hle := Env.setRow_le ho hi (off + i) (v := v) (p := p)
      have hok := Env.Ok.setRow ho hi (off + i) hv
      have hrun : (store ((⟨E.ρ id, off, none⟩ : Addr).add i) v).run P E.w = .ok () (E.setRow id (off + i) v cs p).w := by
        rw [run_store1 (hv.isCell hc.1) ⟨arr[off + i]'(by omega), ?_⟩ ?_]
        · rw [add_plain]; rfl
        · rw [add_plain, cell_row h1, Array.getElem?_eq_getElem]
        · rw [add_plain]; exact frozen_row h1
      obtain ⟨E', e1, e2, e3, e4⟩ := storeRow (P := P) (id := id) (off := off) vs ps (i + 1) (E.setRow id (off + i) v cs p) (cs.set (off + i) p) hok
        (by simp only [Env.setRow]; exact List.getElem?_set_self (len_of_get hi)) (by omega)
        (fun j hj => by have := hr (j + 1) (by omega); simp only [List.getD_cons_succ, List.getElem_cons_succ] at this; exact this.mono hle.view) hc.2 (by simp; omega)
      refine ⟨E', ?_, hle.trans e2, e3, ?_⟩
      · simp only [storeCells, Sem.run_bind, hrun, Result.andThen_ok]; exact e1
      · rw [e4]; simp only [Env.setRow, set_set_same, splice, Nat.add_assoc]
section ops
variable {P : Program} {E : Env} {N : Nat} {a : Act} {T : Nat → PV} (ho : E.Ok) (ht : TRel E.view N a T)
include ho ht
theorem sound_store {t : TypeId} {x y : Operand} (hx : okOpnd N x = true) (hy : okOpnd N y = true) {i : TI} (hi : tinfo P t = some i) {e : Nat × AObj}
    (hv : astore i E.H (aev T x) (aev T y) = some e) :
    ∃ E', (Instr.storeAt t (a.eval x) (a.eval y)).run P E.w = .ok () E'.w ∧ E.le E' ∧ E'.Ok ∧ E'.H = E.H.set e.1 e.2 := by
  have hr := vrel_eval ht x hx
  have hr' := vrel_eval ht y hy
  generalize a.eval x = ax at hr
  generalize aev T x = px at hr hv
  generalize a.eval y = ay at hr'
  generalize aev T y = py at hr' hv
  unfold astore at hv
  split at hv
  · rename_i id off
    obtain ⟨rfl, hb⟩ := hr.optr_inv
    split at hv
    · rename_i cs hcs
      split at hv
      · rename_i hl
        obtain ⟨hl1, hl2, hl3⟩ := hl
        cases hv
        obtain ⟨d, f, h1, h2, rfl⟩ := tinfo_some hi
        simp only at hl1 hl2
        have hj : py.isJunk = false := by
          cases py <;> first | rfl | (simp [PV.cells, PV.isCell] at hl3; done)
        obtain ⟨c1, c2⟩ := hr'.not_junk_cells hj
        obtain ⟨E', e1, e2, e3, e4⟩ := storeRow (P := P) (id := id) (off := off) ay.cells.toList py.cells 0 E cs ho hcs (by simpa using c1)
          (fun j hj => by
            have := c2 j hj
            rw [Array.getD_eq_getD_getElem?] at this
            rw [List.getD_eq_getElem?_getD, Array.getElem?_toList]; exact this) hl3 (by simp [c1]; omega)
        refine ⟨E', ?_, e2, e3, by rw [e4]; rfl⟩
        simp only [Instr.storeAt, Instr.sureAddr, Sem.run_bind, Sem.run_pure, Result.andThen_ok, storeVar, run_size h2]
        rw [if_neg (by rw [c1]; simp [hl2])]
        exact e1
      · cases hv
    · cases hv
  · cases hv
omit ht in
theorem sound_alloc {t : TypeId} {fresh : Nat} (hf : E.H[fresh]? = some .unborn) {z : PV} (hz : tzero P t = some z) (hj : z.isJunk = false) :
    ∃ E' val, (Instr.alloc t true (.tuple #[])).run P E.w = .ok val E'.w ∧ E.le E' ∧ E'.Ok ∧ E'.H = E.H.set fresh (.row z.cells) ∧ VRel E'.view val (.optr fresh 0) := by
  obtain ⟨f, v, h1, h2, rfl⟩ := tzero_some hz
  obtain ⟨c1, c2⟩ := (vrel_ofConst E.view v).not_junk_cells hj
  refine ⟨E.newRow fresh v.cells t (ofConst v).cells, .pointer (some ⟨E.w.heap.size, 0, none⟩), ?_, Env.newRow_le ho hf _ _ _, Env.Ok.newRow ho hf _ _ _ c1 c2, rfl, ?_⟩
  · simp only [Instr.alloc, Sem.run_bind, run_zero h1 h2, Result.andThen_ok, newVar, newRow, run_newObj, Sem.run_pure]
    rfl
  · have := VRel.optr (V := (E.newRow fresh v.cells t (ofConst v).cells).view) fresh 0 ⟨.row (ofConst v).cells, by simp only [Env.newRow]; exact List.getElem?_set_self (len_of_get hf), by simp⟩
    simpa [Env.view, Env.newRow] using this
theorem sound_box {t : TypeId} {fresh : Nat} (hf : E.H[fresh]? = some .unborn) {x : Operand} (hx : okOpnd N x = true) (hj : (aev T x).isJunk = false) :
    ∃ E' val, (Instr.box t (a.eval x)).run P E.w = .ok val E'.w ∧ E.le E' ∧ E'.Ok ∧ E'.H = E.H.set fresh (.row (aev T x).cells) ∧ VRel E'.view val (.optr fresh 0) := by
  have hr := vrel_eval ht x hx
  generalize a.eval x = v at hr
  generalize aev T x = p at hr hj
  obtain ⟨c1, c2⟩ := hr.not_junk_cells hj
  refine ⟨E.newRow fresh v.cells t p.cells, .pointer (some ⟨E.w.heap.size, 0, none⟩), ?_, Env.newRow_le ho hf _ _ _, Env.Ok.newRow ho hf _ _ _ c1 c2, rfl, ?_⟩
  · simp only [Instr.box, Sem.run_bind, Result.andThen_ok, newVar, newRow, run_newObj, Sem.run_pure]
    rfl
  · have := VRel.optr (V := (E.newRow fresh v.cells t p.cells).view) fresh 0 ⟨.row p.cells, by simp only [Env.newRow]; exact List.getElem?_set_self (len_of_get hf), by simp⟩
    simpa [Env.view, Env.newRow] using this
end ops
def RL (V : View) (arr : Array Value) (cs : List PV) : Prop := arr.size = cs.length ∧ ∀ i (h : i < cs.length), VRel V (arr.getD i undef) cs[i]
theorem RL.set {V : View} {arr : Array Value} {cs : List PV} (h : RL V arr cs) (k : Nat) {v : Value} {p : PV} (hv : VRel V v p) : RL V (arr.setIfInBounds k v) (cs.set k p) := by
  refine ⟨by simp [h.1], fun i hi => ?_⟩
  simp only [List.length_set] at hi
  rw [Array.getD_eq_getD_getElem?]
  by_cases e : k = i
  · subst e
    rw [Array.getElem?_setIfInBounds_self_of_lt (by rw [h.1]; exact hi)]
    simpa using hv
  · rw [Array.getElem?_setIfInBounds_ne e, List.getElem_set_ne e, ← Array.getD_eq_getD_getElem?]
    exact h.2 i hi
theorem foldl_splice {V : View} : ∀ (vs : List Value) (ps : List PV) (off s : Nat) (arr : Array Value) (cs : List PV), RL V arr cs → vs.length = ps.length → (∀ j (h : j < ps.length), VRel V (vs.getD j undef) ps[j]) →
    RL V ((vs.zipIdx s).foldl (fun cs (c, j) => cs.setIfInBounds (off + j) c) arr) (splice cs (off + s) ps)
  | [], ps, off, s, arr, cs, h, hl, hr => by
    obtain rfl : ps = [] := by cases ps with | nil => rfl | cons _ _ => simp at hl
    exact h
  | v :: vs, ps, off, s, arr, cs, h, hl, hr => by
    match ps, hl with
    | p :: ps, hl =>
      simp only [List.length_cons] at hl hr
      simp only [List.zipIdx_cons, List.foldl_cons, splice]
      have := foldl_splice vs ps off (s + 1) (arr.setIfInBounds (off + s) v) (cs.set (off + s) p) (h.set _ (hr 0 (by omega))) (by omega)
        (fun j hj => by have := hr (j + 1) (by omega); simpa using this)
      rw [← Nat.add_assoc] at this
      exact this
end Go.Abs
namespace Go.Abs
theorem run_places {P : Program} {w : World} : ∀ (fs : List Field) (fl : List (Nat × TI)), (fs.mapM fun f => (tinfo P f.type).map fun i => (f.offset, i)) = some fl →
    (fs.mapM (m := Sem) fun f => do pure (f.offset, ← sizeOf f.type)).run P w = .ok (fl.map fun x => (x.1, x.2.sz)) w
  | [], fl, h => by
    simp at h; subst h; rfl
  | f :: fs, fl, h => by
    rw [List.mapM_cons] at h ⊢
    cases h1 : tinfo P f.type with
    | none => rw [h1] at h; simp at h
    | some i =>
      cases h2 : fs.mapM fun f => (tinfo P f.type).map fun i => (f.offset, i) with
      | none => rw [h1] at h; simp [h2] at h
      | some fl' =>
        rw [h1] at h; simp [h2] at h; subst h
        have ih := run_places (w := w) fs fl' h2
        obtain ⟨d, g, e1, e2, rfl⟩ := tinfo_some h1
        simp only [Sem.run_bind, run_size e2, Result.andThen_ok, Sem.run_pure, ih, List.map_cons]
theorem tflds_some {P : Program} {t : TypeId} {fl : List (Nat × TI)} (h : tflds P t = some fl) :
    ∃ fs, P.underlying t = some (.struct fs) ∧ (fs.toList.mapM fun f => (tinfo P f.type).map fun i => (f.offset, i)) = some fl := by
  unfold tflds at h
  split at h
  · rename_i fs h1; exact ⟨fs, h1, h⟩
  · cases h
section ops
variable {P : Program} {E : Env} {N : Nat} {a : Act} {T : Nat → PV} (ht : TRel E.view N a T)
include ht in
theorem sound_fill (fl : List (Nat × TI)) : ∀ (ps : List (Nat × Operand)) (arr : Array Value) (cs cs' : List PV), RL E.view arr cs → ps.all (fun x => okOpnd N x.2) = true → abuild fl T cs ps = some cs' →
    ∃ arr', Instr.fill ((fl.map fun x => (x.1, x.2.sz)).toArray[·]?) arr (ps.map fun (i, x) => (i, a.eval x)) = some arr' ∧ RL E.view arr' cs'
  | [], arr, cs, cs', h, _, hb => by cases hb; exact ⟨arr, rfl, h⟩
  | (f, x) :: rest, arr, cs, cs', h, hok, hb => by
    simp only [List.all_cons, Bool.and_eq_true] at hok
    unfold abuild at hb
    split at hb
    · rename_i off i hf
      split at hb
      · rename_i hc
        obtain ⟨hc1, hc2, hc3⟩ := hc
        have hr := vrel_eval ht x hok.1
        obtain ⟨c1, c2⟩ := hr.not_junk_cells hc1
        have h' := foldl_splice (V := E.view) (a.eval x).cells.toList ((aev T x).cells.map PV.drop1) off 0 arr cs h (by simp [c1]) (fun j hj => by
          have := c2 j (by simpa using hj)
          rw [Array.getD_eq_getD_getElem?] at this
          rw [List.getD_eq_getElem?_getD, Array.getElem?_toList]
          simp only [List.getElem_map]; exact this.drop1)
        rw [Nat.add_zero] at h'
        obtain ⟨arr', e1, e2⟩ := sound_fill fl rest _ _ cs' h' hok.2 hb
        refine ⟨arr', ?_, e2⟩
        simp only [List.map_cons, Instr.fill]
        simp only [List.getElem?_toArray, List.getElem?_map, hf, Option.map_some]
        rw [if_neg]
        · rw [← e1]
          simp only [List.getElem?_toArray, List.getElem?_map]
          congr 1
          rw [← Array.foldl_toList, Array.toList_zipIdx]
        · have c3 : (a.eval x).cells.size = i.sz := c1.trans hc2
          have c4 := h.1
          rw [c3, c4]; simp; omega
      · cases hb
    · cases hb
include ht in
theorem sound_build {t : TypeId} {ps : Array (Nat × Operand)} (hok : ps.toList.all (fun x => okOpnd N x.2) = true) {fl : List (Nat × TI)} (hf : tflds P t = some fl) {z : PV} (hz : tzero P t = some z) (hj : z.isJunk = false)
    {cs : List PV} (hb : abuild fl T z.cells ps.toList = some cs) :
    ∃ val, (Instr.build t (ps.map fun (i, x) => (i, a.eval x))).run P E.w = .ok val E.w ∧ VRel E.view val (.agg cs) := by
  obtain ⟨fs, h1, h2⟩ := tflds_some hf
  obtain ⟨f, v, h3, h4, rfl⟩ := tzero_some hz
  have hr := run_places (P := P) (w := E.w) fs.toList fl h2
  obtain ⟨c1, c2⟩ := (vrel_ofConst E.view v).not_junk_cells hj
  obtain ⟨arr', e1, e2⟩ := sound_fill ht fl ps.toList v.cells (ofConst v).cells cs ⟨c1, c2⟩ hok hb
  refine ⟨.agg arr', ?_, .agg _ _ e2.1 e2.2⟩
  simp only [Instr.build, Sem.run_bind, run_zero h3 h4, Result.andThen_ok, run_under h1, Array.mapM_eq_mapM_toList, Sem.run_map, hr, Array.toList_map]
  simp only [e1, Sem.run_pure]
end ops
theorem PV.fits_spec {i : TI} {p : PV} (h : p.fits i = true) : p.cells.length = i.sz ∧ p.isJunk = false := by
  unfold PV.fits at h
  simp only [Bool.and_eq_true, decide_eq_true_eq] at h
  refine ⟨h.1, ?_⟩
  cases p <;> first | rfl | (simp at h; done)
theorem PV.drop1_cells_length (p : PV) : p.drop1.cells.length = p.cells.length := by
  cases p <;> first | rfl | simp [PV.drop1, PV.cells]
theorem PV.drop1_isJunk (p : PV) : p.drop1.isJunk = p.isJunk := by cases p <;> rfl
theorem VRel.drop1_cells {V : View} {v : Value} {p : PV} (h : VRel V v p) (hj : p.isJunk = false) : v.cells.size = p.drop1.cells.length ∧ ∀ i (h : i < p.drop1.cells.length), VRel V (v.cells.getD i undef) (p.drop1.cells[i]) :=
  h.drop1.not_junk_cells (by rw [PV.drop1_isJunk]; exact hj)
def flatE (es : List PV) : List PV := (es.map PV.cells).flatten
theorem flatE_get {sz : Nat} : ∀ (es : List PV), (∀ e ∈ es, e.cells.length = sz) → ∀ i j, (hi : i < es.length) → (hj : j < sz) → (flatE es)[i * sz + j]? = (es[i].cells)[j]?
  | [], _, i, j, hi, _ => absurd hi (by simp)
  | e :: es, h, i, j, hi, hj => by
    have he := h e (by simp)
    simp only [flatE, List.map_cons, List.flatten_cons]
    cases i with
    | zero => simp only [Nat.zero_mul, Nat.zero_add, List.getElem_cons_zero]; rw [List.getElem?_append_left (by omega)]
    | succ i =>
      rw [List.getElem?_append_right (by rw [he, Nat.succ_mul]; omega), he]
      have := flatE_get (sz := sz) es (fun x hx => h x (by simp [hx])) i j (by simpa using hi) hj
      rw [show (i + 1) * sz + j - sz = i * sz + j by rw [Nat.succ_mul]; omega]
      simpa [flatE] using this
theorem flatE_length {sz : Nat} : ∀ (es : List PV), (∀ e ∈ es, e.cells.length = sz) → (flatE es).length = es.length * sz
  | [], _ => by simp [flatE]
  | e :: es, h => by
    have he := h e (by simp)
    have := flatE_length (sz := sz) es (fun x hx => h x (by simp [hx]))
    simp only [flatE, List.map_cons, List.flatten_cons, List.length_append, List.length_cons] at this ⊢
    rw [this, he, Nat.succ_mul]; omega
theorem splice_get (sz : Nat) : ∀ (vs cs : List PV) (off k : Nat), off + vs.length ≤ cs.length → (splice cs off vs)[k]? = if off ≤ k ∧ k < off + vs.length then vs[k - off]? else cs[k]?
  | [], cs, off, k, _ => by rw [splice, if_neg (by simp)]
  | v :: vs, cs, off, k, h => by
    simp only [List.length_cons] at h
    rw [splice, splice_get sz vs _ (off + 1) k (by simp; omega)]
    by_cases e : k = off
    · subst e
      rw [if_neg (by omega), if_pos (by simp), List.getElem?_set_self (by omega)]
      simp
    · by_cases c : off + 1 ≤ k ∧ k < off + 1 + vs.length
      · rw [if_pos c, if_pos (by simp only [List.length_cons]; omega), show k - off = (k - (off + 1)) + 1 by omega, List.getElem?_cons_succ]
      · rw [if_neg c, if_neg (by simp only [List.length_cons]; omega), List.getElem?_set_ne (fun q => e q.symm)]
theorem splice_flatE {sz : Nat} (es : List PV) (h : ∀ e ∈ es, e.cells.length = sz) (k : Nat) (hk : k < es.length) (v : PV) (hv : v.cells.length = sz) :
    splice (flatE es) (k * sz) v.cells = flatE (es.set k v) := by
  have hfl := flatE_length es h
  have h' : ∀ e ∈ es.set k v, e.cells.length = sz := by
    intro e he
    rcases List.mem_or_eq_of_mem_set he with he | rfl
    · exact h e he
    · exact hv
  have hfl' := flatE_length _ h'
  have hks : (k + 1) * sz ≤ es.length * sz := Nat.mul_le_mul_right _ hk
  rw [Nat.succ_mul] at hks
  apply List.ext_getElem?
  intro n
  rw [splice_get sz _ _ _ _ (by rw [hfl, hv]; omega), hv]
  by_cases hn : n < es.length * sz
  · have hsz : 0 < sz := by
      rcases Nat.eq_zero_or_pos sz with e | e; · subst e; simp at hn
      · exact e
    have hq : n / sz < es.length := (Nat.div_lt_iff_lt_mul hsz).2 hn
    have hm := Nat.mod_lt n hsz
    have hdm : n = n / sz * sz + n % sz := by rw [Nat.mul_comm]; exact (Nat.div_add_mod n sz).symm
    have g2 := flatE_get (es.set k v) h' (n / sz) (n % sz) (by simpa using hq) hm
    rw [← hdm] at g2
    rw [g2]
    by_cases e : n / sz = k
    · subst e
      rw [if_pos (by omega)]
      simp only [List.getElem_set_self]
      congr 1; omega
    · rw [if_neg]
      · have g1 := flatE_get es h (n / sz) (n % sz) hq hm
        rw [← hdm] at g1
        rw [g1, List.getElem_set_ne (fun q => e q.symm)]
      · rintro ⟨q1, q2⟩
        apply e
        apply Nat.le_antisymm
        · rw [← Nat.lt_succ_iff]; exact (Nat.div_lt_iff_lt_mul hsz).2 (by rw [Nat.succ_mul]; omega)
        · exact (Nat.le_div_iff_mul_le hsz).2 q1
  · rw [if_neg (by omega), List.getElem?_eq_none (by omega), List.getElem?_eq_none (by rw [hfl', List.length_set]; omega)]
end Go.Abs
namespace Go.Abs
theorem vrel_slice_fixed {V : View} {b n : Nat} {arr : Array Value} {es : List PV} {sz : Nat} (hcell : ∀ k, k < arr.size → V.cell ⟨b, k, none⟩ = some (arr.getD k undef))
    (hes : ∀ e ∈ es, e.cells.length = sz) (hrl : RL V arr (flatE es)) (hn : es.length = n) (hm : n ≤ maxLen) : VRel V (.slice (some ⟨b, 0, none⟩) n n) (.slice es .full) := by
  have hfl := flatE_length es hes
  refine .slice _ n n sz es .full (fun i j => arr.getD (i * sz + j) undef) hn (Nat.le_refl _) hm (fun i h => hes _ (List.getElem_mem h)) ?_ ?_ rfl
  · intro i j hi hj
    rw [add_plain, Nat.zero_add]
    apply hcell
    rw [hrl.1, hfl]
    have : (i + 1) * sz ≤ es.length * sz := Nat.mul_le_mul_right _ (by omega)
    rw [Nat.succ_mul] at this; omega
  · intro i j hi hj
    have hl := hes _ (List.getElem_mem hi)
    have hj' : j < sz := by omega
    have hk : i * sz + j < (flatE es).length := by
      rw [hfl]
      have : (i + 1) * sz ≤ es.length * sz := Nat.mul_le_mul_right _ (by omega)
      rw [Nat.succ_mul] at this; omega
    have h1 := hrl.2 _ hk
    have h2 := flatE_get es hes i j hi hj'
    rw [List.getElem?_eq_getElem hk, List.getElem?_eq_getElem hj] at h2
    simp only [Option.some.injEq] at h2
    rw [h2] at h1; exact h1
theorem RL.mono {V V' : View} (h : V.le V') {arr cs} (r : RL V arr cs) : RL V' arr cs := ⟨r.1, fun i hi => (r.2 i hi).mono h⟩
theorem newFixed_cell {E : Env} {arr : Array Value} {elem : TypeId} : ∀ k, k < arr.size → (E.newFixed (.cells arr elem)).view.cell ⟨E.w.heap.size, k, none⟩ = some (arr.getD k undef) := by
  intro k hk
  refine Env.cell_of (by simp [Env.newFixed, Kind.stable]) ?_
  have : (E.newFixed (.cells arr elem)).w.heap[E.w.heap.size]? = some (.cells arr elem (0, 0)) := heap_alloc_new _ _
  rw [cell_row this, Array.getD_eq_getD_getElem?, Array.getElem?_eq_getElem hk]; rfl
theorem rl_zero {V : View} (z : Value) (hj : (ofConst z).isJunk = false) (n : Nat) :
    RL V ((Array.range (n * z.cells.size)).map (z.cells[· % z.cells.size]!)) (flatE (List.replicate n (ofConst z))) := by
  obtain ⟨c1, c2⟩ := (vrel_ofConst V z).not_junk_cells hj
  have hes : ∀ e ∈ List.replicate n (ofConst z), e.cells.length = z.cells.size := by
    intro e he; rw [(List.mem_replicate.1 he).2, c1]
  have hfl := flatE_length _ hes
  rw [List.length_replicate] at hfl
  refine ⟨by simp [hfl], fun k hk => ?_⟩
  rw [hfl] at hk
  have hsz : 0 < z.cells.size := by
    rcases Nat.eq_zero_or_pos z.cells.size with e | e
    · rw [e] at hk; simp at hk
    · exact e
  have hq : k / z.cells.size < n := (Nat.div_lt_iff_lt_mul hsz).2 hk
  have hm := Nat.mod_lt k hsz
  have g := flatE_get _ hes (k / z.cells.size) (k % z.cells.size) (by simpa using hq) hm
  rw [show k / z.cells.size * z.cells.size + k % z.cells.size = k by rw [Nat.mul_comm]; exact Nat.div_add_mod k _] at g
  have hk' : k < (flatE (List.replicate n (ofConst z))).length := by rw [hfl]; exact hk
  simp only [List.getElem_replicate] at g
  rw [List.getElem?_eq_getElem hk', List.getElem?_eq_getElem (by rw [← c1]; exact hm)] at g
  simp only [Option.some.injEq] at g
  rw [g]
  have := c2 _ (by rw [← c1]; exact hm)
  rw [Array.getD_eq_getD_getElem?] at this ⊢
  simp only [Array.getElem?_map, Array.getElem?_range, if_pos hk]
  simp only [Option.map_some, Option.getD_some]
  rw [getElem!_pos z.cells _ hm]
  rw [Array.getElem?_eq_getElem hm] at this
  exact this
section ops
variable {P : Program} {E : Env} {N : Nat} {a : Act} {T : Nat → PV} (ht : TRel E.view N a T)
include ht in
theorem sound_fillS (i : TI) : ∀ (ps : List (Nat × Operand)) (arr : Array Value) (es es' : List PV), RL E.view arr (flatE es) → (∀ e ∈ es, e.cells.length = i.sz) → ps.all (fun x => okOpnd N x.2) = true → abuildS i T es ps = some es' →
    ∃ arr', Instr.fill (fun k => some (k * i.sz, i.sz)) arr (ps.map fun (i, x) => (i, a.eval x)) = some arr' ∧ RL E.view arr' (flatE es') ∧ (∀ e ∈ es', e.cells.length = i.sz) ∧ es'.length = es.length
  | [], arr, es, es', h, hs, _, hb => by cases hb; exact ⟨arr, rfl, h, hs, rfl⟩
  | (k, x) :: rest, arr, es, es', h, hs, hok, hb => by
    simp only [List.all_cons, Bool.and_eq_true] at hok
    unfold abuildS at hb
    split at hb
    · rename_i hc
      obtain ⟨hc1, hk⟩ := hc
      obtain ⟨hc2, hc3⟩ := PV.fits_spec hc1
      have hr := vrel_eval ht x hok.1
      obtain ⟨c1, c2⟩ := hr.drop1_cells hc3
      have c3 : (a.eval x).cells.size = i.sz := by rw [c1, PV.drop1_cells_length, hc2]
      have hdl : (aev T x).drop1.cells.length = i.sz := by rw [PV.drop1_cells_length, hc2]
      have h' := foldl_splice (V := E.view) (a.eval x).cells.toList (aev T x).drop1.cells (k * i.sz) 0 arr (flatE es) h (by simp [c1]) (fun j hj => by
        have := c2 j hj
        rw [Array.getD_eq_getD_getElem?] at this
        rw [List.getD_eq_getElem?_getD, Array.getElem?_toList]
        exact this)
      rw [Nat.add_zero, splice_flatE es hs k hk _ hdl] at h'
      have hs' : ∀ e ∈ es.set k (aev T x).drop1, e.cells.length = i.sz := by
        intro e he
        rcases List.mem_or_eq_of_mem_set he with he | rfl
        · exact hs e he
        · exact hdl
      obtain ⟨arr', e1, e2, e3, e4⟩ := sound_fillS i rest _ _ es' h' hs' hok.2 hb
      refine ⟨arr', ?_, e2, e3, by rw [e4]; simp⟩
      simp only [List.map_cons, Instr.fill]
      have hfl := flatE_length es hs
      have hks : (k + 1) * i.sz ≤ es.length * i.sz := Nat.mul_le_mul_right _ hk
      rw [Nat.succ_mul] at hks
      rw [if_neg]
      · rw [← e1]
        congr 1
        rw [← Array.foldl_toList, Array.toList_zipIdx]
      · rw [c3, h.1, hfl]; simp; omega
    · cases hb
include ht in
theorem sound_buildSlice (ho : E.Ok) {t : TypeId} {n : Nat} {ps : Array (Nat × Operand)} (hok : ps.toList.all (fun x => okOpnd N x.2) = true) {ei : TypeId × TI} (hf : telem P t = some ei) {z : PV} (hz : tzero P ei.1 = some z)
    (hfit : z.fits ei.2 = true) (hs0 : 0 < ei.2.sz) (hsz : n * ei.2.sz ≤ 2 ^ 24) {es : List PV} (hb : abuildS ei.2 T (List.replicate n z) ps.toList = some es) :
    ∃ E' val, (Instr.buildSlice t n (ps.map fun (i, x) => (i, a.eval x))).run P E.w = .ok val E'.w ∧ E.le E' ∧ E'.Ok ∧ E'.H = E.H ∧ VRel E'.view val (.slice es .full) := by
  obtain ⟨e, i⟩ := ei
  obtain ⟨h1, h2⟩ := telem_some hf
  obtain ⟨d, f, h3, h4, rfl⟩ := tinfo_some h2
  obtain ⟨f', v, h5, h6, rfl⟩ := tzero_some hz
  simp only at hfit hs0 hsz hb h5
  rw [h4] at h5; cases h5
  obtain ⟨hc1, hc2⟩ := PV.fits_spec hfit
  simp only at hc1
  obtain ⟨c1, c2⟩ := (vrel_ofConst E.view v).not_junk_cells hc2
  have hvs : v.cells.size = f.size := c1.trans hc1
  have hrl := rl_zero (V := E.view) v hc2 n
  have hes : ∀ e ∈ List.replicate n (ofConst v), e.cells.length = f.size := by
    intro e he; rw [(List.mem_replicate.1 he).2, hc1]
  obtain ⟨arr', e1, e2, e3, e4⟩ := sound_fillS ht ⟨isAggD d, f.size, f.bytes⟩ ps.toList _ _ es hrl hes hok hb
  rw [List.length_replicate] at e4
  have hle := Env.newFixed_le ho (.cells arr' e)
  refine ⟨E.newFixed (.cells arr' e), .slice (some ⟨E.w.heap.size, 0, none⟩) n n, ?_, hle, ho.newFixed _, rfl, ?_⟩
  · simp only [Instr.buildSlice, Sem.run_bind, run_under h1, run_size h4, Result.andThen_ok]
    have hlt : ¬ n * f.size > 2 ^ 24 := by omega
    simp only [hlt, if_false, Sem.run_pure, Result.andThen_ok, Sem.run_ite, Sem.run_bind]
    by_cases hn : n * f.size = 0
    · have hn0 : n = 0 := by
        rcases Nat.mul_eq_zero.1 hn with h | h; · exact h
        · omega
      subst hn0
      simp only [Nat.zero_mul, if_true, Result.andThen_ok]
      simp only [Nat.zero_mul] at e1
      have e0 : Array.map (fun x => v.cells[x % v.cells.size]!) (Array.range 0) = Array.map (fun x => (#[] : Array Value)[x % (#[] : Array Value).size]!) (Array.range 0) := by simp
      rw [e0] at e1
      rw [Array.toList_map]
      simp only [e1, newRow, Sem.run_bind, run_newObj, Result.andThen_ok, Sem.run_pure]
      rfl
    · simp only [if_neg hn, run_zero h4 h6, Result.andThen_ok, Sem.run_bind, Sem.run_pure]
      rw [Array.toList_map]
      rw [hvs] at e1
      simp only [hvs, e1, newRow, Sem.run_bind, run_newObj, Result.andThen_ok, Sem.run_pure]
      rfl
  · refine vrel_slice_fixed (sz := f.size) newFixed_cell e3 (e2.mono hle.view) e4 ?_
    have : n ≤ n * f.size := Nat.le_mul_of_pos_right _ hs0
    unfold maxLen; omega
end ops
end Go.Abs
namespace Go.Abs
theorem VRel.int_inv {V : View} {v : Value} {k n} (h : VRel V v (.int k n)) : v = .int k n := by cases h; rfl
theorem VRel.bool_inv {V : View} {v : Value} {b} (h : VRel V v (.bool b)) : v = .bool b := by cases h; rfl
theorem VRel.agg_inv {V : View} {v : Value} {cs} (h : VRel V v (.agg cs)) : ∃ arr, v = .agg arr ∧ RL V arr cs := by cases h; exact ⟨_, rfl, ‹_›, ‹_›⟩
theorem VRel.tup_inv {V : View} {v : Value} {cs} (h : VRel V v (.tup cs)) : ∃ arr, v = .tuple arr ∧ RL V arr cs := by cases h; exact ⟨_, rfl, ‹_›, ‹_›⟩
theorem VRel.iptr_inv {V : View} {v : Value} {cs} (h : VRel V v (.iptr cs)) : ∃ (a : Addr) (vs : Nat → Value), v = .pointer (some a) ∧ (∀ j, j < cs.length → V.cell (a.add j) = some (vs j)) ∧ (∀ j (h : j < cs.length), VRel V (vs j) cs[j]) := by
  cases h; exact ⟨_, _, rfl, ‹_›, ‹_›⟩
theorem afld_get {cs : List PV} {off sz : Nat} {arr : Array Value} {V : View} (h : RL V arr cs) (hl : off + sz ≤ cs.length) : RL V (arr.extract off (off + sz)) ((cs.drop off).take sz) := by
  refine ⟨by simp [h.1]; omega, fun i hi => ?_⟩
  simp only [List.length_take, List.length_drop] at hi
  have := h.2 (off + i) (by omega)
  rw [List.getElem_take, List.getElem_drop]
  rw [Array.getD_eq_getD_getElem?] at this ⊢
  rw [Array.getElem?_extract, if_pos (by rw [h.1]; omega)]
  exact this
section ops
variable {P : Program} {E : Env} {N : Nat} {a : Act} {T : Nat → PV} (ht : TRel E.view N a T)
include ht
omit ht in
theorem tflds_get {t : TypeId} {fl : List (Nat × TI)} (hf : tflds P t = some fl) {k off : Nat} {i : TI} (hk : fl[k]? = some (off, i)) :
    ∃ fs f, P.underlying t = some (.struct fs) ∧ fs[k]? = some f ∧ f.offset = off ∧ tinfo P f.type = some i := by
  obtain ⟨fs, h1, h2⟩ := tflds_some hf
  have key : ∀ (l : List Field) (fl : List (Nat × TI)) (k : Nat), (l.mapM fun f => (tinfo P f.type).map fun i => (f.offset, i)) = some fl → fl[k]? = some (off, i) →
      ∃ f, l[k]? = some f ∧ f.offset = off ∧ tinfo P f.type = some i := by
    intro l
    induction l with
    | nil => intro fl k h hk; simp at h; subst h; simp at hk
    | cons f l ih =>
      intro fl k h hk
      rw [List.mapM_cons] at h
      cases h3 : tinfo P f.type with
      | none => rw [h3] at h; simp at h
      | some j =>
        cases h4 : l.mapM fun f => (tinfo P f.type).map fun i => (f.offset, i) with
        | none => rw [h3] at h; simp [h4] at h
        | some fl' =>
          rw [h3] at h; simp [h4] at h; subst h
          cases k with
          | zero => simp at hk; exact ⟨f, rfl, hk.1, by rw [h3, hk.2]⟩
          | succ k => simp at hk; simpa using ih fl' k h4 hk
  obtain ⟨f, h3, h4, h5⟩ := key fs.toList fl k h2 hk
  exact ⟨fs, f, h1, by simpa using h3, h4, h5⟩
theorem sound_fieldAddr {t : TypeId} {k : Nat} {x : Operand} (hx : okOpnd N x = true) {fl : List (Nat × TI)} (hf : tflds P t = some fl) {v : PV} (hv : afldAddr fl k (aev T x) = some v) :
    ∃ val, (Instr.fieldAt t (a.eval x) k).run P E.w = .ok val E.w ∧ VRel E.view val v := by
  have hr := vrel_eval ht x hx
  generalize a.eval x = ax at hr
  generalize aev T x = px at hr hv
  unfold afldAddr at hv
  split at hv
  · rename_i off i hk
    obtain ⟨fs, f, h1, h2, h3, h4⟩ := tflds_get hf hk
    obtain ⟨d, g, h5, h6, rfl⟩ := tinfo_some h4
    split at hv
    · cases hv
    · rename_i hz
      simp only at hz
      have hplace : ∀ ad : Addr, (fieldPlace ad f).run P E.w = .ok (ad.add off) E.w := by
        intro ad
        simp only [fieldPlace, Sem.run_bind, run_size h6, Result.andThen_ok, if_neg hz, Sem.run_pure, h3]
      have hrun : ∀ ad : Addr, (Instr.fieldAt t (.pointer (some ad)) k).run P E.w = .ok (.pointer (some (ad.add off))) E.w := by
        intro ad
        simp only [Instr.fieldAt, Sem.run_bind, run_under h1, Result.andThen_ok, h2, Instr.sureAddr, Sem.run_pure, hplace]
      split at hv
      · cases hv
        obtain ⟨rfl, hb⟩ := hr.optr_inv
        refine ⟨_, hrun _, ?_⟩
        rw [add_plain]; exact .optr _ _ hb
      · rename_i cs
        cases hv
        obtain ⟨ad, vs, rfl, hc, hr⟩ := hr.iptr_inv
        refine ⟨_, hrun _, .iptr _ _ (fun j => vs (off + j)) ?_ ?_⟩
        · intro j hj
          rw [List.length_drop] at hj
          rw [add_add]; exact hc _ (by omega)
        · intro j hj
          rw [List.length_drop] at hj
          rw [List.getElem_drop]; exact hr _ _
      · cases hv
  · cases hv
theorem sound_field {t : TypeId} {k : Nat} {x : Operand} (hx : okOpnd N x = true) {fl : List (Nat × TI)} (hf : tflds P t = some fl) {v : PV} (hv : afld fl k (aev T x) = some v) :
    ∃ val, (Instr.field t (a.eval x) k).run P E.w = .ok val E.w ∧ VRel E.view val v := by
  have hr := vrel_eval ht x hx
  generalize a.eval x = ax at hr
  generalize aev T x = px at hr hv
  unfold afld at hv
  split at hv
  · rename_i off i cs hk
    obtain ⟨fs, f, h1, h2, h3, h4⟩ := tflds_get hf hk
    obtain ⟨d, g, h5, h6, rfl⟩ := tinfo_some h4
    obtain ⟨arr, rfl, hrl⟩ := hr.agg_inv
    split at hv
    · rename_i hl
      simp only at hl hv
      split at hv
      · rename_i hagg
        cases hv
        have := afld_get hrl hl
        refine ⟨.agg (arr.extract off (off + g.size)), ?_, .agg _ _ this.1 this.2⟩
        simp only [Instr.field, Sem.run_bind, run_under h1, Result.andThen_ok, h2, asAgg, Sem.run_pure, part, run_agg h5, hagg, if_true, run_size h6, h3]
      · rename_i hagg
        have hlt := len_of_get hv
        have hc := hrl.2 off hlt
        rw [List.getElem?_eq_getElem hlt] at hv; cases hv
        have hg : arr[off]? = some (arr.getD off undef) := by
          rw [Array.getD_eq_getD_getElem?, Array.getElem?_eq_getElem (by rw [hrl.1]; exact hlt)]; rfl
        refine ⟨arr.getD off undef, ?_, hc⟩
        simp only [Bool.not_eq_true] at hagg
        simp only [Instr.field, Sem.run_bind, run_under h1, Result.andThen_ok, h2, asAgg, Sem.run_pure, part, run_agg h5, hagg, Bool.false_eq_true, if_false, h3, hg]
    · cases hv
  · cases hv
omit ht in
theorem aidx_some {V : View} {i : Value} {p : PV} {n k : Nat} (hr : VRel V i p) (h : aidx p n = some k) : ∃ kd j, i = .int kd j ∧ 0 ≤ j ∧ j < n ∧ j.toNat = k := by
  unfold aidx at h
  split at h
  · rename_i kd j
    split at h
    · rename_i hc; cases h; exact ⟨kd, j, hr.int_inv, hc.1, hc.2, rfl⟩
    · cases h
  · cases h
theorem sound_indexAddr {t : TypeId} {x i : Operand} (hx : okOpnd N x = true) (hi : okOpnd N i = true) {ei : TypeId × TI} (hf : telem P t = some ei) {v : PV} (hv : aidxAddr ei (aev T x) (aev T i) = some v) :
    ∃ val, (Instr.indexAt t (a.eval x) (a.eval i)).run P E.w = .ok val E.w ∧ VRel E.view val v := by
  obtain ⟨e, ti⟩ := ei
  obtain ⟨h1, h2⟩ := telem_some hf
  obtain ⟨d, f, h3, h4, rfl⟩ := tinfo_some h2
  have hr := vrel_eval ht x hx
  have hr' := vrel_eval ht i hi
  generalize a.eval x = ax at hr
  generalize aev T x = px at hr hv
  generalize a.eval i = ai at hr'
  generalize aev T i = pi at hr' hv
  have hrun : ∀ (ad : Addr) (len cap : Nat) (kd : IntKind) (j : Int), 0 ≤ j → j < len → (Instr.indexAt t (.slice (some ad) len cap) (.int kd j)).run P E.w = .ok (.pointer (some (ad.add (j.toNat * f.size)))) E.w := by
    intro ad len cap kd j h5 h6
    simp only [Instr.indexAt, asIntOf, Sem.run_bind, Sem.run_pure, Result.andThen_ok, run_under h1, run_size h4, if_pos (And.intro h5 h6), Sem.run_ite]
  unfold aidxAddr at hv
  split at hv
  · rename_i es tl
    cases hk : aidx pi es.length with
    | none => rw [hk] at hv; cases hv
    | some k =>
      rw [hk] at hv
      obtain ⟨kd, j, rfl, h5, h6, rfl⟩ := aidx_some hr' hk
      simp only [Option.bind_some] at hv
      have hlt : j.toNat < es.length := by omega
      rw [List.getElem?_eq_getElem hlt] at hv
      simp only [Option.bind_some] at hv
      split at hv
      · rename_i hes
        cases hv
        cases hr with
        | nils _ _ => simp at hlt
        | slice ad len cap sz _ _ vs hlen hcap hmax hsz hc hr htl =>
          refine ⟨_, hrun ad len cap kd j h5 (by omega), ?_⟩
          have hs := hsz _ hlt
          have hszf : sz = f.size := by rw [← hs]; exact hes
          refine .iptr _ _ (fun q => vs j.toNat q) (fun q hq => ?_) (fun q hq => hr _ q hlt hq)
          rw [add_add]
          have := hc j.toNat q (by omega) (by omega)
          rw [hszf] at this; exact this
      · cases hv
  · rename_i id off n c
    cases hk : aidx pi n with
    | none => rw [hk] at hv; cases hv
    | some k =>
      rw [hk] at hv
      obtain ⟨kd, j, rfl, h5, h6, rfl⟩ := aidx_some hr' hk
      cases hv
      cases hr with
      | msl _ _ _ _ hb hm =>
        refine ⟨_, hrun _ n c kd j h5 h6, ?_⟩
        rw [add_plain]; exact .optr _ _ hb
  · cases hv
theorem sound_index {t : TypeId} {x i : Operand} (hx : okOpnd N x = true) (hi : okOpnd N i = true) {s : List UInt8} (hs : aev T x = .str s) (hst : tstr P t = true) {k : Nat} (hk : aidx (aev T i) s.length = some k) {b : UInt8} (hb : s[k]? = some b) :
    (Instr.index t (a.eval x) (a.eval i)).run P E.w = .ok (.int .u8 b.toNat) E.w := by
  have hr := vrel_eval ht x hx
  have hr' := vrel_eval ht i hi
  rw [hs] at hr
  obtain ⟨kd, j, e, h5, h6, rfl⟩ := aidx_some hr' hk
  rw [e]
  unfold tstr at hst
  split at hst
  · rename_i hu
    generalize a.eval x = ax at hr
    cases hr with
    | str s =>
      have hb' : s[j.toNat]? = some b := by
        rw [← hb]
        simp only [Array.getElem?_toList]
        rfl
      simp only [Instr.index, asIntOf, Sem.run_bind, Sem.run_pure, Result.andThen_ok, run_under hu, if_pos h5, hb']
  · cases hst
theorem sound_extract {x : Operand} (hx : okOpnd N x = true) {vs : List PV} (hs : aev T x = .tup vs) {k : Nat} {v : PV} (hk : vs[k]? = some v) :
    ∃ val, (Instr.extract (a.eval x) k).run P E.w = .ok val E.w ∧ VRel E.view val v := by
  have hr := vrel_eval ht x hx
  rw [hs] at hr
  obtain ⟨arr, e, hrl⟩ := hr.tup_inv
  rw [e]
  have hlt := len_of_get hk
  rw [List.getElem?_eq_getElem hlt] at hk; cases hk
  have hg : arr[k]? = some (arr.getD k undef) := by
    rw [Array.getD_eq_getD_getElem?, Array.getElem?_eq_getElem (by rw [hrl.1]; exact hlt)]; rfl
  exact ⟨_, by simp only [Instr.extract, hg, Sem.run_pure], hrl.2 _ hlt⟩
end ops
end Go.Abs
namespace Go.Abs
theorem extract_toList (s : ByteArray) (l h : Nat) : (s.extract l h).data.toList = (s.data.toList.take h).drop l := by
  rw [ByteArray.data_extract, Array.toList_extract]
  rw [List.extract_eq_take_drop, List.drop_take]
theorem abnd_some {V : View} {i : Value} {p : PV} {n k : Nat} (hr : VRel V i p) (h : abnd p n = some k) : ∃ kd j, i = .int kd j ∧ 0 ≤ j ∧ j ≤ n ∧ j.toNat = k := by
  unfold abnd at h
  split at h
  · rename_i kd j
    split at h
    · rename_i hc; cases h; exact ⟨kd, j, hr.int_inv, hc.1, hc.2, rfl⟩
    · cases h
  · cases h
theorem run_bound {P : Program} {V : View} {w : World} {i : Value} {p : PV} {n k : Nat} {c : BoundsCode} (hr : VRel V i p) (m : Nat) (hm : n ≤ m) (h : abnd p n = some k) : (Instr.sliceBound i m c).run P w = .ok k w ∧ k ≤ n := by
  obtain ⟨kd, j, rfl, h1, h2, rfl⟩ := abnd_some hr h
  have : 0 ≤ j ∧ j ≤ m := ⟨h1, by omega⟩
  refine ⟨?_, by omega⟩
  simp only [Instr.sliceBound, asIntOf, Sem.run_bind, Sem.run_pure, Result.andThen_ok, if_pos this, Sem.run_ite]
section ops
variable {P : Program} {E : Env} {N : Nat} {a : Act} {T : Nat → PV} (ht : TRel E.view N a T)
include ht
theorem run_boundO {w : World} {x : Option Operand} (hx : x.all (okOpnd N) = true) {n d k : Nat} (m : Nat) (hm : n ≤ m) {c : BoundsCode} (h : abndO T x n d = some k) :
    ((match x.map a.eval with | some v => Instr.sliceBound v m c | none => pure d : Sem Nat)).run P w = .ok k w ∧ (k ≤ n ∨ (x = none ∧ k = d)) := by
  cases x with
  | none => simp [abndO] at h; subst h; exact ⟨rfl, .inr ⟨rfl, rfl⟩⟩
  | some x =>
    simp only [abndO] at h
    have := run_bound (P := P) (w := w) (c := c) (vrel_eval ht x (by simpa using hx)) m hm h
    exact ⟨this.1, .inl this.2⟩
theorem sound_slice {t : TypeId} {x : Operand} {lo hi mx : Option Operand} (hx : okOpnd N x = true) (hlo : lo.all (okOpnd N) = true) (hhi : hi.all (okOpnd N) = true) (hmx : mx.all (okOpnd N) = true) {v : PV}
    (hv : aslice P T t (aev T x) lo hi mx = some v) :
    ∃ val, (Instr.sliceAt t (a.eval x) (lo.map a.eval) (hi.map a.eval) (mx.map a.eval)).run P E.w = .ok val E.w ∧ VRel E.view val v := by
  have hr := vrel_eval ht x hx
  generalize a.eval x = ax at hr
  generalize aev T x = px at hr hv
  unfold aslice at hv
  split at hv
  · rename_i s
    split at hv
    · rename_i hc
      obtain ⟨hst, hmn⟩ := hc
      obtain rfl : mx = none := by cases mx <;> simp_all
      cases hh : abndO T hi s.length s.length with
      | none => rw [hh] at hv; cases hv
      | some h =>
        rw [hh] at hv; simp only [Option.bind_some] at hv
        cases hl : abndO T lo h 0 with
        | none => rw [hl] at hv; cases hv
        | some l =>
          rw [hl] at hv; simp only [Option.bind_some, Option.some.injEq] at hv; subst hv
          unfold tstr at hst
          split at hst
          · rename_i hu
            cases hr with
            | str s =>
              have hsz : s.data.toList.length = s.size := Array.length_toList
              rw [hsz] at hh
              have h1 := run_boundO (P := P) ht (w := E.w) hhi s.size (Nat.le_refl _) (c := .sliceAlen) hh
              have h2 := run_boundO (P := P) ht (w := E.w) hlo h (Nat.le_refl _) (c := .sliceB) hl
              refine ⟨.string (s.extract l h), ?_, ?_⟩
              · simp only [Instr.sliceAt, Sem.run_bind, run_under hu, Result.andThen_ok, Instr.slice, Option.map_none, Option.isSome_none, Bool.false_eq_true, if_false, Instr.sliceBounds, Sem.run_pure]
                have e1 := h1.1
                have e2 := h2.1
                cases hi with
                | none =>
                  cases lo with
                  | none => simp only [Option.map_none, Sem.run_pure, Result.ok.injEq, and_true] at e1 e2 ⊢; subst e1; subst e2; simp
                  | some lo => simp only [Option.map_none, Option.map_some, Sem.run_pure, Result.ok.injEq, and_true] at e1 e2 ⊢; subst e1; simp [e2]
                | some hi =>
                  cases lo with
                  | none => simp only [Option.map_none, Option.map_some, Sem.run_pure, Result.ok.injEq, and_true] at e1 e2 ⊢; subst e2; simp [e1]
                  | some lo => simp only [Option.map_some, Sem.run_pure, Result.ok.injEq, and_true] at e1 e2 ⊢; simp [e1, e2]
              · rw [← extract_toList]; exact .str _
          · cases hst
    · cases hv
  · rename_i es tl
    split at hv
    · rename_i e i htel
      split at hv
      · rename_i hsz0
        obtain ⟨hu, hti⟩ := telem_some htel
        obtain ⟨d, f, h3, h4, rfl⟩ := tinfo_some hti
        simp only at hsz0
        obtain ⟨ad, len, cap, rfl, hlen, hcap, hmax, hres⟩ : ∃ (ad : Option Addr) (len cap : Nat), ax = .slice ad len cap ∧ es.length = len ∧ len ≤ cap ∧ cap ≤ maxLen ∧
            ∀ l h m tl', l ≤ h → h ≤ len → h ≤ m → m ≤ cap → TailOk E.view tl' (if m = l then ad else ad.map (·.add (l * f.size))) (h - l) (m - l) →
              VRel E.view (.slice (if m = l then ad else ad.map (·.add (l * f.size))) (h - l) (m - l)) (.slice ((es.take h).drop l) tl') := by
          cases hr with
          | nils _ _ =>
            refine ⟨none, 0, 0, rfl, rfl, Nat.le_refl _, Nat.zero_le _, ?_⟩
            intro l h m tl' h1 h2 h3 h4 h5
            obtain rfl : m = 0 := by omega
            obtain rfl : h = 0 := by omega
            obtain rfl : l = 0 := by omega
            simp only [if_true, Nat.sub_self, List.take_nil, List.drop_nil] at h5 ⊢
            exact .nils _ h5
          | slice ad len cap sz _ _ vs hlen hcap hmax hsz hc hr htl =>
            refine ⟨some ad, len, cap, rfl, hlen, hcap, hmax, ?_⟩
            intro l h m tl' h1 h2 h3 h4 h5
            have hval : (if m = l then some ad else Option.map (fun x : Addr => x.add (l * f.size)) (some ad)) = some (if m = l then ad else ad.add (l * f.size)) := by split <;> rfl
            rw [hval] at h5 ⊢
            have hle : ((es.take h).drop l).length = h - l := by simp; omega
            have hget : ∀ i, (hi : i < ((es.take h).drop l).length) → ((es.take h).drop l)[i] = es[l + i]'(by rw [hle] at hi; omega) := by
              intro i hi; rw [List.getElem_drop, List.getElem_take]
            refine .slice _ _ _ sz _ _ (fun i j => vs (l + i) j) hle (by omega) (by omega) (fun i hi => ?_) (fun i j hi hj => ?_) (fun i j hi hj => ?_) h5
            · rw [hget i hi]; exact hsz _ _
            · have hne : ¬ m = l := by omega
              rw [if_neg hne, add_add]
              have hli : l + i < es.length := by omega
              have hss : sz = f.size := by rw [← hsz _ hli]; exact hsz0 _ (List.getElem_mem hli)
              have := hc (l + i) j (by omega) hj
              rw [← this, ← hss, Nat.add_mul, Nat.add_assoc]
            · have hj' := hj
              simp only [hget i hi] at hj' ⊢
              exact hr _ _ _ _
        have hrun : ∀ (l h m : Nat), (Instr.sliceBounds true len cap (lo.map a.eval) (hi.map a.eval) (mx.map a.eval)).run P E.w = .ok (l, h, m) E.w →
            (Instr.sliceAt t (.slice ad len cap) (lo.map a.eval) (hi.map a.eval) (mx.map a.eval)).run P E.w = .ok (.slice (if m = l then ad else ad.map (·.add (l * f.size))) (h - l) (m - l)) E.w := by
          intro l h m hb
          simp only [Instr.sliceAt, Sem.run_bind, run_under hu, Result.andThen_ok, Instr.slice, hb, run_size h4, Sem.run_pure]
        have htail : TailOk E.view tl ad len cap := by
          cases hr with
          | nils _ h => exact h
          | slice => assumption
        split at hv
        · -- no max
          cases hh : abndO T hi es.length es.length with
          | none => rw [hh] at hv; cases hv
          | some h =>
            rw [hh] at hv; simp only [Option.bind_some] at hv
            cases hl : abndO T lo h 0 with
            | none => rw [hl] at hv; cases hv
            | some l =>
              rw [hl] at hv; simp only [Option.bind_some, Option.some.injEq] at hv; subst hv
              rw [hlen] at hh
              have h1 := run_boundO (P := P) ht (w := E.w) hhi cap hcap (c := .sliceAcap) hh
              have h2 := run_boundO (P := P) ht (w := E.w) hlo h (Nat.le_refl _) (c := .sliceB) hl
              have hhl : h ≤ len := by rcases h1.2 with h | ⟨_, h⟩ <;> omega
              have hll : l ≤ h := by rcases h2.2 with h | ⟨_, h⟩ <;> omega
              refine ⟨_, hrun l h cap ?_, hres l h cap _ hll hhl (by omega) (Nat.le_refl _) ?_⟩
              · simp only [Instr.sliceBounds, Option.map_none, Sem.run_bind, Sem.run_pure, Result.andThen_ok, Option.isSome_none, Bool.false_eq_true, if_false]
                have e1 := h1.1
                have e2 := h2.1
                cases hi with
                | none =>
                  cases lo with
                  | none => simp only [Option.map_none, Sem.run_pure, Result.ok.injEq, and_true] at e1 e2 ⊢; subst e1; subst e2; simp
                  | some lo => simp only [Option.map_none, Option.map_some, Sem.run_pure, Result.ok.injEq, and_true] at e1 e2 ⊢; subst e1; simp [e2]
                | some hi =>
                  cases lo with
                  | none => simp only [Option.map_none, Option.map_some, Sem.run_pure, Result.ok.injEq, and_true] at e1 e2 ⊢; subst e2; simp [e1]
                  | some lo => simp only [Option.map_some, Sem.run_pure, Result.ok.injEq, and_true] at e1 e2 ⊢; simp [e1, e2]
              · split
                · rename_i hc
                  obtain ⟨hc1, rfl⟩ := hc
                  have : cap = len := htail
                  show cap - l = h - l
                  omega
                · split
                  · rename_i hc
                    obtain ⟨hc1, hc2⟩ := hc
                    obtain rfl : hi = none := by cases hi <;> simp_all
                    obtain rfl : lo = none := by cases lo <;> simp_all
                    simp [abndO] at hh hl
                    subst hh; subst hl
                    simp only [Nat.sub_zero, Nat.zero_mul, add_zero', Option.map_id_fun', id_eq, ite_self]
                    have e : (if cap = 0 then ad else Option.map (fun x : Addr => x) ad) = ad := by split <;> simp
                    simpa using htail
                  · trivial
        · -- with a max
          rename_i m
          split at hv
          · cases hv
          · rename_i hh
            cases hm : abnd (aev T m) es.length with
            | none => rw [hm] at hv; cases hv
            | some m' =>
              rw [hm] at hv; simp only [Option.bind_some] at hv
              cases hhb : abnd (aev T hh) m' with
              | none => rw [hhb] at hv; cases hv
              | some h' =>
                rw [hhb] at hv; simp only [Option.bind_some] at hv
                cases hl : abndO T lo h' 0 with
                | none => rw [hl] at hv; cases hv
                | some l =>
                  rw [hl] at hv; simp only [Option.bind_some, Option.some.injEq] at hv; subst hv
                  rw [hlen] at hm
                  have g1 := run_bound (P := P) (w := E.w) (c := .slice3Acap) (vrel_eval ht m (by simpa using hmx)) cap hcap hm
                  have g2 := run_bound (P := P) (w := E.w) (c := .slice3B) (vrel_eval ht hh (by simpa using hhi)) m' (Nat.le_refl _) hhb
                  have h2 := run_boundO (P := P) ht (w := E.w) hlo h' (Nat.le_refl _) (c := .slice3C) hl
                  have hll : l ≤ h' := by rcases h2.2 with h | ⟨_, h⟩ <;> omega
                  refine ⟨_, hrun l h' m' ?_, hres l h' m' _ hll (by omega) g2.2 (by omega) ?_⟩
                  · simp only [Instr.sliceBounds, Option.map_some, Sem.run_bind, Sem.run_pure, Result.andThen_ok, Option.isSome_some, if_true, g1.1, g2.1]
                    have e2 := h2.1
                    cases lo with
                    | none => simp only [Option.map_none, Sem.run_pure, Result.ok.injEq, and_true] at e2 ⊢; subst e2; simp
                    | some lo => simp only [Option.map_some] at e2 ⊢; simp [e2]
                  · split
                    · rename_i e; subst e; rfl
                    · trivial
      · cases hv
    · cases hv
  · cases hv
end ops
end Go.Abs
namespace Go.Abs
theorem growBy_le (n : Nat) : ∀ (r c : Nat), 256 ≤ c → c ≤ 2 * n → Builtin.growBy n r c ≤ 2 * n
  | 0, c, _, h => h
  | r + 1, c, h1, h => by
    unfold Builtin.growBy
    split
    · exact h
    · exact growBy_le n r _ (by omega) (by omega)
theorem nextslicecap_le (n old : Nat) (h : old ≤ n) : Builtin.nextslicecap n old ≤ 2 * n := by
  unfold Builtin.nextslicecap
  split
  · omega
  · split
    · omega
    · exact growBy_le n 4 old (by omega) (by omega)
theorem run_ask {P : Program} {w : World} (n : Nat) : (askRoom n).run P w = .ok () w := by
  unfold askRoom; split <;> rfl
theorem run_choose_cap {P : Program} {w : World} (need old : Nat) (e : TypeId) : ∃ c, (choose (.appendCap need old e)).run P w = .ok c w.drew ∧ need ≤ c ∧ (need < 2 ^ 63 → c < 2 ^ 63) := by
  refine ⟨need + w.tape w.drawn (.appendCap need old e) % (2 ^ 63 - need), ?_, by omega, fun h => ?_⟩
  · simp only [choose, Sem.run, Question.forced, Bool.false_eq_true, if_false, Question.cut]; rfl
  · have := Nat.mod_lt (w.tape w.drawn (.appendCap need old e)) (show 0 < 2 ^ 63 - need by omega)
    omega
theorem run_first {P : Program} {E : Env} {v : Value} {es : List PV} {tl : Tail} (h : VRel E.view v (.slice es tl)) {sz : Nat} (hs : ∀ e ∈ es, e.cells.length = sz) :
    ∃ arr, (Builtin.firstCells sz es.length v).run P E.w = .ok arr E.w ∧ RL E.view arr (flatE es) ∧ ∃ ad cap, v = .slice ad es.length cap ∧ es.length ≤ cap ∧ cap ≤ maxLen ∧ TailOk E.view tl ad es.length cap := by
  cases h with
  | nils _ ht => exact ⟨#[], rfl, ⟨rfl, fun i h => absurd h (by simp [flatE])⟩, none, 0, rfl, Nat.le_refl _, Nat.zero_le _, ht⟩
  | slice ad len cap sz' _ _ vs hlen hcap hmax hsz hc hr ht =>
    subst hlen
    have hfl := flatE_length es hs
    by_cases h0 : es.length * sz = 0
    · refine ⟨#[], ?_, ⟨?_, fun i h => ?_⟩, some ad, cap, rfl, hcap, hmax, ht⟩
      · simp only [Builtin.firstCells, h0, loadCells, loadCellsFrom, Sem.run_pure]
      · rw [hfl, h0]; rfl
      · rw [hfl, h0] at h; omega
    · have hpos : 0 < es.length := by
        rcases Nat.eq_zero_or_pos es.length with e | e; · rw [e] at h0; simp at h0
        · exact e
      have hszpos : 0 < sz := by
        rcases Nat.eq_zero_or_pos sz with e | e; · rw [e] at h0; simp at h0
        · exact e
      have hss : sz' = sz := by rw [← hsz 0 hpos]; exact hs _ (List.getElem_mem hpos)
      subst hss
      have hdm : ∀ k, k < es.length * sz' → k / sz' < es.length ∧ k % sz' < sz' ∧ k = k / sz' * sz' + k % sz' := fun k hk =>
        ⟨(Nat.div_lt_iff_lt_mul hszpos).2 hk, Nat.mod_lt k hszpos, by rw [Nat.mul_comm]; exact (Nat.div_add_mod k sz').symm⟩
      have hf : ∀ k, k < es.length * sz' → E.w.cell? (ad.add k) = some (vs (k / sz') (k % sz')) := by
        intro k hk
        obtain ⟨h1, h2, h3⟩ := hdm k hk
        have := Env.cell_stable (hc _ _ h1 h2)
        rw [← h3] at this; exact this
      refine ⟨_, run_loadCells E.w ad _ (fun k => vs (k / sz') (k % sz')) hf, ⟨by simp [hfl], fun k hk => ?_⟩, some ad, cap, rfl, hcap, hmax, ht⟩
      have hk' := hk
      rw [hfl] at hk'
      obtain ⟨h1, h2, h3⟩ := hdm k hk'
      have hj : k % sz' < es[k / sz'].cells.length := by rw [hsz _ h1]; exact h2
      have g := flatE_get es hs _ _ h1 h2
      rw [← h3, List.getElem?_eq_getElem hk, List.getElem?_eq_getElem hj] at g
      simp only [Option.some.injEq] at g
      rw [g, Array.getD_eq_getD_getElem?]
      simp only [List.getElem?_toArray, List.getElem?_map, List.getElem?_range hk', Option.map_some, Option.getD_some]
      exact hr _ _ h1 hj
theorem rl_append {V : View} {a1 a2 : Array Value} {c1 c2 : List PV} (h1 : RL V a1 c1) (h2 : RL V a2 c2) : RL V (a1 ++ a2) (c1 ++ c2) := by
  refine ⟨by simp [h1.1, h2.1], fun i hi => ?_⟩
  rw [Array.getD_eq_getD_getElem?, Array.getElem?_append]
  by_cases h : i < c1.length
  · rw [if_pos (by rw [h1.1]; exact h), List.getElem_append_left h, ← Array.getD_eq_getD_getElem?]
    exact h1.2 i h
  · rw [if_neg (by rw [h1.1]; exact h), List.getElem_append_right (by omega), h1.1, ← Array.getD_eq_getD_getElem?]
    exact h2.2 _ _
theorem flatE_append (a b : List PV) : flatE (a ++ b) = flatE a ++ flatE b := by simp [flatE]
theorem vrel_slice_front {V : View} {b n cap : Nat} {arr : Array Value} {es : List PV} {sz : Nat} {tl : Tail} (hcell : ∀ k, k < es.length * sz → V.cell ⟨b, k, none⟩ = some (arr.getD k undef))
    (hes : ∀ e ∈ es, e.cells.length = sz) (hrl : ∀ k (h : k < (flatE es).length), VRel V (arr.getD k undef) (flatE es)[k]) (hn : es.length = n) (hc : n ≤ cap) (hm : cap ≤ maxLen) (ht : TailOk V tl (some ⟨b, 0, none⟩) n cap) :
    VRel V (.slice (some ⟨b, 0, none⟩) n cap) (.slice es tl) := by
  have hfl := flatE_length es hes
  have hlt : ∀ i j, i < es.length → j < sz → i * sz + j < es.length * sz := by
    intro i j hi hj
    have : (i + 1) * sz ≤ es.length * sz := Nat.mul_le_mul_right _ (by omega)
    rw [Nat.succ_mul] at this; omega
  refine .slice _ n cap sz es tl (fun i j => arr.getD (i * sz + j) undef) hn hc hm (fun i h => hes _ (List.getElem_mem h)) ?_ ?_ ht
  · intro i j hi hj
    rw [add_plain, Nat.zero_add]
    exact hcell _ (hlt i j (by omega) hj)
  · intro i j hi hj
    have hl := hes _ (List.getElem_mem hi)
    have hj' : j < sz := by omega
    have hk : i * sz + j < (flatE es).length := by rw [hfl]; exact hlt i j hi hj'
    have h1 := hrl _ hk
    have h2 := flatE_get es hes i j hi hj'
    rw [List.getElem?_eq_getElem hk, List.getElem?_eq_getElem hj] at h2
    simp only [Option.some.injEq] at h2
    rw [h2] at h1; exact h1
def Env.growIn (E : Env) (id n sz b off pos cend : Nat) (vs : List Value) : Env :=
  { w := setCells E.w ⟨b, off, none⟩ vs 0, κ := fun x => if x = b then .buf pos cend else E.κ x, ρ := E.ρ, tb := E.tb, H := E.H.set id (.buf n sz) }
section growIn
variable {E : Env} (h : E.Ok) {id n0 n sz b off pos cend : Nat} (hi : E.H[id]? = some (.buf n0 sz)) (hn : n0 < n) (hb : E.tb id = some b) (hk : E.κ b = .buf off cend) (vs : List Value) (hp : off + vs.length = pos)
include h hi hn hb hk hp
theorem Env.growIn_view : E.view.le (E.growIn id n sz b off pos cend vs).view := by
  have hlen := len_of_get hi
  obtain ⟨arr, elem, pos', h1, h2⟩ := h.bufs id n0 sz b hi hb
  obtain ⟨arr', g1, g2, g3⟩ := setCells_eq b off elem (0, 0) vs 0 E.w arr h1
  refine ⟨fun a u hc => ?_, fun x hb' => ?_, fun x hb' => rfl, fun x t' hb' ht => ?_⟩
  · simp only [Env.view] at hc ⊢
    split at hc
    · rename_i hs
      by_cases e : a.block = b
      · rw [e, hk] at hs
        simp only [Kind.stable, decide_eq_true_eq] at hs
        have hst : (Kind.buf pos cend).stable a.off = true := by simp only [Kind.stable, decide_eq_true_eq]; omega
        simp only [Env.growIn, if_pos e, hst, if_true]
        unfold World.cell? at hc ⊢
        rw [e, h1] at hc
        rw [e, g1]
        simp only at hc ⊢
        split at hc
        · cases hc
        · rename_i hsp
          rw [if_neg hsp]
          have hlt : a.off < arr.size := by
            rcases Nat.lt_or_ge a.off arr.size with q | q
            · exact q
            · rw [Array.getElem?_eq_none q] at hc; cases hc
          rw [g3 _ hlt, if_neg (by omega)]; exact hc
      · simp only [Env.growIn, if_neg e, hs, if_true]
        rw [cell?_congr (setCells_ne _ _ e vs 0 E.w)]; exact hc
    · cases hc
  · obtain ⟨o, a1, a2⟩ := hb'
    by_cases e : x = id
    · exact ⟨.buf n sz, by simp only [Env.growIn, get_set hlen, if_pos e], by simp⟩
    · exact ⟨o, by simp only [Env.growIn, get_set hlen, if_neg e]; exact a1, a2⟩
  · by_cases e : x = id
    · subst e
      refine ⟨_, by simp only [Env.view, hi]; rfl, .inr ?_⟩
      simp only [Env.view, Env.growIn, get_set hlen, if_true] at ht
      cases ht; exact hn
    · refine ⟨t', ?_, .inl rfl⟩
      simp only [Env.view, Env.growIn, get_set hlen, if_neg e] at ht ⊢
      split at ht
      · rename_i n' sz' hx
        rw [← ht]
        cases htb : E.tb x with
        | none => rfl
        | some b' =>
          have hne : b' ≠ b := by rintro rfl; exact e (h.injb x id _ _ _ _ _ hx hi htb hb)
          simp only [Option.bind_some, if_neg hne]
      · cases ht
theorem Env.growIn_le : E.le (E.growIn id n sz b off pos cend vs) := by
  have hlen := len_of_get hi
  obtain ⟨o1, o2, o3, o4⟩ := setCells_os ⟨b, off, none⟩ vs 0 E.w
  refine ⟨o1, o2, o3, by show _ ≤ (setCells _ _ _ _).heap.size; omega, fun x hx hnb => ?_, Env.growIn_view h hi hn hb hk vs hp, fun x hx => Or.imp ?_ (Or.imp ?_ (Env.ownsObj_of fun x k hx => ?_))⟩
  · have hne : x ≠ b := by rintro rfl; exact hnb (.inr (.inl ⟨id, n0, sz, hi, hb⟩))
    exact ⟨by simp only [Env.growIn, if_neg hne], setCells_ne _ _ hne vs 0 E.w⟩
  · rintro ⟨y, cs, a1, a2⟩
    simp only [Env.growIn, get_set hlen] at a1 a2
    split at a1
    · cases a1
    · exact ⟨y, cs, a1, a2⟩
  · rintro ⟨y, m, s, a1, a2⟩
    simp only [Env.growIn, get_set hlen] at a1 a2
    split at a1
    · rename_i e; subst e; exact ⟨y, n0, sz, hi, a2⟩
    · exact ⟨y, m, s, a1, a2⟩
  · simp only [Env.growIn, get_set hlen] at hx
    split at hx
    · cases hx
    · exact ⟨hx, rfl⟩
theorem Env.Ok.growIn : (E.growIn id n sz b off pos cend vs).Ok := by
  have hlen := len_of_get hi
  have hv := Env.growIn_view h hi hn hb hk vs hp
  obtain ⟨arr, elem, pos', h1, h2⟩ := h.bufs id n0 sz b hi hb
  obtain ⟨arr', g1, g2, g3⟩ := setCells_eq b off elem (0, 0) vs 0 E.w arr h1
  have hcend : cend = arr.size := by rw [hk] at h2; cases h2; rfl
  refine ⟨?_, ?_, ?_, ?_, h.globs_of hv.cell (by intro x b vs hx; simp only [Env.growIn, get_set hlen] at hx; split at hx <;> first | exact hx | cases hx), h.objs.of hv fun x k hx => ?_⟩
  rotate_left 4
  · simp only [Env.growIn, get_set hlen] at hx
    split at hx
    · cases hx
    · obtain ⟨⟨o, b1, b2⟩, b3⟩ := h.objs.at_ x k hx
      have hne : E.ρ x ≠ b := by intro q; rw [q, hk] at b3; cases b3
      exact ⟨hx, rfl, setCells_ne _ _ hne vs 0 E.w, by simp only [Env.growIn, if_neg hne]⟩
  · intro x cs hx
    simp only [Env.growIn, get_set hlen] at hx
    split at hx
    · cases hx
    · obtain ⟨arr2, elem2, b1, b2, b3, b4⟩ := h.rows x cs hx
      have hne : E.ρ x ≠ b := by intro q; rw [q, hk] at b4; cases b4
      exact ⟨arr2, elem2, by rw [← b1]; exact setCells_ne _ _ hne vs 0 E.w, b2, fun i hl => (b3 i hl).mono hv, by simp only [Env.growIn, if_neg hne]; exact b4⟩
  · intro x m s b' hx hb'
    simp only [Env.growIn, get_set hlen] at hx hb'
    split at hx
    · rename_i e
      subst e
      rw [hb] at hb'; cases hb'
      exact ⟨arr', elem, pos, g1, by simp only [Env.growIn, if_true, g2, hcend]⟩
    · rename_i e
      obtain ⟨arr2, elem2, pos2, b1, b2⟩ := h.bufs x m s b' hx hb'
      have hne : b' ≠ b := by rintro rfl; exact e (h.injb x id _ _ _ _ _ hx hi hb' hb)
      exact ⟨arr2, elem2, pos2, by rw [← b1]; exact setCells_ne _ _ hne vs 0 E.w, by simp only [Env.growIn, if_neg hne]; exact b2⟩
  · intro x x' c c' a1 a2 e
    simp only [Env.growIn, get_set hlen] at a1 a2 e
    split at a1 <;> split at a2
    · cases a1
    · cases a1
    · cases a2
    · exact h.injr x x' c c' a1 a2 e
  · intro x x' n1 s1 n2 s2 b' a1 a2 e e'
    simp only [Env.growIn, get_set hlen] at a1 a2 e e'
    have fix : ∀ y m s, (if y = id then some (AObj.buf n sz) else E.H[y]?) = some (.buf m s) → ∃ m' s', E.H[y]? = some (.buf m' s') := by
      intro y m s q
      split at q
      · rename_i e; subst e; exact ⟨n0, sz, hi⟩
      · exact ⟨m, s, q⟩
    obtain ⟨d, d1, hd⟩ := fix _ _ _ a1
    obtain ⟨d', d2, hd'⟩ := fix _ _ _ a2
    exact h.injb x x' _ _ _ _ _ hd hd' e e'
end growIn
end Go.Abs
namespace Go.Abs
theorem zeroCells_size (z : Array Value) (n : Nat) : (Builtin.zeroCells z n).size = n * z.size := by simp [Builtin.zeroCells]
theorem vrel_grown {E : Env} {E' : Env} {b off : Nat} {ad : Addr} {es xs : List PV} {sz n cap : Nat} {tl : Tail} {tl0 : Tail}
    (hle : E.view.le E'.view) (hs : VRel E.view (.slice (some ad) es.length cap) (.slice es tl0)) (hes : ∀ e ∈ es, e.cells.length = sz) (hxs : ∀ e ∈ xs, e.cells.length = sz)
    (had : ad = ⟨b, off, none⟩) (hnew : ∀ k, k < xs.length * sz → ∃ v, E'.view.cell ⟨b, off + es.length * sz + k, none⟩ = some v ∧ ∀ (h : k < (flatE xs).length), VRel E'.view v (flatE xs)[k])
    (hn : es.length + xs.length = n) (hc : n ≤ cap) (hm : cap ≤ maxLen) (ht : TailOk E'.view tl (some ad) n cap) :
    VRel E'.view (.slice (some ad) n cap) (.slice (es ++ xs) tl) := by
  subst had
  cases hs with
  | slice _ _ _ sz' _ _ vs hlen hcap hmax hsz hcell hr htl =>
    let g : Nat → Value := fun k => (E'.view.cell ⟨b, off + es.length * sz + k, none⟩).getD undef
    have hg : ∀ k, k < xs.length * sz → E'.view.cell ⟨b, off + es.length * sz + k, none⟩ = some (g k) ∧ ∀ (h : k < (flatE xs).length), VRel E'.view (g k) (flatE xs)[k] := by
      intro k hk
      obtain ⟨v, h1, h2⟩ := hnew k hk
      have : g k = v := by simp only [g, h1, Option.getD_some]
      exact ⟨by rw [this]; exact h1, by rw [this]; exact h2⟩
    have hlt : ∀ i j, i < xs.length → j < sz → i * sz + j < xs.length * sz := by
      intro i j hi hj
      have : (i + 1) * sz ≤ xs.length * sz := Nat.mul_le_mul_right _ (by omega)
      rw [Nat.succ_mul] at this; omega
    refine .slice _ n cap sz _ _ (fun i j => if i < es.length then vs i j else g ((i - es.length) * sz + j)) (by simp [hn]) hc hm ?_ ?_ ?_ ht
    · intro i hi
      rw [List.getElem_append]
      split
      · exact hes _ (List.getElem_mem _)
      · exact hxs _ (List.getElem_mem _)
    · intro i j hi hj
      by_cases h : i < es.length
      · rw [if_pos h]
        have hss : sz' = sz := by rw [← hsz _ h]; exact hes _ (List.getElem_mem h)
        subst hss
        exact hle.cell _ _ (hcell i j h hj)
      · rw [if_neg h, add_plain]
        have hk := hlt (i - es.length) j (by omega) hj
        have := (hg _ hk).1
        rw [← this]
        congr 2
        rw [Nat.sub_mul]
        have : es.length * sz ≤ i * sz := Nat.mul_le_mul_right _ (by omega)
        omega
    · intro i j hi hj
      by_cases h : i < es.length
      · have e : (es ++ xs)[i] = es[i] := List.getElem_append_left h
        rw [if_pos h]
        simp only [e] at hj ⊢
        exact (hr i j h hj).mono hle
      · have hi' : i - es.length < xs.length := by simp at hi; omega
        have e : (es ++ xs)[i] = xs[i - es.length] := List.getElem_append_right (by omega)
        rw [if_neg h]
        simp only [e] at hj ⊢
        have hj' : j < sz := by rw [← hxs _ (List.getElem_mem hi')]; exact hj
        have hk := hlt _ j hi' hj'
        have h2 := flatE_get xs hxs _ j hi' hj'
        have hk' : (i - es.length) * sz + j < (flatE xs).length := by rw [flatE_length xs hxs]; exact hk
        rw [List.getElem?_eq_getElem hk', List.getElem?_eq_getElem hj] at h2
        simp only [Option.some.injEq] at h2
        rw [← h2]
        exact (hg _ hk).2 hk'
section ops
variable {P : Program} {E : Env} {N : Nat} {a : Act} {T : Nat → PV} (ho : E.Ok)
include ho
theorem sound_appendN {t u ty : TypeId} {sv xv : Value} {es xs : List PV} {tl : Tail} (hs : VRel E.view sv (.slice es tl)) (hx0 : xs ≠ []) (hxn : ∀ w, (Builtin.lenOf xv).run P w = .ok xs.length w)
    (hxf : ∀ sz, (∀ e ∈ xs, e.cells.length = sz) → ∀ D : Env, D.view = E.view → ∃ arrx, (Builtin.firstCells sz xs.length xv).run P D.w = .ok arrx D.w ∧ RL E.view arrx (flatE xs))
    {ei : TypeId × TI} (hf : telem P t = some ei) {z : PV} (hz : tzero P ei.1 = some z) (hu : (∃ eu, P.underlying u = some (.slice eu)) ∨ P.underlying u = some .string) (hzf : z.fits ei.2 = true) {fresh : Nat} {v : PV} {eff : Eff}
    (hv : (if (es.length + xs.length) * ei.2.bytes ≤ 2 ^ 47 ∧ es.length + xs.length ≤ maxLen ∧ (∀ e ∈ es, e.cells.length = ei.2.sz) ∧ (∀ e ∈ xs, e.cells.length = ei.2.sz ∧ e.cells.all PV.isCell = true) ∧ 0 < ei.2.sz then
      match tl with
      | .full => some (.slice (es ++ xs) (.tok fresh), some (fresh, .buf (es.length + xs.length) ei.2.sz))
      | .tok id => match E.H[id]? with
        | some (.buf n sz) => if n = es.length ∧ sz = ei.2.sz then some (.slice (es ++ xs) (.tok id), some (id, .buf (es.length + xs.length) sz)) else none
        | _ => none
      | .none => none
    else none) = some (v, eff)) (hfr : ∀ o, eff = some (fresh, o) → tl = .full → E.H[fresh]? = some .unborn) :
    ∃ E' val, (Builtin.append_ #[t, u] ty #[sv, xv]).run P E.w = .ok val E'.w ∧ E.le E' ∧ E'.Ok ∧ E'.H = eff.app E.H ∧ VRel E'.view val v := by
  obtain ⟨e, i⟩ := ei
  obtain ⟨h1, h2⟩ := telem_some hf
  obtain ⟨d, f, h3, h4, rfl⟩ := tinfo_some h2
  obtain ⟨f', zv, h5, h6, rfl⟩ := tzero_some hz
  simp only at h5 hzf hv
  rw [h4] at h5; cases h5
  obtain ⟨hzs, hzj⟩ := PV.fits_spec hzf
  simp only at hzs
  obtain ⟨zc1, zc2⟩ := (vrel_ofConst E.view zv).not_junk_cells hzj
  have hzv : zv.cells.size = f.size := zc1.trans hzs
  split at hv
  · rename_i hc
    obtain ⟨hc1, hc2, hc3, hc4, hc5⟩ := hc
    try simp only at hc1 hc3 hc4 hc5
    have hxs : ∀ e ∈ xs, e.cells.length = f.size := fun e he => (hc4 e he).1
    have hxl : 0 < xs.length := List.length_pos_iff.2 hx0
    obtain ⟨arrx, r1, r2⟩ := hxf _ hxs E rfl
    obtain ⟨arrs, s1, s2, ads, caps, rfl, hcap, hmax, htail⟩ := run_first (P := P) hs hc3
    have hxsz : arrx.size = xs.length * f.size := by rw [r2.1, flatE_length xs hxs]
    have hssz : arrs.size = es.length * f.size := by rw [s2.1, flatE_length es hc3]
    have hrun0 : (Builtin.append_ #[t, u] ty #[.slice ads es.length caps, xv]).run P E.w =
        (if es.length + xs.length ≤ caps then (do
            let new ← Builtin.firstCells f.size xs.length xv
            if let some a := ads then storeCells (a.add (es.length * f.size)) new.toList
            pure (.slice ads (es.length + xs.length) caps) : Sem Value) else (do
            let newCap ← choose (.appendCap (es.length + xs.length) caps e)
            askRoom (newCap * f.bytes)
            let old ← Builtin.firstCells f.size es.length (.slice ads es.length caps)
            let new ← Builtin.firstCells f.size xs.length xv
            let rest := Builtin.zeroCells zv.cells (newCap - (es.length + xs.length))
            pure (.slice (some (← Go.newRow e (old ++ new ++ rest))) (es.length + xs.length) newCap))).run P E.w := by
      have hnc : ¬ Builtin.nextslicecap (es.length + xs.length) caps * f.bytes > 2 ^ 48 ∨ es.length + xs.length ≤ caps := by
        by_cases hle : es.length + xs.length ≤ caps
        · exact .inr hle
        · left
          have := nextslicecap_le (es.length + xs.length) caps (by omega)
          have := Nat.mul_le_mul_right f.bytes this
          rw [Nat.mul_assoc] at this
          omega
      have hmx : ¬ (((es.length + xs.length : Nat) : Int) > IntKind.i64.max) := by
        have e1 : IntKind.i64.max = 9223372036854775807 := by decide
        have e2 : maxLen = 9223372036854775807 := by decide
        rw [e1]; rw [e2] at hc2; omega
      rcases hu with ⟨eu, hue⟩ | hue
      all_goals
        simp only [Builtin.append_, List.getElem?_toArray, List.getElem?_cons_zero, List.getElem?_cons_succ, Sem.run_bind, run_under h1, run_size h4, run_under hue, Result.andThen_ok, Sem.run_pure, hxn, Bool.false_eq_true, if_false,
          Bool.not_false, if_true]
        by_cases hle : es.length + xs.length ≤ caps
        · simp only [if_pos hle, Sem.run_bind]
          rfl
        · have hnc' := hnc.resolve_right hle
          simp only [if_neg hle, hmx, false_and, if_false, Sem.run_bind, Sem.run_pure, Result.andThen_ok, run_tinfo h4, hnc', run_zero h4 h6]
    by_cases hle : es.length + xs.length ≤ caps
    · -- in place
      rw [if_pos hle] at hrun0
      cases tl with
      | none => simp at hv
      | full => have : caps = es.length := htail; omega
      | tok id =>
        simp only at hv
        split at hv
        · rename_i n sz hid
          split at hv
          · rename_i hns
            obtain ⟨rfl, rfl⟩ := hns
            cases hv
            obtain ⟨hborn, htok⟩ := htail
            have hvt : E.view.tok id = some ⟨es.length, f.size, (E.tb id).bind fun b => match E.κ b with | .buf pos cend => some (b, pos, cend) | _ => none⟩ := by
              simp only [Env.view, hid] <;> rfl
            obtain ⟨_, ht2⟩ := htok _ hvt
            rcases ht2 rfl with ht2 | ⟨b, pos, cend, off, hl1, hl2, hl3, hl4⟩
            · omega
            · simp only at hl1 hl3 hl4
              subst hl2
              cases htb : E.tb id with
              | none => rw [htb] at hl1; cases hl1
              | some b' =>
                rw [htb] at hl1
                simp only [Option.bind_some] at hl1
                split at hl1
                · rename_i pos' cend' hkb
                  simp only [Option.some.injEq, Prod.mk.injEq] at hl1
                  obtain ⟨rfl, rfl, rfl⟩ := hl1
                  replace hl3 : off + es.length * f.size = pos' := hl3
                  replace hl4 : off + caps * f.size = cend' := hl4
                  obtain ⟨arr, elem, posx, g1, g2⟩ := ho.bufs id _ _ _ hid htb
                  have hce : cend' = arr.size := by rw [hkb] at g2; cases g2; rfl
                  have hfit : pos' + arrx.size ≤ arr.size := by
                    rw [hxsz, ← hce, ← hl3, ← hl4]
                    have : (es.length + xs.length) * f.size ≤ caps * f.size := Nat.mul_le_mul_right _ hle
                    rw [Nat.add_mul] at this; omega
                  have hcellx : ∀ w ∈ arrx.toList, Value.isCell w = true := by
                    intro w hw
                    obtain ⟨k, hk, rfl⟩ := List.getElem_of_mem hw
                    simp only [Array.length_toList] at hk
                    have hk' : k < (flatE xs).length := by rw [← r2.1]; exact hk
                    have := r2.2 k hk'
                    rw [Array.getD_eq_getD_getElem?, Array.getElem?_eq_getElem hk, Option.getD_some] at this
                    rw [Array.getElem_toList]
                    refine this.isCell ?_
                    have hmem := List.getElem_mem hk'
                    simp only [flatE, List.mem_flatten, List.mem_map] at hmem
                    obtain ⟨l, ⟨q, hq, rfl⟩, hql⟩ := hmem
                    exact List.all_eq_true.1 (hc4 q hq).2 _ hql
                  have hst := run_storeCells (P := P) b' pos' elem arrx.toList 0 E.w arr g1 hcellx (by simpa using hfit)
                  have hp : pos' + arrx.toList.length = off + (es.length + xs.length) * f.size := by
                    rw [Array.length_toList, hxsz, Nat.add_mul, ← hl3]; omega
                  have hlt : es.length < es.length + xs.length := by omega
                  have hle' := Env.growIn_le ho hid hlt htb hkb arrx.toList hp
                  have hok' := Env.Ok.growIn ho hid hlt htb hkb arrx.toList hp
                  refine ⟨_, .slice (some ⟨b', off, none⟩) (es.length + xs.length) caps, ?_, hle', hok', rfl, ?_⟩
                  · rw [hrun0]
                    simp only [Sem.run_bind, r1, Result.andThen_ok, add_plain, hl3, hst, Sem.run_pure]
                    rfl
                  · refine vrel_grown (E := E) hle'.view hs hc3 hxs rfl (fun k hk => ?_) rfl hle hmax ⟨hle'.view.born _ hborn, fun t' ht' => ?_⟩
                    · obtain ⟨arr', q1, q2, q3⟩ := setCells_eq b' pos' elem (0, 0) arrx.toList 0 E.w arr g1
                      have hka : k < arrx.size := by rw [hxsz]; exact hk
                      refine ⟨arrx.getD k undef, ?_, fun h => (r2.2 k h).mono hle'.view⟩
                      refine Env.cell_of ?_ ?_
                      · simp only [Env.growIn, if_true, Kind.stable, decide_eq_true_eq]
                        rw [Nat.add_mul]; omega
                      · show World.cell? (setCells E.w ⟨b', pos', none⟩ arrx.toList 0) _ = _
                        rw [cell_row q1, q3 _ (by omega), if_pos (by rw [Array.length_toList (xs := arrx), hxsz]; omega)]
                        rw [show off + es.length * f.size + k - (pos' + 0) = k by omega]
                        rw [Array.getElem?_toList, Array.getD_eq_getD_getElem?, Array.getElem?_eq_getElem hka]; rfl
                    · have hlen := len_of_get hid
                      simp only [Env.view, Env.growIn, get_set hlen, if_true, htb, Option.bind_some, Option.some.injEq] at ht'
                      subst ht'
                      refine ⟨Nat.le_refl _, fun _ => .inr ⟨b', _, cend', off, rfl, rfl, rfl, hl4⟩⟩
                · cases hl1
          · cases hv
        · cases hv
    · -- a new block
      rw [if_neg hle] at hrun0
      obtain ⟨c, hc6, hc7, hc8⟩ := run_choose_cap (P := P) (w := E.w) (es.length + xs.length) caps e
      have hcm : c ≤ maxLen := by
        have := hc8 (by have e2 : maxLen = 2 ^ 63 - 1 := rfl; omega)
        have e2 : maxLen = 2 ^ 63 - 1 := rfl
        omega
      obtain ⟨id, hid, rfl, rfl⟩ : ∃ id, (E.H[id]? = some .unborn ∨ ∃ n0, E.H[id]? = some (.buf n0 f.size) ∧ n0 < es.length + xs.length) ∧ v = .slice (es ++ xs) (.tok id) ∧ eff = some (id, .buf (es.length + xs.length) f.size) := by
        cases tl with
        | none => simp at hv
        | full =>
          simp only [Option.some.injEq, Prod.mk.injEq] at hv
          obtain ⟨rfl, rfl⟩ := hv
          exact ⟨fresh, .inl (hfr _ rfl rfl), rfl, rfl⟩
        | tok id =>
          simp only at hv
          split at hv
          · rename_i n sz hid
            split at hv
            · rename_i hns
              obtain ⟨rfl, rfl⟩ := hns
              cases hv
              exact ⟨id, .inr ⟨_, hid, by omega⟩, rfl, rfl⟩
            · cases hv
          · cases hv
      have hd := ho.drew
      obtain ⟨arrx, r1, r2⟩ := hxf _ hxs E.drew rfl
      obtain ⟨arrs, s1, s2, _⟩ := run_first (P := P) (E := E.drew) hs hc3
      have hxsz : arrx.size = xs.length * f.size := by rw [r2.1, flatE_length xs hxs]
      have hssz : arrs.size = es.length * f.size := by rw [s2.1, flatE_length es hc3]
      have hzl := rl_zero (V := E.view) zv hzj (c - (es.length + xs.length))
      let arr : Array Value := arrs ++ arrx ++ Builtin.zeroCells zv.cells (c - (es.length + xs.length))
      have harr : arr.size = c * f.size := by
        simp only [arr, Array.size_append, hssz, hxsz, zeroCells_size, hzv]
        rw [← Nat.add_mul, ← Nat.add_mul]; congr 1; omega
      have hle' := Env.newBuf_le (E := E.drew) hd (n := es.length + xs.length) (sz := f.size) hid arr e ((es.length + xs.length) * f.size)
      have hok' := Env.Ok.newBuf (E := E.drew) hd (n := es.length + xs.length) (sz := f.size) hid arr e ((es.length + xs.length) * f.size)
      have hlen := tok_len (E := E.drew) (n := es.length + xs.length) hid
      refine ⟨_, .slice (some ⟨E.w.heap.size, 0, none⟩) (es.length + xs.length) c, ?_, E.drew_le.trans hle', hok', rfl, ?_⟩
      · rw [hrun0]
        have hc6' : (choose (.appendCap (es.length + xs.length) caps e)).run P E.w = .ok c E.drew.w := hc6
        simp only [Sem.run_bind, hc6', Result.andThen_ok, run_ask, s1, r1, Sem.run_pure, Go.newRow, run_newObj]
        rfl
      · have hall : ∀ q ∈ es ++ xs, q.cells.length = f.size := by
          intro q hq
          rcases List.mem_append.1 hq with hq | hq
          · exact hc3 q hq
          · exact hxs q hq
        have hrl := rl_append s2 r2
        rw [← flatE_append] at hrl
        have hfl := flatE_length _ hall
        rw [List.length_append] at hfl
        have hgd : ∀ k, k < (es.length + xs.length) * f.size → arr.getD k undef = (arrs ++ arrx).getD k undef := by
          intro k hk
          rw [Array.getD_eq_getD_getElem?, Array.getD_eq_getD_getElem?]
          rw [show arr = (arrs ++ arrx) ++ Builtin.zeroCells zv.cells (c - (es.length + xs.length)) from rfl]
          rw [Array.getElem?_append_left (by rw [hrl.1, hfl]; exact hk)]
        refine vrel_slice_front (sz := f.size) (arr := arr) (fun k hk => ?_) hall (fun k hk => ?_) List.length_append hc7 hcm ⟨⟨.buf (es.length + xs.length) f.size, ?_, by simp⟩, fun t' ht' => ?_⟩
        · rw [List.length_append] at hk
          refine Env.cell_of ?_ ?_
          · simp only [Env.newBuf, if_pos (show E.w.heap.size = E.drew.w.heap.size from rfl), Kind.stable, decide_eq_true_eq]; exact hk
          · have hnew : (E.drew.newBuf id (es.length + xs.length) f.size arr e ((es.length + xs.length) * f.size)).w.heap[E.w.heap.size]? = some (.cells arr e (0, 0)) := heap_alloc_new _ _
            have hka : k < arr.size := by
              rw [harr]
              have : (es.length + xs.length) * f.size ≤ c * f.size := Nat.mul_le_mul_right _ hc7
              omega
            rw [cell_row hnew, Array.getD_eq_getD_getElem?, Array.getElem?_eq_getElem hka]; rfl
        · rw [hgd k (by rw [hfl] at hk; exact hk)]
          exact (hrl.2 k hk).mono hle'.view
        · simp only [Env.newBuf]; exact List.getElem?_set_self hlen
        · simp only [Env.view, Env.newBuf, get_set hlen, if_true, Option.bind_some, Option.some.injEq] at ht'
          subst ht'
          refine ⟨Nat.le_refl _, fun _ => .inr ⟨E.w.heap.size, _, arr.size, 0, rfl, rfl, ?_, ?_⟩⟩
          · simp
          · rw [harr]; simp
  · cases hv
theorem sound_append {t u ty : TypeId} {sv xv : Value} {s x : PV} (hs : VRel E.view sv s) (hx : VRel E.view xv x) {ei : TypeId × TI} (hf : telem P t = some ei) {z : PV} (hz : tzero P ei.1 = some z)
    (hu : (telem P u).isSome = true) (hzf : z.fits ei.2 = true) {fresh : Nat} {v : PV} {eff : Eff} (hv : aappend ei.2 fresh E.H s x = some (v, eff)) (hfr : ∀ o, eff = some (fresh, o) → s ≠ .junk → (∃ es, s = .slice es .full) → E.H[fresh]? = some .unborn) :
    ∃ E' val, (Builtin.append_ #[t, u] ty #[sv, xv]).run P E.w = .ok val E'.w ∧ E.le E' ∧ E'.Ok ∧ E'.H = eff.app E.H ∧ VRel E'.view val v := by
  obtain ⟨e, i⟩ := ei
  obtain ⟨h1, h2⟩ := telem_some hf
  obtain ⟨d, f, h3, h4, rfl⟩ := tinfo_some h2
  obtain ⟨f', zv, h5, h6, rfl⟩ := tzero_some hz
  simp only at h5 hzf hv
  rw [h4] at h5; cases h5
  obtain ⟨hzs, hzj⟩ := PV.fits_spec hzf
  simp only at hzs
  obtain ⟨zc1, zc2⟩ := (vrel_ofConst E.view zv).not_junk_cells hzj
  have hzv : zv.cells.size = f.size := zc1.trans hzs
  obtain ⟨eu, hue⟩ : ∃ eu, P.underlying u = some (.slice eu) := by
    cases hq : telem P u with
    | none => rw [hq] at hu; cases hu
    | some q => obtain ⟨q1, q2⟩ := q; exact ⟨q1, (telem_some hq).1⟩
  unfold aappend at hv
  split at hv
  · rename_i es tl xs tlx
    split at hv
    · -- nothing is appended
      rename_i hx0
      subst hx0
      cases hv
      obtain ⟨ad, cap, rfl, hcap, hmax⟩ : ∃ ad cap, sv = .slice ad es.length cap ∧ es.length ≤ cap ∧ cap ≤ maxLen := by
        cases hs with
        | nils _ _ => exact ⟨none, 0, rfl, Nat.le_refl _, Nat.zero_le _⟩
        | slice ad len cap sz _ _ vs hlen hcap hmax hsz hc hr ht => subst hlen; exact ⟨some ad, cap, rfl, hcap, hmax⟩
      obtain ⟨ax, cx, rfl⟩ : ∃ ax cx, xv = .slice ax 0 cx := by
        cases hx with
        | nils _ _ => exact ⟨none, 0, rfl⟩
        | slice ad len cap sz _ _ vs hlen hcap hmax hsz hc hr ht => simp at hlen; subst hlen; exact ⟨some ad, cap, rfl⟩
      refine ⟨E, .slice ad es.length cap, ?_, .refl E, ho, rfl, hs⟩
      have hfc : ∀ (v : Value), (∃ ax cx, v = .slice ax 0 cx) → (Builtin.firstCells f.size 0 v).run P E.w = .ok #[] E.w := by
        rintro v ⟨ax, cx, rfl⟩
        cases ax <;> simp only [Builtin.firstCells, Nat.zero_mul, loadCells, loadCellsFrom, Sem.run_pure]
      simp only [Builtin.append_, List.getElem?_toArray, List.getElem?_cons_zero, List.getElem?_cons_succ, Sem.run_bind, run_under h1, run_size h4, run_under hue, Result.andThen_ok, Sem.run_pure, Builtin.lenOf, Nat.add_zero, Bool.false_eq_true, if_false,
        Bool.not_false, if_true, hcap, hfc _ ⟨ax, cx, rfl⟩]
      cases ad <;> simp [storeCells]
    · rename_i hx0
      refine sound_appendN ho hs hx0 (fun w => ?_) (fun sz hxs D hD => ?_) hf hz (.inl ⟨_, hue⟩) hzf hv (fun o h1 h2 => hfr o h1 (by simp) ⟨es, by rw [h2]⟩)
      · cases hx with
        | nils _ _ => rfl
        | slice ad len cap sz _ _ vs hlen hcap hmax hsz hc hr ht => subst hlen; rfl
      · obtain ⟨arrx, r1, r2, _⟩ := run_first (P := P) (E := D) (by rw [hD]; exact hx) hxs
        exact ⟨arrx, r1, by rw [hD] at r2; exact r2⟩
  · cases hv
end ops
end Go.Abs
namespace Go.Abs
theorem guard_int {P : Program} {w : World} {op : BinOp} {t : TypeId} {x y : Operand} {k k' : IntKind} {a b : Int} : (eqGuard op t x y (.int k a) (.int k' b)).run P w = .ok () w := by cases op <;> rfl
theorem guard_bool {P : Program} {w : World} {op : BinOp} {t : TypeId} {x y : Operand} {a b : Bool} : (eqGuard op t x y (.bool a) (.bool b)).run P w = .ok () w := by cases op <;> rfl
theorem guard_str {P : Program} {w : World} {op : BinOp} {t : TypeId} {x y : Operand} {a b : ByteArray} : (eqGuard op t x y (.string a) (.string b)).run P w = .ok () w := by cases op <;> rfl
theorem guard_ptr {P : Program} {w : World} {op : BinOp} {t : TypeId} {x y : Operand} {a b : Option Addr} : (eqGuard op t x y (.pointer a) (.pointer b)).run P w = .ok () w := by cases op <;> rfl
section ops
variable {P : Program} {E : Env} {N : Nat} {a : Act} {T : Nat → PV} (ht : TRel E.view N a T)
theorem sound_bin {op : BinOp} {xt : TypeId} {x y : Operand} {vx vy : Value} {px py : PV} (hx : VRel E.view vx px) (hy : VRel E.view vy py) {v : PV} (hv : abin P op xt px py = some v) :
    ∃ val, (do eqGuard op xt x y vx vy; binOp op xt vx vy : Sem Value).run P E.w = .ok val E.w ∧ VRel E.view val v := by
  unfold abin at hv
  split at hv
  · -- ints
    rename_i k n k' n'
    obtain rfl := hx.int_inv
    obtain rfl := hy.int_inv
    split at hv
    · rename_i hk
      subst hk
      have hg := @guard_int P E.w op xt x y k k n n'
      cases op <;> simp only [Sem.run_bind, hg, Result.andThen_ok] <;> simp only [reduceCtorEq, Option.some.injEq] at hv
      case add => subst hv; exact ⟨_, by simp only [binOp, ne_eq, not_true_eq_false, if_false, Op.intArith, Sem.run_pure], .int _ _⟩
      case sub => subst hv; exact ⟨_, by simp only [binOp, ne_eq, not_true_eq_false, if_false, Op.intArith, Sem.run_pure], .int _ _⟩
      case mul => subst hv; exact ⟨_, by simp only [binOp, ne_eq, not_true_eq_false, if_false, Op.intArith, Sem.run_pure], .int _ _⟩
      case quo =>
        split at hv
        · cases hv
        · rename_i hz; cases hv; exact ⟨_, by simp only [binOp, ne_eq, not_true_eq_false, if_false, Op.intDiv, hz, Sem.run_pure], .int _ _⟩
      case rem =>
        split at hv
        · cases hv
        · rename_i hz; cases hv; exact ⟨_, by simp only [binOp, ne_eq, not_true_eq_false, if_false, Op.intDiv, hz, Sem.run_pure], .int _ _⟩
      case eql => subst hv; exact ⟨.bool (n == n'), by simp only [binOp, ne_eq, not_true_eq_false, if_false, Op.intCmp, Sem.run_pure], .bool _⟩
      case neq => subst hv; exact ⟨.bool (n != n'), by simp only [binOp, ne_eq, not_true_eq_false, if_false, Op.intCmp, Sem.run_pure], .bool _⟩
      all_goals (subst hv; exact ⟨_, by simp only [binOp, ne_eq, not_true_eq_false, if_false, Op.intCmp, Sem.run_pure], .bool _⟩)
    · cases hv
  · -- bools
    rename_i b b'
    obtain rfl := hx.bool_inv
    obtain rfl := hy.bool_inv
    split at hv
    · rename_i hb
      unfold tbool at hb
      split at hb
      · rename_i hu
        have hg := @guard_bool P E.w op xt x y b b'
        have he : (Op.equal xt (.bool b) (.bool b')).run P E.w = .ok (b == b') E.w := by
          have key : ∀ d, (Op.equalIn (d + 1) xt (.bool b) (.bool b')).run P E.w = .ok (b == b') E.w := by
            intro d; simp only [Op.equalIn, Sem.run_bind, run_under hu, Result.andThen_ok, Sem.run_pure]
          exact key 9999
        cases op <;> simp only [Sem.run_bind, hg, Result.andThen_ok] <;> simp only [reduceCtorEq, Option.some.injEq] at hv
        all_goals (subst hv; exact ⟨_, by simp only [binOp, Sem.run_bind, he, Result.andThen_ok, Sem.run_pure, Bool.not_true, Bool.not_false], .bool _⟩)
      · cases hb
    · cases hv
  · -- strings
    rename_i s s'
    cases hx with
    | str s =>
      cases hy with
      | str s' =>
        have hg := @guard_str P E.w op xt x y s s'
        have hsz : ∀ s : ByteArray, s.size = s.data.toList.length := fun s => rfl
        cases op <;> simp only [Sem.run_bind, hg, Result.andThen_ok] <;> simp only [reduceCtorEq, Option.some.injEq] at hv
        case add =>
          split at hv
          · rename_i hl
            cases hv
            have e1 : IntKind.i64.max = 9223372036854775807 := by decide
            have e2 : maxLen = 9223372036854775807 := by decide
            have hb : ¬ ((s.size + s'.size : Nat) : Int) > IntKind.i64.max := by rw [e1, hsz, hsz]; rw [e2] at hl; omega
            refine ⟨.string (s ++ s'), ?_, ?_⟩
            · simp only [binOp, Op.stringOp, if_neg hb, Sem.run_ite, Sem.run_pure]
            · have : (s ++ s').data.toList = s.data.toList ++ s'.data.toList := by simp
              rw [← this]; exact .str _
          · cases hv
        all_goals (subst hv; refine ⟨_, by simp only [binOp, Op.stringOp, Sem.run_pure]; rfl, ?_⟩; simp only [ByteArray.toList_eq])
        · rw [show (s.data.toList == s'.data.toList) = decide (s.data.toList = s'.data.toList) by rw [Bool.eq_iff_iff]; simp]; exact .bool _
        · rw [show (s.data.toList == s'.data.toList) = decide (s.data.toList = s'.data.toList) by rw [Bool.eq_iff_iff]; simp]; exact .bool _
        · exact .bool _
  · -- nil pointers
    split at hv
    · rename_i hb
      unfold tptr at hb
      split at hb
      · rename_i el hu
        cases hx; cases hy
        have hg := @guard_ptr P E.w op xt x y none none
        have he : (Op.equal xt (.pointer none) (.pointer none)).run P E.w = .ok true E.w := by
          have key : ∀ d, (Op.equalIn (d + 1) xt (.pointer none) (.pointer none)).run P E.w = .ok true E.w := by
            intro d; simp only [Op.equalIn, Sem.run_bind, run_under hu, Result.andThen_ok, Sem.run_pure, Option.isNone_none]
          exact key 9999
        cases op <;> simp only [Sem.run_bind, hg, Result.andThen_ok] <;> simp only [reduceCtorEq, Option.some.injEq] at hv
        all_goals (subst hv; exact ⟨_, by simp only [binOp, Sem.run_bind, he, Result.andThen_ok, Sem.run_pure, Bool.not_true, Bool.not_false], .bool _⟩)
      · cases hb
    · cases hv
  · split at hv
    · rename_i hb
      unfold tptr at hb
      split at hb
      · rename_i el hu
        obtain ⟨ad, vs, rfl, _, _⟩ := hx.iptr_inv
        cases hy
        have hg := @guard_ptr P E.w op xt x y (some ad) none
        have he : (Op.equal xt (.pointer (some ad)) (.pointer none)).run P E.w = .ok false E.w := by
          have key : ∀ d, (Op.equalIn (d + 1) xt (.pointer (some ad)) (.pointer none)).run P E.w = .ok false E.w := by
            intro d; simp only [Op.equalIn, Sem.run_bind, run_under hu, Result.andThen_ok, Sem.run_pure]
          exact key 9999
        cases op <;> simp only [Sem.run_bind, hg, Result.andThen_ok] <;> simp only [reduceCtorEq, Option.some.injEq] at hv
        all_goals (subst hv; exact ⟨_, by simp only [binOp, Sem.run_bind, he, Result.andThen_ok, Sem.run_pure, Bool.not_true, Bool.not_false], .bool _⟩)
      · cases hb
    · cases hv
  · split at hv
    · rename_i hb
      unfold tptr at hb
      split at hb
      · rename_i el hu
        obtain ⟨rfl, _⟩ := hx.optr_inv
        cases hy
        have hg := fun ad => @guard_ptr P E.w op xt x y (some ad) none
        have he : ∀ ad, (Op.equal xt (.pointer (some ad)) (.pointer none)).run P E.w = .ok false E.w := by
          intro ad
          have key : ∀ d, (Op.equalIn (d + 1) xt (.pointer (some ad)) (.pointer none)).run P E.w = .ok false E.w := by
            intro d; simp only [Op.equalIn, Sem.run_bind, run_under hu, Result.andThen_ok, Sem.run_pure]
          exact key 9999
        cases op <;> simp only [Sem.run_bind, hg, Result.andThen_ok] <;> simp only [reduceCtorEq, Option.some.injEq] at hv
        all_goals (subst hv; exact ⟨_, by simp only [binOp, Sem.run_bind, he, Result.andThen_ok, Sem.run_pure, Bool.not_true, Bool.not_false], .bool _⟩)
      · cases hb
    · cases hv
  · cases hv
theorem sound_un {op : UnOp} {vx : Value} {px : PV} (hx : VRel E.view vx px) {v : PV} (hv : aun op px = some v) :
    ∃ val, (Op.unary op vx).run P E.w = .ok val E.w ∧ VRel E.view val v := by
  unfold aun at hv
  split at hv
  · obtain rfl := hx.bool_inv; cases hv; exact ⟨_, rfl, .bool _⟩
  · obtain rfl := hx.int_inv; cases hv; exact ⟨_, rfl, .int _ _⟩
  · cases hv
theorem sound_convert {s d : TypeId} {vx : Value} {k0 : IntKind} {n : Int} (hx : VRel E.view vx (.int k0 n)) {k : IntKind} (hk : tint P d = some k) (hs : (P.underlying s).isSome = true) :
    ∃ val, (convert s d vx).run P E.w = .ok val E.w ∧ VRel E.view val (.int k (k.wrap n)) := by
  obtain rfl := hx.int_inv
  unfold tint at hk
  split at hk
  · rename_i k' hu
    cases hk
    cases hq : P.underlying s with
    | none => rw [hq] at hs; cases hs
    | some ds =>
      refine ⟨.int k (k.wrap n), ?_, .int _ _⟩
      simp only [convert, Sem.run_bind, run_under hq, run_under hu, Result.andThen_ok, Conv.intToInt, Sem.run_pure]
  · cases hk
theorem flatE_replicate (n : Nat) (z : PV) : flatE (List.replicate n z) = (List.replicate n z.cells).flatten := by simp [flatE]
theorem drop1_cells_map (p : PV) : p.drop1.cells = p.cells.map PV.drop0 := by cases p <;> rfl
theorem VRel.elems_drop1 {V : View} {v : Value} {es : List PV} {tl : Tail} (h : VRel V v (.slice es tl)) : VRel V v (.slice (es.map PV.drop1) tl) := by
  cases h with
  | nils _ ht => exact .nils _ ht
  | slice a len cap sz _ _ vs hlen hcap hmax hsz hc hr ht =>
    refine .slice a len cap sz _ _ vs (by simpa using hlen) hcap hmax (fun i h => ?_) hc (fun i j hi hj => ?_) ht
    · simp only [List.getElem_map, PV.drop1_cells_length]; exact hsz i (by simpa using h)
    · have hi' : i < es.length := by simpa using hi
      have hj' : j < (es[i].cells).length := by simpa [PV.drop1_cells_length] using hj
      have h0 := (hr i j hi' hj').drop0
      have he : (((es.map PV.drop1)[i]).cells)[j] = (es[i].cells)[j].drop0 := by
        simp only [List.getElem_map, drop1_cells_map]
      rw [he]; exact h0
theorem sound_makeSlice (ho : E.Ok) {t : TypeId} {lv cv : Value} {l c : PV} (hl : VRel E.view lv l) (hc : VRel E.view cv c) {ei : TypeId × TI} (hf : telem P t = some ei) {z : PV} (hz : tzero P ei.1 = some z) {mt : Bool} {fresh : Nat} {v : PV} {eff : Eff}
    (hv : amakeSlice mt z ei.2 fresh l c = some (v, eff)) (hfr : ∀ o, eff = some (fresh, o) → E.H[fresh]? = some .unborn) :
    ∃ E' val, (Instr.makeSlice t lv cv).run P E.w = .ok val E'.w ∧ E.le E' ∧ E'.Ok ∧ E'.H = eff.app E.H ∧ VRel E'.view val v := by
  obtain ⟨e, i⟩ := ei
  obtain ⟨h1, h2⟩ := telem_some hf
  obtain ⟨d, f, h3, h4, rfl⟩ := tinfo_some h2
  obtain ⟨f', zv, h5, h6, rfl⟩ := tzero_some hz
  simp only at h5 hv
  rw [h4] at h5; cases h5
  unfold amakeSlice at hv
  split at hv
  · rename_i l c
    obtain rfl := hl.int_inv
    obtain rfl := hc.int_inv
    split at hv
    · rename_i hcnd
      obtain ⟨c1, c2, c3, c4, c5, c6⟩ := hcnd
      simp only at c3 c5 c6
      obtain ⟨hzs, hzj⟩ := PV.fits_spec c5
      simp only at hzs
      obtain ⟨zc1, zc2⟩ := (vrel_ofConst E.view zv).not_junk_cells hzj
      have hzv : zv.cells.size = f.size := zc1.trans hzs
      have e2 : maxLen = 9223372036854775807 := by decide
      have hw : ∀ n : Int, 0 ≤ n → n ≤ maxLen → IntKind.i64.wrap n = n := by
        intro n h0 h1
        rw [e2] at h1
        simp [IntKind.wrap, IntKind.bits, IntKind.signed]
        omega
      have hwl := hw l c1 (by omega)
      have hwc := hw c (by omega) c4
      have htl : ¬ ((f.bytes : Int) * c > 2 ^ 48) := by
        rw [Int.mul_comm]
        have : (2 : Int) ^ 47 ≤ 2 ^ 48 := by decide
        omega
      let arr : Array Value := (Array.range (c.toNat * f.size)).map (zv.cells[· % zv.cells.size]!)
      have hrl0 := rl_zero (V := E.view) zv hzj c.toNat
      rw [hzv] at hrl0
      have harr : arr.size = c.toNat * f.size := by simp [arr]
      have hrun : (Instr.makeSlice t (.int .i64 l) (.int .i64 c)).run P E.w = .ok (.slice (some ⟨E.w.heap.size, 0, none⟩) l.toNat c.toNat) (E.w.alloc (.cells arr e)) := by
        simp only [Instr.makeSlice, Sem.run_bind, run_under h1, Result.andThen_ok, asInt, asIntOf, Sem.run_pure, run_tinfo h4, hwl, hwc]
        have hn1 : ¬ c < 0 := by omega
        have hn2 : ¬ l < 0 := by omega
        have hn3 : ¬ l > c := by omega
        simp only [hn1, hn2, hn3, htl, decide_false, Bool.or_self, Bool.false_eq_true, if_false, Sem.run_bind, run_ask, Result.andThen_ok, run_size h4]
        by_cases h0 : c.toNat * f.size = 0
        · simp only [h0, if_true, Sem.run_pure, Result.andThen_ok, newRow, Sem.run_bind, run_newObj]
          have : arr = #[] := by simp only [arr, h0]; simp
          rw [this]; simp [Array.range]
        · simp only [if_neg h0, Sem.run_bind, run_zero h4 h6, Result.andThen_ok, Sem.run_pure, newRow, run_newObj]
          simp only [arr, hzv]
          rfl
      have hes : ∀ q ∈ List.replicate c.toNat (ofConst zv), q.cells.length = f.size := by
        intro q hq; rw [(List.mem_replicate.1 hq).2, hzs]
      have hrl : RL E.view arr (flatE (List.replicate c.toNat (ofConst zv))) := by
        simp only [arr, hzv]; exact hrl0
      have hcm : c.toNat ≤ maxLen := by omega
      split at hv
      · -- a row of the heap's
        cases hv
        have hid := hfr _ rfl
        rw [flatE_replicate] at hrl
        refine ⟨E.newRow fresh arr e _, _, hrun, Env.newRow_le ho hid _ _ _, Env.Ok.newRow ho hid arr e _ hrl.1 hrl.2, rfl, ?_⟩
        have := VRel.msl (V := (E.newRow fresh arr e ((List.replicate c.toNat (ofConst zv).cells).flatten)).view) fresh 0 l.toNat c.toNat
          ⟨.row _, by simp only [Env.newRow]; exact List.getElem?_set_self (len_of_get hid), by simp⟩ hcm
        simpa [Env.view, Env.newRow] using this
      · split at hv
        · rename_i hlc
          subst hlc
          cases hv
          have hle := Env.newFixed_le ho (.cells arr e)
          refine ⟨E.newFixed (.cells arr e), _, hrun, hle, ho.newFixed _, rfl, ?_⟩
          rw [← List.map_replicate]
          exact (vrel_slice_fixed (sz := f.size) newFixed_cell hes (hrl.mono hle.view) (by simp) hcm).elems_drop1
        · rename_i hlc
          cases hv
          have hid := hfr _ rfl
          have hle := Env.newBuf_le ho (n := l.toNat) (sz := f.size) (.inl hid) arr e (l.toNat * f.size)
          have hlen := len_of_get hid
          refine ⟨E.newBuf fresh l.toNat f.size arr e (l.toNat * f.size), _, hrun, hle, Env.Ok.newBuf ho (.inl hid) arr e _, rfl, ?_⟩
          have hlen2 : (List.replicate l.toNat (ofConst zv)).length = l.toNat := by simp
          have hes' : ∀ q ∈ List.replicate l.toNat (ofConst zv), q.cells.length = f.size := by
            intro q hq; rw [(List.mem_replicate.1 hq).2, hzs]
          have hle2 : l.toNat * f.size ≤ c.toNat * f.size := Nat.mul_le_mul_right _ (by omega)
          have hfl := flatE_length _ hes'
          rw [hlen2] at hfl
          have hfl2 := flatE_length _ hes
          rw [List.length_replicate] at hfl2
          rw [← List.map_replicate]
          refine VRel.elems_drop1 (vrel_slice_front (sz := f.size) (arr := arr) (fun k hk => ?_) hes' (fun k hk => ?_) hlen2 (by omega) hcm ⟨⟨.buf l.toNat f.size, ?_, by simp⟩, fun t' ht' => ?_⟩)
          · rw [hlen2] at hk
            refine Env.cell_of ?_ ?_
            · simp only [Env.newBuf, if_true, Kind.stable, decide_eq_true_eq]; exact hk
            · have hnew : (E.newBuf fresh l.toNat f.size arr e (l.toNat * f.size)).w.heap[E.w.heap.size]? = some (.cells arr e (0, 0)) := heap_alloc_new _ _
              rw [cell_row hnew, Array.getD_eq_getD_getElem?, Array.getElem?_eq_getElem (by omega)]; rfl
          · rw [hfl] at hk
            have hk2 : k < (flatE (List.replicate c.toNat (ofConst zv))).length := by rw [hfl2]; omega
            have h' := hrl.2 k hk2
            have heq : (flatE (List.replicate l.toNat (ofConst zv)))[k]'(by rw [hfl]; exact hk) = (flatE (List.replicate c.toNat (ofConst zv)))[k] := by
              have : List.replicate c.toNat (ofConst zv) = List.replicate l.toNat (ofConst zv) ++ List.replicate (c.toNat - l.toNat) (ofConst zv) := by
                rw [List.replicate_append_replicate]; congr 1; omega
              have h3 : flatE (List.replicate c.toNat (ofConst zv)) = flatE (List.replicate l.toNat (ofConst zv)) ++ flatE (List.replicate (c.toNat - l.toNat) (ofConst zv)) := by rw [this, flatE_append]
              have h4 := List.getElem?_append_left (l₂ := flatE (List.replicate (c.toNat - l.toNat) (ofConst zv))) (show k < (flatE (List.replicate l.toNat (ofConst zv))).length by rw [hfl]; exact hk)
              rw [← h3, List.getElem?_eq_getElem hk2, List.getElem?_eq_getElem (by rw [hfl]; exact hk)] at h4
              simpa using h4.symm
            rw [heq]; exact h'.mono hle.view
          · simp only [Env.newBuf]; exact List.getElem?_set_self hlen
          · simp only [Env.view, Env.newBuf, get_set hlen, if_true, Option.bind_some, Option.some.injEq] at ht'
            subst ht'
            refine ⟨Nat.le_refl _, fun _ => .inr ⟨E.w.heap.size, _, arr.size, 0, rfl, rfl, ?_, ?_⟩⟩
            · simp
            · rw [harr]; simp
    · cases hv
  · cases hv
end ops
end Go.Abs
namespace Go.Abs
section
variable {P : Program}
theorem okFld_some {i : Nat} {f : Field} (h : okFld P i f = true) : f.name ≠ "_" ∧ f.offset = i ∧ P.underlying f.type = some (.int .i64) := by
  unfold okFld at h
  simp only [Bool.and_eq_true, decide_eq_true_eq] at h
  obtain ⟨⟨h1, h2⟩, h3⟩ := h
  refine ⟨h1, h2, ?_⟩
  split at h3
  · assumption
  · cases h3
structure KeyT (P : Program) (k : TypeId) (a b c : Field) : Prop where
  ut : P.underlying k = some (.struct #[a, b, c])
  fa : a.name ≠ "_" ∧ a.offset = 0 ∧ P.underlying a.type = some (.int .i64)
  fb : b.name ≠ "_" ∧ b.offset = 1 ∧ P.underlying b.type = some (.int .i64)
  fc : c.name ≠ "_" ∧ c.offset = 2 ∧ P.underlying c.type = some (.int .i64)
  held : P.stoodInHeld k = false
theorem tmapg_some {t e : TypeId} (h : tmapg P t = some e) : ∃ k a b c, P.underlying t = some (.map k e) ∧ KeyT P k a b c := by
  unfold tmapg at h
  split at h
  · rename_i k e' hu
    split at h
    · rename_i fs hk
      split at h
      · rename_i a b c hl
        split at h
        · rename_i hc
          cases h
          simp only [Bool.and_eq_true, Bool.not_eq_true'] at hc
          obtain ⟨⟨⟨⟨h1, h2⟩, h3⟩, h4⟩, h5⟩ := hc
          have hfs : fs = #[a, b, c] := by
            apply Array.ext'
            rw [hl]
          exact ⟨k, a, b, c, hu, ⟨by rw [hk, hfs], okFld_some h1, okFld_some h2, okFld_some h3, h4⟩⟩
        · cases h
      · cases h
    · cases h
  · cases h
theorem run_isAgg_int {t : TypeId} (h : P.underlying t = some (.int .i64)) (w : World) : (isAgg t).run P w = .ok false w := by
  unfold isAgg; simp only [Sem.run_bind, run_underlying h, Result.andThen_ok]; rfl
theorem run_part_int {t : TypeId} (h : P.underlying t = some (.int .i64)) {xs : Array Value} {i : Nat} {v : Value} (hi : xs[i]? = some v) (w : World) : (part t xs i).run P w = .ok v w := by
  unfold part
  simp only [Sem.run_bind, run_isAgg_int h, Result.andThen_ok, Bool.false_eq_true, if_false, hi]
  rfl
theorem run_key_eq {k : TypeId} {a b c : Field} (K : KeyT P k a b c) (x y : Int × Int × Int) (w : World) : (Op.equal k (gkey x) (gkey y)).run P w = .ok (decide (x = y)) w := by
  have hf : P.fieldsOf k = #[a, b, c] := by unfold Program.fieldsOf; rw [K.ut]
  show (Op.equalIn (9999 + 1) k _ _).run P w = _
  unfold gkey
  rw [run_equalIn_struct w 9999 k _ _ (by rw [hf]; exact K.ut) K.held, hf]
  obtain ⟨a1, a2, a3⟩ := K.fa
  obtain ⟨b1, b2, b3⟩ := K.fb
  obtain ⟨c1, c2, c3⟩ := K.fc
  obtain ⟨x1, x2, x3⟩ := x
  obtain ⟨y1, y2, y3⟩ := y
  show (Op.eqFields 9999 _ _ [a, b, c]).run P w = _
  have ea : ∀ w, (part a.type #[Value.int .i64 x1, .int .i64 x2, .int .i64 x3] 0).run P w = .ok (.int .i64 x1) w := fun w => run_part_int a3 rfl w
  have eb : ∀ w, (part b.type #[Value.int .i64 x1, .int .i64 x2, .int .i64 x3] 1).run P w = .ok (.int .i64 x2) w := fun w => run_part_int b3 rfl w
  have ec : ∀ w, (part c.type #[Value.int .i64 x1, .int .i64 x2, .int .i64 x3] 2).run P w = .ok (.int .i64 x3) w := fun w => run_part_int c3 rfl w
  have fa : ∀ w, (part a.type #[Value.int .i64 y1, .int .i64 y2, .int .i64 y3] 0).run P w = .ok (.int .i64 y1) w := fun w => run_part_int a3 rfl w
  have fb : ∀ w, (part b.type #[Value.int .i64 y1, .int .i64 y2, .int .i64 y3] 1).run P w = .ok (.int .i64 y2) w := fun w => run_part_int b3 rfl w
  have fc : ∀ w, (part c.type #[Value.int .i64 y1, .int .i64 y2, .int .i64 y3] 2).run P w = .ok (.int .i64 y3) w := fun w => run_part_int c3 rfl w
  have ei : ∀ (t : TypeId), P.underlying t = some (.int .i64) → ∀ (p q : Int) (w : World), (Op.equalIn 9999 t (.int .i64 p) (.int .i64 q)).run P w = .ok (p == q) w := fun t ht p q w => run_equalIn_int w 9998 t _ _ _ _ ht
  simp only [Op.eqFields, if_pos a1, if_pos b1, if_pos c1, a2, b2, c2, Sem.run_bind, ea, eb, ec, fa, fb, fc, Result.andThen_ok, ei a.type a3, ei b.type b3, ei c.type c3, Sem.run_ite, Sem.run_pure]
  by_cases h1 : x1 = y1 <;> by_cases h2 : x2 = y2 <;> by_cases h3 : x3 = y3 <;> simp [h1, h2, h3, Prod.mk.injEq]
theorem run_key_int {k : TypeId} (hk : P.underlying k = some (.int .i64)) (b : Bool) (m : Nat) (n : Int) (w : World) : (Instr.checkKey b (m + 1) k (.int .i64 n)).run P w = .ok () w := by
  rw [Instr.checkKey.eq_2]
  simp only [Sem.run_bind, run_under hk, Result.andThen_ok, Sem.run_pure]
theorem run_key_ok {k : TypeId} {a b c : Field} (K : KeyT P k a b c) (em : Bool) (x : Int × Int × Int) (w : World) : (Instr.checkKey em 10000 k (gkey x)).run P w = .ok () w := by
  obtain ⟨a1, a2, a3⟩ := K.fa
  obtain ⟨b1, b2, b3⟩ := K.fb
  obtain ⟨c1, c2, c3⟩ := K.fc
  obtain ⟨x1, x2, x3⟩ := x
  have ea : ∀ w, (part a.type #[Value.int .i64 x1, .int .i64 x2, .int .i64 x3] 0).run P w = .ok (.int .i64 x1) w := fun w => run_part_int a3 rfl w
  have eb : ∀ w, (part b.type #[Value.int .i64 x1, .int .i64 x2, .int .i64 x3] 1).run P w = .ok (.int .i64 x2) w := fun w => run_part_int b3 rfl w
  have ec : ∀ w, (part c.type #[Value.int .i64 x1, .int .i64 x2, .int .i64 x3] 2).run P w = .ok (.int .i64 x3) w := fun w => run_part_int c3 rfl w
  rw [show (10000 : Nat) = Nat.succ (9998 + 1) from rfl, Instr.checkKey.eq_2]
  simp only [Sem.run_bind, run_under K.ut, Result.andThen_ok, gkey, List.forIn_toArray, List.forIn_cons, List.forIn_nil, if_pos a1, if_pos b1, if_pos c1, a2, b2, c2, ea, eb, ec, run_key_int a3, run_key_int b3, run_key_int c3, Sem.run_pure, Sem.run_ite]
end
end Go.Abs
