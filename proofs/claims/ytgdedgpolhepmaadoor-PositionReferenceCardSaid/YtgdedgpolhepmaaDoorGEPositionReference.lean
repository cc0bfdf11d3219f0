/- Part 5 of a proof of the law PositionReference: Go data as trees, the walks of the functions that the law reaches, the plain laws. -/
import Derived.Test.YtgdedgpolhepmaaDoorGDPositionReference
import GoSem.ClaimJoined
import Derived.ChangeArms
import Derived.Carry
import Derived.SizedLaws
import Derived.JoinedCond
import Derived.Deep.CondSized
import Derived.OpenShut
import Derived.JoinedOf
import Derived.KernelRfl
set_option linter.unusedVariables false
set_option linter.unusedSimpArgs false
set_option maxRecDepth 4000
namespace Go.Abs
open Go.Proofs

def isAt23 : IIAt Tryd.prog 23 where
  f0 := _
  f1 := _
  ut := Tryd.underlying23
  held := by kernel_rfl
  n0 := by decide
  n1 := by decide
  o0 := rfl
  o1 := rfl
  u0 := Tryd.underlying3
  u1 := Tryd.underlying3
  a0 := Tryd.isAgg3
  a1 := Tryd.isAgg3
  gu := by kernel_rfl
def exB : List UInt8 := [97, 10, 240, 159, 152, 128, 98]
theorem ex1 : posT unT exB 6 = (⟨1, 2⟩, 0) := by kernel_rfl
theorem ex2 : offR unT exB ⟨1, 1⟩ = (0, 3) := by kernel_rfl
theorem wU_t : wU true = unT := rfl
theorem wU_f : wU false = fun _ => 1 := rfl

theorem posEx : PG G0 Tryd.prog 4 [] (.bool true) := by
  have h1 := u16pos_c exB (by decide) 6
  rw [ex1] at h1
  have h2 := u16off_c exB (by decide) ⟨1, 1⟩
  rw [ex2] at h2
  simp only [exB] at h1 h2
  refine pg_of (N := 29) Tryd.func4 rfl rfl (by simp) (.bool _) fun H hG hb' => ?_
  repeat (refine awp_seq ?_)
  refine e_eval (by simp only [jA, jO, jN, seval, vint, qP, decide_true, Bool.and_true] <;> with_reducible rfl) (by decide) ?_
  repeat (refine awp_seq ?_)
  refine awp_region ?_
  refine aops_pure (by simp only [jC, jN, seval, vint, qP, decide_true, Bool.and_true] <;> with_reducible rfl) (by simp only [jC, jN, seval, vint, qP, decide_true, Bool.and_true]) (by decide) Trydgo9 (h1 _ hG) ?_
  refine e_end (by simp only [jA, jO, jN, seval, y23, vint, qP, decide_true, Bool.and_true] <;> with_reducible rfl) (by decide) ?_
  repeat (refine awp_seq ?_)
  refine awp_region ?_
  refine e_take 1 (by simp only [jA, jO, jN, seval, y23, vint, qP, decide_true, Bool.and_true] <;> with_reducible rfl) (by decide) ?_
  refine aops_pure (by simp only [jC, jN, seval, vint, qP, decide_true, Bool.and_true] <;> with_reducible rfl) (by simp only [jC, jN, seval, vint, qP, decide_true, Bool.and_true]) (by decide) Trydgo12 (h2 _ (hG.app _)) ?_
  refine e_end (by simp only [jA, jO, jN, seval, vint, qP, decide_true, Bool.and_true] <;> with_reducible rfl) (by decide) ?_
  repeat (refine awp_seq ?_)
  refine awp_region ?_
  refine aops_gstart ?_
  refine g_take 2 (by simp only [jG, jO, jN, seval, y23, vint, qP, decide_true, Bool.and_true] <;> with_reducible rfl) (by decide) ?_
  refine aops_eqlII (a := 1) (b := 2) (c := 1) (d := 2) isAt23 rfl (by simp only [jC, jN, seval, vint, qP] <;> first | done | rfl) (by simp only [jC, jN, seval, vint, qP] <;> first | done | rfl) (by simp only [jE, jN, seval, vint, qP] <;> first | done | rfl) (by simp only [jE, jN, seval, vint, qP] <;> first | done | rfl) (by decide) (by decide) ?_
  refine g_end (by simp only [jG, jO, jN, seval, y3, y29, vint, qP, decide_true, Bool.and_true] <;> with_reducible rfl) (by decide) (by repeat (first | exact Fin.base _ | with_reducible apply Fin.keep | apply Fin.drop)) ?_
  repeat (refine awp_seq ?_)
  refine awp_ret ⟨.inr rfl, _, _, rfl, ?_, (by first | exact (List.append_nil _).symm | rfl)⟩
  simp only [jN, seval, vint, qP]
  try rfl

theorem law_c (s : List UInt8) (hs : s.length ≤ maxLen) (off : Int) (p : Po) : PG G0 Tryd.prog 3 [.str s, vint off, p.enc] (.bool true) := by
  have em : maxLen = 9223372036854775807 := by decide
  have hsh := short_c s hs
  obtain ⟨t, ht⟩ : ∃ t, s.take 300 = t := ⟨_, rfl⟩
  have htl : t.length ≤ 300 := by rw [← ht, List.length_take]; omega
  rw [ht] at hsh
  have hlsl := startsI_len t
  have a1 := ls_c t htl
  have a2 := lsR_c t htl
  have a3 := eqInts (startsI t) (by omega)
  have b1 := u16pos_c t htl off
  have b2 := posOf_c t htl off true
  have b3 := runepos_c t htl off
  have b4 := posOf_c t htl off false
  have b5 := u16off_c t htl p
  have b6 := offOf_c t htl p true
  have b7 := runeoff_c t htl p
  have b8 := offOf_c t htl p false
  rw [wU_t] at b2 b6
  rw [wU_f] at b4 b8
  obtain ⟨⟨⟨q1, q2⟩, e1⟩, hq⟩ : ∃ x, posT unT t off = x := ⟨_, rfl⟩
  obtain ⟨⟨⟨q3, q4⟩, e2⟩, hq2⟩ : ∃ x, posT (fun _ => 1) t off = x := ⟨_, rfl⟩
  obtain ⟨⟨o1, e3⟩, hq3⟩ : ∃ x, offR unT t p = x := ⟨_, rfl⟩
  obtain ⟨⟨o2, e4⟩, hq4⟩ : ∃ x, offR (fun _ => 1) t p = x := ⟨_, rfl⟩
  rw [hq] at b1 b2
  rw [hq2] at b3 b4
  rw [hq3] at b5 b6
  rw [hq4] at b7 b8
  simp only at b1 b2 b3 b4 b5 b6 b7 b8
  refine pg_of (N := 103) Tryd.func3 rfl rfl (by simp) (.bool _) fun H hG hb' => ?_
  repeat (refine awp_seq ?_)
  refine e_eval (by simp only [jA, jO, jN, seval, y23, vint, qP, decide_true, Bool.and_self, Bool.not_true] <;> with_reducible rfl) (by decide) ?_
  repeat (refine awp_seq ?_)
  refine awp_region ?_
  refine aops_pure (by simp only [jC, jN, seval, vint, qP, decide_true, Bool.and_self, Bool.not_true] <;> with_reducible rfl) (by simp only [jC, jN, seval, vint, qP, decide_true, Bool.and_self, Bool.not_true]) (by decide) Trydgo4 (posEx _ (hG.app _)) ?_
  refine e_end (by simp only [jA, jO, jN, seval, vint, qP, decide_true, Bool.and_self, Bool.not_true] <;> with_reducible rfl) (by decide) ?_
  repeat (refine awp_seq ?_)
  refine awp_cond_false rfl (by simp only [jN, seval, vint, qP, decide_true, Bool.and_self, Bool.not_true] <;> with_reducible rfl) ?_
  repeat (refine awp_seq ?_)
  refine awp_skip ?_
  repeat (refine awp_seq ?_)
  refine awp_region ?_
  refine e_take 1 (by simp only [jA, jO, jN, seval, vint, qP, decide_true, Bool.and_self, Bool.not_true] <;> with_reducible rfl) (by decide) ?_
  refine aops_pure (by simp only [jC, jN, seval, vint, qP, decide_true, Bool.and_self, Bool.not_true] <;> with_reducible rfl) (by simp only [jC, jN, seval, vint, qP, decide_true, Bool.and_self, Bool.not_true]) (by decide) Trydgo5 (hsh _) ?_
  refine e_end (by simp only [jA, jO, jN, seval, vint, qP, decide_true, Bool.and_self, Bool.not_true] <;> with_reducible rfl) (by decide) ?_
  repeat (refine awp_seq ?_)
  refine awp_region ?_
  refine e_take 1 (by simp only [jA, jO, jN, seval, vint, qP, decide_true, Bool.and_self, Bool.not_true] <;> with_reducible rfl) (by decide) ?_
  refine aops_pure (by simp only [jC, jN, seval, vint, qP, decide_true, Bool.and_self, Bool.not_true] <;> with_reducible rfl) (by simp only [jC, jN, seval, vint, qP, decide_true, Bool.and_self, Bool.not_true]) (by decide) Trydgo7 (a1 _) ?_
  refine e_take 1 (by simp only [jA, jO, jN, seval, vint, qP, decide_true, Bool.and_self, Bool.not_true] <;> with_reducible rfl) (by decide) ?_
  refine aops_pure (by simp only [jC, jN, seval, vint, qP, decide_true, Bool.and_self, Bool.not_true] <;> with_reducible rfl) (by simp only [jC, jN, seval, vint, qP, decide_true, Bool.and_self, Bool.not_true]) (by decide) Trydgo8 (a2 _) ?_
  refine aops_pure (by simp only [jC, jN, seval, vint, qP, decide_true, Bool.and_self, Bool.not_true] <;> with_reducible rfl) (by simp only [jC, jN, seval, vint, qP, decide_true, Bool.and_self, Bool.not_true]) (by decide) Trydgo6 (a3 _) ?_
  refine e_end (by simp only [jA, jO, jN, seval, vint, qP, decide_true, Bool.and_self, Bool.not_true] <;> with_reducible rfl) (by decide) ?_
  repeat (refine awp_seq ?_)
  refine awp_cond_false rfl (by simp only [jN, seval, vint, qP, decide_true, Bool.and_self, Bool.not_true] <;> with_reducible rfl) ?_
  repeat (refine awp_seq ?_)
  refine awp_skip ?_
  repeat (refine awp_seq ?_)
  refine awp_region ?_
  refine e_take 2 (by simp only [jA, jO, jN, seval, vint, qP, decide_true, Bool.and_self, Bool.not_true] <;> with_reducible rfl) (by decide) ?_
  refine aops_pure (by simp only [jC, jN, seval, vint, qP, decide_true, Bool.and_self, Bool.not_true] <;> with_reducible rfl) (by simp only [jC, jN, seval, vint, qP, decide_true, Bool.and_self, Bool.not_true]) (by decide) Trydgo9 (b1 _ (hG.app _)) ?_
  refine e_end (by simp only [jA, jO, jN, seval, y23, vint, qP, decide_true, Bool.and_self, Bool.not_true] <;> with_reducible rfl) (by decide) ?_
  refine awp_sel [0, 1, 5, 7, 8] (by simp only [jN, seval, vint, qP, decide_true, Bool.and_self, Bool.not_true] <;> with_reducible rfl) ?_
  repeat (refine awp_seq ?_)
  refine awp_region ?_
  refine e_take 2 (by simp only [jA, jO, jN, seval, vint, qP, decide_true, Bool.and_self, Bool.not_true] <;> with_reducible rfl) (by decide) ?_
  refine aops_pure (by simp only [jC, jN, seval, vint, qP, decide_true, Bool.and_self, Bool.not_true] <;> with_reducible rfl) (by simp only [jC, jN, seval, vint, qP, decide_true, Bool.and_self, Bool.not_true]) (by decide) Trydgo10 (b2 _) ?_
  refine e_end (by simp only [jA, jO, jN, seval, y23, vint, qP, decide_true, Bool.and_self, Bool.not_true] <;> with_reducible rfl) (by decide) ?_
  repeat (refine awp_seq ?_)
  refine awp_region ?_
  refine aops_gstart ?_
  refine g_take 2 (by simp only [jG, jO, jN, seval, y23, vint, qP, decide_true, Bool.and_self, Bool.not_true] <;> with_reducible rfl) (by decide) ?_
  refine aops_neqII (a := q1) (b := q2) (c := q1) (d := q2) isAt23 rfl (by simp only [jC, jN, seval, vint, qP] <;> first | done | rfl) (by simp only [jC, jN, seval, vint, qP] <;> first | done | rfl) (by simp only [jE, jN, seval, vint, qP] <;> first | done | rfl) (by simp only [jE, jN, seval, vint, qP] <;> first | done | rfl) (by decide) (by decide) ?_
  refine g_end (by simp only [jG, jO, jN, seval, y29, vint, qP, decide_true, Bool.and_self, Bool.not_true] <;> with_reducible rfl) (by decide) (by repeat (first | exact Fin.base _ | with_reducible apply Fin.keep | apply Fin.drop)) ?_
  repeat (refine awp_seq ?_)
  refine awp_cond_false rfl (by simp only [jN, seval, vint, qP, decide_true, Bool.and_self, Bool.not_true] <;> with_reducible rfl) ?_
  repeat (refine awp_seq ?_)
  refine awp_skip ?_
  refine awp_sel [0, 1, 5, 7, 9] (by simp only [jN, seval, vint, qP, decide_true, Bool.and_self, Bool.not_true] <;> with_reducible rfl) ?_
  repeat (refine awp_seq ?_)
  refine awp_region ?_
  refine e_take 2 (by simp only [jA, jO, jN, seval, vint, qP, decide_true, Bool.and_self, Bool.not_true] <;> with_reducible rfl) (by decide) ?_
  refine aops_pure (by simp only [jC, jN, seval, vint, qP, decide_true, Bool.and_self, Bool.not_true] <;> with_reducible rfl) (by simp only [jC, jN, seval, vint, qP, decide_true, Bool.and_self, Bool.not_true]) (by decide) Trydgo11 (b3 _ (hG.app _)) ?_
  refine e_end (by simp only [jA, jO, jN, seval, y23, vint, qP, decide_true, Bool.and_self, Bool.not_true] <;> with_reducible rfl) (by decide) ?_
  repeat (refine awp_seq ?_)
  refine awp_region ?_
  refine e_take 2 (by simp only [jA, jO, jN, seval, vint, qP, decide_true, Bool.and_self, Bool.not_true] <;> with_reducible rfl) (by decide) ?_
  refine aops_pure (by simp only [jC, jN, seval, vint, qP, decide_true, Bool.and_self, Bool.not_true] <;> with_reducible rfl) (by simp only [jC, jN, seval, vint, qP, decide_true, Bool.and_self, Bool.not_true]) (by decide) Trydgo10 (b4 _) ?_
  refine e_end (by simp only [jA, jO, jN, seval, y23, vint, qP, decide_true, Bool.and_self, Bool.not_true] <;> with_reducible rfl) (by decide) ?_
  repeat (refine awp_seq ?_)
  refine awp_region ?_
  refine aops_gstart ?_
  refine g_take 2 (by simp only [jG, jO, jN, seval, y23, vint, qP, decide_true, Bool.and_self, Bool.not_true] <;> with_reducible rfl) (by decide) ?_
  refine aops_neqII (a := q3) (b := q4) (c := q3) (d := q4) isAt23 rfl (by simp only [jC, jN, seval, vint, qP] <;> first | done | rfl) (by simp only [jC, jN, seval, vint, qP] <;> first | done | rfl) (by simp only [jE, jN, seval, vint, qP] <;> first | done | rfl) (by simp only [jE, jN, seval, vint, qP] <;> first | done | rfl) (by decide) (by decide) ?_
  refine g_end (by simp only [jG, jO, jN, seval, y29, vint, qP, decide_true, Bool.and_self, Bool.not_true] <;> with_reducible rfl) (by decide) (by repeat (first | exact Fin.base _ | with_reducible apply Fin.keep | apply Fin.drop)) ?_
  repeat (refine awp_seq ?_)
  refine awp_cond_false rfl (by simp only [jN, seval, vint, qP, decide_true, Bool.and_self, Bool.not_true] <;> with_reducible rfl) ?_
  repeat (refine awp_seq ?_)
  refine awp_skip ?_
  refine awp_sel [0, 5] (by simp only [jN, seval, vint, qP, decide_true, Bool.and_self, Bool.not_true] <;> with_reducible rfl) ?_
  repeat (refine awp_seq ?_)
  refine awp_region ?_
  refine e_take 2 (by simp only [jA, jO, jN, seval, y23, vint, qP, decide_true, Bool.and_self, Bool.not_true] <;> with_reducible rfl) (by decide) ?_
  refine aops_pure (by simp only [jC, jN, seval, vint, qP, decide_true, Bool.and_self, Bool.not_true] <;> with_reducible rfl) (by simp only [jC, jN, seval, vint, qP, decide_true, Bool.and_self, Bool.not_true]) (by decide) Trydgo12 (b5 _ (hG.app _)) ?_
  refine e_end (by simp only [jA, jO, jN, seval, vint, qP, decide_true, Bool.and_self, Bool.not_true] <;> with_reducible rfl) (by decide) ?_
  repeat (refine awp_seq ?_)
  refine awp_region ?_
  refine e_take 2 (by simp only [jA, jO, jN, seval, y23, vint, qP, decide_true, Bool.and_self, Bool.not_true] <;> with_reducible rfl) (by decide) ?_
  refine aops_pure (by simp only [jC, jN, seval, vint, qP, decide_true, Bool.and_self, Bool.not_true] <;> with_reducible rfl) (by simp only [jC, jN, seval, vint, qP, decide_true, Bool.and_self, Bool.not_true]) (by decide) Trydgo13 (b6 _) ?_
  refine e_end (by simp only [jA, jO, jN, seval, vint, qP, decide_true, Bool.and_self, Bool.not_true] <;> with_reducible rfl) (by decide) ?_
  refine awp_sel [0, 5, 8, 10, 11, 12] (by simp only [jN, seval, vint, qP, decide_true, Bool.and_self, Bool.not_true] <;> with_reducible rfl) ?_
  repeat (refine awp_seq ?_)
  refine g_eval (by simp only [jG, jO, jN, seval, y3, y29, vint, qP, decide_true, Bool.and_self, Bool.not_true] <;> with_reducible rfl) (by decide) (by repeat (first | exact Fin.base _ | with_reducible apply Fin.keep | apply Fin.drop)) ?_
  repeat (refine awp_seq ?_)
  refine awp_cond_false rfl (by simp only [jN, seval, vint, qP, decide_true, Bool.and_self, Bool.not_true] <;> with_reducible rfl) ?_
  repeat (refine awp_seq ?_)
  refine awp_skip ?_
  repeat (refine awp_seq ?_)
  refine awp_region ?_
  refine e_take 2 (by simp only [jA, jO, jN, seval, y23, vint, qP, decide_true, Bool.and_self, Bool.not_true] <;> with_reducible rfl) (by decide) ?_
  refine aops_pure (by simp only [jC, jN, seval, vint, qP, decide_true, Bool.and_self, Bool.not_true] <;> with_reducible rfl) (by simp only [jC, jN, seval, vint, qP, decide_true, Bool.and_self, Bool.not_true]) (by decide) Trydgo14 (b7 _ (hG.app _)) ?_
  refine e_end (by simp only [jA, jO, jN, seval, vint, qP, decide_true, Bool.and_self, Bool.not_true] <;> with_reducible rfl) (by decide) ?_
  refine awp_sel [0, 5, 8, 11] (by simp only [jN, seval, vint, qP, decide_true, Bool.and_self, Bool.not_true] <;> with_reducible rfl) ?_
  repeat (refine awp_seq ?_)
  refine awp_region ?_
  refine e_take 2 (by simp only [jA, jO, jN, seval, y23, vint, qP, decide_true, Bool.and_self, Bool.not_true] <;> with_reducible rfl) (by decide) ?_
  refine aops_pure (by simp only [jC, jN, seval, vint, qP, decide_true, Bool.and_self, Bool.not_true] <;> with_reducible rfl) (by simp only [jC, jN, seval, vint, qP, decide_true, Bool.and_self, Bool.not_true]) (by decide) Trydgo13 (b8 _) ?_
  refine e_end (by simp only [jA, jO, jN, seval, vint, qP, decide_true, Bool.and_self, Bool.not_true] <;> with_reducible rfl) (by decide) ?_
  repeat (refine awp_seq ?_)
  refine g_eval (by simp only [jG, jO, jN, seval, y3, y29, vint, qP, decide_true, Bool.and_self, Bool.not_true] <;> with_reducible rfl) (by decide) (by repeat (first | exact Fin.base _ | with_reducible apply Fin.keep | apply Fin.drop)) ?_
  repeat (refine awp_seq ?_)
  refine awp_ret ⟨.inr rfl, _, _, rfl, ?_, (by first | exact (List.append_nil _).symm | rfl)⟩
  simp only [jN, seval, vint, qP]
  try rfl

end Go.Abs
namespace Go.Abs

/-! From a reading of the arguments to the trees, and back. -/

/-- A world as it is handed to a call: all that lies in it stays. -/
def env0 (W : World) : Env := { w := W, κ := fun _ => .fixed, ρ := fun _ => 0, tb := fun _ => none, H := [] }
theorem env0_ok (W : World) : (env0 W).Ok := by
  constructor
  · intro id cs h; simp [env0] at h
  · intro id n sz b h; simp [env0] at h
  · intro id id' cs cs' h; simp [env0] at h
  · intro id id' n sz n' sz' b h; simp [env0] at h
  · intro id b vs h; simp [env0] at h
  · exact ⟨fun id k h => by simp [env0] at h, fun id id' k k' h => by simp [env0] at h⟩
theorem env0_cell (W : World) (a : Addr) : (env0 W).view.cell a = W.cell? a := rfl

theorem calls_of_pc {P : Program} {f : FuncId} {args : List PV} {b : Bool} (h : PC P f args (.bool b)) (W : World) (vargs : Array Value) (hr : RL (env0 W).view vargs args) :
    Calls P f vargs W fun e w' => e = .returned (.bool b) ∧ Go.RowKit.Below W.heap.size W w' := by
  refine (h [] (env0 W) vargs (env0_ok W) rfl hr).mono ?_
  rintro e w' ⟨E', v, r, rfl, rfl, hle, hok, hv, rfl, _⟩
  refine ⟨by rw [hv.bool_inv], hle.os, hle.tape, hle.output, hle.size, fun k hk => (hle.other k hk ?_).2⟩
  rintro (⟨id, cs, h, _⟩ | ⟨id, n, sz, h, _⟩ | ⟨id, k, h, _⟩) <;> simp [env0] at h

def RLl (V : View) (cs : List Value) (ps : List PV) : Prop := cs.length = ps.length ∧ ∀ i (h : i < ps.length), VRel V (cs.getD i undef) ps[i]

theorem RLl.nil {V : View} : RLl V [] [] := ⟨rfl, fun i h => by cases h⟩
theorem RLl.cons {V : View} {c : Value} {cs : List Value} {p : PV} {ps : List PV} (h : VRel V c p) (hs : RLl V cs ps) : RLl V (c :: cs) (p :: ps) := by
  refine ⟨by simp [hs.1], fun i hi => ?_⟩
  cases i with
  | zero => exact h
  | succ i => exact hs.2 i (by simpa using hi)
theorem RLl.app {V : View} {c1 c2 : List Value} {p1 p2 : List PV} (h1 : RLl V c1 p1) (h2 : RLl V c2 p2) : RLl V (c1 ++ c2) (p1 ++ p2) := by
  refine ⟨by simp [h1.1, h2.1], fun i hi => ?_⟩
  by_cases h : i < p1.length
  · have := h1.2 i h
    simp only [List.getD_eq_getElem?_getD] at this ⊢
    rw [List.getElem?_append_left (by rw [h1.1]; exact h), List.getElem_append_left h]; exact this
  · have := h2.2 (i - p1.length) (by simp at hi; omega)
    simp only [List.getD_eq_getElem?_getD] at this ⊢
    rw [List.getElem?_append_right (by rw [h1.1]; omega), List.getElem_append_right (by omega), h1.1]; exact this
theorem RLl.agg {V : View} {arr : Array Value} {ps : List PV} (h : RLl V arr.toList ps) : VRel V (.agg arr) (.agg ps) := by
  refine .agg _ _ (by have := h.1; simpa using this) fun i hi => ?_
  have := h.2 i hi
  rw [List.getD_eq_getElem?_getD, Array.getElem?_toList] at this
  rw [Array.getD_eq_getD_getElem?]; exact this
theorem RLl.one {V : View} {v : Value} {p : PV} (h : RLl V [v] [p]) : VRel V v p := h.2 0 (by simp)

theorem exists_list {α : Type} {n : Nat} {p : Nat → α → Prop} (h : ∀ i, i < n → ∃ a, p i a) : ∃ xs : List α, xs.length = n ∧ ∀ i (hi : i < xs.length), p i xs[i] := by
  induction n with
  | zero => exact ⟨[], rfl, fun i hi => by cases hi⟩
  | succ n ih =>
    obtain ⟨xs, h1, h2⟩ := ih fun i hi => h i (by omega)
    obtain ⟨a, ha⟩ := h n (by omega)
    refine ⟨xs ++ [a], by simp [h1], fun i hi => ?_⟩
    by_cases hlt : i < xs.length
    · rw [List.getElem_append_left hlt]; exact h2 i hlt
    · rw [List.getElem_append_right (by omega)]
      simp at hi
      obtain rfl : i = n := by omega
      simpa using ha

/-- A list and the data of a slice. -/
def SlD {α : Type} {H : Type} (D : α → DataW H → Prop) (xs : List α) (d : DataW H) : Prop :=
  (xs = [] ∧ d = .nil) ∨ ∃ els sp, d = .slice els sp ∧ xs.length = els.length ∧ ∀ i (h1 : i < xs.length) (h2 : i < els.length), D xs[i] els[i]

section
variable {H : Type} {enc : TypeId × Value → H} {P : Program} {W : World} {spare : Nat → Bool} {held : Bool}

theorem rd_slice {α : Type} (en : α → PV) (D : α → DataW H → Prop) {t e : TypeId} {fuel : Nat} {cs : List Value} {x : DataW H × List MemPlace} (ht : P.underlying t = some (.slice e)) (hsz : ∀ a, (en a).cells.length = P.cellsOf e)
    (h : DataW.trod enc P W 0 spare held fuel t cs = some x) (ih : ∀ n cs' x', n < fuel → DataW.trod enc P W 0 spare held n e cs' = some x' → ∃ a, RLl (env0 W).view cs' (en a).cells ∧ D a x'.1) :
    ∃ (xs : List α) (v : Value), cs = [v] ∧ VRel (env0 W).view v (.slice (xs.map en) .none) ∧ SlD D xs x.1 := by
  rcases DataW.trod_slice ht h with ⟨rfl, rfl⟩ | ⟨a, len, cap, elems, rest, n, rfl, rfl, rfl, hb, hl, hm, hlen, hel, _, _⟩
  · exact ⟨[], _, rfl, .nils .none trivial, .inl ⟨rfl, rfl⟩⟩
  · obtain ⟨ys, hys, hp⟩ := exists_list (α := α × List Value) (n := len) (p := fun i y => W.cells? 0 (a.add (i * P.cellsOf e)) (P.cellsOf e) = some y.2 ∧ RLl (env0 W).view y.2 (en y.1).cells ∧ ∀ h : i < elems.length, D y.1 elems[i].1) (fun i hi => by
      have := hel i hi
      rw [List.getElem?_eq_getElem (by omega)] at this
      obtain ⟨cs', h1, h2⟩ := Option.bind_eq_some_iff.1 this
      obtain ⟨y, h3, h4⟩ := ih n cs' _ (by omega) h2
      exact ⟨(y, cs'), h1, h3, fun _ => h4⟩)
    refine ⟨ys.map (·.1), _, rfl, ?_, .inr ⟨_, _, rfl, by simp [hys, hlen], fun i h1 h2 => ?_⟩⟩
    · have hget : ∀ i (hi : i < ys.length), ys[i]? = some ys[i] := fun i hi => List.getElem?_eq_getElem hi
      refine .slice a len cap (P.cellsOf e) _ .none (fun i j => match ys[i]? with | some y => y.2.getD j undef | none => undef) (by simp [hys]) hl hm ?_ ?_ ?_ trivial
      · intro i hi; simp only [List.getElem_map]; exact hsz _
      · intro i j hi hj
        have hi' : i < ys.length := by omega
        obtain ⟨h1, h2, _⟩ := hp i hi'
        obtain ⟨_, h4, h5⟩ := World.cells?_some h1
        have := h5 j hj
        rw [hget i hi']
        simp only
        rw [env0_cell, ← add_add, this, List.getD_eq_getElem?_getD, List.getElem?_eq_getElem (by omega)]; rfl
      · intro i j hi hj
        have hi' : i < ys.length := by simpa using hi
        simp only [List.getElem_map] at hj ⊢
        rw [hget i hi']
        exact (hp i hi').2.1.2 j hj
    · simp only [List.getElem_map]
      exact (hp i (by simpa using h1)).2.2 _

/-- The field of a structure. -/
theorem rd_fields {t : TypeId} {fs : Array Field} {fuel : Nat} {cs : List Value} {x : DataW H × List MemPlace} (ht : P.underlying t = some (.struct fs)) (h : DataW.trod enc P W 0 spare held fuel t cs = some x) :
    ∃ (ds : List (DataW H)) (n : Nat), fuel = n + 1 ∧ x.1 = .agg ds ∧ cs.length = P.cellsOf t ∧ ds.length = fs.size ∧ ∀ (i : Nat) (f : Field), fs[i]? = some f → ∃ d ps, ds[i]? = some d ∧ DataW.trod enc P W 0 spare held n f.type ((cs.drop f.offset).take (P.cellsOf f.type)) = some (d, ps) := by
  obtain ⟨xs, n, h1, rfl, h3, h4, h5⟩ := DataW.trod_struct ht h
  refine ⟨xs.map (·.1), n, h1, rfl, h3, by simpa using h4, fun i f hf => ?_⟩
  have hi : i < xs.length := by
    rw [h4]
    rcases Nat.lt_or_ge i fs.size with hl | hl
    · exact hl
    · rw [Array.getElem?_eq_none hl] at hf; cases hf
  have := h5 i f hf
  rw [List.getElem?_eq_getElem hi] at this
  exact ⟨xs[i].1, xs[i].2, by simp [hi], this⟩

theorem rd_int {t : TypeId} {k : IntKind} {fuel : Nat} {cs : List Value} {x : DataW H × List MemPlace} (ht : P.underlying t = some (.int k)) (h : DataW.trod enc P W 0 spare held fuel t cs = some x) : ∃ n, RLl (env0 W).view cs [.int k n] ∧ x.1 = .lit (.int k n) ∧ (Lit.int k n).wf = true ∧ cs = [.int k n] := by
  obtain ⟨n, rfl, rfl, h3⟩ := DataW.trod_int ht h
  exact ⟨n, .cons (.int _ _) .nil, rfl, h3, rfl⟩
theorem rd_bool {t : TypeId} {fuel : Nat} {cs : List Value} {x : DataW H × List MemPlace} (ht : P.underlying t = some .bool) (h : DataW.trod enc P W 0 spare held fuel t cs = some x) : ∃ b, RLl (env0 W).view cs [.bool b] ∧ x.1 = .lit (.bool b) := by
  obtain ⟨n, rfl, rfl⟩ := DataW.trod_bool ht h
  exact ⟨n, .cons (.bool _) .nil, rfl⟩
theorem rd_string {t : TypeId} {fuel : Nat} {cs : List Value} {x : DataW H × List MemPlace} (ht : P.underlying t = some .string) (h : DataW.trod enc P W 0 spare held fuel t cs = some x) : ∃ s : List UInt8, RLl (env0 W).view cs [.str s] ∧ x.1 = .lit (.string s) ∧ s.length ≤ maxLen := by
  obtain ⟨s, rfl, rfl, h3⟩ := DataW.trod_string ht h
  exact ⟨s.data.toList, .cons (.str _) .nil, rfl, by simpa using h3⟩
end

/-- The data of a type. -/
inductive TyD {H : Type} : Ty → DataW H → Prop
  | nil (k i : Int) : TyD (.mk k i []) (.agg [.lit (.int .i64 k), .lit (.int .i64 i), .nil])
  | slice (k i : Int) (xs : List Ty) (es sp : List (DataW H)) (hl : xs.length = es.length) (h : ∀ j (h1 : j < xs.length) (h2 : j < es.length), TyD xs[j] es[j]) : TyD (.mk k i xs) (.agg [.lit (.int .i64 k), .lit (.int .i64 i), .slice es sp])
theorem TyD.of {H : Type} {k i : Int} {xs : List Ty} {d : DataW H} (h : SlD TyD xs d) : TyD (.mk k i xs) (.agg [.lit (.int .i64 k), .lit (.int .i64 i), d]) := by
  rcases h with ⟨rfl, rfl⟩ | ⟨es, sp, rfl, h1, h2⟩
  · exact .nil k i
  · exact .slice k i xs es sp h1 h2

/-- The facts on a program's type 'api.Type' that a reading looks at. -/
structure TyAt (P : Program) (T S : TypeId) : Prop where
  st : ∃ f0 f1 f2 : Field, P.underlying T = some (.struct #[f0, f1, f2]) ∧ P.underlying f0.type = some (.int .i64) ∧ P.underlying f1.type = some (.int .i64) ∧ f2.type = S ∧ f0.offset = 0 ∧ f1.offset = 1 ∧ f2.offset = 2 ∧ P.cellsOf f0.type = 1 ∧ P.cellsOf f1.type = 1
  sl : P.underlying S = some (.slice T)
  c : P.cellsOf T = 3
  cs : P.cellsOf S = 1
  by40 : P.bytesOf T = 40

section
variable {H : Type} {enc : TypeId × Value → H} {P : Program} {W : World} {spare : Nat → Bool} {held : Bool} {T S : TypeId}

theorem rd_ty (F : TyAt P T S) : ∀ (fuel : Nat) (cs : List Value) (x : DataW H × List MemPlace), DataW.trod enc P W 0 spare held fuel T cs = some x → ∃ t : Ty, RLl (env0 W).view cs t.enc.cells ∧ TyD t x.1 := by
  intro fuel
  induction fuel using Nat.strongRecOn with
  | _ fuel ih =>
  intro cs x h
  obtain ⟨f0, f1, f2, hst, u0, u1, e2, o0, o1, o2, c0, c1⟩ := F.st
  obtain ⟨ds, n, rfl, hx, hlen, hdl, hf⟩ := rd_fields hst h
  rw [F.c] at hlen
  match cs, hlen with
  | [v0, v1, v2], _ =>
  obtain ⟨d0, p0, g0, r0⟩ := hf 0 f0 rfl
  obtain ⟨d1, p1, g1, r1⟩ := hf 1 f1 rfl
  obtain ⟨d2, p2, g2, r2⟩ := hf 2 f2 rfl
  rw [o0, c0] at r0
  rw [o1, c1] at r1
  rw [o2, e2, F.cs] at r2
  obtain ⟨k, q0, rfl, w0, _⟩ := rd_int u0 r0
  obtain ⟨i, q1, rfl, w1, _⟩ := rd_int u1 r1
  obtain ⟨xs, v, hv, hr, hd⟩ := rd_slice Ty.enc TyD F.sl (fun a => by rw [F.c, Ty.enc_len]) r2 (fun m cs' x' hm h' => ih m (by omega) cs' x' h')
  simp only [List.drop_succ_cons, List.drop_zero, List.take_succ_cons, List.take_zero, List.cons.injEq, and_true] at hv
  subst hv
  refine ⟨.mk k i xs, ?_, ?_⟩
  · rw [Ty.enc_cells]
    exact .cons q0.one (.cons q1.one (.cons hr .nil))
  · rw [hx]
    have : ds = [.lit (.int .i64 k), .lit (.int .i64 i), d2] := by
      match ds, hdl with
      | [a, b, c], _ =>
        simp at g0 g1 g2
        rw [g0, g1, g2]
    rw [this]
    exact .of hd

/-- No list of arguments is longer than the row's own bound bears. -/
theorem ty_weights (F : TyAt P T S) {t : Ty} {d : DataW H} (h : TyD t d) (hw : (d.weights P T).all (· ≤ reachBytes) = true) : t.W := by
  obtain ⟨f0, f1, f2, hst, u0, u1, e2, _⟩ := F.st
  induction h with
  | nil k i => exact .mk (by simp) (by simp)
  | slice k i xs es sp hl h ih =>
    simp only [DataW.weights, hst, DataW.weightsEach, List.map_cons, List.map_nil, e2, F.sl, F.by40, List.nil_append, List.append_nil, List.all_cons, List.all_append, Bool.and_eq_true, decide_eq_true_eq] at hw
    have hb : reachBytes = 140737488351232 := rfl
    refine .mk (by rw [hl]; have := hw.1; omega) fun u hu => ?_
    obtain ⟨j, hj, rfl⟩ := List.mem_iff_getElem.1 hu
    refine ih j hj (by omega) ?_
    have h2 := hw.2.1
    rw [List.all_eq_true] at h2 ⊢
    intro x hx
    refine h2 x ?_
    have hmem : ∀ (l : List (DataW H)) (e : DataW H), e ∈ l → x ∈ e.weights P T → x ∈ DataW.weightsAll P T l := by
      intro l
      induction l with
      | nil => intro e he; cases he
      | cons a l ihl =>
        intro e he hx
        simp only [DataW.weightsAll, List.mem_append]
        rcases List.mem_cons.1 he with rfl | he
        · exact .inl hx
        · exact .inr (ihl e he hx)
    exact hmem es _ (List.getElem_mem _) hx

theorem weights_mem {l : List (DataW H)} {e : TypeId} {d : DataW H} (hd : d ∈ l) (h : (DataW.weightsAll P e l).all (· ≤ reachBytes) = true) : (d.weights P e).all (· ≤ reachBytes) = true := by
  rw [List.all_eq_true] at h ⊢
  intro x hx
  refine h x ?_
  clear h
  induction l with
  | nil => cases hd
  | cons a l ih =>
    simp only [DataW.weightsAll, List.mem_append]
    rcases List.mem_cons.1 hd with rfl | hd
    · exact .inl hx
    · exact .inr (ih hd)

/-- A slice's elements and its length. -/
theorem sl_weights {α : Type} {D : α → DataW H → Prop} {Sl E : TypeId} (hs : P.underlying Sl = some (.slice E)) {xs : List α} {d : DataW H} (h : SlD D xs d) (hw : (d.weights P Sl).all (· ≤ reachBytes) = true) :
    xs.length * P.bytesOf E ≤ reachBytes ∧ ∀ a ∈ xs, ∃ d', D a d' ∧ (d'.weights P E).all (· ≤ reachBytes) = true := by
  rcases h with ⟨rfl, rfl⟩ | ⟨els, sp, rfl, h1, h2⟩
  · simp
  · simp only [DataW.weights, hs, List.all_cons, List.all_append, Bool.and_eq_true, decide_eq_true_eq] at hw
    refine ⟨?_, fun a ha => ?_⟩
    · rw [h1]
      refine Nat.le_trans (Nat.mul_le_mul_right _ (Nat.le_add_right _ _)) hw.1
    · obtain ⟨j, hj, rfl⟩ := List.mem_iff_getElem.1 ha
      exact ⟨_, h2 j hj (by omega), weights_mem (List.getElem_mem _) hw.2.1⟩
end
end Go.Abs
namespace Go.Abs
theorem RLl.rl {V : View} {arr : Array Value} {ps : List PV} (h : RLl V arr.toList ps) : RL V arr ps := by
  refine ⟨by have := h.1; simpa using this, fun i hi => ?_⟩
  have := h.2 i hi
  rw [List.getD_eq_getElem?_getD, Array.getElem?_toList] at this
  rw [Array.getD_eq_getD_getElem?]; exact this
theorem Ty.enc_agg (t : Ty) : PV.agg t.enc.cells = t.enc := by rw [Ty.enc_cells, Ty.enc_eq]
end Go.Abs
namespace Go.Abs
/-! The plain laws of chapter 'scheme'. -/
def mapT (g : Ty → Ty × Bool) : Ty → Ty
  | .mk k i us => if (g (.mk k i us)).2 then (g (.mk k i us)).1 else .mk k i (us.map fun u => mapT g u)
theorem mapT_eq (g : Ty → Ty × Bool) (t : Ty) : mapT g t = if (g t).2 then (g t).1 else .mk t.kind t.id (t.args.map (mapT g)) := by
  cases t; rw [mapT]; rfl
/-- What Apply's function value answers. -/
def appG (ps : List Int) (xs : List Ty) (u : Ty) : Ty × Bool :=
  if (!decide (u.kind = 2) || decide (idxI (fun x => decide (u.id = x)) ps < 0) || decide (idxI (fun x => decide (u.id = x)) ps ≥ xs.length)) = true then (u, false) else (xs.getD (idxI (fun x => decide (u.id = x)) ps).toNat (.mk 0 0 []), true)
def insG (ps : List Int) (v : Int) (u : Ty) : Ty × Bool :=
  if (!decide (u.kind = 2) || decide (idxI (fun x => decide (u.id = x)) ps < 0)) = true then (u, false) else (.mk 1 (IntKind.i64.wrap (v + idxI (fun x => decide (u.id = x)) ps)) [], true)
def cpar (p : Int) : Ty → Bool
  | .mk k i xs => (decide (k = 2) && decide (i = p)) || (xs.map fun a => cpar p a).any id
theorem cpar_eq (p : Int) (t : Ty) : cpar p t = ((decide (t.kind = 2) && decide (t.id = p)) || t.args.any (cpar p)) := by
  cases t; rw [cpar, List.any_map]; rfl
def mS0 (ps : List Int) : MSt := (List.replicate ps.length (.mk 0 0 []), List.replicate ps.length false)
theorem mS0_ok (ps : List Int) : MOk ps.length (mS0 ps) := ⟨by simp [mS0], by simp [mS0], fun a ha => by rw [List.eq_of_mem_replicate ha]; exact .mk (by simp) (by simp)⟩
/-- What Match answers. -/
def matchP (ps : List Int) (t p : Ty) : List Ty × Bool := if (matchT ps t p (mS0 ps)).1 = true then ((matchT ps t p (mS0 ps)).2.1, true) else ([], false)

theorem idxI_neg {ps : List Int} {n : Int} (h : n ∉ ps) : idxI (fun x => decide (n = x)) ps = -1 :=
  idxI_none (by rw [List.any_eq_false]; intro x hx; simp; rintro rfl; exact h hx)
theorem abs_map (ps : List Int) (g : Ty → Ty × Bool) (hg : ∀ u, ¬ (u.kind = 2 ∧ u.id ∈ ps) → (g u).2 = false) : ∀ t, (∀ p ∈ ps, cpar p t = false) → mapT g t = t
  | .mk k i us, h => by
    have h0 : ¬ (k = 2 ∧ i ∈ ps) := by
      rintro ⟨rfl, hi⟩
      have := h i hi
      rw [cpar_eq] at this
      simp [Ty.kind, Ty.id] at this
    rw [mapT, if_neg (by rw [hg (.mk k i us) h0]; simp)]
    congr 1
    have : ∀ u ∈ us, mapT g u = u := fun u hu => abs_map ps g hg u fun p hp => by
      have := h p hp
      rw [cpar_eq, Bool.or_eq_false_iff, List.any_eq_false] at this
      simpa using this.2 u hu
    rw [List.map_congr_left this, List.map_id'']
    intro x; rfl
theorem app_abs (ps : List Int) (xs : List Ty) (t : Ty) (h : (ps.any fun p => cpar p t) = false) : mapT (appG ps xs) t = t :=
  abs_map ps _ (fun u hu => by
    unfold appG
    rw [if_pos]
    by_cases hk : u.kind = 2
    · rw [idxI_neg fun hi => hu ⟨hk, hi⟩]; simp
    · simp [hk]) t (fun p hp => by rw [List.any_eq_false] at h; simpa using h p hp)
theorem ins_abs (ps : List Int) (v : Int) (t : Ty) (h : (ps.any fun p => cpar p t) = false) : mapT (insG ps v) t = t :=
  abs_map ps _ (fun u hu => by
    unfold insG
    rw [if_pos]
    by_cases hk : u.kind = 2
    · rw [idxI_neg fun hi => hu ⟨hk, hi⟩]; simp
    · simp [hk]) t (fun p hp => by rw [List.any_eq_false] at h; simpa using h p hp)

/-- The bound places of a state are those of a list. -/
def Agr (s : MSt) (xs : List Ty) : Prop := ∀ i, s.2.getD i false = true → xs.getD i .zero = s.1.getD i .zero

theorem getD_set {α : Type} (l : List α) (i j : Nat) (a d : α) (hi : i < l.length) : (l.set i a).getD j d = if j = i then a else l.getD j d := by
  simp only [List.getD_eq_getElem?_getD]
  by_cases h : j = i
  · subst h; rw [if_pos rfl, List.getElem?_set_self hi]; rfl
  · rw [if_neg h, List.getElem?_set_ne (Ne.symm h)]

/-- One state after another. -/
def MLe (s s' : MSt) : Prop := ∀ i, s.2.getD i false = true → s'.2.getD i false = true ∧ s'.1.getD i .zero = s.1.getD i .zero
theorem MLe.refl (s : MSt) : MLe s s := fun i h => ⟨h, rfl⟩
theorem MLe.trans {a b c : MSt} (h : MLe a b) (k : MLe b c) : MLe a c := fun i hi => ⟨(k i (h i hi).1).1, (k i (h i hi).1).2.trans (h i hi).2⟩
theorem Agr.mono {s s' : MSt} {xs : List Ty} (h : MLe s s') (k : Agr s' xs) : Agr s xs := fun i hi => (k i (h i hi).1).trans (h i hi).2

theorem matchL_le : ∀ (l : List (Ty × (Ty → MSt → Bool × MSt))) (s : MSt) {n : Nat}, MOk n s → (∀ x ∈ l, ∀ s, MOk n s → MOk n (x.2 x.1 s).2 ∧ MLe s (x.2 x.1 s).2) → MLe s (matchL l s).2
  | [], s, n, _, _ => .refl _
  | (a, f) :: r, s, n, hs, hl => by
    have h1 := hl _ (List.mem_cons_self ..) s hs
    unfold matchL
    split
    · exact h1.2.trans (matchL_le r _ h1.1 fun x hx => hl x (List.mem_cons_of_mem _ hx))
    · exact h1.2

theorem matchT_le (ps : List Int) : ∀ (p t : Ty) (s : MSt), t.W → MOk ps.length s → MLe s (matchT ps t p s).2
  | .mk pk pi us, t, s, hw, hs => by
    rw [matchT]
    split
    · rename_i hc
      rw [Bool.and_eq_true, decide_eq_true_eq, decide_eq_true_eq] at hc
      have hlt := idxI_lt hc.2
      have hk : (idxI (fun x => decide (pi = x)) ps).toNat < ps.length := by omega
      split
      · exact .refl _
      · rename_i hb
        intro i hi
        simp only [getD_set _ _ _ _ _ (show (idxI (fun x => decide (pi = x)) ps).toNat < s.1.length by rw [hs.l1]; exact hk), getD_set _ _ _ _ _ (show (idxI (fun x => decide (pi = x)) ps).toNat < s.2.length by rw [hs.l2]; exact hk)]
        have hne : i ≠ (idxI (fun x => decide (pi = x)) ps).toNat := by rintro rfl; exact hb hi
        rw [if_neg hne, if_neg hne]
        exact ⟨hi, rfl⟩
    · split
      · exact .refl _
      · refine matchL_le _ _ hs ?_
        rintro ⟨a, f⟩ hx s hs
        have hx1 := List.of_mem_zip hx
        obtain ⟨u, hu, rfl⟩ := List.mem_map.1 hx1.2
        exact ⟨matchT_ok ps u a s (hw.arg hx1.1) hs, matchT_le ps u a s (hw.arg hx1.1) hs⟩

/-- What a list of arguments that agrees with the state makes of the pattern. -/
theorem matchL_apply (ps : List Int) (xs : List Ty) (hn : xs.length = ps.length) : ∀ (ts us : List Ty) (s : MSt), ts.length = us.length → MOk ps.length s → (∀ t ∈ ts, t.W) →
    (∀ u ∈ us, ∀ (t : Ty) (s : MSt), t.W → MOk ps.length s → (matchT ps t u s).1 = true → Agr (matchT ps t u s).2 xs → mapT (appG ps xs) u = t) →
    (matchL (ts.zip (us.map fun u => fun a s => matchT ps a u s)) s).1 = true → Agr (matchL (ts.zip (us.map fun u => fun a s => matchT ps a u s)) s).2 xs → us.map (mapT (appG ps xs)) = ts
  | [], [], s, _, _, _, _, _, _ => rfl
  | t :: ts, u :: us, s, hl, hs, hw, ih, h1, h2 => by
    simp only [List.map_cons, List.zip_cons_cons, matchL] at h1 h2
    split at h1
    · rename_i hm
      rw [if_pos hm] at h2
      have hw1 := hw t (List.mem_cons_self ..)
      have hok := matchT_ok ps u t s hw1 hs
      have hle : MLe (matchT ps t u s).2 (matchL (ts.zip (us.map fun u => fun a s => matchT ps a u s)) (matchT ps t u s).2).2 := by
        refine matchL_le _ _ hok ?_
        rintro ⟨a, f⟩ hx s hs
        have hx1 := List.of_mem_zip hx
        obtain ⟨u, hu, rfl⟩ := List.mem_map.1 hx1.2
        have hwa := hw a (List.mem_cons_of_mem _ hx1.1)
        exact ⟨matchT_ok ps u a s hwa hs, matchT_le ps u a s hwa hs⟩
      rw [List.map_cons, ih u (List.mem_cons_self ..) t s hw1 hs hm (h2.mono hle),
        matchL_apply ps xs hn ts us _ (by simpa using hl) hok (fun t ht => hw t (List.mem_cons_of_mem _ ht)) (fun u hu => ih u (List.mem_cons_of_mem _ hu)) h1 h2]
    · cases h1

theorem matchT_apply (ps : List Int) (xs : List Ty) (hn : xs.length = ps.length) : ∀ (p t : Ty) (s : MSt), t.W → MOk ps.length s → (matchT ps t p s).1 = true → Agr (matchT ps t p s).2 xs → mapT (appG ps xs) p = t
  | .mk pk pi us, t, s, hw, hs, h1, h2 => by
    rw [matchT] at h1 h2
    rw [mapT]
    by_cases hc : (decide (pk = 2) && decide (idxI (fun x => decide (pi = x)) ps ≥ 0)) = true
    · rw [if_pos hc] at h1 h2
      rw [Bool.and_eq_true, decide_eq_true_eq, decide_eq_true_eq] at hc
      have hlt := idxI_lt hc.2
      have hk : (idxI (fun x => decide (pi = x)) ps).toNat < ps.length := by omega
      have hg : appG ps xs (.mk pk pi us) = (xs.getD (idxI (fun x => decide (pi = x)) ps).toNat .zero, true) := by
        unfold appG
        rw [if_neg]
        · rfl
        · intro hh
          rw [Bool.or_eq_true, Bool.or_eq_true] at hh
          rcases hh with (hh | hh) | hh
          · simp [Ty.kind, hc.1] at hh
          · have : idxI (fun x => decide (pi = x)) ps < 0 := of_decide_eq_true hh
            omega
          · have : idxI (fun x => decide (pi = x)) ps ≥ xs.length := of_decide_eq_true hh
            omega
      rw [hg, if_pos rfl]
      split at h1
      · rename_i hb
        rw [if_pos hb] at h2
        rw [h2 _ hb]
        exact (Ty.eqb_iff _ _).1 h1
      · rename_i hb
        rw [if_neg hb] at h2
        have := h2 (idxI (fun x => decide (pi = x)) ps).toNat (by rw [getD_set _ _ _ _ _ (by rw [hs.l2]; exact hk), if_pos rfl])
        rw [this, getD_set _ _ _ _ _ (by rw [hs.l1]; exact hk), if_pos rfl]
    · rw [if_neg hc] at h1 h2
      have hg : (appG ps xs (.mk pk pi us)).2 = false := by
        unfold appG
        rw [if_pos]
        simp only [Ty.kind, Ty.id]
        rw [Bool.or_eq_true, Bool.or_eq_true]
        by_cases hk : pk = 2
        · exact .inl (.inr (decide_eq_true (Int.not_le.1 fun q => hc (by rw [Bool.and_eq_true, decide_eq_true_eq, decide_eq_true_eq]; exact ⟨hk, q⟩))))
        · exact .inl (.inl (by simp [hk]))
      rw [hg, if_neg (by simp)]
      split at h1
      · cases h1
      · rename_i hd
        rw [if_neg hd] at h2
        simp at hd
        obtain ⟨⟨e1, e2⟩, e3⟩ := hd
        have := matchL_apply ps xs hn t.args us s (by omega) hs (fun t ht => hw.arg ht) (fun u hu t s => matchT_apply ps xs hn u t s) h1 h2
        rw [this, ← e1, ← e2]
        exact Ty.eta t

/-- Matching what Apply made. -/
structure MRt (ps : List Int) (xs : List Ty) (s : MSt) : Prop where
  agr : Agr s xs
  zero : ∀ i, s.2.getD i false = false → s.1.getD i .zero = .zero

theorem matchL_round (ps : List Int) (xs : List Ty) (hn : ps.length ≤ xs.length) (hW : ∀ x ∈ xs, x.W) : ∀ (us : List Ty) (s : MSt), MOk ps.length s → MRt ps xs s → (∀ t ∈ us.map (mapT (appG ps xs)), t.W) →
    (∀ u ∈ us, ∀ (s : MSt), (mapT (appG ps xs) u).W → MOk ps.length s → MRt ps xs s → (matchT ps (mapT (appG ps xs) u) u s).1 = true ∧ MRt ps xs (matchT ps (mapT (appG ps xs) u) u s).2) →
    (matchL ((us.map (mapT (appG ps xs))).zip (us.map fun u => fun a s => matchT ps a u s)) s).1 = true ∧ MRt ps xs (matchL ((us.map (mapT (appG ps xs))).zip (us.map fun u => fun a s => matchT ps a u s)) s).2
  | [], s, _, h, _, _ => ⟨rfl, h⟩
  | u :: us, s, hs, h, hw, ih => by
    have hw1 := hw _ (by simp : mapT (appG ps xs) u ∈ (u :: us).map (mapT (appG ps xs)))
    obtain ⟨h1, h2⟩ := ih u (List.mem_cons_self ..) s hw1 hs h
    simp only [List.map_cons, List.zip_cons_cons, matchL, h1, if_true]
    exact matchL_round ps xs hn hW us _ (matchT_ok ps u _ s hw1 hs) h2 (fun t ht => hw t (by rw [List.map_cons]; exact List.mem_cons_of_mem _ ht)) fun u hu => ih u (List.mem_cons_of_mem _ hu)

theorem matchT_round (ps : List Int) (xs : List Ty) (hn : ps.length ≤ xs.length) (hW : ∀ x ∈ xs, x.W) : ∀ (p : Ty) (s : MSt), (mapT (appG ps xs) p).W → MOk ps.length s → MRt ps xs s →
    (matchT ps (mapT (appG ps xs) p) p s).1 = true ∧ MRt ps xs (matchT ps (mapT (appG ps xs) p) p s).2
  | .mk pk pi us, s, hw, hs, h => by
    by_cases hc : (decide (pk = 2) && decide (idxI (fun x => decide (pi = x)) ps ≥ 0)) = true
    · have hc' := hc
      rw [Bool.and_eq_true, decide_eq_true_eq, decide_eq_true_eq] at hc
      have hlt := idxI_lt hc.2
      have hk : (idxI (fun x => decide (pi = x)) ps).toNat < ps.length := by omega
      have hg : appG ps xs (.mk pk pi us) = (xs.getD (idxI (fun x => decide (pi = x)) ps).toNat .zero, true) := by
        unfold appG
        rw [if_neg]
        · rfl
        · intro hh
          rw [Bool.or_eq_true, Bool.or_eq_true] at hh
          rcases hh with (hh | hh) | hh
          · simp [Ty.kind, hc.1] at hh
          · have : idxI (fun x => decide (pi = x)) ps < 0 := of_decide_eq_true hh
            omega
          · have : idxI (fun x => decide (pi = x)) ps ≥ xs.length := of_decide_eq_true hh
            omega
      have hmap : mapT (appG ps xs) (.mk pk pi us) = xs.getD (idxI (fun x => decide (pi = x)) ps).toNat .zero := by rw [mapT, hg, if_pos rfl]
      rw [hmap, matchT, if_pos hc']
      split
      · rename_i hb
        exact ⟨(Ty.eqb_iff _ _).2 (h.agr _ hb).symm, h⟩
      · rename_i hb
        refine ⟨rfl, ?_, ?_⟩
        · intro i hi
          simp only [getD_set _ _ _ _ _ (show (idxI (fun x => decide (pi = x)) ps).toNat < s.1.length by rw [hs.l1]; exact hk)]
          rw [getD_set _ _ _ _ _ (by rw [hs.l2]; exact hk)] at hi
          split
          · rename_i e; rw [e]
          · rename_i e; rw [if_neg e] at hi; exact h.agr i hi
        · intro i hi
          simp only [getD_set _ _ _ _ _ (show (idxI (fun x => decide (pi = x)) ps).toNat < s.1.length by rw [hs.l1]; exact hk)]
          rw [getD_set _ _ _ _ _ (by rw [hs.l2]; exact hk)] at hi
          split
          · rename_i e; rw [if_pos e] at hi; cases hi
          · rename_i e; rw [if_neg e] at hi; exact h.zero i hi
    · have hg : (appG ps xs (.mk pk pi us)).2 = false := by
        unfold appG
        rw [if_pos]
        simp only [Ty.kind, Ty.id]
        rw [Bool.or_eq_true, Bool.or_eq_true]
        by_cases hk : pk = 2
        · exact .inl (.inr (decide_eq_true (Int.not_le.1 fun q => hc (by rw [Bool.and_eq_true, decide_eq_true_eq, decide_eq_true_eq]; exact ⟨hk, q⟩))))
        · exact .inl (.inl (by simp [hk]))
      have hmap : mapT (appG ps xs) (.mk pk pi us) = .mk pk pi (us.map (mapT (appG ps xs))) := by rw [mapT, hg, if_neg (by simp)]
      rw [hmap] at hw ⊢
      rw [matchT, if_neg hc, if_neg (by simp [Ty.kind, Ty.id, Ty.args])]
      exact matchL_round ps xs hn hW us s hs h (fun t ht => hw.arg ht) fun u hu s => matchT_round ps xs hn hW u s

theorem mapT_W {g : Ty → Ty × Bool} (hg : ∀ u, (g u).2 = true → (g u).1.W) : ∀ t, t.W → (mapT g t).W
  | .mk k i us, h => by
    rw [mapT]
    split
    · rename_i hb; exact hg _ hb
    · refine .mk (by rw [List.length_map]; exact h.len) fun v hv => ?_
      obtain ⟨u, hu, rfl⟩ := List.mem_map.1 hv
      exact mapT_W hg u (h.arg hu)
theorem app_W {ps : List Int} {xs : List Ty} (hw : ∀ x ∈ xs, x.W) {t : Ty} (ht : t.W) : (mapT (appG ps xs) t).W :=
  mapT_W (fun u hu => by
    unfold appG at hu ⊢
    split at hu
    · cases hu
    · rename_i hc
      rw [if_neg hc]
      simp only
      rw [List.getD_eq_getElem?_getD]
      cases hq : xs[(idxI (fun x => decide (u.id = x)) ps).toNat]? with
      | none => exact .mk (by simp) (by simp)
      | some a => exact hw a (List.mem_of_getElem? hq)) t ht

theorem ins_W {ps : List Int} {v : Int} {t : Ty} (ht : t.W) : (mapT (insG ps v) t).W :=
  mapT_W (fun u hu => by
    unfold insG at hu ⊢
    split at hu
    · cases hu
    · rename_i hc
      rw [if_neg hc]
      exact .mk (by simp) (by simp)) t ht

/-- Match, then Apply. -/
theorem match_apply (ps : List Int) (t p : Ty) (hw : t.W) (h : (matchP ps t p).2 = true) : (matchP ps t p).1.length = ps.length ∧ mapT (appG ps (matchP ps t p).1) p = t := by
  unfold matchP at h ⊢
  split at h
  · rename_i hm
    rw [if_pos hm]
    have hok := matchT_ok ps p t (mS0 ps) hw (mS0_ok ps)
    exact ⟨hok.l1, matchT_apply ps _ hok.l1 p t (mS0 ps) hw (mS0_ok ps) hm fun i _ => rfl⟩
  · cases h
theorem match_none (ps : List Int) (t p : Ty) (h : (matchP ps t p).2 = false) : (matchP ps t p).1 = [] := by
  unfold matchP at h ⊢
  split at h
  · cases h
  · rename_i hm; rw [if_neg hm]
theorem matchP_W (ps : List Int) (t p : Ty) (hw : t.W) : ∀ a ∈ (matchP ps t p).1, a.W := by
  unfold matchP
  split
  · exact (matchT_ok ps p t (mS0 ps) hw (mS0_ok ps)).w
  · simp
/-- Apply, then Match. -/
theorem apply_match (ps : List Int) (xs : List Ty) (p : Ty) (hn : ps.length ≤ xs.length) (hW : ∀ x ∈ xs, x.W) (hp : p.W) :
    (matchP ps (mapT (appG ps xs) p) p).2 = true ∧ (matchP ps (mapT (appG ps xs) p) p).1.length = ps.length ∧
    ∀ i (h : i < (matchP ps (mapT (appG ps xs) p) p).1.length), ((matchP ps (mapT (appG ps xs) p) p).1[i]).kind ≠ 0 → (matchP ps (mapT (appG ps xs) p) p).1[i] = xs.getD i .zero := by
  have hw := app_W (ps := ps) hW hp
  have h0 : MRt ps xs (mS0 ps) := by
    refine ⟨fun i hi => ?_, fun i _ => ?_⟩
    · simp only [mS0, List.getD_eq_getElem?_getD] at hi
      rw [List.getElem?_replicate] at hi
      split at hi <;> cases hi
    · simp only [mS0, List.getD_eq_getElem?_getD]
      rw [List.getElem?_replicate]
      split <;> rfl
  obtain ⟨h1, h2⟩ := matchT_round ps xs hn hW p (mS0 ps) hw (mS0_ok ps) h0
  have hok := matchT_ok ps p _ (mS0 ps) hw (mS0_ok ps)
  simp only [matchP, h1, if_true]
  refine ⟨trivial, hok.l1, fun i hi hne => ?_⟩
  have hget : (matchT ps (mapT (appG ps xs) p) p (mS0 ps)).2.1.getD i .zero = (matchT ps (mapT (appG ps xs) p) p (mS0 ps)).2.1[i] := by
    rw [List.getD_eq_getElem?_getD, List.getElem?_eq_getElem hi, Option.getD_some]
  cases hb : (matchT ps (mapT (appG ps xs) p) p (mS0 ps)).2.2.getD i false with
  | true => rw [← hget]; exact (h2.agr i hb).symm
  | false => rw [← hget, h2.zero i hb] at hne; exact (hne rfl).elim
end Go.Abs
namespace Go.Abs
/-! The chapter 'types': bindings, sizes, variables. -/
structure Bd where
  v : Int
  t : Ty
def Bd.enc (b : Bd) : PV := .agg [.int .i64 b.v, .int .i64 b.t.kind, .int .i64 b.t.id, .slice (b.t.args.map Ty.enc) .none]
theorem Bd.enc_len (b : Bd) : b.enc.cells.length = 4 := rfl
theorem Bd.bel (n : Nat) (b : Bd) : Bel n b.enc := .agg _ (by
  intro c hc
  simp at hc
  rcases hc with rfl | rfl | rfl | rfl
  · exact .int _ _
  · exact .int _ _
  · exact .int _ _
  · exact bel_slice_ty _ _)
theorem bel_Bd (n : Nat) (us : List Bd) : Bel n (.slice (us.map Bd.enc) .none) := .slice _ _ (fun e he c hc => by
  obtain ⟨b, _, rfl⟩ := List.mem_map.1 he
  have := Bd.bel n b
  unfold Bd.enc at this hc
  cases this with | agg _ h => exact h c hc) (by simp)
/-- Rules for bindings. -/
theorem BdS : (∀ b : Bd, b.enc.cells = [.int .i64 b.v, .int .i64 b.t.kind, .int .i64 b.t.id, .slice (b.t.args.map Ty.enc) .none]) ∧ (∀ b : Bd, b.enc.isJunk = false) ∧ (∀ b : Bd, b.enc.drop1 = b.enc) ∧ (∀ (b : Bd) (n : Nat), b.enc.fits ⟨true, 4, n⟩ = true) ∧
    (∀ (v : Int) (t : Ty), PV.agg [.int .i64 v, .int .i64 t.kind, .int .i64 t.id, .slice (t.args.map Ty.enc) .none] = (Bd.mk v t).enc) ∧ (∀ (v : Int) (t : Ty), (Bd.mk v t).v = v) ∧ (∀ (v : Int) (t : Ty), (Bd.mk v t).t = t) ∧ (∀ b : Bd, Bd.mk b.v b.t = b) ∧
    (∀ (v k i : Int), PV.agg [.int .i64 v, .int .i64 k, .int .i64 i, .slice [] .none] = (Bd.mk v (Ty.mk k i [])).enc) :=
  ⟨fun _ => rfl, fun _ => rfl, fun _ => rfl, fun _ _ => rfl, fun _ _ => rfl, fun _ _ => rfl, fun _ _ => rfl, fun _ => rfl, fun _ _ _ => rfl⟩

def subG (s : List Bd) (u : Ty) : Ty × Bool :=
  if (!decide (u.kind = 1)) = true then (u, false)
  else if decide (idxI (fun b : Bd => decide (b.v = u.id)) s < 0) = true then (u, false)
  else ((s.getD (idxI (fun b : Bd => decide (b.v = u.id)) s).toNat ⟨0, .mk 0 0 []⟩).t, true)

theorem sub_W {s : List Bd} (hs : ∀ b ∈ s, b.t.W) {t : Ty} (ht : t.W) : (mapT (subG s) t).W :=
  mapT_W (fun u hu => by
    unfold subG at hu ⊢
    split at hu
    · cases hu
    · rename_i h1
      split at hu
      · cases hu
      · rename_i h2
        rw [if_neg h1, if_neg h2]
        simp only
        rw [List.getD_eq_getElem?_getD]
        cases hq : s[(idxI (fun b : Bd => decide (b.v = u.id)) s).toNat]? with
        | none => exact .mk (by simp) (by simp)
        | some a => exact hs a (List.mem_of_getElem? hq)) t ht

/-- Sizes and depths as 'measure' counts them. -/
def measL : List (Int → Int × Int) → Int → Int × Int → Int × Int
  | [], _, s => s
  | f :: fs, L, s => if decide (s.1 > L) = true then s else measL fs L (s.1 + (f (L - s.1)).1, max s.2 (f (L - s.1)).2)
def measT : Ty → Int → Int × Int
  | .mk _ _ us, L => ((measL (us.map fun u L => measT u L) L (1, 0)).1, (measL (us.map fun u L => measT u L) L (1, 0)).2 + 1)
theorem measT_eq (t : Ty) (L : Int) : measT t L = ((measL (t.args.map measT) L (1, 0)).1, (measL (t.args.map measT) L (1, 0)).2 + 1) := by
  cases t; rw [measT]; rfl
theorem measL_bd : ∀ (fs : List (Int → Int × Int)) (L : Int) (s : Int × Int), 0 ≤ L → (∀ f ∈ fs, ∀ M, 0 ≤ M → M < L → 1 ≤ (f M).1 ∧ (f M).1 ≤ M + 1 ∧ 1 ≤ (f M).2 ∧ (f M).2 ≤ M + 1) → 1 ≤ s.1 → s.1 ≤ L + 1 → 0 ≤ s.2 → s.2 ≤ L →
    1 ≤ (measL fs L s).1 ∧ (measL fs L s).1 ≤ L + 1 ∧ 0 ≤ (measL fs L s).2 ∧ (measL fs L s).2 ≤ L
  | [], L, s, hL, _, h1, h2, h3, h4 => ⟨h1, h2, h3, h4⟩
  | f :: fs, L, s, hL, hf, h1, h2, h3, h4 => by
    unfold measL
    split
    · exact ⟨h1, h2, h3, h4⟩
    · rename_i hs
      have hs' : s.1 ≤ L := by have : ¬ s.1 > L := fun q => hs (decide_eq_true q); omega
      obtain ⟨q1, q2, q3, q4⟩ := hf f (List.mem_cons_self ..) (L - s.1) (by omega) (by omega)
      exact measL_bd fs L _ hL (fun g hg => hf g (List.mem_cons_of_mem _ hg)) (by simp only; omega) (by simp only; omega) (by simp only; omega) (by simp only; omega)
theorem measT_bd : ∀ (t : Ty) (L : Int), 0 ≤ L → 1 ≤ (measT t L).1 ∧ (measT t L).1 ≤ L + 1 ∧ 1 ≤ (measT t L).2 ∧ (measT t L).2 ≤ L + 1
  | .mk k i us, L, hL => by
    have := measL_bd (us.map fun u L => measT u L) L (1, 0) hL (fun f hf M h0 _ => by
      obtain ⟨u, hu, rfl⟩ := List.mem_map.1 hf
      exact measT_bd u M h0) (by simp) (by simp; omega) (by simp) (by simp; omega)
    rw [measT]
    simp only
    omega

def nwf (t : Ty) : Bool :=
  if decide (t.kind = 0) || decide (t.kind = 3) || decide (t.kind = 4) || decide (t.kind = 5) || decide (t.kind = 6) then decide (t.id = 0) && decide ((t.args.length : Int) = 0)
  else if decide (t.kind = 1) || decide (t.kind = 2) then decide (t.id ≥ 0) && decide ((t.args.length : Int) = 0)
  else if decide (t.kind = 7) then decide (t.id ≥ 0)
  else if decide (t.kind = 8) then (decide (t.id = 0) || decide (t.id = 1)) && decide ((t.args.length : Int) = 1)
  else if decide (t.kind = 9) then decide (t.id = 0) && decide ((t.args.length : Int) > 0)
  else if decide (t.kind = 10) then decide (t.id ≥ 0) && decide ((t.args.length : Int) = 1)
  else false
def wfT : Ty → Bool
  | .mk k i us => nwf (.mk k i us) && !((us.map fun u => wfT u).any (fun b => !b))
theorem wfT_eq (t : Ty) : wfT t = (nwf t && !(t.args.any fun u => !wfT u)) := by
  cases t; rw [wfT, List.any_map]; rfl
/-- What Validate answers. -/
def valT (t : Ty) : Int := if (decide ((measT t 100).1 > 100) || decide ((measT t 100).2 > 12)) = true then 2 else if (!wfT t) = true then 3 else 0

/-- The free variables, in order of first occurrence. -/
def afvL : List (List Int → List Int) → List Int → List Int
  | [], vs => vs
  | f :: fs, vs => afvL fs (f vs)
def afv : Ty → List Int → List Int
  | .mk k i us, vs => afvL (us.map fun u vs => afv u vs) (if (decide (k = 1) && !vs.any (fun x => decide (i = x))) = true then vs ++ [i] else vs)
theorem afv_eq (t : Ty) (vs : List Int) : afv t vs = afvL (t.args.map afv) (if (decide (t.kind = 1) && !vs.any (fun x => decide (t.id = x))) = true then vs ++ [t.id] else vs) := by
  cases t; rw [afv]; rfl
theorem afv_len : ∀ (t : Ty) (vs : List Int), vs.length ≤ (afv t vs).length ∧ (afv t vs).length ≤ vs.length + t.size
  | .mk k i us, vs => by
    have key : ∀ (us : List Ty), (∀ u ∈ us, ∀ vs : List Int, vs.length ≤ (afv u vs).length ∧ (afv u vs).length ≤ vs.length + u.size) → ∀ vs : List Int, vs.length ≤ (afvL (us.map fun u vs => afv u vs) vs).length ∧ (afvL (us.map fun u vs => afv u vs) vs).length ≤ vs.length + Ty.sizes us := by
      intro us
      induction us with
      | nil => intro _ vs; simp [afvL, Ty.sizes]
      | cons u us ih =>
        intro h vs
        have h1 := h u (List.mem_cons_self ..) vs
        have h2 := ih (fun u hu => h u (List.mem_cons_of_mem _ hu)) (afv u vs)
        simp only [List.map_cons, afvL, Ty.sizes]
        omega
    rw [afv]
    have := key us (fun u hu vs => afv_len u vs) (if (decide (k = 1) && !vs.any (fun x => decide (i = x))) = true then vs ++ [i] else vs)
    have hs : (Ty.mk k i us).size = 1 + Ty.sizes us := by simp [Ty.size]
    rw [hs]
    split at this
    · rename_i hq; rw [if_pos hq]; simp at this ⊢; omega
    · rename_i hq; rw [if_neg hq]; omega
end Go.Abs
namespace Go.Abs
theorem measL_nil (L : Int) (s : Int × Int) : measL [] L s = s := rfl
theorem measL_cons (f : Int → Int × Int) (fs : List (Int → Int × Int)) (L : Int) (s : Int × Int) : measL (f :: fs) L s = if decide (s.1 > L) = true then s else measL fs L (s.1 + (f (L - s.1)).1, max s.2 (f (L - s.1)).2) := rfl
theorem afvL_nil (vs : List Int) : afvL [] vs = vs := rfl
theorem afvL_cons (f : List Int → List Int) (fs : List (List Int → List Int)) (vs : List Int) : afvL (f :: fs) vs = afvL fs (f vs) := rfl
end Go.Abs
namespace Go.Abs
/-! Reading bindings. -/
def BdD {H : Type} (b : Bd) (d : DataW H) : Prop := ∃ d1, d = .agg [.lit (.int .i64 b.v), d1] ∧ TyD b.t d1
structure BdAt (P : Program) (B T : TypeId) : Prop where
  st : ∃ f0 f1 : Field, P.underlying B = some (.struct #[f0, f1]) ∧ P.underlying f0.type = some (.int .i64) ∧ f1.type = T ∧ f0.offset = 0 ∧ f1.offset = 1 ∧ P.cellsOf f0.type = 1
  c : P.cellsOf B = 4
section
variable {H : Type} {enc : TypeId × Value → H} {P : Program} {W : World} {spare : Nat → Bool} {held : Bool} {B T S : TypeId}
theorem rd_bd (F : TyAt P T S) (G : BdAt P B T) (fuel : Nat) (cs : List Value) (x : DataW H × List MemPlace) (h : DataW.trod enc P W 0 spare held fuel B cs = some x) : ∃ b : Bd, RLl (env0 W).view cs b.enc.cells ∧ BdD b x.1 := by
  obtain ⟨f0, f1, hst, u0, e1, o0, o1, c0⟩ := G.st
  obtain ⟨ds, n, rfl, hx, hlen, hdl, hf⟩ := rd_fields hst h
  rw [G.c] at hlen
  match cs, hlen with
  | [v0, v1, v2, v3], _ =>
  obtain ⟨d0, p0, g0, r0⟩ := hf 0 f0 rfl
  obtain ⟨d1, p1, g1, r1⟩ := hf 1 f1 rfl
  rw [o0, c0] at r0
  rw [o1, e1, F.c] at r1
  obtain ⟨k, q0, rfl, w0, _⟩ := rd_int u0 r0
  obtain ⟨t, q1, w1⟩ := rd_ty F _ _ _ r1
  refine ⟨⟨k, t⟩, ?_, d1, ?_, w1⟩
  · have := RLl.app q0 q1
    rw [Ty.enc_cells] at this
    exact this
  · rw [hx]
    match ds, hdl with
    | [a, b], _ =>
      simp at g0 g1
      rw [g0, g1]
theorem bd_weights (F : TyAt P T S) (G : BdAt P B T) {b : Bd} {d : DataW H} (h : BdD b d) (hw : (d.weights P B).all (· ≤ reachBytes) = true) : b.t.W := by
  obtain ⟨d1, rfl, h1⟩ := h
  obtain ⟨f0, f1, hst, u0, e1, _⟩ := G.st
  simp only [DataW.weights, hst, DataW.weightsEach, List.map_cons, List.map_nil, e1, List.nil_append, List.append_nil] at hw
  exact ty_weights F h1 hw
end
end Go.Abs
namespace Go.Abs
/-- A world with constants that a call may look at. -/
def envG (W : World) (G : Heap) : Env := { w := W, κ := fun _ => .fixed, ρ := fun _ => 0, tb := fun _ => none, H := G }
theorem envG_ok {W : World} {G : Heap} (hG : ∀ o ∈ G, ∃ b vs, o = AObj.glob b vs) (hW : ∀ b vs, AObj.glob b vs ∈ G → ∀ i (h : i < vs.length), W.cell? ⟨b, i, none⟩ = some vs[i]) : (envG W G).Ok := by
  have hk : ∀ id o, (envG W G).H[id]? = some o → ∃ b vs, o = AObj.glob b vs := fun id o h => hG o (List.mem_of_getElem? h)
  constructor
  · intro id cs h; obtain ⟨b, vs, e⟩ := hk _ _ h; cases e
  · intro id n sz b h; obtain ⟨b, vs, e⟩ := hk _ _ h; cases e
  · intro id id' cs cs' h; obtain ⟨b, vs, e⟩ := hk _ _ h; cases e
  · intro id id' n sz n' sz' b h; obtain ⟨b, vs, e⟩ := hk _ _ h; cases e
  · intro id b vs h i hi; exact hW b vs (List.mem_of_getElem? h) i hi
  · exact ⟨fun id k h => (by obtain ⟨b, vs, e⟩ := hk _ _ h; cases e), fun id id' k k' h => (by obtain ⟨b, vs, e⟩ := hk _ _ h; cases e)⟩
theorem env0_envG (W : World) (G : Heap) : (env0 W).view.le (envG W G).view := by
  have hb : ∀ id, ¬ (env0 W).view.born id := by
    rintro id ⟨o, h, _⟩
    simp [env0] at h
  exact ⟨fun a v h => h, fun id h => absurd h (hb id), fun id h => absurd h (hb id), fun id t h => absurd h (hb id)⟩
theorem calls_of_pg {P : Program} {f : FuncId} {args : List PV} {b : Bool} {G : Heap} (h : PG G P f args (.bool b)) (W : World) (hG : ∀ o ∈ G, ∃ b vs, o = AObj.glob b vs) (hW : ∀ b vs, AObj.glob b vs ∈ G → ∀ i (h : i < vs.length), W.cell? ⟨b, i, none⟩ = some vs[i])
    (vargs : Array Value) (hr : RL (env0 W).view vargs args) : Calls P f vargs W fun e w' => e = .returned (.bool b) ∧ Go.RowKit.Below W.heap.size W w' := by
  refine (h G (Pre.refl G) (envG W G) vargs (envG_ok hG hW) rfl (hr.mono (env0_envG W G))).mono ?_
  rintro e w' ⟨E', v, r, rfl, rfl, hle, hok, hv, rfl, _⟩
  refine ⟨by rw [hv.bool_inv], hle.os, hle.tape, hle.output, hle.size, fun k hk => (hle.other k hk ?_).2⟩
  rintro (⟨id, cs, h, _⟩ | ⟨id, n, sz, h, _⟩ | ⟨id, k, h, _⟩) <;> (obtain ⟨b, vs, e⟩ := hG _ (List.mem_of_getElem? h); cases e)
/-- The cells of a table of numbers, as it is read. -/
theorem laid_ints {H : Type} {enc : TypeId × Value → H} {P : Program} {w : World} {sp : Nat → Bool} {held : Bool} {t e : TypeId} {n f : Nat} {k : IntKind} {cs : List Value} {ds : List (DataW H)} {q : List MemPlace}
    (ht : P.underlying t = some (.array n e)) (he : P.underlying e = some (.int k)) (hc : P.cellsOf e = 1) (h : DataW.trod enc P w 0 sp held f t cs = some (.agg ds, q)) :
    ∀ i, i < n → ∃ v, ds[i]? = some (.lit (.int k v)) ∧ cs[i]? = some (.int k v) := by
  intro i hi
  obtain ⟨xs, m, rfl, hx, hlen, hn, hel⟩ := DataW.trod_array ht h
  have h1 := hel i hi
  rw [hc, Nat.mul_one] at h1
  rw [List.getElem?_eq_getElem (by omega)] at h1
  obtain ⟨v, e1, e2, _⟩ := DataW.trod_int he h1
  simp only [Prod.mk.injEq, DataW.agg.injEq] at hx
  refine ⟨v, ?_, ?_⟩
  · rw [hx.1, List.getElem?_map, List.getElem?_eq_getElem (by omega)]
    simp [e2]
  · have : (cs.drop i).head? = some (.int k v) := by
      cases hd : cs.drop i with
      | nil => rw [hd] at e1; cases e1
      | cons a l => rw [hd] at e1; simp at e1; rw [e1]; rfl
    rw [List.head?_drop] at this
    exact this
end Go.Abs
set_option maxRecDepth 4000
namespace Go.Abs
open Go.Proofs
def PoD {H : Type} (t : Po) (d : DataW H) : Prop := d = .agg [.lit (.int .i64 t.line), .lit (.int .i64 t.col)]
section
variable {H : Type} {enc : TypeId × Value → H} {W : World} {spare : Nat → Bool} {held : Bool}
theorem rd_Po (fuel : Nat) (cs : List Value) (x : DataW H × List MemPlace) (h : DataW.trod enc Tryd.prog W 0 spare held fuel 23 cs = some x) : ∃ t : Po, RLl (env0 W).view cs t.enc.cells ∧ PoD t x.1 := by
  obtain ⟨ds, n, rfl, hx, hlen, hdl, hf⟩ := rd_fields Tryd.underlying23 h
  rw [show Tryd.prog.cellsOf 23 = 2 from by kernel_rfl] at hlen
  match cs, hlen with
  | [v0, v1], _ =>
  obtain ⟨d0, p0, g0, r0⟩ := hf 0 _ rfl
  have r0 : DataW.trod enc Tryd.prog W 0 spare held n 3 [v0] = some (d0, p0) := by
    have e : Tryd.prog.cellsOf 3 = 1 := by kernel_rfl
    have r0 : DataW.trod enc Tryd.prog W 0 spare held n 3 (List.take (Tryd.prog.cellsOf 3) (List.drop 0 [v0, v1])) = some (d0, p0) := r0
    rw [e] at r0
    exact r0
  obtain ⟨a0, q0, rfl, _, _⟩ := rd_int Tryd.underlying3 r0
  obtain ⟨d1, p1, g1, r1⟩ := hf 1 _ rfl
  have r1 : DataW.trod enc Tryd.prog W 0 spare held n 3 [v1] = some (d1, p1) := by
    have e : Tryd.prog.cellsOf 3 = 1 := by kernel_rfl
    have r1 : DataW.trod enc Tryd.prog W 0 spare held n 3 (List.take (Tryd.prog.cellsOf 3) (List.drop 1 [v0, v1])) = some (d1, p1) := r1
    rw [e] at r1
    exact r1
  obtain ⟨a1, q1, rfl, _, _⟩ := rd_int Tryd.underlying3 r1
  refine ⟨Po.mk a0 a1, ?_, ?_⟩
  · rw [Po.enc_cells]
    exact (RLl.app q0 q1)
  · rw [hx]
    have e : ds = [.lit (.int .i64 a0), .lit (.int .i64 a1)] := by
      match ds, hdl with
      | [e0, e1], _ =>
        simp at g0 g1
        rw [g0, g1]
    subst e
    rfl
theorem Po_weights {t : Po} {d : DataW H} (h : PoD t d) (hw : (d.weights Tryd.prog 23).all (· ≤ reachBytes) = true) : t.W := by
  have hb : reachBytes = 140737488351232 := rfl
  have hfl : ∀ (c : DataW H), True := fun _ => trivial
  obtain ⟨rfl⟩ := h
  simp only [DataW.weights, Tryd.underlying23, DataW.weightsEach, List.map_cons, List.map_nil, List.nil_append, List.append_nil, List.all_append, List.all_cons, List.all_nil, Bool.and_eq_true, Bool.and_true, decide_eq_true_eq] at hw
  trivial
end
end Go.Abs
namespace Go.Abs
theorem strip (r : List (List Char)) : stripLifts liftWords ("cut".toList :: r) = ([], "cut".toList :: r) := by
  simp only [liftWords]
  repeat (rw [stripLifts, if_neg (by decide)])
  rfl
theorem mayEnter_of {P : Program} {r : List (List Char)} (h : behindMainWord (wordsSigns P.initOrder.toList) = "cut".toList :: r) (h1 : P.laysLater = false) (h2 : P.bearsReflect = false) (h3 : P.doorFits [] = true) : P.mayEnter = true := by
  unfold Program.mayEnter
  rw [h]
  simp only [strip, h1, h2, h3]
  rfl
theorem headLifts_of {P : Program} {r : List (List Char)} (h : behindMainWord (wordsSigns P.initOrder.toList) = "cut".toList :: r) : P.headLifts = [] := by
  unfold Program.headLifts
  rw [h, strip]
  rfl
theorem liftsFinal_of {P : Program} {r : List (List Char)} (h : behindMainWord (wordsSigns P.initOrder.toList) = "cut".toList :: r) : P.liftsFinal = false := by
  unfold Program.liftsFinal
  rw [headLifts_of h, h]
  rfl
theorem make_of {P : Program} {r : List (List Char)} (h : behindMainWord (wordsSigns P.initOrder.toList) = "cut".toList :: r) : P.make = some .cut := by
  unfold Program.make
  rw [h]
  rfl
def sg (l : List Nat) : List Char := l.map Char.ofNat
theorem words_cons (c : Char) (r : List Char) (h : (c == Char.ofNat 32) = false) : wordsSigns (c :: r) = match wordsSigns r with | w :: ws => (c :: w) :: ws | [] => [[c]] := by
  rw [wordsSigns]
  · rfl
  · intro e
    subst e
    simp at h
theorem words_word : ∀ (w r : List Char), w.all (fun c => !(c == Char.ofNat 32)) = true → wordsSigns (w ++ Char.ofNat 32 :: r) = w :: wordsSigns r
  | [], r, _ => by rfl
  | c :: w, r, h => by
    simp only [List.all_cons, Bool.and_eq_true, Bool.not_eq_true'] at h
    rw [List.cons_append, words_cons c _ h.1, words_word w r h.2]
/-- The head of a cut: 'harness', a sum, 'cut'. -/
theorem behind_of {P : Program} {a b c r : List Char} (hio : P.initOrder = String.ofList (a ++ Char.ofNat 32 :: (b ++ Char.ofNat 32 :: (c ++ Char.ofNat 32 :: r)))) (ha : a.all (fun c => !(c == Char.ofNat 32)) = true) (hb : b.all (fun c => !(c == Char.ofNat 32)) = true) (hc : c.all (fun c => !(c == Char.ofNat 32)) = true)
    (h : ((a == "harness".toList || a == "ownmain".toList) && isSumSigns b) = true) (hc2 : c = "cut".toList) : behindMainWord (wordsSigns P.initOrder.toList) = "cut".toList :: wordsSigns r := by
  rw [hio, String.toList_ofList, words_word _ _ ha, words_word _ _ hb, words_word _ _ hc]
  simp only [behindMainWord]
  rw [if_pos h, hc2]
end Go.Abs
