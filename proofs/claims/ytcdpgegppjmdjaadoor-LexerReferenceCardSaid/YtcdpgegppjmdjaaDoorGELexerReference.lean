/- Part 5 of a proof of the law LexerReference: Go data as trees, the walks of the functions that the law reaches, the plain laws. -/
import Derived.Test.YtcdpgegppjmdjaaDoorGDLexerReference
import GoSem.ClaimJoined
import Derived.ChangeArms
import Derived.Carry
import Derived.SizedLaws
import Derived.JoinedCond
import Derived.Deep.CondSized
import Derived.OpenShut
import Derived.JoinedOf
import Derived.KernelRfl
set_option linter.unusedVariables false
set_option linter.unusedSimpArgs false
set_option maxRecDepth 4000
namespace Go.Abs
open Go.Proofs

theorem law_c (s : List UInt8) (hs : s.length ≤ maxLen) : PG G0 Tryd.prog 3 [.str s] (.bool true) := by
  have hI := isId_c s hs
  have hi := isIdT_toks s
  have hk := eqStrs kwL (by decide)
  have hln := toks_len s
  have hcs : s.length > 2000 ∨ s.length ≤ 2000 := by omega
  refine pg_of (N := 64) Tryd.func3 rfl rfl (by simp) (.bool _) fun H hG hb' => ?_
  repeat (refine awp_seq ?_)
  refine e_eval (by simp only [jA, jO, jN, seval, vint, qX] <;> with_reducible rfl) (by decide) ?_
  repeat (refine awp_seq ?_)
  refine awp_region ?_
  refine aops_pure (by simp only [jC, jN, seval, vint, qX] <;> with_reducible rfl) (by simp only [jC, jN, seval, vint, qX]) (by decide) Trydgo4 (lexEx _ hG) ?_
  refine e_end (by simp only [jA, jO, jN, seval, vint, qX] <;> with_reducible rfl) (by decide) ?_
  repeat (refine awp_seq ?_)
  refine awp_cond_false rfl (by simp only [jN, seval, vint, qX, Bool.not_true] <;> with_reducible rfl) ?_
  repeat (refine awp_seq ?_)
  refine awp_skip ?_
  rcases hcs with hl | hl
  ·
    have h1 := tokz_l s hs hl
    have hb : ((s.length : Int) > 2000) = True := by simp; omega
    have hf : isIdT s = false := by unfold isIdT; rw [show decide ((s.length : Int) > 30) = true by simp; omega]; simp
    repeat (refine awp_seq ?_)
    refine awp_region ?_
    refine e_take 1 (by simp only [jA, jO, jN, seval, vint, qX, hf, decide_true, Bool.not_false] <;> with_reducible rfl) (by decide) ?_
    refine aops_pure (by simp only [jC, jN, seval, vint, qX, hf, decide_true, Bool.not_false] <;> with_reducible rfl) (by simp only [jC, jN, seval, vint, qX, hf, decide_true, Bool.not_false]) (by decide) Trydgo5 (h1 _ hG) ?_
    refine e_end (by simp only [jA, jO, jN, seval, vint, qX, hf, decide_true, Bool.not_false] <;> with_reducible rfl) (by decide) ?_
    repeat (refine awp_seq ?_)
    refine e_eval (by simp only [jA, jO, jN, seval, y3, y9, vint, qX, hf, decide_true, Bool.not_false] <;> with_reducible rfl) (by decide) ?_
    repeat (refine awp_seq ?_)
    refine awp_cond_true rfl (by simp only [jN, seval, vint, qX, hf, decide_true, Bool.not_false, hb] <;> with_reducible rfl) ?_
    repeat (refine awp_seq ?_)
    refine awp_region ?_
    refine aops_gstart ?_
    refine g_take 9 (by simp only [jG, jO, jN, seval, y3, y23, y24, y30, vint, qX, hf, decide_true, Bool.not_false] <;> with_reducible rfl) (by decide) ?_
    refine aops_gpure (by simp only [jE, jN, seval, vint, qX, hf, decide_true, Bool.not_false] <;> with_reducible rfl) (by simp only [jE, jN, seval, vint, qX, hf, decide_true, Bool.not_false] <;> with_reducible rfl) (by simp only [jE, jN, seval, vint, qX, hf, decide_true, Bool.not_false]) (by decide) Trydgo6 (fun hc => hI _ hG) ?_
    refine g_end (by simp only [jG, jO, jN, seval, vint, qX, hf, decide_true, Bool.not_false] <;> with_reducible rfl) (by decide) (by repeat (first | exact Fin.base _ | with_reducible apply Fin.keep | apply Fin.drop)) ?_
    repeat (refine awp_seq ?_)
    refine awp_ret ⟨.inr rfl, _, _, rfl, ?_, (by first | exact (List.append_nil _).symm | rfl)⟩
    simp only [jN, seval, vint, qX]
    try rfl
  ·
    have h1 := tokz_s s hl
    have h2 := tokR_c s hl
    obtain ⟨ts, hts⟩ : ∃ ts, toks s = ts := ⟨_, rfl⟩
    rw [hts] at h1 h2 hi hln
    have h4 := eqTks ts (Nat.le_trans hln hs)
    have hb : ((s.length : Int) > 2000) = False := by simp; omega
    have hcl : ts = [] ∨ (∃ t, ts = [t]) ∨ ∃ t u r, ts = t :: u :: r := by
      match ts with
      | [] => exact .inl rfl
      | [t] => exact .inr (.inl ⟨t, rfl⟩)
      | t :: u :: r => exact .inr (.inr ⟨t, u, r, rfl⟩)
    repeat (refine awp_seq ?_)
    refine awp_region ?_
    refine e_take 1 (by simp only [jA, jO, jN, seval, vint, qX] <;> with_reducible rfl) (by decide) ?_
    refine aops_pure (by simp only [jC, jN, seval, vint, qX] <;> with_reducible rfl) (by simp only [jC, jN, seval, vint, qX]) (by decide) Trydgo5 (h1 _ hG) ?_
    refine e_end (by simp only [jA, jO, jN, seval, vint, qX] <;> with_reducible rfl) (by decide) ?_
    repeat (refine awp_seq ?_)
    refine e_eval (by simp only [jA, jO, jN, seval, y3, y9, vint, qX] <;> with_reducible rfl) (by decide) ?_
    repeat (refine awp_seq ?_)
    refine awp_cond_false rfl (by simp only [jN, seval, vint, qX, hb, decide_false] <;> with_reducible rfl) ?_
    repeat (refine awp_seq ?_)
    refine awp_skip ?_
    repeat (refine awp_seq ?_)
    refine awp_region ?_
    refine e_take 1 (by simp only [jA, jO, jN, seval, vint, qX] <;> with_reducible rfl) (by decide) ?_
    refine aops_pure (by simp only [jC, jN, seval, vint, qX] <;> with_reducible rfl) (by simp only [jC, jN, seval, vint, qX]) (by decide) Trydgo7 (h2 _) ?_
    refine e_end (by simp only [jA, jO, jN, seval, vint, qX] <;> with_reducible rfl) (by decide) ?_
    refine awp_sel [0, 3, 4, 5] (by simp only [jN, seval, vint, qX] <;> with_reducible rfl) ?_
    rcases hcl with he | ⟨t, he⟩ | ⟨t, u, r, he⟩
    ·
      have hl7 : ((ts.length : Int) = 1) = False := by simp [he]
      rw [he] at hi
      simp only at hi
      repeat (refine awp_seq ?_)
      refine awp_region ?_
      refine aops_gstart ?_
      refine g_take 4 (by simp only [jG, jO, jN, seval, y3, y23, y30, vint, qX, hl7, hi, decide_false] <;> with_reducible rfl) (by decide) ?_
      refine aops_gskip (r := .tup []) (by simp only [jE, jN, seval, vint, qX, hl7, hi, decide_false] <;> with_reducible rfl) ?_
      refine aops_gskip (r := .tup []) (by simp only [jE, jN, seval, vint, qX, hl7, hi, decide_false] <;> with_reducible rfl) ?_
      refine aops_gskip (r := .tup []) (by simp only [jE, jN, seval, vint, qX, hl7, hi, decide_false] <;> with_reducible rfl) ?_
      refine aops_gskip (r := .tup []) (by simp only [jE, jN, seval, vint, qX, hl7, hi, decide_false] <;> with_reducible rfl) ?_
      refine aops_gskip (r := .tup []) (by simp only [jE, jN, seval, vint, qX, hl7, hi, decide_false] <;> with_reducible rfl) ?_
      refine g_take 2 (by simp only [jG, jO, jN, seval, vint, qX, hl7, hi, decide_false] <;> with_reducible rfl) (by decide) ?_
      refine aops_gskip (r := .tup []) (by simp only [jE, jN, seval, vint, qX, hl7, hi, decide_false] <;> with_reducible rfl) ?_
      refine aops_gskip (r := .tup []) (by simp only [jE, jN, seval, vint, qX, hl7, hi, decide_false] <;> with_reducible rfl) ?_
      refine aops_gskip (r := .tup []) (by simp only [jE, jN, seval, vint, qX, hl7, hi, decide_false] <;> with_reducible rfl) ?_
      refine g_end (by simp only [jG, jO, jN, seval, vint, qX, hl7, hi, decide_false] <;> with_reducible rfl) (by decide) (by repeat (first | exact Fin.base _ | with_reducible apply Fin.keep | apply Fin.drop)) ?_
      refine awp_sel [0, 3, 4, 5, 6] (by simp only [jN, seval, vint, qX, hl7, hi, decide_false] <;> with_reducible rfl) ?_
      repeat (refine awp_seq ?_)
      refine awp_region ?_
      refine aops_gstart ?_
      refine g_take 5 (by simp only [jG, jO, jN, seval, y24, vint, qX, hl7, hi, decide_false] <;> with_reducible rfl) (by decide) ?_
      refine aops_gpure (by simp only [jE, jN, seval, vint, qX, hl7, hi, decide_false] <;> with_reducible rfl) (by simp only [jE, jN, seval, vint, qX, hl7, hi, decide_false] <;> with_reducible rfl) (by simp only [jE, jN, seval, vint, qX, hl7, hi, decide_false]) (by decide) Trydgo8 (fun hc => h4 _) ?_
      refine g_take 2 (by simp only [jG, jO, jN, seval, vint, qX, hl7, hi, decide_false] <;> with_reducible rfl) (by decide) ?_
      refine aops_gpure (by simp only [jE, jN, seval, vint, qX, hl7, hi, decide_false] <;> with_reducible rfl) (by simp only [jE, jN, seval, vint, qX, hl7, hi, decide_false] <;> with_reducible rfl) (by simp only [jE, jN, seval, vint, qX, hl7, hi, decide_false]) (by decide) Trydgo10 (fun hc => keywords_c _ hG) ?_
      refine aops_gpure (by simp only [jE, jN, seval, vint, qX, hl7, hi, decide_false] <;> with_reducible rfl) (by simp only [jE, jN, seval, vint, qX, hl7, hi, decide_false] <;> with_reducible rfl) (by simp only [jE, jN, seval, vint, qX, hl7, hi, decide_false]) (by decide) Trydgo11 (fun hc => kwR_c _) ?_
      refine aops_gpure (by simp only [jE, jN, seval, vint, qX, hl7, hi, decide_false] <;> with_reducible rfl) (by simp only [jE, jN, seval, vint, qX, hl7, hi, decide_false] <;> with_reducible rfl) (by simp only [jE, jN, seval, vint, qX, hl7, hi, decide_false]) (by decide) Trydgo9 (fun hc => hk _) ?_
      refine g_take 3 (by simp only [jG, jO, jN, seval, vint, qX, hl7, hi, decide_false] <;> with_reducible rfl) (by decide) ?_
      refine aops_gpure (by simp only [jE, jN, seval, vint, qX, hl7, hi, decide_false] <;> with_reducible rfl) (by simp only [jE, jN, seval, vint, qX, hl7, hi, decide_false] <;> with_reducible rfl) (by simp only [jE, jN, seval, vint, qX, hl7, hi, decide_false]) (by decide) Trydgo6 (fun hc => hI _ hG) ?_
      refine g_end (by simp only [jG, jO, jN, seval, y4, vint, qX, hl7, hi, decide_false] <;> with_reducible rfl) (by decide) (by repeat (first | exact Fin.base _ | with_reducible apply Fin.keep | apply Fin.drop)) ?_
      repeat (refine awp_seq ?_)
      refine awp_ret ⟨.inr rfl, _, _, rfl, ?_, (by first | exact (List.append_nil _).symm | rfl)⟩
      simp only [jN, seval, vint, qX]
      try rfl
    ·
      have hl7 : (ts.length : Int) = 1 := by simp [he]
      have g2 : (ts.map Tk.enc)[0]? = some t.enc := by rw [he]; rfl
      rw [he] at hi
      simp only at hi
      repeat (refine awp_seq ?_)
      refine g_eval (by simp only [jG, jO, jN, seval, y3, y9, y23, y30, vint, qX, hl7, g2, hi, decide_true] <;> with_reducible rfl) (by decide) (by repeat (first | exact Fin.base _ | with_reducible apply Fin.keep | apply Fin.drop)) ?_
      refine awp_sel [0, 3, 4, 5, 6] (by simp only [jN, seval, vint, qX, hl7, g2, hi, decide_true] <;> with_reducible rfl) ?_
      repeat (refine awp_seq ?_)
      refine awp_region ?_
      refine aops_gstart ?_
      refine g_take 5 (by simp only [jG, jO, jN, seval, y24, vint, qX, hl7, g2, hi, decide_true] <;> with_reducible rfl) (by decide) ?_
      refine aops_gpure (by simp only [jE, jN, seval, vint, qX, hl7, g2, hi, decide_true] <;> with_reducible rfl) (by simp only [jE, jN, seval, vint, qX, hl7, g2, hi, decide_true] <;> with_reducible rfl) (by simp only [jE, jN, seval, vint, qX, hl7, g2, hi, decide_true]) (by decide) Trydgo8 (fun hc => h4 _) ?_
      refine g_take 2 (by simp only [jG, jO, jN, seval, vint, qX, hl7, g2, hi, decide_true] <;> with_reducible rfl) (by decide) ?_
      refine aops_gpure (by simp only [jE, jN, seval, vint, qX, hl7, g2, hi, decide_true] <;> with_reducible rfl) (by simp only [jE, jN, seval, vint, qX, hl7, g2, hi, decide_true] <;> with_reducible rfl) (by simp only [jE, jN, seval, vint, qX, hl7, g2, hi, decide_true]) (by decide) Trydgo10 (fun hc => keywords_c _ hG) ?_
      refine aops_gpure (by simp only [jE, jN, seval, vint, qX, hl7, g2, hi, decide_true] <;> with_reducible rfl) (by simp only [jE, jN, seval, vint, qX, hl7, g2, hi, decide_true] <;> with_reducible rfl) (by simp only [jE, jN, seval, vint, qX, hl7, g2, hi, decide_true]) (by decide) Trydgo11 (fun hc => kwR_c _) ?_
      refine aops_gpure (by simp only [jE, jN, seval, vint, qX, hl7, g2, hi, decide_true] <;> with_reducible rfl) (by simp only [jE, jN, seval, vint, qX, hl7, g2, hi, decide_true] <;> with_reducible rfl) (by simp only [jE, jN, seval, vint, qX, hl7, g2, hi, decide_true]) (by decide) Trydgo9 (fun hc => hk _) ?_
      refine g_take 3 (by simp only [jG, jO, jN, seval, vint, qX, hl7, g2, hi, decide_true] <;> with_reducible rfl) (by decide) ?_
      refine aops_gpure (by simp only [jE, jN, seval, vint, qX, hl7, g2, hi, decide_true] <;> with_reducible rfl) (by simp only [jE, jN, seval, vint, qX, hl7, g2, hi, decide_true] <;> with_reducible rfl) (by simp only [jE, jN, seval, vint, qX, hl7, g2, hi, decide_true]) (by decide) Trydgo6 (fun hc => hI _ hG) ?_
      refine g_end (by simp only [jG, jO, jN, seval, y4, vint, qX, hl7, g2, hi, decide_true] <;> with_reducible rfl) (by decide) (by repeat (first | exact Fin.base _ | with_reducible apply Fin.keep | apply Fin.drop)) ?_
      repeat (refine awp_seq ?_)
      refine awp_ret ⟨.inr rfl, _, _, rfl, ?_, (by first | exact (List.append_nil _).symm | rfl)⟩
      simp only [jN, seval, vint, qX]
      try rfl
    ·
      have hl7 : ((ts.length : Int) = 1) = False := by simp [he]; omega
      rw [he] at hi
      simp only at hi
      repeat (refine awp_seq ?_)
      refine awp_region ?_
      refine aops_gstart ?_
      refine g_take 4 (by simp only [jG, jO, jN, seval, y3, y23, y30, vint, qX, hl7, hi, decide_false] <;> with_reducible rfl) (by decide) ?_
      refine aops_gskip (r := .tup []) (by simp only [jE, jN, seval, vint, qX, hl7, hi, decide_false] <;> with_reducible rfl) ?_
      refine aops_gskip (r := .tup []) (by simp only [jE, jN, seval, vint, qX, hl7, hi, decide_false] <;> with_reducible rfl) ?_
      refine aops_gskip (r := .tup []) (by simp only [jE, jN, seval, vint, qX, hl7, hi, decide_false] <;> with_reducible rfl) ?_
      refine aops_gskip (r := .tup []) (by simp only [jE, jN, seval, vint, qX, hl7, hi, decide_false] <;> with_reducible rfl) ?_
      refine aops_gskip (r := .tup []) (by simp only [jE, jN, seval, vint, qX, hl7, hi, decide_false] <;> with_reducible rfl) ?_
      refine g_take 2 (by simp only [jG, jO, jN, seval, vint, qX, hl7, hi, decide_false] <;> with_reducible rfl) (by decide) ?_
      refine aops_gskip (r := .tup []) (by simp only [jE, jN, seval, vint, qX, hl7, hi, decide_false] <;> with_reducible rfl) ?_
      refine aops_gskip (r := .tup []) (by simp only [jE, jN, seval, vint, qX, hl7, hi, decide_false] <;> with_reducible rfl) ?_
      refine aops_gskip (r := .tup []) (by simp only [jE, jN, seval, vint, qX, hl7, hi, decide_false] <;> with_reducible rfl) ?_
      refine g_end (by simp only [jG, jO, jN, seval, vint, qX, hl7, hi, decide_false] <;> with_reducible rfl) (by decide) (by repeat (first | exact Fin.base _ | with_reducible apply Fin.keep | apply Fin.drop)) ?_
      refine awp_sel [0, 3, 4, 5, 6] (by simp only [jN, seval, vint, qX, hl7, hi, decide_false] <;> with_reducible rfl) ?_
      repeat (refine awp_seq ?_)
      refine awp_region ?_
      refine aops_gstart ?_
      refine g_take 5 (by simp only [jG, jO, jN, seval, y24, vint, qX, hl7, hi, decide_false] <;> with_reducible rfl) (by decide) ?_
      refine aops_gpure (by simp only [jE, jN, seval, vint, qX, hl7, hi, decide_false] <;> with_reducible rfl) (by simp only [jE, jN, seval, vint, qX, hl7, hi, decide_false] <;> with_reducible rfl) (by simp only [jE, jN, seval, vint, qX, hl7, hi, decide_false]) (by decide) Trydgo8 (fun hc => h4 _) ?_
      refine g_take 2 (by simp only [jG, jO, jN, seval, vint, qX, hl7, hi, decide_false] <;> with_reducible rfl) (by decide) ?_
      refine aops_gpure (by simp only [jE, jN, seval, vint, qX, hl7, hi, decide_false] <;> with_reducible rfl) (by simp only [jE, jN, seval, vint, qX, hl7, hi, decide_false] <;> with_reducible rfl) (by simp only [jE, jN, seval, vint, qX, hl7, hi, decide_false]) (by decide) Trydgo10 (fun hc => keywords_c _ hG) ?_
      refine aops_gpure (by simp only [jE, jN, seval, vint, qX, hl7, hi, decide_false] <;> with_reducible rfl) (by simp only [jE, jN, seval, vint, qX, hl7, hi, decide_false] <;> with_reducible rfl) (by simp only [jE, jN, seval, vint, qX, hl7, hi, decide_false]) (by decide) Trydgo11 (fun hc => kwR_c _) ?_
      refine aops_gpure (by simp only [jE, jN, seval, vint, qX, hl7, hi, decide_false] <;> with_reducible rfl) (by simp only [jE, jN, seval, vint, qX, hl7, hi, decide_false] <;> with_reducible rfl) (by simp only [jE, jN, seval, vint, qX, hl7, hi, decide_false]) (by decide) Trydgo9 (fun hc => hk _) ?_
      refine g_take 3 (by simp only [jG, jO, jN, seval, vint, qX, hl7, hi, decide_false] <;> with_reducible rfl) (by decide) ?_
      refine aops_gpure (by simp only [jE, jN, seval, vint, qX, hl7, hi, decide_false] <;> with_reducible rfl) (by simp only [jE, jN, seval, vint, qX, hl7, hi, decide_false] <;> with_reducible rfl) (by simp only [jE, jN, seval, vint, qX, hl7, hi, decide_false]) (by decide) Trydgo6 (fun hc => hI _ hG) ?_
      refine g_end (by simp only [jG, jO, jN, seval, y4, vint, qX, hl7, hi, decide_false] <;> with_reducible rfl) (by decide) (by repeat (first | exact Fin.base _ | with_reducible apply Fin.keep | apply Fin.drop)) ?_
      repeat (refine awp_seq ?_)
      refine awp_ret ⟨.inr rfl, _, _, rfl, ?_, (by first | exact (List.append_nil _).symm | rfl)⟩
      simp only [jN, seval, vint, qX]
      try rfl

end Go.Abs
namespace Go.Abs

/-! From a reading of the arguments to the trees, and back. -/

/-- A world as it is handed to a call: all that lies in it stays. -/
def env0 (W : World) : Env := { w := W, κ := fun _ => .fixed, ρ := fun _ => 0, tb := fun _ => none, H := [] }
theorem env0_ok (W : World) : (env0 W).Ok := by
  constructor
  · intro id cs h; simp [env0] at h
  · intro id n sz b h; simp [env0] at h
  · intro id id' cs cs' h; simp [env0] at h
  · intro id id' n sz n' sz' b h; simp [env0] at h
  · intro id b vs h; simp [env0] at h
theorem env0_cell (W : World) (a : Addr) : (env0 W).view.cell a = W.cell? a := rfl

theorem calls_of_pc {P : Program} {f : FuncId} {args : List PV} {b : Bool} (h : PC P f args (.bool b)) (W : World) (vargs : Array Value) (hr : RL (env0 W).view vargs args) :
    Calls P f vargs W fun e w' => e = .returned (.bool b) ∧ Go.RowKit.Below W.heap.size W w' := by
  refine (h [] (env0 W) vargs (env0_ok W) rfl hr).mono ?_
  rintro e w' ⟨E', v, r, rfl, rfl, hle, hok, hv, rfl, _⟩
  refine ⟨by rw [hv.bool_inv], hle.os, hle.tape, hle.output, hle.size, fun k hk => (hle.other k hk ?_ ?_).2⟩
  · rintro ⟨id, cs, h, _⟩; simp [env0] at h
  · rintro ⟨id, n, sz, h, _⟩; simp [env0] at h

def RLl (V : View) (cs : List Value) (ps : List PV) : Prop := cs.length = ps.length ∧ ∀ i (h : i < ps.length), VRel V (cs.getD i undef) ps[i]

theorem RLl.nil {V : View} : RLl V [] [] := ⟨rfl, fun i h => by cases h⟩
theorem RLl.cons {V : View} {c : Value} {cs : List Value} {p : PV} {ps : List PV} (h : VRel V c p) (hs : RLl V cs ps) : RLl V (c :: cs) (p :: ps) := by
  refine ⟨by simp [hs.1], fun i hi => ?_⟩
  cases i with
  | zero => exact h
  | succ i => exact hs.2 i (by simpa using hi)
theorem RLl.app {V : View} {c1 c2 : List Value} {p1 p2 : List PV} (h1 : RLl V c1 p1) (h2 : RLl V c2 p2) : RLl V (c1 ++ c2) (p1 ++ p2) := by
  refine ⟨by simp [h1.1, h2.1], fun i hi => ?_⟩
  by_cases h : i < p1.length
  · have := h1.2 i h
    simp only [List.getD_eq_getElem?_getD] at this ⊢
    rw [List.getElem?_append_left (by rw [h1.1]; exact h), List.getElem_append_left h]; exact this
  · have := h2.2 (i - p1.length) (by simp at hi; omega)
    simp only [List.getD_eq_getElem?_getD] at this ⊢
    rw [List.getElem?_append_right (by rw [h1.1]; omega), List.getElem_append_right (by omega), h1.1]; exact this
theorem RLl.agg {V : View} {arr : Array Value} {ps : List PV} (h : RLl V arr.toList ps) : VRel V (.agg arr) (.agg ps) := by
  refine .agg _ _ (by have := h.1; simpa using this) fun i hi => ?_
  have := h.2 i hi
  rw [List.getD_eq_getElem?_getD, Array.getElem?_toList] at this
  rw [Array.getD_eq_getD_getElem?]; exact this
theorem RLl.one {V : View} {v : Value} {p : PV} (h : RLl V [v] [p]) : VRel V v p := h.2 0 (by simp)

theorem exists_list {α : Type} {n : Nat} {p : Nat → α → Prop} (h : ∀ i, i < n → ∃ a, p i a) : ∃ xs : List α, xs.length = n ∧ ∀ i (hi : i < xs.length), p i xs[i] := by
  induction n with
  | zero => exact ⟨[], rfl, fun i hi => by cases hi⟩
  | succ n ih =>
    obtain ⟨xs, h1, h2⟩ := ih fun i hi => h i (by omega)
    obtain ⟨a, ha⟩ := h n (by omega)
    refine ⟨xs ++ [a], by simp [h1], fun i hi => ?_⟩
    by_cases hlt : i < xs.length
    · rw [List.getElem_append_left hlt]; exact h2 i hlt
    · rw [List.getElem_append_right (by omega)]
      simp at hi
      obtain rfl : i = n := by omega
      simpa using ha

/-- A list and the data of a slice. -/
def SlD {α : Type} {H : Type} (D : α → DataW H → Prop) (xs : List α) (d : DataW H) : Prop :=
  (xs = [] ∧ d = .nil) ∨ ∃ els sp, d = .slice els sp ∧ xs.length = els.length ∧ ∀ i (h1 : i < xs.length) (h2 : i < els.length), D xs[i] els[i]

section
variable {H : Type} {enc : TypeId × Value → H} {P : Program} {W : World} {spare : Nat → Bool} {held : Bool}

theorem rd_slice {α : Type} (en : α → PV) (D : α → DataW H → Prop) {t e : TypeId} {fuel : Nat} {cs : List Value} {x : DataW H × List MemPlace} (ht : P.underlying t = some (.slice e)) (hsz : ∀ a, (en a).cells.length = P.cellsOf e)
    (h : DataW.trod enc P W 0 spare held fuel t cs = some x) (ih : ∀ n cs' x', n < fuel → DataW.trod enc P W 0 spare held n e cs' = some x' → ∃ a, RLl (env0 W).view cs' (en a).cells ∧ D a x'.1) :
    ∃ (xs : List α) (v : Value), cs = [v] ∧ VRel (env0 W).view v (.slice (xs.map en) .none) ∧ SlD D xs x.1 := by
  rcases DataW.trod_slice ht h with ⟨rfl, rfl⟩ | ⟨a, len, cap, elems, rest, n, rfl, rfl, rfl, hb, hl, hm, hlen, hel, _, _⟩
  · exact ⟨[], _, rfl, .nils .none trivial, .inl ⟨rfl, rfl⟩⟩
  · obtain ⟨ys, hys, hp⟩ := exists_list (α := α × List Value) (n := len) (p := fun i y => W.cells? 0 (a.add (i * P.cellsOf e)) (P.cellsOf e) = some y.2 ∧ RLl (env0 W).view y.2 (en y.1).cells ∧ ∀ h : i < elems.length, D y.1 elems[i].1) (fun i hi => by
      have := hel i hi
      rw [List.getElem?_eq_getElem (by omega)] at this
      obtain ⟨cs', h1, h2⟩ := Option.bind_eq_some_iff.1 this
      obtain ⟨y, h3, h4⟩ := ih n cs' _ (by omega) h2
      exact ⟨(y, cs'), h1, h3, fun _ => h4⟩)
    refine ⟨ys.map (·.1), _, rfl, ?_, .inr ⟨_, _, rfl, by simp [hys, hlen], fun i h1 h2 => ?_⟩⟩
    · have hget : ∀ i (hi : i < ys.length), ys[i]? = some ys[i] := fun i hi => List.getElem?_eq_getElem hi
      refine .slice a len cap (P.cellsOf e) _ .none (fun i j => match ys[i]? with | some y => y.2.getD j undef | none => undef) (by simp [hys]) hl hm ?_ ?_ ?_ trivial
      · intro i hi; simp only [List.getElem_map]; exact hsz _
      · intro i j hi hj
        have hi' : i < ys.length := by omega
        obtain ⟨h1, h2, _⟩ := hp i hi'
        obtain ⟨_, h4, h5⟩ := World.cells?_some h1
        have := h5 j hj
        rw [hget i hi']
        simp only
        rw [env0_cell, ← add_add, this, List.getD_eq_getElem?_getD, List.getElem?_eq_getElem (by omega)]; rfl
      · intro i j hi hj
        have hi' : i < ys.length := by simpa using hi
        simp only [List.getElem_map] at hj ⊢
        rw [hget i hi']
        exact (hp i hi').2.1.2 j hj
    · simp only [List.getElem_map]
      exact (hp i (by simpa using h1)).2.2 _

/-- The field of a structure. -/
theorem rd_fields {t : TypeId} {fs : Array Field} {fuel : Nat} {cs : List Value} {x : DataW H × List MemPlace} (ht : P.underlying t = some (.struct fs)) (h : DataW.trod enc P W 0 spare held fuel t cs = some x) :
    ∃ (ds : List (DataW H)) (n : Nat), fuel = n + 1 ∧ x.1 = .agg ds ∧ cs.length = P.cellsOf t ∧ ds.length = fs.size ∧ ∀ (i : Nat) (f : Field), fs[i]? = some f → ∃ d ps, ds[i]? = some d ∧ DataW.trod enc P W 0 spare held n f.type ((cs.drop f.offset).take (P.cellsOf f.type)) = some (d, ps) := by
  obtain ⟨xs, n, h1, rfl, h3, h4, h5⟩ := DataW.trod_struct ht h
  refine ⟨xs.map (·.1), n, h1, rfl, h3, by simpa using h4, fun i f hf => ?_⟩
  have hi : i < xs.length := by
    rw [h4]
    rcases Nat.lt_or_ge i fs.size with hl | hl
    · exact hl
    · rw [Array.getElem?_eq_none hl] at hf; cases hf
  have := h5 i f hf
  rw [List.getElem?_eq_getElem hi] at this
  exact ⟨xs[i].1, xs[i].2, by simp [hi], this⟩

theorem rd_int {t : TypeId} {k : IntKind} {fuel : Nat} {cs : List Value} {x : DataW H × List MemPlace} (ht : P.underlying t = some (.int k)) (h : DataW.trod enc P W 0 spare held fuel t cs = some x) : ∃ n, RLl (env0 W).view cs [.int k n] ∧ x.1 = .lit (.int k n) ∧ (Lit.int k n).wf = true ∧ cs = [.int k n] := by
  obtain ⟨n, rfl, rfl, h3⟩ := DataW.trod_int ht h
  exact ⟨n, .cons (.int _ _) .nil, rfl, h3, rfl⟩
theorem rd_bool {t : TypeId} {fuel : Nat} {cs : List Value} {x : DataW H × List MemPlace} (ht : P.underlying t = some .bool) (h : DataW.trod enc P W 0 spare held fuel t cs = some x) : ∃ b, RLl (env0 W).view cs [.bool b] ∧ x.1 = .lit (.bool b) := by
  obtain ⟨n, rfl, rfl⟩ := DataW.trod_bool ht h
  exact ⟨n, .cons (.bool _) .nil, rfl⟩
theorem rd_string {t : TypeId} {fuel : Nat} {cs : List Value} {x : DataW H × List MemPlace} (ht : P.underlying t = some .string) (h : DataW.trod enc P W 0 spare held fuel t cs = some x) : ∃ s : List UInt8, RLl (env0 W).view cs [.str s] ∧ x.1 = .lit (.string s) ∧ s.length ≤ maxLen := by
  obtain ⟨s, rfl, rfl, h3⟩ := DataW.trod_string ht h
  exact ⟨s.data.toList, .cons (.str _) .nil, rfl, by simpa using h3⟩
end

/-- The data of a type. -/
inductive TyD {H : Type} : Ty → DataW H → Prop
  | nil (k i : Int) : TyD (.mk k i []) (.agg [.lit (.int .i64 k), .lit (.int .i64 i), .nil])
  | slice (k i : Int) (xs : List Ty) (es sp : List (DataW H)) (hl : xs.length = es.length) (h : ∀ j (h1 : j < xs.length) (h2 : j < es.length), TyD xs[j] es[j]) : TyD (.mk k i xs) (.agg [.lit (.int .i64 k), .lit (.int .i64 i), .slice es sp])
theorem TyD.of {H : Type} {k i : Int} {xs : List Ty} {d : DataW H} (h : SlD TyD xs d) : TyD (.mk k i xs) (.agg [.lit (.int .i64 k), .lit (.int .i64 i), d]) := by
  rcases h with ⟨rfl, rfl⟩ | ⟨es, sp, rfl, h1, h2⟩
  · exact .nil k i
  · exact .slice k i xs es sp h1 h2

/-- The facts on a program's type 'api.Type' that a reading looks at. -/
structure TyAt (P : Program) (T S : TypeId) : Prop where
  st : ∃ f0 f1 f2 : Field, P.underlying T = some (.struct #[f0, f1, f2]) ∧ P.underlying f0.type = some (.int .i64) ∧ P.underlying f1.type = some (.int .i64) ∧ f2.type = S ∧ f0.offset = 0 ∧ f1.offset = 1 ∧ f2.offset = 2 ∧ P.cellsOf f0.type = 1 ∧ P.cellsOf f1.type = 1
  sl : P.underlying S = some (.slice T)
  c : P.cellsOf T = 3
  cs : P.cellsOf S = 1
  by40 : P.bytesOf T = 40

section
variable {H : Type} {enc : TypeId × Value → H} {P : Program} {W : World} {spare : Nat → Bool} {held : Bool} {T S : TypeId}

theorem rd_ty (F : TyAt P T S) : ∀ (fuel : Nat) (cs : List Value) (x : DataW H × List MemPlace), DataW.trod enc P W 0 spare held fuel T cs = some x → ∃ t : Ty, RLl (env0 W).view cs t.enc.cells ∧ TyD t x.1 := by
  intro fuel
  induction fuel using Nat.strongRecOn with
  | _ fuel ih =>
  intro cs x h
  obtain ⟨f0, f1, f2, hst, u0, u1, e2, o0, o1, o2, c0, c1⟩ := F.st
  obtain ⟨ds, n, rfl, hx, hlen, hdl, hf⟩ := rd_fields hst h
  rw [F.c] at hlen
  match cs, hlen with
  | [v0, v1, v2], _ =>
  obtain ⟨d0, p0, g0, r0⟩ := hf 0 f0 rfl
  obtain ⟨d1, p1, g1, r1⟩ := hf 1 f1 rfl
  obtain ⟨d2, p2, g2, r2⟩ := hf 2 f2 rfl
  rw [o0, c0] at r0
  rw [o1, c1] at r1
  rw [o2, e2, F.cs] at r2
  obtain ⟨k, q0, rfl, w0, _⟩ := rd_int u0 r0
  obtain ⟨i, q1, rfl, w1, _⟩ := rd_int u1 r1
  obtain ⟨xs, v, hv, hr, hd⟩ := rd_slice Ty.enc TyD F.sl (fun a => by rw [F.c, Ty.enc_len]) r2 (fun m cs' x' hm h' => ih m (by omega) cs' x' h')
  simp only [List.drop_succ_cons, List.drop_zero, List.take_succ_cons, List.take_zero, List.cons.injEq, and_true] at hv
  subst hv
  refine ⟨.mk k i xs, ?_, ?_⟩
  · rw [Ty.enc_cells]
    exact .cons q0.one (.cons q1.one (.cons hr .nil))
  · rw [hx]
    have : ds = [.lit (.int .i64 k), .lit (.int .i64 i), d2] := by
      match ds, hdl with
      | [a, b, c], _ =>
        simp at g0 g1 g2
        rw [g0, g1, g2]
    rw [this]
    exact .of hd

/-- No list of arguments is longer than the row's own bound bears. -/
theorem ty_weights (F : TyAt P T S) {t : Ty} {d : DataW H} (h : TyD t d) (hw : (d.weights P T).all (· ≤ reachBytes) = true) : t.W := by
  obtain ⟨f0, f1, f2, hst, u0, u1, e2, _⟩ := F.st
  induction h with
  | nil k i => exact .mk (by simp) (by simp)
  | slice k i xs es sp hl h ih =>
    simp only [DataW.weights, hst, DataW.weightsEach, List.map_cons, List.map_nil, e2, F.sl, F.by40, List.nil_append, List.append_nil, List.all_cons, List.all_append, Bool.and_eq_true, decide_eq_true_eq] at hw
    have hb : reachBytes = 140737488351232 := rfl
    refine .mk (by rw [hl]; have := hw.1; omega) fun u hu => ?_
    obtain ⟨j, hj, rfl⟩ := List.mem_iff_getElem.1 hu
    refine ih j hj (by omega) ?_
    have h2 := hw.2.1
    rw [List.all_eq_true] at h2 ⊢
    intro x hx
    refine h2 x ?_
    have hmem : ∀ (l : List (DataW H)) (e : DataW H), e ∈ l → x ∈ e.weights P T → x ∈ DataW.weightsAll P T l := by
      intro l
      induction l with
      | nil => intro e he; cases he
      | cons a l ihl =>
        intro e he hx
        simp only [DataW.weightsAll, List.mem_append]
        rcases List.mem_cons.1 he with rfl | he
        · exact .inl hx
        · exact .inr (ihl e he hx)
    exact hmem es _ (List.getElem_mem _) hx

theorem weights_mem {l : List (DataW H)} {e : TypeId} {d : DataW H} (hd : d ∈ l) (h : (DataW.weightsAll P e l).all (· ≤ reachBytes) = true) : (d.weights P e).all (· ≤ reachBytes) = true := by
  rw [List.all_eq_true] at h ⊢
  intro x hx
  refine h x ?_
  clear h
  induction l with
  | nil => cases hd
  | cons a l ih =>
    simp only [DataW.weightsAll, List.mem_append]
    rcases List.mem_cons.1 hd with rfl | hd
    · exact .inl hx
    · exact .inr (ih hd)

/-- A slice's elements and its length. -/
theorem sl_weights {α : Type} {D : α → DataW H → Prop} {Sl E : TypeId} (hs : P.underlying Sl = some (.slice E)) {xs : List α} {d : DataW H} (h : SlD D xs d) (hw : (d.weights P Sl).all (· ≤ reachBytes) = true) :
    xs.length * P.bytesOf E ≤ reachBytes ∧ ∀ a ∈ xs, ∃ d', D a d' ∧ (d'.weights P E).all (· ≤ reachBytes) = true := by
  rcases h with ⟨rfl, rfl⟩ | ⟨els, sp, rfl, h1, h2⟩
  · simp
  · simp only [DataW.weights, hs, List.all_cons, List.all_append, Bool.and_eq_true, decide_eq_true_eq] at hw
    refine ⟨?_, fun a ha => ?_⟩
    · rw [h1]
      refine Nat.le_trans (Nat.mul_le_mul_right _ (Nat.le_add_right _ _)) hw.1
    · obtain ⟨j, hj, rfl⟩ := List.mem_iff_getElem.1 ha
      exact ⟨_, h2 j hj (by omega), weights_mem (List.getElem_mem _) hw.2.1⟩
end
end Go.Abs
namespace Go.Abs
theorem RLl.rl {V : View} {arr : Array Value} {ps : List PV} (h : RLl V arr.toList ps) : RL V arr ps := by
  refine ⟨by have := h.1; simpa using this, fun i hi => ?_⟩
  have := h.2 i hi
  rw [List.getD_eq_getElem?_getD, Array.getElem?_toList] at this
  rw [Array.getD_eq_getD_getElem?]; exact this
theorem Ty.enc_agg (t : Ty) : PV.agg t.enc.cells = t.enc := by rw [Ty.enc_cells, Ty.enc_eq]
end Go.Abs
namespace Go.Abs
/-- A world with constants that a call may look at. -/
def envG (W : World) (G : Heap) : Env := { w := W, κ := fun _ => .fixed, ρ := fun _ => 0, tb := fun _ => none, H := G }
theorem envG_ok {W : World} {G : Heap} (hG : ∀ o ∈ G, ∃ b vs, o = AObj.glob b vs) (hW : ∀ b vs, AObj.glob b vs ∈ G → ∀ i (h : i < vs.length), W.cell? ⟨b, i, none⟩ = some vs[i]) : (envG W G).Ok := by
  have hk : ∀ id o, (envG W G).H[id]? = some o → ∃ b vs, o = AObj.glob b vs := fun id o h => hG o (List.mem_of_getElem? h)
  constructor
  · intro id cs h; obtain ⟨b, vs, e⟩ := hk _ _ h; cases e
  · intro id n sz b h; obtain ⟨b, vs, e⟩ := hk _ _ h; cases e
  · intro id id' cs cs' h; obtain ⟨b, vs, e⟩ := hk _ _ h; cases e
  · intro id id' n sz n' sz' b h; obtain ⟨b, vs, e⟩ := hk _ _ h; cases e
  · intro id b vs h i hi; exact hW b vs (List.mem_of_getElem? h) i hi
theorem env0_envG (W : World) (G : Heap) : (env0 W).view.le (envG W G).view := by
  have hb : ∀ id, ¬ (env0 W).view.born id := by
    rintro id ⟨o, h, _⟩
    simp [env0] at h
  exact ⟨fun a v h => h, fun id h => absurd h (hb id), fun id h => absurd h (hb id), fun id t h => absurd h (hb id)⟩
theorem calls_of_pg {P : Program} {f : FuncId} {args : List PV} {b : Bool} {G : Heap} (h : PG G P f args (.bool b)) (W : World) (hG : ∀ o ∈ G, ∃ b vs, o = AObj.glob b vs) (hW : ∀ b vs, AObj.glob b vs ∈ G → ∀ i (h : i < vs.length), W.cell? ⟨b, i, none⟩ = some vs[i])
    (vargs : Array Value) (hr : RL (env0 W).view vargs args) : Calls P f vargs W fun e w' => e = .returned (.bool b) ∧ Go.RowKit.Below W.heap.size W w' := by
  refine (h G (Pre.refl G) (envG W G) vargs (envG_ok hG hW) rfl (hr.mono (env0_envG W G))).mono ?_
  rintro e w' ⟨E', v, r, rfl, rfl, hle, hok, hv, rfl, _⟩
  refine ⟨by rw [hv.bool_inv], hle.os, hle.tape, hle.output, hle.size, fun k hk => (hle.other k hk ?_ ?_).2⟩
  · rintro ⟨id, cs, h, _⟩; obtain ⟨b, vs, e⟩ := hG _ (List.mem_of_getElem? h); cases e
  · rintro ⟨id, n, sz, h, _⟩; obtain ⟨b, vs, e⟩ := hG _ (List.mem_of_getElem? h); cases e
/-- The cells of a table of numbers, as it is read. -/
theorem laid_ints {H : Type} {enc : TypeId × Value → H} {P : Program} {w : World} {sp : Nat → Bool} {held : Bool} {t e : TypeId} {n f : Nat} {k : IntKind} {cs : List Value} {ds : List (DataW H)} {q : List MemPlace}
    (ht : P.underlying t = some (.array n e)) (he : P.underlying e = some (.int k)) (hc : P.cellsOf e = 1) (h : DataW.trod enc P w 0 sp held f t cs = some (.agg ds, q)) :
    ∀ i, i < n → ∃ v, ds[i]? = some (.lit (.int k v)) ∧ cs[i]? = some (.int k v) := by
  intro i hi
  obtain ⟨xs, m, rfl, hx, hlen, hn, hel⟩ := DataW.trod_array ht h
  have h1 := hel i hi
  rw [hc, Nat.mul_one] at h1
  rw [List.getElem?_eq_getElem (by omega)] at h1
  obtain ⟨v, e1, e2, _⟩ := DataW.trod_int he h1
  simp only [Prod.mk.injEq, DataW.agg.injEq] at hx
  refine ⟨v, ?_, ?_⟩
  · rw [hx.1, List.getElem?_map, List.getElem?_eq_getElem (by omega)]
    simp [e2]
  · have : (cs.drop i).head? = some (.int k v) := by
      cases hd : cs.drop i with
      | nil => rw [hd] at e1; cases e1
      | cons a l => rw [hd] at e1; simp at e1; rw [e1]; rfl
    rw [List.head?_drop] at this
    exact this
end Go.Abs
namespace Go.Abs
theorem strip (r : List (List Char)) : stripLifts liftWords ("cut".toList :: r) = ([], "cut".toList :: r) := by
  simp only [liftWords]
  repeat (rw [stripLifts, if_neg (by decide)])
  rfl
theorem mayEnter_of {P : Program} {r : List (List Char)} (h : behindMainWord (wordsSigns P.initOrder.toList) = "cut".toList :: r) (h1 : P.laysLater = false) (h2 : P.bearsReflect = false) (h3 : P.doorFits [] = true) : P.mayEnter = true := by
  unfold Program.mayEnter
  rw [h]
  simp only [strip, h1, h2, h3]
  rfl
theorem headLifts_of {P : Program} {r : List (List Char)} (h : behindMainWord (wordsSigns P.initOrder.toList) = "cut".toList :: r) : P.headLifts = [] := by
  unfold Program.headLifts
  rw [h, strip]
  rfl
theorem liftsFinal_of {P : Program} {r : List (List Char)} (h : behindMainWord (wordsSigns P.initOrder.toList) = "cut".toList :: r) : P.liftsFinal = false := by
  unfold Program.liftsFinal
  rw [headLifts_of h, h]
  rfl
theorem make_of {P : Program} {r : List (List Char)} (h : behindMainWord (wordsSigns P.initOrder.toList) = "cut".toList :: r) : P.make = some .cut := by
  unfold Program.make
  rw [h]
  rfl
def sg (l : List Nat) : List Char := l.map Char.ofNat
theorem words_cons (c : Char) (r : List Char) (h : (c == Char.ofNat 32) = false) : wordsSigns (c :: r) = match wordsSigns r with | w :: ws => (c :: w) :: ws | [] => [[c]] := by
  rw [wordsSigns]
  · rfl
  · intro e
    subst e
    simp at h
theorem words_word : ∀ (w r : List Char), w.all (fun c => !(c == Char.ofNat 32)) = true → wordsSigns (w ++ Char.ofNat 32 :: r) = w :: wordsSigns r
  | [], r, _ => by rfl
  | c :: w, r, h => by
    simp only [List.all_cons, Bool.and_eq_true, Bool.not_eq_true'] at h
    rw [List.cons_append, words_cons c _ h.1, words_word w r h.2]
/-- The head of a cut: 'harness', a sum, 'cut'. -/
theorem behind_of {P : Program} {a b c r : List Char} (hio : P.initOrder = String.ofList (a ++ Char.ofNat 32 :: (b ++ Char.ofNat 32 :: (c ++ Char.ofNat 32 :: r)))) (ha : a.all (fun c => !(c == Char.ofNat 32)) = true) (hb : b.all (fun c => !(c == Char.ofNat 32)) = true) (hc : c.all (fun c => !(c == Char.ofNat 32)) = true)
    (h : ((a == "harness".toList || a == "ownmain".toList) && isSumSigns b) = true) (hc2 : c = "cut".toList) : behindMainWord (wordsSigns P.initOrder.toList) = "cut".toList :: wordsSigns r := by
  rw [hio, String.toList_ofList, words_word _ _ ha, words_word _ _ hb, words_word _ _ hc]
  simp only [behindMainWord]
  rw [if_pos h, hc2]
end Go.Abs
