/- Part 3 of a proof of the law FoldComputesArithmetic: Go data as trees, the walks of the functions that the law reaches, the plain laws. -/
import Derived.Test.YtdlejojjomibkaaGBFoldComputesArithmetic
import Derived.Test.YtdlejojjomibkaaProg
import Derived.KernelRfl
set_option linter.unusedVariables false
namespace Go.Abs
open Go.Proofs
theorem Tryti2 : tinfo Try.prog 2 = some ⟨false, 1, 8⟩ := by kernel_rfl
theorem Trytz2 : tzero Try.prog 2 = some (.int .i64 0) := by kernel_rfl
theorem Trytp2 : tptr Try.prog 2 = false := by kernel_rfl
theorem Trytk2 : tint Try.prog 2 = some .i64 := by kernel_rfl
theorem Tryti3 : tinfo Try.prog 3 = some ⟨false, 1, 8⟩ := by kernel_rfl
theorem Trytz3 : tzero Try.prog 3 = some (.int .i64 0) := by kernel_rfl
theorem Trytp3 : tptr Try.prog 3 = false := by kernel_rfl
theorem Trytk3 : tint Try.prog 3 = some .i64 := by kernel_rfl
theorem Tryti4 : tinfo Try.prog 4 = some ⟨false, 1, 1⟩ := by kernel_rfl
theorem Trytz4 : tzero Try.prog 4 = some (.bool false) := by kernel_rfl
theorem Trytp4 : tptr Try.prog 4 = false := by kernel_rfl
theorem Trytb4 : tbool Try.prog 4 = true := by kernel_rfl
theorem Tryti5 : tinfo Try.prog 5 = some ⟨false, 1, 1⟩ := by kernel_rfl
theorem Trytz5 : tzero Try.prog 5 = some (.int .u8 0) := by kernel_rfl
theorem Trytp5 : tptr Try.prog 5 = false := by kernel_rfl
theorem Trytk5 : tint Try.prog 5 = some .u8 := by kernel_rfl
theorem Tryti6 : tinfo Try.prog 6 = some ⟨false, 1, 1⟩ := by kernel_rfl
theorem Trytz6 : tzero Try.prog 6 = some (.int .u8 0) := by kernel_rfl
theorem Trytp6 : tptr Try.prog 6 = false := by kernel_rfl
theorem Trytk6 : tint Try.prog 6 = some .u8 := by kernel_rfl
theorem Tryti7 : tinfo Try.prog 7 = some ⟨true, 4, 24⟩ := by kernel_rfl
theorem Trytf7 : tflds Try.prog 7 = some [(0, ⟨false, 1, 8⟩), (1, ⟨false, 1, 8⟩), (2, ⟨false, 1, 1⟩), (3, ⟨false, 1, 1⟩)] := by kernel_rfl
theorem Trytz7 : tzero Try.prog 7 = some (.agg [.int .i64 0, .int .i64 0, .bool false, .int .u8 0]) := by kernel_rfl
theorem Trytp7 : tptr Try.prog 7 = false := by kernel_rfl
theorem Tryti8 : tinfo Try.prog 8 = some ⟨true, 4, 24⟩ := by kernel_rfl
theorem Trytf8 : tflds Try.prog 8 = some [(0, ⟨false, 1, 8⟩), (1, ⟨false, 1, 8⟩), (2, ⟨false, 1, 1⟩), (3, ⟨false, 1, 1⟩)] := by kernel_rfl
theorem Trytz8 : tzero Try.prog 8 = some (.agg [.int .i64 0, .int .i64 0, .bool false, .int .u8 0]) := by kernel_rfl
theorem Trytp8 : tptr Try.prog 8 = false := by kernel_rfl
theorem Tryti9 : tinfo Try.prog 9 = some ⟨false, 1, 16⟩ := by kernel_rfl
theorem Trytz9 : tzero Try.prog 9 = some (.str []) := by kernel_rfl
theorem Trytp9 : tptr Try.prog 9 = false := by kernel_rfl
theorem Tryts9 : tstr Try.prog 9 = true := by kernel_rfl
theorem Tryti10 : tinfo Try.prog 10 = some ⟨false, 1, 16⟩ := by kernel_rfl
theorem Trytz10 : tzero Try.prog 10 = some (.str []) := by kernel_rfl
theorem Trytp10 : tptr Try.prog 10 = false := by kernel_rfl
theorem Tryts10 : tstr Try.prog 10 = true := by kernel_rfl
theorem Tryti11 : tinfo Try.prog 11 = some ⟨false, 1, 16⟩ := by kernel_rfl
theorem Trytz11 : tzero Try.prog 11 = some (.str []) := by kernel_rfl
theorem Trytp11 : tptr Try.prog 11 = false := by kernel_rfl
theorem Tryts11 : tstr Try.prog 11 = true := by kernel_rfl
theorem Tryti12 : tinfo Try.prog 12 = some ⟨false, 1, 8⟩ := by kernel_rfl
theorem Trytz12 : tzero Try.prog 12 = some (.int .u64 0) := by kernel_rfl
theorem Trytp12 : tptr Try.prog 12 = false := by kernel_rfl
theorem Trytk12 : tint Try.prog 12 = some .u64 := by kernel_rfl
theorem Tryti13 : tinfo Try.prog 13 = some ⟨true, 2, 24⟩ := by kernel_rfl
theorem Trytf13 : tflds Try.prog 13 = some [(0, ⟨false, 1, 16⟩), (1, ⟨false, 1, 8⟩)] := by kernel_rfl
theorem Trytz13 : tzero Try.prog 13 = some (.agg [.str [], .int .u64 0]) := by kernel_rfl
theorem Trytp13 : tptr Try.prog 13 = false := by kernel_rfl
theorem Tryti14 : tinfo Try.prog 14 = some ⟨true, 2, 24⟩ := by kernel_rfl
theorem Trytf14 : tflds Try.prog 14 = some [(0, ⟨false, 1, 16⟩), (1, ⟨false, 1, 8⟩)] := by kernel_rfl
theorem Trytz14 : tzero Try.prog 14 = some (.agg [.str [], .int .u64 0]) := by kernel_rfl
theorem Trytp14 : tptr Try.prog 14 = false := by kernel_rfl
theorem Tryti15 : tinfo Try.prog 15 = some ⟨false, 1, 8⟩ := by kernel_rfl
theorem Trytz15 : tzero Try.prog 15 = some (.nilp) := by kernel_rfl
theorem Trytp15 : tptr Try.prog 15 = true := by kernel_rfl
theorem Tryti16 : tinfo Try.prog 16 = some ⟨false, 1, 8⟩ := by kernel_rfl
theorem Trytz16 : tzero Try.prog 16 = some (.nilp) := by kernel_rfl
theorem Trytp16 : tptr Try.prog 16 = true := by kernel_rfl
theorem Tryti17 : tinfo Try.prog 17 = some ⟨false, 1, 8⟩ := by kernel_rfl
theorem Trytz17 : tzero Try.prog 17 = some (.nilp) := by kernel_rfl
theorem Trytp17 : tptr Try.prog 17 = true := by kernel_rfl
theorem Tryti18 : tinfo Try.prog 18 = some ⟨true, 1, 8⟩ := by kernel_rfl
theorem Trytf18 : tflds Try.prog 18 = some [(0, ⟨false, 1, 8⟩)] := by kernel_rfl
theorem Trytz18 : tzero Try.prog 18 = some (.agg [.nilp]) := by kernel_rfl
theorem Trytp18 : tptr Try.prog 18 = false := by kernel_rfl
theorem Tryti19 : tinfo Try.prog 19 = some ⟨true, 1, 8⟩ := by kernel_rfl
theorem Trytf19 : tflds Try.prog 19 = some [(0, ⟨false, 1, 8⟩)] := by kernel_rfl
theorem Trytz19 : tzero Try.prog 19 = some (.agg [.nilp]) := by kernel_rfl
theorem Trytp19 : tptr Try.prog 19 = false := by kernel_rfl
theorem Tryti21 : tinfo Try.prog 21 = some ⟨false, 1, 4⟩ := by kernel_rfl
theorem Trytz21 : tzero Try.prog 21 = some (.int .i32 0) := by kernel_rfl
theorem Trytp21 : tptr Try.prog 21 = false := by kernel_rfl
theorem Trytk21 : tint Try.prog 21 = some .i32 := by kernel_rfl
theorem Tryti22 : tinfo Try.prog 22 = some ⟨false, 1, 24⟩ := by kernel_rfl
theorem Tryte22 : telem Try.prog 22 = some (24, ⟨true, 7, 80⟩) := by kernel_rfl
theorem Trytz22 : tzero Try.prog 22 = some (.slice [] .full) := by kernel_rfl
theorem Trytp22 : tptr Try.prog 22 = false := by kernel_rfl
theorem Tryti23 : tinfo Try.prog 23 = some ⟨true, 7, 80⟩ := by kernel_rfl
theorem Trytf23 : tflds Try.prog 23 = some [(0, ⟨false, 1, 8⟩), (1, ⟨false, 1, 8⟩), (2, ⟨false, 1, 16⟩), (3, ⟨false, 1, 8⟩), (4, ⟨false, 1, 8⟩), (5, ⟨false, 1, 8⟩), (6, ⟨false, 1, 24⟩)] := by kernel_rfl
theorem Trytz23 : tzero Try.prog 23 = some (.agg [.int .i64 0, .int .i64 0, .str [], .int .i64 0, .int .i64 0, .int .i64 0, .slice [] .full]) := by kernel_rfl
theorem Trytp23 : tptr Try.prog 23 = false := by kernel_rfl
theorem Tryti24 : tinfo Try.prog 24 = some ⟨true, 7, 80⟩ := by kernel_rfl
theorem Trytf24 : tflds Try.prog 24 = some [(0, ⟨false, 1, 8⟩), (1, ⟨false, 1, 8⟩), (2, ⟨false, 1, 16⟩), (3, ⟨false, 1, 8⟩), (4, ⟨false, 1, 8⟩), (5, ⟨false, 1, 8⟩), (6, ⟨false, 1, 24⟩)] := by kernel_rfl
theorem Trytz24 : tzero Try.prog 24 = some (.agg [.int .i64 0, .int .i64 0, .str [], .int .i64 0, .int .i64 0, .int .i64 0, .slice [] .full]) := by kernel_rfl
theorem Trytp24 : tptr Try.prog 24 = false := by kernel_rfl
theorem Tryti30 : tinfo Try.prog 30 = some ⟨false, 1, 24⟩ := by kernel_rfl
theorem Tryte30 : telem Try.prog 30 = some (9, ⟨false, 1, 16⟩) := by kernel_rfl
theorem Trytz30 : tzero Try.prog 30 = some (.slice [] .full) := by kernel_rfl
theorem Trytp30 : tptr Try.prog 30 = false := by kernel_rfl
theorem Tryti31 : tinfo Try.prog 31 = some ⟨false, 1, 24⟩ := by kernel_rfl
theorem Tryte31 : telem Try.prog 31 = some (3, ⟨false, 1, 8⟩) := by kernel_rfl
theorem Trytz31 : tzero Try.prog 31 = some (.slice [] .full) := by kernel_rfl
theorem Trytp31 : tptr Try.prog 31 = false := by kernel_rfl
theorem Tryti32 : tinfo Try.prog 32 = some ⟨false, 1, 8⟩ := by kernel_rfl
theorem Trytz32 : tzero Try.prog 32 = some (.int .u64 0) := by kernel_rfl
theorem Trytp32 : tptr Try.prog 32 = false := by kernel_rfl
theorem Trytk32 : tint Try.prog 32 = some .u64 := by kernel_rfl
theorem Tryti46 : tinfo Try.prog 46 = some ⟨true, 4, 40⟩ := by kernel_rfl
theorem Trytf46 : tflds Try.prog 46 = some [(0, ⟨false, 1, 8⟩), (1, ⟨false, 1, 8⟩), (2, ⟨false, 1, 8⟩), (3, ⟨false, 1, 16⟩)] := by kernel_rfl
theorem Trytz46 : tzero Try.prog 46 = some (.agg [.nilp, .nilp, .nilp, .str []]) := by kernel_rfl
theorem Trytp46 : tptr Try.prog 46 = false := by kernel_rfl
theorem Tryti47 : tinfo Try.prog 47 = some ⟨true, 4, 40⟩ := by kernel_rfl
theorem Trytf47 : tflds Try.prog 47 = some [(0, ⟨false, 1, 8⟩), (1, ⟨false, 1, 8⟩), (2, ⟨false, 1, 8⟩), (3, ⟨false, 1, 16⟩)] := by kernel_rfl
theorem Trytz47 : tzero Try.prog 47 = some (.agg [.nilp, .nilp, .nilp, .str []]) := by kernel_rfl
theorem Trytp47 : tptr Try.prog 47 = false := by kernel_rfl
theorem Tryti49 : tinfo Try.prog 49 = some ⟨true, 0, 0⟩ := by kernel_rfl
theorem Trytf49 : tflds Try.prog 49 = some [(0, ⟨true, 0, 0⟩)] := by kernel_rfl
theorem Trytz49 : tzero Try.prog 49 = some (.agg []) := by kernel_rfl
theorem Trytp49 : tptr Try.prog 49 = false := by kernel_rfl
theorem Tryti50 : tinfo Try.prog 50 = some ⟨true, 0, 0⟩ := by kernel_rfl
theorem Trytf50 : tflds Try.prog 50 = some [(0, ⟨true, 0, 0⟩)] := by kernel_rfl
theorem Trytz50 : tzero Try.prog 50 = some (.agg []) := by kernel_rfl
theorem Trytp50 : tptr Try.prog 50 = false := by kernel_rfl
theorem Tryti52 : tinfo Try.prog 52 = some ⟨false, 1, 4⟩ := by kernel_rfl
theorem Trytz52 : tzero Try.prog 52 = some (.int .u32 0) := by kernel_rfl
theorem Trytp52 : tptr Try.prog 52 = false := by kernel_rfl
theorem Trytk52 : tint Try.prog 52 = some .u32 := by kernel_rfl
theorem Tryti53 : tinfo Try.prog 53 = some ⟨false, 1, 1⟩ := by kernel_rfl
theorem Trytz53 : tzero Try.prog 53 = some (.int .u8 0) := by kernel_rfl
theorem Trytp53 : tptr Try.prog 53 = false := by kernel_rfl
theorem Trytk53 : tint Try.prog 53 = some .u8 := by kernel_rfl
theorem Tryti54 : tinfo Try.prog 54 = some ⟨false, 1, 1⟩ := by kernel_rfl
theorem Trytz54 : tzero Try.prog 54 = some (.int .u8 0) := by kernel_rfl
theorem Trytp54 : tptr Try.prog 54 = false := by kernel_rfl
theorem Trytk54 : tint Try.prog 54 = some .u8 := by kernel_rfl
theorem Tryti56 : tinfo Try.prog 56 = some ⟨false, 1, 8⟩ := by kernel_rfl
theorem Trytz56 : tzero Try.prog 56 = some (.nilp) := by kernel_rfl
theorem Trytp56 : tptr Try.prog 56 = true := by kernel_rfl
theorem Tryti57 : tinfo Try.prog 57 = some ⟨false, 1, 4⟩ := by kernel_rfl
theorem Trytz57 : tzero Try.prog 57 = some (.int .i32 0) := by kernel_rfl
theorem Trytp57 : tptr Try.prog 57 = false := by kernel_rfl
theorem Trytk57 : tint Try.prog 57 = some .i32 := by kernel_rfl
theorem Tryti58 : tinfo Try.prog 58 = some ⟨false, 1, 4⟩ := by kernel_rfl
theorem Trytz58 : tzero Try.prog 58 = some (.int .i32 0) := by kernel_rfl
theorem Trytp58 : tptr Try.prog 58 = false := by kernel_rfl
theorem Trytk58 : tint Try.prog 58 = some .i32 := by kernel_rfl
theorem Tryti59 : tinfo Try.prog 59 = some ⟨true, 11, 48⟩ := by kernel_rfl
theorem Trytf59 : tflds Try.prog 59 = some [(0, ⟨false, 1, 8⟩), (1, ⟨false, 1, 8⟩), (2, ⟨false, 1, 4⟩), (3, ⟨false, 1, 1⟩), (4, ⟨false, 1, 1⟩), (5, ⟨false, 1, 1⟩), (6, ⟨false, 1, 1⟩), (7, ⟨false, 1, 8⟩), (8, ⟨false, 1, 8⟩), (9, ⟨false, 1, 4⟩), (10, ⟨false, 1, 4⟩)] := by kernel_rfl
theorem Trytz59 : tzero Try.prog 59 = some (.agg [.int .u64 0, .int .u64 0, .int .u32 0, .int .u8 0, .int .u8 0, .int .u8 0, .int .u8 0, .nilfn, .nilp, .int .i32 0, .int .i32 0]) := by kernel_rfl
theorem Trytp59 : tptr Try.prog 59 = false := by kernel_rfl
theorem Tryti60 : tinfo Try.prog 60 = some ⟨true, 11, 48⟩ := by kernel_rfl
theorem Trytf60 : tflds Try.prog 60 = some [(0, ⟨false, 1, 8⟩), (1, ⟨false, 1, 8⟩), (2, ⟨false, 1, 4⟩), (3, ⟨false, 1, 1⟩), (4, ⟨false, 1, 1⟩), (5, ⟨false, 1, 1⟩), (6, ⟨false, 1, 1⟩), (7, ⟨false, 1, 8⟩), (8, ⟨false, 1, 8⟩), (9, ⟨false, 1, 4⟩), (10, ⟨false, 1, 4⟩)] := by kernel_rfl
theorem Trytz60 : tzero Try.prog 60 = some (.agg [.int .u64 0, .int .u64 0, .int .u32 0, .int .u8 0, .int .u8 0, .int .u8 0, .int .u8 0, .nilfn, .nilp, .int .i32 0, .int .i32 0]) := by kernel_rfl
theorem Trytp60 : tptr Try.prog 60 = false := by kernel_rfl
theorem Trygo3 : goFn Try.prog 3 = true := by kernel_rfl
theorem Trygo4 : goFn Try.prog 4 = true := by kernel_rfl
theorem Trygo5 : goFn Try.prog 5 = true := by kernel_rfl
theorem Trygo6 : goFn Try.prog 6 = true := by kernel_rfl
theorem Trygo7 : goFn Try.prog 7 = true := by kernel_rfl
theorem Trygo8 : goFn Try.prog 8 = true := by kernel_rfl
theorem Trygo9 : goFn Try.prog 9 = true := by kernel_rfl
theorem Trygo10 : goFn Try.prog 10 = true := by kernel_rfl
theorem Trygo11 : goFn Try.prog 11 = true := by kernel_rfl
theorem Trygo12 : goFn Try.prog 12 = true := by kernel_rfl
theorem Trygo13 : goFn Try.prog 13 = true := by kernel_rfl
theorem Trygo14 : goFn Try.prog 14 = true := by kernel_rfl
theorem Trygo15 : goFn Try.prog 15 = true := by kernel_rfl
theorem Trygo16 : goFn Try.prog 16 = true := by kernel_rfl
theorem Trygo17 : goFn Try.prog 17 = true := by kernel_rfl
theorem Trygo18 : goFn Try.prog 18 = true := by kernel_rfl
theorem Trygo19 : goFn Try.prog 19 = true := by kernel_rfl
theorem Trygo20 : goFn Try.prog 20 = true := by kernel_rfl
theorem Trygo21 : goFn Try.prog 21 = true := by kernel_rfl
theorem Trygo22 : goFn Try.prog 22 = true := by kernel_rfl
theorem Trygo23 : goFn Try.prog 23 = true := by kernel_rfl
theorem Trygo24 : goFn Try.prog 24 = true := by kernel_rfl
theorem Trygo25 : goFn Try.prog 25 = true := by kernel_rfl
end Go.Abs
set_option linter.unusedVariables false
set_option linter.unusedSimpArgs false
set_option maxRecDepth 4000
namespace Go.Abs
open Go.Proofs

theorem mul_rng {a b : Int} (ha : -2147483648 ≤ a ∧ a ≤ 2147483647) (hb : -2147483648 ≤ b ∧ b ≤ 2147483647) : -4611686018427387904 ≤ a * b ∧ a * b ≤ 4611686018427387904 := by
  have h1 : (a * b).natAbs ≤ 2147483648 * 2147483648 := by rw [Int.natAbs_mul]; exact Nat.mul_le_mul (by omega) (by omega)
  omega
theorem aops_gskip {P : Program} {N nb : Nat} {ops : Array Oper} {Q : Exit → Slots → Heap → Prop} {o : Oper} {l : List Oper} {T : Slots} {G : Nat → Bool} {H : Heap} {r : PV} (hc : gcond ops.toList T G N o = some false)
    (h : AOps P N nb ops Q l (msk (.tup []) (updO T o.dst r) (ugO G o.dst false)) H) : AOps P N nb ops Q (o :: l) (msk (.tup []) T G) H := by
  rw [msk_put_false] at h
  exact aops_skipU (fun E a ht => gcond_false ht hc) h
theorem wrap_neg {z : Int} (h1 : 0 < z) (h2 : z ≤ 2147483647) : IntKind.i64.wrap (-z) = -z := wrap_id (by omega) (by omega)
/-- What 'arithmetic' answers beside 'false'. -/
def arithX (op : List UInt8) (a b : Int) : Int := if op = [43] then a + b else if op = [45] then a - b else if op = [42] then a * b else if op = [47] then (if b = 0 then 0 else a.tdiv b) else 0

theorem intLitK (v : Int) : PC Try.prog 10 [vint v] (Nd.mk 27 v [] 0 0 (-1) []).enc := by
  refine pc_of (N := 5) Try.func10 rfl rfl (by simp) (by simp [Bel.int]) (Nd.bel _ _) ?_
  -- region 0
  repeat (refine awp_seq ?_)
  refine e_eval (by simp only [asq, as0, as1, as2, awanted, aop, LS, SS, SX, HS, mkS_cons, mkS_nil, ↓reduceIte, eq_self', List.map_nil, beq_self_eq_true, Nat.reduceEqDiff, Nat.reduceAdd, Nat.reduceMul, Nat.reduceLT, Nat.reduceLeDiff, Nat.reducePow, Nat.reduceDiv, Nat.reduceMod, Nat.succ_ne_self, Nat.reduceBEq, Nat.reduceBNe, Tryti24, Trytf24, Trytz24, Trytp24, vint, NdS, NdF] <;> with_reducible rfl) (by decide) ?_
  -- region 1
  repeat (refine awp_seq ?_)
  refine e_eval (by simp only [asq, as0, as1, as2, awanted, aop, abuild, splice, astore, LS, SS, SX, HS, mkS_cons, mkS_nil, ↓reduceIte, eq_self', List.map_nil, beq_self_eq_true, Nat.reduceEqDiff, Nat.reduceAdd, Nat.reduceMul, Nat.reduceLT, Nat.reduceLeDiff, Nat.reducePow, Nat.reduceDiv, Nat.reduceMod, Nat.succ_ne_self, Nat.reduceBEq, Nat.reduceBNe, Tryti24, Trytf24, Trytz24, Trytp24, vint, NdS, NdF] <;> with_reducible rfl) (by decide) ?_
  repeat (refine awp_seq ?_)
  -- leaf 0 ret
  refine awp_ret ⟨.inr rfl, _, (ares_cell 2 24 rfl Tryti24 (by decide) (by simp only [aload, LS, SS, SX, HS, mkS_cons, mkS_nil, ↓reduceIte, eq_self', List.map_nil, beq_self_eq_true, Nat.reduceEqDiff, Nat.reduceAdd, Nat.reduceMul, Nat.reduceLT, Nat.reduceLeDiff, Nat.reducePow, Nat.reduceDiv, Nat.reduceMod, Nat.succ_ne_self, Nat.reduceBEq, Nat.reduceBNe, vint, NdS, NdF] <;> with_reducible rfl)), ?_⟩
  exact Nd.enc_drop1 _

theorem binK (op : List UInt8) (a b : Nd) : PC Try.prog 12 [.str op, a.enc, b.enc] (Nd.mk 39 0 op 0 0 (-1) [a, b]).enc := by
  refine pc_of (N := 12) Try.func12 rfl rfl (by simp) (by simp [Bel.str, Nd.bel]) (Nd.bel _ _) ?_
  -- region 0
  repeat (refine awp_seq ?_)
  refine e_eval (by simp only [asq, as0, as1, as2, awanted, aop, LS, SS, SX, HS, mkS_cons, mkS_nil, ↓reduceIte, eq_self', List.map_nil, beq_self_eq_true, Nat.reduceEqDiff, Nat.reduceAdd, Nat.reduceMul, Nat.reduceLT, Nat.reduceLeDiff, Nat.reducePow, Nat.reduceDiv, Nat.reduceMod, Nat.succ_ne_self, Nat.reduceBEq, Nat.reduceBNe, Tryti24, Trytf24, Trytz24, Trytp24, vint, NdS, NdF] <;> with_reducible rfl) (by decide) ?_
  -- region 1
  repeat (refine awp_seq ?_)
  refine e_eval (by simp only [asq, as0, as1, as2, awanted, aop, aload, ajust, abuildS, abuild, splice, astore, LS, SS, SX, HS, mkS_cons, mkS_nil, ↓reduceIte, eq_self', List.map_nil, beq_self_eq_true, Nat.reduceEqDiff, Nat.reduceAdd, Nat.reduceMul, Nat.reduceLT, Nat.reduceLeDiff, Nat.reducePow, Nat.reduceDiv, Nat.reduceMod, Nat.succ_ne_self, Nat.reduceBEq, Nat.reduceBNe, Tryti22, Tryte22, Trytz22, Trytp22, Tryti24, Trytf24, Trytz24, Trytp24, vint, NdS, NdF] <;> with_reducible rfl) (by decide) ?_
  repeat (refine awp_seq ?_)
  -- leaf 0 ret
  refine awp_ret ⟨.inr rfl, _, (ares_cell 6 24 rfl Tryti24 (by decide) (by simp only [aload, LS, SS, SX, HS, mkS_cons, mkS_nil, ↓reduceIte, eq_self', List.map_nil, beq_self_eq_true, Nat.reduceEqDiff, Nat.reduceAdd, Nat.reduceMul, Nat.reduceLT, Nat.reduceLeDiff, Nat.reducePow, Nat.reduceDiv, Nat.reduceMod, Nat.succ_ne_self, Nat.reduceBEq, Nat.reduceBNe, vint, NdS, NdF] <;> with_reducible rfl)), ?_⟩
  exact Nd.enc_drop1 _

theorem boolNode (m : Nd) (b : Bool) : PC Try.prog 23 [m.enc, .bool b] (boolN m b).enc := by
  refine pc_of (N := 14) Try.func23 rfl rfl (by simp) (by simp [Bel.bool, Nd.bel]) (Nd.bel _ _) ?_
  -- region 0
  repeat (refine awp_seq ?_)
  refine e_eval (by simp only [asq, as0, as1, as2, awanted, aop, LS, SS, SX, HS, mkS_cons, mkS_nil, ↓reduceIte, eq_self', List.map_nil, beq_self_eq_true, Nat.reduceEqDiff, Nat.reduceAdd, Nat.reduceMul, Nat.reduceLT, Nat.reduceLeDiff, Nat.reducePow, Nat.reduceDiv, Nat.reduceMod, Nat.succ_ne_self, Nat.reduceBEq, Nat.reduceBNe, Tryti24, Trytf24, Trytz24, Trytp24, vint, NdS, NdF, splice, astore] <;> with_reducible rfl) (by decide) ?_
  -- region 1
  repeat (refine awp_seq ?_)
  refine e_eval (by simp only [asq, as0, as1, as2, awanted, aop, afldAddr, ajust, aload, abuild, splice, astore, LS, SS, SX, HS, mkS_cons, mkS_nil, ↓reduceIte, eq_self', List.map_nil, beq_self_eq_true, Nat.reduceEqDiff, Nat.reduceAdd, Nat.reduceMul, Nat.reduceLT, Nat.reduceLeDiff, Nat.reducePow, Nat.reduceDiv, Nat.reduceMod, Nat.succ_ne_self, Nat.reduceBEq, Nat.reduceBNe, Tryti3, Trytz3, Trytp3, Trytk3, Tryti24, Trytf24, Trytz24, Trytp24, vint, NdS, NdF, splice, astore] <;> with_reducible rfl) (by decide) ?_
  -- region 2
  repeat (refine awp_seq ?_)
  refine e_eval (by simp only [asq, as0, as1, as2, awanted, aop, LS, SS, SX, HS, mkS_cons, mkS_nil, ↓reduceIte, eq_self', List.map_nil, beq_self_eq_true, Nat.reduceEqDiff, Nat.reduceAdd, Nat.reduceMul, Nat.reduceLT, Nat.reduceLeDiff, Nat.reducePow, Nat.reduceDiv, Nat.reduceMod, Nat.succ_ne_self, Nat.reduceBEq, Nat.reduceBNe, vint, NdS, NdF, splice, astore] <;> with_reducible rfl) (by decide) ?_
  repeat (refine awp_seq ?_)
  refine awp_cond rfl (by simp only [LS, SS, SX, HS, mkS_cons, mkS_nil, ↓reduceIte, eq_self', List.map_nil, beq_self_eq_true, Nat.reduceEqDiff, Nat.reduceAdd, Nat.succ_ne_self, vint, NdS, NdF, splice, astore] <;> with_reducible rfl) (fun b0 => ?_) (fun b0 => ?_)
  · -- if t11
    subst b0
    -- region 3
    repeat (refine awp_seq ?_)
    refine e_eval (by simp only [asq, as0, as1, as2, awanted, aop, afldAddr, ajust, astore, splice, LS, SS, SX, HS, mkS_cons, mkS_nil, ↓reduceIte, eq_self', List.map_nil, beq_self_eq_true, Nat.reduceEqDiff, Nat.reduceAdd, Nat.reduceMul, Nat.reduceLT, Nat.reduceLeDiff, Nat.reducePow, Nat.reduceDiv, Nat.reduceMod, Nat.succ_ne_self, Nat.reduceBEq, Nat.reduceBNe, Tryti3, Trytz3, Trytp3, Trytk3, Tryti24, Trytf24, Trytz24, Trytp24, vint, NdS, NdF, splice, astore] <;> with_reducible rfl) (by decide) ?_
    -- region 4
    repeat (refine awp_seq ?_)
    refine e_eval (by simp only [asq, as0, as1, as2, awanted, aop, aload, ajust, astore, splice, LS, SS, SX, HS, mkS_cons, mkS_nil, ↓reduceIte, eq_self', List.map_nil, beq_self_eq_true, Nat.reduceEqDiff, Nat.reduceAdd, Nat.reduceMul, Nat.reduceLT, Nat.reduceLeDiff, Nat.reducePow, Nat.reduceDiv, Nat.reduceMod, Nat.succ_ne_self, Nat.reduceBEq, Nat.reduceBNe, Tryti24, Trytf24, Trytz24, Trytp24, vint, NdS, NdF, splice, astore] <;> with_reducible rfl) (by decide) ?_
    repeat (refine awp_seq ?_)
    -- leaf 0 ret
    refine awp_ret ⟨.inr rfl, _, (ares_cell 4 24 rfl Tryti24 (by decide) (by simp only [aload, LS, SS, SX, HS, mkS_cons, mkS_nil, ↓reduceIte, eq_self', List.map_nil, beq_self_eq_true, Nat.reduceEqDiff, Nat.reduceAdd, Nat.reduceMul, Nat.reduceLT, Nat.reduceLeDiff, Nat.reducePow, Nat.reduceDiv, Nat.reduceMod, Nat.succ_ne_self, Nat.reduceBEq, Nat.reduceBNe, vint, NdS, NdF, splice, astore] <;> with_reducible rfl)), ?_⟩
    exact Nd.enc_drop1 _
  · -- else t11
    subst b0
    repeat (refine awp_seq ?_)
    refine awp_skip ?_
    -- region 4
    repeat (refine awp_seq ?_)
    refine e_eval (by simp only [asq, as0, as1, as2, awanted, aop, aload, ajust, astore, splice, LS, SS, SX, HS, mkS_cons, mkS_nil, ↓reduceIte, eq_self', List.map_nil, beq_self_eq_true, Nat.reduceEqDiff, Nat.reduceAdd, Nat.reduceMul, Nat.reduceLT, Nat.reduceLeDiff, Nat.reducePow, Nat.reduceDiv, Nat.reduceMod, Nat.succ_ne_self, Nat.reduceBEq, Nat.reduceBNe, Tryti24, Trytf24, Trytz24, Trytp24, vint, NdS, NdF, splice, astore] <;> with_reducible rfl) (by decide) ?_
    repeat (refine awp_seq ?_)
    -- leaf 1 ret
    refine awp_ret ⟨.inr rfl, _, (ares_cell 4 24 rfl Tryti24 (by decide) (by simp only [aload, LS, SS, SX, HS, mkS_cons, mkS_nil, ↓reduceIte, eq_self', List.map_nil, beq_self_eq_true, Nat.reduceEqDiff, Nat.reduceAdd, Nat.reduceMul, Nat.reduceLT, Nat.reduceLeDiff, Nat.reducePow, Nat.reduceDiv, Nat.reduceMod, Nat.succ_ne_self, Nat.reduceBEq, Nat.reduceBNe, vint, NdS, NdF, splice, astore] <;> with_reducible rfl)), ?_⟩
    exact Nd.enc_drop1 _

theorem intNode (m : Nd) (v : Int) (h1 : -9223372036854775807 ≤ v) (h2 : v ≤ 9223372036854775807) : PC Try.prog 25 [m.enc, vint v] (intN m v).enc := by
  have hw : IntKind.i64.wrap (0 - v) = -v := by rw [wrap_id (by omega) (by omega)]; omega
  refine pc_of (N := 25) Try.func25 rfl rfl (by simp) (by simp [Bel.int, Nd.bel]) (Nd.bel _ _) ?_
  -- region 0
  repeat (refine awp_seq ?_)
  refine e_eval (by simp only [asq, as0, as1, as2, awanted, aop, LS, SS, SX, HS, mkS_cons, mkS_nil, ↓reduceIte, eq_self', List.map_nil, beq_self_eq_true, Nat.reduceEqDiff, Nat.reduceAdd, Nat.reduceMul, Nat.reduceLT, Nat.reduceLeDiff, Nat.reducePow, Nat.reduceDiv, Nat.reduceMod, Nat.succ_ne_self, Nat.reduceBEq, Nat.reduceBNe, Tryti24, Trytf24, Trytz24, Trytp24, vint, NdS, NdF, hw] <;> with_reducible rfl) (by decide) ?_
  -- region 1
  repeat (refine awp_seq ?_)
  refine e_eval (by simp only [asq, as0, as1, as2, awanted, aop, aun, ajust, abuiltin, afldAddr, aload, abuild, splice, astore, LS, SS, SX, HS, mkS_cons, mkS_nil, ↓reduceIte, eq_self', List.map_nil, beq_self_eq_true, Nat.reduceEqDiff, Nat.reduceAdd, Nat.reduceMul, Nat.reduceLT, Nat.reduceLeDiff, Nat.reducePow, Nat.reduceDiv, Nat.reduceMod, Nat.succ_ne_self, Nat.reduceBEq, Nat.reduceBNe, Tryti3, Trytz3, Trytp3, Trytk3, Tryti24, Trytf24, Trytz24, Trytp24, vint, NdS, NdF, hw] <;> with_reducible rfl) (by decide) ?_
  -- region 2
  repeat (refine awp_seq ?_)
  refine e_eval (by simp only [asq, as0, as1, as2, awanted, aop, abin, ajust, LS, SS, SX, HS, mkS_cons, mkS_nil, ↓reduceIte, eq_self', List.map_nil, beq_self_eq_true, Nat.reduceEqDiff, Nat.reduceAdd, Nat.reduceMul, Nat.reduceLT, Nat.reduceLeDiff, Nat.reducePow, Nat.reduceDiv, Nat.reduceMod, Nat.succ_ne_self, Nat.reduceBEq, Nat.reduceBNe, Tryti3, Trytz3, Trytp3, Trytk3, vint, NdS, NdF, hw] <;> with_reducible rfl) (by decide) ?_
  repeat (refine awp_seq ?_)
  refine awp_cond rfl (by simp only [LS, SS, SX, HS, mkS_cons, mkS_nil, ↓reduceIte, eq_self', List.map_nil, beq_self_eq_true, Nat.reduceEqDiff, Nat.reduceAdd, Nat.succ_ne_self, vint, NdS, NdF, hw] <;> with_reducible rfl) (fun b0 => ?_) (fun b0 => ?_)
  · -- if t16
    have hv : v < 0 := of_decide_eq_true b0
    have hm : max v (-v) = -v := by omega
    have hi : intN m v = .mk 40 0 [45] m.st m.en (-1) [.mk 27 (-v) [] m.st m.en (-1) []] := if_pos hv
    -- region 3
    repeat (refine awp_seq ?_)
    refine e_eval (by simp only [asq, as0, as1, as2, awanted, aop, afldAddr, ajust, aload, abuildS, abuild, splice, astore, LS, SS, SX, HS, mkS_cons, mkS_nil, ↓reduceIte, eq_self', List.map_nil, beq_self_eq_true, Nat.reduceEqDiff, Nat.reduceAdd, Nat.reduceMul, Nat.reduceLT, Nat.reduceLeDiff, Nat.reducePow, Nat.reduceDiv, Nat.reduceMod, Nat.succ_ne_self, Nat.reduceBEq, Nat.reduceBNe, Tryti3, Trytz3, Trytp3, Trytk3, Tryti22, Tryte22, Trytz22, Trytp22, Tryti24, Trytf24, Trytz24, Trytp24, vint, NdS, NdF, hw] <;> with_reducible rfl) (by decide) ?_
    repeat (refine awp_seq ?_)
    -- leaf 0 ret
    refine awp_ret ⟨.inr rfl, _, (ares_cell 4 24 rfl Tryti24 (by decide) (by simp only [aload, LS, SS, SX, HS, mkS_cons, mkS_nil, ↓reduceIte, eq_self', List.map_nil, beq_self_eq_true, Nat.reduceEqDiff, Nat.reduceAdd, Nat.reduceMul, Nat.reduceLT, Nat.reduceLeDiff, Nat.reducePow, Nat.reduceDiv, Nat.reduceMod, Nat.succ_ne_self, Nat.reduceBEq, Nat.reduceBNe, vint, NdS, NdF, hw] <;> with_reducible rfl)), ?_⟩
    rw [hi, hm]
    exact Nd.enc_drop1 _
  · -- else t16
    have hv : ¬ v < 0 := of_decide_eq_false b0
    have hm : max v (-v) = v := by omega
    have hi : intN m v = .mk 27 v [] m.st m.en (-1) [] := if_neg hv
    repeat (refine awp_seq ?_)
    refine awp_skip ?_
    -- region 4
    repeat (refine awp_seq ?_)
    refine e_eval (by simp only [asq, as0, as1, as2, awanted, aop, aload, ajust, astore, splice, LS, SS, SX, HS, mkS_cons, mkS_nil, ↓reduceIte, eq_self', List.map_nil, beq_self_eq_true, Nat.reduceEqDiff, Nat.reduceAdd, Nat.reduceMul, Nat.reduceLT, Nat.reduceLeDiff, Nat.reducePow, Nat.reduceDiv, Nat.reduceMod, Nat.succ_ne_self, Nat.reduceBEq, Nat.reduceBNe, Tryti24, Trytf24, Trytz24, Trytp24, vint, NdS, NdF, hw] <;> with_reducible rfl) (by decide) ?_
    repeat (refine awp_seq ?_)
    -- leaf 1 ret
    refine awp_ret ⟨.inr rfl, _, (ares_cell 4 24 rfl Tryti24 (by decide) (by simp only [aload, LS, SS, SX, HS, mkS_cons, mkS_nil, ↓reduceIte, eq_self', List.map_nil, beq_self_eq_true, Nat.reduceEqDiff, Nat.reduceAdd, Nat.reduceMul, Nat.reduceLT, Nat.reduceLeDiff, Nat.reducePow, Nat.reduceDiv, Nat.reduceMod, Nat.succ_ne_self, Nat.reduceBEq, Nat.reduceBNe, vint, NdS, NdF, hw] <;> with_reducible rfl)), ?_⟩
    rw [hi, hm]
    exact Nd.enc_drop1 _

theorem arithmetic (op : List UInt8) (a b : Int) (ha : -2147483648 ≤ a ∧ a ≤ 2147483647) (hb : -2147483648 ≤ b ∧ b ≤ 2147483647) : PC Try.prog 24 [.str op, vint a, vint b] (.tup [vint ((arith op a b).getD (arithX op a b)), .bool (arith op a b).isSome]) := by
  have w1 : IntKind.i64.wrap (a + b) = a + b := wrap_id (by omega) (by omega)
  have w2 : IntKind.i64.wrap (a - b) = a - b := wrap_id (by omega) (by omega)
  have hm := mul_rng ha hb
  have w3 : IntKind.i64.wrap (a * b) = a * b := wrap_id (by omega) (by omega)
  refine pc_of (N := 39) Try.func24 rfl rfl (by simp) (by simp [Bel.int, Bel.str]) (.tup _ (by simp [Bel.int, Bel.bool])) ?_
  -- region 0
  repeat (refine awp_seq ?_)
  refine e_eval (by simp only [asq, as0, as1, as2, awanted, aop, LS, SS, SX, HS, mkS_cons, mkS_nil, ↓reduceIte, eq_self', List.map_nil, beq_self_eq_true, Nat.reduceEqDiff, Nat.reduceAdd, Nat.reduceMul, Nat.reduceLT, Nat.reduceLeDiff, Nat.reducePow, Nat.reduceDiv, Nat.reduceMod, Nat.succ_ne_self, Nat.reduceBEq, Nat.reduceBNe, vint, NdS, NdF, w1, w2, w3] <;> with_reducible rfl) (by decide) ?_
  -- region 1
  repeat (refine awp_seq ?_)
  refine e_eval (by simp only [asq, as0, as1, as2, awanted, aop, LS, SS, SX, HS, mkS_cons, mkS_nil, ↓reduceIte, eq_self', List.map_nil, beq_self_eq_true, Nat.reduceEqDiff, Nat.reduceAdd, Nat.reduceMul, Nat.reduceLT, Nat.reduceLeDiff, Nat.reducePow, Nat.reduceDiv, Nat.reduceMod, Nat.succ_ne_self, Nat.reduceBEq, Nat.reduceBNe, vint, NdS, NdF, w1, w2, w3] <;> with_reducible rfl) (by decide) ?_
  -- region 2
  repeat (refine awp_seq ?_)
  refine e_eval (by simp only [asq, as0, as1, as2, awanted, aop, LS, SS, SX, HS, mkS_cons, mkS_nil, ↓reduceIte, eq_self', List.map_nil, beq_self_eq_true, Nat.reduceEqDiff, Nat.reduceAdd, Nat.reduceMul, Nat.reduceLT, Nat.reduceLeDiff, Nat.reducePow, Nat.reduceDiv, Nat.reduceMod, Nat.succ_ne_self, Nat.reduceBEq, Nat.reduceBNe, vint, NdS, NdF, w1, w2, w3] <;> with_reducible rfl) (by decide) ?_
  repeat (refine awp_seq ?_)
  refine awp_block ?_
  -- region 4
  repeat (refine awp_seq ?_)
  refine e_eval (by simp only [asq, as0, as1, as2, awanted, aop, abin, ajust, LS, SS, SX, HS, mkS_cons, mkS_nil, ↓reduceIte, eq_self', List.map_nil, beq_self_eq_true, Nat.reduceEqDiff, Nat.reduceAdd, Nat.reduceMul, Nat.reduceLT, Nat.reduceLeDiff, Nat.reducePow, Nat.reduceDiv, Nat.reduceMod, Nat.succ_ne_self, Nat.reduceBEq, Nat.reduceBNe, Tryti9, Trytz9, Trytp9, Tryts9, vint, NdS, NdF, w1, w2, w3] <;> with_reducible rfl) (by decide) ?_
  repeat (refine awp_seq ?_)
  refine awp_cond rfl (by simp only [LS, SS, SX, HS, mkS_cons, mkS_nil, ↓reduceIte, eq_self', List.map_nil, beq_self_eq_true, Nat.reduceEqDiff, Nat.reduceAdd, Nat.succ_ne_self, vint, NdS, NdF, w1, w2, w3] <;> with_reducible rfl) (fun b0 => ?_) (fun b0 => ?_)
  · -- if t10
    -- region 5
    repeat (refine awp_seq ?_)
    refine e_eval (by simp only [asq, as0, as1, as2, awanted, aop, abin, ajust, LS, SS, SX, HS, mkS_cons, mkS_nil, ↓reduceIte, eq_self', List.map_nil, beq_self_eq_true, Nat.reduceEqDiff, Nat.reduceAdd, Nat.reduceMul, Nat.reduceLT, Nat.reduceLeDiff, Nat.reducePow, Nat.reduceDiv, Nat.reduceMod, Nat.succ_ne_self, Nat.reduceBEq, Nat.reduceBNe, Tryti3, Trytz3, Trytp3, Trytk3, vint, NdS, NdF, w1, w2, w3] <;> with_reducible rfl) (by decide) ?_
    -- region 14
    repeat (refine awp_seq ?_)
    refine g_eval (by simp only [gsq, gs0, gs1, gs2, gcond, gop, SG, Op.operands, Call.operands, Array.toList_append, aop, abin, ajust, LS, SS, SX, HS, mkS_cons, mkS_nil, ↓reduceIte, eq_self', List.map_nil, beq_self_eq_true, Nat.reduceEqDiff, Nat.reduceAdd, Nat.reduceMul, Nat.reduceLT, Nat.reduceLeDiff, Nat.reducePow, Nat.reduceDiv, Nat.reduceMod, Nat.succ_ne_self, Nat.reduceBEq, Nat.reduceBNe, Tryti3, Trytz3, Trytp3, Trytk3, vint, NdS, NdF, w1, w2, w3] <;> with_reducible rfl) (by decide) (by repeat (first | exact Fin.base _ | with_reducible apply Fin.keep | apply Fin.drop)) ?_
    repeat (refine awp_seq ?_)
    -- leaf 0 ret
    refine awp_ret ⟨.inr rfl, _, (ares_two (.tmp 6) (.tmp 7) rfl (ares_tmp1 (by decide)) (ares_tmp1 (by decide))), ?_⟩
    simp only [LS, SS, SX, HS, mkS_cons, mkS_nil, ↓reduceIte, eq_self', List.map_nil, beq_self_eq_true, Nat.reduceEqDiff, Nat.reduceAdd, Nat.succ_ne_self, vint, NdS, NdF]
    simp_all [arith, arithX]
    try (split <;> simp_all)
  · -- else t10
    -- region 6
    repeat (refine awp_seq ?_)
    refine e_eval (by simp only [asq, as0, as1, as2, awanted, aop, abin, ajust, LS, SS, SX, HS, mkS_cons, mkS_nil, ↓reduceIte, eq_self', List.map_nil, beq_self_eq_true, Nat.reduceEqDiff, Nat.reduceAdd, Nat.reduceMul, Nat.reduceLT, Nat.reduceLeDiff, Nat.reducePow, Nat.reduceDiv, Nat.reduceMod, Nat.succ_ne_self, Nat.reduceBEq, Nat.reduceBNe, Tryti9, Trytz9, Trytp9, Tryts9, vint, NdS, NdF, w1, w2, w3] <;> with_reducible rfl) (by decide) ?_
    repeat (refine awp_seq ?_)
    refine awp_cond rfl (by simp only [LS, SS, SX, HS, mkS_cons, mkS_nil, ↓reduceIte, eq_self', List.map_nil, beq_self_eq_true, Nat.reduceEqDiff, Nat.reduceAdd, Nat.succ_ne_self, vint, NdS, NdF, w1, w2, w3] <;> with_reducible rfl) (fun b1 => ?_) (fun b1 => ?_)
    · -- if t15
      -- region 7
      repeat (refine awp_seq ?_)
      refine e_eval (by simp only [asq, as0, as1, as2, awanted, aop, abin, ajust, LS, SS, SX, HS, mkS_cons, mkS_nil, ↓reduceIte, eq_self', List.map_nil, beq_self_eq_true, Nat.reduceEqDiff, Nat.reduceAdd, Nat.reduceMul, Nat.reduceLT, Nat.reduceLeDiff, Nat.reducePow, Nat.reduceDiv, Nat.reduceMod, Nat.succ_ne_self, Nat.reduceBEq, Nat.reduceBNe, Tryti3, Trytz3, Trytp3, Trytk3, vint, NdS, NdF, w1, w2, w3] <;> with_reducible rfl) (by decide) ?_
      -- region 14
      repeat (refine awp_seq ?_)
      refine g_eval (by simp only [gsq, gs0, gs1, gs2, gcond, gop, SG, Op.operands, Call.operands, Array.toList_append, aop, abin, ajust, LS, SS, SX, HS, mkS_cons, mkS_nil, ↓reduceIte, eq_self', List.map_nil, beq_self_eq_true, Nat.reduceEqDiff, Nat.reduceAdd, Nat.reduceMul, Nat.reduceLT, Nat.reduceLeDiff, Nat.reducePow, Nat.reduceDiv, Nat.reduceMod, Nat.succ_ne_self, Nat.reduceBEq, Nat.reduceBNe, Tryti3, Trytz3, Trytp3, Trytk3, vint, NdS, NdF, w1, w2, w3] <;> with_reducible rfl) (by decide) (by repeat (first | exact Fin.base _ | with_reducible apply Fin.keep | apply Fin.drop)) ?_
      repeat (refine awp_seq ?_)
      -- leaf 1 ret
      refine awp_ret ⟨.inr rfl, _, (ares_two (.tmp 6) (.tmp 7) rfl (ares_tmp1 (by decide)) (ares_tmp1 (by decide))), ?_⟩
      simp only [LS, SS, SX, HS, mkS_cons, mkS_nil, ↓reduceIte, eq_self', List.map_nil, beq_self_eq_true, Nat.reduceEqDiff, Nat.reduceAdd, Nat.succ_ne_self, vint, NdS, NdF]
      simp_all [arith, arithX]
      try (split <;> simp_all)
    · -- else t15
      -- region 8
      repeat (refine awp_seq ?_)
      refine e_eval (by simp only [asq, as0, as1, as2, awanted, aop, abin, ajust, LS, SS, SX, HS, mkS_cons, mkS_nil, ↓reduceIte, eq_self', List.map_nil, beq_self_eq_true, Nat.reduceEqDiff, Nat.reduceAdd, Nat.reduceMul, Nat.reduceLT, Nat.reduceLeDiff, Nat.reducePow, Nat.reduceDiv, Nat.reduceMod, Nat.succ_ne_self, Nat.reduceBEq, Nat.reduceBNe, Tryti9, Trytz9, Trytp9, Tryts9, vint, NdS, NdF, w1, w2, w3] <;> with_reducible rfl) (by decide) ?_
      repeat (refine awp_seq ?_)
      refine awp_cond rfl (by simp only [LS, SS, SX, HS, mkS_cons, mkS_nil, ↓reduceIte, eq_self', List.map_nil, beq_self_eq_true, Nat.reduceEqDiff, Nat.reduceAdd, Nat.succ_ne_self, vint, NdS, NdF, w1, w2, w3] <;> with_reducible rfl) (fun b2 => ?_) (fun b2 => ?_)
      · -- if t20
        -- region 9
        repeat (refine awp_seq ?_)
        refine e_eval (by simp only [asq, as0, as1, as2, awanted, aop, abin, ajust, LS, SS, SX, HS, mkS_cons, mkS_nil, ↓reduceIte, eq_self', List.map_nil, beq_self_eq_true, Nat.reduceEqDiff, Nat.reduceAdd, Nat.reduceMul, Nat.reduceLT, Nat.reduceLeDiff, Nat.reducePow, Nat.reduceDiv, Nat.reduceMod, Nat.succ_ne_self, Nat.reduceBEq, Nat.reduceBNe, Tryti3, Trytz3, Trytp3, Trytk3, vint, NdS, NdF, w1, w2, w3] <;> with_reducible rfl) (by decide) ?_
        -- region 14
        repeat (refine awp_seq ?_)
        refine g_eval (by simp only [gsq, gs0, gs1, gs2, gcond, gop, SG, Op.operands, Call.operands, Array.toList_append, aop, abin, ajust, LS, SS, SX, HS, mkS_cons, mkS_nil, ↓reduceIte, eq_self', List.map_nil, beq_self_eq_true, Nat.reduceEqDiff, Nat.reduceAdd, Nat.reduceMul, Nat.reduceLT, Nat.reduceLeDiff, Nat.reducePow, Nat.reduceDiv, Nat.reduceMod, Nat.succ_ne_self, Nat.reduceBEq, Nat.reduceBNe, Tryti3, Trytz3, Trytp3, Trytk3, vint, NdS, NdF, w1, w2, w3] <;> with_reducible rfl) (by decide) (by repeat (first | exact Fin.base _ | with_reducible apply Fin.keep | apply Fin.drop)) ?_
        repeat (refine awp_seq ?_)
        -- leaf 2 ret
        refine awp_ret ⟨.inr rfl, _, (ares_two (.tmp 6) (.tmp 7) rfl (ares_tmp1 (by decide)) (ares_tmp1 (by decide))), ?_⟩
        simp only [LS, SS, SX, HS, mkS_cons, mkS_nil, ↓reduceIte, eq_self', List.map_nil, beq_self_eq_true, Nat.reduceEqDiff, Nat.reduceAdd, Nat.succ_ne_self, vint, NdS, NdF]
        simp_all [arith, arithX]
        try (split <;> simp_all)
      · -- else t20
        -- region 10
        repeat (refine awp_seq ?_)
        refine e_eval (by simp only [asq, as0, as1, as2, awanted, aop, abin, ajust, LS, SS, SX, HS, mkS_cons, mkS_nil, ↓reduceIte, eq_self', List.map_nil, beq_self_eq_true, Nat.reduceEqDiff, Nat.reduceAdd, Nat.reduceMul, Nat.reduceLT, Nat.reduceLeDiff, Nat.reducePow, Nat.reduceDiv, Nat.reduceMod, Nat.succ_ne_self, Nat.reduceBEq, Nat.reduceBNe, Tryti9, Trytz9, Trytp9, Tryts9, vint, NdS, NdF, w1, w2, w3] <;> with_reducible rfl) (by decide) ?_
        repeat (refine awp_seq ?_)
        refine awp_cond rfl (by simp only [LS, SS, SX, HS, mkS_cons, mkS_nil, ↓reduceIte, eq_self', List.map_nil, beq_self_eq_true, Nat.reduceEqDiff, Nat.reduceAdd, Nat.succ_ne_self, vint, NdS, NdF, w1, w2, w3] <;> with_reducible rfl) (fun b3 => ?_) (fun b3 => ?_)
        · -- if t25
          -- region 11
          repeat (refine awp_seq ?_)
          refine e_eval (by simp only [asq, as0, as1, as2, awanted, aop, abin, ajust, LS, SS, SX, HS, mkS_cons, mkS_nil, ↓reduceIte, eq_self', List.map_nil, beq_self_eq_true, Nat.reduceEqDiff, Nat.reduceAdd, Nat.reduceMul, Nat.reduceLT, Nat.reduceLeDiff, Nat.reducePow, Nat.reduceDiv, Nat.reduceMod, Nat.succ_ne_self, Nat.reduceBEq, Nat.reduceBNe, Tryti3, Trytz3, Trytp3, Trytk3, vint, NdS, NdF, w1, w2, w3] <;> with_reducible rfl) (by decide) ?_
          repeat (refine awp_seq ?_)
          refine awp_cond rfl (by simp only [LS, SS, SX, HS, mkS_cons, mkS_nil, ↓reduceIte, eq_self', List.map_nil, beq_self_eq_true, Nat.reduceEqDiff, Nat.reduceAdd, Nat.succ_ne_self, vint, NdS, NdF, w1, w2, w3] <;> with_reducible rfl) (fun b4 => ?_) (fun b4 => ?_)
          · -- if t28
            -- region 12
            repeat (refine awp_seq ?_)
            refine e_eval (by simp only [asq, as0, as1, as2, awanted, aop, LS, SS, SX, HS, mkS_cons, mkS_nil, ↓reduceIte, eq_self', List.map_nil, beq_self_eq_true, Nat.reduceEqDiff, Nat.reduceAdd, Nat.reduceMul, Nat.reduceLT, Nat.reduceLeDiff, Nat.reducePow, Nat.reduceDiv, Nat.reduceMod, Nat.succ_ne_self, Nat.reduceBEq, Nat.reduceBNe, vint, NdS, NdF, w1, w2, w3] <;> with_reducible rfl) (by decide) ?_
            repeat (refine awp_seq ?_)
            -- leaf 3 ret
            refine awp_ret ⟨.inr rfl, _, (ares_two (.tmp 6) (.tmp 7) rfl (ares_tmp1 (by decide)) (ares_tmp1 (by decide))), ?_⟩
            simp only [LS, SS, SX, HS, mkS_cons, mkS_nil, ↓reduceIte, eq_self', List.map_nil, beq_self_eq_true, Nat.reduceEqDiff, Nat.reduceAdd, Nat.succ_ne_self, vint, NdS, NdF]
            simp_all [arith, arithX]
            try (split <;> simp_all)
          · -- else t28
            have hz : (b = 0) = False := by simpa using b4
            have hd := Int.natAbs_tdiv_le_natAbs a b
            have w4 : IntKind.i64.wrap (a.tdiv b) = a.tdiv b := wrap_id (by omega) (by omega)
            repeat (refine awp_seq ?_)
            refine awp_skip ?_
            -- region 13
            repeat (refine awp_seq ?_)
            refine e_eval (by simp only [asq, as0, as1, as2, awanted, aop, abin, ajust, LS, SS, SX, HS, mkS_cons, mkS_nil, ↓reduceIte, eq_self', List.map_nil, beq_self_eq_true, Nat.reduceEqDiff, Nat.reduceAdd, Nat.reduceMul, Nat.reduceLT, Nat.reduceLeDiff, Nat.reducePow, Nat.reduceDiv, Nat.reduceMod, Nat.succ_ne_self, Nat.reduceBEq, Nat.reduceBNe, Tryti3, Trytz3, Trytp3, Trytk3, vint, NdS, NdF, w1, w2, w3, hz, w4] <;> with_reducible rfl) (by decide) ?_
            refine awp_sel [8] (by simp only [LS, SS, SX, HS, mkS_cons, mkS_nil, ↓reduceIte, eq_self', List.map_nil, beq_self_eq_true, Nat.reduceEqDiff, Nat.reduceAdd, Nat.succ_ne_self, vint, NdS, NdF, w1, w2, w3] <;> with_reducible rfl) ?_
            -- region 14
            repeat (refine awp_seq ?_)
            refine g_eval (by simp only [gsq, gs0, gs1, gs2, gcond, gop, SG, Op.operands, Call.operands, Array.toList_append, aop, abin, ajust, LS, SS, SX, HS, mkS_cons, mkS_nil, ↓reduceIte, eq_self', List.map_nil, beq_self_eq_true, Nat.reduceEqDiff, Nat.reduceAdd, Nat.reduceMul, Nat.reduceLT, Nat.reduceLeDiff, Nat.reducePow, Nat.reduceDiv, Nat.reduceMod, Nat.succ_ne_self, Nat.reduceBEq, Nat.reduceBNe, Tryti3, Trytz3, Trytp3, Trytk3, vint, NdS, NdF, w1, w2, w3] <;> with_reducible rfl) (by decide) (by repeat (first | exact Fin.base _ | with_reducible apply Fin.keep | apply Fin.drop)) ?_
            repeat (refine awp_seq ?_)
            -- leaf 4 ret
            refine awp_ret ⟨.inr rfl, _, (ares_two (.tmp 6) (.tmp 7) rfl (ares_tmp1 (by decide)) (ares_tmp1 (by decide))), ?_⟩
            simp only [LS, SS, SX, HS, mkS_cons, mkS_nil, ↓reduceIte, eq_self', List.map_nil, beq_self_eq_true, Nat.reduceEqDiff, Nat.reduceAdd, Nat.succ_ne_self, vint, NdS, NdF]
            simp_all [arith, arithX]
            try (split <;> simp_all)
        · -- else t25
          -- region 3
          repeat (refine awp_seq ?_)
          refine e_eval (by simp only [asq, as0, as1, as2, awanted, aop, LS, SS, SX, HS, mkS_cons, mkS_nil, ↓reduceIte, eq_self', List.map_nil, beq_self_eq_true, Nat.reduceEqDiff, Nat.reduceAdd, Nat.reduceMul, Nat.reduceLT, Nat.reduceLeDiff, Nat.reducePow, Nat.reduceDiv, Nat.reduceMod, Nat.succ_ne_self, Nat.reduceBEq, Nat.reduceBNe, vint, NdS, NdF, w1, w2, w3] <;> with_reducible rfl) (by decide) ?_
          repeat (refine awp_seq ?_)
          -- leaf 5 ret
          refine awp_ret ⟨.inr rfl, _, (ares_two (.tmp 6) (.tmp 7) rfl (ares_tmp1 (by decide)) (ares_tmp1 (by decide))), ?_⟩
          simp only [LS, SS, SX, HS, mkS_cons, mkS_nil, ↓reduceIte, eq_self', List.map_nil, beq_self_eq_true, Nat.reduceEqDiff, Nat.reduceAdd, Nat.succ_ne_self, vint, NdS, NdF]
          simp_all [arith, arithX]
          try (split <;> simp_all)

theorem value_nil (m : Nd) (hks : m.kids = []) : PC Try.prog 11 [m.enc] (.tup [vint (litV m).1, .bool (litV m).2.1, .bool (litV m).2.2]) := by
  refine pc_of (N := 72) Try.func11 rfl rfl (by simp) (by simp [Nd.bel]) (.tup _ (by simp [Bel.int, Bel.bool])) ?_
  -- region 0
  repeat (refine awp_seq ?_)
  refine e_eval (by simp only [asq, as0, as1, as2, awanted, aop, LS, SS, SX, HS, mkS_cons, mkS_nil, ↓reduceIte, eq_self', List.map_nil, beq_self_eq_true, Nat.reduceEqDiff, Nat.reduceAdd, Nat.reduceMul, Nat.reduceLT, Nat.reduceLeDiff, Nat.reducePow, Nat.reduceDiv, Nat.reduceMod, Nat.succ_ne_self, Nat.reduceBEq, Nat.reduceBNe, Tryti24, Trytf24, Trytz24, Trytp24, vint, NdS, NdF, Int.cast_ofNat_Int, Int.reduceLT, Int.reduceLE, Int.reduceEq, Int.toNat_one, Int.toNat_zero, Int.reduceToNat, Int.reduceNeg, decide_true, decide_false, hks, Bool.and_false, List.length_nil] <;> with_reducible rfl) (by decide) ?_
  -- region 1
  repeat (refine awp_seq ?_)
  refine e_eval (by simp only [asq, as0, as1, as2, awanted, aop, afldAddr, ajust, aload, LS, SS, SX, HS, mkS_cons, mkS_nil, ↓reduceIte, eq_self', List.map_nil, beq_self_eq_true, Nat.reduceEqDiff, Nat.reduceAdd, Nat.reduceMul, Nat.reduceLT, Nat.reduceLeDiff, Nat.reducePow, Nat.reduceDiv, Nat.reduceMod, Nat.succ_ne_self, Nat.reduceBEq, Nat.reduceBNe, Tryti3, Trytz3, Trytp3, Trytk3, Tryti24, Trytf24, Trytz24, Trytp24, vint, NdS, NdF, Int.cast_ofNat_Int, Int.reduceLT, Int.reduceLE, Int.reduceEq, Int.toNat_one, Int.toNat_zero, Int.reduceToNat, Int.reduceNeg, decide_true, decide_false, hks, Bool.and_false, List.length_nil] <;> with_reducible rfl) (by decide) ?_
  repeat (refine awp_seq ?_)
  refine awp_block ?_
  -- region 2
  repeat (refine awp_seq ?_)
  refine e_eval (by simp only [asq, as0, as1, as2, awanted, aop, abin, ajust, LS, SS, SX, HS, mkS_cons, mkS_nil, ↓reduceIte, eq_self', List.map_nil, beq_self_eq_true, Nat.reduceEqDiff, Nat.reduceAdd, Nat.reduceMul, Nat.reduceLT, Nat.reduceLeDiff, Nat.reducePow, Nat.reduceDiv, Nat.reduceMod, Nat.succ_ne_self, Nat.reduceBEq, Nat.reduceBNe, Tryti3, Trytz3, Trytp3, Trytk3, vint, NdS, NdF, Int.cast_ofNat_Int, Int.reduceLT, Int.reduceLE, Int.reduceEq, Int.toNat_one, Int.toNat_zero, Int.reduceToNat, Int.reduceNeg, decide_true, decide_false, hks, Bool.and_false, List.length_nil] <;> with_reducible rfl) (by decide) ?_
  repeat (refine awp_seq ?_)
  refine awp_cond rfl (by simp only [LS, SS, SX, HS, mkS_cons, mkS_nil, ↓reduceIte, eq_self', List.map_nil, beq_self_eq_true, Nat.reduceEqDiff, Nat.reduceAdd, Nat.succ_ne_self, vint, NdS, NdF, Int.cast_ofNat_Int, Int.reduceLT, Int.reduceLE, Int.reduceEq, Int.toNat_one, Int.toNat_zero, Int.reduceToNat, Int.reduceNeg, decide_true, decide_false, hks, Bool.and_false, List.length_nil] <;> with_reducible rfl) (fun b0 => ?_) (fun b0 => ?_)
  · -- if t7
    -- region 3
    repeat (refine awp_seq ?_)
    refine g_eval (by simp only [gsq, gs0, gs1, gs2, gcond, gop, SG, Op.operands, Call.operands, Array.toList_append, aop, afldAddr, ajust, aload, abin, LS, SS, SX, HS, mkS_cons, mkS_nil, ↓reduceIte, eq_self', List.map_nil, beq_self_eq_true, Nat.reduceEqDiff, Nat.reduceAdd, Nat.reduceMul, Nat.reduceLT, Nat.reduceLeDiff, Nat.reducePow, Nat.reduceDiv, Nat.reduceMod, Nat.succ_ne_self, Nat.reduceBEq, Nat.reduceBNe, Tryti3, Trytz3, Trytp3, Trytk3, Tryti24, Trytf24, Trytz24, Trytp24, vint, NdS, NdF, Int.cast_ofNat_Int, Int.reduceLT, Int.reduceLE, Int.reduceEq, Int.toNat_one, Int.toNat_zero, Int.reduceToNat, Int.reduceNeg, decide_true, decide_false, hks, Bool.and_false, List.length_nil] <;> with_reducible rfl) (by decide) (by repeat (first | exact Fin.base _ | with_reducible apply Fin.keep | apply Fin.drop)) ?_
    repeat (refine awp_seq ?_)
    refine awp_cond rfl (by simp only [LS, SS, SX, HS, mkS_cons, mkS_nil, ↓reduceIte, eq_self', List.map_nil, beq_self_eq_true, Nat.reduceEqDiff, Nat.reduceAdd, Nat.succ_ne_self, vint, NdS, NdF, Int.cast_ofNat_Int, Int.reduceLT, Int.reduceLE, Int.reduceEq, Int.toNat_one, Int.toNat_zero, Int.reduceToNat, Int.reduceNeg, decide_true, decide_false, hks, Bool.and_false, List.length_nil] <;> with_reducible rfl) (fun b1 => ?_) (fun b1 => ?_)
    · -- if t16
      refine awp_sel [1] (by simp only [LS, SS, SX, HS, mkS_cons, mkS_nil, ↓reduceIte, eq_self', List.map_nil, beq_self_eq_true, Nat.reduceEqDiff, Nat.reduceAdd, Nat.succ_ne_self, vint, NdS, NdF, Int.cast_ofNat_Int, Int.reduceLT, Int.reduceLE, Int.reduceEq, Int.toNat_one, Int.toNat_zero, Int.reduceToNat, Int.reduceNeg, decide_true, decide_false, hks, Bool.and_false, List.length_nil] <;> with_reducible rfl) ?_
      -- region 4
      repeat (refine awp_seq ?_)
      refine e_eval (by simp only [asq, as0, as1, as2, awanted, aop, afldAddr, ajust, aload, LS, SS, SX, HS, mkS_cons, mkS_nil, ↓reduceIte, eq_self', List.map_nil, beq_self_eq_true, Nat.reduceEqDiff, Nat.reduceAdd, Nat.reduceMul, Nat.reduceLT, Nat.reduceLeDiff, Nat.reducePow, Nat.reduceDiv, Nat.reduceMod, Nat.succ_ne_self, Nat.reduceBEq, Nat.reduceBNe, Tryti3, Trytz3, Trytp3, Trytk3, Tryti24, Trytf24, Trytz24, Trytp24, vint, NdS, NdF, Int.cast_ofNat_Int, Int.reduceLT, Int.reduceLE, Int.reduceEq, Int.toNat_one, Int.toNat_zero, Int.reduceToNat, Int.reduceNeg, decide_true, decide_false, hks, Bool.and_false, List.length_nil] <;> with_reducible rfl) (by decide) ?_
      repeat (refine awp_seq ?_)
      -- leaf 0 ret
      refine awp_ret ⟨.inr rfl, _, (ares_three (.tmp 2) (.tmp 3) (.tmp 4) rfl (ares_tmp1 (by decide)) (ares_tmp1 (by decide)) (ares_tmp1 (by decide))), ?_⟩
      simp only [LS, SS, SX, HS, mkS_cons, mkS_nil, ↓reduceIte, eq_self', List.map_nil, beq_self_eq_true, Nat.reduceEqDiff, Nat.reduceAdd, Nat.succ_ne_self, vint, NdS, NdF]
      simp_all [litV, wrap_neg]
      try (split <;> simp_all <;> omega)
    · -- else t16
      repeat (refine awp_seq ?_)
      refine awp_skip ?_
      refine awp_sel [] (by simp only [LS, SS, SX, HS, mkS_cons, mkS_nil, ↓reduceIte, eq_self', List.map_nil, beq_self_eq_true, Nat.reduceEqDiff, Nat.reduceAdd, Nat.succ_ne_self, vint, NdS, NdF, Int.cast_ofNat_Int, Int.reduceLT, Int.reduceLE, Int.reduceEq, Int.toNat_one, Int.toNat_zero, Int.reduceToNat, Int.reduceNeg, decide_true, decide_false, hks, Bool.and_false, List.length_nil] <;> with_reducible rfl) ?_
      -- region 11
      repeat (refine awp_seq ?_)
      refine e_eval (by simp only [asq, as0, as1, as2, awanted, aop, LS, SS, SX, HS, mkS_cons, mkS_nil, ↓reduceIte, eq_self', List.map_nil, beq_self_eq_true, Nat.reduceEqDiff, Nat.reduceAdd, Nat.reduceMul, Nat.reduceLT, Nat.reduceLeDiff, Nat.reducePow, Nat.reduceDiv, Nat.reduceMod, Nat.succ_ne_self, Nat.reduceBEq, Nat.reduceBNe, vint, NdS, NdF, Int.cast_ofNat_Int, Int.reduceLT, Int.reduceLE, Int.reduceEq, Int.toNat_one, Int.toNat_zero, Int.reduceToNat, Int.reduceNeg, decide_true, decide_false, hks, Bool.and_false, List.length_nil] <;> with_reducible rfl) (by decide) ?_
      repeat (refine awp_seq ?_)
      -- leaf 1 ret
      refine awp_ret ⟨.inr rfl, _, (ares_three (.tmp 2) (.tmp 3) (.tmp 4) rfl (ares_tmp1 (by decide)) (ares_tmp1 (by decide)) (ares_tmp1 (by decide))), ?_⟩
      simp only [LS, SS, SX, HS, mkS_cons, mkS_nil, ↓reduceIte, eq_self', List.map_nil, beq_self_eq_true, Nat.reduceEqDiff, Nat.reduceAdd, Nat.succ_ne_self, vint, NdS, NdF]
      simp_all [litV, wrap_neg]
      try (split <;> simp_all <;> omega)
  · -- else t7
    -- region 5
    repeat (refine awp_seq ?_)
    refine e_eval (by simp only [asq, as0, as1, as2, awanted, aop, abin, ajust, LS, SS, SX, HS, mkS_cons, mkS_nil, ↓reduceIte, eq_self', List.map_nil, beq_self_eq_true, Nat.reduceEqDiff, Nat.reduceAdd, Nat.reduceMul, Nat.reduceLT, Nat.reduceLeDiff, Nat.reducePow, Nat.reduceDiv, Nat.reduceMod, Nat.succ_ne_self, Nat.reduceBEq, Nat.reduceBNe, Tryti3, Trytz3, Trytp3, Trytk3, vint, NdS, NdF, Int.cast_ofNat_Int, Int.reduceLT, Int.reduceLE, Int.reduceEq, Int.toNat_one, Int.toNat_zero, Int.reduceToNat, Int.reduceNeg, decide_true, decide_false, hks, Bool.and_false, List.length_nil] <;> with_reducible rfl) (by decide) ?_
    repeat (refine awp_seq ?_)
    refine awp_cond rfl (by simp only [LS, SS, SX, HS, mkS_cons, mkS_nil, ↓reduceIte, eq_self', List.map_nil, beq_self_eq_true, Nat.reduceEqDiff, Nat.reduceAdd, Nat.succ_ne_self, vint, NdS, NdF, Int.cast_ofNat_Int, Int.reduceLT, Int.reduceLE, Int.reduceEq, Int.toNat_one, Int.toNat_zero, Int.reduceToNat, Int.reduceNeg, decide_true, decide_false, hks, Bool.and_false, List.length_nil] <;> with_reducible rfl) (fun b2 => ?_) (fun b2 => ?_)
    · -- if t19
      -- region 6
      repeat (refine awp_seq ?_)
      refine g_eval (by simp only [gsq, gs0, gs1, gs2, gcond, gop, SG, Op.operands, Call.operands, Array.toList_append, aop, afldAddr, ajust, aload, abin, LS, SS, SX, HS, mkS_cons, mkS_nil, ↓reduceIte, eq_self', List.map_nil, beq_self_eq_true, Nat.reduceEqDiff, Nat.reduceAdd, Nat.reduceMul, Nat.reduceLT, Nat.reduceLeDiff, Nat.reducePow, Nat.reduceDiv, Nat.reduceMod, Nat.succ_ne_self, Nat.reduceBEq, Nat.reduceBNe, Tryti3, Trytz3, Trytp3, Trytk3, Tryti24, Trytf24, Trytz24, Trytp24, vint, NdS, NdF, Int.cast_ofNat_Int, Int.reduceLT, Int.reduceLE, Int.reduceEq, Int.toNat_one, Int.toNat_zero, Int.reduceToNat, Int.reduceNeg, decide_true, decide_false, hks, Bool.and_false, List.length_nil] <;> with_reducible rfl) (by decide) (by repeat (first | exact Fin.base _ | with_reducible apply Fin.keep | apply Fin.drop)) ?_
      repeat (refine awp_seq ?_)
      refine awp_cond rfl (by simp only [LS, SS, SX, HS, mkS_cons, mkS_nil, ↓reduceIte, eq_self', List.map_nil, beq_self_eq_true, Nat.reduceEqDiff, Nat.reduceAdd, Nat.succ_ne_self, vint, NdS, NdF, Int.cast_ofNat_Int, Int.reduceLT, Int.reduceLE, Int.reduceEq, Int.toNat_one, Int.toNat_zero, Int.reduceToNat, Int.reduceNeg, decide_true, decide_false, hks, Bool.and_false, List.length_nil] <;> with_reducible rfl) (fun b3 => ?_) (fun b3 => ?_)
      · -- if t28
        refine awp_sel [1] (by simp only [LS, SS, SX, HS, mkS_cons, mkS_nil, ↓reduceIte, eq_self', List.map_nil, beq_self_eq_true, Nat.reduceEqDiff, Nat.reduceAdd, Nat.succ_ne_self, vint, NdS, NdF, Int.cast_ofNat_Int, Int.reduceLT, Int.reduceLE, Int.reduceEq, Int.toNat_one, Int.toNat_zero, Int.reduceToNat, Int.reduceNeg, decide_true, decide_false, hks, Bool.and_false, List.length_nil] <;> with_reducible rfl) ?_
        -- region 7
        repeat (refine awp_seq ?_)
        refine e_eval (by simp only [asq, as0, as1, as2, awanted, aop, afldAddr, ajust, aload, LS, SS, SX, HS, mkS_cons, mkS_nil, ↓reduceIte, eq_self', List.map_nil, beq_self_eq_true, Nat.reduceEqDiff, Nat.reduceAdd, Nat.reduceMul, Nat.reduceLT, Nat.reduceLeDiff, Nat.reducePow, Nat.reduceDiv, Nat.reduceMod, Nat.succ_ne_self, Nat.reduceBEq, Nat.reduceBNe, Tryti3, Trytz3, Trytp3, Trytk3, Tryti24, Trytf24, Trytz24, Trytp24, vint, NdS, NdF, Int.cast_ofNat_Int, Int.reduceLT, Int.reduceLE, Int.reduceEq, Int.toNat_one, Int.toNat_zero, Int.reduceToNat, Int.reduceNeg, decide_true, decide_false, hks, Bool.and_false, List.length_nil] <;> with_reducible rfl) (by decide) ?_
        repeat (refine awp_seq ?_)
        -- leaf 2 ret
        refine awp_ret ⟨.inr rfl, _, (ares_three (.tmp 2) (.tmp 3) (.tmp 4) rfl (ares_tmp1 (by decide)) (ares_tmp1 (by decide)) (ares_tmp1 (by decide))), ?_⟩
        simp only [LS, SS, SX, HS, mkS_cons, mkS_nil, ↓reduceIte, eq_self', List.map_nil, beq_self_eq_true, Nat.reduceEqDiff, Nat.reduceAdd, Nat.succ_ne_self, vint, NdS, NdF]
        simp_all [litV, wrap_neg]
        try (split <;> simp_all <;> omega)
      · -- else t28
        repeat (refine awp_seq ?_)
        refine awp_skip ?_
        refine awp_sel [] (by simp only [LS, SS, SX, HS, mkS_cons, mkS_nil, ↓reduceIte, eq_self', List.map_nil, beq_self_eq_true, Nat.reduceEqDiff, Nat.reduceAdd, Nat.succ_ne_self, vint, NdS, NdF, Int.cast_ofNat_Int, Int.reduceLT, Int.reduceLE, Int.reduceEq, Int.toNat_one, Int.toNat_zero, Int.reduceToNat, Int.reduceNeg, decide_true, decide_false, hks, Bool.and_false, List.length_nil] <;> with_reducible rfl) ?_
        -- region 11
        repeat (refine awp_seq ?_)
        refine e_eval (by simp only [asq, as0, as1, as2, awanted, aop, LS, SS, SX, HS, mkS_cons, mkS_nil, ↓reduceIte, eq_self', List.map_nil, beq_self_eq_true, Nat.reduceEqDiff, Nat.reduceAdd, Nat.reduceMul, Nat.reduceLT, Nat.reduceLeDiff, Nat.reducePow, Nat.reduceDiv, Nat.reduceMod, Nat.succ_ne_self, Nat.reduceBEq, Nat.reduceBNe, vint, NdS, NdF, Int.cast_ofNat_Int, Int.reduceLT, Int.reduceLE, Int.reduceEq, Int.toNat_one, Int.toNat_zero, Int.reduceToNat, Int.reduceNeg, decide_true, decide_false, hks, Bool.and_false, List.length_nil] <;> with_reducible rfl) (by decide) ?_
        repeat (refine awp_seq ?_)
        -- leaf 3 ret
        refine awp_ret ⟨.inr rfl, _, (ares_three (.tmp 2) (.tmp 3) (.tmp 4) rfl (ares_tmp1 (by decide)) (ares_tmp1 (by decide)) (ares_tmp1 (by decide))), ?_⟩
        simp only [LS, SS, SX, HS, mkS_cons, mkS_nil, ↓reduceIte, eq_self', List.map_nil, beq_self_eq_true, Nat.reduceEqDiff, Nat.reduceAdd, Nat.succ_ne_self, vint, NdS, NdF]
        simp_all [litV, wrap_neg]
        try (split <;> simp_all <;> omega)
    · -- else t19
      -- region 8
      repeat (refine awp_seq ?_)
      refine e_eval (by simp only [asq, as0, as1, as2, awanted, aop, abin, ajust, LS, SS, SX, HS, mkS_cons, mkS_nil, ↓reduceIte, eq_self', List.map_nil, beq_self_eq_true, Nat.reduceEqDiff, Nat.reduceAdd, Nat.reduceMul, Nat.reduceLT, Nat.reduceLeDiff, Nat.reducePow, Nat.reduceDiv, Nat.reduceMod, Nat.succ_ne_self, Nat.reduceBEq, Nat.reduceBNe, Tryti3, Trytz3, Trytp3, Trytk3, vint, NdS, NdF, Int.cast_ofNat_Int, Int.reduceLT, Int.reduceLE, Int.reduceEq, Int.toNat_one, Int.toNat_zero, Int.reduceToNat, Int.reduceNeg, decide_true, decide_false, hks, Bool.and_false, List.length_nil] <;> with_reducible rfl) (by decide) ?_
      repeat (refine awp_seq ?_)
      refine awp_cond rfl (by simp only [LS, SS, SX, HS, mkS_cons, mkS_nil, ↓reduceIte, eq_self', List.map_nil, beq_self_eq_true, Nat.reduceEqDiff, Nat.reduceAdd, Nat.succ_ne_self, vint, NdS, NdF, Int.cast_ofNat_Int, Int.reduceLT, Int.reduceLE, Int.reduceEq, Int.toNat_one, Int.toNat_zero, Int.reduceToNat, Int.reduceNeg, decide_true, decide_false, hks, Bool.and_false, List.length_nil] <;> with_reducible rfl) (fun b4 => ?_) (fun b4 => ?_)
      · -- if t31
        -- region 9
        repeat (refine awp_seq ?_)
        refine awp_region ?_
        refine aops_gstart ?_
        refine g_take 10 (by simp only [gsq, gs0, gs1, gs2, gcond, gop, SG, Op.operands, Call.operands, Array.toList_append, aop, afldAddr, ajust, aload, abin, abuiltin, LS, SS, SX, HS, mkS_cons, mkS_nil, ↓reduceIte, eq_self', List.map_nil, beq_self_eq_true, Nat.reduceEqDiff, Nat.reduceAdd, Nat.reduceMul, Nat.reduceLT, Nat.reduceLeDiff, Nat.reducePow, Nat.reduceDiv, Nat.reduceMod, Nat.succ_ne_self, Nat.reduceBEq, Nat.reduceBNe, Tryti3, Trytz3, Trytp3, Trytk3, Tryti9, Trytz9, Trytp9, Tryts9, Tryti22, Tryte22, Trytz22, Trytp22, Tryti24, Trytf24, Trytz24, Trytp24, vint, NdS, NdF, Int.cast_ofNat_Int, Int.reduceLT, Int.reduceLE, Int.reduceEq, Int.toNat_one, Int.toNat_zero, Int.reduceToNat, Int.reduceNeg, decide_true, decide_false, hks, Bool.and_false, List.length_nil] <;> with_reducible rfl) (by decide) ?_
        refine aops_gskip (r := .tup []) (by simp only [acall, gcond, SG, Op.operands, Call.operands, Array.toList_append, LS, SS, SX, HS, mkS_cons, mkS_nil, ↓reduceIte, eq_self', List.map_nil, beq_self_eq_true, Nat.reduceEqDiff, Nat.reduceAdd, Nat.reduceMul, Nat.reduceLT, Nat.reduceLeDiff, Nat.reducePow, Nat.reduceDiv, Nat.reduceMod, Nat.succ_ne_self, Nat.reduceBEq, Nat.reduceBNe, vint, NdS, NdF, hks, Bool.and_false, List.length_nil, Int.cast_ofNat_Int, Int.reduceLT, Int.reduceLE, Int.reduceEq, Int.toNat_one, Int.toNat_zero, Int.reduceToNat, Int.reduceNeg, decide_true, decide_false] <;> with_reducible rfl) ?_
        refine aops_gskip (r := .tup []) (by simp only [acall, gcond, SG, Op.operands, Call.operands, Array.toList_append, LS, SS, SX, HS, mkS_cons, mkS_nil, ↓reduceIte, eq_self', List.map_nil, beq_self_eq_true, Nat.reduceEqDiff, Nat.reduceAdd, Nat.reduceMul, Nat.reduceLT, Nat.reduceLeDiff, Nat.reducePow, Nat.reduceDiv, Nat.reduceMod, Nat.succ_ne_self, Nat.reduceBEq, Nat.reduceBNe, vint, NdS, NdF, hks, Bool.and_false, List.length_nil, Int.cast_ofNat_Int, Int.reduceLT, Int.reduceLE, Int.reduceEq, Int.toNat_one, Int.toNat_zero, Int.reduceToNat, Int.reduceNeg, decide_true, decide_false] <;> with_reducible rfl) ?_
        refine aops_gskip (r := .tup []) (by simp only [acall, gcond, SG, Op.operands, Call.operands, Array.toList_append, LS, SS, SX, HS, mkS_cons, mkS_nil, ↓reduceIte, eq_self', List.map_nil, beq_self_eq_true, Nat.reduceEqDiff, Nat.reduceAdd, Nat.reduceMul, Nat.reduceLT, Nat.reduceLeDiff, Nat.reducePow, Nat.reduceDiv, Nat.reduceMod, Nat.succ_ne_self, Nat.reduceBEq, Nat.reduceBNe, vint, NdS, NdF, hks, Bool.and_false, List.length_nil, Int.cast_ofNat_Int, Int.reduceLT, Int.reduceLE, Int.reduceEq, Int.toNat_one, Int.toNat_zero, Int.reduceToNat, Int.reduceNeg, decide_true, decide_false] <;> with_reducible rfl) ?_
        refine aops_gskip (r := .tup []) (by simp only [acall, gcond, SG, Op.operands, Call.operands, Array.toList_append, LS, SS, SX, HS, mkS_cons, mkS_nil, ↓reduceIte, eq_self', List.map_nil, beq_self_eq_true, Nat.reduceEqDiff, Nat.reduceAdd, Nat.reduceMul, Nat.reduceLT, Nat.reduceLeDiff, Nat.reducePow, Nat.reduceDiv, Nat.reduceMod, Nat.succ_ne_self, Nat.reduceBEq, Nat.reduceBNe, vint, NdS, NdF, hks, Bool.and_false, List.length_nil, Int.cast_ofNat_Int, Int.reduceLT, Int.reduceLE, Int.reduceEq, Int.toNat_one, Int.toNat_zero, Int.reduceToNat, Int.reduceNeg, decide_true, decide_false] <;> with_reducible rfl) ?_
        refine aops_gskip (r := .tup []) (by simp only [acall, gcond, SG, Op.operands, Call.operands, Array.toList_append, LS, SS, SX, HS, mkS_cons, mkS_nil, ↓reduceIte, eq_self', List.map_nil, beq_self_eq_true, Nat.reduceEqDiff, Nat.reduceAdd, Nat.reduceMul, Nat.reduceLT, Nat.reduceLeDiff, Nat.reducePow, Nat.reduceDiv, Nat.reduceMod, Nat.succ_ne_self, Nat.reduceBEq, Nat.reduceBNe, vint, NdS, NdF, hks, Bool.and_false, List.length_nil, Int.cast_ofNat_Int, Int.reduceLT, Int.reduceLE, Int.reduceEq, Int.toNat_one, Int.toNat_zero, Int.reduceToNat, Int.reduceNeg, decide_true, decide_false] <;> with_reducible rfl) ?_
        refine aops_gskip (r := .tup []) (by simp only [acall, gcond, SG, Op.operands, Call.operands, Array.toList_append, LS, SS, SX, HS, mkS_cons, mkS_nil, ↓reduceIte, eq_self', List.map_nil, beq_self_eq_true, Nat.reduceEqDiff, Nat.reduceAdd, Nat.reduceMul, Nat.reduceLT, Nat.reduceLeDiff, Nat.reducePow, Nat.reduceDiv, Nat.reduceMod, Nat.succ_ne_self, Nat.reduceBEq, Nat.reduceBNe, vint, NdS, NdF, hks, Bool.and_false, List.length_nil, Int.cast_ofNat_Int, Int.reduceLT, Int.reduceLE, Int.reduceEq, Int.toNat_one, Int.toNat_zero, Int.reduceToNat, Int.reduceNeg, decide_true, decide_false] <;> with_reducible rfl) ?_
        refine g_take 2 (by simp only [gsq, gs0, gs1, gs2, gcond, gop, SG, Op.operands, Call.operands, Array.toList_append, aop, LS, SS, SX, HS, mkS_cons, mkS_nil, ↓reduceIte, eq_self', List.map_nil, beq_self_eq_true, Nat.reduceEqDiff, Nat.reduceAdd, Nat.reduceMul, Nat.reduceLT, Nat.reduceLeDiff, Nat.reducePow, Nat.reduceDiv, Nat.reduceMod, Nat.succ_ne_self, Nat.reduceBEq, Nat.reduceBNe, vint, NdS, NdF, Int.cast_ofNat_Int, Int.reduceLT, Int.reduceLE, Int.reduceEq, Int.toNat_one, Int.toNat_zero, Int.reduceToNat, Int.reduceNeg, decide_true, decide_false, hks, Bool.and_false, List.length_nil] <;> with_reducible rfl) (by decide) ?_
        refine aops_gskip (r := .tup []) (by simp only [acall, gcond, SG, Op.operands, Call.operands, Array.toList_append, LS, SS, SX, HS, mkS_cons, mkS_nil, ↓reduceIte, eq_self', List.map_nil, beq_self_eq_true, Nat.reduceEqDiff, Nat.reduceAdd, Nat.reduceMul, Nat.reduceLT, Nat.reduceLeDiff, Nat.reducePow, Nat.reduceDiv, Nat.reduceMod, Nat.succ_ne_self, Nat.reduceBEq, Nat.reduceBNe, vint, NdS, NdF, hks, Bool.and_false, List.length_nil, Int.cast_ofNat_Int, Int.reduceLT, Int.reduceLE, Int.reduceEq, Int.toNat_one, Int.toNat_zero, Int.reduceToNat, Int.reduceNeg, decide_true, decide_false] <;> with_reducible rfl) ?_
        refine aops_gskip (r := .tup []) (by simp only [acall, gcond, SG, Op.operands, Call.operands, Array.toList_append, LS, SS, SX, HS, mkS_cons, mkS_nil, ↓reduceIte, eq_self', List.map_nil, beq_self_eq_true, Nat.reduceEqDiff, Nat.reduceAdd, Nat.reduceMul, Nat.reduceLT, Nat.reduceLeDiff, Nat.reducePow, Nat.reduceDiv, Nat.reduceMod, Nat.succ_ne_self, Nat.reduceBEq, Nat.reduceBNe, vint, NdS, NdF, hks, Bool.and_false, List.length_nil, Int.cast_ofNat_Int, Int.reduceLT, Int.reduceLE, Int.reduceEq, Int.toNat_one, Int.toNat_zero, Int.reduceToNat, Int.reduceNeg, decide_true, decide_false] <;> with_reducible rfl) ?_
        refine aops_gskip (r := .tup []) (by simp only [acall, gcond, SG, Op.operands, Call.operands, Array.toList_append, LS, SS, SX, HS, mkS_cons, mkS_nil, ↓reduceIte, eq_self', List.map_nil, beq_self_eq_true, Nat.reduceEqDiff, Nat.reduceAdd, Nat.reduceMul, Nat.reduceLT, Nat.reduceLeDiff, Nat.reducePow, Nat.reduceDiv, Nat.reduceMod, Nat.succ_ne_self, Nat.reduceBEq, Nat.reduceBNe, vint, NdS, NdF, hks, Bool.and_false, List.length_nil, Int.cast_ofNat_Int, Int.reduceLT, Int.reduceLE, Int.reduceEq, Int.toNat_one, Int.toNat_zero, Int.reduceToNat, Int.reduceNeg, decide_true, decide_false] <;> with_reducible rfl) ?_
        refine aops_gskip (r := .tup []) (by simp only [acall, gcond, SG, Op.operands, Call.operands, Array.toList_append, LS, SS, SX, HS, mkS_cons, mkS_nil, ↓reduceIte, eq_self', List.map_nil, beq_self_eq_true, Nat.reduceEqDiff, Nat.reduceAdd, Nat.reduceMul, Nat.reduceLT, Nat.reduceLeDiff, Nat.reducePow, Nat.reduceDiv, Nat.reduceMod, Nat.succ_ne_self, Nat.reduceBEq, Nat.reduceBNe, vint, NdS, NdF, hks, Bool.and_false, List.length_nil, Int.cast_ofNat_Int, Int.reduceLT, Int.reduceLE, Int.reduceEq, Int.toNat_one, Int.toNat_zero, Int.reduceToNat, Int.reduceNeg, decide_true, decide_false] <;> with_reducible rfl) ?_
        refine aops_gskip (r := .tup []) (by simp only [acall, gcond, SG, Op.operands, Call.operands, Array.toList_append, LS, SS, SX, HS, mkS_cons, mkS_nil, ↓reduceIte, eq_self', List.map_nil, beq_self_eq_true, Nat.reduceEqDiff, Nat.reduceAdd, Nat.reduceMul, Nat.reduceLT, Nat.reduceLeDiff, Nat.reducePow, Nat.reduceDiv, Nat.reduceMod, Nat.succ_ne_self, Nat.reduceBEq, Nat.reduceBNe, vint, NdS, NdF, hks, Bool.and_false, List.length_nil, Int.cast_ofNat_Int, Int.reduceLT, Int.reduceLE, Int.reduceEq, Int.toNat_one, Int.toNat_zero, Int.reduceToNat, Int.reduceNeg, decide_true, decide_false] <;> with_reducible rfl) ?_
        refine aops_gskip (r := .tup []) (by simp only [acall, gcond, SG, Op.operands, Call.operands, Array.toList_append, LS, SS, SX, HS, mkS_cons, mkS_nil, ↓reduceIte, eq_self', List.map_nil, beq_self_eq_true, Nat.reduceEqDiff, Nat.reduceAdd, Nat.reduceMul, Nat.reduceLT, Nat.reduceLeDiff, Nat.reducePow, Nat.reduceDiv, Nat.reduceMod, Nat.succ_ne_self, Nat.reduceBEq, Nat.reduceBNe, vint, NdS, NdF, hks, Bool.and_false, List.length_nil, Int.cast_ofNat_Int, Int.reduceLT, Int.reduceLE, Int.reduceEq, Int.toNat_one, Int.toNat_zero, Int.reduceToNat, Int.reduceNeg, decide_true, decide_false] <;> with_reducible rfl) ?_
        refine g_take 2 (by simp only [gsq, gs0, gs1, gs2, gcond, gop, SG, Op.operands, Call.operands, Array.toList_append, aop, LS, SS, SX, HS, mkS_cons, mkS_nil, ↓reduceIte, eq_self', List.map_nil, beq_self_eq_true, Nat.reduceEqDiff, Nat.reduceAdd, Nat.reduceMul, Nat.reduceLT, Nat.reduceLeDiff, Nat.reducePow, Nat.reduceDiv, Nat.reduceMod, Nat.succ_ne_self, Nat.reduceBEq, Nat.reduceBNe, vint, NdS, NdF, Int.cast_ofNat_Int, Int.reduceLT, Int.reduceLE, Int.reduceEq, Int.toNat_one, Int.toNat_zero, Int.reduceToNat, Int.reduceNeg, decide_true, decide_false, hks, Bool.and_false, List.length_nil] <;> with_reducible rfl) (by decide) ?_
        refine aops_gskip (r := .tup []) (by simp only [acall, gcond, SG, Op.operands, Call.operands, Array.toList_append, LS, SS, SX, HS, mkS_cons, mkS_nil, ↓reduceIte, eq_self', List.map_nil, beq_self_eq_true, Nat.reduceEqDiff, Nat.reduceAdd, Nat.reduceMul, Nat.reduceLT, Nat.reduceLeDiff, Nat.reducePow, Nat.reduceDiv, Nat.reduceMod, Nat.succ_ne_self, Nat.reduceBEq, Nat.reduceBNe, vint, NdS, NdF, hks, Bool.and_false, List.length_nil, Int.cast_ofNat_Int, Int.reduceLT, Int.reduceLE, Int.reduceEq, Int.toNat_one, Int.toNat_zero, Int.reduceToNat, Int.reduceNeg, decide_true, decide_false] <;> with_reducible rfl) ?_
        refine aops_gskip (r := .tup []) (by simp only [acall, gcond, SG, Op.operands, Call.operands, Array.toList_append, LS, SS, SX, HS, mkS_cons, mkS_nil, ↓reduceIte, eq_self', List.map_nil, beq_self_eq_true, Nat.reduceEqDiff, Nat.reduceAdd, Nat.reduceMul, Nat.reduceLT, Nat.reduceLeDiff, Nat.reducePow, Nat.reduceDiv, Nat.reduceMod, Nat.succ_ne_self, Nat.reduceBEq, Nat.reduceBNe, vint, NdS, NdF, hks, Bool.and_false, List.length_nil, Int.cast_ofNat_Int, Int.reduceLT, Int.reduceLE, Int.reduceEq, Int.toNat_one, Int.toNat_zero, Int.reduceToNat, Int.reduceNeg, decide_true, decide_false] <;> with_reducible rfl) ?_
        refine aops_gskip (r := .tup []) (by simp only [acall, gcond, SG, Op.operands, Call.operands, Array.toList_append, LS, SS, SX, HS, mkS_cons, mkS_nil, ↓reduceIte, eq_self', List.map_nil, beq_self_eq_true, Nat.reduceEqDiff, Nat.reduceAdd, Nat.reduceMul, Nat.reduceLT, Nat.reduceLeDiff, Nat.reducePow, Nat.reduceDiv, Nat.reduceMod, Nat.succ_ne_self, Nat.reduceBEq, Nat.reduceBNe, vint, NdS, NdF, hks, Bool.and_false, List.length_nil, Int.cast_ofNat_Int, Int.reduceLT, Int.reduceLE, Int.reduceEq, Int.toNat_one, Int.toNat_zero, Int.reduceToNat, Int.reduceNeg, decide_true, decide_false] <;> with_reducible rfl) ?_
        refine aops_gskip (r := .tup []) (by simp only [acall, gcond, SG, Op.operands, Call.operands, Array.toList_append, LS, SS, SX, HS, mkS_cons, mkS_nil, ↓reduceIte, eq_self', List.map_nil, beq_self_eq_true, Nat.reduceEqDiff, Nat.reduceAdd, Nat.reduceMul, Nat.reduceLT, Nat.reduceLeDiff, Nat.reducePow, Nat.reduceDiv, Nat.reduceMod, Nat.succ_ne_self, Nat.reduceBEq, Nat.reduceBNe, vint, NdS, NdF, hks, Bool.and_false, List.length_nil, Int.cast_ofNat_Int, Int.reduceLT, Int.reduceLE, Int.reduceEq, Int.toNat_one, Int.toNat_zero, Int.reduceToNat, Int.reduceNeg, decide_true, decide_false] <;> with_reducible rfl) ?_
        refine aops_gskip (r := .tup []) (by simp only [acall, gcond, SG, Op.operands, Call.operands, Array.toList_append, LS, SS, SX, HS, mkS_cons, mkS_nil, ↓reduceIte, eq_self', List.map_nil, beq_self_eq_true, Nat.reduceEqDiff, Nat.reduceAdd, Nat.reduceMul, Nat.reduceLT, Nat.reduceLeDiff, Nat.reducePow, Nat.reduceDiv, Nat.reduceMod, Nat.succ_ne_self, Nat.reduceBEq, Nat.reduceBNe, vint, NdS, NdF, hks, Bool.and_false, List.length_nil, Int.cast_ofNat_Int, Int.reduceLT, Int.reduceLE, Int.reduceEq, Int.toNat_one, Int.toNat_zero, Int.reduceToNat, Int.reduceNeg, decide_true, decide_false] <;> with_reducible rfl) ?_
        refine aops_gskip (r := .tup []) (by simp only [acall, gcond, SG, Op.operands, Call.operands, Array.toList_append, LS, SS, SX, HS, mkS_cons, mkS_nil, ↓reduceIte, eq_self', List.map_nil, beq_self_eq_true, Nat.reduceEqDiff, Nat.reduceAdd, Nat.reduceMul, Nat.reduceLT, Nat.reduceLeDiff, Nat.reducePow, Nat.reduceDiv, Nat.reduceMod, Nat.succ_ne_self, Nat.reduceBEq, Nat.reduceBNe, vint, NdS, NdF, hks, Bool.and_false, List.length_nil, Int.cast_ofNat_Int, Int.reduceLT, Int.reduceLE, Int.reduceEq, Int.toNat_one, Int.toNat_zero, Int.reduceToNat, Int.reduceNeg, decide_true, decide_false] <;> with_reducible rfl) ?_
        refine g_end (by simp only [gsq, gs0, gs1, gs2, gcond, gop, SG, Op.operands, Call.operands, Array.toList_append, aop, LS, SS, SX, HS, mkS_cons, mkS_nil, ↓reduceIte, eq_self', List.map_nil, beq_self_eq_true, Nat.reduceEqDiff, Nat.reduceAdd, Nat.reduceMul, Nat.reduceLT, Nat.reduceLeDiff, Nat.reducePow, Nat.reduceDiv, Nat.reduceMod, Nat.succ_ne_self, Nat.reduceBEq, Nat.reduceBNe, vint, NdS, NdF, Int.cast_ofNat_Int, Int.reduceLT, Int.reduceLE, Int.reduceEq, Int.toNat_one, Int.toNat_zero, Int.reduceToNat, Int.reduceNeg, decide_true, decide_false, hks, Bool.and_false, List.length_nil] <;> with_reducible rfl) (by decide) (by repeat (first | exact Fin.base _ | with_reducible apply Fin.keep | apply Fin.drop)) ?_
        repeat (refine awp_seq ?_)
        refine awp_cond_false rfl (by simp only [LS, SS, SX, HS, mkS_cons, mkS_nil, ↓reduceIte, eq_self', List.map_nil, beq_self_eq_true, Nat.reduceEqDiff, Nat.reduceAdd, Nat.succ_ne_self, vint, NdS, NdF, Int.cast_ofNat_Int, Int.reduceLT, Int.reduceLE, Int.reduceEq, Int.toNat_one, Int.toNat_zero, Int.reduceToNat, Int.reduceNeg, decide_true, decide_false, hks, Bool.and_false, List.length_nil] <;> with_reducible rfl) ?_
        repeat (refine awp_seq ?_)
        refine awp_skip ?_
        refine awp_sel [] (by simp only [LS, SS, SX, HS, mkS_cons, mkS_nil, ↓reduceIte, eq_self', List.map_nil, beq_self_eq_true, Nat.reduceEqDiff, Nat.reduceAdd, Nat.succ_ne_self, vint, NdS, NdF, Int.cast_ofNat_Int, Int.reduceLT, Int.reduceLE, Int.reduceEq, Int.toNat_one, Int.toNat_zero, Int.reduceToNat, Int.reduceNeg, decide_true, decide_false, hks, Bool.and_false, List.length_nil] <;> with_reducible rfl) ?_
        -- region 11
        repeat (refine awp_seq ?_)
        refine e_eval (by simp only [asq, as0, as1, as2, awanted, aop, LS, SS, SX, HS, mkS_cons, mkS_nil, ↓reduceIte, eq_self', List.map_nil, beq_self_eq_true, Nat.reduceEqDiff, Nat.reduceAdd, Nat.reduceMul, Nat.reduceLT, Nat.reduceLeDiff, Nat.reducePow, Nat.reduceDiv, Nat.reduceMod, Nat.succ_ne_self, Nat.reduceBEq, Nat.reduceBNe, vint, NdS, NdF, Int.cast_ofNat_Int, Int.reduceLT, Int.reduceLE, Int.reduceEq, Int.toNat_one, Int.toNat_zero, Int.reduceToNat, Int.reduceNeg, decide_true, decide_false, hks, Bool.and_false, List.length_nil] <;> with_reducible rfl) (by decide) ?_
        repeat (refine awp_seq ?_)
        -- leaf 4 ret
        refine awp_ret ⟨.inr rfl, _, (ares_three (.tmp 2) (.tmp 3) (.tmp 4) rfl (ares_tmp1 (by decide)) (ares_tmp1 (by decide)) (ares_tmp1 (by decide))), ?_⟩
        simp only [LS, SS, SX, HS, mkS_cons, mkS_nil, ↓reduceIte, eq_self', List.map_nil, beq_self_eq_true, Nat.reduceEqDiff, Nat.reduceAdd, Nat.succ_ne_self, vint, NdS, NdF]
        simp_all [litV, wrap_neg]
        try (split <;> simp_all <;> omega)
      · -- else t31
        repeat (refine awp_seq ?_)
        refine awp_skip ?_
        -- region 11
        repeat (refine awp_seq ?_)
        refine e_eval (by simp only [asq, as0, as1, as2, awanted, aop, LS, SS, SX, HS, mkS_cons, mkS_nil, ↓reduceIte, eq_self', List.map_nil, beq_self_eq_true, Nat.reduceEqDiff, Nat.reduceAdd, Nat.reduceMul, Nat.reduceLT, Nat.reduceLeDiff, Nat.reducePow, Nat.reduceDiv, Nat.reduceMod, Nat.succ_ne_self, Nat.reduceBEq, Nat.reduceBNe, vint, NdS, NdF, Int.cast_ofNat_Int, Int.reduceLT, Int.reduceLE, Int.reduceEq, Int.toNat_one, Int.toNat_zero, Int.reduceToNat, Int.reduceNeg, decide_true, decide_false, hks, Bool.and_false, List.length_nil] <;> with_reducible rfl) (by decide) ?_
        repeat (refine awp_seq ?_)
        -- leaf 5 ret
        refine awp_ret ⟨.inr rfl, _, (ares_three (.tmp 2) (.tmp 3) (.tmp 4) rfl (ares_tmp1 (by decide)) (ares_tmp1 (by decide)) (ares_tmp1 (by decide))), ?_⟩
        simp only [LS, SS, SX, HS, mkS_cons, mkS_nil, ↓reduceIte, eq_self', List.map_nil, beq_self_eq_true, Nat.reduceEqDiff, Nat.reduceAdd, Nat.succ_ne_self, vint, NdS, NdF]
        simp_all [litV, wrap_neg]
        try (split <;> simp_all <;> omega)

theorem value_two (m : Nd) (c d : Nd) (ds : List Nd) (hks : m.kids = c :: d :: ds) : PC Try.prog 11 [m.enc] (.tup [vint (litV m).1, .bool (litV m).2.1, .bool (litV m).2.2]) := by
  have hl0 : decide (((ds.length + 1 + 1 : Nat) : Int) = 1) = false := decide_eq_false (by omega)
  refine pc_of (N := 72) Try.func11 rfl rfl (by simp) (by simp [Nd.bel]) (.tup _ (by simp [Bel.int, Bel.bool])) ?_
  -- region 0
  repeat (refine awp_seq ?_)
  refine e_eval (by simp only [asq, as0, as1, as2, awanted, aop, LS, SS, SX, HS, mkS_cons, mkS_nil, ↓reduceIte, eq_self', List.map_nil, beq_self_eq_true, Nat.reduceEqDiff, Nat.reduceAdd, Nat.reduceMul, Nat.reduceLT, Nat.reduceLeDiff, Nat.reducePow, Nat.reduceDiv, Nat.reduceMod, Nat.succ_ne_self, Nat.reduceBEq, Nat.reduceBNe, Tryti24, Trytf24, Trytz24, Trytp24, vint, NdS, NdF, Int.cast_ofNat_Int, Int.reduceLT, Int.reduceLE, Int.reduceEq, Int.toNat_one, Int.toNat_zero, Int.reduceToNat, Int.reduceNeg, decide_true, decide_false, hks, hl0, Bool.and_false] <;> with_reducible rfl) (by decide) ?_
  -- region 1
  repeat (refine awp_seq ?_)
  refine e_eval (by simp only [asq, as0, as1, as2, awanted, aop, afldAddr, ajust, aload, LS, SS, SX, HS, mkS_cons, mkS_nil, ↓reduceIte, eq_self', List.map_nil, beq_self_eq_true, Nat.reduceEqDiff, Nat.reduceAdd, Nat.reduceMul, Nat.reduceLT, Nat.reduceLeDiff, Nat.reducePow, Nat.reduceDiv, Nat.reduceMod, Nat.succ_ne_self, Nat.reduceBEq, Nat.reduceBNe, Tryti3, Trytz3, Trytp3, Trytk3, Tryti24, Trytf24, Trytz24, Trytp24, vint, NdS, NdF, Int.cast_ofNat_Int, Int.reduceLT, Int.reduceLE, Int.reduceEq, Int.toNat_one, Int.toNat_zero, Int.reduceToNat, Int.reduceNeg, decide_true, decide_false, hks, hl0, Bool.and_false] <;> with_reducible rfl) (by decide) ?_
  repeat (refine awp_seq ?_)
  refine awp_block ?_
  -- region 2
  repeat (refine awp_seq ?_)
  refine e_eval (by simp only [asq, as0, as1, as2, awanted, aop, abin, ajust, LS, SS, SX, HS, mkS_cons, mkS_nil, ↓reduceIte, eq_self', List.map_nil, beq_self_eq_true, Nat.reduceEqDiff, Nat.reduceAdd, Nat.reduceMul, Nat.reduceLT, Nat.reduceLeDiff, Nat.reducePow, Nat.reduceDiv, Nat.reduceMod, Nat.succ_ne_self, Nat.reduceBEq, Nat.reduceBNe, Tryti3, Trytz3, Trytp3, Trytk3, vint, NdS, NdF, Int.cast_ofNat_Int, Int.reduceLT, Int.reduceLE, Int.reduceEq, Int.toNat_one, Int.toNat_zero, Int.reduceToNat, Int.reduceNeg, decide_true, decide_false, hks, hl0, Bool.and_false] <;> with_reducible rfl) (by decide) ?_
  repeat (refine awp_seq ?_)
  refine awp_cond rfl (by simp only [LS, SS, SX, HS, mkS_cons, mkS_nil, ↓reduceIte, eq_self', List.map_nil, beq_self_eq_true, Nat.reduceEqDiff, Nat.reduceAdd, Nat.succ_ne_self, vint, NdS, NdF, Int.cast_ofNat_Int, Int.reduceLT, Int.reduceLE, Int.reduceEq, Int.toNat_one, Int.toNat_zero, Int.reduceToNat, Int.reduceNeg, decide_true, decide_false, hks, hl0, Bool.and_false] <;> with_reducible rfl) (fun b0 => ?_) (fun b0 => ?_)
  · -- if t7
    -- region 3
    repeat (refine awp_seq ?_)
    refine g_eval (by simp only [gsq, gs0, gs1, gs2, gcond, gop, SG, Op.operands, Call.operands, Array.toList_append, aop, afldAddr, ajust, aload, abin, LS, SS, SX, HS, mkS_cons, mkS_nil, ↓reduceIte, eq_self', List.map_nil, beq_self_eq_true, Nat.reduceEqDiff, Nat.reduceAdd, Nat.reduceMul, Nat.reduceLT, Nat.reduceLeDiff, Nat.reducePow, Nat.reduceDiv, Nat.reduceMod, Nat.succ_ne_self, Nat.reduceBEq, Nat.reduceBNe, Tryti3, Trytz3, Trytp3, Trytk3, Tryti24, Trytf24, Trytz24, Trytp24, vint, NdS, NdF, Int.cast_ofNat_Int, Int.reduceLT, Int.reduceLE, Int.reduceEq, Int.toNat_one, Int.toNat_zero, Int.reduceToNat, Int.reduceNeg, decide_true, decide_false, hks, hl0, Bool.and_false] <;> with_reducible rfl) (by decide) (by repeat (first | exact Fin.base _ | with_reducible apply Fin.keep | apply Fin.drop)) ?_
    repeat (refine awp_seq ?_)
    refine awp_cond rfl (by simp only [LS, SS, SX, HS, mkS_cons, mkS_nil, ↓reduceIte, eq_self', List.map_nil, beq_self_eq_true, Nat.reduceEqDiff, Nat.reduceAdd, Nat.succ_ne_self, vint, NdS, NdF, Int.cast_ofNat_Int, Int.reduceLT, Int.reduceLE, Int.reduceEq, Int.toNat_one, Int.toNat_zero, Int.reduceToNat, Int.reduceNeg, decide_true, decide_false, hks, hl0, Bool.and_false] <;> with_reducible rfl) (fun b1 => ?_) (fun b1 => ?_)
    · -- if t16
      refine awp_sel [1] (by simp only [LS, SS, SX, HS, mkS_cons, mkS_nil, ↓reduceIte, eq_self', List.map_nil, beq_self_eq_true, Nat.reduceEqDiff, Nat.reduceAdd, Nat.succ_ne_self, vint, NdS, NdF, Int.cast_ofNat_Int, Int.reduceLT, Int.reduceLE, Int.reduceEq, Int.toNat_one, Int.toNat_zero, Int.reduceToNat, Int.reduceNeg, decide_true, decide_false, hks, hl0, Bool.and_false] <;> with_reducible rfl) ?_
      -- region 4
      repeat (refine awp_seq ?_)
      refine e_eval (by simp only [asq, as0, as1, as2, awanted, aop, afldAddr, ajust, aload, LS, SS, SX, HS, mkS_cons, mkS_nil, ↓reduceIte, eq_self', List.map_nil, beq_self_eq_true, Nat.reduceEqDiff, Nat.reduceAdd, Nat.reduceMul, Nat.reduceLT, Nat.reduceLeDiff, Nat.reducePow, Nat.reduceDiv, Nat.reduceMod, Nat.succ_ne_self, Nat.reduceBEq, Nat.reduceBNe, Tryti3, Trytz3, Trytp3, Trytk3, Tryti24, Trytf24, Trytz24, Trytp24, vint, NdS, NdF, Int.cast_ofNat_Int, Int.reduceLT, Int.reduceLE, Int.reduceEq, Int.toNat_one, Int.toNat_zero, Int.reduceToNat, Int.reduceNeg, decide_true, decide_false, hks, hl0, Bool.and_false] <;> with_reducible rfl) (by decide) ?_
      repeat (refine awp_seq ?_)
      -- leaf 0 ret
      refine awp_ret ⟨.inr rfl, _, (ares_three (.tmp 2) (.tmp 3) (.tmp 4) rfl (ares_tmp1 (by decide)) (ares_tmp1 (by decide)) (ares_tmp1 (by decide))), ?_⟩
      simp only [LS, SS, SX, HS, mkS_cons, mkS_nil, ↓reduceIte, eq_self', List.map_nil, beq_self_eq_true, Nat.reduceEqDiff, Nat.reduceAdd, Nat.succ_ne_self, vint, NdS, NdF]
      simp_all [litV, wrap_neg]
      try (split <;> simp_all <;> omega)
    · -- else t16
      repeat (refine awp_seq ?_)
      refine awp_skip ?_
      refine awp_sel [] (by simp only [LS, SS, SX, HS, mkS_cons, mkS_nil, ↓reduceIte, eq_self', List.map_nil, beq_self_eq_true, Nat.reduceEqDiff, Nat.reduceAdd, Nat.succ_ne_self, vint, NdS, NdF, Int.cast_ofNat_Int, Int.reduceLT, Int.reduceLE, Int.reduceEq, Int.toNat_one, Int.toNat_zero, Int.reduceToNat, Int.reduceNeg, decide_true, decide_false, hks, hl0, Bool.and_false] <;> with_reducible rfl) ?_
      -- region 11
      repeat (refine awp_seq ?_)
      refine e_eval (by simp only [asq, as0, as1, as2, awanted, aop, LS, SS, SX, HS, mkS_cons, mkS_nil, ↓reduceIte, eq_self', List.map_nil, beq_self_eq_true, Nat.reduceEqDiff, Nat.reduceAdd, Nat.reduceMul, Nat.reduceLT, Nat.reduceLeDiff, Nat.reducePow, Nat.reduceDiv, Nat.reduceMod, Nat.succ_ne_self, Nat.reduceBEq, Nat.reduceBNe, vint, NdS, NdF, Int.cast_ofNat_Int, Int.reduceLT, Int.reduceLE, Int.reduceEq, Int.toNat_one, Int.toNat_zero, Int.reduceToNat, Int.reduceNeg, decide_true, decide_false, hks, hl0, Bool.and_false] <;> with_reducible rfl) (by decide) ?_
      repeat (refine awp_seq ?_)
      -- leaf 1 ret
      refine awp_ret ⟨.inr rfl, _, (ares_three (.tmp 2) (.tmp 3) (.tmp 4) rfl (ares_tmp1 (by decide)) (ares_tmp1 (by decide)) (ares_tmp1 (by decide))), ?_⟩
      simp only [LS, SS, SX, HS, mkS_cons, mkS_nil, ↓reduceIte, eq_self', List.map_nil, beq_self_eq_true, Nat.reduceEqDiff, Nat.reduceAdd, Nat.succ_ne_self, vint, NdS, NdF]
      simp_all [litV, wrap_neg]
      try (split <;> simp_all <;> omega)
  · -- else t7
    -- region 5
    repeat (refine awp_seq ?_)
    refine e_eval (by simp only [asq, as0, as1, as2, awanted, aop, abin, ajust, LS, SS, SX, HS, mkS_cons, mkS_nil, ↓reduceIte, eq_self', List.map_nil, beq_self_eq_true, Nat.reduceEqDiff, Nat.reduceAdd, Nat.reduceMul, Nat.reduceLT, Nat.reduceLeDiff, Nat.reducePow, Nat.reduceDiv, Nat.reduceMod, Nat.succ_ne_self, Nat.reduceBEq, Nat.reduceBNe, Tryti3, Trytz3, Trytp3, Trytk3, vint, NdS, NdF, Int.cast_ofNat_Int, Int.reduceLT, Int.reduceLE, Int.reduceEq, Int.toNat_one, Int.toNat_zero, Int.reduceToNat, Int.reduceNeg, decide_true, decide_false, hks, hl0, Bool.and_false] <;> with_reducible rfl) (by decide) ?_
    repeat (refine awp_seq ?_)
    refine awp_cond rfl (by simp only [LS, SS, SX, HS, mkS_cons, mkS_nil, ↓reduceIte, eq_self', List.map_nil, beq_self_eq_true, Nat.reduceEqDiff, Nat.reduceAdd, Nat.succ_ne_self, vint, NdS, NdF, Int.cast_ofNat_Int, Int.reduceLT, Int.reduceLE, Int.reduceEq, Int.toNat_one, Int.toNat_zero, Int.reduceToNat, Int.reduceNeg, decide_true, decide_false, hks, hl0, Bool.and_false] <;> with_reducible rfl) (fun b2 => ?_) (fun b2 => ?_)
    · -- if t19
      -- region 6
      repeat (refine awp_seq ?_)
      refine g_eval (by simp only [gsq, gs0, gs1, gs2, gcond, gop, SG, Op.operands, Call.operands, Array.toList_append, aop, afldAddr, ajust, aload, abin, LS, SS, SX, HS, mkS_cons, mkS_nil, ↓reduceIte, eq_self', List.map_nil, beq_self_eq_true, Nat.reduceEqDiff, Nat.reduceAdd, Nat.reduceMul, Nat.reduceLT, Nat.reduceLeDiff, Nat.reducePow, Nat.reduceDiv, Nat.reduceMod, Nat.succ_ne_self, Nat.reduceBEq, Nat.reduceBNe, Tryti3, Trytz3, Trytp3, Trytk3, Tryti24, Trytf24, Trytz24, Trytp24, vint, NdS, NdF, Int.cast_ofNat_Int, Int.reduceLT, Int.reduceLE, Int.reduceEq, Int.toNat_one, Int.toNat_zero, Int.reduceToNat, Int.reduceNeg, decide_true, decide_false, hks, hl0, Bool.and_false] <;> with_reducible rfl) (by decide) (by repeat (first | exact Fin.base _ | with_reducible apply Fin.keep | apply Fin.drop)) ?_
      repeat (refine awp_seq ?_)
      refine awp_cond rfl (by simp only [LS, SS, SX, HS, mkS_cons, mkS_nil, ↓reduceIte, eq_self', List.map_nil, beq_self_eq_true, Nat.reduceEqDiff, Nat.reduceAdd, Nat.succ_ne_self, vint, NdS, NdF, Int.cast_ofNat_Int, Int.reduceLT, Int.reduceLE, Int.reduceEq, Int.toNat_one, Int.toNat_zero, Int.reduceToNat, Int.reduceNeg, decide_true, decide_false, hks, hl0, Bool.and_false] <;> with_reducible rfl) (fun b3 => ?_) (fun b3 => ?_)
      · -- if t28
        refine awp_sel [1] (by simp only [LS, SS, SX, HS, mkS_cons, mkS_nil, ↓reduceIte, eq_self', List.map_nil, beq_self_eq_true, Nat.reduceEqDiff, Nat.reduceAdd, Nat.succ_ne_self, vint, NdS, NdF, Int.cast_ofNat_Int, Int.reduceLT, Int.reduceLE, Int.reduceEq, Int.toNat_one, Int.toNat_zero, Int.reduceToNat, Int.reduceNeg, decide_true, decide_false, hks, hl0, Bool.and_false] <;> with_reducible rfl) ?_
        -- region 7
        repeat (refine awp_seq ?_)
        refine e_eval (by simp only [asq, as0, as1, as2, awanted, aop, afldAddr, ajust, aload, LS, SS, SX, HS, mkS_cons, mkS_nil, ↓reduceIte, eq_self', List.map_nil, beq_self_eq_true, Nat.reduceEqDiff, Nat.reduceAdd, Nat.reduceMul, Nat.reduceLT, Nat.reduceLeDiff, Nat.reducePow, Nat.reduceDiv, Nat.reduceMod, Nat.succ_ne_self, Nat.reduceBEq, Nat.reduceBNe, Tryti3, Trytz3, Trytp3, Trytk3, Tryti24, Trytf24, Trytz24, Trytp24, vint, NdS, NdF, Int.cast_ofNat_Int, Int.reduceLT, Int.reduceLE, Int.reduceEq, Int.toNat_one, Int.toNat_zero, Int.reduceToNat, Int.reduceNeg, decide_true, decide_false, hks, hl0, Bool.and_false] <;> with_reducible rfl) (by decide) ?_
        repeat (refine awp_seq ?_)
        -- leaf 2 ret
        refine awp_ret ⟨.inr rfl, _, (ares_three (.tmp 2) (.tmp 3) (.tmp 4) rfl (ares_tmp1 (by decide)) (ares_tmp1 (by decide)) (ares_tmp1 (by decide))), ?_⟩
        simp only [LS, SS, SX, HS, mkS_cons, mkS_nil, ↓reduceIte, eq_self', List.map_nil, beq_self_eq_true, Nat.reduceEqDiff, Nat.reduceAdd, Nat.succ_ne_self, vint, NdS, NdF]
        simp_all [litV, wrap_neg]
        try (split <;> simp_all <;> omega)
      · -- else t28
        repeat (refine awp_seq ?_)
        refine awp_skip ?_
        refine awp_sel [] (by simp only [LS, SS, SX, HS, mkS_cons, mkS_nil, ↓reduceIte, eq_self', List.map_nil, beq_self_eq_true, Nat.reduceEqDiff, Nat.reduceAdd, Nat.succ_ne_self, vint, NdS, NdF, Int.cast_ofNat_Int, Int.reduceLT, Int.reduceLE, Int.reduceEq, Int.toNat_one, Int.toNat_zero, Int.reduceToNat, Int.reduceNeg, decide_true, decide_false, hks, hl0, Bool.and_false] <;> with_reducible rfl) ?_
        -- region 11
        repeat (refine awp_seq ?_)
        refine e_eval (by simp only [asq, as0, as1, as2, awanted, aop, LS, SS, SX, HS, mkS_cons, mkS_nil, ↓reduceIte, eq_self', List.map_nil, beq_self_eq_true, Nat.reduceEqDiff, Nat.reduceAdd, Nat.reduceMul, Nat.reduceLT, Nat.reduceLeDiff, Nat.reducePow, Nat.reduceDiv, Nat.reduceMod, Nat.succ_ne_self, Nat.reduceBEq, Nat.reduceBNe, vint, NdS, NdF, Int.cast_ofNat_Int, Int.reduceLT, Int.reduceLE, Int.reduceEq, Int.toNat_one, Int.toNat_zero, Int.reduceToNat, Int.reduceNeg, decide_true, decide_false, hks, hl0, Bool.and_false] <;> with_reducible rfl) (by decide) ?_
        repeat (refine awp_seq ?_)
        -- leaf 3 ret
        refine awp_ret ⟨.inr rfl, _, (ares_three (.tmp 2) (.tmp 3) (.tmp 4) rfl (ares_tmp1 (by decide)) (ares_tmp1 (by decide)) (ares_tmp1 (by decide))), ?_⟩
        simp only [LS, SS, SX, HS, mkS_cons, mkS_nil, ↓reduceIte, eq_self', List.map_nil, beq_self_eq_true, Nat.reduceEqDiff, Nat.reduceAdd, Nat.succ_ne_self, vint, NdS, NdF]
        simp_all [litV, wrap_neg]
        try (split <;> simp_all <;> omega)
    · -- else t19
      -- region 8
      repeat (refine awp_seq ?_)
      refine e_eval (by simp only [asq, as0, as1, as2, awanted, aop, abin, ajust, LS, SS, SX, HS, mkS_cons, mkS_nil, ↓reduceIte, eq_self', List.map_nil, beq_self_eq_true, Nat.reduceEqDiff, Nat.reduceAdd, Nat.reduceMul, Nat.reduceLT, Nat.reduceLeDiff, Nat.reducePow, Nat.reduceDiv, Nat.reduceMod, Nat.succ_ne_self, Nat.reduceBEq, Nat.reduceBNe, Tryti3, Trytz3, Trytp3, Trytk3, vint, NdS, NdF, Int.cast_ofNat_Int, Int.reduceLT, Int.reduceLE, Int.reduceEq, Int.toNat_one, Int.toNat_zero, Int.reduceToNat, Int.reduceNeg, decide_true, decide_false, hks, hl0, Bool.and_false] <;> with_reducible rfl) (by decide) ?_
      repeat (refine awp_seq ?_)
      refine awp_cond rfl (by simp only [LS, SS, SX, HS, mkS_cons, mkS_nil, ↓reduceIte, eq_self', List.map_nil, beq_self_eq_true, Nat.reduceEqDiff, Nat.reduceAdd, Nat.succ_ne_self, vint, NdS, NdF, Int.cast_ofNat_Int, Int.reduceLT, Int.reduceLE, Int.reduceEq, Int.toNat_one, Int.toNat_zero, Int.reduceToNat, Int.reduceNeg, decide_true, decide_false, hks, hl0, Bool.and_false] <;> with_reducible rfl) (fun b4 => ?_) (fun b4 => ?_)
      · -- if t31
        -- region 9
        repeat (refine awp_seq ?_)
        refine awp_region ?_
        refine aops_gstart ?_
        refine g_take 10 (by simp only [gsq, gs0, gs1, gs2, gcond, gop, SG, Op.operands, Call.operands, Array.toList_append, aop, afldAddr, ajust, aload, abin, abuiltin, LS, SS, SX, HS, mkS_cons, mkS_nil, ↓reduceIte, eq_self', List.map_nil, beq_self_eq_true, Nat.reduceEqDiff, Nat.reduceAdd, Nat.reduceMul, Nat.reduceLT, Nat.reduceLeDiff, Nat.reducePow, Nat.reduceDiv, Nat.reduceMod, Nat.succ_ne_self, Nat.reduceBEq, Nat.reduceBNe, Tryti3, Trytz3, Trytp3, Trytk3, Tryti9, Trytz9, Trytp9, Tryts9, Tryti22, Tryte22, Trytz22, Trytp22, Tryti24, Trytf24, Trytz24, Trytp24, vint, NdS, NdF, Int.cast_ofNat_Int, Int.reduceLT, Int.reduceLE, Int.reduceEq, Int.toNat_one, Int.toNat_zero, Int.reduceToNat, Int.reduceNeg, decide_true, decide_false, hks, hl0, Bool.and_false] <;> with_reducible rfl) (by decide) ?_
        refine aops_gskip (r := .tup []) (by simp only [acall, gcond, SG, Op.operands, Call.operands, Array.toList_append, LS, SS, SX, HS, mkS_cons, mkS_nil, ↓reduceIte, eq_self', List.map_nil, beq_self_eq_true, Nat.reduceEqDiff, Nat.reduceAdd, Nat.reduceMul, Nat.reduceLT, Nat.reduceLeDiff, Nat.reducePow, Nat.reduceDiv, Nat.reduceMod, Nat.succ_ne_self, Nat.reduceBEq, Nat.reduceBNe, vint, NdS, NdF, hks, hl0, Bool.and_false, Int.cast_ofNat_Int, Int.reduceLT, Int.reduceLE, Int.reduceEq, Int.toNat_one, Int.toNat_zero, Int.reduceToNat, Int.reduceNeg, decide_true, decide_false] <;> with_reducible rfl) ?_
        refine aops_gskip (r := .tup []) (by simp only [acall, gcond, SG, Op.operands, Call.operands, Array.toList_append, LS, SS, SX, HS, mkS_cons, mkS_nil, ↓reduceIte, eq_self', List.map_nil, beq_self_eq_true, Nat.reduceEqDiff, Nat.reduceAdd, Nat.reduceMul, Nat.reduceLT, Nat.reduceLeDiff, Nat.reducePow, Nat.reduceDiv, Nat.reduceMod, Nat.succ_ne_self, Nat.reduceBEq, Nat.reduceBNe, vint, NdS, NdF, hks, hl0, Bool.and_false, Int.cast_ofNat_Int, Int.reduceLT, Int.reduceLE, Int.reduceEq, Int.toNat_one, Int.toNat_zero, Int.reduceToNat, Int.reduceNeg, decide_true, decide_false] <;> with_reducible rfl) ?_
        refine aops_gskip (r := .tup []) (by simp only [acall, gcond, SG, Op.operands, Call.operands, Array.toList_append, LS, SS, SX, HS, mkS_cons, mkS_nil, ↓reduceIte, eq_self', List.map_nil, beq_self_eq_true, Nat.reduceEqDiff, Nat.reduceAdd, Nat.reduceMul, Nat.reduceLT, Nat.reduceLeDiff, Nat.reducePow, Nat.reduceDiv, Nat.reduceMod, Nat.succ_ne_self, Nat.reduceBEq, Nat.reduceBNe, vint, NdS, NdF, hks, hl0, Bool.and_false, Int.cast_ofNat_Int, Int.reduceLT, Int.reduceLE, Int.reduceEq, Int.toNat_one, Int.toNat_zero, Int.reduceToNat, Int.reduceNeg, decide_true, decide_false] <;> with_reducible rfl) ?_
        refine aops_gskip (r := .tup []) (by simp only [acall, gcond, SG, Op.operands, Call.operands, Array.toList_append, LS, SS, SX, HS, mkS_cons, mkS_nil, ↓reduceIte, eq_self', List.map_nil, beq_self_eq_true, Nat.reduceEqDiff, Nat.reduceAdd, Nat.reduceMul, Nat.reduceLT, Nat.reduceLeDiff, Nat.reducePow, Nat.reduceDiv, Nat.reduceMod, Nat.succ_ne_self, Nat.reduceBEq, Nat.reduceBNe, vint, NdS, NdF, hks, hl0, Bool.and_false, Int.cast_ofNat_Int, Int.reduceLT, Int.reduceLE, Int.reduceEq, Int.toNat_one, Int.toNat_zero, Int.reduceToNat, Int.reduceNeg, decide_true, decide_false] <;> with_reducible rfl) ?_
        refine aops_gskip (r := .tup []) (by simp only [acall, gcond, SG, Op.operands, Call.operands, Array.toList_append, LS, SS, SX, HS, mkS_cons, mkS_nil, ↓reduceIte, eq_self', List.map_nil, beq_self_eq_true, Nat.reduceEqDiff, Nat.reduceAdd, Nat.reduceMul, Nat.reduceLT, Nat.reduceLeDiff, Nat.reducePow, Nat.reduceDiv, Nat.reduceMod, Nat.succ_ne_self, Nat.reduceBEq, Nat.reduceBNe, vint, NdS, NdF, hks, hl0, Bool.and_false, Int.cast_ofNat_Int, Int.reduceLT, Int.reduceLE, Int.reduceEq, Int.toNat_one, Int.toNat_zero, Int.reduceToNat, Int.reduceNeg, decide_true, decide_false] <;> with_reducible rfl) ?_
        refine aops_gskip (r := .tup []) (by simp only [acall, gcond, SG, Op.operands, Call.operands, Array.toList_append, LS, SS, SX, HS, mkS_cons, mkS_nil, ↓reduceIte, eq_self', List.map_nil, beq_self_eq_true, Nat.reduceEqDiff, Nat.reduceAdd, Nat.reduceMul, Nat.reduceLT, Nat.reduceLeDiff, Nat.reducePow, Nat.reduceDiv, Nat.reduceMod, Nat.succ_ne_self, Nat.reduceBEq, Nat.reduceBNe, vint, NdS, NdF, hks, hl0, Bool.and_false, Int.cast_ofNat_Int, Int.reduceLT, Int.reduceLE, Int.reduceEq, Int.toNat_one, Int.toNat_zero, Int.reduceToNat, Int.reduceNeg, decide_true, decide_false] <;> with_reducible rfl) ?_
        refine g_take 2 (by simp only [gsq, gs0, gs1, gs2, gcond, gop, SG, Op.operands, Call.operands, Array.toList_append, aop, LS, SS, SX, HS, mkS_cons, mkS_nil, ↓reduceIte, eq_self', List.map_nil, beq_self_eq_true, Nat.reduceEqDiff, Nat.reduceAdd, Nat.reduceMul, Nat.reduceLT, Nat.reduceLeDiff, Nat.reducePow, Nat.reduceDiv, Nat.reduceMod, Nat.succ_ne_self, Nat.reduceBEq, Nat.reduceBNe, vint, NdS, NdF, Int.cast_ofNat_Int, Int.reduceLT, Int.reduceLE, Int.reduceEq, Int.toNat_one, Int.toNat_zero, Int.reduceToNat, Int.reduceNeg, decide_true, decide_false, hks, hl0, Bool.and_false] <;> with_reducible rfl) (by decide) ?_
        refine aops_gskip (r := .tup []) (by simp only [acall, gcond, SG, Op.operands, Call.operands, Array.toList_append, LS, SS, SX, HS, mkS_cons, mkS_nil, ↓reduceIte, eq_self', List.map_nil, beq_self_eq_true, Nat.reduceEqDiff, Nat.reduceAdd, Nat.reduceMul, Nat.reduceLT, Nat.reduceLeDiff, Nat.reducePow, Nat.reduceDiv, Nat.reduceMod, Nat.succ_ne_self, Nat.reduceBEq, Nat.reduceBNe, vint, NdS, NdF, hks, hl0, Bool.and_false, Int.cast_ofNat_Int, Int.reduceLT, Int.reduceLE, Int.reduceEq, Int.toNat_one, Int.toNat_zero, Int.reduceToNat, Int.reduceNeg, decide_true, decide_false] <;> with_reducible rfl) ?_
        refine aops_gskip (r := .tup []) (by simp only [acall, gcond, SG, Op.operands, Call.operands, Array.toList_append, LS, SS, SX, HS, mkS_cons, mkS_nil, ↓reduceIte, eq_self', List.map_nil, beq_self_eq_true, Nat.reduceEqDiff, Nat.reduceAdd, Nat.reduceMul, Nat.reduceLT, Nat.reduceLeDiff, Nat.reducePow, Nat.reduceDiv, Nat.reduceMod, Nat.succ_ne_self, Nat.reduceBEq, Nat.reduceBNe, vint, NdS, NdF, hks, hl0, Bool.and_false, Int.cast_ofNat_Int, Int.reduceLT, Int.reduceLE, Int.reduceEq, Int.toNat_one, Int.toNat_zero, Int.reduceToNat, Int.reduceNeg, decide_true, decide_false] <;> with_reducible rfl) ?_
        refine aops_gskip (r := .tup []) (by simp only [acall, gcond, SG, Op.operands, Call.operands, Array.toList_append, LS, SS, SX, HS, mkS_cons, mkS_nil, ↓reduceIte, eq_self', List.map_nil, beq_self_eq_true, Nat.reduceEqDiff, Nat.reduceAdd, Nat.reduceMul, Nat.reduceLT, Nat.reduceLeDiff, Nat.reducePow, Nat.reduceDiv, Nat.reduceMod, Nat.succ_ne_self, Nat.reduceBEq, Nat.reduceBNe, vint, NdS, NdF, hks, hl0, Bool.and_false, Int.cast_ofNat_Int, Int.reduceLT, Int.reduceLE, Int.reduceEq, Int.toNat_one, Int.toNat_zero, Int.reduceToNat, Int.reduceNeg, decide_true, decide_false] <;> with_reducible rfl) ?_
        refine aops_gskip (r := .tup []) (by simp only [acall, gcond, SG, Op.operands, Call.operands, Array.toList_append, LS, SS, SX, HS, mkS_cons, mkS_nil, ↓reduceIte, eq_self', List.map_nil, beq_self_eq_true, Nat.reduceEqDiff, Nat.reduceAdd, Nat.reduceMul, Nat.reduceLT, Nat.reduceLeDiff, Nat.reducePow, Nat.reduceDiv, Nat.reduceMod, Nat.succ_ne_self, Nat.reduceBEq, Nat.reduceBNe, vint, NdS, NdF, hks, hl0, Bool.and_false, Int.cast_ofNat_Int, Int.reduceLT, Int.reduceLE, Int.reduceEq, Int.toNat_one, Int.toNat_zero, Int.reduceToNat, Int.reduceNeg, decide_true, decide_false] <;> with_reducible rfl) ?_
        refine aops_gskip (r := .tup []) (by simp only [acall, gcond, SG, Op.operands, Call.operands, Array.toList_append, LS, SS, SX, HS, mkS_cons, mkS_nil, ↓reduceIte, eq_self', List.map_nil, beq_self_eq_true, Nat.reduceEqDiff, Nat.reduceAdd, Nat.reduceMul, Nat.reduceLT, Nat.reduceLeDiff, Nat.reducePow, Nat.reduceDiv, Nat.reduceMod, Nat.succ_ne_self, Nat.reduceBEq, Nat.reduceBNe, vint, NdS, NdF, hks, hl0, Bool.and_false, Int.cast_ofNat_Int, Int.reduceLT, Int.reduceLE, Int.reduceEq, Int.toNat_one, Int.toNat_zero, Int.reduceToNat, Int.reduceNeg, decide_true, decide_false] <;> with_reducible rfl) ?_
        refine aops_gskip (r := .tup []) (by simp only [acall, gcond, SG, Op.operands, Call.operands, Array.toList_append, LS, SS, SX, HS, mkS_cons, mkS_nil, ↓reduceIte, eq_self', List.map_nil, beq_self_eq_true, Nat.reduceEqDiff, Nat.reduceAdd, Nat.reduceMul, Nat.reduceLT, Nat.reduceLeDiff, Nat.reducePow, Nat.reduceDiv, Nat.reduceMod, Nat.succ_ne_self, Nat.reduceBEq, Nat.reduceBNe, vint, NdS, NdF, hks, hl0, Bool.and_false, Int.cast_ofNat_Int, Int.reduceLT, Int.reduceLE, Int.reduceEq, Int.toNat_one, Int.toNat_zero, Int.reduceToNat, Int.reduceNeg, decide_true, decide_false] <;> with_reducible rfl) ?_
        refine g_take 2 (by simp only [gsq, gs0, gs1, gs2, gcond, gop, SG, Op.operands, Call.operands, Array.toList_append, aop, LS, SS, SX, HS, mkS_cons, mkS_nil, ↓reduceIte, eq_self', List.map_nil, beq_self_eq_true, Nat.reduceEqDiff, Nat.reduceAdd, Nat.reduceMul, Nat.reduceLT, Nat.reduceLeDiff, Nat.reducePow, Nat.reduceDiv, Nat.reduceMod, Nat.succ_ne_self, Nat.reduceBEq, Nat.reduceBNe, vint, NdS, NdF, Int.cast_ofNat_Int, Int.reduceLT, Int.reduceLE, Int.reduceEq, Int.toNat_one, Int.toNat_zero, Int.reduceToNat, Int.reduceNeg, decide_true, decide_false, hks, hl0, Bool.and_false] <;> with_reducible rfl) (by decide) ?_
        refine aops_gskip (r := .tup []) (by simp only [acall, gcond, SG, Op.operands, Call.operands, Array.toList_append, LS, SS, SX, HS, mkS_cons, mkS_nil, ↓reduceIte, eq_self', List.map_nil, beq_self_eq_true, Nat.reduceEqDiff, Nat.reduceAdd, Nat.reduceMul, Nat.reduceLT, Nat.reduceLeDiff, Nat.reducePow, Nat.reduceDiv, Nat.reduceMod, Nat.succ_ne_self, Nat.reduceBEq, Nat.reduceBNe, vint, NdS, NdF, hks, hl0, Bool.and_false, Int.cast_ofNat_Int, Int.reduceLT, Int.reduceLE, Int.reduceEq, Int.toNat_one, Int.toNat_zero, Int.reduceToNat, Int.reduceNeg, decide_true, decide_false] <;> with_reducible rfl) ?_
        refine aops_gskip (r := .tup []) (by simp only [acall, gcond, SG, Op.operands, Call.operands, Array.toList_append, LS, SS, SX, HS, mkS_cons, mkS_nil, ↓reduceIte, eq_self', List.map_nil, beq_self_eq_true, Nat.reduceEqDiff, Nat.reduceAdd, Nat.reduceMul, Nat.reduceLT, Nat.reduceLeDiff, Nat.reducePow, Nat.reduceDiv, Nat.reduceMod, Nat.succ_ne_self, Nat.reduceBEq, Nat.reduceBNe, vint, NdS, NdF, hks, hl0, Bool.and_false, Int.cast_ofNat_Int, Int.reduceLT, Int.reduceLE, Int.reduceEq, Int.toNat_one, Int.toNat_zero, Int.reduceToNat, Int.reduceNeg, decide_true, decide_false] <;> with_reducible rfl) ?_
        refine aops_gskip (r := .tup []) (by simp only [acall, gcond, SG, Op.operands, Call.operands, Array.toList_append, LS, SS, SX, HS, mkS_cons, mkS_nil, ↓reduceIte, eq_self', List.map_nil, beq_self_eq_true, Nat.reduceEqDiff, Nat.reduceAdd, Nat.reduceMul, Nat.reduceLT, Nat.reduceLeDiff, Nat.reducePow, Nat.reduceDiv, Nat.reduceMod, Nat.succ_ne_self, Nat.reduceBEq, Nat.reduceBNe, vint, NdS, NdF, hks, hl0, Bool.and_false, Int.cast_ofNat_Int, Int.reduceLT, Int.reduceLE, Int.reduceEq, Int.toNat_one, Int.toNat_zero, Int.reduceToNat, Int.reduceNeg, decide_true, decide_false] <;> with_reducible rfl) ?_
        refine aops_gskip (r := .tup []) (by simp only [acall, gcond, SG, Op.operands, Call.operands, Array.toList_append, LS, SS, SX, HS, mkS_cons, mkS_nil, ↓reduceIte, eq_self', List.map_nil, beq_self_eq_true, Nat.reduceEqDiff, Nat.reduceAdd, Nat.reduceMul, Nat.reduceLT, Nat.reduceLeDiff, Nat.reducePow, Nat.reduceDiv, Nat.reduceMod, Nat.succ_ne_self, Nat.reduceBEq, Nat.reduceBNe, vint, NdS, NdF, hks, hl0, Bool.and_false, Int.cast_ofNat_Int, Int.reduceLT, Int.reduceLE, Int.reduceEq, Int.toNat_one, Int.toNat_zero, Int.reduceToNat, Int.reduceNeg, decide_true, decide_false] <;> with_reducible rfl) ?_
        refine aops_gskip (r := .tup []) (by simp only [acall, gcond, SG, Op.operands, Call.operands, Array.toList_append, LS, SS, SX, HS, mkS_cons, mkS_nil, ↓reduceIte, eq_self', List.map_nil, beq_self_eq_true, Nat.reduceEqDiff, Nat.reduceAdd, Nat.reduceMul, Nat.reduceLT, Nat.reduceLeDiff, Nat.reducePow, Nat.reduceDiv, Nat.reduceMod, Nat.succ_ne_self, Nat.reduceBEq, Nat.reduceBNe, vint, NdS, NdF, hks, hl0, Bool.and_false, Int.cast_ofNat_Int, Int.reduceLT, Int.reduceLE, Int.reduceEq, Int.toNat_one, Int.toNat_zero, Int.reduceToNat, Int.reduceNeg, decide_true, decide_false] <;> with_reducible rfl) ?_
        refine aops_gskip (r := .tup []) (by simp only [acall, gcond, SG, Op.operands, Call.operands, Array.toList_append, LS, SS, SX, HS, mkS_cons, mkS_nil, ↓reduceIte, eq_self', List.map_nil, beq_self_eq_true, Nat.reduceEqDiff, Nat.reduceAdd, Nat.reduceMul, Nat.reduceLT, Nat.reduceLeDiff, Nat.reducePow, Nat.reduceDiv, Nat.reduceMod, Nat.succ_ne_self, Nat.reduceBEq, Nat.reduceBNe, vint, NdS, NdF, hks, hl0, Bool.and_false, Int.cast_ofNat_Int, Int.reduceLT, Int.reduceLE, Int.reduceEq, Int.toNat_one, Int.toNat_zero, Int.reduceToNat, Int.reduceNeg, decide_true, decide_false] <;> with_reducible rfl) ?_
        refine g_end (by simp only [gsq, gs0, gs1, gs2, gcond, gop, SG, Op.operands, Call.operands, Array.toList_append, aop, LS, SS, SX, HS, mkS_cons, mkS_nil, ↓reduceIte, eq_self', List.map_nil, beq_self_eq_true, Nat.reduceEqDiff, Nat.reduceAdd, Nat.reduceMul, Nat.reduceLT, Nat.reduceLeDiff, Nat.reducePow, Nat.reduceDiv, Nat.reduceMod, Nat.succ_ne_self, Nat.reduceBEq, Nat.reduceBNe, vint, NdS, NdF, Int.cast_ofNat_Int, Int.reduceLT, Int.reduceLE, Int.reduceEq, Int.toNat_one, Int.toNat_zero, Int.reduceToNat, Int.reduceNeg, decide_true, decide_false, hks, hl0, Bool.and_false] <;> with_reducible rfl) (by decide) (by repeat (first | exact Fin.base _ | with_reducible apply Fin.keep | apply Fin.drop)) ?_
        repeat (refine awp_seq ?_)
        refine awp_cond_false rfl (by simp only [LS, SS, SX, HS, mkS_cons, mkS_nil, ↓reduceIte, eq_self', List.map_nil, beq_self_eq_true, Nat.reduceEqDiff, Nat.reduceAdd, Nat.succ_ne_self, vint, NdS, NdF, Int.cast_ofNat_Int, Int.reduceLT, Int.reduceLE, Int.reduceEq, Int.toNat_one, Int.toNat_zero, Int.reduceToNat, Int.reduceNeg, decide_true, decide_false, hks, hl0, Bool.and_false] <;> with_reducible rfl) ?_
        repeat (refine awp_seq ?_)
        refine awp_skip ?_
        refine awp_sel [] (by simp only [LS, SS, SX, HS, mkS_cons, mkS_nil, ↓reduceIte, eq_self', List.map_nil, beq_self_eq_true, Nat.reduceEqDiff, Nat.reduceAdd, Nat.succ_ne_self, vint, NdS, NdF, Int.cast_ofNat_Int, Int.reduceLT, Int.reduceLE, Int.reduceEq, Int.toNat_one, Int.toNat_zero, Int.reduceToNat, Int.reduceNeg, decide_true, decide_false, hks, hl0, Bool.and_false] <;> with_reducible rfl) ?_
        -- region 11
        repeat (refine awp_seq ?_)
        refine e_eval (by simp only [asq, as0, as1, as2, awanted, aop, LS, SS, SX, HS, mkS_cons, mkS_nil, ↓reduceIte, eq_self', List.map_nil, beq_self_eq_true, Nat.reduceEqDiff, Nat.reduceAdd, Nat.reduceMul, Nat.reduceLT, Nat.reduceLeDiff, Nat.reducePow, Nat.reduceDiv, Nat.reduceMod, Nat.succ_ne_self, Nat.reduceBEq, Nat.reduceBNe, vint, NdS, NdF, Int.cast_ofNat_Int, Int.reduceLT, Int.reduceLE, Int.reduceEq, Int.toNat_one, Int.toNat_zero, Int.reduceToNat, Int.reduceNeg, decide_true, decide_false, hks, hl0, Bool.and_false] <;> with_reducible rfl) (by decide) ?_
        repeat (refine awp_seq ?_)
        -- leaf 4 ret
        refine awp_ret ⟨.inr rfl, _, (ares_three (.tmp 2) (.tmp 3) (.tmp 4) rfl (ares_tmp1 (by decide)) (ares_tmp1 (by decide)) (ares_tmp1 (by decide))), ?_⟩
        simp only [LS, SS, SX, HS, mkS_cons, mkS_nil, ↓reduceIte, eq_self', List.map_nil, beq_self_eq_true, Nat.reduceEqDiff, Nat.reduceAdd, Nat.succ_ne_self, vint, NdS, NdF]
        simp_all [litV, wrap_neg]
        try (split <;> simp_all <;> omega)
      · -- else t31
        repeat (refine awp_seq ?_)
        refine awp_skip ?_
        -- region 11
        repeat (refine awp_seq ?_)
        refine e_eval (by simp only [asq, as0, as1, as2, awanted, aop, LS, SS, SX, HS, mkS_cons, mkS_nil, ↓reduceIte, eq_self', List.map_nil, beq_self_eq_true, Nat.reduceEqDiff, Nat.reduceAdd, Nat.reduceMul, Nat.reduceLT, Nat.reduceLeDiff, Nat.reducePow, Nat.reduceDiv, Nat.reduceMod, Nat.succ_ne_self, Nat.reduceBEq, Nat.reduceBNe, vint, NdS, NdF, Int.cast_ofNat_Int, Int.reduceLT, Int.reduceLE, Int.reduceEq, Int.toNat_one, Int.toNat_zero, Int.reduceToNat, Int.reduceNeg, decide_true, decide_false, hks, hl0, Bool.and_false] <;> with_reducible rfl) (by decide) ?_
        repeat (refine awp_seq ?_)
        -- leaf 5 ret
        refine awp_ret ⟨.inr rfl, _, (ares_three (.tmp 2) (.tmp 3) (.tmp 4) rfl (ares_tmp1 (by decide)) (ares_tmp1 (by decide)) (ares_tmp1 (by decide))), ?_⟩
        simp only [LS, SS, SX, HS, mkS_cons, mkS_nil, ↓reduceIte, eq_self', List.map_nil, beq_self_eq_true, Nat.reduceEqDiff, Nat.reduceAdd, Nat.succ_ne_self, vint, NdS, NdF]
        simp_all [litV, wrap_neg]
        try (split <;> simp_all <;> omega)

theorem value_one (m : Nd) (c : Nd) (hks : m.kids = [c]) : PC Try.prog 11 [m.enc] (.tup [vint (litV m).1, .bool (litV m).2.1, .bool (litV m).2.2]) := by
  refine pc_of (N := 72) Try.func11 rfl rfl (by simp) (by simp [Nd.bel]) (.tup _ (by simp [Bel.int, Bel.bool])) ?_
  -- region 0
  repeat (refine awp_seq ?_)
  refine e_eval (by simp only [asq, as0, as1, as2, awanted, aop, LS, SS, SX, HS, mkS_cons, mkS_nil, ↓reduceIte, eq_self', List.map_nil, beq_self_eq_true, Nat.reduceEqDiff, Nat.reduceAdd, Nat.reduceMul, Nat.reduceLT, Nat.reduceLeDiff, Nat.reducePow, Nat.reduceDiv, Nat.reduceMod, Nat.succ_ne_self, Nat.reduceBEq, Nat.reduceBNe, Tryti24, Trytf24, Trytz24, Trytp24, vint, NdS, NdF, Int.cast_ofNat_Int, Int.reduceLT, Int.reduceLE, Int.reduceEq, Int.toNat_one, Int.toNat_zero, Int.reduceToNat, Int.reduceNeg, decide_true, decide_false, hks] <;> with_reducible rfl) (by decide) ?_
  -- region 1
  repeat (refine awp_seq ?_)
  refine e_eval (by simp only [asq, as0, as1, as2, awanted, aop, afldAddr, ajust, aload, LS, SS, SX, HS, mkS_cons, mkS_nil, ↓reduceIte, eq_self', List.map_nil, beq_self_eq_true, Nat.reduceEqDiff, Nat.reduceAdd, Nat.reduceMul, Nat.reduceLT, Nat.reduceLeDiff, Nat.reducePow, Nat.reduceDiv, Nat.reduceMod, Nat.succ_ne_self, Nat.reduceBEq, Nat.reduceBNe, Tryti3, Trytz3, Trytp3, Trytk3, Tryti24, Trytf24, Trytz24, Trytp24, vint, NdS, NdF, Int.cast_ofNat_Int, Int.reduceLT, Int.reduceLE, Int.reduceEq, Int.toNat_one, Int.toNat_zero, Int.reduceToNat, Int.reduceNeg, decide_true, decide_false, hks] <;> with_reducible rfl) (by decide) ?_
  repeat (refine awp_seq ?_)
  refine awp_block ?_
  -- region 2
  repeat (refine awp_seq ?_)
  refine e_eval (by simp only [asq, as0, as1, as2, awanted, aop, abin, ajust, LS, SS, SX, HS, mkS_cons, mkS_nil, ↓reduceIte, eq_self', List.map_nil, beq_self_eq_true, Nat.reduceEqDiff, Nat.reduceAdd, Nat.reduceMul, Nat.reduceLT, Nat.reduceLeDiff, Nat.reducePow, Nat.reduceDiv, Nat.reduceMod, Nat.succ_ne_self, Nat.reduceBEq, Nat.reduceBNe, Tryti3, Trytz3, Trytp3, Trytk3, vint, NdS, NdF, Int.cast_ofNat_Int, Int.reduceLT, Int.reduceLE, Int.reduceEq, Int.toNat_one, Int.toNat_zero, Int.reduceToNat, Int.reduceNeg, decide_true, decide_false, hks] <;> with_reducible rfl) (by decide) ?_
  repeat (refine awp_seq ?_)
  refine awp_cond rfl (by simp only [LS, SS, SX, HS, mkS_cons, mkS_nil, ↓reduceIte, eq_self', List.map_nil, beq_self_eq_true, Nat.reduceEqDiff, Nat.reduceAdd, Nat.succ_ne_self, vint, NdS, NdF, Int.cast_ofNat_Int, Int.reduceLT, Int.reduceLE, Int.reduceEq, Int.toNat_one, Int.toNat_zero, Int.reduceToNat, Int.reduceNeg, decide_true, decide_false, hks] <;> with_reducible rfl) (fun b0 => ?_) (fun b0 => ?_)
  · -- if t7
    -- region 3
    repeat (refine awp_seq ?_)
    refine g_eval (by simp only [gsq, gs0, gs1, gs2, gcond, gop, SG, Op.operands, Call.operands, Array.toList_append, aop, afldAddr, ajust, aload, abin, LS, SS, SX, HS, mkS_cons, mkS_nil, ↓reduceIte, eq_self', List.map_nil, beq_self_eq_true, Nat.reduceEqDiff, Nat.reduceAdd, Nat.reduceMul, Nat.reduceLT, Nat.reduceLeDiff, Nat.reducePow, Nat.reduceDiv, Nat.reduceMod, Nat.succ_ne_self, Nat.reduceBEq, Nat.reduceBNe, Tryti3, Trytz3, Trytp3, Trytk3, Tryti24, Trytf24, Trytz24, Trytp24, vint, NdS, NdF, Int.cast_ofNat_Int, Int.reduceLT, Int.reduceLE, Int.reduceEq, Int.toNat_one, Int.toNat_zero, Int.reduceToNat, Int.reduceNeg, decide_true, decide_false, hks] <;> with_reducible rfl) (by decide) (by repeat (first | exact Fin.base _ | with_reducible apply Fin.keep | apply Fin.drop)) ?_
    repeat (refine awp_seq ?_)
    refine awp_cond rfl (by simp only [LS, SS, SX, HS, mkS_cons, mkS_nil, ↓reduceIte, eq_self', List.map_nil, beq_self_eq_true, Nat.reduceEqDiff, Nat.reduceAdd, Nat.succ_ne_self, vint, NdS, NdF, Int.cast_ofNat_Int, Int.reduceLT, Int.reduceLE, Int.reduceEq, Int.toNat_one, Int.toNat_zero, Int.reduceToNat, Int.reduceNeg, decide_true, decide_false, hks] <;> with_reducible rfl) (fun b1 => ?_) (fun b1 => ?_)
    · -- if t16
      refine awp_sel [1] (by simp only [LS, SS, SX, HS, mkS_cons, mkS_nil, ↓reduceIte, eq_self', List.map_nil, beq_self_eq_true, Nat.reduceEqDiff, Nat.reduceAdd, Nat.succ_ne_self, vint, NdS, NdF, Int.cast_ofNat_Int, Int.reduceLT, Int.reduceLE, Int.reduceEq, Int.toNat_one, Int.toNat_zero, Int.reduceToNat, Int.reduceNeg, decide_true, decide_false, hks] <;> with_reducible rfl) ?_
      -- region 4
      repeat (refine awp_seq ?_)
      refine e_eval (by simp only [asq, as0, as1, as2, awanted, aop, afldAddr, ajust, aload, LS, SS, SX, HS, mkS_cons, mkS_nil, ↓reduceIte, eq_self', List.map_nil, beq_self_eq_true, Nat.reduceEqDiff, Nat.reduceAdd, Nat.reduceMul, Nat.reduceLT, Nat.reduceLeDiff, Nat.reducePow, Nat.reduceDiv, Nat.reduceMod, Nat.succ_ne_self, Nat.reduceBEq, Nat.reduceBNe, Tryti3, Trytz3, Trytp3, Trytk3, Tryti24, Trytf24, Trytz24, Trytp24, vint, NdS, NdF, Int.cast_ofNat_Int, Int.reduceLT, Int.reduceLE, Int.reduceEq, Int.toNat_one, Int.toNat_zero, Int.reduceToNat, Int.reduceNeg, decide_true, decide_false, hks] <;> with_reducible rfl) (by decide) ?_
      repeat (refine awp_seq ?_)
      -- leaf 0 ret
      refine awp_ret ⟨.inr rfl, _, (ares_three (.tmp 2) (.tmp 3) (.tmp 4) rfl (ares_tmp1 (by decide)) (ares_tmp1 (by decide)) (ares_tmp1 (by decide))), ?_⟩
      simp only [LS, SS, SX, HS, mkS_cons, mkS_nil, ↓reduceIte, eq_self', List.map_nil, beq_self_eq_true, Nat.reduceEqDiff, Nat.reduceAdd, Nat.succ_ne_self, vint, NdS, NdF]
      simp_all [litV, wrap_neg]
      try (split <;> simp_all <;> omega)
    · -- else t16
      repeat (refine awp_seq ?_)
      refine awp_skip ?_
      refine awp_sel [] (by simp only [LS, SS, SX, HS, mkS_cons, mkS_nil, ↓reduceIte, eq_self', List.map_nil, beq_self_eq_true, Nat.reduceEqDiff, Nat.reduceAdd, Nat.succ_ne_self, vint, NdS, NdF, Int.cast_ofNat_Int, Int.reduceLT, Int.reduceLE, Int.reduceEq, Int.toNat_one, Int.toNat_zero, Int.reduceToNat, Int.reduceNeg, decide_true, decide_false, hks] <;> with_reducible rfl) ?_
      -- region 11
      repeat (refine awp_seq ?_)
      refine e_eval (by simp only [asq, as0, as1, as2, awanted, aop, LS, SS, SX, HS, mkS_cons, mkS_nil, ↓reduceIte, eq_self', List.map_nil, beq_self_eq_true, Nat.reduceEqDiff, Nat.reduceAdd, Nat.reduceMul, Nat.reduceLT, Nat.reduceLeDiff, Nat.reducePow, Nat.reduceDiv, Nat.reduceMod, Nat.succ_ne_self, Nat.reduceBEq, Nat.reduceBNe, vint, NdS, NdF, Int.cast_ofNat_Int, Int.reduceLT, Int.reduceLE, Int.reduceEq, Int.toNat_one, Int.toNat_zero, Int.reduceToNat, Int.reduceNeg, decide_true, decide_false, hks] <;> with_reducible rfl) (by decide) ?_
      repeat (refine awp_seq ?_)
      -- leaf 1 ret
      refine awp_ret ⟨.inr rfl, _, (ares_three (.tmp 2) (.tmp 3) (.tmp 4) rfl (ares_tmp1 (by decide)) (ares_tmp1 (by decide)) (ares_tmp1 (by decide))), ?_⟩
      simp only [LS, SS, SX, HS, mkS_cons, mkS_nil, ↓reduceIte, eq_self', List.map_nil, beq_self_eq_true, Nat.reduceEqDiff, Nat.reduceAdd, Nat.succ_ne_self, vint, NdS, NdF]
      simp_all [litV, wrap_neg]
      try (split <;> simp_all <;> omega)
  · -- else t7
    -- region 5
    repeat (refine awp_seq ?_)
    refine e_eval (by simp only [asq, as0, as1, as2, awanted, aop, abin, ajust, LS, SS, SX, HS, mkS_cons, mkS_nil, ↓reduceIte, eq_self', List.map_nil, beq_self_eq_true, Nat.reduceEqDiff, Nat.reduceAdd, Nat.reduceMul, Nat.reduceLT, Nat.reduceLeDiff, Nat.reducePow, Nat.reduceDiv, Nat.reduceMod, Nat.succ_ne_self, Nat.reduceBEq, Nat.reduceBNe, Tryti3, Trytz3, Trytp3, Trytk3, vint, NdS, NdF, Int.cast_ofNat_Int, Int.reduceLT, Int.reduceLE, Int.reduceEq, Int.toNat_one, Int.toNat_zero, Int.reduceToNat, Int.reduceNeg, decide_true, decide_false, hks] <;> with_reducible rfl) (by decide) ?_
    repeat (refine awp_seq ?_)
    refine awp_cond rfl (by simp only [LS, SS, SX, HS, mkS_cons, mkS_nil, ↓reduceIte, eq_self', List.map_nil, beq_self_eq_true, Nat.reduceEqDiff, Nat.reduceAdd, Nat.succ_ne_self, vint, NdS, NdF, Int.cast_ofNat_Int, Int.reduceLT, Int.reduceLE, Int.reduceEq, Int.toNat_one, Int.toNat_zero, Int.reduceToNat, Int.reduceNeg, decide_true, decide_false, hks] <;> with_reducible rfl) (fun b2 => ?_) (fun b2 => ?_)
    · -- if t19
      -- region 6
      repeat (refine awp_seq ?_)
      refine g_eval (by simp only [gsq, gs0, gs1, gs2, gcond, gop, SG, Op.operands, Call.operands, Array.toList_append, aop, afldAddr, ajust, aload, abin, LS, SS, SX, HS, mkS_cons, mkS_nil, ↓reduceIte, eq_self', List.map_nil, beq_self_eq_true, Nat.reduceEqDiff, Nat.reduceAdd, Nat.reduceMul, Nat.reduceLT, Nat.reduceLeDiff, Nat.reducePow, Nat.reduceDiv, Nat.reduceMod, Nat.succ_ne_self, Nat.reduceBEq, Nat.reduceBNe, Tryti3, Trytz3, Trytp3, Trytk3, Tryti24, Trytf24, Trytz24, Trytp24, vint, NdS, NdF, Int.cast_ofNat_Int, Int.reduceLT, Int.reduceLE, Int.reduceEq, Int.toNat_one, Int.toNat_zero, Int.reduceToNat, Int.reduceNeg, decide_true, decide_false, hks] <;> with_reducible rfl) (by decide) (by repeat (first | exact Fin.base _ | with_reducible apply Fin.keep | apply Fin.drop)) ?_
      repeat (refine awp_seq ?_)
      refine awp_cond rfl (by simp only [LS, SS, SX, HS, mkS_cons, mkS_nil, ↓reduceIte, eq_self', List.map_nil, beq_self_eq_true, Nat.reduceEqDiff, Nat.reduceAdd, Nat.succ_ne_self, vint, NdS, NdF, Int.cast_ofNat_Int, Int.reduceLT, Int.reduceLE, Int.reduceEq, Int.toNat_one, Int.toNat_zero, Int.reduceToNat, Int.reduceNeg, decide_true, decide_false, hks] <;> with_reducible rfl) (fun b3 => ?_) (fun b3 => ?_)
      · -- if t28
        refine awp_sel [1] (by simp only [LS, SS, SX, HS, mkS_cons, mkS_nil, ↓reduceIte, eq_self', List.map_nil, beq_self_eq_true, Nat.reduceEqDiff, Nat.reduceAdd, Nat.succ_ne_self, vint, NdS, NdF, Int.cast_ofNat_Int, Int.reduceLT, Int.reduceLE, Int.reduceEq, Int.toNat_one, Int.toNat_zero, Int.reduceToNat, Int.reduceNeg, decide_true, decide_false, hks] <;> with_reducible rfl) ?_
        -- region 7
        repeat (refine awp_seq ?_)
        refine e_eval (by simp only [asq, as0, as1, as2, awanted, aop, afldAddr, ajust, aload, LS, SS, SX, HS, mkS_cons, mkS_nil, ↓reduceIte, eq_self', List.map_nil, beq_self_eq_true, Nat.reduceEqDiff, Nat.reduceAdd, Nat.reduceMul, Nat.reduceLT, Nat.reduceLeDiff, Nat.reducePow, Nat.reduceDiv, Nat.reduceMod, Nat.succ_ne_self, Nat.reduceBEq, Nat.reduceBNe, Tryti3, Trytz3, Trytp3, Trytk3, Tryti24, Trytf24, Trytz24, Trytp24, vint, NdS, NdF, Int.cast_ofNat_Int, Int.reduceLT, Int.reduceLE, Int.reduceEq, Int.toNat_one, Int.toNat_zero, Int.reduceToNat, Int.reduceNeg, decide_true, decide_false, hks] <;> with_reducible rfl) (by decide) ?_
        repeat (refine awp_seq ?_)
        -- leaf 2 ret
        refine awp_ret ⟨.inr rfl, _, (ares_three (.tmp 2) (.tmp 3) (.tmp 4) rfl (ares_tmp1 (by decide)) (ares_tmp1 (by decide)) (ares_tmp1 (by decide))), ?_⟩
        simp only [LS, SS, SX, HS, mkS_cons, mkS_nil, ↓reduceIte, eq_self', List.map_nil, beq_self_eq_true, Nat.reduceEqDiff, Nat.reduceAdd, Nat.succ_ne_self, vint, NdS, NdF]
        simp_all [litV, wrap_neg]
        try (split <;> simp_all <;> omega)
      · -- else t28
        repeat (refine awp_seq ?_)
        refine awp_skip ?_
        refine awp_sel [] (by simp only [LS, SS, SX, HS, mkS_cons, mkS_nil, ↓reduceIte, eq_self', List.map_nil, beq_self_eq_true, Nat.reduceEqDiff, Nat.reduceAdd, Nat.succ_ne_self, vint, NdS, NdF, Int.cast_ofNat_Int, Int.reduceLT, Int.reduceLE, Int.reduceEq, Int.toNat_one, Int.toNat_zero, Int.reduceToNat, Int.reduceNeg, decide_true, decide_false, hks] <;> with_reducible rfl) ?_
        -- region 11
        repeat (refine awp_seq ?_)
        refine e_eval (by simp only [asq, as0, as1, as2, awanted, aop, LS, SS, SX, HS, mkS_cons, mkS_nil, ↓reduceIte, eq_self', List.map_nil, beq_self_eq_true, Nat.reduceEqDiff, Nat.reduceAdd, Nat.reduceMul, Nat.reduceLT, Nat.reduceLeDiff, Nat.reducePow, Nat.reduceDiv, Nat.reduceMod, Nat.succ_ne_self, Nat.reduceBEq, Nat.reduceBNe, vint, NdS, NdF, Int.cast_ofNat_Int, Int.reduceLT, Int.reduceLE, Int.reduceEq, Int.toNat_one, Int.toNat_zero, Int.reduceToNat, Int.reduceNeg, decide_true, decide_false, hks] <;> with_reducible rfl) (by decide) ?_
        repeat (refine awp_seq ?_)
        -- leaf 3 ret
        refine awp_ret ⟨.inr rfl, _, (ares_three (.tmp 2) (.tmp 3) (.tmp 4) rfl (ares_tmp1 (by decide)) (ares_tmp1 (by decide)) (ares_tmp1 (by decide))), ?_⟩
        simp only [LS, SS, SX, HS, mkS_cons, mkS_nil, ↓reduceIte, eq_self', List.map_nil, beq_self_eq_true, Nat.reduceEqDiff, Nat.reduceAdd, Nat.succ_ne_self, vint, NdS, NdF]
        simp_all [litV, wrap_neg]
        try (split <;> simp_all <;> omega)
    · -- else t19
      -- region 8
      repeat (refine awp_seq ?_)
      refine e_eval (by simp only [asq, as0, as1, as2, awanted, aop, abin, ajust, LS, SS, SX, HS, mkS_cons, mkS_nil, ↓reduceIte, eq_self', List.map_nil, beq_self_eq_true, Nat.reduceEqDiff, Nat.reduceAdd, Nat.reduceMul, Nat.reduceLT, Nat.reduceLeDiff, Nat.reducePow, Nat.reduceDiv, Nat.reduceMod, Nat.succ_ne_self, Nat.reduceBEq, Nat.reduceBNe, Tryti3, Trytz3, Trytp3, Trytk3, vint, NdS, NdF, Int.cast_ofNat_Int, Int.reduceLT, Int.reduceLE, Int.reduceEq, Int.toNat_one, Int.toNat_zero, Int.reduceToNat, Int.reduceNeg, decide_true, decide_false, hks] <;> with_reducible rfl) (by decide) ?_
      repeat (refine awp_seq ?_)
      refine awp_cond rfl (by simp only [LS, SS, SX, HS, mkS_cons, mkS_nil, ↓reduceIte, eq_self', List.map_nil, beq_self_eq_true, Nat.reduceEqDiff, Nat.reduceAdd, Nat.succ_ne_self, vint, NdS, NdF, Int.cast_ofNat_Int, Int.reduceLT, Int.reduceLE, Int.reduceEq, Int.toNat_one, Int.toNat_zero, Int.reduceToNat, Int.reduceNeg, decide_true, decide_false, hks] <;> with_reducible rfl) (fun b4 => ?_) (fun b4 => ?_)
      · -- if t31
        -- region 9
        repeat (refine awp_seq ?_)
        refine g_eval (by simp only [gsq, gs0, gs1, gs2, gcond, gop, SG, Op.operands, Call.operands, Array.toList_append, aop, afldAddr, ajust, aload, abin, abuiltin, aidxAddr, aidx, LS, SS, SX, HS, mkS_cons, mkS_nil, ↓reduceIte, eq_self', List.map_nil, beq_self_eq_true, Nat.reduceEqDiff, Nat.reduceAdd, Nat.reduceMul, Nat.reduceLT, Nat.reduceLeDiff, Nat.reducePow, Nat.reduceDiv, Nat.reduceMod, Nat.succ_ne_self, Nat.reduceBEq, Nat.reduceBNe, Tryti3, Trytz3, Trytp3, Trytk3, Tryti9, Trytz9, Trytp9, Tryts9, Tryti22, Tryte22, Trytz22, Trytp22, Tryti24, Trytf24, Trytz24, Trytp24, vint, NdS, NdF, Int.cast_ofNat_Int, Int.reduceLT, Int.reduceLE, Int.reduceEq, Int.toNat_one, Int.toNat_zero, Int.reduceToNat, Int.reduceNeg, decide_true, decide_false, hks] <;> with_reducible rfl) (by decide) (by repeat (first | exact Fin.base _ | with_reducible apply Fin.keep | apply Fin.drop)) ?_
        repeat (refine awp_seq ?_)
        refine awp_cond rfl (by simp only [LS, SS, SX, HS, mkS_cons, mkS_nil, ↓reduceIte, eq_self', List.map_nil, beq_self_eq_true, Nat.reduceEqDiff, Nat.reduceAdd, Nat.succ_ne_self, vint, NdS, NdF, Int.cast_ofNat_Int, Int.reduceLT, Int.reduceLE, Int.reduceEq, Int.toNat_one, Int.toNat_zero, Int.reduceToNat, Int.reduceNeg, decide_true, decide_false, hks] <;> with_reducible rfl) (fun b5 => ?_) (fun b5 => ?_)
        · -- if t65
          refine awp_sel [1] (by simp only [LS, SS, SX, HS, mkS_cons, mkS_nil, ↓reduceIte, eq_self', List.map_nil, beq_self_eq_true, Nat.reduceEqDiff, Nat.reduceAdd, Nat.succ_ne_self, vint, NdS, NdF, Int.cast_ofNat_Int, Int.reduceLT, Int.reduceLE, Int.reduceEq, Int.toNat_one, Int.toNat_zero, Int.reduceToNat, Int.reduceNeg, decide_true, decide_false, hks] <;> with_reducible rfl) ?_
          -- region 10
          repeat (refine awp_seq ?_)
          refine e_eval (by simp only [asq, as0, as1, as2, awanted, aop, afldAddr, ajust, aload, aidxAddr, aidx, aun, LS, SS, SX, HS, mkS_cons, mkS_nil, ↓reduceIte, eq_self', List.map_nil, beq_self_eq_true, Nat.reduceEqDiff, Nat.reduceAdd, Nat.reduceMul, Nat.reduceLT, Nat.reduceLeDiff, Nat.reducePow, Nat.reduceDiv, Nat.reduceMod, Nat.succ_ne_self, Nat.reduceBEq, Nat.reduceBNe, Tryti3, Trytz3, Trytp3, Trytk3, Tryti22, Tryte22, Trytz22, Trytp22, Tryti24, Trytf24, Trytz24, Trytp24, vint, NdS, NdF, Int.cast_ofNat_Int, Int.reduceLT, Int.reduceLE, Int.reduceEq, Int.toNat_one, Int.toNat_zero, Int.reduceToNat, Int.reduceNeg, decide_true, decide_false, hks] <;> with_reducible rfl) (by decide) ?_
          repeat (refine awp_seq ?_)
          -- leaf 4 ret
          refine awp_ret ⟨.inr rfl, _, (ares_three (.tmp 2) (.tmp 3) (.tmp 4) rfl (ares_tmp1 (by decide)) (ares_tmp1 (by decide)) (ares_tmp1 (by decide))), ?_⟩
          simp only [LS, SS, SX, HS, mkS_cons, mkS_nil, ↓reduceIte, eq_self', List.map_nil, beq_self_eq_true, Nat.reduceEqDiff, Nat.reduceAdd, Nat.succ_ne_self, vint, NdS, NdF]
          simp_all [litV, wrap_neg]
          try (split <;> simp_all <;> omega)
        · -- else t65
          repeat (refine awp_seq ?_)
          refine awp_skip ?_
          refine awp_sel [] (by simp only [LS, SS, SX, HS, mkS_cons, mkS_nil, ↓reduceIte, eq_self', List.map_nil, beq_self_eq_true, Nat.reduceEqDiff, Nat.reduceAdd, Nat.succ_ne_self, vint, NdS, NdF, Int.cast_ofNat_Int, Int.reduceLT, Int.reduceLE, Int.reduceEq, Int.toNat_one, Int.toNat_zero, Int.reduceToNat, Int.reduceNeg, decide_true, decide_false, hks] <;> with_reducible rfl) ?_
          -- region 11
          repeat (refine awp_seq ?_)
          refine e_eval (by simp only [asq, as0, as1, as2, awanted, aop, LS, SS, SX, HS, mkS_cons, mkS_nil, ↓reduceIte, eq_self', List.map_nil, beq_self_eq_true, Nat.reduceEqDiff, Nat.reduceAdd, Nat.reduceMul, Nat.reduceLT, Nat.reduceLeDiff, Nat.reducePow, Nat.reduceDiv, Nat.reduceMod, Nat.succ_ne_self, Nat.reduceBEq, Nat.reduceBNe, vint, NdS, NdF, Int.cast_ofNat_Int, Int.reduceLT, Int.reduceLE, Int.reduceEq, Int.toNat_one, Int.toNat_zero, Int.reduceToNat, Int.reduceNeg, decide_true, decide_false, hks] <;> with_reducible rfl) (by decide) ?_
          repeat (refine awp_seq ?_)
          -- leaf 5 ret
          refine awp_ret ⟨.inr rfl, _, (ares_three (.tmp 2) (.tmp 3) (.tmp 4) rfl (ares_tmp1 (by decide)) (ares_tmp1 (by decide)) (ares_tmp1 (by decide))), ?_⟩
          simp only [LS, SS, SX, HS, mkS_cons, mkS_nil, ↓reduceIte, eq_self', List.map_nil, beq_self_eq_true, Nat.reduceEqDiff, Nat.reduceAdd, Nat.succ_ne_self, vint, NdS, NdF]
          simp_all [litV, wrap_neg]
          try (split <;> simp_all <;> omega)
      · -- else t31
        repeat (refine awp_seq ?_)
        refine awp_skip ?_
        -- region 11
        repeat (refine awp_seq ?_)
        refine e_eval (by simp only [asq, as0, as1, as2, awanted, aop, LS, SS, SX, HS, mkS_cons, mkS_nil, ↓reduceIte, eq_self', List.map_nil, beq_self_eq_true, Nat.reduceEqDiff, Nat.reduceAdd, Nat.reduceMul, Nat.reduceLT, Nat.reduceLeDiff, Nat.reducePow, Nat.reduceDiv, Nat.reduceMod, Nat.succ_ne_self, Nat.reduceBEq, Nat.reduceBNe, vint, NdS, NdF, Int.cast_ofNat_Int, Int.reduceLT, Int.reduceLE, Int.reduceEq, Int.toNat_one, Int.toNat_zero, Int.reduceToNat, Int.reduceNeg, decide_true, decide_false, hks] <;> with_reducible rfl) (by decide) ?_
        repeat (refine awp_seq ?_)
        -- leaf 6 ret
        refine awp_ret ⟨.inr rfl, _, (ares_three (.tmp 2) (.tmp 3) (.tmp 4) rfl (ares_tmp1 (by decide)) (ares_tmp1 (by decide)) (ares_tmp1 (by decide))), ?_⟩
        simp only [LS, SS, SX, HS, mkS_cons, mkS_nil, ↓reduceIte, eq_self', List.map_nil, beq_self_eq_true, Nat.reduceEqDiff, Nat.reduceAdd, Nat.succ_ne_self, vint, NdS, NdF]
        simp_all [litV, wrap_neg]
        try (split <;> simp_all <;> omega)

theorem value_c (m : Nd) : PC Try.prog 11 [m.enc] (.tup [vint (litV m).1, .bool (litV m).2.1, .bool (litV m).2.2]) := by
  rcases hks : m.kids with _ | ⟨c, _ | ⟨d, ds⟩⟩
  · exact value_nil m hks
  · exact value_one m c hks
  · exact value_two m c d ds hks

end Go.Abs
set_option linter.unusedVariables false
set_option linter.unusedSimpArgs false
set_option maxRecDepth 4000
namespace Go.Abs
open Go.Proofs

theorem lit_rng (n : Nd) : -2147483647 ≤ (litV n).1 ∧ (litV n).1 ≤ 2147483647 := by
  unfold litV
  split
  · split
    · rename_i h; simp only; omega
    · simp
  · split
    · split
      · rename_i h; simp only; omega
      · simp
    · split
      · split
        · split
          · rename_i h; simp only; omega
          · simp
        · simp
      · simp

theorem foldUn_c (m c : Nd) (hks : m.kids = [c]) : PC Try.prog 17 [m.enc] (foldUn m c).enc := by
  have hr := lit_rng c
  have hw : IntKind.i64.wrap (0 - (litV c).1) = -(litV c).1 := by rw [wrap_id (by omega) (by omega)]; omega
  have heta : Nd.mk m.kind m.value m.text m.st m.en m.ns [c] = m := by rw [← hks, Nd.eta]
  refine pc_of (N := 46) Try.func17 rfl rfl (by simp) (by simp [Nd.bel]) (Nd.bel _ _) ?_
  -- region 0
  repeat (refine awp_seq ?_)
  refine e_eval (by simp only [asq, as0, as1, as2, awanted, aop, LS, SS, SX, HS, mkS_cons, mkS_nil, ↓reduceIte, eq_self', List.map_nil, beq_self_eq_true, Nat.reduceEqDiff, Nat.reduceAdd, Nat.reduceMul, Nat.reduceLT, Nat.reduceLeDiff, Nat.reducePow, Nat.reduceDiv, Nat.reduceMod, Nat.succ_ne_self, Nat.reduceBEq, Nat.reduceBNe, Tryti24, Trytf24, Trytz24, Trytp24, vint, NdS, NdF, hw, heta, Int.cast_ofNat_Int, Int.reduceLT, Int.reduceLE, Int.reduceEq, Int.toNat_one, Int.toNat_zero, Int.reduceToNat, Int.reduceNeg, decide_true, decide_false] <;> with_reducible rfl) (by decide) ?_
  -- region 1
  repeat (refine awp_seq ?_)
  refine awp_region ?_
  refine e_take 4 (by simp only [asq, as0, as1, as2, awanted, aop, afldAddr, ajust, aload, aidxAddr, aidx, LS, SS, SX, HS, mkS_cons, mkS_nil, ↓reduceIte, eq_self', List.map_nil, beq_self_eq_true, Nat.reduceEqDiff, Nat.reduceAdd, Nat.reduceMul, Nat.reduceLT, Nat.reduceLeDiff, Nat.reducePow, Nat.reduceDiv, Nat.reduceMod, Nat.succ_ne_self, Nat.reduceBEq, Nat.reduceBNe, Tryti22, Tryte22, Trytz22, Trytp22, Tryti24, Trytf24, Trytz24, Trytp24, vint, NdS, NdF, hw, heta, Int.cast_ofNat_Int, Int.reduceLT, Int.reduceLE, Int.reduceEq, Int.toNat_one, Int.toNat_zero, Int.reduceToNat, Int.reduceNeg, decide_true, decide_false, hks] <;> with_reducible rfl) (by decide) ?_
  refine aops_pure (by simp only [acall, awanted, LS, SS, SX, HS, mkS_cons, mkS_nil, ↓reduceIte, eq_self', List.map_nil, beq_self_eq_true, Nat.reduceEqDiff, Nat.reduceAdd, Nat.reduceMul, Nat.reduceLT, Nat.reduceLeDiff, Nat.reducePow, Nat.reduceDiv, Nat.reduceMod, Nat.succ_ne_self, Nat.reduceBEq, Nat.reduceBNe, vint, NdS, NdF, hw, heta, Int.cast_ofNat_Int, Int.reduceLT, Int.reduceLE, Int.reduceEq, Int.toNat_one, Int.toNat_zero, Int.reduceToNat, Int.reduceNeg, decide_true, decide_false, hks] <;> with_reducible rfl) (by simp only [acall, awanted, LS, SS, SX, HS, mkS_cons, mkS_nil, ↓reduceIte, eq_self', List.map_nil, beq_self_eq_true, Nat.reduceEqDiff, Nat.reduceAdd, Nat.reduceMul, Nat.reduceLT, Nat.reduceLeDiff, Nat.reducePow, Nat.reduceDiv, Nat.reduceMod, Nat.succ_ne_self, Nat.reduceBEq, Nat.reduceBNe, vint, NdS, NdF, hw, heta, Int.cast_ofNat_Int, Int.reduceLT, Int.reduceLE, Int.reduceEq, Int.toNat_one, Int.toNat_zero, Int.reduceToNat, Int.reduceNeg, decide_true, decide_false, hks]) (by decide) Trygo11 (value_c c _) ?_
  refine e_end (by simp only [asq, as0, as1, as2, awanted, aop, ajust, LS, SS, SX, HS, mkS_cons, mkS_nil, ↓reduceIte, eq_self', List.map_nil, beq_self_eq_true, Nat.reduceEqDiff, Nat.reduceAdd, Nat.reduceMul, Nat.reduceLT, Nat.reduceLeDiff, Nat.reducePow, Nat.reduceDiv, Nat.reduceMod, Nat.succ_ne_self, Nat.reduceBEq, Nat.reduceBNe, vint, NdS, NdF, hw, heta, Int.cast_ofNat_Int, Int.reduceLT, Int.reduceLE, Int.reduceEq, Int.toNat_one, Int.toNat_zero, Int.reduceToNat, Int.reduceNeg, decide_true, decide_false, hks] <;> with_reducible rfl) (by decide) ?_
  repeat (refine awp_seq ?_)
  refine awp_block ?_
  -- region 2
  repeat (refine awp_seq ?_)
  refine e_eval (by simp only [asq, as0, as1, as2, awanted, aop, aun, ajust, LS, SS, SX, HS, mkS_cons, mkS_nil, ↓reduceIte, eq_self', List.map_nil, beq_self_eq_true, Nat.reduceEqDiff, Nat.reduceAdd, Nat.reduceMul, Nat.reduceLT, Nat.reduceLeDiff, Nat.reducePow, Nat.reduceDiv, Nat.reduceMod, Nat.succ_ne_self, Nat.reduceBEq, Nat.reduceBNe, vint, NdS, NdF, hw, heta, Int.cast_ofNat_Int, Int.reduceLT, Int.reduceLE, Int.reduceEq, Int.toNat_one, Int.toNat_zero, Int.reduceToNat, Int.reduceNeg, decide_true, decide_false] <;> with_reducible rfl) (by decide) ?_
  repeat (refine awp_seq ?_)
  refine awp_cond rfl (by simp only [LS, SS, SX, HS, mkS_cons, mkS_nil, ↓reduceIte, eq_self', List.map_nil, beq_self_eq_true, Nat.reduceEqDiff, Nat.reduceAdd, Nat.succ_ne_self, vint, NdS, NdF, hw, heta, Int.cast_ofNat_Int, Int.reduceLT, Int.reduceLE, Int.reduceEq, Int.toNat_one, Int.toNat_zero, Int.reduceToNat, Int.reduceNeg, decide_true, decide_false] <;> with_reducible rfl) (fun b0 => ?_) (fun b0 => ?_)
  · -- if t15
    repeat (refine awp_seq ?_)
    refine awp_skip ?_
    refine awp_sel [1, 2] (by simp only [LS, SS, SX, HS, mkS_cons, mkS_nil, ↓reduceIte, eq_self', List.map_nil, beq_self_eq_true, Nat.reduceEqDiff, Nat.reduceAdd, Nat.succ_ne_self, vint, NdS, NdF, hw, heta, Int.cast_ofNat_Int, Int.reduceLT, Int.reduceLE, Int.reduceEq, Int.toNat_one, Int.toNat_zero, Int.reduceToNat, Int.reduceNeg, decide_true, decide_false] <;> with_reducible rfl) ?_
    -- region 7
    repeat (refine awp_seq ?_)
    refine e_eval (by simp only [asq, as0, as1, as2, awanted, aop, aload, ajust, astore, splice, LS, SS, SX, HS, mkS_cons, mkS_nil, ↓reduceIte, eq_self', List.map_nil, beq_self_eq_true, Nat.reduceEqDiff, Nat.reduceAdd, Nat.reduceMul, Nat.reduceLT, Nat.reduceLeDiff, Nat.reducePow, Nat.reduceDiv, Nat.reduceMod, Nat.succ_ne_self, Nat.reduceBEq, Nat.reduceBNe, Tryti24, Trytf24, Trytz24, Trytp24, vint, NdS, NdF, hw, heta, Int.cast_ofNat_Int, Int.reduceLT, Int.reduceLE, Int.reduceEq, Int.toNat_one, Int.toNat_zero, Int.reduceToNat, Int.reduceNeg, decide_true, decide_false] <;> with_reducible rfl) (by decide) ?_
    repeat (refine awp_seq ?_)
    -- leaf 0 ret
    refine awp_ret ⟨.inr rfl, _, (ares_cell 2 24 rfl Tryti24 (by decide) (by simp only [aload, LS, SS, SX, HS, mkS_cons, mkS_nil, ↓reduceIte, eq_self', List.map_nil, beq_self_eq_true, Nat.reduceEqDiff, Nat.reduceAdd, Nat.reduceMul, Nat.reduceLT, Nat.reduceLeDiff, Nat.reducePow, Nat.reduceDiv, Nat.reduceMod, Nat.succ_ne_self, Nat.reduceBEq, Nat.reduceBNe, vint, NdS, NdF, hw, heta, Int.cast_ofNat_Int, Int.reduceLT, Int.reduceLE, Int.reduceEq, Int.toNat_one, Int.toNat_zero, Int.reduceToNat, Int.reduceNeg, decide_true, decide_false] <;> with_reducible rfl)), ?_⟩
    first | (rw [show foldUn m c = m from by simp_all [foldUn]]; exact Nd.enc_drop1 _) | (rw [show foldUn m c = boolN m (decide ((litV c).1 = 0)) from by simp_all [foldUn]]; exact Nd.enc_drop1 _) | (rw [show foldUn m c = intN m (-(litV c).1) from by simp_all [foldUn]]; exact Nd.enc_drop1 _)
  · -- else t15
    refine awp_sel [1, 2, 3, 4] (by simp only [LS, SS, SX, HS, mkS_cons, mkS_nil, ↓reduceIte, eq_self', List.map_nil, beq_self_eq_true, Nat.reduceEqDiff, Nat.reduceAdd, Nat.succ_ne_self, vint, NdS, NdF, hw, heta, Int.cast_ofNat_Int, Int.reduceLT, Int.reduceLE, Int.reduceEq, Int.toNat_one, Int.toNat_zero, Int.reduceToNat, Int.reduceNeg, decide_true, decide_false] <;> with_reducible rfl) ?_
    -- region 3
    repeat (refine awp_seq ?_)
    refine g_eval (by simp only [gsq, gs0, gs1, gs2, gcond, gop, SG, Op.operands, Call.operands, Array.toList_append, aop, afldAddr, ajust, aload, abin, LS, SS, SX, HS, mkS_cons, mkS_nil, ↓reduceIte, eq_self', List.map_nil, beq_self_eq_true, Nat.reduceEqDiff, Nat.reduceAdd, Nat.reduceMul, Nat.reduceLT, Nat.reduceLeDiff, Nat.reducePow, Nat.reduceDiv, Nat.reduceMod, Nat.succ_ne_self, Nat.reduceBEq, Nat.reduceBNe, Tryti9, Trytz9, Trytp9, Tryts9, Tryti24, Trytf24, Trytz24, Trytp24, vint, NdS, NdF, hw, heta, Int.cast_ofNat_Int, Int.reduceLT, Int.reduceLE, Int.reduceEq, Int.toNat_one, Int.toNat_zero, Int.reduceToNat, Int.reduceNeg, decide_true, decide_false] <;> with_reducible rfl) (by decide) (by repeat (first | exact Fin.base _ | with_reducible apply Fin.keep | apply Fin.drop)) ?_
    repeat (refine awp_seq ?_)
    refine awp_cond rfl (by simp only [LS, SS, SX, HS, mkS_cons, mkS_nil, ↓reduceIte, eq_self', List.map_nil, beq_self_eq_true, Nat.reduceEqDiff, Nat.reduceAdd, Nat.succ_ne_self, vint, NdS, NdF, hw, heta, Int.cast_ofNat_Int, Int.reduceLT, Int.reduceLE, Int.reduceEq, Int.toNat_one, Int.toNat_zero, Int.reduceToNat, Int.reduceNeg, decide_true, decide_false] <;> with_reducible rfl) (fun b1 => ?_) (fun b1 => ?_)
    · -- if t18
      -- region 4
      repeat (refine awp_seq ?_)
      refine awp_region ?_
      refine e_take 3 (by simp only [asq, as0, as1, as2, awanted, aop, aload, ajust, abin, LS, SS, SX, HS, mkS_cons, mkS_nil, ↓reduceIte, eq_self', List.map_nil, beq_self_eq_true, Nat.reduceEqDiff, Nat.reduceAdd, Nat.reduceMul, Nat.reduceLT, Nat.reduceLeDiff, Nat.reducePow, Nat.reduceDiv, Nat.reduceMod, Nat.succ_ne_self, Nat.reduceBEq, Nat.reduceBNe, Tryti3, Trytz3, Trytp3, Trytk3, Tryti24, Trytf24, Trytz24, Trytp24, vint, NdS, NdF, hw, heta, Int.cast_ofNat_Int, Int.reduceLT, Int.reduceLE, Int.reduceEq, Int.toNat_one, Int.toNat_zero, Int.reduceToNat, Int.reduceNeg, decide_true, decide_false] <;> with_reducible rfl) (by decide) ?_
      refine aops_pure (by simp only [acall, awanted, LS, SS, SX, HS, mkS_cons, mkS_nil, ↓reduceIte, eq_self', List.map_nil, beq_self_eq_true, Nat.reduceEqDiff, Nat.reduceAdd, Nat.reduceMul, Nat.reduceLT, Nat.reduceLeDiff, Nat.reducePow, Nat.reduceDiv, Nat.reduceMod, Nat.succ_ne_self, Nat.reduceBEq, Nat.reduceBNe, vint, NdS, NdF, hw, heta, Int.cast_ofNat_Int, Int.reduceLT, Int.reduceLE, Int.reduceEq, Int.toNat_one, Int.toNat_zero, Int.reduceToNat, Int.reduceNeg, decide_true, decide_false] <;> with_reducible rfl) (by simp only [acall, awanted, LS, SS, SX, HS, mkS_cons, mkS_nil, ↓reduceIte, eq_self', List.map_nil, beq_self_eq_true, Nat.reduceEqDiff, Nat.reduceAdd, Nat.reduceMul, Nat.reduceLT, Nat.reduceLeDiff, Nat.reducePow, Nat.reduceDiv, Nat.reduceMod, Nat.succ_ne_self, Nat.reduceBEq, Nat.reduceBNe, vint, NdS, NdF, hw, heta, Int.cast_ofNat_Int, Int.reduceLT, Int.reduceLE, Int.reduceEq, Int.toNat_one, Int.toNat_zero, Int.reduceToNat, Int.reduceNeg, decide_true, decide_false]) (by decide) Trygo23 (boolNode m (decide ((litV c).1 = 0)) _) ?_
      refine e_end (by simp only [asq, as0, as1, as2, awanted, aop, astore, splice, LS, SS, SX, HS, mkS_cons, mkS_nil, ↓reduceIte, eq_self', List.map_nil, beq_self_eq_true, Nat.reduceEqDiff, Nat.reduceAdd, Nat.reduceMul, Nat.reduceLT, Nat.reduceLeDiff, Nat.reducePow, Nat.reduceDiv, Nat.reduceMod, Nat.succ_ne_self, Nat.reduceBEq, Nat.reduceBNe, Tryti24, Trytf24, Trytz24, Trytp24, vint, NdS, NdF, hw, heta, Int.cast_ofNat_Int, Int.reduceLT, Int.reduceLE, Int.reduceEq, Int.toNat_one, Int.toNat_zero, Int.reduceToNat, Int.reduceNeg, decide_true, decide_false] <;> with_reducible rfl) (by decide) ?_
      repeat (refine awp_seq ?_)
      -- leaf 1 ret
      refine awp_ret ⟨.inr rfl, _, (ares_cell 2 24 rfl Tryti24 (by decide) (by simp only [aload, LS, SS, SX, HS, mkS_cons, mkS_nil, ↓reduceIte, eq_self', List.map_nil, beq_self_eq_true, Nat.reduceEqDiff, Nat.reduceAdd, Nat.reduceMul, Nat.reduceLT, Nat.reduceLeDiff, Nat.reducePow, Nat.reduceDiv, Nat.reduceMod, Nat.succ_ne_self, Nat.reduceBEq, Nat.reduceBNe, vint, NdS, NdF, hw, heta, Int.cast_ofNat_Int, Int.reduceLT, Int.reduceLE, Int.reduceEq, Int.toNat_one, Int.toNat_zero, Int.reduceToNat, Int.reduceNeg, decide_true, decide_false] <;> with_reducible rfl)), ?_⟩
      first | (rw [show foldUn m c = m from by simp_all [foldUn]]; exact Nd.enc_drop1 _) | (rw [show foldUn m c = boolN m (decide ((litV c).1 = 0)) from by simp_all [foldUn]]; exact Nd.enc_drop1 _) | (rw [show foldUn m c = intN m (-(litV c).1) from by simp_all [foldUn]]; exact Nd.enc_drop1 _)
    · -- else t18
      -- region 5
      repeat (refine awp_seq ?_)
      refine g_eval (by simp only [gsq, gs0, gs1, gs2, gcond, gop, SG, Op.operands, Call.operands, Array.toList_append, aop, afldAddr, ajust, aload, abin, aun, LS, SS, SX, HS, mkS_cons, mkS_nil, ↓reduceIte, eq_self', List.map_nil, beq_self_eq_true, Nat.reduceEqDiff, Nat.reduceAdd, Nat.reduceMul, Nat.reduceLT, Nat.reduceLeDiff, Nat.reducePow, Nat.reduceDiv, Nat.reduceMod, Nat.succ_ne_self, Nat.reduceBEq, Nat.reduceBNe, Tryti3, Trytz3, Trytp3, Trytk3, Tryti9, Trytz9, Trytp9, Tryts9, Tryti24, Trytf24, Trytz24, Trytp24, vint, NdS, NdF, hw, heta, Int.cast_ofNat_Int, Int.reduceLT, Int.reduceLE, Int.reduceEq, Int.toNat_one, Int.toNat_zero, Int.reduceToNat, Int.reduceNeg, decide_true, decide_false] <;> with_reducible rfl) (by decide) (by repeat (first | exact Fin.base _ | with_reducible apply Fin.keep | apply Fin.drop)) ?_
      repeat (refine awp_seq ?_)
      refine awp_cond rfl (by simp only [LS, SS, SX, HS, mkS_cons, mkS_nil, ↓reduceIte, eq_self', List.map_nil, beq_self_eq_true, Nat.reduceEqDiff, Nat.reduceAdd, Nat.succ_ne_self, vint, NdS, NdF, hw, heta, Int.cast_ofNat_Int, Int.reduceLT, Int.reduceLE, Int.reduceEq, Int.toNat_one, Int.toNat_zero, Int.reduceToNat, Int.reduceNeg, decide_true, decide_false] <;> with_reducible rfl) (fun b2 => ?_) (fun b2 => ?_)
      · -- if t29
        refine awp_sel [1, 2, 3] (by simp only [LS, SS, SX, HS, mkS_cons, mkS_nil, ↓reduceIte, eq_self', List.map_nil, beq_self_eq_true, Nat.reduceEqDiff, Nat.reduceAdd, Nat.succ_ne_self, vint, NdS, NdF, hw, heta, Int.cast_ofNat_Int, Int.reduceLT, Int.reduceLE, Int.reduceEq, Int.toNat_one, Int.toNat_zero, Int.reduceToNat, Int.reduceNeg, decide_true, decide_false] <;> with_reducible rfl) ?_
        -- region 6
        repeat (refine awp_seq ?_)
        refine awp_region ?_
        refine e_take 3 (by simp only [asq, as0, as1, as2, awanted, aop, aload, ajust, aun, LS, SS, SX, HS, mkS_cons, mkS_nil, ↓reduceIte, eq_self', List.map_nil, beq_self_eq_true, Nat.reduceEqDiff, Nat.reduceAdd, Nat.reduceMul, Nat.reduceLT, Nat.reduceLeDiff, Nat.reducePow, Nat.reduceDiv, Nat.reduceMod, Nat.succ_ne_self, Nat.reduceBEq, Nat.reduceBNe, Tryti24, Trytf24, Trytz24, Trytp24, vint, NdS, NdF, hw, heta, Int.cast_ofNat_Int, Int.reduceLT, Int.reduceLE, Int.reduceEq, Int.toNat_one, Int.toNat_zero, Int.reduceToNat, Int.reduceNeg, decide_true, decide_false] <;> with_reducible rfl) (by decide) ?_
        refine aops_pure (by simp only [acall, awanted, LS, SS, SX, HS, mkS_cons, mkS_nil, ↓reduceIte, eq_self', List.map_nil, beq_self_eq_true, Nat.reduceEqDiff, Nat.reduceAdd, Nat.reduceMul, Nat.reduceLT, Nat.reduceLeDiff, Nat.reducePow, Nat.reduceDiv, Nat.reduceMod, Nat.succ_ne_self, Nat.reduceBEq, Nat.reduceBNe, vint, NdS, NdF, hw, heta, Int.cast_ofNat_Int, Int.reduceLT, Int.reduceLE, Int.reduceEq, Int.toNat_one, Int.toNat_zero, Int.reduceToNat, Int.reduceNeg, decide_true, decide_false] <;> with_reducible rfl) (by simp only [acall, awanted, LS, SS, SX, HS, mkS_cons, mkS_nil, ↓reduceIte, eq_self', List.map_nil, beq_self_eq_true, Nat.reduceEqDiff, Nat.reduceAdd, Nat.reduceMul, Nat.reduceLT, Nat.reduceLeDiff, Nat.reducePow, Nat.reduceDiv, Nat.reduceMod, Nat.succ_ne_self, Nat.reduceBEq, Nat.reduceBNe, vint, NdS, NdF, hw, heta, Int.cast_ofNat_Int, Int.reduceLT, Int.reduceLE, Int.reduceEq, Int.toNat_one, Int.toNat_zero, Int.reduceToNat, Int.reduceNeg, decide_true, decide_false]) (by decide) Trygo25 (intNode m (-(litV c).1) (by omega) (by omega) _) ?_
        refine e_end (by simp only [asq, as0, as1, as2, awanted, aop, astore, splice, LS, SS, SX, HS, mkS_cons, mkS_nil, ↓reduceIte, eq_self', List.map_nil, beq_self_eq_true, Nat.reduceEqDiff, Nat.reduceAdd, Nat.reduceMul, Nat.reduceLT, Nat.reduceLeDiff, Nat.reducePow, Nat.reduceDiv, Nat.reduceMod, Nat.succ_ne_self, Nat.reduceBEq, Nat.reduceBNe, Tryti24, Trytf24, Trytz24, Trytp24, vint, NdS, NdF, hw, heta, Int.cast_ofNat_Int, Int.reduceLT, Int.reduceLE, Int.reduceEq, Int.toNat_one, Int.toNat_zero, Int.reduceToNat, Int.reduceNeg, decide_true, decide_false] <;> with_reducible rfl) (by decide) ?_
        repeat (refine awp_seq ?_)
        -- leaf 2 ret
        refine awp_ret ⟨.inr rfl, _, (ares_cell 2 24 rfl Tryti24 (by decide) (by simp only [aload, LS, SS, SX, HS, mkS_cons, mkS_nil, ↓reduceIte, eq_self', List.map_nil, beq_self_eq_true, Nat.reduceEqDiff, Nat.reduceAdd, Nat.reduceMul, Nat.reduceLT, Nat.reduceLeDiff, Nat.reducePow, Nat.reduceDiv, Nat.reduceMod, Nat.succ_ne_self, Nat.reduceBEq, Nat.reduceBNe, vint, NdS, NdF, hw, heta, Int.cast_ofNat_Int, Int.reduceLT, Int.reduceLE, Int.reduceEq, Int.toNat_one, Int.toNat_zero, Int.reduceToNat, Int.reduceNeg, decide_true, decide_false] <;> with_reducible rfl)), ?_⟩
        first | (rw [show foldUn m c = m from by simp_all [foldUn]]; exact Nd.enc_drop1 _) | (rw [show foldUn m c = boolN m (decide ((litV c).1 = 0)) from by simp_all [foldUn]]; exact Nd.enc_drop1 _) | (rw [show foldUn m c = intN m (-(litV c).1) from by simp_all [foldUn]]; exact Nd.enc_drop1 _)
      · -- else t29
        repeat (refine awp_seq ?_)
        refine awp_skip ?_
        refine awp_sel [1, 2] (by simp only [LS, SS, SX, HS, mkS_cons, mkS_nil, ↓reduceIte, eq_self', List.map_nil, beq_self_eq_true, Nat.reduceEqDiff, Nat.reduceAdd, Nat.succ_ne_self, vint, NdS, NdF, hw, heta, Int.cast_ofNat_Int, Int.reduceLT, Int.reduceLE, Int.reduceEq, Int.toNat_one, Int.toNat_zero, Int.reduceToNat, Int.reduceNeg, decide_true, decide_false] <;> with_reducible rfl) ?_
        -- region 7
        repeat (refine awp_seq ?_)
        refine e_eval (by simp only [asq, as0, as1, as2, awanted, aop, aload, ajust, astore, splice, LS, SS, SX, HS, mkS_cons, mkS_nil, ↓reduceIte, eq_self', List.map_nil, beq_self_eq_true, Nat.reduceEqDiff, Nat.reduceAdd, Nat.reduceMul, Nat.reduceLT, Nat.reduceLeDiff, Nat.reducePow, Nat.reduceDiv, Nat.reduceMod, Nat.succ_ne_self, Nat.reduceBEq, Nat.reduceBNe, Tryti24, Trytf24, Trytz24, Trytp24, vint, NdS, NdF, hw, heta, Int.cast_ofNat_Int, Int.reduceLT, Int.reduceLE, Int.reduceEq, Int.toNat_one, Int.toNat_zero, Int.reduceToNat, Int.reduceNeg, decide_true, decide_false] <;> with_reducible rfl) (by decide) ?_
        repeat (refine awp_seq ?_)
        -- leaf 3 ret
        refine awp_ret ⟨.inr rfl, _, (ares_cell 2 24 rfl Tryti24 (by decide) (by simp only [aload, LS, SS, SX, HS, mkS_cons, mkS_nil, ↓reduceIte, eq_self', List.map_nil, beq_self_eq_true, Nat.reduceEqDiff, Nat.reduceAdd, Nat.reduceMul, Nat.reduceLT, Nat.reduceLeDiff, Nat.reducePow, Nat.reduceDiv, Nat.reduceMod, Nat.succ_ne_self, Nat.reduceBEq, Nat.reduceBNe, vint, NdS, NdF, hw, heta, Int.cast_ofNat_Int, Int.reduceLT, Int.reduceLE, Int.reduceEq, Int.toNat_one, Int.toNat_zero, Int.reduceToNat, Int.reduceNeg, decide_true, decide_false] <;> with_reducible rfl)), ?_⟩
        have hf : foldUn m c = m := by
          simp at b0 b1 b2
          unfold foldUn
          rw [if_neg (by simp [b0]), if_neg (fun h => by have := b1 h.1; rw [this] at h; cases h.2), if_neg (fun h => by have := b2 h.1 h.2.1; omega)]
        rw [hf]
        exact Nd.enc_drop1 _

end Go.Abs
set_option linter.unusedVariables false
set_option linter.unusedSimpArgs false
set_option maxRecDepth 4000
namespace Go.Abs
open Go.Proofs

theorem nodesEqual_k : ∀ (k : Nat) (a b : Nd), a.size ≤ k → a.W → PC Try.prog 8 [a.enc, b.enc] (.bool (a.eqb b))
  | 0, a, b, h, _ => by cases a; simp [Nd.size] at h
  | k + 1, a, b, h, hw => by
    refine pc_of (N := 74) Try.func8 rfl rfl (by simp) (by simp [Nd.bel]) (.bool _) ?_
    -- region 0
    repeat (refine awp_seq ?_)
    refine e_eval (by simp only [asq, as0, as1, as2, awanted, aop, LS, SS, SX, HS, mkS_cons, mkS_nil, ↓reduceIte, eq_self', List.map_nil, beq_self_eq_true, Nat.reduceEqDiff, Nat.reduceAdd, Nat.reduceMul, Nat.reduceLT, Nat.reduceLeDiff, Nat.reducePow, Nat.reduceDiv, Nat.reduceMod, Nat.succ_ne_self, Nat.reduceBEq, Nat.reduceBNe, Tryti24, Trytf24, Trytz24, Trytp24, vint, NdS, NdF] <;> with_reducible rfl) (by decide) ?_
    -- region 1
    repeat (refine awp_seq ?_)
    refine g_eval (by simp only [gsq, gs0, gs1, gs2, gcond, gop, SG, Op.operands, Call.operands, Array.toList_append, aop, afldAddr, ajust, aload, abin, abuiltin, LS, SS, SX, HS, mkS_cons, mkS_nil, ↓reduceIte, eq_self', List.map_nil, beq_self_eq_true, Nat.reduceEqDiff, Nat.reduceAdd, Nat.reduceMul, Nat.reduceLT, Nat.reduceLeDiff, Nat.reducePow, Nat.reduceDiv, Nat.reduceMod, Nat.succ_ne_self, Nat.reduceBEq, Nat.reduceBNe, Tryti3, Trytz3, Trytp3, Trytk3, Tryti9, Trytz9, Trytp9, Tryts9, Tryti22, Tryte22, Trytz22, Trytp22, Tryti24, Trytf24, Trytz24, Trytp24, vint, NdS, NdF] <;> with_reducible rfl) (by decide) (by repeat (first | exact Fin.base _ | with_reducible apply Fin.keep | apply Fin.drop)) ?_
    repeat (refine awp_seq ?_)
    refine awp_cond rfl (by simp only [LS, SS, SX, HS, mkS_cons, mkS_nil, ↓reduceIte, eq_self', List.map_nil, beq_self_eq_true, Nat.reduceEqDiff, Nat.reduceAdd, Nat.succ_ne_self, vint, NdS, NdF] <;> with_reducible rfl) (fun bt54 => ?_) (fun bt54 => ?_)
    · -- if t54
      have hf : a.eqb b = false := by
        cases hq : a.eqb b with
        | false => rfl
        | true => have := (Nd.eqb_iff a b).1 hq; subst this; simp at bt54
      refine awp_sel [] (by simp only [LS, SS, SX, HS, mkS_cons, mkS_nil, ↓reduceIte, eq_self', List.map_nil, beq_self_eq_true, Nat.reduceEqDiff, Nat.reduceAdd, Nat.succ_ne_self, vint, NdS, NdF] <;> with_reducible rfl) ?_
      -- region 2
      repeat (refine awp_seq ?_)
      refine e_eval (by simp only [asq, as0, as1, as2, awanted, aop, LS, SS, SX, HS, mkS_cons, mkS_nil, ↓reduceIte, eq_self', List.map_nil, beq_self_eq_true, Nat.reduceEqDiff, Nat.reduceAdd, Nat.reduceMul, Nat.reduceLT, Nat.reduceLeDiff, Nat.reducePow, Nat.reduceDiv, Nat.reduceMod, Nat.succ_ne_self, Nat.reduceBEq, Nat.reduceBNe, vint, NdS, NdF] <;> with_reducible rfl) (by decide) ?_
      repeat (refine awp_seq ?_)
      -- leaf 0 ret
      refine awp_ret ⟨.inr rfl, _, rfl, ?_⟩
      first | (rw [hf]; rfl) | (rw [ht]; rfl)
    · -- else t54
      have hq : a.kind = b.kind ∧ a.value = b.value ∧ a.text = b.text ∧ a.st = b.st ∧ a.en = b.en ∧ a.ns = b.ns ∧ a.kids.length = b.kids.length := by simp at bt54; simp_all; omega
      have hlen := hq.2.2.2.2.2.2
      repeat (refine awp_seq ?_)
      refine awp_skip ?_
      refine awp_sel [2, 3] (by simp only [LS, SS, SX, HS, mkS_cons, mkS_nil, ↓reduceIte, eq_self', List.map_nil, beq_self_eq_true, Nat.reduceEqDiff, Nat.reduceAdd, Nat.succ_ne_self, vint, NdS, NdF] <;> with_reducible rfl) ?_
      -- region 3
      repeat (refine awp_seq ?_)
      refine e_eval (by simp only [asq, as0, as1, as2, awanted, aop, afldAddr, ajust, aload, abuiltin, LS, SS, SX, HS, mkS_cons, mkS_nil, ↓reduceIte, eq_self', List.map_nil, beq_self_eq_true, Nat.reduceEqDiff, Nat.reduceAdd, Nat.reduceMul, Nat.reduceLT, Nat.reduceLeDiff, Nat.reducePow, Nat.reduceDiv, Nat.reduceMod, Nat.succ_ne_self, Nat.reduceBEq, Nat.reduceBNe, Tryti22, Tryte22, Trytz22, Trytp22, Tryti24, Trytf24, Trytz24, Trytp24, vint, NdS, NdF] <;> with_reducible rfl) (by decide) ?_
      repeat (refine awp_seq ?_)
      refine awp_forS (σ := Unit) (a.kids.length) (fun (s : Unit) => [(2, .optr 0 0), (3, .optr 1 0)]) [2, 3] ([]) (fun (s : Unit) => [.row a.enc.cells, .row b.enc.cells]) (fun (i : Nat) (s : Unit) => a.kids.take i = b.kids.take i) (()) ([]) rfl rfl rfl rfl rfl rfl rfl rfl rfl (by decide) (by decide) (by decide) (fun _ => rfl) (hw.lenMax) ⟨(by first | rfl | (simp only [LS, SS, SX, HS, mkS_cons, mkS_nil, ↓reduceIte, eq_self', List.map_nil, beq_self_eq_true, Nat.reduceEqDiff, Nat.reduceAdd, Nat.succ_ne_self, vint, NdS, NdF] <;> first | done | with_reducible rfl)), (by first | rfl | (simp only [LS, SS, SX, HS, mkS_cons, mkS_nil, ↓reduceIte, eq_self', List.map_nil, beq_self_eq_true, Nat.reduceEqDiff, Nat.reduceAdd, Nat.succ_ne_self, vint, NdS, NdF] <;> first | done | with_reducible rfl)), (by first | rfl | (simp only [LS, SS, SX, HS, mkS_cons, mkS_nil, ↓reduceIte, eq_self', List.map_nil, beq_self_eq_true, Nat.reduceEqDiff, Nat.reduceAdd, Nat.succ_ne_self, vint, NdS, NdF] <;> first | done | with_reducible rfl)), (by first | rfl | (simp only [LS, SS, SX, HS, mkS_cons, mkS_nil, ↓reduceIte, eq_self', List.map_nil, beq_self_eq_true, Nat.reduceEqDiff, Nat.reduceAdd, Nat.succ_ne_self, vint, NdS, NdF] <;> first | done | with_reducible rfl)), trivial⟩ (by first | rfl | (simp only [LS, SS, SX, HS, mkS_cons, mkS_nil, ↓reduceIte, eq_self', List.map_nil, beq_self_eq_true, Nat.reduceEqDiff, Nat.reduceAdd, Nat.succ_ne_self, vint, NdS, NdF] <;> first | done | with_reducible rfl)) (by simp) (fun _ _ _ => by first | exact Nat.zero_le _ | (simp only [List.length_append]; omega)) ?_ ?_ ?_
      · intro i s hg
        simp only [List.nil_append, NdS]
        refine ⟨?_, by repeat (first | exact BelL.nil | refine BelL.cons (by first | exact bel_Nd _ _ | exact Nd.bel _ _ | exact Bel.int _ _ | exact Bel.bool _ | exact Bel.str _ | exact Bel.nilp | exact Bel.nilfn | exact Bel.optr _ _ (by simp) | exact bel_nil0 _ | exact bel_nil1 _ | exact bel_fn0 _ _ | assumption) ?_)⟩
        repeat (first | exact hbel_nil _ | exact trivial | exact obel_row_nil _ | (refine HBel.cons ?_ ?_) | (refine obel_row_cons (by first | exact bel_Nd _ _ | exact Nd.bel _ _ | exact Bel.int _ _ | exact Bel.bool _ | exact Bel.str _ | exact Bel.nilp | exact Bel.nilfn | exact Bel.optr _ _ (by simp) | exact bel_nil0 _ | exact bel_nil1 _ | exact bel_fn0 _ _ | assumption) ?_))
      · intro i s hi hg
        have g1 := ix_nat hi
        have hi2 : i < b.kids.length := by omega
        have g3 := ix_nat hi2
        have g2 := get_enc Nd.enc hi
        have g4 := get_enc Nd.enc hi2
        have hmem : a.kids[i] ∈ a.kids := List.getElem_mem hi
        have hsa := Nd.size_kid hmem
        -- region 5
        repeat (refine awp_seq ?_)
        refine e_eval (by simp only [asq, as0, as1, as2, awanted, aop, LS, SS, SX, HS, mkS_cons, mkS_nil, ↓reduceIte, eq_self', List.map_nil, beq_self_eq_true, Nat.reduceEqDiff, Nat.reduceAdd, Nat.reduceMul, Nat.reduceLT, Nat.reduceLeDiff, Nat.reducePow, Nat.reduceDiv, Nat.reduceMod, Nat.succ_ne_self, Nat.reduceBEq, Nat.reduceBNe, vint, NdS, NdF, g1, Int.toNat_natCast, g2, g3, g4] <;> with_reducible rfl) (by decide) ?_
        -- region 6
        repeat (refine awp_seq ?_)
        refine awp_draw 0 (by kernel_rfl) ?_
        refine d_take (bm := [0, 1, 0, 7, 15, 0, 32, 0, 224, 480, 1023, 2047]) 10 (fresh := 0) (by kernel_rfl) (by simp only [dsq, ds0, ds1, ds2, ds3, awanted, hapB, effIds, effSet, nextFresh, ard, freshOk, isUnborn, aop, afldAddr, ajust, aload, aidxAddr, aidx, LS, SS, SX, HS, mkS_cons, mkS_nil, ↓reduceIte, eq_self', List.map_nil, beq_self_eq_true, Nat.reduceEqDiff, Nat.reduceAdd, Nat.reduceMul, Nat.reduceLT, Nat.reduceLeDiff, Nat.reducePow, Nat.reduceDiv, Nat.reduceMod, Nat.succ_ne_self, Nat.reduceBEq, Nat.reduceBNe, Tryti22, Tryte22, Trytz22, Trytp22, Tryti24, Trytf24, Trytz24, Trytp24, vint, NdS, NdF, g1, Int.toNat_natCast, g2, g3, g4] <;> with_reducible rfl) (by decide) (by decide) ?_
        refine dops_keep (bm := [0, 1, 0, 7, 15, 0, 32, 0, 224, 480, 1023, 2047]) ([]) (by kernel_rfl) (by simp only [acall, awanted, LS, SS, SX, HS, mkS_cons, mkS_nil, ↓reduceIte, eq_self', List.map_nil, beq_self_eq_true, Nat.reduceEqDiff, Nat.reduceAdd, Nat.reduceMul, Nat.reduceLT, Nat.reduceLeDiff, Nat.reducePow, Nat.reduceDiv, Nat.reduceMod, Nat.succ_ne_self, Nat.reduceBEq, Nat.reduceBNe, vint, NdS, NdF, g1, Int.toNat_natCast, g2, g3, g4] <;> with_reducible rfl) (by simp only [acall, awanted, LS, SS, SX, HS, mkS_cons, mkS_nil, ↓reduceIte, eq_self', List.map_nil, beq_self_eq_true, Nat.reduceEqDiff, Nat.reduceAdd, Nat.reduceMul, Nat.reduceLT, Nat.reduceLeDiff, Nat.reducePow, Nat.reduceDiv, Nat.reduceMod, Nat.succ_ne_self, Nat.reduceBEq, Nat.reduceBNe, vint, NdS, NdF, g1, Int.toNat_natCast, g2, g3, g4]) (by decide) Trygo8 (fun H' _ => nodesEqual_k k a.kids[i] b.kids[i] (by omega) (hw.kid hmem) H') (by simp only [dsq, ds0, ds1, ds2, ds3, awanted, hapB, effIds, effSet, nextFresh, ard, freshOk, isUnborn, aop, LS, SS, SX, HS, mkS_cons, mkS_nil, ↓reduceIte, eq_self', List.map_nil, beq_self_eq_true, Nat.reduceEqDiff, Nat.reduceAdd, Nat.reduceMul, Nat.reduceLT, Nat.reduceLeDiff, Nat.reducePow, Nat.reduceDiv, Nat.reduceMod, Nat.succ_ne_self, Nat.reduceBEq, Nat.reduceBNe, vint, NdS, NdF, g1, Int.toNat_natCast, g2, g3, g4] <;> first | done | rfl) ?_
        refine d_end (bm := [0, 1, 0, 7, 15, 0, 32, 0, 224, 480, 1023, 2047]) (fresh := 0) (by kernel_rfl) (by simp only [dsq, ds0, ds1, ds2, ds3, awanted, hapB, effIds, effSet, nextFresh, ard, freshOk, isUnborn, aop, aun, ajust, LS, SS, SX, HS, mkS_cons, mkS_nil, ↓reduceIte, eq_self', List.map_nil, beq_self_eq_true, Nat.reduceEqDiff, Nat.reduceAdd, Nat.reduceMul, Nat.reduceLT, Nat.reduceLeDiff, Nat.reducePow, Nat.reduceDiv, Nat.reduceMod, Nat.succ_ne_self, Nat.reduceBEq, Nat.reduceBNe, vint, NdS, NdF, g1, Int.toNat_natCast, g2, g3, g4] <;> with_reducible rfl) (by decide) ?_
        repeat (refine awp_seq ?_)
        refine awp_cond rfl (by simp only [LS, SS, SX, HS, mkS_cons, mkS_nil, ↓reduceIte, eq_self', List.map_nil, beq_self_eq_true, Nat.reduceEqDiff, Nat.reduceAdd, Nat.succ_ne_self, vint, NdS, NdF, g1, Int.toNat_natCast, g2, g3, g4] <;> with_reducible rfl) (fun bt72 => ?_) (fun bt72 => ?_)
        · -- if t72
          have hf : a.eqb b = false := by
            cases hq : a.eqb b with
            | false => rfl
            | true => have := (Nd.eqb_iff a b).1 hq; subst this; simp [Nd.eqb_self] at bt72
          -- region 7
          repeat (refine awp_seq ?_)
          refine e_eval (by simp only [asq, as0, as1, as2, awanted, aop, LS, SS, SX, HS, mkS_cons, mkS_nil, ↓reduceIte, eq_self', List.map_nil, beq_self_eq_true, Nat.reduceEqDiff, Nat.reduceAdd, Nat.reduceMul, Nat.reduceLT, Nat.reduceLeDiff, Nat.reducePow, Nat.reduceDiv, Nat.reduceMod, Nat.succ_ne_self, Nat.reduceBEq, Nat.reduceBNe, vint, NdS, NdF, g1, Int.toNat_natCast, g2, g3, g4] <;> with_reducible rfl) (by decide) ?_
          repeat (refine awp_seq ?_)
          -- leaf 1 ret
          refine awp_ret ⟨.inr rfl, _, rfl, ?_⟩
          first | (rw [hf]; rfl) | (rw [ht]; rfl)
        · -- else t72
          repeat (refine awp_seq ?_)
          refine awp_skip ?_
          -- leaf 2 next0
          have hgt : a.kids[i].eqb b.kids[i] = true := by simpa using bt72
          have he := (Nd.eqb_iff _ _).1 hgt
          exact ⟨⟨rfl, rfl, trivial⟩, (), [], ⟨rfl, rfl, trivial⟩, by simp only [LS, SS, SX, HS, mkS_cons, mkS_nil, ↓reduceIte, eq_self', List.map_nil, beq_self_eq_true, Nat.reduceEqDiff, Nat.reduceAdd, Nat.succ_ne_self, vint, NdS, NdF] <;> rfl, by rw [List.take_succ_eq_append_getElem hi, List.take_succ_eq_append_getElem hi2, hg, he]⟩
      · intro s hg
        rw [List.take_length, hlen, List.take_length] at hg
        have ht : a.eqb b = true := (Nd.eqb_iff a b).2 (by rw [← Nd.eta a, ← Nd.eta b, hq.1, hq.2.1, hq.2.2.1, hq.2.2.2.1, hq.2.2.2.2.1, hq.2.2.2.2.2.1, hg])
        -- region 9
        repeat (refine awp_seq ?_)
        refine e_eval (by simp only [asq, as0, as1, as2, awanted, aop, LS, SS, SX, HS, mkS_cons, mkS_nil, ↓reduceIte, eq_self', List.map_nil, beq_self_eq_true, Nat.reduceEqDiff, Nat.reduceAdd, Nat.reduceMul, Nat.reduceLT, Nat.reduceLeDiff, Nat.reducePow, Nat.reduceDiv, Nat.reduceMod, Nat.succ_ne_self, Nat.reduceBEq, Nat.reduceBNe, vint, NdS, NdF] <;> with_reducible rfl) (by decide) ?_
        repeat (refine awp_seq ?_)
        -- leaf 3 ret
        refine awp_ret ⟨.inr rfl, _, rfl, ?_⟩
        first | (rw [hf]; rfl) | (rw [ht]; rfl)

end Go.Abs
set_option linter.unusedVariables false
set_option linter.unusedSimpArgs false
set_option maxRecDepth 4000
namespace Go.Abs
open Go.Proofs

theorem arith_rng {op : List UInt8} {a b r : Int} (h : arith op a b = some r) : -2147483648 < r ∧ r ≤ 2147483647 := by
  unfold arith at h
  simp only at h
  split at h
  · split at h
    · rename_i hq; cases h; exact hq
    · cases h
  · cases h

theorem foldBin_c (m c0 c1 : Nd) (hks : m.kids = [c0, c1]) : PC Try.prog 16 [m.enc] (foldBin m c0 c1).enc := by
  have hr0 := lit_rng c0
  have hr1 := lit_rng c1
  have heta : Nd.mk m.kind m.value m.text m.st m.en m.ns [c0, c1] = m := by rw [← hks, Nd.eta]
  refine pc_of (N := 98) Try.func16 rfl rfl (by simp) (by simp [Nd.bel]) (Nd.bel _ _) ?_
  -- region 0
  repeat (refine awp_seq ?_)
  refine e_eval (by simp only [asq, as0, as1, as2, awanted, aop, LS, SS, SX, HS, mkS_cons, mkS_nil, ↓reduceIte, eq_self', List.map_nil, beq_self_eq_true, Nat.reduceEqDiff, Nat.reduceAdd, Nat.reduceMul, Nat.reduceLT, Nat.reduceLeDiff, Nat.reducePow, Nat.reduceDiv, Nat.reduceMod, Nat.succ_ne_self, Nat.reduceBEq, Nat.reduceBNe, Tryti24, Trytf24, Trytz24, Trytp24, vint, NdS, NdF, heta, Int.cast_ofNat_Int, Int.reduceLT, Int.reduceLE, Int.reduceEq, Int.toNat_one, Int.toNat_zero, Int.reduceToNat, Int.reduceNeg, decide_true, decide_false] <;> with_reducible rfl) (by decide) ?_
  -- region 1
  repeat (refine awp_seq ?_)
  refine awp_region ?_
  refine e_take 4 (by simp only [asq, as0, as1, as2, awanted, aop, afldAddr, ajust, aload, aidxAddr, aidx, LS, SS, SX, HS, mkS_cons, mkS_nil, ↓reduceIte, eq_self', List.map_nil, beq_self_eq_true, Nat.reduceEqDiff, Nat.reduceAdd, Nat.reduceMul, Nat.reduceLT, Nat.reduceLeDiff, Nat.reducePow, Nat.reduceDiv, Nat.reduceMod, Nat.succ_ne_self, Nat.reduceBEq, Nat.reduceBNe, Tryti22, Tryte22, Trytz22, Trytp22, Tryti24, Trytf24, Trytz24, Trytp24, vint, NdS, NdF, heta, Int.cast_ofNat_Int, Int.reduceLT, Int.reduceLE, Int.reduceEq, Int.toNat_one, Int.toNat_zero, Int.reduceToNat, Int.reduceNeg, decide_true, decide_false, hks] <;> with_reducible rfl) (by decide) ?_
  refine aops_pure (by simp only [acall, awanted, LS, SS, SX, HS, mkS_cons, mkS_nil, ↓reduceIte, eq_self', List.map_nil, beq_self_eq_true, Nat.reduceEqDiff, Nat.reduceAdd, Nat.reduceMul, Nat.reduceLT, Nat.reduceLeDiff, Nat.reducePow, Nat.reduceDiv, Nat.reduceMod, Nat.succ_ne_self, Nat.reduceBEq, Nat.reduceBNe, vint, NdS, NdF, heta, Int.cast_ofNat_Int, Int.reduceLT, Int.reduceLE, Int.reduceEq, Int.toNat_one, Int.toNat_zero, Int.reduceToNat, Int.reduceNeg, decide_true, decide_false, hks] <;> with_reducible rfl) (by simp only [acall, awanted, LS, SS, SX, HS, mkS_cons, mkS_nil, ↓reduceIte, eq_self', List.map_nil, beq_self_eq_true, Nat.reduceEqDiff, Nat.reduceAdd, Nat.reduceMul, Nat.reduceLT, Nat.reduceLeDiff, Nat.reducePow, Nat.reduceDiv, Nat.reduceMod, Nat.succ_ne_self, Nat.reduceBEq, Nat.reduceBNe, vint, NdS, NdF, heta, Int.cast_ofNat_Int, Int.reduceLT, Int.reduceLE, Int.reduceEq, Int.toNat_one, Int.toNat_zero, Int.reduceToNat, Int.reduceNeg, decide_true, decide_false, hks]) (by decide) Trygo11 (value_c c0 _) ?_
  refine e_end (by simp only [asq, as0, as1, as2, awanted, aop, ajust, LS, SS, SX, HS, mkS_cons, mkS_nil, ↓reduceIte, eq_self', List.map_nil, beq_self_eq_true, Nat.reduceEqDiff, Nat.reduceAdd, Nat.reduceMul, Nat.reduceLT, Nat.reduceLeDiff, Nat.reducePow, Nat.reduceDiv, Nat.reduceMod, Nat.succ_ne_self, Nat.reduceBEq, Nat.reduceBNe, vint, NdS, NdF, heta, Int.cast_ofNat_Int, Int.reduceLT, Int.reduceLE, Int.reduceEq, Int.toNat_one, Int.toNat_zero, Int.reduceToNat, Int.reduceNeg, decide_true, decide_false, hks] <;> with_reducible rfl) (by decide) ?_
  -- region 2
  repeat (refine awp_seq ?_)
  refine e_eval (by simp only [asq, as0, as1, as2, awanted, aop, aun, ajust, LS, SS, SX, HS, mkS_cons, mkS_nil, ↓reduceIte, eq_self', List.map_nil, beq_self_eq_true, Nat.reduceEqDiff, Nat.reduceAdd, Nat.reduceMul, Nat.reduceLT, Nat.reduceLeDiff, Nat.reducePow, Nat.reduceDiv, Nat.reduceMod, Nat.succ_ne_self, Nat.reduceBEq, Nat.reduceBNe, vint, NdS, NdF, heta, Int.cast_ofNat_Int, Int.reduceLT, Int.reduceLE, Int.reduceEq, Int.toNat_one, Int.toNat_zero, Int.reduceToNat, Int.reduceNeg, decide_true, decide_false] <;> with_reducible rfl) (by decide) ?_
  repeat (refine awp_seq ?_)
  refine awp_cond rfl (by simp only [LS, SS, SX, HS, mkS_cons, mkS_nil, ↓reduceIte, eq_self', List.map_nil, beq_self_eq_true, Nat.reduceEqDiff, Nat.reduceAdd, Nat.succ_ne_self, vint, NdS, NdF, heta, Int.cast_ofNat_Int, Int.reduceLT, Int.reduceLE, Int.reduceEq, Int.toNat_one, Int.toNat_zero, Int.reduceToNat, Int.reduceNeg, decide_true, decide_false] <;> with_reducible rfl) (fun b0 => ?_) (fun b0 => ?_)
  · -- if t20
    refine awp_sel [1, 2] (by simp only [LS, SS, SX, HS, mkS_cons, mkS_nil, ↓reduceIte, eq_self', List.map_nil, beq_self_eq_true, Nat.reduceEqDiff, Nat.reduceAdd, Nat.succ_ne_self, vint, NdS, NdF, heta, Int.cast_ofNat_Int, Int.reduceLT, Int.reduceLE, Int.reduceEq, Int.toNat_one, Int.toNat_zero, Int.reduceToNat, Int.reduceNeg, decide_true, decide_false] <;> with_reducible rfl) ?_
    -- region 3
    repeat (refine awp_seq ?_)
    refine e_eval (by simp only [asq, as0, as1, as2, awanted, aop, aload, ajust, astore, splice, LS, SS, SX, HS, mkS_cons, mkS_nil, ↓reduceIte, eq_self', List.map_nil, beq_self_eq_true, Nat.reduceEqDiff, Nat.reduceAdd, Nat.reduceMul, Nat.reduceLT, Nat.reduceLeDiff, Nat.reducePow, Nat.reduceDiv, Nat.reduceMod, Nat.succ_ne_self, Nat.reduceBEq, Nat.reduceBNe, Tryti24, Trytf24, Trytz24, Trytp24, vint, NdS, NdF, heta, Int.cast_ofNat_Int, Int.reduceLT, Int.reduceLE, Int.reduceEq, Int.toNat_one, Int.toNat_zero, Int.reduceToNat, Int.reduceNeg, decide_true, decide_false] <;> with_reducible rfl) (by decide) ?_
    repeat (refine awp_seq ?_)
    -- leaf 0 ret
    refine awp_ret ⟨.inr rfl, _, (ares_cell 2 24 rfl Tryti24 (by decide) (by simp only [aload, LS, SS, SX, HS, mkS_cons, mkS_nil, ↓reduceIte, eq_self', List.map_nil, beq_self_eq_true, Nat.reduceEqDiff, Nat.reduceAdd, Nat.reduceMul, Nat.reduceLT, Nat.reduceLeDiff, Nat.reducePow, Nat.reduceDiv, Nat.reduceMod, Nat.succ_ne_self, Nat.reduceBEq, Nat.reduceBNe, vint, NdS, NdF, heta, Int.cast_ofNat_Int, Int.reduceLT, Int.reduceLE, Int.reduceEq, Int.toNat_one, Int.toNat_zero, Int.reduceToNat, Int.reduceNeg, decide_true, decide_false] <;> with_reducible rfl)), ?_⟩
    rw [show foldBin m c0 c1 = m from by simp_all [foldBin]]
    exact Nd.enc_drop1 _
  · -- else t20
    repeat (refine awp_seq ?_)
    refine awp_skip ?_
    refine awp_sel [1, 2, 3, 4] (by simp only [LS, SS, SX, HS, mkS_cons, mkS_nil, ↓reduceIte, eq_self', List.map_nil, beq_self_eq_true, Nat.reduceEqDiff, Nat.reduceAdd, Nat.succ_ne_self, vint, NdS, NdF, heta, Int.cast_ofNat_Int, Int.reduceLT, Int.reduceLE, Int.reduceEq, Int.toNat_one, Int.toNat_zero, Int.reduceToNat, Int.reduceNeg, decide_true, decide_false] <;> with_reducible rfl) ?_
    -- region 4
    repeat (refine awp_seq ?_)
    refine g_eval (by simp only [gsq, gs0, gs1, gs2, gcond, gop, SG, Op.operands, Call.operands, Array.toList_append, aop, afldAddr, ajust, aload, abin, LS, SS, SX, HS, mkS_cons, mkS_nil, ↓reduceIte, eq_self', List.map_nil, beq_self_eq_true, Nat.reduceEqDiff, Nat.reduceAdd, Nat.reduceMul, Nat.reduceLT, Nat.reduceLeDiff, Nat.reducePow, Nat.reduceDiv, Nat.reduceMod, Nat.succ_ne_self, Nat.reduceBEq, Nat.reduceBNe, Tryti9, Trytz9, Trytp9, Tryts9, Tryti24, Trytf24, Trytz24, Trytp24, vint, NdS, NdF, heta, Int.cast_ofNat_Int, Int.reduceLT, Int.reduceLE, Int.reduceEq, Int.toNat_one, Int.toNat_zero, Int.reduceToNat, Int.reduceNeg, decide_true, decide_false] <;> with_reducible rfl) (by decide) (by repeat (first | exact Fin.base _ | with_reducible apply Fin.keep | apply Fin.drop)) ?_
    repeat (refine awp_seq ?_)
    refine awp_cond rfl (by simp only [LS, SS, SX, HS, mkS_cons, mkS_nil, ↓reduceIte, eq_self', List.map_nil, beq_self_eq_true, Nat.reduceEqDiff, Nat.reduceAdd, Nat.succ_ne_self, vint, NdS, NdF, heta, Int.cast_ofNat_Int, Int.reduceLT, Int.reduceLE, Int.reduceEq, Int.toNat_one, Int.toNat_zero, Int.reduceToNat, Int.reduceNeg, decide_true, decide_false] <;> with_reducible rfl) (fun b1 => ?_) (fun b1 => ?_)
    · -- if t32
      -- region 5
      repeat (refine awp_seq ?_)
      refine e_eval (by simp only [asq, as0, as1, as2, awanted, aop, afldAddr, ajust, aload, abin, LS, SS, SX, HS, mkS_cons, mkS_nil, ↓reduceIte, eq_self', List.map_nil, beq_self_eq_true, Nat.reduceEqDiff, Nat.reduceAdd, Nat.reduceMul, Nat.reduceLT, Nat.reduceLeDiff, Nat.reducePow, Nat.reduceDiv, Nat.reduceMod, Nat.succ_ne_self, Nat.reduceBEq, Nat.reduceBNe, Tryti3, Trytz3, Trytp3, Trytk3, Tryti4, Trytz4, Trytp4, Trytb4, Tryti9, Trytz9, Trytp9, Tryts9, Tryti24, Trytf24, Trytz24, Trytp24, vint, NdS, NdF, heta, Int.cast_ofNat_Int, Int.reduceLT, Int.reduceLE, Int.reduceEq, Int.toNat_one, Int.toNat_zero, Int.reduceToNat, Int.reduceNeg, decide_true, decide_false] <;> with_reducible rfl) (by decide) ?_
      repeat (refine awp_seq ?_)
      refine awp_cond rfl (by simp only [LS, SS, SX, HS, mkS_cons, mkS_nil, ↓reduceIte, eq_self', List.map_nil, beq_self_eq_true, Nat.reduceEqDiff, Nat.reduceAdd, Nat.succ_ne_self, vint, NdS, NdF, heta, Int.cast_ofNat_Int, Int.reduceLT, Int.reduceLE, Int.reduceEq, Int.toNat_one, Int.toNat_zero, Int.reduceToNat, Int.reduceNeg, decide_true, decide_false] <;> with_reducible rfl) (fun b2 => ?_) (fun b2 => ?_)
      · -- if t38
        refine awp_sel [1, 2] (by simp only [LS, SS, SX, HS, mkS_cons, mkS_nil, ↓reduceIte, eq_self', List.map_nil, beq_self_eq_true, Nat.reduceEqDiff, Nat.reduceAdd, Nat.succ_ne_self, vint, NdS, NdF, heta, Int.cast_ofNat_Int, Int.reduceLT, Int.reduceLE, Int.reduceEq, Int.toNat_one, Int.toNat_zero, Int.reduceToNat, Int.reduceNeg, decide_true, decide_false] <;> with_reducible rfl) ?_
        -- region 6
        repeat (refine awp_seq ?_)
        refine e_eval (by simp only [asq, as0, as1, as2, awanted, aop, afldAddr, ajust, aload, aidxAddr, aidx, astore, splice, LS, SS, SX, HS, mkS_cons, mkS_nil, ↓reduceIte, eq_self', List.map_nil, beq_self_eq_true, Nat.reduceEqDiff, Nat.reduceAdd, Nat.reduceMul, Nat.reduceLT, Nat.reduceLeDiff, Nat.reducePow, Nat.reduceDiv, Nat.reduceMod, Nat.succ_ne_self, Nat.reduceBEq, Nat.reduceBNe, Tryti22, Tryte22, Trytz22, Trytp22, Tryti24, Trytf24, Trytz24, Trytp24, vint, NdS, NdF, heta, Int.cast_ofNat_Int, Int.reduceLT, Int.reduceLE, Int.reduceEq, Int.toNat_one, Int.toNat_zero, Int.reduceToNat, Int.reduceNeg, decide_true, decide_false, hks] <;> with_reducible rfl) (by decide) ?_
        repeat (refine awp_seq ?_)
        -- leaf 1 ret
        refine awp_ret ⟨.inr rfl, _, (ares_cell 2 24 rfl Tryti24 (by decide) (by simp only [aload, LS, SS, SX, HS, mkS_cons, mkS_nil, ↓reduceIte, eq_self', List.map_nil, beq_self_eq_true, Nat.reduceEqDiff, Nat.reduceAdd, Nat.reduceMul, Nat.reduceLT, Nat.reduceLeDiff, Nat.reducePow, Nat.reduceDiv, Nat.reduceMod, Nat.succ_ne_self, Nat.reduceBEq, Nat.reduceBNe, vint, NdS, NdF, heta, Int.cast_ofNat_Int, Int.reduceLT, Int.reduceLE, Int.reduceEq, Int.toNat_one, Int.toNat_zero, Int.reduceToNat, Int.reduceNeg, decide_true, decide_false] <;> with_reducible rfl)), ?_⟩
        have hp : (litV c0).2.1 = true ∧ (m.text = [38, 38] ∨ m.text = [124, 124]) := by simpa using b1
        have hz : (litV c0).2.2 = true := by simpa using b0
        have he : decide (m.text = [38, 38]) = decide ((litV c0).1 = 1) := by simpa using b2
        rw [show foldBin m c0 c1 = c1 from by unfold foldBin; rw [if_neg (by rw [hz]; simp), if_pos hp, if_pos he]]
        exact Nd.enc_drop1 _
      · -- else t38
        repeat (refine awp_seq ?_)
        refine awp_skip ?_
        refine awp_sel [1, 2, 3] (by simp only [LS, SS, SX, HS, mkS_cons, mkS_nil, ↓reduceIte, eq_self', List.map_nil, beq_self_eq_true, Nat.reduceEqDiff, Nat.reduceAdd, Nat.succ_ne_self, vint, NdS, NdF, heta, Int.cast_ofNat_Int, Int.reduceLT, Int.reduceLE, Int.reduceEq, Int.toNat_one, Int.toNat_zero, Int.reduceToNat, Int.reduceNeg, decide_true, decide_false] <;> with_reducible rfl) ?_
        -- region 7
        repeat (refine awp_seq ?_)
        refine awp_region ?_
        refine e_take 3 (by simp only [asq, as0, as1, as2, awanted, aop, aload, ajust, abin, LS, SS, SX, HS, mkS_cons, mkS_nil, ↓reduceIte, eq_self', List.map_nil, beq_self_eq_true, Nat.reduceEqDiff, Nat.reduceAdd, Nat.reduceMul, Nat.reduceLT, Nat.reduceLeDiff, Nat.reducePow, Nat.reduceDiv, Nat.reduceMod, Nat.succ_ne_self, Nat.reduceBEq, Nat.reduceBNe, Tryti3, Trytz3, Trytp3, Trytk3, Tryti24, Trytf24, Trytz24, Trytp24, vint, NdS, NdF, heta, Int.cast_ofNat_Int, Int.reduceLT, Int.reduceLE, Int.reduceEq, Int.toNat_one, Int.toNat_zero, Int.reduceToNat, Int.reduceNeg, decide_true, decide_false] <;> with_reducible rfl) (by decide) ?_
        refine aops_pure (by simp only [acall, awanted, LS, SS, SX, HS, mkS_cons, mkS_nil, ↓reduceIte, eq_self', List.map_nil, beq_self_eq_true, Nat.reduceEqDiff, Nat.reduceAdd, Nat.reduceMul, Nat.reduceLT, Nat.reduceLeDiff, Nat.reducePow, Nat.reduceDiv, Nat.reduceMod, Nat.succ_ne_self, Nat.reduceBEq, Nat.reduceBNe, vint, NdS, NdF, heta, Int.cast_ofNat_Int, Int.reduceLT, Int.reduceLE, Int.reduceEq, Int.toNat_one, Int.toNat_zero, Int.reduceToNat, Int.reduceNeg, decide_true, decide_false] <;> with_reducible rfl) (by simp only [acall, awanted, LS, SS, SX, HS, mkS_cons, mkS_nil, ↓reduceIte, eq_self', List.map_nil, beq_self_eq_true, Nat.reduceEqDiff, Nat.reduceAdd, Nat.reduceMul, Nat.reduceLT, Nat.reduceLeDiff, Nat.reducePow, Nat.reduceDiv, Nat.reduceMod, Nat.succ_ne_self, Nat.reduceBEq, Nat.reduceBNe, vint, NdS, NdF, heta, Int.cast_ofNat_Int, Int.reduceLT, Int.reduceLE, Int.reduceEq, Int.toNat_one, Int.toNat_zero, Int.reduceToNat, Int.reduceNeg, decide_true, decide_false]) (by decide) Trygo23 (boolNode m (decide ((litV c0).1 = 1)) _) ?_
        refine e_end (by simp only [asq, as0, as1, as2, awanted, aop, astore, splice, LS, SS, SX, HS, mkS_cons, mkS_nil, ↓reduceIte, eq_self', List.map_nil, beq_self_eq_true, Nat.reduceEqDiff, Nat.reduceAdd, Nat.reduceMul, Nat.reduceLT, Nat.reduceLeDiff, Nat.reducePow, Nat.reduceDiv, Nat.reduceMod, Nat.succ_ne_self, Nat.reduceBEq, Nat.reduceBNe, Tryti24, Trytf24, Trytz24, Trytp24, vint, NdS, NdF, heta, Int.cast_ofNat_Int, Int.reduceLT, Int.reduceLE, Int.reduceEq, Int.toNat_one, Int.toNat_zero, Int.reduceToNat, Int.reduceNeg, decide_true, decide_false] <;> with_reducible rfl) (by decide) ?_
        repeat (refine awp_seq ?_)
        -- leaf 2 ret
        refine awp_ret ⟨.inr rfl, _, (ares_cell 2 24 rfl Tryti24 (by decide) (by simp only [aload, LS, SS, SX, HS, mkS_cons, mkS_nil, ↓reduceIte, eq_self', List.map_nil, beq_self_eq_true, Nat.reduceEqDiff, Nat.reduceAdd, Nat.reduceMul, Nat.reduceLT, Nat.reduceLeDiff, Nat.reducePow, Nat.reduceDiv, Nat.reduceMod, Nat.succ_ne_self, Nat.reduceBEq, Nat.reduceBNe, vint, NdS, NdF, heta, Int.cast_ofNat_Int, Int.reduceLT, Int.reduceLE, Int.reduceEq, Int.toNat_one, Int.toNat_zero, Int.reduceToNat, Int.reduceNeg, decide_true, decide_false] <;> with_reducible rfl)), ?_⟩
        rw [show foldBin m c0 c1 = boolN m (decide ((litV c0).1 = 1)) from by simp_all [foldBin]]
        exact Nd.enc_drop1 _
    · -- else t32
      repeat (refine awp_seq ?_)
      refine awp_skip ?_
      -- region 8
      repeat (refine awp_seq ?_)
      refine awp_region ?_
      refine e_take 4 (by simp only [asq, as0, as1, as2, awanted, aop, afldAddr, ajust, aload, aidxAddr, aidx, LS, SS, SX, HS, mkS_cons, mkS_nil, ↓reduceIte, eq_self', List.map_nil, beq_self_eq_true, Nat.reduceEqDiff, Nat.reduceAdd, Nat.reduceMul, Nat.reduceLT, Nat.reduceLeDiff, Nat.reducePow, Nat.reduceDiv, Nat.reduceMod, Nat.succ_ne_self, Nat.reduceBEq, Nat.reduceBNe, Tryti22, Tryte22, Trytz22, Trytp22, Tryti24, Trytf24, Trytz24, Trytp24, vint, NdS, NdF, heta, Int.cast_ofNat_Int, Int.reduceLT, Int.reduceLE, Int.reduceEq, Int.toNat_one, Int.toNat_zero, Int.reduceToNat, Int.reduceNeg, decide_true, decide_false, hks] <;> with_reducible rfl) (by decide) ?_
      refine aops_pure (by simp only [acall, awanted, LS, SS, SX, HS, mkS_cons, mkS_nil, ↓reduceIte, eq_self', List.map_nil, beq_self_eq_true, Nat.reduceEqDiff, Nat.reduceAdd, Nat.reduceMul, Nat.reduceLT, Nat.reduceLeDiff, Nat.reducePow, Nat.reduceDiv, Nat.reduceMod, Nat.succ_ne_self, Nat.reduceBEq, Nat.reduceBNe, vint, NdS, NdF, heta, Int.cast_ofNat_Int, Int.reduceLT, Int.reduceLE, Int.reduceEq, Int.toNat_one, Int.toNat_zero, Int.reduceToNat, Int.reduceNeg, decide_true, decide_false, hks] <;> with_reducible rfl) (by simp only [acall, awanted, LS, SS, SX, HS, mkS_cons, mkS_nil, ↓reduceIte, eq_self', List.map_nil, beq_self_eq_true, Nat.reduceEqDiff, Nat.reduceAdd, Nat.reduceMul, Nat.reduceLT, Nat.reduceLeDiff, Nat.reducePow, Nat.reduceDiv, Nat.reduceMod, Nat.succ_ne_self, Nat.reduceBEq, Nat.reduceBNe, vint, NdS, NdF, heta, Int.cast_ofNat_Int, Int.reduceLT, Int.reduceLE, Int.reduceEq, Int.toNat_one, Int.toNat_zero, Int.reduceToNat, Int.reduceNeg, decide_true, decide_false, hks]) (by decide) Trygo11 (value_c c1 _) ?_
      refine e_end (by simp only [asq, as0, as1, as2, awanted, aop, ajust, LS, SS, SX, HS, mkS_cons, mkS_nil, ↓reduceIte, eq_self', List.map_nil, beq_self_eq_true, Nat.reduceEqDiff, Nat.reduceAdd, Nat.reduceMul, Nat.reduceLT, Nat.reduceLeDiff, Nat.reducePow, Nat.reduceDiv, Nat.reduceMod, Nat.succ_ne_self, Nat.reduceBEq, Nat.reduceBNe, vint, NdS, NdF, heta, Int.cast_ofNat_Int, Int.reduceLT, Int.reduceLE, Int.reduceEq, Int.toNat_one, Int.toNat_zero, Int.reduceToNat, Int.reduceNeg, decide_true, decide_false, hks] <;> with_reducible rfl) (by decide) ?_
      refine awp_sel [1, 2, 3, 4, 5, 6, 7] (by simp only [LS, SS, SX, HS, mkS_cons, mkS_nil, ↓reduceIte, eq_self', List.map_nil, beq_self_eq_true, Nat.reduceEqDiff, Nat.reduceAdd, Nat.succ_ne_self, vint, NdS, NdF, heta, Int.cast_ofNat_Int, Int.reduceLT, Int.reduceLE, Int.reduceEq, Int.toNat_one, Int.toNat_zero, Int.reduceToNat, Int.reduceNeg, decide_true, decide_false] <;> with_reducible rfl) ?_
      -- region 9
      repeat (refine awp_seq ?_)
      refine g_eval (by simp only [gsq, gs0, gs1, gs2, gcond, gop, SG, Op.operands, Call.operands, Array.toList_append, aop, aun, ajust, abin, LS, SS, SX, HS, mkS_cons, mkS_nil, ↓reduceIte, eq_self', List.map_nil, beq_self_eq_true, Nat.reduceEqDiff, Nat.reduceAdd, Nat.reduceMul, Nat.reduceLT, Nat.reduceLeDiff, Nat.reducePow, Nat.reduceDiv, Nat.reduceMod, Nat.succ_ne_self, Nat.reduceBEq, Nat.reduceBNe, Tryti4, Trytz4, Trytp4, Trytb4, vint, NdS, NdF, heta, Int.cast_ofNat_Int, Int.reduceLT, Int.reduceLE, Int.reduceEq, Int.toNat_one, Int.toNat_zero, Int.reduceToNat, Int.reduceNeg, decide_true, decide_false] <;> with_reducible rfl) (by decide) (by repeat (first | exact Fin.base _ | with_reducible apply Fin.keep | apply Fin.drop)) ?_
      repeat (refine awp_seq ?_)
      refine awp_cond rfl (by simp only [LS, SS, SX, HS, mkS_cons, mkS_nil, ↓reduceIte, eq_self', List.map_nil, beq_self_eq_true, Nat.reduceEqDiff, Nat.reduceAdd, Nat.succ_ne_self, vint, NdS, NdF, heta, Int.cast_ofNat_Int, Int.reduceLT, Int.reduceLE, Int.reduceEq, Int.toNat_one, Int.toNat_zero, Int.reduceToNat, Int.reduceNeg, decide_true, decide_false] <;> with_reducible rfl) (fun b3 => ?_) (fun b3 => ?_)
      · -- if t62
        -- region 10
        repeat (refine awp_seq ?_)
        refine e_eval (by simp only [asq, as0, as1, as2, awanted, aop, aload, ajust, astore, splice, LS, SS, SX, HS, mkS_cons, mkS_nil, ↓reduceIte, eq_self', List.map_nil, beq_self_eq_true, Nat.reduceEqDiff, Nat.reduceAdd, Nat.reduceMul, Nat.reduceLT, Nat.reduceLeDiff, Nat.reducePow, Nat.reduceDiv, Nat.reduceMod, Nat.succ_ne_self, Nat.reduceBEq, Nat.reduceBNe, Tryti24, Trytf24, Trytz24, Trytp24, vint, NdS, NdF, heta, Int.cast_ofNat_Int, Int.reduceLT, Int.reduceLE, Int.reduceEq, Int.toNat_one, Int.toNat_zero, Int.reduceToNat, Int.reduceNeg, decide_true, decide_false] <;> with_reducible rfl) (by decide) ?_
        repeat (refine awp_seq ?_)
        -- leaf 3 ret
        refine awp_ret ⟨.inr rfl, _, (ares_cell 2 24 rfl Tryti24 (by decide) (by simp only [aload, LS, SS, SX, HS, mkS_cons, mkS_nil, ↓reduceIte, eq_self', List.map_nil, beq_self_eq_true, Nat.reduceEqDiff, Nat.reduceAdd, Nat.reduceMul, Nat.reduceLT, Nat.reduceLeDiff, Nat.reducePow, Nat.reduceDiv, Nat.reduceMod, Nat.succ_ne_self, Nat.reduceBEq, Nat.reduceBNe, vint, NdS, NdF, heta, Int.cast_ofNat_Int, Int.reduceLT, Int.reduceLE, Int.reduceEq, Int.toNat_one, Int.toNat_zero, Int.reduceToNat, Int.reduceNeg, decide_true, decide_false] <;> with_reducible rfl)), ?_⟩
        rw [show foldBin m c0 c1 = m from by simp_all [foldBin]]
        exact Nd.enc_drop1 _
      · -- else t62
        repeat (refine awp_seq ?_)
        refine awp_skip ?_
        repeat (refine awp_seq ?_)
        refine awp_block ?_
        -- region 11
        repeat (refine awp_seq ?_)
        refine e_eval (by simp only [asq, as0, as1, as2, awanted, aop, afldAddr, ajust, aload, abin, LS, SS, SX, HS, mkS_cons, mkS_nil, ↓reduceIte, eq_self', List.map_nil, beq_self_eq_true, Nat.reduceEqDiff, Nat.reduceAdd, Nat.reduceMul, Nat.reduceLT, Nat.reduceLeDiff, Nat.reducePow, Nat.reduceDiv, Nat.reduceMod, Nat.succ_ne_self, Nat.reduceBEq, Nat.reduceBNe, Tryti9, Trytz9, Trytp9, Tryts9, Tryti24, Trytf24, Trytz24, Trytp24, vint, NdS, NdF, heta, Int.cast_ofNat_Int, Int.reduceLT, Int.reduceLE, Int.reduceEq, Int.toNat_one, Int.toNat_zero, Int.reduceToNat, Int.reduceNeg, decide_true, decide_false] <;> with_reducible rfl) (by decide) ?_
        repeat (refine awp_seq ?_)
        refine awp_cond rfl (by simp only [LS, SS, SX, HS, mkS_cons, mkS_nil, ↓reduceIte, eq_self', List.map_nil, beq_self_eq_true, Nat.reduceEqDiff, Nat.reduceAdd, Nat.succ_ne_self, vint, NdS, NdF, heta, Int.cast_ofNat_Int, Int.reduceLT, Int.reduceLE, Int.reduceEq, Int.toNat_one, Int.toNat_zero, Int.reduceToNat, Int.reduceNeg, decide_true, decide_false] <;> with_reducible rfl) (fun b4 => ?_) (fun b4 => ?_)
        · -- if t64
          -- region 12
          repeat (refine awp_seq ?_)
          refine awp_region ?_
          refine e_take 4 (by simp only [asq, as0, as1, as2, awanted, aop, aload, ajust, abin, LS, SS, SX, HS, mkS_cons, mkS_nil, ↓reduceIte, eq_self', List.map_nil, beq_self_eq_true, Nat.reduceEqDiff, Nat.reduceAdd, Nat.reduceMul, Nat.reduceLT, Nat.reduceLeDiff, Nat.reducePow, Nat.reduceDiv, Nat.reduceMod, Nat.succ_ne_self, Nat.reduceBEq, Nat.reduceBNe, Tryti3, Trytz3, Trytp3, Trytk3, Tryti24, Trytf24, Trytz24, Trytp24, vint, NdS, NdF, heta, Int.cast_ofNat_Int, Int.reduceLT, Int.reduceLE, Int.reduceEq, Int.toNat_one, Int.toNat_zero, Int.reduceToNat, Int.reduceNeg, decide_true, decide_false] <;> with_reducible rfl) (by decide) ?_
          refine aops_pure (by simp only [acall, awanted, LS, SS, SX, HS, mkS_cons, mkS_nil, ↓reduceIte, eq_self', List.map_nil, beq_self_eq_true, Nat.reduceEqDiff, Nat.reduceAdd, Nat.reduceMul, Nat.reduceLT, Nat.reduceLeDiff, Nat.reducePow, Nat.reduceDiv, Nat.reduceMod, Nat.succ_ne_self, Nat.reduceBEq, Nat.reduceBNe, vint, NdS, NdF, heta, Int.cast_ofNat_Int, Int.reduceLT, Int.reduceLE, Int.reduceEq, Int.toNat_one, Int.toNat_zero, Int.reduceToNat, Int.reduceNeg, decide_true, decide_false] <;> with_reducible rfl) (by simp only [acall, awanted, LS, SS, SX, HS, mkS_cons, mkS_nil, ↓reduceIte, eq_self', List.map_nil, beq_self_eq_true, Nat.reduceEqDiff, Nat.reduceAdd, Nat.reduceMul, Nat.reduceLT, Nat.reduceLeDiff, Nat.reducePow, Nat.reduceDiv, Nat.reduceMod, Nat.succ_ne_self, Nat.reduceBEq, Nat.reduceBNe, vint, NdS, NdF, heta, Int.cast_ofNat_Int, Int.reduceLT, Int.reduceLE, Int.reduceEq, Int.toNat_one, Int.toNat_zero, Int.reduceToNat, Int.reduceNeg, decide_true, decide_false]) (by decide) Trygo23 (boolNode m (decide ((litV c0).1 = (litV c1).1)) _) ?_
          refine e_end (by simp only [asq, as0, as1, as2, awanted, aop, astore, splice, LS, SS, SX, HS, mkS_cons, mkS_nil, ↓reduceIte, eq_self', List.map_nil, beq_self_eq_true, Nat.reduceEqDiff, Nat.reduceAdd, Nat.reduceMul, Nat.reduceLT, Nat.reduceLeDiff, Nat.reducePow, Nat.reduceDiv, Nat.reduceMod, Nat.succ_ne_self, Nat.reduceBEq, Nat.reduceBNe, Tryti24, Trytf24, Trytz24, Trytp24, vint, NdS, NdF, heta, Int.cast_ofNat_Int, Int.reduceLT, Int.reduceLE, Int.reduceEq, Int.toNat_one, Int.toNat_zero, Int.reduceToNat, Int.reduceNeg, decide_true, decide_false] <;> with_reducible rfl) (by decide) ?_
          repeat (refine awp_seq ?_)
          -- leaf 4 ret
          refine awp_ret ⟨.inr rfl, _, (ares_cell 2 24 rfl Tryti24 (by decide) (by simp only [aload, LS, SS, SX, HS, mkS_cons, mkS_nil, ↓reduceIte, eq_self', List.map_nil, beq_self_eq_true, Nat.reduceEqDiff, Nat.reduceAdd, Nat.reduceMul, Nat.reduceLT, Nat.reduceLeDiff, Nat.reducePow, Nat.reduceDiv, Nat.reduceMod, Nat.succ_ne_self, Nat.reduceBEq, Nat.reduceBNe, vint, NdS, NdF, heta, Int.cast_ofNat_Int, Int.reduceLT, Int.reduceLE, Int.reduceEq, Int.toNat_one, Int.toNat_zero, Int.reduceToNat, Int.reduceNeg, decide_true, decide_false] <;> with_reducible rfl)), ?_⟩
          rw [show foldBin m c0 c1 = boolN m (decide ((litV c0).1 = (litV c1).1)) from by simp_all [foldBin]]
          exact Nd.enc_drop1 _
        · -- else t64
          -- region 13
          repeat (refine awp_seq ?_)
          refine e_eval (by simp only [asq, as0, as1, as2, awanted, aop, LS, SS, SX, HS, mkS_cons, mkS_nil, ↓reduceIte, eq_self', List.map_nil, beq_self_eq_true, Nat.reduceEqDiff, Nat.reduceAdd, Nat.reduceMul, Nat.reduceLT, Nat.reduceLeDiff, Nat.reducePow, Nat.reduceDiv, Nat.reduceMod, Nat.succ_ne_self, Nat.reduceBEq, Nat.reduceBNe, vint, NdS, NdF, heta, Int.cast_ofNat_Int, Int.reduceLT, Int.reduceLE, Int.reduceEq, Int.toNat_one, Int.toNat_zero, Int.reduceToNat, Int.reduceNeg, decide_true, decide_false] <;> with_reducible rfl) (by decide) ?_
          repeat (refine awp_seq ?_)
          refine awp_cond rfl (by simp only [LS, SS, SX, HS, mkS_cons, mkS_nil, ↓reduceIte, eq_self', List.map_nil, beq_self_eq_true, Nat.reduceEqDiff, Nat.reduceAdd, Nat.succ_ne_self, vint, NdS, NdF, heta, Int.cast_ofNat_Int, Int.reduceLT, Int.reduceLE, Int.reduceEq, Int.toNat_one, Int.toNat_zero, Int.reduceToNat, Int.reduceNeg, decide_true, decide_false] <;> with_reducible rfl) (fun b5 => ?_) (fun b5 => ?_)
          · -- if t73
            -- region 14
            repeat (refine awp_seq ?_)
            refine e_eval (by simp only [asq, as0, as1, as2, awanted, aop, aload, ajust, astore, splice, LS, SS, SX, HS, mkS_cons, mkS_nil, ↓reduceIte, eq_self', List.map_nil, beq_self_eq_true, Nat.reduceEqDiff, Nat.reduceAdd, Nat.reduceMul, Nat.reduceLT, Nat.reduceLeDiff, Nat.reducePow, Nat.reduceDiv, Nat.reduceMod, Nat.succ_ne_self, Nat.reduceBEq, Nat.reduceBNe, Tryti24, Trytf24, Trytz24, Trytp24, vint, NdS, NdF, heta, Int.cast_ofNat_Int, Int.reduceLT, Int.reduceLE, Int.reduceEq, Int.toNat_one, Int.toNat_zero, Int.reduceToNat, Int.reduceNeg, decide_true, decide_false] <;> with_reducible rfl) (by decide) ?_
            repeat (refine awp_seq ?_)
            -- leaf 5 ret
            refine awp_ret ⟨.inr rfl, _, (ares_cell 2 24 rfl Tryti24 (by decide) (by simp only [aload, LS, SS, SX, HS, mkS_cons, mkS_nil, ↓reduceIte, eq_self', List.map_nil, beq_self_eq_true, Nat.reduceEqDiff, Nat.reduceAdd, Nat.reduceMul, Nat.reduceLT, Nat.reduceLeDiff, Nat.reducePow, Nat.reduceDiv, Nat.reduceMod, Nat.succ_ne_self, Nat.reduceBEq, Nat.reduceBNe, vint, NdS, NdF, heta, Int.cast_ofNat_Int, Int.reduceLT, Int.reduceLE, Int.reduceEq, Int.toNat_one, Int.toNat_zero, Int.reduceToNat, Int.reduceNeg, decide_true, decide_false] <;> with_reducible rfl)), ?_⟩
            rw [show foldBin m c0 c1 = m from by simp_all [foldBin]]
            exact Nd.enc_drop1 _
          · -- else t73
            -- region 15
            repeat (refine awp_seq ?_)
            refine e_eval (by simp only [asq, as0, as1, as2, awanted, aop, afldAddr, ajust, aload, abin, LS, SS, SX, HS, mkS_cons, mkS_nil, ↓reduceIte, eq_self', List.map_nil, beq_self_eq_true, Nat.reduceEqDiff, Nat.reduceAdd, Nat.reduceMul, Nat.reduceLT, Nat.reduceLeDiff, Nat.reducePow, Nat.reduceDiv, Nat.reduceMod, Nat.succ_ne_self, Nat.reduceBEq, Nat.reduceBNe, Tryti9, Trytz9, Trytp9, Tryts9, Tryti24, Trytf24, Trytz24, Trytp24, vint, NdS, NdF, heta, Int.cast_ofNat_Int, Int.reduceLT, Int.reduceLE, Int.reduceEq, Int.toNat_one, Int.toNat_zero, Int.reduceToNat, Int.reduceNeg, decide_true, decide_false] <;> with_reducible rfl) (by decide) ?_
            repeat (refine awp_seq ?_)
            refine awp_cond rfl (by simp only [LS, SS, SX, HS, mkS_cons, mkS_nil, ↓reduceIte, eq_self', List.map_nil, beq_self_eq_true, Nat.reduceEqDiff, Nat.reduceAdd, Nat.succ_ne_self, vint, NdS, NdF, heta, Int.cast_ofNat_Int, Int.reduceLT, Int.reduceLE, Int.reduceEq, Int.toNat_one, Int.toNat_zero, Int.reduceToNat, Int.reduceNeg, decide_true, decide_false] <;> with_reducible rfl) (fun b6 => ?_) (fun b6 => ?_)
            · -- if t76
              refine awp_sel [1, 2, 3, 6] (by simp only [LS, SS, SX, HS, mkS_cons, mkS_nil, ↓reduceIte, eq_self', List.map_nil, beq_self_eq_true, Nat.reduceEqDiff, Nat.reduceAdd, Nat.succ_ne_self, vint, NdS, NdF, heta, Int.cast_ofNat_Int, Int.reduceLT, Int.reduceLE, Int.reduceEq, Int.toNat_one, Int.toNat_zero, Int.reduceToNat, Int.reduceNeg, decide_true, decide_false] <;> with_reducible rfl) ?_
              -- region 16
              repeat (refine awp_seq ?_)
              refine awp_region ?_
              refine e_take 4 (by simp only [asq, as0, as1, as2, awanted, aop, aload, ajust, abin, LS, SS, SX, HS, mkS_cons, mkS_nil, ↓reduceIte, eq_self', List.map_nil, beq_self_eq_true, Nat.reduceEqDiff, Nat.reduceAdd, Nat.reduceMul, Nat.reduceLT, Nat.reduceLeDiff, Nat.reducePow, Nat.reduceDiv, Nat.reduceMod, Nat.succ_ne_self, Nat.reduceBEq, Nat.reduceBNe, Tryti3, Trytz3, Trytp3, Trytk3, Tryti24, Trytf24, Trytz24, Trytp24, vint, NdS, NdF, heta, Int.cast_ofNat_Int, Int.reduceLT, Int.reduceLE, Int.reduceEq, Int.toNat_one, Int.toNat_zero, Int.reduceToNat, Int.reduceNeg, decide_true, decide_false] <;> with_reducible rfl) (by decide) ?_
              refine aops_pure (by simp only [acall, awanted, LS, SS, SX, HS, mkS_cons, mkS_nil, ↓reduceIte, eq_self', List.map_nil, beq_self_eq_true, Nat.reduceEqDiff, Nat.reduceAdd, Nat.reduceMul, Nat.reduceLT, Nat.reduceLeDiff, Nat.reducePow, Nat.reduceDiv, Nat.reduceMod, Nat.succ_ne_self, Nat.reduceBEq, Nat.reduceBNe, vint, NdS, NdF, heta, Int.cast_ofNat_Int, Int.reduceLT, Int.reduceLE, Int.reduceEq, Int.toNat_one, Int.toNat_zero, Int.reduceToNat, Int.reduceNeg, decide_true, decide_false] <;> with_reducible rfl) (by simp only [acall, awanted, LS, SS, SX, HS, mkS_cons, mkS_nil, ↓reduceIte, eq_self', List.map_nil, beq_self_eq_true, Nat.reduceEqDiff, Nat.reduceAdd, Nat.reduceMul, Nat.reduceLT, Nat.reduceLeDiff, Nat.reducePow, Nat.reduceDiv, Nat.reduceMod, Nat.succ_ne_self, Nat.reduceBEq, Nat.reduceBNe, vint, NdS, NdF, heta, Int.cast_ofNat_Int, Int.reduceLT, Int.reduceLE, Int.reduceEq, Int.toNat_one, Int.toNat_zero, Int.reduceToNat, Int.reduceNeg, decide_true, decide_false]) (by decide) Trygo23 (boolNode m (decide ((litV c0).1 < (litV c1).1)) _) ?_
              refine e_end (by simp only [asq, as0, as1, as2, awanted, aop, astore, splice, LS, SS, SX, HS, mkS_cons, mkS_nil, ↓reduceIte, eq_self', List.map_nil, beq_self_eq_true, Nat.reduceEqDiff, Nat.reduceAdd, Nat.reduceMul, Nat.reduceLT, Nat.reduceLeDiff, Nat.reducePow, Nat.reduceDiv, Nat.reduceMod, Nat.succ_ne_self, Nat.reduceBEq, Nat.reduceBNe, Tryti24, Trytf24, Trytz24, Trytp24, vint, NdS, NdF, heta, Int.cast_ofNat_Int, Int.reduceLT, Int.reduceLE, Int.reduceEq, Int.toNat_one, Int.toNat_zero, Int.reduceToNat, Int.reduceNeg, decide_true, decide_false] <;> with_reducible rfl) (by decide) ?_
              repeat (refine awp_seq ?_)
              -- leaf 6 ret
              refine awp_ret ⟨.inr rfl, _, (ares_cell 2 24 rfl Tryti24 (by decide) (by simp only [aload, LS, SS, SX, HS, mkS_cons, mkS_nil, ↓reduceIte, eq_self', List.map_nil, beq_self_eq_true, Nat.reduceEqDiff, Nat.reduceAdd, Nat.reduceMul, Nat.reduceLT, Nat.reduceLeDiff, Nat.reducePow, Nat.reduceDiv, Nat.reduceMod, Nat.succ_ne_self, Nat.reduceBEq, Nat.reduceBNe, vint, NdS, NdF, heta, Int.cast_ofNat_Int, Int.reduceLT, Int.reduceLE, Int.reduceEq, Int.toNat_one, Int.toNat_zero, Int.reduceToNat, Int.reduceNeg, decide_true, decide_false] <;> with_reducible rfl)), ?_⟩
              rw [show foldBin m c0 c1 = boolN m (decide ((litV c0).1 < (litV c1).1)) from by simp_all [foldBin]]
              exact Nd.enc_drop1 _
            · -- else t76
              repeat (refine awp_seq ?_)
              refine awp_skip ?_
              refine awp_sel [1, 2, 3, 6] (by simp only [LS, SS, SX, HS, mkS_cons, mkS_nil, ↓reduceIte, eq_self', List.map_nil, beq_self_eq_true, Nat.reduceEqDiff, Nat.reduceAdd, Nat.succ_ne_self, vint, NdS, NdF, heta, Int.cast_ofNat_Int, Int.reduceLT, Int.reduceLE, Int.reduceEq, Int.toNat_one, Int.toNat_zero, Int.reduceToNat, Int.reduceNeg, decide_true, decide_false] <;> with_reducible rfl) ?_
              -- region 17
              repeat (refine awp_seq ?_)
              refine awp_region ?_
              refine e_take 4 (by simp only [asq, as0, as1, as2, awanted, aop, afldAddr, ajust, aload, LS, SS, SX, HS, mkS_cons, mkS_nil, ↓reduceIte, eq_self', List.map_nil, beq_self_eq_true, Nat.reduceEqDiff, Nat.reduceAdd, Nat.reduceMul, Nat.reduceLT, Nat.reduceLeDiff, Nat.reducePow, Nat.reduceDiv, Nat.reduceMod, Nat.succ_ne_self, Nat.reduceBEq, Nat.reduceBNe, Tryti9, Trytz9, Trytp9, Tryts9, Tryti24, Trytf24, Trytz24, Trytp24, vint, NdS, NdF, heta, Int.cast_ofNat_Int, Int.reduceLT, Int.reduceLE, Int.reduceEq, Int.toNat_one, Int.toNat_zero, Int.reduceToNat, Int.reduceNeg, decide_true, decide_false] <;> with_reducible rfl) (by decide) ?_
              refine aops_pure (by simp only [acall, awanted, LS, SS, SX, HS, mkS_cons, mkS_nil, ↓reduceIte, eq_self', List.map_nil, beq_self_eq_true, Nat.reduceEqDiff, Nat.reduceAdd, Nat.reduceMul, Nat.reduceLT, Nat.reduceLeDiff, Nat.reducePow, Nat.reduceDiv, Nat.reduceMod, Nat.succ_ne_self, Nat.reduceBEq, Nat.reduceBNe, vint, NdS, NdF, heta, Int.cast_ofNat_Int, Int.reduceLT, Int.reduceLE, Int.reduceEq, Int.toNat_one, Int.toNat_zero, Int.reduceToNat, Int.reduceNeg, decide_true, decide_false] <;> with_reducible rfl) (by simp only [acall, awanted, LS, SS, SX, HS, mkS_cons, mkS_nil, ↓reduceIte, eq_self', List.map_nil, beq_self_eq_true, Nat.reduceEqDiff, Nat.reduceAdd, Nat.reduceMul, Nat.reduceLT, Nat.reduceLeDiff, Nat.reducePow, Nat.reduceDiv, Nat.reduceMod, Nat.succ_ne_self, Nat.reduceBEq, Nat.reduceBNe, vint, NdS, NdF, heta, Int.cast_ofNat_Int, Int.reduceLT, Int.reduceLE, Int.reduceEq, Int.toNat_one, Int.toNat_zero, Int.reduceToNat, Int.reduceNeg, decide_true, decide_false]) (by decide) Trygo24 (arithmetic m.text (litV c0).1 (litV c1).1 (by omega) (by omega) _) ?_
              refine e_end (by simp only [asq, as0, as1, as2, awanted, aop, ajust, LS, SS, SX, HS, mkS_cons, mkS_nil, ↓reduceIte, eq_self', List.map_nil, beq_self_eq_true, Nat.reduceEqDiff, Nat.reduceAdd, Nat.reduceMul, Nat.reduceLT, Nat.reduceLeDiff, Nat.reducePow, Nat.reduceDiv, Nat.reduceMod, Nat.succ_ne_self, Nat.reduceBEq, Nat.reduceBNe, vint, NdS, NdF, heta, Int.cast_ofNat_Int, Int.reduceLT, Int.reduceLE, Int.reduceEq, Int.toNat_one, Int.toNat_zero, Int.reduceToNat, Int.reduceNeg, decide_true, decide_false] <;> with_reducible rfl) (by decide) ?_
              -- region 18
              repeat (refine awp_seq ?_)
              refine e_eval (by simp only [asq, as0, as1, as2, awanted, aop, LS, SS, SX, HS, mkS_cons, mkS_nil, ↓reduceIte, eq_self', List.map_nil, beq_self_eq_true, Nat.reduceEqDiff, Nat.reduceAdd, Nat.reduceMul, Nat.reduceLT, Nat.reduceLeDiff, Nat.reducePow, Nat.reduceDiv, Nat.reduceMod, Nat.succ_ne_self, Nat.reduceBEq, Nat.reduceBNe, vint, NdS, NdF, heta, Int.cast_ofNat_Int, Int.reduceLT, Int.reduceLE, Int.reduceEq, Int.toNat_one, Int.toNat_zero, Int.reduceToNat, Int.reduceNeg, decide_true, decide_false] <;> with_reducible rfl) (by decide) ?_
              repeat (refine awp_seq ?_)
              refine awp_cond rfl (by simp only [LS, SS, SX, HS, mkS_cons, mkS_nil, ↓reduceIte, eq_self', List.map_nil, beq_self_eq_true, Nat.reduceEqDiff, Nat.reduceAdd, Nat.succ_ne_self, vint, NdS, NdF, heta, Int.cast_ofNat_Int, Int.reduceLT, Int.reduceLE, Int.reduceEq, Int.toNat_one, Int.toNat_zero, Int.reduceToNat, Int.reduceNeg, decide_true, decide_false] <;> with_reducible rfl) (fun bt93 => ?_) (fun bt93 => ?_)
              · -- if t93
                obtain ⟨r, hr⟩ := Option.isSome_iff_exists.1 bt93
                have hrr := arith_rng hr
                have hg : (arith m.text (litV c0).1 (litV c1).1).getD (arithX m.text (litV c0).1 (litV c1).1) = r := by rw [hr]; rfl
                -- region 19
                repeat (refine awp_seq ?_)
                refine awp_region ?_
                refine e_take 2 (by simp only [asq, as0, as1, as2, awanted, aop, aload, ajust, LS, SS, SX, HS, mkS_cons, mkS_nil, ↓reduceIte, eq_self', List.map_nil, beq_self_eq_true, Nat.reduceEqDiff, Nat.reduceAdd, Nat.reduceMul, Nat.reduceLT, Nat.reduceLeDiff, Nat.reducePow, Nat.reduceDiv, Nat.reduceMod, Nat.succ_ne_self, Nat.reduceBEq, Nat.reduceBNe, Tryti24, Trytf24, Trytz24, Trytp24, vint, NdS, NdF, heta, Int.cast_ofNat_Int, Int.reduceLT, Int.reduceLE, Int.reduceEq, Int.toNat_one, Int.toNat_zero, Int.reduceToNat, Int.reduceNeg, decide_true, decide_false, hg] <;> with_reducible rfl) (by decide) ?_
                refine aops_pure (by simp only [acall, awanted, LS, SS, SX, HS, mkS_cons, mkS_nil, ↓reduceIte, eq_self', List.map_nil, beq_self_eq_true, Nat.reduceEqDiff, Nat.reduceAdd, Nat.reduceMul, Nat.reduceLT, Nat.reduceLeDiff, Nat.reducePow, Nat.reduceDiv, Nat.reduceMod, Nat.succ_ne_self, Nat.reduceBEq, Nat.reduceBNe, vint, NdS, NdF, heta, Int.cast_ofNat_Int, Int.reduceLT, Int.reduceLE, Int.reduceEq, Int.toNat_one, Int.toNat_zero, Int.reduceToNat, Int.reduceNeg, decide_true, decide_false, hg] <;> with_reducible rfl) (by simp only [acall, awanted, LS, SS, SX, HS, mkS_cons, mkS_nil, ↓reduceIte, eq_self', List.map_nil, beq_self_eq_true, Nat.reduceEqDiff, Nat.reduceAdd, Nat.reduceMul, Nat.reduceLT, Nat.reduceLeDiff, Nat.reducePow, Nat.reduceDiv, Nat.reduceMod, Nat.succ_ne_self, Nat.reduceBEq, Nat.reduceBNe, vint, NdS, NdF, heta, Int.cast_ofNat_Int, Int.reduceLT, Int.reduceLE, Int.reduceEq, Int.toNat_one, Int.toNat_zero, Int.reduceToNat, Int.reduceNeg, decide_true, decide_false, hg]) (by decide) Trygo25 (intNode m r (by omega) (by omega) _) ?_
                refine e_end (by simp only [asq, as0, as1, as2, awanted, aop, astore, splice, LS, SS, SX, HS, mkS_cons, mkS_nil, ↓reduceIte, eq_self', List.map_nil, beq_self_eq_true, Nat.reduceEqDiff, Nat.reduceAdd, Nat.reduceMul, Nat.reduceLT, Nat.reduceLeDiff, Nat.reducePow, Nat.reduceDiv, Nat.reduceMod, Nat.succ_ne_self, Nat.reduceBEq, Nat.reduceBNe, Tryti24, Trytf24, Trytz24, Trytp24, vint, NdS, NdF, heta, Int.cast_ofNat_Int, Int.reduceLT, Int.reduceLE, Int.reduceEq, Int.toNat_one, Int.toNat_zero, Int.reduceToNat, Int.reduceNeg, decide_true, decide_false, hg] <;> with_reducible rfl) (by decide) ?_
                repeat (refine awp_seq ?_)
                -- leaf 7 ret
                refine awp_ret ⟨.inr rfl, _, (ares_cell 2 24 rfl Tryti24 (by decide) (by simp only [aload, LS, SS, SX, HS, mkS_cons, mkS_nil, ↓reduceIte, eq_self', List.map_nil, beq_self_eq_true, Nat.reduceEqDiff, Nat.reduceAdd, Nat.reduceMul, Nat.reduceLT, Nat.reduceLeDiff, Nat.reducePow, Nat.reduceDiv, Nat.reduceMod, Nat.succ_ne_self, Nat.reduceBEq, Nat.reduceBNe, vint, NdS, NdF, heta, Int.cast_ofNat_Int, Int.reduceLT, Int.reduceLE, Int.reduceEq, Int.toNat_one, Int.toNat_zero, Int.reduceToNat, Int.reduceNeg, decide_true, decide_false] <;> with_reducible rfl)), ?_⟩
                rw [show foldBin m c0 c1 = intN m r from by simp_all [foldBin, arithN]]
                exact Nd.enc_drop1 _
              · -- else t93
                repeat (refine awp_seq ?_)
                refine awp_skip ?_
                -- region 20
                repeat (refine awp_seq ?_)
                refine e_eval (by simp only [asq, as0, as1, as2, awanted, aop, aload, ajust, astore, splice, LS, SS, SX, HS, mkS_cons, mkS_nil, ↓reduceIte, eq_self', List.map_nil, beq_self_eq_true, Nat.reduceEqDiff, Nat.reduceAdd, Nat.reduceMul, Nat.reduceLT, Nat.reduceLeDiff, Nat.reducePow, Nat.reduceDiv, Nat.reduceMod, Nat.succ_ne_self, Nat.reduceBEq, Nat.reduceBNe, Tryti24, Trytf24, Trytz24, Trytp24, vint, NdS, NdF, heta, Int.cast_ofNat_Int, Int.reduceLT, Int.reduceLE, Int.reduceEq, Int.toNat_one, Int.toNat_zero, Int.reduceToNat, Int.reduceNeg, decide_true, decide_false] <;> with_reducible rfl) (by decide) ?_
                repeat (refine awp_seq ?_)
                -- leaf 8 ret
                refine awp_ret ⟨.inr rfl, _, (ares_cell 2 24 rfl Tryti24 (by decide) (by simp only [aload, LS, SS, SX, HS, mkS_cons, mkS_nil, ↓reduceIte, eq_self', List.map_nil, beq_self_eq_true, Nat.reduceEqDiff, Nat.reduceAdd, Nat.reduceMul, Nat.reduceLT, Nat.reduceLeDiff, Nat.reducePow, Nat.reduceDiv, Nat.reduceMod, Nat.succ_ne_self, Nat.reduceBEq, Nat.reduceBNe, vint, NdS, NdF, heta, Int.cast_ofNat_Int, Int.reduceLT, Int.reduceLE, Int.reduceEq, Int.toNat_one, Int.toNat_zero, Int.reduceToNat, Int.reduceNeg, decide_true, decide_false] <;> with_reducible rfl)), ?_⟩
                have hn : (arith m.text (litV c0).1 (litV c1).1) = none := by cases hq : (arith m.text (litV c0).1 (litV c1).1) with
                  | none => rfl
                  | some r => rw [hq] at bt93; cases bt93
                rw [show foldBin m c0 c1 = m from by simp_all [foldBin, arithN]]
                exact Nd.enc_drop1 _

end Go.Abs
set_option linter.unusedVariables false
set_option linter.unusedSimpArgs false
set_option maxRecDepth 4000
namespace Go.Abs
open Go.Proofs

theorem bel_nd_tok {n id : Nat} (us : List Nd) (h : id < n) : Bel n (.slice (us.map Nd.enc) (.tok id)) := by
  have := bel_Nd n us
  cases this with
  | slice _ _ h1 h2 => exact .slice _ _ h1 (fun _ e => by cases e; exact h)

theorem fold_k : ∀ (k : Nat) (t : Nd), t.size ≤ k → t.W → PC Try.prog 7 [t.enc] (foldN t).enc
  | 0, t, h, _ => by cases t; simp [Nd.size] at h
  | k + 1, t, h, hw => by
    refine pc_of (N := 44) Try.func7 rfl rfl (by simp) (by simp [Nd.bel]) (Nd.bel _ _) ?_
    -- region 0
    repeat (refine awp_seq ?_)
    refine e_eval (by simp only [asq, as0, as1, as2, awanted, aop, LS, SS, SX, HS, mkS_cons, mkS_nil, ↓reduceIte, eq_self', List.map_nil, beq_self_eq_true, Nat.reduceEqDiff, Nat.reduceAdd, Nat.reduceMul, Nat.reduceLT, Nat.reduceLeDiff, Nat.reducePow, Nat.reduceDiv, Nat.reduceMod, Nat.succ_ne_self, Nat.reduceBEq, Nat.reduceBNe, Tryti24, Trytf24, Trytz24, Trytp24, vint, NdS, NdF] <;> with_reducible rfl) (by decide) ?_
    -- region 1
    repeat (refine awp_seq ?_)
    refine e_eval (by simp only [asq, as0, as1, as2, awanted, aop, LS, SS, SX, HS, mkS_cons, mkS_nil, ↓reduceIte, eq_self', List.map_nil, beq_self_eq_true, Nat.reduceEqDiff, Nat.reduceAdd, Nat.reduceMul, Nat.reduceLT, Nat.reduceLeDiff, Nat.reducePow, Nat.reduceDiv, Nat.reduceMod, Nat.succ_ne_self, Nat.reduceBEq, Nat.reduceBNe, vint, NdS, NdF] <;> with_reducible rfl) (by decide) ?_
    -- region 2
    repeat (refine awp_seq ?_)
    refine e_eval (by simp only [asq, as0, as1, as2, awanted, aop, afldAddr, ajust, aload, abuiltin, LS, SS, SX, HS, mkS_cons, mkS_nil, ↓reduceIte, eq_self', List.map_nil, beq_self_eq_true, Nat.reduceEqDiff, Nat.reduceAdd, Nat.reduceMul, Nat.reduceLT, Nat.reduceLeDiff, Nat.reducePow, Nat.reduceDiv, Nat.reduceMod, Nat.succ_ne_self, Nat.reduceBEq, Nat.reduceBNe, Tryti22, Tryte22, Trytz22, Trytp22, Tryti24, Trytf24, Trytz24, Trytp24, vint, NdS, NdF] <;> with_reducible rfl) (by decide) ?_
    repeat (refine awp_seq ?_)
    refine awp_retok 3 7 (es := []) (by simp only [LS, SS, SX, HS, mkS_cons, mkS_nil, ↓reduceIte, eq_self', List.map_nil, beq_self_eq_true, Nat.reduceEqDiff, Nat.reduceAdd, Nat.succ_ne_self, vint, NdS, NdF] <;> with_reducible rfl) ?_
    refine awp_forS (σ := List Nd) (t.kids.length) (fun (r : List Nd) => [(1, .optr 0 0), (2, .optr 1 0), (3, .slice (r.map Nd.enc) (.tok 2)), (7, .slice (t.kids.map Nd.enc) .none)]) [1, 2, 3, 7] ([]) (fun (r : List Nd) => [.row t.enc.cells, .row [.int .i64 0, .int .i64 0, .str [], .int .i64 0, .int .i64 0, .int .i64 0, .slice [] .full], .buf r.length 7]) (fun (i : Nat) (r : List Nd) => r = (t.kids.take i).map foldN) ([]) ([]) rfl rfl rfl rfl rfl rfl rfl rfl rfl (by decide) (by decide) (by decide) (fun _ => rfl) (hw.lenMax) ⟨(by first | rfl | (simp only [LS, SS, SX, HS, mkS_cons, mkS_nil, ↓reduceIte, eq_self', List.map_nil, beq_self_eq_true, Nat.reduceEqDiff, Nat.reduceAdd, Nat.succ_ne_self, vint, NdS, NdF] <;> first | done | with_reducible rfl)), (by first | rfl | (simp only [LS, SS, SX, HS, mkS_cons, mkS_nil, ↓reduceIte, eq_self', List.map_nil, beq_self_eq_true, Nat.reduceEqDiff, Nat.reduceAdd, Nat.succ_ne_self, vint, NdS, NdF] <;> first | done | with_reducible rfl)), (by first | rfl | (simp only [LS, SS, SX, HS, mkS_cons, mkS_nil, ↓reduceIte, eq_self', List.map_nil, beq_self_eq_true, Nat.reduceEqDiff, Nat.reduceAdd, Nat.succ_ne_self, vint, NdS, NdF] <;> first | done | with_reducible rfl)), (by first | rfl | (simp only [LS, SS, SX, HS, mkS_cons, mkS_nil, ↓reduceIte, eq_self', List.map_nil, beq_self_eq_true, Nat.reduceEqDiff, Nat.reduceAdd, Nat.succ_ne_self, vint, NdS, NdF] <;> first | done | with_reducible rfl)), (by first | rfl | (simp only [LS, SS, SX, HS, mkS_cons, mkS_nil, ↓reduceIte, eq_self', List.map_nil, beq_self_eq_true, Nat.reduceEqDiff, Nat.reduceAdd, Nat.succ_ne_self, vint, NdS, NdF] <;> first | done | with_reducible rfl)), (by first | rfl | (simp only [LS, SS, SX, HS, mkS_cons, mkS_nil, ↓reduceIte, eq_self', List.map_nil, beq_self_eq_true, Nat.reduceEqDiff, Nat.reduceAdd, Nat.succ_ne_self, vint, NdS, NdF] <;> first | done | with_reducible rfl)), trivial⟩ (by first | rfl | (simp only [LS, SS, SX, HS, mkS_cons, mkS_nil, ↓reduceIte, eq_self', List.map_nil, beq_self_eq_true, Nat.reduceEqDiff, Nat.reduceAdd, Nat.succ_ne_self, vint, NdS, NdF] <;> first | done | with_reducible rfl)) (by simp) (fun _ _ _ => by first | exact Nat.zero_le _ | (simp only [List.length_append]; omega)) ?_ ?_ ?_
    · intro i r hg
      simp only [List.nil_append, NdS]
      refine ⟨?_, by repeat (first | exact BelL.nil | refine BelL.cons (by first | exact bel_Nd _ _ | exact Nd.bel _ _ | exact bel_nd_tok _ (by simp) | exact bel_Nd _ _ | exact Nd.bel _ _ | exact Bel.int _ _ | exact Bel.bool _ | exact Bel.str _ | exact Bel.nilp | exact Bel.nilfn | exact Bel.optr _ _ (by simp) | exact bel_nil0 _ | exact bel_nil1 _ | exact bel_fn0 _ _ | assumption) ?_)⟩
      repeat (first | exact hbel_nil _ | exact trivial | exact obel_row_nil _ | (refine HBel.cons ?_ ?_) | (refine obel_row_cons (by first | exact bel_Nd _ _ | exact Nd.bel _ _ | exact bel_nd_tok _ (by simp) | exact bel_Nd _ _ | exact Nd.bel _ _ | exact Bel.int _ _ | exact Bel.bool _ | exact Bel.str _ | exact Bel.nilp | exact Bel.nilfn | exact Bel.optr _ _ (by simp) | exact bel_nil0 _ | exact bel_nil1 _ | exact bel_fn0 _ _ | assumption) ?_))
    · intro i r hi hg
      have g1 := ix_nat hi
      have g2 := get_enc Nd.enc hi
      have hmem : t.kids[i] ∈ t.kids := List.getElem_mem hi
      have hsa := Nd.size_kid hmem
      have hlen := hw.len
      have hsl : r.length < t.kids.length := by rw [hg, List.length_map, List.length_take]; omega
      have happ := app_Nd (us := r) (u := foldN t.kids[i]) (id := 2) (tl := .full) (by omega)
      -- region 4
      repeat (refine awp_seq ?_)
      refine e_eval (by simp only [asq, as0, as1, as2, awanted, aop, aidxAddr, aidx, ajust, aload, astore, splice, LS, SS, SX, HS, mkS_cons, mkS_nil, ↓reduceIte, eq_self', List.map_nil, beq_self_eq_true, Nat.reduceEqDiff, Nat.reduceAdd, Nat.reduceMul, Nat.reduceLT, Nat.reduceLeDiff, Nat.reducePow, Nat.reduceDiv, Nat.reduceMod, Nat.succ_ne_self, Nat.reduceBEq, Nat.reduceBNe, Tryti22, Tryte22, Trytz22, Trytp22, Tryti24, Trytf24, Trytz24, Trytp24, vint, NdS, NdF, g1, g2, Int.toNat_natCast] <;> with_reducible rfl) (by decide) ?_
      -- region 5
      repeat (refine awp_seq ?_)
      refine awp_region ?_
      refine e_take 2 (by simp only [asq, as0, as1, as2, awanted, aop, aload, ajust, LS, SS, SX, HS, mkS_cons, mkS_nil, ↓reduceIte, eq_self', List.map_nil, beq_self_eq_true, Nat.reduceEqDiff, Nat.reduceAdd, Nat.reduceMul, Nat.reduceLT, Nat.reduceLeDiff, Nat.reducePow, Nat.reduceDiv, Nat.reduceMod, Nat.succ_ne_self, Nat.reduceBEq, Nat.reduceBNe, Tryti24, Trytf24, Trytz24, Trytp24, vint, NdS, NdF, g1, g2, Int.toNat_natCast, happ] <;> with_reducible rfl) (by decide) ?_
      refine aops_pure (by simp only [acall, awanted, LS, SS, SX, HS, mkS_cons, mkS_nil, ↓reduceIte, eq_self', List.map_nil, beq_self_eq_true, Nat.reduceEqDiff, Nat.reduceAdd, Nat.reduceMul, Nat.reduceLT, Nat.reduceLeDiff, Nat.reducePow, Nat.reduceDiv, Nat.reduceMod, Nat.succ_ne_self, Nat.reduceBEq, Nat.reduceBNe, vint, NdS, NdF, g1, g2, Int.toNat_natCast, happ] <;> with_reducible rfl) (by simp only [acall, awanted, LS, SS, SX, HS, mkS_cons, mkS_nil, ↓reduceIte, eq_self', List.map_nil, beq_self_eq_true, Nat.reduceEqDiff, Nat.reduceAdd, Nat.reduceMul, Nat.reduceLT, Nat.reduceLeDiff, Nat.reducePow, Nat.reduceDiv, Nat.reduceMod, Nat.succ_ne_self, Nat.reduceBEq, Nat.reduceBNe, vint, NdS, NdF, g1, g2, Int.toNat_natCast, happ]) (by decide) Trygo7 (fold_k k t.kids[i] (by omega) (hw.kid hmem) _) ?_
      refine e_end (by simp only [asq, as0, as1, as2, awanted, aop, abuildS, abuiltin, LS, SS, SX, HS, mkS_cons, mkS_nil, ↓reduceIte, eq_self', List.map_nil, beq_self_eq_true, Nat.reduceEqDiff, Nat.reduceAdd, Nat.reduceMul, Nat.reduceLT, Nat.reduceLeDiff, Nat.reducePow, Nat.reduceDiv, Nat.reduceMod, Nat.succ_ne_self, Nat.reduceBEq, Nat.reduceBNe, Tryti22, Tryte22, Trytz22, Trytp22, Tryti24, Trytf24, Trytz24, Trytp24, vint, NdS, NdF, g1, g2, Int.toNat_natCast, happ] <;> with_reducible rfl) (by decide) ?_
      -- leaf 0 next0
      exact ⟨⟨rfl, rfl, trivial⟩, r ++ [foldN t.kids[i]], _, ⟨rfl, rfl, rfl, rfl, trivial⟩, by simp only [LS, SS, SX, HS, mkS_cons, mkS_nil, ↓reduceIte, eq_self', List.map_nil, beq_self_eq_true, Nat.reduceEqDiff, Nat.reduceAdd, Nat.succ_ne_self, vint, NdS, NdF, List.length_append, List.length_singleton] <;> rfl, by rw [hg, map_take_succ _ hi]⟩
    · intro r hg
      rw [List.take_length] at hg
      -- region 7
      repeat (refine awp_seq ?_)
      refine e_eval (by simp only [asq, as0, as1, as2, awanted, aop, afldAddr, ajust, astore, splice, LS, SS, SX, HS, mkS_cons, mkS_nil, ↓reduceIte, eq_self', List.map_nil, beq_self_eq_true, Nat.reduceEqDiff, Nat.reduceAdd, Nat.reduceMul, Nat.reduceLT, Nat.reduceLeDiff, Nat.reducePow, Nat.reduceDiv, Nat.reduceMod, Nat.succ_ne_self, Nat.reduceBEq, Nat.reduceBNe, Tryti22, Tryte22, Trytz22, Trytp22, Tryti24, Trytf24, Trytz24, Trytp24, vint, NdS, NdF] <;> with_reducible rfl) (by decide) ?_
      repeat (refine awp_seq ?_)
      refine awp_block ?_
      -- region 8
      repeat (refine awp_seq ?_)
      refine g_eval (by simp only [gsq, gs0, gs1, gs2, gcond, gop, SG, Op.operands, Call.operands, Array.toList_append, aop, afldAddr, ajust, aload, abin, abuiltin, LS, SS, SX, HS, mkS_cons, mkS_nil, ↓reduceIte, eq_self', List.map_nil, beq_self_eq_true, Nat.reduceEqDiff, Nat.reduceAdd, Nat.reduceMul, Nat.reduceLT, Nat.reduceLeDiff, Nat.reducePow, Nat.reduceDiv, Nat.reduceMod, Nat.succ_ne_self, Nat.reduceBEq, Nat.reduceBNe, Tryti3, Trytz3, Trytp3, Trytk3, Tryti22, Tryte22, Trytz22, Trytp22, Tryti24, Trytf24, Trytz24, Trytp24, vint, NdS, NdF] <;> with_reducible rfl) (by decide) (by repeat (first | exact Fin.base _ | with_reducible apply Fin.keep | apply Fin.drop)) ?_
      repeat (refine awp_seq ?_)
      refine awp_cond rfl (by simp only [LS, SS, SX, HS, mkS_cons, mkS_nil, ↓reduceIte, eq_self', List.map_nil, beq_self_eq_true, Nat.reduceEqDiff, Nat.reduceAdd, Nat.succ_ne_self, vint, NdS, NdF] <;> with_reducible rfl) (fun bt21 => ?_) (fun bt21 => ?_)
      · -- if t21
        have hq : t.kind = 39 ∧ r.length = 2 := by simp at bt21; omega
        obtain ⟨c0, c1, rfl⟩ : ∃ c0 c1, r = [c0, c1] := by
          match r, hq.2 with
          | [a, b], _ => exact ⟨a, b, rfl⟩
        have hst : foldN t = foldBin (Nd.mk t.kind t.value t.text t.st t.en t.ns [c0, c1]) c0 c1 := by
          rw [foldN_eq, ← hg]; unfold stepN; rw [if_pos (show (Nd.mk t.kind t.value t.text t.st t.en t.ns [c0, c1]).kind = 39 from hq.1)]; rfl
        -- region 9
        repeat (refine awp_seq ?_)
        refine awp_region ?_
        refine e_take 1 (by simp only [asq, as0, as1, as2, awanted, aop, aload, ajust, LS, SS, SX, HS, mkS_cons, mkS_nil, ↓reduceIte, eq_self', List.map_nil, beq_self_eq_true, Nat.reduceEqDiff, Nat.reduceAdd, Nat.reduceMul, Nat.reduceLT, Nat.reduceLeDiff, Nat.reducePow, Nat.reduceDiv, Nat.reduceMod, Nat.succ_ne_self, Nat.reduceBEq, Nat.reduceBNe, Tryti24, Trytf24, Trytz24, Trytp24, vint, NdS, NdF] <;> with_reducible rfl) (by decide) ?_
        refine aops_pure (by simp only [acall, awanted, LS, SS, SX, HS, mkS_cons, mkS_nil, ↓reduceIte, eq_self', List.map_nil, beq_self_eq_true, Nat.reduceEqDiff, Nat.reduceAdd, Nat.reduceMul, Nat.reduceLT, Nat.reduceLeDiff, Nat.reducePow, Nat.reduceDiv, Nat.reduceMod, Nat.succ_ne_self, Nat.reduceBEq, Nat.reduceBNe, vint, NdS, NdF] <;> with_reducible rfl) (by simp only [acall, awanted, LS, SS, SX, HS, mkS_cons, mkS_nil, ↓reduceIte, eq_self', List.map_nil, beq_self_eq_true, Nat.reduceEqDiff, Nat.reduceAdd, Nat.reduceMul, Nat.reduceLT, Nat.reduceLeDiff, Nat.reducePow, Nat.reduceDiv, Nat.reduceMod, Nat.succ_ne_self, Nat.reduceBEq, Nat.reduceBNe, vint, NdS, NdF]) (by decide) Trygo16 (foldBin_c (Nd.mk t.kind t.value t.text t.st t.en t.ns [c0, c1]) c0 c1 rfl _) ?_
        refine e_end (by simp only [asq, as0, as1, as2, awanted, aop, astore, splice, LS, SS, SX, HS, mkS_cons, mkS_nil, ↓reduceIte, eq_self', List.map_nil, beq_self_eq_true, Nat.reduceEqDiff, Nat.reduceAdd, Nat.reduceMul, Nat.reduceLT, Nat.reduceLeDiff, Nat.reducePow, Nat.reduceDiv, Nat.reduceMod, Nat.succ_ne_self, Nat.reduceBEq, Nat.reduceBNe, Tryti24, Trytf24, Trytz24, Trytp24, vint, NdS, NdF] <;> with_reducible rfl) (by decide) ?_
        repeat (refine awp_seq ?_)
        -- leaf 1 ret
        refine awp_ret ⟨.inr rfl, _, (ares_cell 2 24 rfl Tryti24 (by decide) (by simp only [aload, LS, SS, SX, HS, mkS_cons, mkS_nil, ↓reduceIte, eq_self', List.map_nil, beq_self_eq_true, Nat.reduceEqDiff, Nat.reduceAdd, Nat.reduceMul, Nat.reduceLT, Nat.reduceLeDiff, Nat.reducePow, Nat.reduceDiv, Nat.reduceMod, Nat.succ_ne_self, Nat.reduceBEq, Nat.reduceBNe, vint, NdS, NdF] <;> with_reducible rfl)), ?_⟩
        rw [hst]
        first | exact Nd.enc_drop1 _ | (simp only [NdF, d1_agg, LS]; exact Nd.enc_drop1 _) | rfl
      · -- else t21
        have n1 : ¬ (t.kind = 39 ∧ r.length = 2) := by simp at bt21; omega
        -- region 10
        repeat (refine awp_seq ?_)
        refine g_eval (by simp only [gsq, gs0, gs1, gs2, gcond, gop, SG, Op.operands, Call.operands, Array.toList_append, aop, afldAddr, ajust, aload, abin, abuiltin, LS, SS, SX, HS, mkS_cons, mkS_nil, ↓reduceIte, eq_self', List.map_nil, beq_self_eq_true, Nat.reduceEqDiff, Nat.reduceAdd, Nat.reduceMul, Nat.reduceLT, Nat.reduceLeDiff, Nat.reducePow, Nat.reduceDiv, Nat.reduceMod, Nat.succ_ne_self, Nat.reduceBEq, Nat.reduceBNe, Tryti3, Trytz3, Trytp3, Trytk3, Tryti22, Tryte22, Trytz22, Trytp22, Tryti24, Trytf24, Trytz24, Trytp24, vint, NdS, NdF] <;> with_reducible rfl) (by decide) (by repeat (first | exact Fin.base _ | with_reducible apply Fin.keep | apply Fin.drop)) ?_
        repeat (refine awp_seq ?_)
        refine awp_cond rfl (by simp only [LS, SS, SX, HS, mkS_cons, mkS_nil, ↓reduceIte, eq_self', List.map_nil, beq_self_eq_true, Nat.reduceEqDiff, Nat.reduceAdd, Nat.succ_ne_self, vint, NdS, NdF] <;> with_reducible rfl) (fun bt32 => ?_) (fun bt32 => ?_)
        · -- if t32
          have hq : t.kind = 40 ∧ r.length = 1 := by simp at bt32; omega
          obtain ⟨c0, rfl⟩ := List.length_eq_one_iff.1 hq.2
          have hst : foldN t = foldUn (Nd.mk t.kind t.value t.text t.st t.en t.ns [c0]) c0 := by
            rw [foldN_eq, ← hg]; unfold stepN; rw [if_neg (show ¬ (Nd.mk t.kind t.value t.text t.st t.en t.ns [c0]).kind = 39 from fun e => by have : t.kind = 39 := e; omega), if_pos (show (Nd.mk t.kind t.value t.text t.st t.en t.ns [c0]).kind = 40 from hq.1)]; rfl
          refine awp_sel [1, 2] (by simp only [LS, SS, SX, HS, mkS_cons, mkS_nil, ↓reduceIte, eq_self', List.map_nil, beq_self_eq_true, Nat.reduceEqDiff, Nat.reduceAdd, Nat.succ_ne_self, vint, NdS, NdF] <;> with_reducible rfl) ?_
          -- region 11
          repeat (refine awp_seq ?_)
          refine awp_region ?_
          refine e_take 1 (by simp only [asq, as0, as1, as2, awanted, aop, aload, ajust, LS, SS, SX, HS, mkS_cons, mkS_nil, ↓reduceIte, eq_self', List.map_nil, beq_self_eq_true, Nat.reduceEqDiff, Nat.reduceAdd, Nat.reduceMul, Nat.reduceLT, Nat.reduceLeDiff, Nat.reducePow, Nat.reduceDiv, Nat.reduceMod, Nat.succ_ne_self, Nat.reduceBEq, Nat.reduceBNe, Tryti24, Trytf24, Trytz24, Trytp24, vint, NdS, NdF] <;> with_reducible rfl) (by decide) ?_
          refine aops_pure (by simp only [acall, awanted, LS, SS, SX, HS, mkS_cons, mkS_nil, ↓reduceIte, eq_self', List.map_nil, beq_self_eq_true, Nat.reduceEqDiff, Nat.reduceAdd, Nat.reduceMul, Nat.reduceLT, Nat.reduceLeDiff, Nat.reducePow, Nat.reduceDiv, Nat.reduceMod, Nat.succ_ne_self, Nat.reduceBEq, Nat.reduceBNe, vint, NdS, NdF] <;> with_reducible rfl) (by simp only [acall, awanted, LS, SS, SX, HS, mkS_cons, mkS_nil, ↓reduceIte, eq_self', List.map_nil, beq_self_eq_true, Nat.reduceEqDiff, Nat.reduceAdd, Nat.reduceMul, Nat.reduceLT, Nat.reduceLeDiff, Nat.reducePow, Nat.reduceDiv, Nat.reduceMod, Nat.succ_ne_self, Nat.reduceBEq, Nat.reduceBNe, vint, NdS, NdF]) (by decide) Trygo17 (foldUn_c (Nd.mk t.kind t.value t.text t.st t.en t.ns [c0]) c0 rfl _) ?_
          refine e_end (by simp only [asq, as0, as1, as2, awanted, aop, astore, splice, LS, SS, SX, HS, mkS_cons, mkS_nil, ↓reduceIte, eq_self', List.map_nil, beq_self_eq_true, Nat.reduceEqDiff, Nat.reduceAdd, Nat.reduceMul, Nat.reduceLT, Nat.reduceLeDiff, Nat.reducePow, Nat.reduceDiv, Nat.reduceMod, Nat.succ_ne_self, Nat.reduceBEq, Nat.reduceBNe, Tryti24, Trytf24, Trytz24, Trytp24, vint, NdS, NdF] <;> with_reducible rfl) (by decide) ?_
          repeat (refine awp_seq ?_)
          -- leaf 2 ret
          refine awp_ret ⟨.inr rfl, _, (ares_cell 2 24 rfl Tryti24 (by decide) (by simp only [aload, LS, SS, SX, HS, mkS_cons, mkS_nil, ↓reduceIte, eq_self', List.map_nil, beq_self_eq_true, Nat.reduceEqDiff, Nat.reduceAdd, Nat.reduceMul, Nat.reduceLT, Nat.reduceLeDiff, Nat.reducePow, Nat.reduceDiv, Nat.reduceMod, Nat.succ_ne_self, Nat.reduceBEq, Nat.reduceBNe, vint, NdS, NdF] <;> with_reducible rfl)), ?_⟩
          rw [hst]
          first | exact Nd.enc_drop1 _ | (simp only [NdF, d1_agg, LS]; exact Nd.enc_drop1 _) | rfl
        · -- else t32
          have n2 : ¬ (t.kind = 40 ∧ r.length = 1) := by simp at bt32; omega
          have hst : foldN t = (Nd.mk t.kind t.value t.text t.st t.en t.ns r) := by
            rw [foldN_eq, ← hg]; unfold stepN; split
            · rename_i hk; split
              · rename_i c0 c1 hks; exact absurd ⟨hk, by have : r = [c0, c1] := hks; rw [this]; rfl⟩ n1
              · rfl
            · split
              · rename_i hk; split
                · rename_i c hks; exact absurd ⟨hk, by have : r = [c] := hks; rw [this]; rfl⟩ n2
                · rfl
              · rfl
          repeat (refine awp_seq ?_)
          refine awp_skip ?_
          refine awp_sel [1, 2] (by simp only [LS, SS, SX, HS, mkS_cons, mkS_nil, ↓reduceIte, eq_self', List.map_nil, beq_self_eq_true, Nat.reduceEqDiff, Nat.reduceAdd, Nat.succ_ne_self, vint, NdS, NdF] <;> with_reducible rfl) ?_
          -- region 12
          repeat (refine awp_seq ?_)
          refine e_eval (by simp only [asq, as0, as1, as2, awanted, aop, aload, ajust, astore, splice, LS, SS, SX, HS, mkS_cons, mkS_nil, ↓reduceIte, eq_self', List.map_nil, beq_self_eq_true, Nat.reduceEqDiff, Nat.reduceAdd, Nat.reduceMul, Nat.reduceLT, Nat.reduceLeDiff, Nat.reducePow, Nat.reduceDiv, Nat.reduceMod, Nat.succ_ne_self, Nat.reduceBEq, Nat.reduceBNe, Tryti24, Trytf24, Trytz24, Trytp24, vint, NdS, NdF] <;> with_reducible rfl) (by decide) ?_
          repeat (refine awp_seq ?_)
          -- leaf 3 ret
          refine awp_ret ⟨.inr rfl, _, (ares_cell 2 24 rfl Tryti24 (by decide) (by simp only [aload, LS, SS, SX, HS, mkS_cons, mkS_nil, ↓reduceIte, eq_self', List.map_nil, beq_self_eq_true, Nat.reduceEqDiff, Nat.reduceAdd, Nat.reduceMul, Nat.reduceLT, Nat.reduceLeDiff, Nat.reducePow, Nat.reduceDiv, Nat.reduceMod, Nat.succ_ne_self, Nat.reduceBEq, Nat.reduceBNe, vint, NdS, NdF] <;> with_reducible rfl)), ?_⟩
          rw [hst]
          first | exact Nd.enc_drop1 _ | (simp only [NdF, d1_agg, LS]; exact Nd.enc_drop1 _) | rfl

end Go.Abs
