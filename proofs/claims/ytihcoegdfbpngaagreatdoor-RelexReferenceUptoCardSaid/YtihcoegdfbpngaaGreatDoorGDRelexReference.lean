/- Part 4 of a proof of the law RelexReference: Go data as trees, the walks of the functions that the law reaches, the plain laws. -/
import Derived.Test.YtihcoegdfbpngaaGreatDoorGCRelexReference
import Derived.Test.YtihcoegdfbpngaaGreatDoorProg
import Derived.KernelRfl
import Derived.Shelf.Small.Strs
import Derived.Shelf.Strings.Prefix
import Derived.Shelf.Strings.Fields
import Derived.Lib.Strings
set_option linter.unusedVariables false
set_option linter.unusedSimpArgs false
namespace Go.Abs
open Go.Proofs
theorem kR {p : Prop} (h : p := by kernel_rfl) : p := h
theorem zti24 : tinfo Tryz.prog 24 = some ⟨false, 1, 24⟩ := kR
theorem zte24 : telem Tryz.prog 24 = some (32, ⟨true, 2, 24⟩) := kR
theorem zti32 : tinfo Tryz.prog 32 = some ⟨true, 2, 24⟩ := kR
theorem zte36 : telem Tryz.prog 36 = some (38, ⟨true, 3, 48⟩) := kR
theorem zti38 : tinfo Tryz.prog 38 = some ⟨true, 3, 48⟩ := kR
theorem ztz38 : tzero Tryz.prog 38 = some (.agg [.int .i64 0, .str [], .slice [] .full]) := kR
theorem zgo4 : goFn Tryz.prog 4 = true := kR
theorem zgo5 : goFn Tryz.prog 5 = true := kR
theorem zgo6 : goFn Tryz.prog 6 = true := kR
theorem zgo7 : goFn Tryz.prog 7 = true := kR
theorem zgo8 : goFn Tryz.prog 8 = true := kR
theorem zgo9 : goFn Tryz.prog 9 = true := kR
theorem zgo10 : goFn Tryz.prog 10 = true := kR
theorem zgo11 : goFn Tryz.prog 11 = true := kR
theorem zgo12 : goFn Tryz.prog 12 = true := kR
theorem zgo13 : goFn Tryz.prog 13 = true := kR
theorem zgo14 : goFn Tryz.prog 14 = true := kR
theorem zgo15 : goFn Tryz.prog 15 = true := kR
theorem zgo16 : goFn Tryz.prog 16 = true := kR
theorem zgo17 : goFn Tryz.prog 17 = true := kR
theorem zgo18 : goFn Tryz.prog 18 = true := kR
theorem zgo19 : goFn Tryz.prog 19 = true := kR
theorem zgo20 : goFn Tryz.prog 20 = true := kR
theorem zgo21 : goFn Tryz.prog 21 = true := kR
theorem zgo22 : goFn Tryz.prog 22 = true := kR
theorem zgo23 : goFn Tryz.prog 23 = true := kR
theorem zgo26 : goFn Tryz.prog 26 = true := kR
theorem zgo27 : goFn Tryz.prog 27 = true := kR
theorem zgo28 : goFn Tryz.prog 28 = true := kR
theorem zgo29 : goFn Tryz.prog 29 = true := kR
theorem zgo31 : goFn Tryz.prog 31 = true := kR
theorem zgo32 : goFn Tryz.prog 32 = true := kR
theorem zgo34 : goFn Tryz.prog 34 = true := kR
theorem zgo35 : goFn Tryz.prog 35 = true := kR
theorem zgo36 : goFn Tryz.prog 36 = true := kR
theorem zgo37 : goFn Tryz.prog 37 = true := kR
theorem zgo38 : goFn Tryz.prog 38 = true := kR
theorem zgo39 : goFn Tryz.prog 39 = true := kR
theorem zgo42 : goFn Tryz.prog 42 = true := kR
theorem zgo43 : goFn Tryz.prog 43 = true := kR
theorem zgo44 : goFn Tryz.prog 44 = true := kR
theorem zgo45 : goFn Tryz.prog 45 = true := kR
theorem zgo46 : goFn Tryz.prog 46 = true := kR
theorem zgo47 : goFn Tryz.prog 47 = true := kR
theorem zgo48 : goFn Tryz.prog 48 = true := kR
theorem zgo49 : goFn Tryz.prog 49 = true := kR
theorem zgo50 : goFn Tryz.prog 50 = true := kR
theorem zgo51 : goFn Tryz.prog 51 = true := kR
theorem zgo52 : goFn Tryz.prog 52 = true := kR
theorem zgo53 : goFn Tryz.prog 53 = true := kR
theorem zgo54 : goFn Tryz.prog 54 = true := kR
theorem zgo55 : goFn Tryz.prog 55 = true := kR
theorem zgo56 : goFn Tryz.prog 56 = true := kR
theorem zgo57 : goFn Tryz.prog 57 = true := kR
theorem zgo58 : goFn Tryz.prog 58 = true := kR
theorem zgo59 : goFn Tryz.prog 59 = true := kR
theorem zgo60 : goFn Tryz.prog 60 = true := kR
theorem zgo61 : goFn Tryz.prog 61 = true := kR
theorem zgo62 : goFn Tryz.prog 62 = true := kR
theorem zgo63 : goFn Tryz.prog 63 = true := kR
theorem zgo65 : goFn Tryz.prog 65 = true := kR
theorem zgo67 : goFn Tryz.prog 67 = true := kR
theorem zgo68 : goFn Tryz.prog 68 = true := kR
theorem zgo69 : goFn Tryz.prog 69 = true := kR
theorem zgo70 : goFn Tryz.prog 70 = true := kR
theorem zgo71 : goFn Tryz.prog 71 = true := kR
theorem zgo72 : goFn Tryz.prog 72 = true := kR
theorem zgo73 : goFn Tryz.prog 73 = true := kR
theorem zgo74 : goFn Tryz.prog 74 = true := kR
theorem zgo79 : goFn Tryz.prog 79 = true := kR
theorem zgo80 : goFn Tryz.prog 80 = true := kR
theorem zgo81 : goFn Tryz.prog 81 = true := kR
theorem zgo83 : goFn Tryz.prog 83 = true := kR
theorem zgo84 : goFn Tryz.prog 84 = true := kR
theorem zgo85 : goFn Tryz.prog 85 = true := kR
theorem zgo92 : goFn Tryz.prog 92 = true := kR
theorem zgo93 : goFn Tryz.prog 93 = true := kR
theorem zgo94 : goFn Tryz.prog 94 = true := kR
theorem zgo105 : goFn Tryz.prog 105 = true := kR
theorem zgo106 : goFn Tryz.prog 106 = true := kR
theorem zgo108 : goFn Tryz.prog 108 = true := kR
theorem zgo109 : goFn Tryz.prog 109 = true := kR
theorem zgo110 : goFn Tryz.prog 110 = true := kR
theorem zgo111 : goFn Tryz.prog 111 = true := kR
theorem zgo113 : goFn Tryz.prog 113 = true := kR
theorem zgo114 : goFn Tryz.prog 114 = true := kR
theorem zgo116 : goFn Tryz.prog 116 = true := kR
theorem zgo117 : goFn Tryz.prog 117 = true := kR
theorem zgo118 : goFn Tryz.prog 118 = true := kR
theorem zgo120 : goFn Tryz.prog 120 = true := kR
theorem zgo121 : goFn Tryz.prog 121 = true := kR
theorem zgo122 : goFn Tryz.prog 122 = true := kR
theorem zgo123 : goFn Tryz.prog 123 = true := kR
theorem zgo125 : goFn Tryz.prog 125 = true := kR
theorem zgo126 : goFn Tryz.prog 126 = true := kR
theorem zgo127 : goFn Tryz.prog 127 = true := kR
theorem zgo128 : goFn Tryz.prog 128 = true := kR
theorem zgo129 : goFn Tryz.prog 129 = true := kR
theorem zgo130 : goFn Tryz.prog 130 = true := kR
theorem zgo133 : goFn Tryz.prog 133 = true := kR
theorem zgo134 : goFn Tryz.prog 134 = true := kR
theorem zgo135 : goFn Tryz.prog 135 = true := kR
theorem zgo136 : goFn Tryz.prog 136 = true := kR
theorem zgo138 : goFn Tryz.prog 138 = true := kR
theorem zgo141 : goFn Tryz.prog 141 = true := kR
theorem zgo142 : goFn Tryz.prog 142 = true := kR
theorem zgo143 : goFn Tryz.prog 143 = true := kR
theorem zgo144 : goFn Tryz.prog 144 = true := kR
theorem zgo145 : goFn Tryz.prog 145 = true := kR
theorem zgo146 : goFn Tryz.prog 146 = true := kR
theorem zgo147 : goFn Tryz.prog 147 = true := kR
theorem zgo149 : goFn Tryz.prog 149 = true := kR
theorem zgo150 : goFn Tryz.prog 150 = true := kR
theorem zgo152 : goFn Tryz.prog 152 = true := kR
theorem zgo153 : goFn Tryz.prog 153 = true := kR
theorem zgo154 : goFn Tryz.prog 154 = true := kR
theorem zgo155 : goFn Tryz.prog 155 = true := kR
theorem zgo156 : goFn Tryz.prog 156 = true := kR
theorem zgo157 : goFn Tryz.prog 157 = true := kR
theorem zgo158 : goFn Tryz.prog 158 = true := kR
theorem zgo159 : goFn Tryz.prog 159 = true := kR
theorem zgo161 : goFn Tryz.prog 161 = true := kR
theorem zgo162 : goFn Tryz.prog 162 = true := kR
theorem zgo163 : goFn Tryz.prog 163 = true := kR
theorem zgo164 : goFn Tryz.prog 164 = true := kR
theorem zgo165 : goFn Tryz.prog 165 = true := kR
theorem zgo166 : goFn Tryz.prog 166 = true := kR
theorem zgo167 : goFn Tryz.prog 167 = true := kR
theorem zgo168 : goFn Tryz.prog 168 = true := kR
theorem zgo169 : goFn Tryz.prog 169 = true := kR
theorem zgo170 : goFn Tryz.prog 170 = true := kR
theorem zgo171 : goFn Tryz.prog 171 = true := kR
theorem zgo172 : goFn Tryz.prog 172 = true := kR
theorem y2 : tinfo Tryz.prog 2 = some ⟨false, 1, 8⟩ ∧ tzero Tryz.prog 2 = some (.int .i64 0) ∧ tptr Tryz.prog 2 = false ∧ tint Tryz.prog 2 = some .i64 := ⟨kR, kR, kR, kR⟩
theorem y3 : tinfo Tryz.prog 3 = some ⟨false, 1, 8⟩ ∧ tzero Tryz.prog 3 = some (.int .i64 0) ∧ tptr Tryz.prog 3 = false ∧ tint Tryz.prog 3 = some .i64 := ⟨kR, kR, kR, kR⟩
theorem y4 : tinfo Tryz.prog 4 = some ⟨false, 1, 1⟩ ∧ tzero Tryz.prog 4 = some (.bool false) ∧ tptr Tryz.prog 4 = false ∧ tbool Tryz.prog 4 = true := ⟨kR, kR, kR, kR⟩
theorem y5 : tinfo Tryz.prog 5 = some ⟨false, 1, 1⟩ ∧ tzero Tryz.prog 5 = some (.int .u8 0) ∧ tptr Tryz.prog 5 = false ∧ tint Tryz.prog 5 = some .u8 := ⟨kR, kR, kR, kR⟩
theorem y9 : tinfo Tryz.prog 9 = some ⟨false, 1, 16⟩ ∧ tzero Tryz.prog 9 = some (.str []) ∧ tptr Tryz.prog 9 = false ∧ tstr Tryz.prog 9 = true := ⟨kR, kR, kR, kR⟩
theorem y23 : tinfo Tryz.prog 23 = some ⟨true, 3, 32⟩ ∧ tflds Tryz.prog 23 = some [(0, ⟨false, 1, 8⟩), (1, ⟨false, 1, 8⟩), (2, ⟨false, 1, 16⟩)] ∧ tzero Tryz.prog 23 = some (.agg [.int .i64 0, .int .i64 0, .str []]) ∧ tptr Tryz.prog 23 = false := ⟨kR, kR, kR, kR⟩
theorem y24 : tinfo Tryz.prog 24 = some ⟨false, 1, 24⟩ ∧ telem Tryz.prog 24 = some (32, ⟨true, 2, 24⟩) ∧ tzero Tryz.prog 24 = some (.slice [] .full) ∧ tptr Tryz.prog 24 = false := ⟨zti24, zte24, kR, kR⟩
theorem y27 : tinfo Tryz.prog 27 = some ⟨false, 1, 8⟩ ∧ tzero Tryz.prog 27 = some (.int .i64 0) ∧ tptr Tryz.prog 27 = false ∧ tint Tryz.prog 27 = some .i64 := ⟨kR, kR, kR, kR⟩
theorem y32 : tinfo Tryz.prog 32 = some ⟨true, 2, 24⟩ ∧ tflds Tryz.prog 32 = some [(0, ⟨false, 1, 8⟩), (1, ⟨false, 1, 16⟩)] ∧ tzero Tryz.prog 32 = some (.agg [.int .i64 0, .str []]) ∧ tptr Tryz.prog 32 = false := ⟨zti32, kR, kR, kR⟩
theorem y36 : tinfo Tryz.prog 36 = some ⟨false, 1, 24⟩ ∧ telem Tryz.prog 36 = some (38, ⟨true, 3, 48⟩) ∧ tzero Tryz.prog 36 = some (.slice [] .full) ∧ tptr Tryz.prog 36 = false := ⟨kR, zte36, kR, kR⟩
theorem y38 : tinfo Tryz.prog 38 = some ⟨true, 3, 48⟩ ∧ tflds Tryz.prog 38 = some [(0, ⟨false, 1, 8⟩), (1, ⟨false, 1, 16⟩), (2, ⟨false, 1, 24⟩)] ∧ tzero Tryz.prog 38 = some (.agg [.int .i64 0, .str [], .slice [] .full]) ∧ tptr Tryz.prog 38 = false := ⟨zti38, kR, ztz38, kR⟩
theorem y47 : tinfo Tryz.prog 47 = some ⟨false, 1, 24⟩ ∧ telem Tryz.prog 47 = some (23, ⟨true, 3, 32⟩) ∧ tzero Tryz.prog 47 = some (.slice [] .full) ∧ tptr Tryz.prog 47 = false := ⟨kR, kR, kR, kR⟩
theorem y50 : tinfo Tryz.prog 50 = some ⟨false, 1, 24⟩ ∧ telem Tryz.prog 50 = some (3, ⟨false, 1, 8⟩) ∧ tzero Tryz.prog 50 = some (.slice [] .full) ∧ tptr Tryz.prog 50 = false := ⟨kR, kR, kR, kR⟩
theorem y57 : tinfo Tryz.prog 57 = some ⟨false, 1, 8⟩ ∧ tzero Tryz.prog 57 = some (.nilp) ∧ tptr Tryz.prog 57 = true := ⟨kR, kR, kR⟩
theorem y59 : tinfo Tryz.prog 59 = some ⟨true, 3, 56⟩ ∧ tflds Tryz.prog 59 = some [(0, ⟨false, 1, 24⟩), (1, ⟨false, 1, 8⟩), (2, ⟨false, 1, 24⟩)] ∧ tzero Tryz.prog 59 = some (.agg [.slice [] .full, .int .i64 0, .slice [] .full]) ∧ tptr Tryz.prog 59 = false := ⟨kR, kR, kR, kR⟩
theorem y61 : tinfo Tryz.prog 61 = some ⟨false, 1, 8⟩ ∧ tzero Tryz.prog 61 = some (.nilp) ∧ tptr Tryz.prog 61 = true := ⟨kR, kR, kR⟩
theorem y62 : tinfo Tryz.prog 62 = some ⟨false, 1, 24⟩ ∧ telem Tryz.prog 62 = some (98, ⟨true, 6, 72⟩) ∧ tzero Tryz.prog 62 = some (.slice [] .full) ∧ tptr Tryz.prog 62 = false := ⟨kR, kR, kR, kR⟩
theorem y66 : tinfo Tryz.prog 66 = some ⟨true, 7, 104⟩ ∧ tflds Tryz.prog 66 = some [(0, ⟨false, 1, 24⟩), (1, ⟨false, 1, 24⟩), (2, ⟨false, 1, 8⟩), (3, ⟨false, 1, 8⟩), (4, ⟨false, 1, 8⟩), (5, ⟨false, 1, 8⟩), (6, ⟨false, 1, 24⟩)] ∧ tzero Tryz.prog 66 = some (.agg [.slice [] .full, .slice [] .full, .int .i64 0, .int .i64 0, .int .i64 0, .int .i64 0, .slice [] .full]) ∧ tptr Tryz.prog 66 = false := ⟨kR, kR, kR, kR⟩
theorem y72 : tinfo Tryz.prog 72 = some ⟨false, 1, 24⟩ ∧ telem Tryz.prog 72 = some (9, ⟨false, 1, 16⟩) ∧ tzero Tryz.prog 72 = some (.slice [] .full) ∧ tptr Tryz.prog 72 = false := ⟨kR, kR, kR, kR⟩
theorem y98 : tinfo Tryz.prog 98 = some ⟨true, 6, 72⟩ ∧ tflds Tryz.prog 98 = some [(0, ⟨true, 3, 48⟩), (3, ⟨false, 1, 8⟩), (4, ⟨false, 1, 8⟩), (5, ⟨false, 1, 8⟩)] ∧ tzero Tryz.prog 98 = some (.agg [.int .i64 0, .str [], .slice [] .full, .int .i64 0, .int .i64 0, .int .i64 0]) ∧ tptr Tryz.prog 98 = false := ⟨kR, kR, kR, kR⟩
theorem y140 : tinfo Tryz.prog 140 = some ⟨false, 1, 24⟩ ∧ telem Tryz.prog 140 = some (72, ⟨false, 1, 24⟩) ∧ tzero Tryz.prog 140 = some (.slice [] .full) ∧ tptr Tryz.prog 140 = false := ⟨kR, kR, kR, kR⟩
end Go.Abs
set_option maxRecDepth 4000
namespace Go.Abs
open Go.Proofs
theorem u8_nat (n : Nat) (h : n < 256) : (UInt8.ofNat n).toNat = n := by rw [UInt8.toNat_ofNat']; exact Nat.mod_eq_of_lt h
theorem u8_ge (c : UInt8) (n : Nat) (h : n < 256) : decide ((c.toNat : Int) ≥ n) = decide (UInt8.ofNat n ≤ c) := by
 rw [decide_eq_decide, UInt8.le_iff_toNat_le, u8_nat n h]; omega
theorem u8_le (c : UInt8) (n : Nat) (h : n < 256) : decide ((c.toNat : Int) ≤ n) = decide (c ≤ UInt8.ofNat n) := by
 rw [decide_eq_decide, UInt8.le_iff_toNat_le, u8_nat n h]; omega
theorem u8_eq (c : UInt8) (n : Nat) (h : n < 256) : decide ((c.toNat : Int) = n) = (c == UInt8.ofNat n) := by
 have e : (c == UInt8.ofNat n) = decide (c = UInt8.ofNat n) := by rw [Bool.eq_iff_iff]; simp
 rw [e, decide_eq_decide, ← UInt8.toNat_inj, u8_nat n h]; omega
theorem isLetter_c (c : UInt8) : PC Tryz.prog 47 [.int .u8 c.toNat] (.bool (isLetB c)) := by
 have g97 : decide ((c.toNat : Int) ≥ 97) = decide ((97 : UInt8) ≤ c) := u8_ge c 97 (by decide)
 have l122 : decide ((c.toNat : Int) ≤ 122) = decide (c ≤ (122 : UInt8)) := u8_le c 122 (by decide)
 have g65 : decide ((c.toNat : Int) ≥ 65) = decide ((65 : UInt8) ≤ c) := u8_ge c 65 (by decide)
 have l90 : decide ((c.toNat : Int) ≤ 90) = decide (c ≤ (90 : UInt8)) := u8_le c 90 (by decide)
 have e95 : decide ((c.toNat : Int) = 95) = (c == 95) := u8_eq c 95 (by decide)
 have g48 : decide ((c.toNat : Int) ≥ 48) = decide ((48 : UInt8) ≤ c) := u8_ge c 48 (by decide)
 have l57 : decide ((c.toNat : Int) ≤ 57) = decide (c ≤ (57 : UInt8)) := u8_le c 57 (by decide)
 refine pc_of (N := 21) Tryz.func47 rfl rfl (by simp) (by simp [Bel.int, Bel.str]) (.bool _) ?_
 refine qE0 ?_
 refine gE y5 ?_
 repeat refine wS ?_
 refine wT ⟨.inr rfl, _, rfl, ?_⟩
 simp only [jN, seval, vint, qC, g97, l122, g65, l90, e95, g48, l57]
 try rfl
theorem isDigit_c (c : UInt8) : PC Tryz.prog 49 [.int .u8 c.toNat] (.bool (isDigB c)) := by
 have g97 : decide ((c.toNat : Int) ≥ 97) = decide ((97 : UInt8) ≤ c) := u8_ge c 97 (by decide)
 have l122 : decide ((c.toNat : Int) ≤ 122) = decide (c ≤ (122 : UInt8)) := u8_le c 122 (by decide)
 have g65 : decide ((c.toNat : Int) ≥ 65) = decide ((65 : UInt8) ≤ c) := u8_ge c 65 (by decide)
 have l90 : decide ((c.toNat : Int) ≤ 90) = decide (c ≤ (90 : UInt8)) := u8_le c 90 (by decide)
 have e95 : decide ((c.toNat : Int) = 95) = (c == 95) := u8_eq c 95 (by decide)
 have g48 : decide ((c.toNat : Int) ≥ 48) = decide ((48 : UInt8) ≤ c) := u8_ge c 48 (by decide)
 have l57 : decide ((c.toNat : Int) ≤ 57) = decide (c ≤ (57 : UInt8)) := u8_le c 57 (by decide)
 refine pc_of (N := 9) Tryz.func49 rfl rfl (by simp) (by simp [Bel.int, Bel.str]) (.bool _) ?_
 refine qE0 ?_
 refine gE y5 ?_
 repeat refine wS ?_
 refine wT ⟨.inr rfl, _, rfl, ?_⟩
 simp only [jN, seval, vint, qC, g97, l122, g65, l90, e95, g48, l57]
 try rfl
theorem isWord_c (c : UInt8) : PC Tryz.prog 74 [.int .u8 c.toNat] (.bool (wordB c)) := by
 have g97 : decide ((c.toNat : Int) ≥ 97) = decide ((97 : UInt8) ≤ c) := u8_ge c 97 (by decide)
 have l122 : decide ((c.toNat : Int) ≤ 122) = decide (c ≤ (122 : UInt8)) := u8_le c 122 (by decide)
 have g65 : decide ((c.toNat : Int) ≥ 65) = decide ((65 : UInt8) ≤ c) := u8_ge c 65 (by decide)
 have l90 : decide ((c.toNat : Int) ≤ 90) = decide (c ≤ (90 : UInt8)) := u8_le c 90 (by decide)
 have e95 : decide ((c.toNat : Int) = 95) = (c == 95) := u8_eq c 95 (by decide)
 have g48 : decide ((c.toNat : Int) ≥ 48) = decide ((48 : UInt8) ≤ c) := u8_ge c 48 (by decide)
 have l57 : decide ((c.toNat : Int) ≤ 57) = decide (c ≤ (57 : UInt8)) := u8_le c 57 (by decide)
 refine pc_of (N := 29) Tryz.func74 rfl rfl (by simp) (by simp [Bel.int, Bel.str]) (.bool _) ?_
 refine qE0 ?_
 refine gE y5 ?_
 repeat refine wS ?_
 refine wT ⟨.inr rfl, _, rfl, ?_⟩
 simp only [jN, seval, vint, qC, g97, l122, g65, l90, e95, g48, l57]
 try rfl
end Go.Abs
namespace Go.Abs
open Go.Proofs
def clsP (cl : Int) (c : UInt8) : Bool := if cl = 0 then isSpB c else if cl = 2 then wordB c else if cl = 3 then isDigB c else notNl c
theorem run_c (s : List UInt8) (hs : s.length ≤ maxLen) (cl : Int) : PC Tryz.prog 35 [.str s, vint cl] (vint (runL (clsP cl) s)) := by
 have em : maxLen = 9223372036854775807 := by decide
 refine pc_of (N := 53) Tryz.func35 rfl rfl (by simp) (by simp [Bel.int, Bel.str]) (.int _ _) ?_
 refine qE0 ?_
 refine qE0 ?_
 refine qB ?_
 refine awp_loopS (σ := Nat) (fun (i : Nat) => [(0, .str s), (1, vint cl), (5, vint (i : Int))]) ([]) (fun (i : Nat) => []) (fun (i : Nat) => s.length - i) (fun (i : Nat) => i ≤ s.length ∧ runL (clsP cl) s = i + runL (clsP cl) (s.drop i)) (0) ([]) ⟨(by first | rfl | (simp only [jN, seval, vint, qC] <;> first | done | with_reducible rfl)), (by first | rfl | (simp only [jN, seval, vint, qC] <;> first | done | with_reducible rfl)), (by first | rfl | (simp only [jN, seval, vint, qC] <;> first | done | with_reducible rfl)), trivial⟩ (by first | rfl | (simp only [jN, seval, vint, qC] <;> first | done | with_reducible rfl)) (⟨by omega, by simp⟩) (fun _ _ => by first | exact Nat.zero_le _ | (simp only [List.length_append]; omega)) ?_ ?_
 ·exact fun i hg => ⟨by simp only [List.nil_append]; exact hbel_nil _, xR⟩
 ·intro i hg
  refine qE (a2 y3 y9) ?_
  refine qI0 (fun bt11 => ?_) (fun bt11 => ?_)
  ·-- if t11
   have hi : i < s.length := by have := of_decide_eq_true bt11; omega
   have g1 := ix_nat hi
   have hd := runL_drop (p := clsP cl) hi
   obtain ⟨c, hc⟩ : ∃ c, s[i] = c := ⟨_, rfl⟩
   rw [hc] at hd
   have g2 : s[i]? = some c := by rw [List.getElem?_eq_getElem hi, hc]
   have w1 : IntKind.i64.wrap ((i : Int) + 1) = ((i + 1 : Nat) : Int) := by rw [wrap_id (by omega) (by omega)]; omega
   have e32 : decide ((c.toNat : Int) = 32) = (c == 32) := u8_eq c 32 (by decide)
   have e9 : decide ((c.toNat : Int) = 9) = (c == 9) := u8_eq c 9 (by decide)
   have e10 : decide ((c.toNat : Int) = 10) = (c == 10) := u8_eq c 10 (by decide)
   have e13 : decide ((c.toNat : Int) = 13) = (c == 13) := u8_eq c 13 (by decide)
   have g48 : decide ((c.toNat : Int) ≥ 48) = decide ((48 : UInt8) ≤ c) := u8_ge c 48 (by decide)
   have l57 : decide ((c.toNat : Int) ≤ 57) = decide (c ≤ (57 : UInt8)) := u8_le c 57 (by decide)
   refine qK ?_
   refine qB ?_
   refine qE (a4 y9 g1 g2 tN) ?_
   refine qE (a2 y5 e10) ?_
   refine qE0 ?_
   refine qB ?_
   refine qE y3 ?_
   refine qI0 (fun bt20 => ?_) (fun bt20 => ?_)
   ·-- if t20
    have hcl : cl = 0 := of_decide_eq_true bt20
    have hp : clsP cl c = isSpB c := by unfold clsP; rw [if_pos hcl]
    refine gE (a5 y5 e32 e9 e10 e13) ?_
    refine qL0 [0, 1, 5, 7] ?_
    refine qE0 ?_
    refine qI0 (fun bt49 => ?_) (fun bt49 => ?_)
    ·-- if t49
     have hf : clsP cl c = false := by rw [hp]; have h := bt49; first | (rw [Bool.not_eq_true'] at h; exact h) | (unfold notNl; rw [h]; rfl)
     have hv : (runL (clsP cl) s : Int) = i := by rw [hg.2, hd, hf]; simp
     refine qE0 ?_
     repeat refine wS ?_
     refine wT ⟨.inr rfl, _, rfl, ?_⟩
     simp only [jN, seval, vint, qC, hv]
     try rfl
    ·-- else t49
     have hf : clsP cl c = true := by rw [hp]; have h := bt49; first | (rw [Bool.not_eq_false'] at h; exact h) | (unfold notNl; rw [h]; rfl)
     have hv1 : runL (clsP cl) s = (i + 1) + runL (clsP cl) (s.drop (i + 1)) := by rw [hg.2, hd, hf]; simp; omega
     refine qK ?_
     refine qE (a2 y3 w1) ?_
     try simp only [thenQ, blockQ]
     exact ⟨i + 1, _, by show s.length - (i + 1) < s.length - i; omega, ⟨rfl, rfl, rfl, trivial⟩, by simp only [jN, seval, vint, qC] <;> rfl, by omega, hv1⟩
   ·-- else t20
    have hcl0 : ¬ cl = 0 := of_decide_eq_false bt20
    refine qE y3 ?_
    refine qI0 (fun bt36 => ?_) (fun bt36 => ?_)
    ·-- if t36
     have hcl : cl = 2 := of_decide_eq_true bt36
     have hp : clsP cl c = wordB c := by unfold clsP; rw [if_neg hcl0, if_pos hcl]
     refine qL0 [0, 1, 5, 6] ?_
     refine qT0 1 ?_
     refine qP0 zgo74 (isWord_c c _) ?_
     refine qX0 ?_
     refine qE0 ?_
     refine qI0 (fun bt49 => ?_) (fun bt49 => ?_)
     ·-- if t49
      have hf : clsP cl c = false := by rw [hp]; have h := bt49; first | (rw [Bool.not_eq_true'] at h; exact h) | (unfold notNl; rw [h]; rfl)
      have hv : (runL (clsP cl) s : Int) = i := by rw [hg.2, hd, hf]; simp
      refine qE0 ?_
      repeat refine wS ?_
      refine wT ⟨.inr rfl, _, rfl, ?_⟩
      simp only [jN, seval, vint, qC, hv]
      try rfl
     ·-- else t49
      have hf : clsP cl c = true := by rw [hp]; have h := bt49; first | (rw [Bool.not_eq_false'] at h; exact h) | (unfold notNl; rw [h]; rfl)
      have hv1 : runL (clsP cl) s = (i + 1) + runL (clsP cl) (s.drop (i + 1)) := by rw [hg.2, hd, hf]; simp; omega
      refine qK ?_
      refine qE (a2 y3 w1) ?_
      try simp only [thenQ, blockQ]
      exact ⟨i + 1, _, by show s.length - (i + 1) < s.length - i; omega, ⟨rfl, rfl, rfl, trivial⟩, by simp only [jN, seval, vint, qC] <;> rfl, by omega, hv1⟩
    ·-- else t36
     have hcl2 : ¬ cl = 2 := of_decide_eq_false bt36
     refine qL0 [0, 1, 5, 6, 7, 19] ?_
     refine qE y3 ?_
     refine qI0 (fun bt40 => ?_) (fun bt40 => ?_)
     ·-- if t40
      have hcl : cl = 3 := of_decide_eq_true bt40
      have hp : clsP cl c = isDigB c := by unfold clsP; rw [if_neg hcl0, if_neg hcl2, if_pos hcl]
      refine gE (a3 y5 g48 l57) ?_
      refine qE0 ?_
      refine qI0 (fun bt49 => ?_) (fun bt49 => ?_)
      ·-- if t49
       have hf : clsP cl c = false := by rw [hp]; have h := bt49; first | (rw [Bool.not_eq_true'] at h; exact h) | (unfold notNl; rw [h]; rfl)
       have hv : (runL (clsP cl) s : Int) = i := by rw [hg.2, hd, hf]; simp
       refine qE0 ?_
       repeat refine wS ?_
       refine wT ⟨.inr rfl, _, rfl, ?_⟩
       simp only [jN, seval, vint, qC, hv]
       try rfl
      ·-- else t49
       have hf : clsP cl c = true := by rw [hp]; have h := bt49; first | (rw [Bool.not_eq_false'] at h; exact h) | (unfold notNl; rw [h]; rfl)
       have hv1 : runL (clsP cl) s = (i + 1) + runL (clsP cl) (s.drop (i + 1)) := by rw [hg.2, hd, hf]; simp; omega
       refine qK ?_
       refine qE (a2 y3 w1) ?_
       try simp only [thenQ, blockQ]
       exact ⟨i + 1, _, by show s.length - (i + 1) < s.length - i; omega, ⟨rfl, rfl, rfl, trivial⟩, by simp only [jN, seval, vint, qC] <;> rfl, by omega, hv1⟩
     ·-- else t40
      have hcl3 : ¬ cl = 3 := of_decide_eq_false bt40
      have hp : clsP cl c = notNl c := by unfold clsP; rw [if_neg hcl0, if_neg hcl2, if_neg hcl3]
      refine qK ?_
      refine qE0 ?_
      refine qI0 (fun bt49 => ?_) (fun bt49 => ?_)
      ·-- if t49
       have hf : clsP cl c = false := by rw [hp]; have h := bt49; first | (rw [Bool.not_eq_true'] at h; exact h) | (unfold notNl; rw [h]; rfl)
       have hv : (runL (clsP cl) s : Int) = i := by rw [hg.2, hd, hf]; simp
       refine qE0 ?_
       repeat refine wS ?_
       refine wT ⟨.inr rfl, _, rfl, ?_⟩
       simp only [jN, seval, vint, qC, hv]
       try rfl
      ·-- else t49
       have hf : clsP cl c = true := by rw [hp]; have h := bt49; first | (rw [Bool.not_eq_false'] at h; exact h) | (unfold notNl; rw [h]; rfl)
       have hv1 : runL (clsP cl) s = (i + 1) + runL (clsP cl) (s.drop (i + 1)) := by rw [hg.2, hd, hf]; simp; omega
       refine qK ?_
       refine qE (a2 y3 w1) ?_
       try simp only [thenQ, blockQ]
       exact ⟨i + 1, _, by show s.length - (i + 1) < s.length - i; omega, ⟨rfl, rfl, rfl, trivial⟩, by simp only [jN, seval, vint, qC] <;> rfl, by omega, hv1⟩
  ·-- else t11
   have hi : i = s.length := by have := of_decide_eq_false bt11; omega
   have hv : (runL (clsP cl) s : Int) = s.length := by rw [hg.2, hi, List.drop_length]; simp [runL]
   repeat refine wS ?_
   refine awp_exit ?_
   simp only [thenQ, blockQ, reduceIte, Nat.reduceEqDiff, Nat.succ_ne_self, if_true, if_false]
   refine qE y9 ?_
   repeat refine wS ?_
   refine wT ⟨.inr rfl, _, rfl, ?_⟩
   simp only [jN, seval, vint, qC, hv]
   try rfl
end Go.Abs
namespace Go.Abs
open Go.Proofs
def litV (s : List UInt8) : Nat := match litG false (s.drop 1) with | some k => k + 1 | none => 0
theorem scan_c (s : List UInt8) (hs : s.length ≤ maxLen) (p : UInt8 → Bool) (f : FuncId) (hgo : goFn Tryz.prog f = true) (hp : ∀ c : UInt8, PC Tryz.prog f [.int .u8 c.toNat] (.bool (p c))) (st : Nat) (hst : st ≤ s.length) : PC Tryz.prog 44 [.str s, vint (st : Int), .fn (.func f) [] []] (vint ((st + runL p (s.drop st) : Nat) : Int)) := by
 have em : maxLen = 9223372036854775807 := by decide
 refine pc_of (N := 21) Tryz.func44 rfl rfl (by simp) (by simp [Bel.int, Bel.str, bel_fn0]) (.int _ _) ?_
 refine qE0 ?_
 refine qB ?_
 refine awp_loopS (σ := Nat) (fun (i : Nat) => [(0, .str s), (1, vint (i : Int)), (2, .fn (.func f) [] [])]) ([]) (fun (i : Nat) => []) (fun (i : Nat) => s.length - i) (fun (i : Nat) => i ≤ s.length ∧ st + runL p (s.drop st) = i + runL p (s.drop i)) (st) ([]) ⟨(by first | rfl | (simp only [jN, seval, vint, qC] <;> first | done | with_reducible rfl)), (by first | rfl | (simp only [jN, seval, vint, qC] <;> first | done | with_reducible rfl)), (by first | rfl | (simp only [jN, seval, vint, qC] <;> first | done | with_reducible rfl)), trivial⟩ (by first | rfl | (simp only [jN, seval, vint, qC] <;> first | done | with_reducible rfl)) (⟨by omega, rfl⟩) (fun _ _ => by first | exact Nat.zero_le _ | (simp only [List.length_append]; omega)) ?_ ?_
 ·exact fun i hg => ⟨by simp only [List.nil_append]; exact hbel_nil _, xR⟩
 ·intro i hg
  have hcs : i < s.length ∨ i = s.length := by omega
  rcases hcs with hi | hi
  ·-- case
   have g1 := ix_nat hi
   obtain ⟨c, hc⟩ : ∃ c, s[i] = c := ⟨_, rfl⟩
   have g2 : s[i]? = some c := by rw [List.getElem?_eq_getElem hi, hc]
   have w1 : IntKind.i64.wrap ((i : Int) + 1) = ((i + 1 : Nat) : Int) := by rw [wrap_id (by omega) (by omega)]; omega
   have f1 : ((i : Int) < s.length) = True := by simp; omega
   have f0 : ((0 : Int) ≤ (i : Int)) = True := by simp
   have hd := runL_drop (p := p) hi
   rw [hc] at hd
   repeat refine wS ?_
   refine wR ?_
   refine aops_gstart ?_
   refine g_take 9 (by simp only [jG, jO, jN, seval, y3, y9, vint, qC, f1, f0, g1, g2, w1, decide_true, tN] <;> with_reducible rfl) (by decide) ?_
   refine aops_gpure (by simp only [kE, seval, vint, qC, f1, f0, g1, g2, w1, decide_true, tN] <;> with_reducible rfl) (by simp only [kE, seval, vint, qC, f1, f0, g1, g2, w1, decide_true, tN] <;> with_reducible rfl) (by simp only [kE, seval, vint, qC, f1, f0, g1, g2, w1, decide_true, tN]) (by decide) (by assumption) (fun hc => hp c _) ?_
   refine g_end (by simp only [jG, jO, jN, seval, vint, qC, f1, f0, g1, g2, w1, decide_true, tN] <;> with_reducible rfl) (by decide) (by repeat (first | exact Fin.base _ | with_reducible apply Fin.keep | apply Fin.drop)) ?_
   repeat refine wS ?_
   refine wC rfl (by simp only [jN, seval, vint, qC, f1, f0, g1, g2, w1, decide_true, tN] <;> with_reducible rfl) (fun bt17 => ?_) (fun bt17 => ?_)
   ·-- if t17
    have hv1 : st + runL p (s.drop st) = (i + 1) + runL p (s.drop (i + 1)) := by rw [hg.2, hd, if_pos bt17]; omega
    refine qK ?_
    refine qB ?_
    repeat refine wS ?_
    refine eE (by simp only [kA, seval, y3, vint, qC, f1, f0, g1, g2, w1, decide_true, tN] <;> with_reducible rfl) (by decide) ?_
    try simp only [thenQ, blockQ]
    exact ⟨i + 1, _, by show s.length - (i + 1) < s.length - i; omega, ⟨rfl, rfl, rfl, trivial⟩, by simp only [jN, seval, vint, qC] <;> rfl, by omega, hv1⟩
   ·-- else t17
    have hv : st + runL p (s.drop st) = i := by rw [hg.2, hd, bt17]; simp
    repeat refine wS ?_
    refine awp_exit ?_
    simp only [thenQ, blockQ, reduceIte, Nat.reduceEqDiff, Nat.succ_ne_self, if_true, if_false]
    repeat refine wS ?_
    refine eE (by simp only [kA, seval, vint, qC, f1, f0, g1, g2, w1, decide_true, tN] <;> with_reducible rfl) (by decide) ?_
    repeat refine wS ?_
    refine wT ⟨.inr rfl, _, rfl, ?_⟩
    simp only [jN, seval, vint, qC, hv]
    try rfl
  ·-- case
   have f1 : ((i : Int) < s.length) = False := by simp; omega
   have hv : st + runL p (s.drop st) = i := by rw [hg.2, hi, List.drop_length]; simp [runL]
   repeat refine wS ?_
   refine wR ?_
   refine aops_gstart ?_
   refine gT 8 (a4 y3 y9 f1 decide_false) ?_
   refine gS (a2 f1 decide_false) ?_
   refine gS (a2 f1 decide_false) ?_
   refine gX (a2 f1 decide_false) ?_
   refine qF (a2 f1 decide_false) ?_
   repeat refine wS ?_
   refine awp_exit ?_
   simp only [thenQ, blockQ, reduceIte, Nat.reduceEqDiff, Nat.succ_ne_self, if_true, if_false]
   refine qE (a2 f1 decide_false) ?_
   repeat refine wS ?_
   refine wT ⟨.inr rfl, _, rfl, ?_⟩
   simp only [jN, seval, vint, qC, hv]
   try rfl
theorem literal_c (s : List UInt8) (hs : s.length ≤ maxLen) (h1 : 1 ≤ s.length) : PC Tryz.prog 38 [.str s] (vint (litV s : Int)) := by
 have em : maxLen = 9223372036854775807 := by decide
 refine pc_of (N := 35) Tryz.func38 rfl rfl (by simp) (by simp [Bel.int, Bel.str]) (.int _ _) ?_
 refine qE0 ?_
 refine qE0 ?_
 refine qE0 ?_
 refine qB ?_
 refine awp_loopS (σ := Nat × Bool) (fun (q : Nat × Bool) => [(0, .str s), (3, .bool q.2), (4, vint (q.1 : Int))]) ([]) (fun (q : Nat × Bool) => []) (fun (q : Nat × Bool) => s.length - q.1) (fun (q : Nat × Bool) => 1 ≤ q.1 ∧ q.1 ≤ s.length ∧ litG false (s.drop 1) = (litG q.2 (s.drop q.1)).map (· + (q.1 - 1))) ((1, false)) ([]) ⟨(by first | rfl | (simp only [jN, seval, vint, qC] <;> first | done | with_reducible rfl)), (by first | rfl | (simp only [jN, seval, vint, qC] <;> first | done | with_reducible rfl)), (by first | rfl | (simp only [jN, seval, vint, qC] <;> first | done | with_reducible rfl)), trivial⟩ (by first | rfl | (simp only [jN, seval, vint, qC] <;> first | done | with_reducible rfl)) (⟨by simp, by simpa using h1, by simp⟩) (fun _ _ => by first | exact Nat.zero_le _ | (simp only [List.length_append]; omega)) ?_ ?_
 ·exact fun q hg => ⟨by simp only [List.nil_append]; exact hbel_nil _, xR⟩
 ·intro q hg
  obtain ⟨i, e⟩ := q
  obtain ⟨hq1, hq2, hq3⟩ := hg
  simp only at hq1 hq2 hq3
  have hcs : i < s.length ∨ i = s.length := by omega
  rcases hcs with hi | hi
  ·-- case
   have g1 := ix_nat hi
   obtain ⟨c, hc⟩ : ∃ c, s[i] = c := ⟨_, rfl⟩
   have g2 : s[i]? = some c := by rw [List.getElem?_eq_getElem hi, hc]
   have w1 : IntKind.i64.wrap ((i : Int) + 1) = ((i + 1 : Nat) : Int) := by rw [wrap_id (by omega) (by omega)]; omega
   have f1 : ((i : Int) < s.length) = True := by simp; omega
   have f0 : ((0 : Int) ≤ (i : Int)) = True := by simp
   have e10 : decide ((c.toNat : Int) = 10) = (c == 10) := u8_eq c 10 (by decide)
   have e34 : decide ((c.toNat : Int) = 34) = (c == 34) := u8_eq c 34 (by decide)
   have e92 : decide ((c.toNat : Int) = 92) = (c == 92) := u8_eq c 92 (by decide)
   have hd : s.drop i = c :: s.drop (i + 1) := by rw [List.drop_eq_getElem_cons hi, hc]
   rw [hd, litG] at hq3
   repeat refine wS ?_
   refine g_eval (by simp only [jG, jO, jN, seval, y3, y5, y9, vint, qC, f1, f0, g1, g2, w1, e10, e34, e92, decide_true, tN] <;> with_reducible rfl) (by decide) (by repeat (first | exact Fin.base _ | with_reducible apply Fin.keep | apply Fin.drop)) ?_
   repeat refine wS ?_
   refine wC rfl (by simp only [jN, seval, vint, qC, f1, f0, g1, g2, w1, e10, e34, e92, decide_true, tN] <;> with_reducible rfl) (fun bt14 => ?_) (fun bt14 => ?_)
   ·-- if t14
    have h10 : ¬ c = 10 := by simpa using bt14
    rw [if_neg h10] at hq3
    refine qK ?_
    refine qB ?_
    repeat refine wS ?_
    refine g_eval (by simp only [jG, jO, jN, seval, y5, y9, vint, qC, f1, f0, g1, g2, w1, e10, e34, e92, decide_true, tN] <;> with_reducible rfl) (by decide) (by repeat (first | exact Fin.base _ | with_reducible apply Fin.keep | apply Fin.drop)) ?_
    repeat refine wS ?_
    refine wC rfl (by simp only [jN, seval, vint, qC, f1, f0, g1, g2, w1, e10, e34, e92, decide_true, tN] <;> with_reducible rfl) (fun bt24 => ?_) (fun bt24 => ?_)
    ·-- if t24
     have h34 : c = 34 ∧ e = false := by simpa using bt24
     have hv : litV s = i + 1 := by unfold litV; rw [hq3, if_pos h34]; simp; omega
     refine wL [0, 3, 4] (by simp only [jN, seval, vint, qC, f1, f0, g1, g2, w1, e10, e34, e92, decide_true, tN] <;> with_reducible rfl) ?_
     repeat refine wS ?_
     refine eE (by simp only [kA, seval, y3, vint, qC, f1, f0, g1, g2, w1, e10, e34, e92, decide_true, tN] <;> with_reducible rfl) (by decide) ?_
     repeat refine wS ?_
     refine wT ⟨.inr rfl, _, rfl, ?_⟩
     simp only [jN, seval, vint, qC, hv]
     try rfl
    ·-- else t24
     have h34 : ¬ (c = 34 ∧ e = false) := by simpa using bt24
     rw [if_neg h34] at hq3
     refine qK ?_
     refine wL [0, 3, 4] (by simp only [jN, seval, vint, qC, f1, f0, g1, g2, w1, e10, e34, e92, decide_true, tN] <;> with_reducible rfl) ?_
     repeat refine wS ?_
     refine g_eval (by simp only [jG, jO, jN, seval, y5, y9, vint, qC, f1, f0, g1, g2, w1, e10, e34, e92, decide_true, tN] <;> with_reducible rfl) (by decide) (by repeat (first | exact Fin.base _ | with_reducible apply Fin.keep | apply Fin.drop)) ?_
     repeat refine wS ?_
     refine eE (by simp only [kA, seval, y3, vint, qC, f1, f0, g1, g2, w1, e10, e34, e92, decide_true, tN] <;> with_reducible rfl) (by decide) ?_
     try simp only [thenQ, blockQ]
     exact ⟨(i + 1, (c == 92) && !e), _, by show s.length - (i + 1) < s.length - i; omega, ⟨rfl, rfl, rfl, trivial⟩, by simp only [jN, seval, vint, qC] <;> rfl, by show 1 ≤ i + 1; omega, by show i + 1 ≤ s.length; omega, by rw [hq3, Option.map_map, show (decide (c = 92) && !e) = ((c == 92) && !e) from rfl]; congr 1; funext x; simp; omega⟩
   ·-- else t14
    have h10 : c = 10 := by simpa using bt14
    have hv : litV s = 0 := by unfold litV; rw [hq3, if_pos h10]; rfl
    repeat refine wS ?_
    refine awp_exit ?_
    simp only [thenQ, blockQ, reduceIte, Nat.reduceEqDiff, Nat.succ_ne_self, if_true, if_false]
    repeat refine wS ?_
    refine eE (by simp only [kA, seval, vint, qC, f1, f0, g1, g2, w1, e10, e34, e92, decide_true, tN] <;> with_reducible rfl) (by decide) ?_
    repeat refine wS ?_
    refine wT ⟨.inr rfl, _, rfl, ?_⟩
    simp only [jN, seval, vint, qC, hv]
    try rfl
  ·-- case
   have f1 : ((i : Int) < s.length) = False := by simp; omega
   have hv : litV s = 0 := by unfold litV; rw [hq3, hi, List.drop_length]; rfl
   repeat refine wS ?_
   refine wR ?_
   refine aops_gstart ?_
   refine gT 7 (a4 y3 y9 f1 decide_false) ?_
   refine gS (a2 f1 decide_false) ?_
   refine gS (a2 f1 decide_false) ?_
   refine gX (a2 f1 decide_false) ?_
   refine qF (a2 f1 decide_false) ?_
   repeat refine wS ?_
   refine awp_exit ?_
   simp only [thenQ, blockQ, reduceIte, Nat.reduceEqDiff, Nat.succ_ne_self, if_true, if_false]
   refine qE (a2 f1 decide_false) ?_
   repeat refine wS ?_
   refine wT ⟨.inr rfl, _, rfl, ?_⟩
   simp only [jN, seval, vint, qC, hv]
   try rfl
end Go.Abs
namespace Go.Abs
open Go.Proofs
theorem bel_strs0 (n : Nat) (l : List (List UInt8)) : Bel n (.slice (l.map PV.str) .none) := .slice _ _ (fun e he c hc => by
 obtain ⟨s, _, rfl⟩ := List.mem_map.1 he
 have hc : c ∈ [PV.str s] := hc
 rw [List.mem_singleton.1 hc]; exact .str _) (fun i e => by cases e)
theorem any_contains (us : List (List UInt8)) (v : List UInt8) : (us.any fun x => decide (v = x)) = us.contains v := by
 induction us with
 | nil => rfl
 | cons a l ih => rw [List.any_cons, List.contains_cons, ih, show decide (v = a) = (v == a) from by rw [Bool.eq_iff_iff]; simp]
theorem first1 (c : UInt8) : PC Tryz.prog 46 [.int .u8 c.toNat] (.bool (notNl c)) := by
 have e10 : decide ((c.toNat : Int) = 10) = (c == 10) := u8_eq c 10 (by decide)
 refine pc_of (N := 5) Tryz.func46 rfl rfl (by simp) (by simp [Bel.int, Bel.str]) (.bool _) ?_
 refine qE0 ?_
 refine qE y5 ?_
 repeat refine wS ?_
 refine wT ⟨.inr rfl, _, rfl, ?_⟩
 simp only [jN, seval, vint, qC, e10]
 try rfl
theorem scan1 (c : UInt8) : PC Tryz.prog 81 [.int .u8 c.toNat] (.bool (notNl c)) := by
 have e10 : decide ((c.toNat : Int) = 10) = (c == 10) := u8_eq c 10 (by decide)
 refine pc_of (N := 5) Tryz.func81 rfl rfl (by simp) (by simp [Bel.int, Bel.str]) (.bool _) ?_
 refine qE0 ?_
 refine qE y5 ?_
 repeat refine wS ?_
 refine wT ⟨.inr rfl, _, rfl, ?_⟩
 simp only [jN, seval, vint, qC, e10]
 try rfl
theorem first2 (c : UInt8) : PC Tryz.prog 48 [.int .u8 c.toNat] (.bool (wordB c)) := by
 refine pc_of (N := 9) Tryz.func48 rfl rfl (by simp) (by simp [Bel.int, Bel.str]) (.bool _) ?_
 refine qE0 ?_
 repeat refine wS ?_
 refine wR ?_
 refine aops_gstart ?_
 refine gT 1 tN ?_
 refine gP tN zgo47 (fun hc => isLetter_c c _) ?_
 refine gT 2 tN ?_
 refine gP tN zgo49 (fun hc => isDigit_c c _) ?_
 refine gX tN ?_
 repeat refine wS ?_
 refine wT ⟨.inr rfl, _, rfl, ?_⟩
 simp only [jN, seval, vint, qC]
 try rfl
theorem idxStr (us : List (List UInt8)) (v : List UInt8) (hx : us.length ≤ maxLen) : PC Tryz.prog 79 [.slice (us.map PV.str) .none, .str v] (vint (idxI (fun x => decide (v = x)) us)) := by
 refine pc_of (N := 19) Tryz.func79 rfl rfl (by simp) (by simp [Bel.int, Bel.str, bel_strs0]) (.int _ _) ?_
 refine qE0 ?_
 refine qE (a2 y9 y72) ?_
 repeat refine wS ?_
 refine awp_forS (σ := Unit) (us.length) (fun (s : Unit) => [(0, .slice (us.map PV.str) .none), (1, .str v)]) [0, 1] ([]) (fun (s : Unit) => []) (fun (i : Nat) (s : Unit) => (us.take i).any (fun x => decide (v = x)) = false) (()) ([]) rfl rfl rfl rfl rfl rfl rfl rfl rfl (by decide) (by decide) (by decide) (fun _ => rfl) (hx) ⟨(by first | rfl | (simp only [jN, seval, vint, qC] <;> first | done | with_reducible rfl)), (by first | rfl | (simp only [jN, seval, vint, qC] <;> first | done | with_reducible rfl)), (by first | rfl | (simp only [jN, seval, vint, qC] <;> first | done | with_reducible rfl)), (by first | rfl | (simp only [jN, seval, vint, qC] <;> first | done | with_reducible rfl)), trivial⟩ (by first | rfl | (simp only [jN, seval, vint, qC] <;> first | done | with_reducible rfl)) (by simp) (fun _ _ _ => by first | exact Nat.zero_le _ | (simp only [List.length_append]; omega)) ?_ ?_ ?_
 ·exact fun i s hg => ⟨by first | exact hbel_nil _ | (simp only [List.append_nil]; assumption) | (refine hbel_app' hb' (by simp) ?_; exact xH), xR⟩
 ·intro i s hi hg
  have g1 := ix_nat hi
  have g2 := get_enc PV.str hi
  refine qE (a3 g1 tN g2) ?_
  refine qE (a5 y9 y72 g1 tN g2) ?_
  refine qI (a3 g1 tN g2) (fun b0 => ?_) (fun b0 => ?_)
  ·-- if t16
   refine qE (a3 g1 tN g2) ?_
   repeat refine wS ?_
   refine wT ⟨.inr rfl, _, rfl, ?_⟩
   rw [idxI_at hi b0 hg]; rfl
  ·-- else t16
   refine qK ?_
   exact ⟨⟨rfl, rfl, trivial⟩, (), [], ⟨rfl, rfl, trivial⟩, rfl, any_take_succ hi hg b0⟩
 ·intro s hg
  rw [List.take_length] at hg
  refine qE0 ?_
  repeat refine wS ?_
  refine wT ⟨.inr rfl, _, rfl, ?_⟩
  rw [idxI_none hg]; rfl
theorem contStr (us : List (List UInt8)) (v : List UInt8) (hx : us.length ≤ maxLen) : PC Tryz.prog 50 [.slice (us.map PV.str) .none, .str v] (.bool (us.contains v)) := by
 refine pc_of (N := 9) Tryz.func50 rfl rfl (by simp) (by simp [Bel.int, Bel.str, bel_strs0]) (.bool _) ?_
 refine qE0 ?_
 refine qT0 2 ?_
 refine qP0 zgo79 (idxStr us v hx _) ?_
 refine qX y3 ?_
 repeat refine wS ?_
 refine wT ⟨.inr rfl, _, rfl, ?_⟩
 rw [← any_contains, ← idxI_nonneg]; rfl
theorem contR (us : List (List UInt8)) (v : List UInt8) (hx : us.length ≤ maxLen) : PC Tryz.prog 36 [.slice (us.map PV.str) .none, .str v] (.bool (us.contains v)) := by
 refine pc_of (N := 17) Tryz.func36 rfl rfl (by simp) (by simp [Bel.int, Bel.str, bel_strs0]) (.bool _) ?_
 refine qE0 ?_
 refine qE (a2 y9 y72) ?_
 repeat refine wS ?_
 refine awp_forS (σ := Unit) (us.length) (fun (s : Unit) => [(0, .slice (us.map PV.str) .none), (1, .str v), (7, .slice (us.map PV.str) .none)]) [0, 1, 7] ([]) (fun (s : Unit) => []) (fun (i : Nat) (s : Unit) => (us.take i).any (fun x => decide (v = x)) = false) (()) ([]) rfl rfl rfl rfl rfl rfl rfl rfl rfl (by decide) (by decide) (by decide) (fun _ => rfl) (hx) ⟨(by first | rfl | (simp only [jN, seval, vint, qC] <;> first | done | with_reducible rfl)), (by first | rfl | (simp only [jN, seval, vint, qC] <;> first | done | with_reducible rfl)), (by first | rfl | (simp only [jN, seval, vint, qC] <;> first | done | with_reducible rfl)), (by first | rfl | (simp only [jN, seval, vint, qC] <;> first | done | with_reducible rfl)), (by first | rfl | (simp only [jN, seval, vint, qC] <;> first | done | with_reducible rfl)), trivial⟩ (by first | rfl | (simp only [jN, seval, vint, qC] <;> first | done | with_reducible rfl)) (by simp) (fun _ _ _ => by first | exact Nat.zero_le _ | (simp only [List.length_append]; omega)) ?_ ?_ ?_
 ·exact fun i s hg => ⟨by first | exact hbel_nil _ | (simp only [List.append_nil]; assumption) | (refine hbel_app' hb' (by simp) ?_; exact xH), xR⟩
 ·intro i s hi hg
  have g1 := ix_nat hi
  have g2 := get_enc PV.str hi
  refine qE (a5 y9 y72 g1 tN g2) ?_
  refine qE (a4 y9 g1 tN g2) ?_
  refine qI (a3 g1 tN g2) (fun b0 => ?_) (fun b0 => ?_)
  ·-- if t15
   refine qE (a3 g1 tN g2) ?_
   repeat refine wS ?_
   refine wT ⟨.inr rfl, _, rfl, ?_⟩
   have hv : us.contains v = true := by rw [← any_contains]; exact List.any_eq_true.2 ⟨_, List.getElem_mem hi, b0⟩
   simp only [jN, seval, vint, qC, hv]
  ·-- else t15
   refine qK ?_
   exact ⟨⟨rfl, rfl, trivial⟩, (), [], ⟨rfl, rfl, rfl, trivial⟩, rfl, any_take_succ hi hg b0⟩
 ·intro s hg
  rw [List.take_length] at hg
  have hv : us.contains v = false := by rw [← any_contains]; exact hg
  refine qE0 ?_
  repeat refine wS ?_
  refine wT ⟨.inr rfl, _, rfl, ?_⟩
  simp only [jN, seval, vint, qC, hv]
end Go.Abs
namespace Go.Proofs
open Go.Shelf
def Tryz.lays137_ren : Go.Shelf.Ren := ⟨fun | 137 => 54 | 217 => 82 | 266 => 101 | n => n, fun | 9 => 9 | 5 => 5 | 3 => 3 | n => n, fun | n => n⟩
theorem Tryz.lays137 : Go.Proofs.Lays.n137 Tryz.prog Tryz.lays137_ren := {
  mixed := by kernel_rfl
  f137 := Tryz.func54.trans (congrArg some (by kernel_rfl))
  f217 := Tryz.func82.trans (congrArg some (by kernel_rfl))
  f266 := Tryz.func101.trans (congrArg some (by kernel_rfl))
  t3 := Tryz.underlying3
  a3 := Tryz.isAgg3
  z3 := Tryz.sizeOf3
  v3 := Tryz.zeroValue3
  t5 := Tryz.underlying5
  a5 := Tryz.isAgg5
  z5 := Tryz.sizeOf5
  v5 := Tryz.zeroValue5
  t9 := Tryz.underlying9
  a9 := Tryz.isAgg9
  z9 := Tryz.sizeOf9
  v9 := Tryz.zeroValue9 }
def Tryz.lays99_ren : Go.Shelf.Ren := ⟨fun | 99 => 45 | 206 => 78 | n => n, fun | 9 => 9 | 4 => 4 | 3 => 3 | n => n, fun | n => n⟩
theorem Tryz.lays99 : Go.Proofs.Lays.n99 Tryz.prog Tryz.lays99_ren := {
  mixed := by kernel_rfl
  f99 := Tryz.func45.trans (congrArg some (by kernel_rfl))
  f206 := Tryz.func78.trans (congrArg some (by kernel_rfl))
  t3 := Tryz.underlying3
  a3 := Tryz.isAgg3
  z3 := Tryz.sizeOf3
  v3 := Tryz.zeroValue3
  t4 := Tryz.underlying4
  a4 := Tryz.isAgg4
  z4 := Tryz.sizeOf4
  v4 := Tryz.zeroValue4
  t9 := Tryz.underlying9
  a9 := Tryz.isAgg9
  z9 := Tryz.sizeOf9
  v9 := Tryz.zeroValue9 }
def Tryz.lays157_ren : Go.Shelf.Ren := ⟨fun | 157 => 80 | 229 => 99 | 199 => 100 | 261 => 124 | 311 => 139 | 312 => 140 | n => n, fun | 9 => 9 | 31 => 72 | 3 => 3 | 5 => 5 | 4 => 4 | 119 => 114 | 0 => 0 | 40 => 116 | 152 => 120 | 21 => 21 | 154 => 122 | 51 => 123 | 141 => 125 | 196 => 132 | 193 => 129 | 198 => 135 | 49 => 133 | 194 => 130 | 201 => 138 | 226 => 141 | 46 => 105 | 227 => 142 | n => n, fun | 0 => 0 | 6 => 1 | n => n⟩
theorem Tryz.lays157 : Go.Proofs.Lays.n157 Tryz.prog Tryz.lays157_ren := {
  mixed := by kernel_rfl
  f157 := Tryz.func80.trans (congrArg some (by kernel_rfl))
  f199 := Tryz.func100.trans (congrArg some (by kernel_rfl))
  f229 := Tryz.func99.trans (congrArg some (by kernel_rfl))
  f261 := Tryz.func124.trans (congrArg some (by kernel_rfl))
  f311 := Tryz.func139.trans (congrArg some (by kernel_rfl))
  f312 := Tryz.func140.trans (congrArg some (by kernel_rfl))
  t0 := Tryz.underlying0
  a0 := Tryz.isAgg0
  z0 := Tryz.sizeOf0
  v0 := Tryz.zeroValue0
  t3 := Tryz.underlying3
  a3 := Tryz.isAgg3
  z3 := Tryz.sizeOf3
  v3 := Tryz.zeroValue3
  t4 := Tryz.underlying4
  a4 := Tryz.isAgg4
  z4 := Tryz.sizeOf4
  v4 := Tryz.zeroValue4
  t5 := Tryz.underlying5
  a5 := Tryz.isAgg5
  z5 := Tryz.sizeOf5
  v5 := Tryz.zeroValue5
  t9 := Tryz.underlying9
  a9 := Tryz.isAgg9
  z9 := Tryz.sizeOf9
  v9 := Tryz.zeroValue9
  t21 := Tryz.underlying21
  a21 := Tryz.isAgg21
  z21 := Tryz.sizeOf21
  v21 := Tryz.zeroValue21
  t31 := Tryz.underlying72
  a31 := Tryz.isAgg72
  z31 := Tryz.sizeOf72
  v31 := Tryz.zeroValue72
  t40 := Tryz.underlying116
  a40 := Tryz.isAgg116
  z40 := Tryz.sizeOf116
  v40 := Tryz.zeroValue116
  t46 := Tryz.underlying105
  a46 := Tryz.isAgg105
  z46 := Tryz.sizeOf105
  v46 := Tryz.zeroValue105
  t49 := Tryz.underlying133
  a49 := Tryz.isAgg133
  z49 := Tryz.sizeOf133
  v49 := Tryz.zeroValue133
  t51 := Tryz.underlying123
  a51 := Tryz.isAgg123
  z51 := Tryz.sizeOf123
  v51 := Tryz.zeroValue123
  t119 := Tryz.underlying114
  a119 := Tryz.isAgg114
  z119 := Tryz.sizeOf114
  t141 := Tryz.underlying125
  a141 := Tryz.isAgg125
  z141 := Tryz.sizeOf125
  v141 := Tryz.zeroValue125
  t152 := Tryz.underlying120
  a152 := Tryz.isAgg120
  z152 := Tryz.sizeOf120
  v152 := Tryz.zeroValue120
  t154 := Tryz.underlying122
  a154 := Tryz.isAgg122
  z154 := Tryz.sizeOf122
  v154 := Tryz.zeroValue122
  t193 := Tryz.underlying129
  a193 := Tryz.isAgg129
  z193 := Tryz.sizeOf129
  v193 := Tryz.zeroValue129
  t194 := Tryz.underlying130
  a194 := Tryz.isAgg130
  z194 := Tryz.sizeOf130
  v194 := Tryz.zeroValue130
  t196 := Tryz.underlying132
  a196 := Tryz.isAgg132
  z196 := Tryz.sizeOf132
  v196 := Tryz.zeroValue132
  t198 := Tryz.underlying135
  a198 := Tryz.isAgg135
  z198 := Tryz.sizeOf135
  v198 := Tryz.zeroValue135
  t201 := Tryz.underlying138
  a201 := Tryz.isAgg138
  z201 := Tryz.sizeOf138
  v201 := Tryz.zeroValue138
  t226 := Tryz.underlying141
  a226 := Tryz.isAgg141
  z226 := Tryz.sizeOf141
  v226 := Tryz.zeroValue141
  t227 := Tryz.underlying142
  a227 := Tryz.isAgg142
  z227 := Tryz.sizeOf142
  v227 := Tryz.zeroValue142
  g0 := by kernel_rfl
  g6 := by kernel_rfl }
open Go.RowKit in
theorem Tryz.strings_IndexByte (s : ByteArray) (c : Int) (w : World) :
    Calls Tryz.prog 54 #[.string s, .int .u8 c] w fun e w' => e = .returned (.int .i64 (Lib.indexByte s.data.toList c.toNat.toUInt8)) ∧ w' = w := Any.strings_IndexByte Tryz.lays137 s c w
open Go.RowKit Go.Lib in
theorem Tryz.strings_HasPrefix (s p : ByteArray) (w : World) :
    Calls Tryz.prog 45 #[.string s, .string p] w fun e w' => e = .returned (.bool (Lib.hasPrefix s.data.toList p.data.toList)) ∧ w' = w := Any.strings_HasPrefix Tryz.lays99 s p w
end Go.Proofs
namespace Go.Abs
open Go.Proofs Go.RowKit
theorem rl_two {V : View} {vargs : Array Value} {p q : PV} (h : RL V vargs [p, q]) : ∃ v0 v1, vargs = #[v0, v1] ∧ VRel V v0 p ∧ VRel V v1 q := by
 obtain ⟨hsz, hr⟩ := h
 have h0 := hr 0 (by simp)
 have h1 := hr 1 (by simp)
 simp only [List.getElem_cons_zero, List.getElem_cons_succ] at h0 h1
 have hs : vargs.size = 2 := by simpa using hsz
 rw [Array.getD_eq_getD_getElem?, Array.getElem?_eq_getElem (by omega)] at h0 h1
 refine ⟨vargs[0], vargs[1], ?_, h0, h1⟩
 apply Array.ext <;> simp [hs]; intro i hi hi2; match i, hi2 with | 0, _ => rfl | 1, _ => rfl
theorem indexByte_c (s : List UInt8) (c : UInt8) : PC Tryz.prog 54 [.str s, .int .u8 c.toNat] (vint (Lib.indexByte s c)) := fun H => by
 refine acalls_below fun E vargs ho hH hrl => ?_
 obtain ⟨v0, v1, rfl, h0, h1⟩ := rl_two hrl
 cases h0 with
 | str z =>
  generalize hk : (PV.int IntKind.u8 (c.toNat : Int)) = p at h1
  cases h1 <;> cases hk
  refine ⟨_, VRel.int _ _, (Tryz.strings_IndexByte z (c.toNat : Int) E.w).mono fun e w' ⟨h1, h2⟩ => ⟨?_, h2 ▸ Below.refl _ _⟩⟩
  rw [h1]
  simp
theorem hasPrefix_c (s p : List UInt8) : PC Tryz.prog 45 [.str s, .str p] (.bool (Lib.hasPrefix s p)) := fun H => by
 refine acalls_below fun E vargs ho hH hrl => ?_
 obtain ⟨v0, v1, rfl, h0, h1⟩ := rl_two hrl
 cases h0 with
 | str z => cases h1 with
  | str y => exact ⟨_, VRel.bool _, (Tryz.strings_HasPrefix z y E.w).mono fun e w' ⟨h1, h2⟩ => ⟨h1, h2 ▸ Below.refl _ _⟩⟩
end Go.Abs
namespace Go.Abs
def trivB (k : Int) : Bool := decide (k = 101) || decide (k = 102)
def eofT : Tk := ⟨100, []⟩
def skipL : List Tk → List Tk
 | [] => []
 | t :: ts => if trivB t.kind = true then skipL ts else t :: ts
def peekT (toks : List Tk) (pos : Nat) : Tk := (skipL (toks.drop pos)).headD eofT
def atT (t : Tk) (texts : List (List UInt8)) : Bool := (decide (t.kind = 104) || decide (t.kind = 107)) && texts.any fun x => decide (t.text = x)
theorem peekT_end {toks : List Tk} {j : Nat} (h : toks.length ≤ j) : peekT toks j = eofT := by
 unfold peekT; rw [List.drop_eq_nil_of_le h]; rfl
theorem peekT_triv {toks : List Tk} {j : Nat} (h : j < toks.length) (ht : trivB toks[j].kind = true) : peekT toks j = peekT toks (j + 1) := by
 unfold peekT
 rw [List.drop_eq_getElem_cons h]
 simp only [skipL, ht, if_true]
theorem peekT_tok {toks : List Tk} {j : Nat} (h : j < toks.length) (ht : trivB toks[j].kind = false) : peekT toks j = toks[j] := by
 unfold peekT
 rw [List.drop_eq_getElem_cons h]
 simp only [skipL, ht, Bool.false_eq_true, if_false, List.headD_cons]
end Go.Abs
namespace Go.Abs
open Go.Proofs
theorem isTrivia_c (k : Int) : PC Tryz.prog 65 [vint k] (.bool (trivB k)) := by
 refine pc_of (N := 9) Tryz.func65 rfl rfl (by simp) (by simp [Bel.int, Bel.str]) (.bool _) ?_
 refine qE0 ?_
 refine gE y3 ?_
 repeat refine wS ?_
 refine wT ⟨.inr rfl, _, rfl, ?_⟩
 simp only [jN, seval, vint, qC]
 try rfl
theorem indexStr (xs : List (List UInt8)) (t : List UInt8) (hx : xs.length ≤ maxLen) : PC Tryz.prog 79 [.slice (xs.map PV.str) .none, .str t] (vint (idxI (fun x => decide (t = x)) xs)) := by
 refine pc_of (N := 19) Tryz.func79 rfl rfl (by simp) (by simp [bel_strs0, Bel.str]) (.int _ _) ?_
 refine qE0 ?_
 refine qE (a2 y9 y72) ?_
 repeat refine wS ?_
 refine awp_forS (σ := Unit) (xs.length) (fun (s : Unit) => [(0, .slice (xs.map PV.str) .none), (1, .str t)]) [0, 1] ([]) (fun (s : Unit) => []) (fun (i : Nat) (s : Unit) => (xs.take i).any (fun x => decide (t = x)) = false) (()) ([]) rfl rfl rfl rfl rfl rfl rfl rfl rfl (by decide) (by decide) (by decide) (fun _ => rfl) (hx) ⟨(by first | rfl | (simp only [jN, seval, vint, qC] <;> first | done | with_reducible rfl)), (by first | rfl | (simp only [jN, seval, vint, qC] <;> first | done | with_reducible rfl)), (by first | rfl | (simp only [jN, seval, vint, qC] <;> first | done | with_reducible rfl)), (by first | rfl | (simp only [jN, seval, vint, qC] <;> first | done | with_reducible rfl)), trivial⟩ (by first | rfl | (simp only [jN, seval, vint, qC] <;> first | done | with_reducible rfl)) (by simp) (fun _ _ _ => by first | exact Nat.zero_le _ | (simp only [List.length_append]; omega)) ?_ ?_ ?_
 ·exact fun i s hg => ⟨by first | exact hbel_nil _ | (simp only [List.append_nil]; assumption) | (refine hbel_app' hb' (by simp) ?_; exact xH), xR⟩
 ·intro i s hi hg
  have g1 := ix_nat hi
  have g2 := get_enc PV.str hi
  refine qE (a3 g1 tN g2) ?_
  refine qE (a5 y9 y72 g1 tN g2) ?_
  refine qI (a3 g1 tN g2) (fun b0 => ?_) (fun b0 => ?_)
  ·-- if t16
   refine qE (a3 g1 tN g2) ?_
   repeat refine wS ?_
   refine wT ⟨.inr rfl, _, rfl, ?_⟩
   rw [idxI_at hi b0 hg]; rfl
  ·-- else t16
   refine qK ?_
   exact ⟨⟨rfl, rfl, trivial⟩, (), [], ⟨rfl, rfl, trivial⟩, rfl, any_take_succ hi hg b0⟩
 ·intro s hg
  rw [List.take_length] at hg
  refine qE0 ?_
  repeat refine wS ?_
  refine wT ⟨.inr rfl, _, rfl, ?_⟩
  rw [idxI_none hg]; rfl
theorem containsStr (xs : List (List UInt8)) (t : List UInt8) (hx : xs.length ≤ maxLen) : PC Tryz.prog 50 [.slice (xs.map PV.str) .none, .str t] (.bool (xs.any fun x => decide (t = x))) := by
 refine pc_of (N := 9) Tryz.func50 rfl rfl (by simp) (by simp [bel_strs0, Bel.str]) (.bool _) ?_
 refine qE0 ?_
 refine qT0 2 ?_
 refine qP0 zgo79 (indexStr xs t hx _) ?_
 refine qX y3 ?_
 repeat refine wS ?_
 refine wT ⟨.inr rfl, _, rfl, ?_⟩
 rw [← idxI_nonneg]; rfl
theorem peek_c {H : Heap} {ip pos : Nat} {toks : List Tk} {st : PV} (hp : H[ip]? = some (.row [.slice (toks.map Tk.enc) .none, .int .i64 (pos : Nat), st])) (hl : toks.length ≤ 4611686018427387904) (hpos : pos ≤ toks.length) :
  ACalls Tryz.prog 55 [.optr ip 0] H fun r' H' => r' = (peekT toks pos).enc ∧ H' = H := by
 have q : ∀ L, (H ++ L)[ip]? = some (.row [.slice (toks.map Tk.enc) .none, .int .i64 (pos : Nat), st]) := fun L => by rw [List.getElem?_append_left (lG hp)]; exact hp
 have hip := lG hp
 have ff : ∀ k, (ip = H.length + k) = False := fun k => by simp; omega
 have ff0 : (ip = H.length) = False := by simp; omega
 refine keeps_of (N := 43) Tryz.func55 rfl rfl (by simp) (Tk.bel _ _) fun hb' => ?_
 refine qE (a4 y32 q ff ff0) ?_
 refine qE (a5 y3 y59 q ff ff0) ?_
 refine qB ?_
 refine awp_loopS (σ := Nat) (fun (j : Nat) => [(0, .optr ip 0), (2, .optr H.length 0), (3, vint j)]) (H) (fun (j : Nat) => [.row [.int .i64 0, .str []]]) (fun (j : Nat) => toks.length - j) (fun (j : Nat) => j ≤ toks.length ∧ peekT toks pos = peekT toks j) (pos) ([]) ⟨(by first | rfl | (simp only [jN, seval, vint, qC, q, ff, ff0] <;> first | done | with_reducible rfl)), (by first | rfl | (simp only [jN, seval, vint, qC, q, ff, ff0] <;> first | done | with_reducible rfl)), (by first | rfl | (simp only [jN, seval, vint, qC, q, ff, ff0] <;> first | done | with_reducible rfl)), trivial⟩ (by first | rfl | (simp only [jN, seval, vint, qC, q, ff, ff0] <;> first | done | with_reducible rfl)) (⟨hpos, rfl⟩) (fun _ _ => by first | exact Nat.zero_le _ | (simp only [List.length_append]; omega)) ?_ ?_
 ·exact fun j hg => ⟨by first | exact hbel_nil _ | (simp only [List.append_nil]; assumption) | (refine hbel_app' hb' (by simp) ?_; exact xH), xR⟩
 ·intro j hg
  obtain ⟨hj, hpk⟩ := hg
  rcases Nat.lt_or_ge j toks.length with hi | hi
  ·-- case
   have g1 := ix_nat hi
   have g2 := get_enc Tk.enc hi
   have g3 : decide ((j : Int) < (toks.length : Int)) = true := decide_eq_true (by omega)
   have hne : decide ((j : Int) = (toks.length : Int)) = false := decide_eq_false (by omega)
   have gw : IntKind.i64.wrap ((j : Int) + 1) = ((j + 1 : Nat) : Int) := by rw [wrap_id (by omega) (by omega)]; omega
   repeat refine wS ?_
   refine wR ?_
   refine aops_gstart ?_
   refine gT 16 (a5 y3 y24 y59 y32 (a5 q ff ff0 g1 (a5 g2 g3 gw hne tN))) ?_
   refine gP (a5 q ff ff0 g1 (a5 g2 g3 gw hne tN)) zgo65 (fun hc => isTrivia_c _ _) ?_
   refine gX (a5 q ff ff0 g1 (a5 g2 g3 gw hne tN)) ?_
   refine qI (a5 q ff ff0 g1 (a5 g2 g3 gw hne tN)) (fun bt25 => ?_) (fun bt25 => ?_)
   ·-- if t25
    skip
    refine qK ?_
    refine qB ?_
    refine qL [0, 2, 3] (a5 q ff ff0 g1 (a5 g2 g3 gw hne tN)) ?_
    refine qE (a5 y3 q ff ff0 (a5 g1 g2 g3 gw (a2 hne tN))) ?_
    try simp only [thenQ, blockQ]
    exact ⟨j + 1, [], by omega, ⟨rfl, rfl, rfl, trivial⟩, (List.append_nil _).symm, by omega, by rw [hpk]; exact peekT_triv hi bt25⟩
   ·-- else t25
    skip
    repeat refine wS ?_
    refine awp_exit ?_
    simp only [thenQ, blockQ, reduceIte, Nat.reduceEqDiff, Nat.succ_ne_self, if_true, if_false]
    refine qL [0, 2, 3] (a5 q ff ff0 g1 (a5 g2 g3 gw hne tN)) ?_
    refine qE (a5 y3 y24 y59 y32 (a5 q ff ff0 g1 (a5 g2 g3 gw hne tN))) ?_
    refine qF (a5 q ff ff0 g1 (a5 g2 g3 gw hne tN)) ?_
    refine qK ?_
    refine qE (a5 y24 y59 y32 q (a5 ff ff0 g1 g2 (a4 g3 gw hne tN))) ?_
    repeat refine wS ?_
    refine wT ⟨.inr rfl, _, _, (ares_cell 2 32 rfl zti32 (by decide) (by simp only [jL, jN, seval, vint, qC, q, ff, ff0, g1, g2, g3, gw, hne, tN] <;> with_reducible rfl)), ?_, (by first | exact (List.append_nil _).symm | rfl)⟩
    rw [hpk]; first | (rw [peekT_end (by omega)]; rfl) | (rw [peekT_tok hi bt25]; rfl)
  ·-- case
   have hje : j = toks.length := by omega
   have g3 : decide ((j : Int) < (toks.length : Int)) = false := decide_eq_false (by omega)
   have hne : decide ((j : Int) = (toks.length : Int)) = true := decide_eq_true (by omega)
   repeat refine wS ?_
   refine wR ?_
   refine aops_gstart ?_
   refine gT 8 (a5 y3 y24 y59 y32 (a5 q ff ff0 g3 hne)) ?_
   refine gS (a5 q ff ff0 g3 hne) ?_
   refine gS (a5 q ff ff0 g3 hne) ?_
   refine gS (a5 q ff ff0 g3 hne) ?_
   refine gS (a5 q ff ff0 g3 hne) ?_
   refine gS (a5 q ff ff0 g3 hne) ?_
   refine gS (a5 q ff ff0 g3 hne) ?_
   refine gS (a5 q ff ff0 g3 hne) ?_
   refine gS (a5 q ff ff0 g3 hne) ?_
   refine gS (a5 q ff ff0 g3 hne) ?_
   refine gX (a5 q ff ff0 g3 hne) ?_
   refine qF (a5 q ff ff0 g3 hne) ?_
   repeat refine wS ?_
   refine awp_exit ?_
   simp only [thenQ, blockQ, reduceIte, Nat.reduceEqDiff, Nat.succ_ne_self, if_true, if_false]
   refine qL [0, 2, 3] (a5 q ff ff0 g3 hne) ?_
   refine qE (a5 y3 y24 y59 y32 (a5 q ff ff0 g3 hne)) ?_
   repeat refine wS ?_
   refine awp_cond_true rfl (by simp only [jN, seval, vint, qC, q, ff, ff0, g3, hne] <;> with_reducible rfl) ?_
   refine qE (a5 y32 q ff ff0 (a2 g3 hne)) ?_
   repeat refine wS ?_
   refine wT ⟨.inr rfl, _, _, (ares_cell 2 32 rfl zti32 (by decide) (by simp only [jL, jN, seval, vint, qC, q, ff, ff0, g3, hne] <;> with_reducible rfl)), ?_, (by first | exact (List.append_nil _).symm | rfl)⟩
   rw [hpk]; first | (rw [peekT_end (by omega)]; rfl) | (rw [peekT_tok hi bt25]; rfl)
end Go.Abs
namespace Go.Abs
open Go.Proofs
theorem at_c {H : Heap} {ip pos : Nat} {toks : List Tk} {st : PV} (hp : H[ip]? = some (.row [.slice (toks.map Tk.enc) .none, .int .i64 (pos : Nat), st])) (hl : toks.length ≤ 4611686018427387904) (hpos : pos ≤ toks.length) (xs : List (List UInt8)) (hx : xs.length ≤ maxLen) : ACalls Tryz.prog 56 [.optr ip 0, .slice (xs.map PV.str) .none] H fun r' H' => r' = .bool (atT (peekT toks pos) xs) ∧ H' = H := by
 have q : ∀ L, (H ++ L)[ip]? = some (.row [.slice (toks.map Tk.enc) .none, .int .i64 (pos : Nat), st]) := fun L => by rw [List.getElem?_append_left (lG hp)]; exact hp
 have hip := lG hp
 have ff : ∀ k, (ip = H.length + k) = False := fun k => by simp; omega
 have ff0 : (ip = H.length) = False := by simp; omega
 refine keeps_of (N := 22) Tryz.func56 rfl rfl (by simp) ((.bool _)) fun hb' => ?_
 refine qE (a3 q ff ff0) ?_
 refine qT 1 (a3 q ff ff0) ?_
 refine qP (a3 q ff ff0) zgo55 (peek_c hp hl hpos) ?_
 refine qX (a4 y32 q ff ff0) ?_
 repeat refine wS ?_
 refine wR ?_
 refine aops_gstart ?_
 refine gT 12 (a5 y3 y9 y32 q (a2 ff ff0)) ?_
 refine gP (a3 q ff ff0) zgo50 (fun hc => containsStr xs (peekT toks pos).text hx _) ?_
 refine gX (a3 q ff ff0) ?_
 repeat refine wS ?_
 refine wT ⟨.inr rfl, _, _, rfl, ?_, (by first | exact (List.append_nil _).symm | rfl)⟩
 simp only [jN, seval, vint, qC]
 try rfl
theorem peek_a {H : Heap} {ip pos : Nat} {toks : List Tk} {st : PV} (hp : H[ip]? = some (.row [.slice (toks.map Tk.enc) .none, .int .i64 (pos : Nat), st])) (hl : toks.length ≤ 4611686018427387904) (hpos : pos ≤ toks.length) : ACalls Tryz.prog 55 [.optr ip 0] H fun r' H' => r' = .agg [.int .i64 (peekT toks pos).kind, .str (peekT toks pos).text] ∧ H' = H := peek_c hp hl hpos
theorem atEOF_c {H : Heap} {ip pos : Nat} {toks : List Tk} {st : PV} (hp : H[ip]? = some (.row [.slice (toks.map Tk.enc) .none, .int .i64 (pos : Nat), st])) (hl : toks.length ≤ 4611686018427387904) (hpos : pos ≤ toks.length) : ACalls Tryz.prog 23 [.optr ip 0] H fun r' H' => r' = .bool (decide ((peekT toks pos).kind = 100)) ∧ H' = H := by
 have q : ∀ L, (H ++ L)[ip]? = some (.row [.slice (toks.map Tk.enc) .none, .int .i64 (pos : Nat), st]) := fun L => by rw [List.getElem?_append_left (lG hp)]; exact hp
 have hip := lG hp
 have ff : ∀ k, (ip = H.length + k) = False := fun k => by simp; omega
 have ff0 : (ip = H.length) = False := by simp; omega
 refine keeps_of (N := 7) Tryz.func23 rfl rfl (by simp) ((.bool _)) fun hb' => ?_
 repeat refine wS ?_
 refine eE (by simp only [kA, seval, vint, q, ff, ff0] <;> with_reducible rfl) (by decide) ?_
 repeat refine wS ?_
 refine wR ?_
 refine eT 1 (by simp only [kA, seval, vint, q, ff, ff0] <;> with_reducible rfl) (by decide) ?_
 refine oP (by simp only [kC, seval, vint, q, ff, ff0] <;> with_reducible rfl) (by simp only [kC, seval, vint, q, ff, ff0]) (by decide) zgo55 (peek_a hp hl hpos) ?_
 refine e_end (by simp only [kA, seval, y3, y32, vint, q, ff, ff0] <;> with_reducible rfl) (by decide) ?_
 repeat refine wS ?_
 refine wT ⟨.inr rfl, _, _, rfl, ?_, (by first | exact (List.append_nil _).symm | rfl)⟩
 simp only [jN, seval, vint]
 try rfl
theorem atIdent_c {H : Heap} {ip pos : Nat} {toks : List Tk} {st : PV} (hp : H[ip]? = some (.row [.slice (toks.map Tk.enc) .none, .int .i64 (pos : Nat), st])) (hl : toks.length ≤ 4611686018427387904) (hpos : pos ≤ toks.length) : ACalls Tryz.prog 109 [.optr ip 0] H fun r' H' => r' = .bool (decide ((peekT toks pos).kind = 103)) ∧ H' = H := by
 have q : ∀ L, (H ++ L)[ip]? = some (.row [.slice (toks.map Tk.enc) .none, .int .i64 (pos : Nat), st]) := fun L => by rw [List.getElem?_append_left (lG hp)]; exact hp
 have hip := lG hp
 have ff : ∀ k, (ip = H.length + k) = False := fun k => by simp; omega
 have ff0 : (ip = H.length) = False := by simp; omega
 refine keeps_of (N := 7) Tryz.func109 rfl rfl (by simp) ((.bool _)) fun hb' => ?_
 repeat refine wS ?_
 refine eE (by simp only [kA, seval, vint, q, ff, ff0] <;> with_reducible rfl) (by decide) ?_
 repeat refine wS ?_
 refine wR ?_
 refine eT 1 (by simp only [kA, seval, vint, q, ff, ff0] <;> with_reducible rfl) (by decide) ?_
 refine oP (by simp only [kC, seval, vint, q, ff, ff0] <;> with_reducible rfl) (by simp only [kC, seval, vint, q, ff, ff0]) (by decide) zgo55 (peek_a hp hl hpos) ?_
 refine e_end (by simp only [kA, seval, y3, y32, vint, q, ff, ff0] <;> with_reducible rfl) (by decide) ?_
 repeat refine wS ?_
 refine wT ⟨.inr rfl, _, _, rfl, ?_, (by first | exact (List.append_nil _).symm | rfl)⟩
 simp only [jN, seval, vint]
 try rfl
end Go.Abs
namespace Go.Abs
structure TraceS (P : Program) (N : Nat) (ops : Array Oper) (m : Nat) (S : List Stp) (x : Slots × Heap) : Prop where
 ops_eq : ∀ i s, S[i]? = some s → ops.toList[m + i]? = some s.o
 rob : ∀ i s, S[i]? = some s → Rob P N ops s.o (runD (fun j => decide (j < m + i)) m S x).1 (runD (fun j => decide (j < m + i)) m S x).2 s.v s.eff s.rd
 own : ∀ s ∈ S, ∀ e ∈ s.eff, e.1 ∈ s.rd
 apart : ∀ i j s s', i < j → S[i]? = some s → S[j]? = some s' → ((bmasks ops.toList).getD (m + j) 0).testBit (m + i) = true ∨ ((∀ e ∈ s.eff, e.1 ∉ s'.rd) ∧ ∀ e ∈ s'.eff, e.1 ∉ s.rd)
section
variable {P : Program} {N nb : Nat} {ops : Array Oper} {S : List Stp} {x : Slots × Heap}
theorem draw_seg {m : Nat} {K : Exit → Act → World → Prop} (hb : edgesBack ops.toList = true) (hs : slotsApart ops.toList (bmasks ops.toList) = true) (tr : TraceS P N ops m S x) (hmS : m + S.length ≤ ops.size)
  (hbar : ∀ j i, m + S.length ≤ j → j < ops.size → m ≤ i → i < m + S.length → ((bmasks ops.toList).getD j 0).testBit i = true) (E0 : Env)
  (hnext : ∀ (fuel t : Nat) (listed : Array Bool) (E : Env) (a : Act), listed.size = ops.size → ((List.range ops.size).filter fun i => !listed.getD i true).length ≤ fuel → (∀ j, j < ops.size → listed.getD j false = decide (j < m + S.length)) →
   E0.leN nb E → E.Ok → E.H = (runD (fun _ => true) m S x).2 → TRel E.view N a (runD (fun _ => true) m S x).1 → wpOps P ops K (goRem ops fuel t listed) a E.w) :
  ∀ (q fuel t : Nat) (listed : Array Bool) (E : Env) (a : Act), listed.size = ops.size → ((List.range ops.size).filter fun i => !listed.getD i true).length ≤ fuel → ((List.range ops.size).filter fun i => !listed.getD i true).length ≤ q →
   (∀ j o, ops.toList[j]? = some o → listed.getD j false = true → ∀ e ∈ o.after.toList, Region.binds .any e = true → listed.getD e.on false = true) →
   (∀ j, j < m → listed.getD j false = true) → (∀ j, m + S.length ≤ j → listed.getD j false = false) →
   E0.leN nb E → E.Ok → E.H = (runD (fun j => listed.getD j false) m S x).2 → TRel E.view N a (runD (fun j => listed.getD j false) m S x).1 → wpOps P ops K (goRem ops fuel t listed) a E.w := by
 intro q
 induction q with
 | zero =>
  intro fuel t listed E a hsz hcnt hq hcl hlo hhi hle ho hH ht
  have hall : ∀ j, j < ops.size → listed.getD j false = true := by
   intro j hj
   cases hqq : listed.getD j false with
   | true => rfl
   | false =>
    have hm : j ∈ (List.range ops.size).filter fun i => !listed.getD i true := by
     rw [List.mem_filter]
     refine ⟨List.mem_range.2 (by omega), ?_⟩
     rw [Array.getD_eq_getD_getElem?, Array.getElem?_eq_getElem (by omega)] at hqq ⊢
     simpa using hqq
    have := List.length_pos_of_mem hm; omega
  have hend : ops.size ≤ m + S.length := by
   rcases Nat.lt_or_ge (m + S.length) ops.size with h | h
   ·have h1 := hall _ h
    rw [hhi _ (Nat.le_refl _)] at h1; cases h1
   ·exact h
  rw [runD_congr (D' := fun _ => true) S m x (fun j hj => by simpa using hall (m + j) (by omega))] at hH ht
  exact hnext fuel t listed E a hsz hcnt (fun j hj => by rw [hall j hj, decide_eq_true (by omega : j < m + S.length)]) hle ho hH ht
 | succ q ih =>
  intro fuel t listed E a hsz hcnt hq hcl hlo hhi hle ho hH ht
  by_cases hdone : ∀ j, j < m + S.length → listed.getD j false = true
  ·rw [runD_congr (D' := fun _ => true) S m x (fun j hj => by simpa using hdone (m + j) (by omega))] at hH ht
   refine hnext fuel t listed E a hsz hcnt (fun j hj => ?_) hle ho hH ht
   rcases Nat.lt_or_ge j (m + S.length) with h | h
   ·rw [hdone j h, decide_eq_true h]
   ·rw [hhi j h, decide_eq_false (by omega)]
  ·have hex : ∃ j, j < ops.size ∧ listed.getD j false = false := by
    apply Classical.byContradiction
    intro hno
    apply hdone
    intro j hj
    cases hqq : listed.getD j false with
    | true => rfl
    | false => exact (hno ⟨j, by omega, hqq⟩).elim
   obtain ⟨j0, ⟨hj0, hl0⟩, hmin⟩ := nat_least hex
   have hdT : ∀ (j : Nat), j < ops.size → ∀ b c : Bool, listed.getD j b = listed.getD j c := by
    intro j hj b c
    rw [Array.getD_eq_getD_getElem?, Array.getD_eq_getD_getElem?, Array.getElem?_eq_getElem (by omega)]; rfl
   have hfuel : ∃ f, fuel = f + 1 := by
    have hm : j0 ∈ (List.range ops.size).filter fun i => !listed.getD i true := by
     rw [List.mem_filter]
     exact ⟨List.mem_range.2 hj0, by rw [hdT j0 hj0 true false, hl0]; rfl⟩
    have := List.length_pos_of_mem hm
    exact ⟨fuel - 1, by omega⟩
   obtain ⟨fuel, rfl⟩ := hfuel
   unfold goRem
   have hready : ready ops listed j0 = true := by
    unfold ready
    rw [hdT j0 hj0 true false, hl0, Array.getElem?_eq_getElem hj0]
    simp only [Bool.not_false, Bool.true_and, Option.map_some, Option.getD_some]
    rw [Array.all_eq_true']
    intro e he
    cases hbd : Region.binds .any e with
    | false => rfl
    | true =>
     have hon := edgesBack_spec hb (i := j0) (o := ops[j0]) (by simp [hj0]) (e := e) (by simpa using he) hbd
     simp only [Bool.not_true, Bool.false_or]
     cases hqq : listed.getD e.on false with
     | true => rfl
     | false => have := hmin e.on ⟨by omega, hqq⟩; omega
   have hne : (List.range ops.size).filter (ready ops listed) ≠ [] := by
    intro hnil
    have : j0 ∈ (List.range ops.size).filter (ready ops listed) := List.mem_filter.2 ⟨List.mem_range.2 hj0, hready⟩
    rw [hnil] at this; cases this
   have hpos : 0 < ((List.range ops.size).filter (ready ops listed)).length := List.length_pos_iff.2 hne
   have hlt := Nat.mod_lt t hpos
   rw [List.getElem?_eq_getElem hlt]
   simp only
   generalize hi : ((List.range ops.size).filter (ready ops listed))[t % ((List.range ops.size).filter (ready ops listed)).length] = i
   have him : i ∈ (List.range ops.size).filter (ready ops listed) := by rw [← hi]; exact List.getElem_mem hlt
   obtain ⟨him1, him2⟩ := List.mem_filter.1 him
   rw [List.mem_range] at him1
   unfold ready at him2
   rw [hdT i him1 true false, Array.getElem?_eq_getElem him1] at him2
   simp only [Bool.and_eq_true, Bool.not_eq_true', Option.map_some, Option.getD_some] at him2
   obtain ⟨hnl, hpre⟩ := him2
   rw [Array.all_eq_true'] at hpre
   have hso0 : ops.toList[i]? = some ops[i] := by rw [Array.getElem?_toList, Array.getElem?_eq_getElem him1]
   have hprei : ∀ e ∈ (ops[i]).after.toList, Region.binds .any e = true → listed.getD e.on false = true := by
    intro e he hbd
    have := hpre e (by simpa using he)
    rw [hbd] at this; simpa using this
   have hBfD : ∀ {k j : Nat}, Bf ops.toList k j → listed.getD j false = true → listed.getD k false = true := fun hbf hj => hbf.closed (listed := fun j => listed.getD j false) hcl hj
   have hBfI : ∀ {k : Nat}, Bf ops.toList k i → listed.getD k false = true := fun hbf => Bf.pre (listed := fun j => listed.getD j false) (i := i) (fun j o hoo hj e he hbd => by
    rcases hj with hj | rfl
    ·exact hcl j o hoo hj e he hbd
    ·rw [hso0] at hoo; cases hoo; exact hprei e he hbd) hbf
   have hbmB : ∀ {k j : Nat}, ((bmasks ops.toList).getD j 0).testBit k = true → Bf ops.toList k j := fun h => (bmasks_sound ops.toList _ ops.toList [] rfl (by simp)).2 _ _ h
   have hge : m ≤ i := by
    rcases Nat.lt_or_ge i m with h | h
    ·rw [hlo i h] at hnl; cases hnl
    ·exact h
   have hltS : i < m + S.length := by
    rcases Nat.lt_or_ge i (m + S.length) with h | h
    ·exact h
    ·exact (hdone fun j hj => by
      rcases Nat.lt_or_ge j m with h1 | h1
      ·exact hlo j h1
      ·exact hBfI (hbmB (hbar i j h him1 h1 hj))).elim
   obtain ⟨d, rfl⟩ : ∃ d, i = m + d := ⟨i - m, by omega⟩
   obtain ⟨s, hs_i⟩ : ∃ s, S[d]? = some s := ⟨S[d]'(by omega), List.getElem?_eq_getElem _⟩
   have hop := tr.ops_eq
   have hso := hop d s hs_i
   have hop_i : ops[m + d]? = some s.o := by rw [Array.getElem?_toList] at hso; exact hso
   have hso' : ops[m + d] = s.o := by rw [Array.getElem?_eq_getElem him1] at hop_i; simpa using hop_i
   have hun1 : ∀ j, m + d < j → listed.getD j false = true → ((bmasks ops.toList).getD j 0).testBit (m + d) = false := by
    intro j hij hj
    cases hqq : ((bmasks ops.toList).getD j 0).testBit (m + d) with
    | false => rfl
    | true => have := hBfD (hbmB hqq) hj; rw [hnl] at this; cases this
   have hun2 : ∀ k, k < m + d → listed.getD k false = false → ((bmasks ops.toList).getD (m + d) 0).testBit k = false := by
    intro k hki hk
    cases hqq : ((bmasks ops.toList).getD (m + d) 0).testBit k with
    | false => rfl
    | true => have := hBfI (hbmB hqq); rw [hk] at this; cases this
   let D : Nat → Bool := fun j => listed.getD j false
   have hslot : ∀ t ∈ otmps ops.toList s.o, (runD D m S x).1 t = (runD (fun j => decide (j < m + d)) m S x).1 t := by
    intro t htm
    refine runD_slot S m x x rfl (fun j s' hj hD => ?_)
    have hoj := hop j s' hj
    by_cases hji : m + j < m + d
    ·have hDj : D (m + j) = false := by
      cases hqq : D (m + j) with
      | false => rfl
      | true => rw [hqq] at hD; simp [hji] at hD
     exact (slotsApart_spec hs hji hoj hso (hun2 _ hji hDj)).2.1 t htm
    ·have hDj : D (m + j) = true := by
      cases hqq : D (m + j) with
      | true => rfl
      | false => rw [hqq] at hD; simp [hji] at hD
     have hne : m + j ≠ m + d := by intro e; rw [e, show D (m + d) = false from hnl] at hDj; cases hDj
     exact (slotsApart_spec hs (by omega : m + d < m + j) hso hoj (hun1 _ (by omega) hDj)).2.2 t htm
   have hheap : ∀ id ∈ s.rd, (runD D m S x).2[id]? = (runD (fun j => decide (j < m + d)) m S x).2[id]? := by
    intro id hid
    refine runD_heap S m x x rfl rfl (fun j s' hj hD e he heq => ?_)
    by_cases hji : m + j < m + d
    ·have hDj : D (m + j) = false := by
      cases hqq : D (m + j) with
      | false => rfl
      | true => rw [hqq] at hD; simp [hji] at hD
     rcases tr.apart j d s' s (by omega) hj hs_i with h | h
     ·rw [hun2 _ hji hDj] at h; cases h
     ·exact h.1 e he (heq ▸ hid)
    ·have hDj : D (m + j) = true := by
      cases hqq : D (m + j) with
      | true => rfl
      | false => rw [hqq] at hD; simp [hji] at hD
     have hne : m + j ≠ m + d := by intro e; rw [e, show D (m + d) = false from hnl] at hDj; cases hDj
     rcases tr.apart d j s s' (by omega) hs_i hj with h | h
     ·rw [hun1 _ (by omega) hDj] at h; cases h
     ·exact h.2 e he (heq ▸ hid)
   have hlenr : (runD D m S x).2.length = (runD (fun j => decide (j < m + d)) m S x).2.length := by rw [runD_len, runD_len]
   have hins : runD (fun j => (listed.setIfInBounds (m + d) true).getD j false) m S x = s.app (runD D m S x) := by
    rw [← runD_insert D (i := m + d) hnl S m x s (by omega) (by rw [show m + d - m = d by omega]; exact hs_i)]
    ·refine runD_congr S m x (fun j hj => ?_)
     simp only [D]
     rw [Array.getD_eq_getD_getElem?, Array.getD_eq_getD_getElem?]
     by_cases e : m + j = m + d
     ·rw [e, Array.getElem?_setIfInBounds_self_of_lt (by omega)]; simp
     ·rw [Array.getElem?_setIfInBounds_ne (fun q => e q.symm)]
      have : (m + j == m + d) = false := by simpa using e
      rw [this]; simp
    ·intro j s' hij hj hDj
     have hb' := hun1 _ hij hDj
     refine ⟨(slotsApart_spec hs hij hso (hop j s' hj) hb').1, fun e he y hy heq => ?_⟩
     rcases tr.apart d j s s' (by omega) hs_i hj with h | h
     ·rw [hb'] at h; cases h
     ·exact h.1 e he (heq ▸ tr.own s' (List.mem_of_getElem? hj) y hy)
   have hcnt0 : ((List.range ops.size).filter fun k => !(listed.setIfInBounds (m + d) true).getD k true).length < ((List.range ops.size).filter fun k => !listed.getD k true).length := by
    have e1 : (List.range ops.size).filter (fun k => !(listed.setIfInBounds (m + d) true).getD k true) = ((List.range ops.size).filter fun k => !listed.getD k true).filter fun k => k != m + d := by
     rw [List.filter_filter]
     apply List.filter_congr
     intro k hk
     rw [Array.getD_eq_getD_getElem?, Array.getD_eq_getD_getElem?]
     by_cases e : k = m + d
     ·rw [e, Array.getElem?_setIfInBounds_self_of_lt (by omega)]; simp
     ·rw [Array.getElem?_setIfInBounds_ne (fun q => e q.symm)]; simp [e]
    rw [e1]
    refine List.length_filter_lt_length_iff_exists.2 ⟨m + d, ?_, by simp⟩
    rw [List.mem_filter]
    exact ⟨List.mem_range.2 him1, by rw [hdT _ him1 true false, hnl]; rfl⟩
   have hup : ∀ k, listed.getD k false = true → (listed.setIfInBounds (m + d) true).getD k false = true := by
    intro k hk
    rw [Array.getD_eq_getD_getElem?] at hk ⊢
    by_cases q : k = m + d
    ·rw [q, Array.getElem?_setIfInBounds_self_of_lt (by omega)]; rfl
    ·rw [Array.getElem?_setIfInBounds_ne (fun z => q z.symm)]; exact hk
   have hdn : ∀ k, k ≠ m + d → (listed.setIfInBounds (m + d) true).getD k false = listed.getD k false := by
    intro k hk
    rw [Array.getD_eq_getD_getElem?, Array.getElem?_setIfInBounds_ne (fun z => hk z.symm), ← Array.getD_eq_getD_getElem?]
   have hcl' : ∀ j o, ops.toList[j]? = some o → (listed.setIfInBounds (m + d) true).getD j false = true → ∀ e ∈ o.after.toList, Region.binds .any e = true → (listed.setIfInBounds (m + d) true).getD e.on false = true := by
    intro j o hoo hj e he hbd
    apply hup
    by_cases q : j = m + d
    ·subst q; rw [hso] at hoo; cases hoo; exact hprei e (by rw [hso']; exact he) hbd
    ·rw [hdn j q] at hj
     exact hcl j o hoo hj e he hbd
   have hlo' : ∀ j, j < m → (listed.setIfInBounds (m + d) true).getD j false = true := fun j hj => hup j (hlo j hj)
   have hhi' : ∀ j, m + S.length ≤ j → (listed.setIfInBounds (m + d) true).getD j false = false := fun j hj => by rw [hdn j (by omega)]; exact hhi j hj
   have hrob := tr.rob d s hs_i (runD D m S x).1 (runD D m S x).2 hslot hheap hlenr E a ho hH ht
   refine wpOps_cons hop_i ?_
   rcases hrob with ⟨hw, he0, hv0⟩ | ⟨hw, hgo⟩
   ·rw [if_neg (by rw [hw]; simp)]
    refine ih _ _ _ E _ (by simp [hsz]) (by omega) (by omega) hcl' hlo' hhi' hle ho ?_ ?_
    ·rw [hins]; simp only [Stp.app, he0, effs, List.foldl_nil]; exact hH
    ·rw [hins]; simp only [Stp.app]
     rcases hv0 with e | e
     ·rw [e]; exact ht.put s.o.dst (.junk _)
     ·rw [e]; exact ht.put s.o.dst (.tup _ _ rfl (fun i h => absurd h (by simp)))
   ·rw [if_pos hw]
    refine hgo _ _ (fun E' val hle' ho' hH' hv' => ?_)
    refine ih _ _ _ E' _ (by simp [hsz]) (by omega) (by omega) hcl' hlo' hhi' (hle.trans (hle'.leN nb)) ho' ?_ ?_
    ·rw [hins]; simp only [Stp.app]; exact hH'
    ·rw [hins]; simp only [Stp.app]; exact (ht.mono hle'.view).put s.o.dst hv'
def DSeg (P : Program) (N : Nat) (ops : Array Oper) (nx : Slots → Heap → Prop) : Nat → List Oper → Prev → Slots → Heap → Prop
 | _, [], _, T, H => nx T H
 | k, o :: l, prev, T, H => ∃ v eff rd, Rob P N ops o T H v eff rd ∧ (∀ e ∈ eff, e.1 ∈ rd) ∧
   (∀ p ∈ prev, ((bmasks ops.toList).getD k 0).testBit p.1 = true ∨ ((∀ id ∈ p.2.2, id ∉ rd) ∧ ∀ e ∈ eff, e.1 ∉ p.2.1)) ∧
   DSeg P N ops nx (k + 1) l (prev ++ [(k, rd, eff.map (·.1))]) (updO T o.dst v) (effs H eff)
theorem dseg_trace {nx : Slots → Heap → Prop} {m : Nat} : ∀ (l : List Oper) (k : Nat) (prev : Prev) (S0 : List Stp), m + S0.length = k → (∀ i s, S0[i]? = some s → ops.toList[m + i]? = some s.o) → (∀ i o, l[i]? = some o → ops.toList[k + i]? = some o) →
  (∀ (i : Nat) (s : Stp), S0[i]? = some s → Rob P N ops s.o (runD (fun j => decide (j < m + i)) m S0 x).1 (runD (fun j => decide (j < m + i)) m S0 x).2 s.v s.eff s.rd) →
  (∀ s ∈ S0, ∀ e ∈ s.eff, e.1 ∈ s.rd) →
  (∀ (i j : Nat) (s s' : Stp), i < j → S0[i]? = some s → S0[j]? = some s' → ((bmasks ops.toList).getD (m + j) 0).testBit (m + i) = true ∨ ((∀ e ∈ s.eff, e.1 ∉ s'.rd) ∧ ∀ e ∈ s'.eff, e.1 ∉ s.rd)) →
  (∀ (i : Nat) (s : Stp), S0[i]? = some s → (m + i, s.rd, s.eff.map (·.1)) ∈ prev) →
  DSeg P N ops nx k l prev (runD (fun _ => true) m S0 x).1 (runD (fun _ => true) m S0 x).2 →
  ∃ S, S.length = S0.length + l.length ∧ TraceS P N ops m S x ∧ nx (runD (fun _ => true) m S x).1 (runD (fun _ => true) m S x).2
 | [], k, prev, S0, hk, ho, ho2, h1, h2, h3, h4, hd => ⟨S0, rfl, ⟨ho, h1, h2, h3⟩, hd⟩
 | o :: l, k, prev, S0, hk, ho, ho2, h1, h2, h3, h4, hd => by
  obtain ⟨v, eff, rd, hr, how, hap, hd'⟩ := hd
  let s : Stp := ⟨o, v, eff, rd⟩
  have hpre : ∀ i, m + i ≤ k → runD (fun j => decide (j < m + i)) m (S0 ++ [s]) x = runD (fun j => decide (j < m + i)) m S0 x := by
   intro i hi
   rw [runD_append]
   exact runD_none _ _ _ (fun j hj => by simp at hj; subst hj; simp; omega)
  have hfull : runD (fun j => decide (j < k)) m S0 x = runD (fun _ => true) m S0 x := runD_congr S0 m x (fun j hj => by simp; omega)
  have hext : runD (fun _ => true) m (S0 ++ [s]) x = s.app (runD (fun _ => true) m S0 x) := by
   rw [runD_append]; rfl
  have hk1 : m + (S0 ++ [s]).length = k + 1 := by rw [List.length_append, List.length_singleton]; omega
  have key := dseg_trace l (k + 1) (prev ++ [(k, rd, eff.map (·.1))]) (S0 ++ [s]) hk1 ?_ (fun i o' h => by have := ho2 (i + 1) o' (by simpa using h); rw [show k + 1 + i = k + (i + 1) by omega]; exact this) ?_ ?_ ?_ ?_ (by rw [hext]; exact hd')
  ·obtain ⟨S, q1, q2, q3⟩ := key
   refine ⟨S, ?_, q2, q3⟩
   rw [q1, List.length_append, List.length_singleton, List.length_cons]; omega
  ·intro i s' hs'
   by_cases hi : i < S0.length
   ·rw [List.getElem?_append_left hi] at hs'; exact ho i s' hs'
   ·have hik : i = S0.length := by have := lG hs'; simp at this; omega
    subst hik
    rw [List.getElem?_append_right (Nat.le_refl _)] at hs'
    simp at hs'
    subst hs'
    have := ho2 0 o rfl
    rw [hk]; simpa using this
  ·intro i s' hs'
   by_cases hi : i < S0.length
   ·rw [List.getElem?_append_left hi] at hs'
    rw [hpre i (by omega)]
    exact h1 i s' hs'
   ·have hik : i = S0.length := by have := lG hs'; simp at this; omega
    subst hik
    rw [List.getElem?_append_right (Nat.le_refl _)] at hs'
    simp at hs'
    subst hs'
    rw [hpre _ (by omega), hk, hfull]
    exact hr
  ·intro s' hs'
   rcases List.mem_append.1 hs' with hs' | hs'
   ·exact h2 s' hs'
   ·simp at hs'; subst hs'; exact how
  ·intro i j s1 s2 hij hs1 hs2
   have hi : i < S0.length := by have := lG hs2; simp at this; omega
   rw [List.getElem?_append_left hi] at hs1
   by_cases hj : j < S0.length
   ·rw [List.getElem?_append_left hj] at hs2
    exact h3 i j s1 s2 hij hs1 hs2
   ·have hjk : j = S0.length := by have := lG hs2; simp at this; omega
    subst hjk
    rw [List.getElem?_append_right (Nat.le_refl _)] at hs2
    simp at hs2
    subst hs2
    rw [hk]
    rcases hap _ (h4 i s1 hs1) with h | h
    ·exact .inl h
    ·refine .inr ⟨fun e he => h.1 _ (List.mem_map.2 ⟨e, he, rfl⟩), h.2⟩
  ·intro i s' hs'
   by_cases hi : i < S0.length
   ·rw [List.getElem?_append_left hi] at hs'
    exact List.mem_append.2 (.inl (h4 i s' hs'))
   ·have hik : i = S0.length := by have := lG hs'; simp at this; omega
    subst hik
    rw [List.getElem?_append_right (Nat.le_refl _)] at hs'
    simp at hs'
    subst hs'
    exact List.mem_append.2 (.inr (by simp [s, hk]))
def GoAt (P : Program) (N nb : Nat) (ops : Array Oper) (Q : Post) (k : Nat) (T : Slots) (H : Heap) : Prop :=
 ∀ (E0 : Env) (fuel t : Nat) (listed : Array Bool) (E : Env) (a : Act), listed.size = ops.size → ((List.range ops.size).filter fun i => !listed.getD i true).length ≤ fuel → (∀ j, j < ops.size → listed.getD j false = decide (j < k)) →
  E0.leN nb E → E.Ok → E.H = H → TRel E.view N a T → wpOps P ops (lift N nb E0 Q) (goRem ops fuel t listed) a E.w
variable {Q : Post} {T : Slots} {H : Heap}
theorem goat_closed {k : Nat} {listed : Array Bool} (hb : edgesBack ops.toList = true) (hsz : listed.size = ops.size) (hl : ∀ j, j < ops.size → listed.getD j false = decide (j < k)) :
  ∀ j o, ops.toList[j]? = some o → listed.getD j false = true → ∀ e ∈ o.after.toList, Region.binds .any e = true → listed.getD e.on false = true := by
 intro j o hj hlj e he hbd
 have hjs : j < ops.size := by have := lG hj; simpa using this
 have hon := edgesBack_spec hb hj he hbd
 rw [hl j hjs] at hlj
 have := of_decide_eq_true hlj
 rw [hl e.on (by omega), decide_eq_true (by omega : e.on < k)]
theorem goat_end (h : Q .normal T H) : GoAt P N nb ops Q ops.size T H := by
 intro E0 fuel t listed E a hsz hcnt hl hle ho hH ht
 have hrs : (List.range ops.size).filter (ready ops listed) = [] := by
  rw [List.filter_eq_nil_iff]
  intro j hj
  rw [List.mem_range] at hj
  have := hl j hj
  rw [decide_eq_true hj, Array.getD_eq_getD_getElem?, Array.getElem?_eq_getElem (by omega)] at this
  unfold ready
  rw [Array.getD_eq_getD_getElem?, Array.getElem?_eq_getElem (by omega)]
  simp only [Option.getD_some] at this ⊢
  simp [this]
 have hnil : goRem ops fuel t listed = [] := by
  cases fuel with
  | zero => rfl
  | succ f => unfold goRem; rw [hrs]; rfl
 rw [hnil]
 exact ⟨E, T, rfl, hle, ho, ht, hH ▸ h⟩
theorem goat_seg {m n : Nat} (hb : edgesBack ops.toList = true) (hs : slotsApart ops.toList (bmasks ops.toList) = true) (hn : m + n ≤ ops.size)
  (hbar : ((List.range ops.size).all fun j => decide (j < m + n) || (List.range n).all fun i => ((bmasks ops.toList).getD j 0).testBit (m + i)) = true)
  (h : DSeg P N ops (GoAt P N nb ops Q (m + n)) m ((ops.toList.drop m).take n) [] T H) : GoAt P N nb ops Q m T H := by
 intro E0 fuel t listed E a hsz hcnt hl hle ho hH ht
 obtain ⟨S, q1, q2, q3⟩ := dseg_trace (x := (T, H)) (m := m) _ m [] [] (by simp) (fun i s h => by simp at h) (fun i o h => by
  rw [List.getElem?_take] at h
  split at h
  ·rw [List.getElem?_drop] at h; exact h
  ·cases h) (fun i s h => by simp at h) (fun s h => by simp at h) (fun i j s s' _ h => by simp at h) (fun i s h => by simp at h) h
 have hlen : S.length = n := by rw [q1]; simp; omega
 have hbar' : ∀ j i, m + S.length ≤ j → j < ops.size → m ≤ i → i < m + S.length → ((bmasks ops.toList).getD j 0).testBit i = true := by
  intro j i h1 h2 h3 h4
  rw [List.all_eq_true] at hbar
  have := hbar j (List.mem_range.2 h2)
  rw [decide_eq_false (by omega : ¬ j < m + n), Bool.false_or, List.all_eq_true] at this
  have := this (i - m) (List.mem_range.2 (by omega))
  rwa [show m + (i - m) = i by omega] at this
 have hD : runD (fun j => listed.getD j false) m S (T, H) = (T, H) := runD_none S m _ fun j hj => by rw [hl _ (by omega)]; exact decide_eq_false (by omega)
 refine draw_seg hb hs q2 (by omega) hbar' E0 ?_ _ fuel t listed E a hsz hcnt (Nat.le_refl _) (goat_closed hb hsz hl) (fun j hj => by rw [hl j (by omega)]; exact decide_eq_true hj) ?_ hle ho (by rw [hD]; exact hH) (by rw [hD]; exact ht)
 ·intro fuel t listed E a hsz hcnt hl hle ho hH ht
  rw [hlen] at hl
  exact q3 E0 fuel t listed E a hsz hcnt hl hle ho hH ht
 ·intro j hj
  rcases Nat.lt_or_ge j ops.size with h | h
  ·rw [hl j h]; exact decide_eq_false (by omega)
  ·rw [Array.getD_eq_getD_getElem?, Array.getElem?_eq_none (by omega)]; rfl
theorem goat_op {k : Nat} {o : Oper} (hb : edgesBack ops.toList = true) (hok : ops.toList[k]? = some o)
  (hbar : ((List.range ops.size).all fun j => decide (j ≤ k) || ((bmasks ops.toList).getD j 0).testBit k) = true)
  (h : AOps P N nb ops (thenQ (GoAt P N nb ops Q (k + 1)) Q) [o] T H) : GoAt P N nb ops Q k T H := by
 intro E0 fuel t listed E a hsz hcnt hl hle ho hH ht
 have hk : k < ops.size := by have := lG hok; simpa using this
 have hdT : ∀ (j : Nat), j < ops.size → ∀ b c : Bool, listed.getD j b = listed.getD j c := by
  intro j hj b c
  rw [Array.getD_eq_getD_getElem?, Array.getD_eq_getD_getElem?, Array.getElem?_eq_getElem (by omega)]; rfl
 have hcl := goat_closed hb hsz hl
 have hok' : ops[k]? = some o := by rw [Array.getElem?_toList] at hok; exact hok
 have hbar' : ∀ j, k < j → j < ops.size → ((bmasks ops.toList).getD j 0).testBit k = true := by
  intro j h1 h2
  rw [List.all_eq_true] at hbar
  have := hbar j (List.mem_range.2 h2)
  rwa [decide_eq_false (by omega : ¬ j ≤ k), Bool.false_or] at this
 have hready : ∀ j, j < ops.size → ready ops listed j = decide (j = k) := by
  intro j hj
  rcases Nat.lt_trichotomy j k with hlt | rfl | hgt
  ·rw [decide_eq_false (by omega : ¬ j = k)]
   unfold ready
   rw [hdT j hj true false, hl j hj, decide_eq_true hlt]; rfl
  ·rw [decide_eq_true rfl]
   unfold ready
   rw [hdT j hj true false, hl j hj, decide_eq_false (Nat.lt_irrefl _), Array.getElem?_eq_getElem hj]
   simp only [Bool.not_false, Bool.true_and, Option.map_some, Option.getD_some]
   rw [Array.all_eq_true']
   intro e he
   cases hbd : Region.binds .any e with
   | false => rfl
   | true =>
    have hon := edgesBack_spec hb (i := j) (o := ops[j]) (by simp [hj]) (e := e) (by simpa using he) hbd
    rw [hl e.on (by omega), decide_eq_true hon]; rfl
  ·rw [decide_eq_false (by omega : ¬ j = k)]
   cases hr : ready ops listed j with
   | false => rfl
   | true =>
    unfold ready at hr
    rw [hdT j hj true false, Array.getElem?_eq_getElem hj] at hr
    simp only [Bool.and_eq_true, Bool.not_eq_true', Option.map_some, Option.getD_some] at hr
    obtain ⟨_, hpre⟩ := hr
    rw [Array.all_eq_true'] at hpre
    have hso0 : ops.toList[j]? = some ops[j] := by rw [Array.getElem?_toList, Array.getElem?_eq_getElem hj]
    have hbf : Bf ops.toList k j := (bmasks_sound ops.toList _ ops.toList [] rfl (by simp)).2 _ _ (hbar' j hgt hj)
    have := Bf.pre (listed := fun j => listed.getD j false) (i := j) (fun j' o' hoo hj' e he hbd => by
     rcases hj' with hj' | rfl
     ·exact hcl j' o' hoo hj' e he hbd
     ·rw [hso0] at hoo; cases hoo
      have := hpre e (by simpa using he)
      rw [hbd] at this; simpa using this) hbf
    rw [hl k hk, decide_eq_false (Nat.lt_irrefl _)] at this; cases this
 have hfilt : (List.range ops.size).filter (ready ops listed) = [k] := by
  have e1 : (List.range ops.size).filter (ready ops listed) = (List.range ops.size).filter (fun j => decide (j = k)) := List.filter_congr fun j hj => hready j (List.mem_range.1 hj)
  rw [e1]
  have hnd : ((List.range ops.size).filter fun j => decide (j = k)).Nodup := List.nodup_range.sublist List.filter_sublist
  have hm : ∀ x, x ∈ (List.range ops.size).filter (fun j => decide (j = k)) ↔ x = k := by
   intro x
   rw [List.mem_filter, List.mem_range]
   constructor
   ·rintro ⟨_, h⟩; exact of_decide_eq_true h
   ·rintro rfl; exact ⟨hk, decide_eq_true rfl⟩
  generalize (List.range ops.size).filter (fun j => decide (j = k)) = L at hnd hm
  match L, hnd, hm with
  | [], _, hm => exact absurd ((hm k).2 rfl) (by simp)
  | [x], _, hm => rw [(hm x).1 (by simp)]
  | x :: y :: l, hnd, hm =>
   have h1 := (hm x).1 (by simp)
   have h2 := (hm y).1 (by simp)
   rw [List.nodup_cons] at hnd
   exact absurd (by rw [h1, h2]; simp) hnd.1
 have hfuel : ∃ f, fuel = f + 1 := by
  have hm : k ∈ (List.range ops.size).filter fun i => !listed.getD i true := by
   rw [List.mem_filter]
   exact ⟨List.mem_range.2 hk, by rw [hdT k hk true false, hl k hk, decide_eq_false (Nat.lt_irrefl _)]; rfl⟩
  have := List.length_pos_of_mem hm
  exact ⟨fuel - 1, by omega⟩
 obtain ⟨fuel, rfl⟩ := hfuel
 unfold goRem
 rw [hfilt]
 simp only [List.length_singleton, Nat.mod_one, List.getElem?_cons_zero, Nat.div_one]
 have hgk : listed.getD k true = false := by rw [hdT k hk true false, hl k hk, decide_eq_false (Nat.lt_irrefl _)]
 have hsz' : (listed.setIfInBounds k true).size = ops.size := by simp [hsz]
 have hl' : ∀ j, j < ops.size → (listed.setIfInBounds k true).getD j false = decide (j < k + 1) := by
  intro j hj
  rw [Array.getD_eq_getD_getElem?]
  by_cases e : j = k
  ·subst e; rw [Array.getElem?_setIfInBounds_self_of_lt (by omega), decide_eq_true (by omega : j < j + 1)]; rfl
  ·rw [Array.getElem?_setIfInBounds_ne (fun q => e q.symm), ← Array.getD_eq_getD_getElem?, hl j hj]
   by_cases h : j < k
   ·rw [decide_eq_true h, decide_eq_true (by omega : j < k + 1)]
   ·rw [decide_eq_false h, decide_eq_false (by omega : ¬ j < k + 1)]
 have hcnt' : ((List.range ops.size).filter fun i => !(listed.setIfInBounds k true).getD i true).length ≤ fuel := by
  have e1 : (List.range ops.size).filter (fun j => !(listed.setIfInBounds k true).getD j true) = ((List.range ops.size).filter fun j => !listed.getD j true).filter fun j => j != k := by
   rw [List.filter_filter]
   apply List.filter_congr
   intro j hj
   rw [Array.getD_eq_getD_getElem?, Array.getD_eq_getD_getElem?]
   by_cases e : j = k
   ·rw [e, Array.getElem?_setIfInBounds_self_of_lt (by omega)]; simp
   ·rw [Array.getElem?_setIfInBounds_ne (fun q => e q.symm)]; simp [e]
  have hm : k ∈ (List.range ops.size).filter fun i => !listed.getD i true := by
   rw [List.mem_filter]
   exact ⟨List.mem_range.2 hk, by rw [hgk]; rfl⟩
  have : ((List.range ops.size).filter fun i => !(listed.setIfInBounds k true).getD i true).length < ((List.range ops.size).filter fun i => !listed.getD i true).length := by
   rw [e1]
   exact List.length_filter_lt_length_iff_exists.2 ⟨k, hm, by simp⟩
  omega
 have hgo := h E a ho hH ht
 unfold wpList at hgo
 unfold wpOps
 rw [hok']
 simp only
 have hnorm : ∀ a w, lift N nb E (thenQ (GoAt P N nb ops Q (k + 1)) Q) .normal a w → wpOps P ops (lift N nb E0 Q) (goRem ops fuel t (listed.setIfInBounds k true)) a w := by
  rintro a w ⟨E', T', rfl, h2, h3, h4, h5⟩
  exact h5 E0 fuel t _ E' a hsz' hcnt' hl' (hle.trans h2) h3 rfl h4
 have hbad : ∀ e a w, e ≠ .normal → lift N nb E (thenQ (GoAt P N nb ops Q (k + 1)) Q) e a w → lift N nb E0 Q e a w := by
  intro e a w hne hx
  obtain ⟨E', T', h1, h2, h3, h4, h5⟩ := hx
  refine ⟨E', T', h1, hle.trans h2, h3, h4, ?_⟩
  cases e with
  | normal => exact (hne rfl).elim
  | _ => exact h5
 have hout : LetsOut (lift N nb E (thenQ (GoAt P N nb ops Q (k + 1)) Q)) → LetsOut (lift N nb E0 Q) := fun ⟨a, w, x⟩ => ⟨a, w, hbad _ _ _ (by simp) x⟩
 split at hgo
 ·rename_i hw
  rw [if_pos hw]
  rcases hgo with hgo | ⟨h1, h2⟩
  ·left
   unfold Oper.wp at hgo ⊢
   generalize (execOp a.eval o).run P E.w = r at hgo ⊢
   unfold Oper.upon at hgo ⊢
   split at hgo
   ·exact hnorm _ _ hgo
   ·exact hnorm _ _ hgo
   ·exact hnorm _ _ hgo
   ·refine hgo.mono fun e w'' he => ?_
    cases e with
    | returned v => exact hnorm _ _ he
    | panicked ch => exact hbad _ _ _ (by simp) he
    | outgrown => exact hout he
   ·exact hgo.mono fun v w'' he => hnorm _ _ he
   ·exact hbad _ _ _ (by simp) hgo
   ·exact hgo.elim
  ·exact .inr ⟨h1, hout h2⟩
 ·rename_i hw
  rw [if_neg hw]
  exact hnorm _ _ hgo
theorem awp_drawB {id : Nat} (n : Nat) (hok : drawOk P ops.toList = true) (h : GoAt P N nb ops Q 0 T (H ++ List.replicate n .unborn)) : AWP P N nb (.region id ops true) Q T H := by
 refine awp_extN n ?_
 unfold drawOk at hok
 simp only [Bool.and_eq_true] at hok
 intro E a ho hH ht
 refine wp_region_draw fun t => ?_
 rw [hok.1.1]
 simp only [Region.schedule, Bool.true_or, if_true, Region.linearise, go_eq, List.reverse_nil, List.nil_append]
 refine h E ops.size t (Array.replicate ops.size false) E.drew a (by simp) (Nat.le_trans (List.length_filter_le _ _) (by simp)) (fun j hj => ?_) (E.drew_le.leN nb) ho.drew hH ht
 rw [Array.getD_eq_getD_getElem?, Array.getElem?_eq_getElem (by simpa using hj)]; simp
theorem dops_seg {nx : Slots → Heap → Prop} : ∀ (l : List Oper) (k : Nat) (prev : Prev) (T : Slots) (H : Heap), DOps P N ops (fun _ => nx) k l prev T H → DSeg P N ops nx k l prev T H
 | [], _, _, _, _, h => h
 | o :: l, k, prev, T, H, ⟨v, eff, rd, h1, h2, h3, h4⟩ => ⟨v, eff, rd, h1, h2, h3, dops_seg l _ _ _ _ h4⟩
def barL (m n : Nat) : Nat → List Nat → Bool
 | _, [] => true
 | j, b :: l => (Nat.blt j (m + n) || Nat.beq ((b / 2 ^ m) % 2 ^ n) (2 ^ n - 1)) && barL m n (j + 1) l
theorem barL_spec {m n : Nat} : ∀ (l : List Nat) (j0 : Nat), barL m n j0 l = true → ∀ j, j < l.length → m + n ≤ j0 + j → ∀ i, i < n → (l.getD j 0).testBit (m + i) = true
 | [], j0, h, j, hj, _, i, hi => absurd hj (by simp)
 | b :: l, j0, h, j, hj, hm, i, hi => by
  simp only [barL, Bool.and_eq_true, Bool.or_eq_true] at h
  cases j with
  | zero =>
   rcases h.1 with h1 | h1
   ·have : j0 < m + n := by simpa [Nat.blt_eq] using h1
    omega
   ·have h2 : (b / 2 ^ m) % 2 ^ n = 2 ^ n - 1 := by simpa using h1
    have h3 := congrArg (fun z => Nat.testBit z i) h2
    simp only [Nat.testBit_mod_two_pow, Nat.testBit_two_pow_sub_one, hi, decide_true, Bool.true_and, Nat.testBit_div_two_pow] at h3
    rw [List.getD_cons_zero, Nat.add_comm]; exact h3
  | succ j =>
   rw [List.getD_cons_succ]
   exact barL_spec l (j0 + 1) h.2 j (by simpa using hj) (by omega) i hi
theorem bmasks_len (l : List Oper) : (bmasks l).length = l.length := (bmasks_sound l _ l [] rfl (by simp)).1
theorem seg_draw {m : Nat} (n : Nat) {bm : List Nat} (hok : drawOk P ops.toList = true) (hn : decide (m + n ≤ ops.size) = true) (hbm : bmasks ops.toList = bm) (hbar : barL m n 0 bm = true)
  (h : DOps P N ops (fun _ => GoAt P N nb ops Q (m + n)) m ((ops.toList.drop m).take n) [] T H) : GoAt P N nb ops Q m T H := by
 unfold drawOk at hok
 simp only [Bool.and_eq_true] at hok
 refine goat_seg hok.1.2 hok.2 (of_decide_eq_true hn) ?_ (dops_seg _ _ _ _ _ h)
 rw [hbm, List.all_eq_true]
 intro j hj
 have hlen : bm.length = ops.size := by rw [← hbm, bmasks_len]; simp
 rcases Nat.lt_or_ge j (m + n) with h | h
 ·rw [decide_eq_true h]; rfl
 ·rw [decide_eq_false (by omega : ¬ j < m + n), Bool.false_or, List.all_eq_true]
  intro i hi
  exact barL_spec bm 0 hbar j (by rw [hlen]; exact List.mem_range.1 hj) (by omega) i (List.mem_range.1 hi)
theorem seg_op {k : Nat} {o : Oper} {bm : List Nat} (hok : drawOk P ops.toList = true) (ho : ops.toList[k]? = some o) (hbm : bmasks ops.toList = bm) (hbar : barL k 1 0 bm = true)
  (h : AOps P N nb ops (thenQ (GoAt P N nb ops Q (k + 1)) Q) [o] T H) : GoAt P N nb ops Q k T H := by
 unfold drawOk at hok
 simp only [Bool.and_eq_true] at hok
 refine goat_op hok.1.2 ho ?_ h
 rw [hbm, List.all_eq_true]
 intro j hj
 have hlen : bm.length = ops.size := by rw [← hbm, bmasks_len]; simp
 rcases Nat.lt_or_ge k j with h | h
 ·rw [decide_eq_false (by omega : ¬ j ≤ k), Bool.false_or]
  exact barL_spec bm 0 hbar j (by rw [hlen]; exact List.mem_range.1 hj) (by omega) 0 (by omega)
 ·rw [decide_eq_true h]; rfl
theorem GoAt.weak {k : Nat} {T2 : Slots} (h : GoAt P N nb ops Q k T2 H) (hw : ∀ i, T2 i = .junk ∨ T2 i = T i) : GoAt P N nb ops Q k T H :=
 fun E0 fuel t listed E a hsz hcnt hl hle ho hH ht => h E0 fuel t listed E a hsz hcnt hl hle ho hH (trel_weak ht hw)
theorem DSeg.mono {nx nx' : Slots → Heap → Prop} (hn : ∀ T H, nx T H → nx' T H) : ∀ (l : List Oper) (k : Nat) (prev : Prev) (T : Slots) (H : Heap), DSeg P N ops nx k l prev T H → DSeg P N ops nx' k l prev T H
 | [], _, _, _, _, h => hn _ _ h
 | o :: l, k, prev, T, H, ⟨v, eff, rd, h1, h2, h3, h4⟩ => ⟨v, eff, rd, h1, h2, h3, DSeg.mono hn l _ _ _ _ h4⟩
theorem seg_pure {m : Nat} (n : Nat) {bm : List Nat} (hok : drawOk P ops.toList = true) (hn : decide (m + n ≤ ops.size) = true) (hbm : bmasks ops.toList = bm) (hbar : barL m n 0 bm = true)
  (h : DP P N ops (fun _ => GoAt P N nb ops Q (m + n)) m ((ops.toList.drop m).take n) (msk (.tup []) T allG) H) : GoAt P N nb ops Q m T H := by
 have hok' := hok
 unfold drawOk at hok'
 simp only [Bool.and_eq_true] at hok'
 refine goat_seg hok'.1.2 hok'.2 (of_decide_eq_true hn) ?_ ?_
 ·rw [hbm, List.all_eq_true]
  intro j hj
  have hlen : bm.length = ops.size := by rw [← hbm, bmasks_len]; simp
  rcases Nat.lt_or_ge j (m + n) with h | h
  ·rw [decide_eq_true h]; rfl
  ·rw [decide_eq_false (by omega : ¬ j < m + n), Bool.false_or, List.all_eq_true]
   intro i hi
   exact barL_spec bm 0 hbar j (by rw [hlen]; exact List.mem_range.1 hj) (by omega) i (List.mem_range.1 hi)
 ·refine DSeg.mono ?_ _ _ _ _ _ (dops_seg _ _ _ _ _ (h [] (by intro p hp; cases hp)))
  rintro T1 H1 ⟨T2, h1, h2⟩
  exact h2.weak h1
end
end Go.Abs
namespace Go.Abs
section
variable {P : Program} {N nb : Nat} {ops : Array Oper} {Q : Post}
theorem aops_sliceM {o : Oper} {l : List Oper} {T : Slots} {H : Heap} {t : TypeId} {x y : Operand} {ei : TypeId × TI} {id n c : Nat} {kk : IntKind} {k : Nat} (hw : awanted ops.toList T N o = some true)
  (hop : o.op = .slice t x none (some y) none) (okx : okOpnd N x = true) (oky : okOpnd N y = true) (hte : telem P t = some ei) (hx : aev T x = .msl id 0 n c) (hy : aev T y = .int kk k) (hk : k ≤ c)
  (h : AOps P N nb ops Q l (updO T o.dst (.msl id 0 k c)) H) : AOps P N nb ops Q (o :: l) T H := by
 refine aops_done hw (fun E a ho hH ht => ?_) h
 obtain ⟨e, i⟩ := ei
 obtain ⟨hu, hti⟩ := telem_some hte
 obtain ⟨d, f, h3, h4, rfl⟩ := tinfo_some hti
 have hvx := vrel_eval ht x okx
 have hvy := vrel_eval ht y oky
 rw [hx] at hvx
 rw [hy] at hvy
 have vy := hvy.int_inv
 obtain ⟨vx, hcm, hbn⟩ : a.eval x = .slice (some ⟨E.ρ id, 0, none⟩) n c ∧ c ≤ maxLen ∧ E.view.born id := by
  generalize a.eval x = w at hvx
  cases hvx with
  | msl _ _ _ _ hbn hm => exact ⟨rfl, hm, hbn⟩
 refine ⟨E, .slice (some ⟨E.ρ id, 0, none⟩) k c, .inl ?_, .refl E, ho, hH, .msl id 0 k c hbn hcm⟩
 have hb : (Instr.sliceBound (.int kk (k : Int)) c .sliceAcap).run P E.w = .ok k E.w := by
  have hb0 : (0 : Int) ≤ (k : Int) ∧ (k : Int) ≤ c := ⟨by omega, by omega⟩
  simp only [Instr.sliceBound, asIntOf, Sem.run_bind, Sem.run_pure, Result.andThen_ok, if_pos hb0, Sem.run_ite, tN]
 unfold execOp
 rw [hop]
 have e1 : (if c = 0 then (some (⟨E.ρ id, 0, none⟩ : Addr)) else Option.map (fun z : Addr => z.add (0 * f.size)) (some ⟨E.ρ id, 0, none⟩)) = some ⟨E.ρ id, 0, none⟩ := by
  split
  ·rfl
  ·simp [Nat.zero_mul, add_zero']
 simp only [Sem.run_bind, Instr.sliceAt, run_under hu, Result.andThen_ok, Instr.slice, Instr.sliceBounds, Option.map_none, Option.map_some, Option.isSome_none, Bool.false_eq_true, if_false, vx, vy, if_true, hb, Sem.run_pure, run_size h4, Nat.sub_zero]
 rw [show (if c = 0 then (some (⟨E.ρ id, 0, none⟩ : Addr)) else some ((⟨E.ρ id, 0, none⟩ : Addr).add (0 * f.size))) = some ⟨E.ρ id, 0, none⟩ from e1]
theorem awp_loopX {c : Code} {T : Slots} {H : Heap} {σ : Type} (rep : σ → List (Nat × PV)) (I : σ → Heap → Prop) (m : σ → Nat) (s0 : σ) (hT : Fits T (rep s0)) (hI : I s0 H)
  (round : ∀ s H, I s H → AWP P N nb c (thenQ (fun T' H' => ∃ s', m s' < m s ∧ Fits T' (rep s') ∧ I s' H') Q) (mkS (rep s)) H) : AWP P N nb (.loop c) Q T H := by
 intro E a ho hE ht
 let J : Nat → Act → World → Prop := fun n a w => ∃ E' s, E'.w = w ∧ E.leN nb E' ∧ E'.Ok ∧ n = m s ∧ TRel E'.view N a (mkS (rep s)) ∧ I s E'.H
 refine wp_loop (fun a w => ∃ n, J n a w) (fun a w => least (fun n => J n a w)) ⟨m s0, E, s0, rfl, .refl nb E, ho, rfl, trel_weak ht (mkS_weak hT), hE ▸ hI⟩ ?_
 intro a1 w1 hJ
 obtain ⟨E1, s, hw1, hle, ho1, hms, ht1, hI1⟩ := least_spec hJ
 have hr := round s E1.H hI1 E1 a1 ho1 rfl ht1
 rw [hw1] at hr
 refine wp_mono hr ?_
 intro e a' w' hl
 obtain ⟨E', T', rfl, h2, h3, h4, h5⟩ := hl
 cases e with
 | normal =>
  obtain ⟨s', hlt, hf, hI'⟩ := h5
  have hJ' : J (m s') a' E'.w := ⟨E', s', rfl, hle.trans h2, h3, rfl, trel_weak h4 (mkS_weak hf), hI'⟩
  exact ⟨⟨m s', hJ'⟩, Nat.lt_of_le_of_lt (least_le hJ') (by rw [hms]; exact hlt)⟩
 | _ => exact ⟨E', T', rfl, hle.trans h2, h3, h4, h5⟩
end
end Go.Abs
namespace Go.Abs
structure Frm where
 kind : Int
 kids : List St
structure PS where
 pos : Nat
 stack : List Frm
 flag : Bool
def lim : Nat := 1099511627776
inductive ChOk (H : Heap) : PV → List St → List Nat → Prop
 | nil : ChOk H (.slice [] .full) [] []
 | msl {ic c : Nat} {kids : List St} {rest : List PV} (hH : H[ic]? = some (.row (flatE (kids.map St.enc) ++ rest))) (hc : kids.length * 3 + rest.length = c * 3) (hm : c ≤ maxLen) : ChOk H (.msl ic 0 kids.length c) kids [ic]
inductive StkOk (H : Heap) : List Frm → List PV → List Nat → Prop
 | nil : StkOk H [] [] []
 | cons {f : Frm} {fs : List Frm} {cells : List PV} {ids cid : List Nat} {cv : PV} (h : StkOk H fs cells ids) (hc : ChOk H cv f.kids cid) (hd : ∀ i ∈ cid, i ∉ ids) : StkOk H (f :: fs) (cells ++ [.int .i64 f.kind, .str [], cv]) (cid ++ ids)
def PSt (toks : List Tk) (ip : Nat) (s : PS) (F : List Nat) (H : Heap) : Prop :=
 ∃ (is c : Nat) (cells rest : List PV) (ids : List Nat), H[ip]? = some (.row [.slice (toks.map Tk.enc) .none, .int .i64 (s.pos : Nat), .msl is 0 s.stack.length c]) ∧ H[is]? = some (.row (cells ++ rest)) ∧
  (cells ++ rest).length = c * 3 ∧ c ≤ maxLen ∧ StkOk H s.stack cells ids ∧ F = ip :: is :: ids ∧ ip ≠ is ∧ ip ∉ ids ∧ is ∉ ids ∧ s.pos ≤ toks.length ∧ toks.length ≤ lim
structure Fr (F F' : List Nat) (H H' : Heap) : Prop where
 len : H.length ≤ H'.length
 same : ∀ id, id < H.length → id ∉ F → H'[id]? = H[id]?
 ids : ∀ id ∈ F', id < H.length → id ∈ F
theorem Fr.refl (F : List Nat) (H : Heap) : Fr F F H H := ⟨Nat.le_refl _, fun _ _ _ => rfl, fun _ h _ => h⟩
theorem Fr.trans {F F1 F2 : List Nat} {H H1 H2 : Heap} (a : Fr F F1 H H1) (b : Fr F1 F2 H1 H2) : Fr F F2 H H2 :=
 ⟨Nat.le_trans a.len b.len, fun id h1 h2 => (b.same id (Nat.lt_of_lt_of_le h1 a.len) (fun h => h2 (a.ids id h h1))).trans (a.same id h1 h2), fun id h1 h2 => a.ids id (b.ids id h1 (Nat.lt_of_lt_of_le h2 a.len)) h2⟩
theorem Fr.app {F F' : List Nat} {H H' : Heap} (a : Fr F F' H H') (L : Heap) : Fr F F' H (H' ++ L) :=
 ⟨by rw [List.length_append]; exact Nat.le_trans a.len (Nat.le_add_right _ _), fun id h1 h2 => by rw [List.getElem?_append_left (Nat.lt_of_lt_of_le h1 a.len)]; exact a.same id h1 h2, a.ids⟩
theorem Fr.of_app {F F' : List Nat} {H H' L : Heap} (a : Fr F F' (H ++ L) H') : Fr F F' H H' :=
 ⟨by have := a.len; rw [List.length_append] at this; omega, fun id h1 h2 => by rw [a.same id (by rw [List.length_append]; omega) h2, List.getElem?_append_left h1], fun id h1 h2 => a.ids id h1 (by rw [List.length_append]; omega)⟩
theorem Fr.step {F F1 F2 : List Nat} {H H1 H2 L : Heap} (a : Fr F F1 H H1) (b : Fr F1 F2 (H1 ++ L) H2) : Fr F F2 H H2 := a.trans b.of_app
theorem Fr.get {F F' : List Nat} {H H' : Heap} (a : Fr F F' H H') {id : Nat} {o : AObj} (h : H[id]? = some o) (hn : id ∉ F) : H'[id]? = some o ∧ id ∉ F' :=
 ⟨by rw [a.same id (lG h) hn]; exact h, fun h' => hn (a.ids id h' (lG h))⟩
theorem ChOk.fr {H H' : Heap} {cv : PV} {kids : List St} {cid : List Nat} (h : ChOk H cv kids cid) (he : ∀ i ∈ cid, H'[i]? = H[i]?) : ChOk H' cv kids cid := by
 cases h with
 | nil => exact .nil
 | msl hH hc hm => exact .msl (by rw [he _ (by simp)]; exact hH) hc hm
theorem ChOk.lt {H : Heap} {cv : PV} {kids : List St} {cid : List Nat} (h : ChOk H cv kids cid) : ∀ i ∈ cid, i < H.length := by
 cases h with
 | nil => intro i hi; cases hi
 | msl hH hc hm => intro i hi; rw [List.mem_singleton] at hi; subst hi; exact lG hH
theorem StkOk.fr {H H' : Heap} {fs : List Frm} {cells : List PV} {ids : List Nat} (h : StkOk H fs cells ids) : (∀ i ∈ ids, H'[i]? = H[i]?) → StkOk H' fs cells ids := by
 induction h with
 | nil => exact fun _ => .nil
 | cons h hc hd ih => exact fun he => .cons (ih fun i hi => he i (by simp [hi])) (hc.fr fun i hi => he i (by simp [hi])) hd
theorem StkOk.lt {H : Heap} {fs : List Frm} {cells : List PV} {ids : List Nat} (h : StkOk H fs cells ids) : ∀ i ∈ ids, i < H.length := by
 induction h with
 | nil => intro i hi; cases hi
 | cons h hc hd ih => intro i hi; exact (List.mem_append.1 hi).elim (hc.lt i) (ih i)
theorem StkOk.len {H : Heap} {fs : List Frm} {cells : List PV} {ids : List Nat} (h : StkOk H fs cells ids) : cells.length = fs.length * 3 := by
 induction h with
 | nil => rfl
 | cons h hc hd ih => simp [ih]; omega
section
variable {toks : List Tk} {ip : Nat} {s : PS} {F : List Nat} {H : Heap}
theorem PSt.fr {H' : Heap} (h : PSt toks ip s F H) (he : ∀ i ∈ F, H'[i]? = H[i]?) : PSt toks ip s F H' := by
 obtain ⟨is, c, cells, rest, ids, h1, h2, h3, h4, h5, rfl, h7⟩ := h
 exact ⟨is, c, cells, rest, ids, by rw [he _ (by simp)]; exact h1, by rw [he _ (by simp)]; exact h2, h3, h4, h5.fr fun i hi => he i (by simp [hi]), rfl, h7⟩
theorem PSt.lt (h : PSt toks ip s F H) : ∀ i ∈ F, i < H.length := by
 obtain ⟨is, c, cells, rest, ids, h1, h2, h3, h4, h5, rfl, h7⟩ := h
 intro i hi
 rcases List.mem_cons.1 hi with rfl | hi
 ·exact lG h1
 rcases List.mem_cons.1 hi with rfl | hi
 ·exact lG h2
 ·exact h5.lt i hi
theorem PSt.app (h : PSt toks ip s F H) (L : Heap) : PSt toks ip s F (H ++ L) := h.fr fun i hi => List.getElem?_append_left (h.lt i hi)
theorem PSt.row (h : PSt toks ip s F H) : ∃ st, H[ip]? = some (.row [.slice (toks.map Tk.enc) .none, .int .i64 (s.pos : Nat), st]) := by
 obtain ⟨is, c, cells, rest, ids, h1, h2, h3, h4, h5, rfl, h7⟩ := h; exact ⟨_, h1⟩
theorem PSt.pos (h : PSt toks ip s F H) : s.pos ≤ toks.length := by
 obtain ⟨is, c, cells, rest, ids, h1, h2, h3, h4, h5, h6, h7, h8, h9, h10, h11⟩ := h; exact h10
theorem PSt.len (h : PSt toks ip s F H) : toks.length ≤ lim := by
 obtain ⟨is, c, cells, rest, ids, h1, h2, h3, h4, h5, h6, h7, h8, h9, h10, h11⟩ := h; exact h11
theorem PSt.mem (h : PSt toks ip s F H) : ip ∈ F := by
 obtain ⟨is, c, cells, rest, ids, h1, h2, h3, h4, h5, rfl, h7⟩ := h; simp
theorem PSt.flg (h : PSt toks ip s F H) (b : Bool) : PSt toks ip { s with flag := b } F H := h
theorem PSt.lt_ip (h : PSt toks ip s F H) : ip < H.length := h.lt _ h.mem
theorem PSt.new (h : PSt toks ip s F H) (k : Nat) : H.length + k ∉ F := fun hi => by have := h.lt _ hi; omega
theorem PSt.new0 (h : PSt toks ip s F H) : H.length ∉ F := fun hi => by have := h.lt _ hi; omega
end
def addM (t : St) (s : PS) : Option PS := match s.stack with
 | [] => none
 | f :: fs => if f.kids.length < lim then some { s with stack := ⟨f.kind, f.kids ++ [t]⟩ :: fs } else none
def tokM (toks : List Tk) (s : PS) : Option PS := match toks[s.pos]? with
 | none => none
 | some t => (addM ⟨t.kind, t.text, []⟩ s).map fun s => { s with pos := s.pos + 1 }
def skipN (toks : List Tk) : Nat → PS → Option PS
 | 0, s => some s
 | n + 1, s => match toks[s.pos]? with
  | none => some s
  | some t => if trivB t.kind = true then (tokM toks s).bind (skipN toks n) else some s
def skipM (toks : List Tk) (s : PS) : Option PS := skipN toks (toks.length - s.pos) s
def bumpM (toks : List Tk) (s : PS) : Option PS := (skipM toks s).bind fun s => if s.pos < toks.length then tokM toks s else some s
def missM (k : Int) (s : PS) : Option PS := addM ⟨k, [], []⟩ s
abbrev atM (toks : List Tk) (s : PS) (xs : List (List UInt8)) : Bool := atT (peekT toks s.pos) xs
def acceptM (toks : List Tk) (xs : List (List UInt8)) (s : PS) : Option PS := if atM toks s xs = true then bumpM toks s else some s
def expectM (toks : List Tk) (x : List UInt8) (s : PS) : Option PS := (acceptM toks [x] s).bind fun s1 => if atM toks s [x] = true then some s1 else missM 108 s1
abbrev identM (toks : List Tk) (s : PS) : Bool := decide ((peekT toks s.pos).kind = 103)
abbrev eofM (toks : List Tk) (s : PS) : Bool := decide ((peekT toks s.pos).kind = 100)
def expectIdentM (toks : List Tk) (s : PS) : Option PS := if identM toks s = true then bumpM toks s else missM 108 s
def openM (k : Int) (s : PS) : Option PS := if s.stack.length < lim then some { s with stack := ⟨k, []⟩ :: s.stack } else none
def finishM (s : PS) : Option PS := match s.stack with
 | f :: g :: fs => addM ⟨f.kind, [], f.kids⟩ { s with stack := g :: fs }
 | _ => none
def nodeM (k : Int) (a : PS → Option PS) (s : PS) : Option PS := ((openM k s).bind a).bind finishM
def wrapOpenM (k : Int) (s : PS) : Option PS := match s.stack with
 | [] => none
 | f :: fs => if s.stack.length < lim then match f.kids.getLast? with
   | none => none
   | some x => some { s with stack := ⟨k, [x]⟩ :: ⟨f.kind, f.kids.dropLast⟩ :: fs }
  else none
def wrapM (k : Int) (a : PS → Option PS) (s : PS) : Option PS := ((wrapOpenM k s).bind a).bind finishM
def FC (P : Program) (toks : List Tk) (ip : Nat) (f : FuncId) (args : List PV) (m : PS → Option PS) (rv : PS → PS → PV) (I : PS → List Nat → Heap → Prop) : Prop :=
 ∀ (s s' : PS) (F : List Nat) (H : Heap), m s = some s' → PSt toks ip s F H → I s F H → ACalls P f args H fun r H' => r = rv s s' ∧ ∃ F', PSt toks ip s' F' H' ∧ Fr F F' H H' ∧ I s' F' H'
def Stb (I : PS → List Nat → Heap → Prop) : Prop := ∀ s s' F F' H H', s'.flag = s.flag → I s F H → Fr F F' H H' → I s' F' H'
def I0 : PS → List Nat → Heap → Prop := fun _ _ _ => True
theorem stb0 : Stb I0 := fun _ _ _ _ _ _ _ _ _ => trivial
theorem Fr.stX {F F1 F2 : List Nat} {H H1 H1' H2 : Heap} (a : Fr F F1 H H1) (b : Fr F1 F2 H1' H2) (hL : ∃ L, H1' = H1 ++ L := by first | exact ⟨[], (List.append_nil _).symm⟩ | exact ⟨_, rfl⟩) : Fr F F2 H H2 := by obtain ⟨L, rfl⟩ := hL; exact a.step b
theorem Fr.gtX {F F' : List Nat} {H H' H1 : Heap} {id : Nat} {o : AObj} (a : Fr F F' H' H1) (h : H[id]? = some o) (hn : id ∉ F) (hL : ∃ L, H' = H ++ L := by first | exact ⟨[], (List.append_nil _).symm⟩ | exact ⟨_, rfl⟩) : H1[id]? = some o ∧ id ∉ F' := by
 obtain ⟨L, rfl⟩ := hL; exact a.get (by rw [List.getElem?_append_left (lG h)]; exact h) hn
theorem gtH {H H1 : Heap} {id : Nat} {o : AObj} (h : H1[id]? = some o) (hL : ∃ L, H = H1 ++ L := by first | exact ⟨[], (List.append_nil _).symm⟩ | exact ⟨_, rfl⟩) : H[id]? = some o := by obtain ⟨L, rfl⟩ := hL; rw [List.getElem?_append_left (lG h)]; exact h
theorem finX {toks : List Tk} {ip : Nat} {s' : PS} {F0 F : List Nat} {H0 H1 H' : Heap} {α : Type} {u v : α} (p : PSt toks ip s' F H1) (f : Fr F0 F H0 H1) (hr : u = v := by rfl) (hL : ∃ L, H' = H1 ++ L := by first | exact ⟨[], (List.append_nil _).symm⟩ | exact ⟨_, rfl⟩) : u = v ∧ ∃ F', PSt toks ip s' F' H' ∧ Fr F0 F' H0 H' := by
 obtain ⟨L, rfl⟩ := hL; exact ⟨hr, F, p.app L, f.app L⟩
theorem enX {A : Prop} {o : Option PV} {r : PV} {R : PV → Prop} (h : R r) (ha : A := by first | exact .inl rfl | exact .inl trivial | trivial) (hr : o = some r := by rfl) : A ∧ ∃ r, o = some r ∧ R r := ⟨ha, r, hr, h⟩
theorem nx1 {toks : List Tk} {ip : Nat} {s : PS} {F F1 F2 : List Nat} {H H1 H1' H2 : Heap} {i0 : Nat} {o0 : AObj} (f : Fr F F1 H H1) (p : PSt toks ip s F2 H2) (g : Fr F1 F2 H1' H2) (k0 : H1[i0]? = some o0) (n0 : i0 ∉ F1) (hL : ∃ L, H1' = H1 ++ L := by first | exact ⟨[], (List.append_nil _).symm⟩ | exact ⟨_, rfl⟩) : Fr F F2 H H2 ∧ (∃ st, H2[ip]? = some (.row [.slice (toks.map Tk.enc) .none, .int .i64 (s.pos : Nat), st])) ∧ (H2[i0]? = some o0 ∧ i0 ∉ F2) := by
 obtain ⟨L, rfl⟩ := hL; exact ⟨f.step g, p.row, g.gtX k0 n0⟩
theorem nx2 {toks : List Tk} {ip : Nat} {s : PS} {F F1 F2 : List Nat} {H H1 H1' H2 : Heap} {i0 i1 : Nat} {o0 o1 : AObj} (f : Fr F F1 H H1) (p : PSt toks ip s F2 H2) (g : Fr F1 F2 H1' H2) (k0 : H1[i0]? = some o0) (n0 : i0 ∉ F1) (k1 : H1[i1]? = some o1) (n1 : i1 ∉ F1) (hL : ∃ L, H1' = H1 ++ L := by first | exact ⟨[], (List.append_nil _).symm⟩ | exact ⟨_, rfl⟩) : Fr F F2 H H2 ∧ (∃ st, H2[ip]? = some (.row [.slice (toks.map Tk.enc) .none, .int .i64 (s.pos : Nat), st])) ∧ (H2[i0]? = some o0 ∧ i0 ∉ F2) ∧ (H2[i1]? = some o1 ∧ i1 ∉ F2) := by
 obtain ⟨L, rfl⟩ := hL; exact ⟨f.step g, p.row, g.gtX k0 n0, g.gtX k1 n1⟩
theorem nx3 {toks : List Tk} {ip : Nat} {s : PS} {F F1 F2 : List Nat} {H H1 H1' H2 : Heap} {i0 i1 i2 : Nat} {o0 o1 o2 : AObj} (f : Fr F F1 H H1) (p : PSt toks ip s F2 H2) (g : Fr F1 F2 H1' H2) (k0 : H1[i0]? = some o0) (n0 : i0 ∉ F1) (k1 : H1[i1]? = some o1) (n1 : i1 ∉ F1) (k2 : H1[i2]? = some o2) (n2 : i2 ∉ F1) (hL : ∃ L, H1' = H1 ++ L := by first | exact ⟨[], (List.append_nil _).symm⟩ | exact ⟨_, rfl⟩) : Fr F F2 H H2 ∧ (∃ st, H2[ip]? = some (.row [.slice (toks.map Tk.enc) .none, .int .i64 (s.pos : Nat), st])) ∧ (H2[i0]? = some o0 ∧ i0 ∉ F2) ∧ (H2[i1]? = some o1 ∧ i1 ∉ F2) ∧ (H2[i2]? = some o2 ∧ i2 ∉ F2) := by
 obtain ⟨L, rfl⟩ := hL; exact ⟨f.step g, p.row, g.gtX k0 n0, g.gtX k1 n1, g.gtX k2 n2⟩
section
variable {i0 i1 i2 i3 : Nat} {o0 o1 o2 o3 : AObj} {H0 H1 H2 H3 : Heap}
theorem w1 (k0 : H0[i0]? = some o0) : H0[i0]? = some o0 ∧ (∀ L, (H0 ++ L)[i0]? = some o0) := ⟨k0, fun L => by rw [List.getElem?_append_left (lG k0)]; exact k0⟩
theorem w2 (k0 : H0[i0]? = some o0) (k1 : H1[i1]? = some o1) : H0[i0]? = some o0 ∧ (∀ L, (H0 ++ L)[i0]? = some o0) ∧ H1[i1]? = some o1 ∧ (∀ L, (H1 ++ L)[i1]? = some o1) := ⟨k0, fun L => by rw [List.getElem?_append_left (lG k0)]; exact k0, k1, fun L => by rw [List.getElem?_append_left (lG k1)]; exact k1⟩
theorem w3 (k0 : H0[i0]? = some o0) (k1 : H1[i1]? = some o1) (k2 : H2[i2]? = some o2) : H0[i0]? = some o0 ∧ (∀ L, (H0 ++ L)[i0]? = some o0) ∧ H1[i1]? = some o1 ∧ (∀ L, (H1 ++ L)[i1]? = some o1) ∧ H2[i2]? = some o2 ∧ (∀ L, (H2 ++ L)[i2]? = some o2) := ⟨k0, fun L => by rw [List.getElem?_append_left (lG k0)]; exact k0, k1, fun L => by rw [List.getElem?_append_left (lG k1)]; exact k1, k2, fun L => by rw [List.getElem?_append_left (lG k2)]; exact k2⟩
theorem w4 (k0 : H0[i0]? = some o0) (k1 : H1[i1]? = some o1) (k2 : H2[i2]? = some o2) (k3 : H3[i3]? = some o3) : H0[i0]? = some o0 ∧ (∀ L, (H0 ++ L)[i0]? = some o0) ∧ H1[i1]? = some o1 ∧ (∀ L, (H1 ++ L)[i1]? = some o1) ∧ H2[i2]? = some o2 ∧ (∀ L, (H2 ++ L)[i2]? = some o2) ∧ H3[i3]? = some o3 ∧ (∀ L, (H3 ++ L)[i3]? = some o3) := ⟨k0, fun L => by rw [List.getElem?_append_left (lG k0)]; exact k0, k1, fun L => by rw [List.getElem?_append_left (lG k1)]; exact k1, k2, fun L => by rw [List.getElem?_append_left (lG k2)]; exact k2, k3, fun L => by rw [List.getElem?_append_left (lG k3)]; exact k3⟩
end
end Go.Abs
namespace Go.Abs
theorem flatSt_len (kids : List St) : (flatE (kids.map St.enc)).length = kids.length * 3 := by
 rw [flatE_length (sz := 3) _ (fun e he => by obtain ⟨v, _, rfl⟩ := List.mem_map.1 he; exact v.enc_len), List.length_map]
theorem flatSt_snoc (kids : List St) (t : St) : flatE ((kids ++ [t]).map St.enc) = flatE (kids.map St.enc) ++ [.int .i64 t.kind, .str t.text, .slice (t.ch.map St.enc) .none] := by
 rw [List.map_append, flatE_append]
 simp [flatE, St.enc_cells]
theorem set3 {A rest : List PV} {m : Nat} {x y z a b c : PV} (hA : A.length = m) : (((A ++ x :: y :: z :: rest).set m a).set (m + 1) b).set (m + 2) c = A ++ [a, b, c] ++ rest := by
 subst hA
 rw [List.set_append_right _ _ (Nat.le_refl _), Nat.sub_self, List.set_append_right _ _ (by omega), List.set_append_right _ _ (by omega)]
 simp [show A.length + 1 - A.length = 1 by omega, show A.length + 2 - A.length = 2 by omega]
theorem ChOk.cases3 {H : Heap} {cv : PV} {kids : List St} {cid : List Nat} (h : ChOk H cv kids cid) :
  (cv = .slice (kids.map St.enc) .full ∧ cid = []) ∨ (∃ ic, cid = [ic] ∧ cv = .msl ic 0 kids.length kids.length ∧ H[ic]? = some (.row (flatE (kids.map St.enc)))) ∨
  ∃ ic c x y z rest, cid = [ic] ∧ cv = .msl ic 0 kids.length c ∧ H[ic]? = some (.row (flatE (kids.map St.enc) ++ x :: y :: z :: rest)) ∧ kids.length + 1 ≤ c ∧ (kids.length + 1) * 3 + rest.length = c * 3 ∧ c ≤ maxLen := by
 cases h with
 | nil => exact .inl ⟨rfl, rfl⟩
 | @msl ic c kids rest hH hc hm =>
  rcases Nat.lt_or_ge kids.length c with hlt | hge
  ·match rest, hc, hH with
   | [], hc, _ => simp at hc; omega
   | [x], hc, _ => simp at hc; omega
   | [x, y], hc, _ => simp at hc; omega
   | x :: y :: z :: rest, hc, hH => exact .inr (.inr ⟨ic, c, x, y, z, rest, rfl, rfl, hH, hlt, by simp at hc; omega, hm⟩)
  ·have hr : rest = [] := List.length_eq_zero_iff.1 (by omega)
   subst hr
   have : c = kids.length := by simp at hc; omega
   subst this
   exact .inr (.inl ⟨ic, rfl, rfl, by simpa using hH⟩)
theorem first_full {P : Program} {E : Env} {v : Value} {es : List PV} {sz n : Nat} (hn : es.length = n) (hes : ∀ e ∈ es, e.cells.length = sz) (hv : VRel E.view v (.slice es .full)) : ∃ ad, v = .slice ad n n ∧ ∃ arrs, (Builtin.firstCells sz n (.slice ad n n)).run P E.w = .ok arrs E.w ∧ RL E.view arrs (flatE es) := by
 obtain ⟨arrs, r1, r2, ad, cap, rfl, hc1, hc2, hc3⟩ := run_first (P := P) hv hes
 subst hn
 have : cap = es.length := hc3
 subst this
 exact ⟨ad, rfl, arrs, r1, r2⟩
section
variable {H L : Heap} {i j k : Nat} {o o' : AObj}
theorem ap1 (h : i < H.length) : (H.set i o ++ L)[i]? = some o := by rw [List.getElem?_append_left (by simpa using h), List.getElem?_set_self h]
theorem ap2 (h : j < H.length) (hne : j ≠ i) : (H.set i o ++ L)[j]? = H[j]? := by rw [List.getElem?_append_left (by simpa using h), List.getElem?_set_ne (Ne.symm hne)]
theorem ap3 : (H.set i o ++ L)[H.length + k]? = L[k]? := by rw [List.getElem?_append_right (by simp), lS, Nat.add_sub_cancel_left]
theorem ap4 (h : i < H.length) : (H.set i o ++ L).set i o' = H.set i o' ++ L := by rw [List.set_append_left _ _ (by simpa using h), List.set_set]
theorem ap5 (h : j < H.length) : (H.set i o ++ L).set j o' = (H.set i o).set j o' ++ L := List.set_append_left _ _ (by simpa using h)
theorem ap6 (h : i < H.length) : (H ++ L).set i o = H.set i o ++ L := List.set_append_left _ _ h
theorem ap7 (h : j < H.length) (h' : i < H.length) (hne : j ≠ i) : ((H.set i o).set j o' ++ L)[i]? = some o := by rw [List.getElem?_append_left (by simpa using h'), List.getElem?_set_ne hne, List.getElem?_set_self h']
theorem ap8 (h : j < H.length) : ((H.set i o).set j o' ++ L)[j]? = some o' := by rw [List.getElem?_append_left (by simpa using h), List.getElem?_set_self (by simpa using h)]
theorem ap10 : ((H.set i o).set j o' ++ L)[H.length + k]? = L[k]? := by rw [List.getElem?_append_right (by simp), lS, lS, Nat.add_sub_cancel_left]
theorem ap9 (h : k < H.length) (h1 : k ≠ i) (h2 : k ≠ j) : ((H.set i o).set j o' ++ L)[k]? = H[k]? := by rw [List.getElem?_append_left (by simpa using h), List.getElem?_set_ne (Ne.symm h2), List.getElem?_set_ne (Ne.symm h1)]
end
theorem ChOk.of {H : Heap} {ic c n : Nat} {kids : List St} {rest : List PV} (hn : kids.length = n) (hH : H[ic]? = some (.row (flatE (kids.map St.enc) ++ rest))) (hc : n * 3 + rest.length = c * 3) (hm : c ≤ maxLen) : ChOk H (.msl ic 0 n c) kids [ic] := by
 subst hn; exact .msl hH hc hm
theorem top_finE {toks : List Tk} {ip is c pos : Nat} {fl : Bool} {kind : Int} {kids' : List St} {fs : List Frm} {cells0 rest R : List PV} {cv cv' : PV} {ids0 cid cid' : List Nat} {H H3 : Heap}
  (h1 : H[ip]? = some (.row [.slice (toks.map Tk.enc) .none, .int .i64 (pos : Nat), .msl is 0 (fs.length + 1) c])) (hR : cells0 ++ [PV.int .i64 kind, .str [], cv] ++ rest = R) (h3 : R.length = c * 3) (h4 : c ≤ maxLen)
  (k1 : StkOk H fs cells0 ids0) (k3 : ∀ i ∈ cid, i ∉ ids0) (hne : ip ≠ is) (hi1 : ip ∉ cid ++ ids0) (hi2 : is ∉ cid ++ ids0) (his : is < H.length) (hpos : pos ≤ toks.length) (hlim : toks.length ≤ lim)
  (hl : H.length ≤ H3.length) (e2 : H3[is]? = some (.row (R.set (fs.length * 3 + 2) cv'))) (same : ∀ j, j < H.length → j ≠ is → j ∉ cid → H3[j]? = H[j]?)
  (hc : ChOk H3 cv' kids' cid') (hcid : ∀ i ∈ cid', i ∈ cid ∨ H.length ≤ i) :
  PSt toks ip ⟨pos, ⟨kind, kids'⟩ :: fs, fl⟩ (ip :: is :: (cid' ++ ids0)) H3 ∧ Fr (ip :: is :: (cid ++ ids0)) (ip :: is :: (cid' ++ ids0)) H H3 := by
 have hlc := k1.len
 rw [List.mem_append, not_or] at hi1 hi2
 have hipl := lG h1
 have hnew : ∀ i ∈ cid', i ≠ ip ∧ i ≠ is ∧ i ∉ ids0 := by
  intro i hi
  rcases hcid i hi with h | h
  ·exact ⟨fun e => hi1.1 (e ▸ h), fun e => hi2.1 (e ▸ h), k3 i h⟩
  ·exact ⟨fun e => by omega, fun e => by omega, fun h' => by have := k1.lt i h'; omega⟩
 refine ⟨⟨is, c, cells0 ++ [.int .i64 kind, .str [], cv'], rest, cid' ++ ids0, ?_, ?_, ?_, h4, .cons (k1.fr fun i hi => ?_) hc (fun i hi => (hnew i hi).2.2), rfl, hne, ?_, ?_, hpos, hlim⟩, hl, ?_, ?_⟩
 ·rw [same ip hipl hne hi1.1]; exact h1
 ·rw [e2, ← hR, ← hlc]
  congr 2
  rw [List.append_assoc, List.set_append_right _ _ (by omega)]
  simp [show cells0.length + 2 - cells0.length = 2 by omega]
 ·rw [← hR] at h3; simpa using h3
 ·exact same i (k1.lt i hi) (fun e => hi2.2 (e ▸ hi)) (fun h => k3 i h hi)
 ·rw [List.mem_append, not_or]; exact ⟨fun h => (hnew _ h).1 rfl, hi1.2⟩
 ·rw [List.mem_append, not_or]; exact ⟨fun h => (hnew _ h).2.1 rfl, hi2.2⟩
 ·intro j hj hn
  simp only [List.mem_cons, List.mem_append, not_or] at hn
  exact same j hj hn.2.1 hn.2.2.1
 ·intro j hj hjl
  simp only [List.mem_cons, List.mem_append] at hj ⊢
  rcases hj with rfl | rfl | hj | hj
  ·exact .inl rfl
  ·exact .inr (.inl rfl)
  ·rcases hcid j hj with h | h
   ·exact .inr (.inr (.inl h))
   ·omega
  ·exact .inr (.inr (.inr hj))
theorem top_fin {toks : List Tk} {ip is c pos : Nat} {fl : Bool} {kind : Int} {kids' : List St} {fs : List Frm} {cells0 rest R : List PV} {cv cv' : PV} {ids0 cid cid' : List Nat} {H H3 : Heap}
  (h1 : H[ip]? = some (.row [.slice (toks.map Tk.enc) .none, .int .i64 (pos : Nat), .msl is 0 (fs.length + 1) c])) (hR : cells0 ++ [PV.int .i64 kind, .str [], cv] ++ rest = R) (h3 : R.length = c * 3) (h4 : c ≤ maxLen)
  (k1 : StkOk H fs cells0 ids0) (k3 : ∀ i ∈ cid, i ∉ ids0) (hne : ip ≠ is) (hi1 : ip ∉ cid ++ ids0) (hi2 : is ∉ cid ++ ids0) (his : is < H.length) (hpos : pos ≤ toks.length) (hlim : toks.length ≤ lim)
  (hl : H.length ≤ H3.length) (e2 : H3[is]? = some (.row (R.set (fs.length * 3 + 2) cv'))) (same : ∀ j, j < H.length → j ≠ is → j ∉ cid → H3[j]? = H[j]?)
  (hc : ChOk H3 cv' kids' cid') (hcid : ∀ i ∈ cid', i ∈ cid ∨ H.length ≤ i) :
  ∃ F', PSt toks ip ⟨pos, ⟨kind, kids'⟩ :: fs, fl⟩ F' H3 ∧ Fr (ip :: is :: (cid ++ ids0)) F' H H3 :=
 ⟨_, top_finE h1 hR h3 h4 k1 k3 hne hi1 hi2 his hpos hlim hl e2 same hc hcid⟩
end Go.Abs
namespace Go.Abs
open Go.Proofs
theorem zStf : PV.fits ⟨true, 3, 48⟩ (ofConst (Value.agg #[Value.int IntKind.i64 0, Value.string { data := #[] }, Value.slice none 0 0])) = true := by kernel_rfl
theorem zStd : (ofConst (Value.agg #[Value.int IntKind.i64 0, Value.string { data := #[] }, Value.slice none 0 0])).drop1 = .agg [.int .i64 0, .str [], .slice [] .none] := by rfl
theorem add_w {toks : List Tk} {ip nb : Nat} {s s' : PS} {F : List Nat} {H : Heap} {t : St} (hm : addM t s = some s') (hp : PSt toks ip s F H) :
  ∃ c, Tryz.f96.body = some c ∧ AWP Tryz.prog 27 nb c (fun e T H' => (e = .normal ∨ e = .ret) ∧ ∃ r, aresults Tryz.prog 27 T H' Tryz.f96.results.toList = some r ∧ r = .tup [] ∧ ∃ F', PSt toks ip s' F' H' ∧ Fr F F' H H') (mkS [(0, .optr ip 0), (1, t.enc)]) H := by
 refine ⟨_, rfl, ?_⟩
 obtain ⟨is, c, cells, rest, ids, h1, h2, h3, h4, h5, rfl, hne, hi1, hi2, hpos, hlim⟩ := hp
 obtain ⟨pos, stack, fl⟩ := s
 simp only at h1 h5 hpos
 cases h5 with
 | nil => cases hm
 | @cons f fs cells0 ids0 cid cv k1 k2 k3 => ?_
 obtain ⟨kind, kids⟩ := f
 simp only [addM] at hm
 split at hm
 case isFalse => cases hm
 rename_i hlk
 injection hm with hm
 subst hm
 simp only [lim] at k2 hlk
 have hcl := k1.len
 generalize hR : cells0 ++ [PV.int .i64 kind, .str [], cv] ++ rest = R at h2 h3
 have lenR : R.length = c * 3 := h3
 have hc0 : fs.length + 1 ≤ c := by rw [← hR] at h3; simp at h3; omega
 have gR2 : R[fs.length * 3 + 2]? = some cv := by rw [← hR, ← hcl]; simp
 have bR : (fs.length * 3 + 2 + 1 ≤ R.length) = True := by simp; omega
 have hip := lG h1
 have his := lG h2
 have q1 : ∀ L, (H ++ L)[ip]? = some (.row [.slice (toks.map Tk.enc) .none, .int .i64 (pos : Nat), .msl is 0 (fs.length + 1) c]) := fun L => by rw [List.getElem?_append_left hip]; exact h1
 have q2 : ∀ L, (H ++ L)[is]? = some (.row R) := fun L => by rw [List.getElem?_append_left his]; exact h2
 have qs : ∀ L o, (H ++ L).set is o = H.set is o ++ L := fun L o => List.set_append_left _ _ his
 have hmx : maxLen = 9223372036854775807 := by decide
 have gw : IntKind.i64.wrap (((fs.length + 1 : Nat) : Int) - 1) = ((fs.length : Nat) : Int) := by rw [wrap_id (by omega) (by omega)]; omega
 have gi := ix_nat (n := fs.length + 1) (i := fs.length) (by omega)
 have ff : ∀ k, (is = H.length + k) = False := fun k => by simp; omega
 have ff0 : (is = H.length) = False := by simp; omega
 have fb : ∀ k, (H.length + k == is) = false := fun k => by simp; omega
 have fb' : ∀ k, (is == H.length + k) = false := fun k => by simp; omega
 have fg : ∀ k, (H.length + k = is) = False := fun k => by simp; omega
 have fg0 : (H.length = is) = False := by simp; omega
 repeat refine wS ?_
 refine eE (by simp only [kA, seval, y38, vint, qC, q1, q2, qs, zStf, zStd, if_true, gR2, bR, gw, gi, tN, ff, ff0, fg, fg0, fb, fb'] <;> with_reducible rfl) (by decide) ?_
 repeat refine wS ?_
 refine dp_draw (by kernel_rfl) ?_
 refine dp_end (by simp only [jP, jO, jN, seval, y3, y36, y38, y59, vint, qC, q1, q2, qs, zStf, zStd, if_true, gR2, bR, gw, gi, tN, ff, ff0, fg, fg0, fb, fb'] <;> with_reducible rfl) (by decide) (by repeat (first | exact Fin.base _ | with_reducible apply Fin.keep | apply Fin.drop)) ?_
 rcases k2.cases3 with ⟨hcv, hcid⟩ | ⟨ic, hcid, hcv, hic⟩ | ⟨ic, c1, e1, e2, e3, rest1, hcid, hcv, hic, hr1, hr2, hr3⟩
 ·-- case
  subst hcv hcid
  repeat refine wS ?_
  refine awp_drawB 0 (by kernel_rfl) ?_
  refine seg_pure 7 (bm := [0, 1, 3, 7, 0, 15, 0, 127, 255, 511, 255, 1279, 3327]) (by kernel_rfl) (by decide) (by kernel_rfl) (by kernel_rfl) ?_
  refine dp_end (by simp only [jP, jO, jN, seval, y36, y38, vint, qC, q1, q2, qs, zStf, zStd, if_true, gR2, bR, gw, gi, tN, ff, ff0, fg, fg0, fb, fb', List.length_map] <;> with_reducible rfl) (by decide) (by repeat (first | exact Fin.base _ | with_reducible apply Fin.keep | apply Fin.drop)) ?_
  refine seg_op (k := 7) (bm := [0, 1, 3, 7, 0, 15, 0, 127, 255, 511, 255, 1279, 3327]) (by kernel_rfl) rfl (by kernel_rfl) (by kernel_rfl) ?_
  refine aops_appNew (n := kids.length) (oc := flatE (kids.map St.enc)) (e1 := .agg [.int .i64 0, .str [], .slice [] .none]) (tl := .full) (by simp only [kC, seval, vint, qC]) rfl (by decide) (by decide) (by simp only [kC, seval, vint, qC] <;> first | done | rfl) (by show _ * 48 ≤ _; omega) (by omega) rfl zte36 (by rw [zte36]; rfl) ztz38 rfl (fun E v ho hE hv => first_full (by simp) (fun e he => by obtain ⟨v, _, rfl⟩ := List.mem_map.1 he; exact v.enc_len) hv) ?_
  intro c1 rest1 hc1 hc2 hrest1
  refine oN ?_
  show GoAt _ _ _ _ _ _ _ _
  obtain ⟨RR, hRR⟩ : ∃ RR, RR = (flatE (kids.map St.enc) ++ PV.cells (.agg [.int .i64 0, .str [], .slice [] .none]) ++ rest1) := ⟨_, rfl⟩
  rw [← hRR]
  have lr1 : rest1.length = (c1 - (kids.length + 1)) * 3 := by rw [hrest1]; simp [PV.cells]
  have lRR : RR.length = c1 * 3 := by rw [hRR]; simp [flatSt_len, PV.cells, lr1]; omega
  have hb3 : (kids.length * 3 + 3 ≤ c1 * 3) = True := by simp; omega
  have gk := ix_nat (n := kids.length + 1) (i := kids.length) (by omega)
  refine seg_draw 5 (bm := [0, 1, 3, 7, 0, 15, 0, 127, 255, 511, 255, 1279, 3327]) (by kernel_rfl) (by decide) (by kernel_rfl) (by kernel_rfl) ?_
  refine d_end (bm := [0, 1, 3, 7, 0, 15, 0, 127, 255, 511, 255, 1279, 3327]) (fresh := H.length + 7) (by kernel_rfl) (by simp only [jD, jO, jN, seval, y36, y38, vint, qC, q1, q2, qs, zStf, zStd, if_true, gR2, bR, gw, gi, tN, ff, ff0, fg, fg0, fb, fb', hb3, lRR, gk] <;> with_reducible rfl) (by decide) ?_
  refine goat_end ?_
  refine ⟨.inl rfl, _, rfl, ?_⟩
  refine ⟨rfl, top_fin h1 hR h3 h4 k1 k3 hne hi1 hi2 his hpos hlim (cv' := .msl (H.length + 1) 0 (kids.length + 1) c1) (cid' := [H.length + 1]) (by simp) (ap1 his) (fun j hj hn hm => ap2 hj hn) (.of (kids := kids ++ [t]) (rest := rest1) (by simp) (ap3.trans (by rw [hRR]; show some (AObj.row _) = _; rw [flatSt_snoc]; refine congrArg (fun z => some (AObj.row z)) ?_; show List.set (List.set (List.set ((flatE (kids.map St.enc) ++ [_, _, _]) ++ rest1) _ _) _ _) _ _ = _; rw [List.append_assoc]; exact set3 (flatSt_len kids))) (by simp [lr1]; omega) hc2) (fun i hi => by rw [List.mem_singleton] at hi; subst hi; exact .inr (by omega))⟩
 ·-- case
  subst hcv hcid
  have q3 : ∀ L, (H ++ L)[ic]? = some (.row (flatE (kids.map St.enc))) := fun L => by rw [List.getElem?_append_left (lG hic)]; exact hic
  repeat refine wS ?_
  refine awp_drawB 0 (by kernel_rfl) ?_
  refine seg_pure 7 (bm := [0, 1, 3, 7, 0, 15, 0, 127, 255, 511, 255, 1279, 3327]) (by kernel_rfl) (by decide) (by kernel_rfl) (by kernel_rfl) ?_
  refine dp_end (by simp only [jP, jO, jN, seval, y36, y38, vint, qC, q1, q2, qs, zStf, zStd, if_true, gR2, bR, gw, gi, tN, ff, ff0, fg, fg0, fb, fb'] <;> with_reducible rfl) (by decide) (by repeat (first | exact Fin.base _ | with_reducible apply Fin.keep | apply Fin.drop)) ?_
  refine seg_op (k := 7) (bm := [0, 1, 3, 7, 0, 15, 0, 127, 255, 511, 255, 1279, 3327]) (by kernel_rfl) rfl (by kernel_rfl) (by kernel_rfl) ?_
  refine aops_appNew (n := kids.length) (oc := flatE (kids.map St.enc)) (e1 := .agg [.int .i64 0, .str [], .slice [] .none]) (tl := .full) (by simp only [kC, seval, vint, qC]) rfl (by decide) (by decide) (by simp only [kC, seval, vint, qC] <;> first | done | rfl) (by show _ * 48 ≤ _; omega) (by omega) rfl zte36 (by rw [zte36]; rfl) ztz38 rfl (fun E v ho hE hv => first_msl ho (cs := flatE (kids.map St.enc)) (by rw [hE]; exact q3 _) (flatSt_len kids) hv) ?_
  intro c1 rest1 hc1 hc2 hrest1
  refine oN ?_
  show GoAt _ _ _ _ _ _ _ _
  obtain ⟨RR, hRR⟩ : ∃ RR, RR = (flatE (kids.map St.enc) ++ PV.cells (.agg [.int .i64 0, .str [], .slice [] .none]) ++ rest1) := ⟨_, rfl⟩
  rw [← hRR]
  have lr1 : rest1.length = (c1 - (kids.length + 1)) * 3 := by rw [hrest1]; simp [PV.cells]
  have lRR : RR.length = c1 * 3 := by rw [hRR]; simp [flatSt_len, PV.cells, lr1]; omega
  have hb3 : (kids.length * 3 + 3 ≤ c1 * 3) = True := by simp; omega
  have gk := ix_nat (n := kids.length + 1) (i := kids.length) (by omega)
  refine seg_draw 5 (bm := [0, 1, 3, 7, 0, 15, 0, 127, 255, 511, 255, 1279, 3327]) (by kernel_rfl) (by decide) (by kernel_rfl) (by kernel_rfl) ?_
  refine d_end (bm := [0, 1, 3, 7, 0, 15, 0, 127, 255, 511, 255, 1279, 3327]) (fresh := H.length + 7) (by kernel_rfl) (by simp only [jD, jO, jN, seval, y36, y38, vint, qC, q1, q2, qs, zStf, zStd, if_true, gR2, bR, gw, gi, tN, ff, ff0, fg, fg0, fb, fb', hb3, lRR, gk] <;> with_reducible rfl) (by decide) ?_
  refine goat_end ?_
  refine ⟨.inl rfl, _, rfl, ?_⟩
  refine ⟨rfl, top_fin h1 hR h3 h4 k1 k3 hne hi1 hi2 his hpos hlim (cv' := .msl (H.length + 1) 0 (kids.length + 1) c1) (cid' := [H.length + 1]) (by simp) (ap1 his) (fun j hj hn hm => ap2 hj hn) (.of (kids := kids ++ [t]) (rest := rest1) (by simp) (ap3.trans (by rw [hRR]; show some (AObj.row _) = _; rw [flatSt_snoc]; refine congrArg (fun z => some (AObj.row z)) ?_; show List.set (List.set (List.set ((flatE (kids.map St.enc) ++ [_, _, _]) ++ rest1) _ _) _ _) _ _ = _; rw [List.append_assoc]; exact set3 (flatSt_len kids))) (by simp [lr1]; omega) hc2) (fun i hi => by rw [List.mem_singleton] at hi; subst hi; exact .inr (by omega))⟩
 ·-- case
  subst hcv hcid
  have hic1 := lG hic
  have gk := ix_nat (n := kids.length + 1) (i := kids.length) (by omega)
  have nis : ic ≠ is := fun e => hi2 (by simp [e])
  have n1 : (ic == is) = false := by simpa using nis
  have n2 : (is == ic) = false := by simpa using Ne.symm nis
  have n3 : ∀ k, (ic = H.length + k) = False := fun k => by simp; omega
  repeat refine wS ?_
  refine awp_drawB 0 (by kernel_rfl) ?_
  refine seg_pure 7 (bm := [0, 1, 3, 7, 0, 15, 0, 127, 255, 511, 255, 1279, 3327]) (by kernel_rfl) (by decide) (by kernel_rfl) (by kernel_rfl) ?_
  refine dp_end (by simp only [jP, jO, jN, seval, y36, y38, vint, qC, q1, q2, qs, zStf, zStd, if_true, gR2, bR, gw, gi, tN, ff, ff0, fg, fg0, fb, fb'] <;> with_reducible rfl) (by decide) (by repeat (first | exact Fin.base _ | with_reducible apply Fin.keep | apply Fin.drop)) ?_
  refine seg_op (k := 7) (bm := [0, 1, 3, 7, 0, 15, 0, 127, 255, 511, 255, 1279, 3327]) (by kernel_rfl) rfl (by kernel_rfl) (by kernel_rfl) ?_
  refine aops_appIn (id := ic) (n := kids.length) (c := c1) (cs := flatE (kids.map St.enc) ++ e1 :: e2 :: e3 :: rest1) (e1 := .agg [.int .i64 0, .str [], .slice [] .none]) (tl := .full) (by rw [List.getElem?_append_left hic1]; exact hic) (by simp only [kC, seval, vint, qC]) rfl (by decide) (by decide) (by simp only [kC, seval, vint, qC] <;> first | done | rfl) (by simp only [kC, seval, vint, qC] <;> first | done | rfl) (by omega) (by simp [flatSt_len]; omega) rfl rfl zte36 (by rw [zte36]; rfl) ?_
  refine oN ?_
  show GoAt _ _ _ _ _ _ _ _
  obtain ⟨RR, hRR⟩ : ∃ RR, RR = splice (flatE (kids.map St.enc) ++ e1 :: e2 :: e3 :: rest1) (kids.length * 3) (PV.cells (.agg [.int .i64 0, .str [], .slice [] .none])) := ⟨_, rfl⟩
  rw [← hRR]
  have hRR2 : RR = flatE (kids.map St.enc) ++ PV.int .i64 0 :: PV.str [] :: PV.slice [] .none :: rest1 := by rw [hRR]; show splice _ _ [_, _, _] = _; simp only [splice]; rw [set3 (flatSt_len kids)]; simp
  have lRR : RR.length = c1 * 3 := by rw [hRR2]; simp [flatSt_len]; omega
  have hb3 : (kids.length * 3 + 3 ≤ c1 * 3) = True := by simp; omega
  rw [ap6 hic1]
  have q5 : ∀ o L, (H.set ic o ++ L)[ic]? = some o := fun o L => ap1 hic1
  have q6 : ∀ o L, (H.set ic o ++ L)[is]? = some (.row R) := fun o L => by rw [ap2 his (fun e => hi2 (by simp [e]))]; exact h2
  have q7 : ∀ o o2 L, (H.set ic o ++ L).set ic o2 = H.set ic o2 ++ L := fun o o2 L => ap4 hic1
  have q8 : ∀ o o2 L, (H.set ic o ++ L).set is o2 = (H.set ic o).set is o2 ++ L := fun o o2 L => ap5 his
  refine seg_draw 5 (bm := [0, 1, 3, 7, 0, 15, 0, 127, 255, 511, 255, 1279, 3327]) (by kernel_rfl) (by decide) (by kernel_rfl) (by kernel_rfl) ?_
  refine d_end (bm := [0, 1, 3, 7, 0, 15, 0, 127, 255, 511, 255, 1279, 3327]) (fresh := H.length + 7) (by kernel_rfl) (by simp only [jD, jO, jN, seval, y36, y38, vint, qC, q1, q2, qs, zStf, zStd, if_true, gR2, bR, gw, gi, tN, ff, ff0, fg, fg0, fb, fb', hb3, lRR, gk, q5, q6, q7, q8, n1, n2, n3] <;> with_reducible rfl) (by decide) ?_
  refine goat_end ?_
  refine ⟨.inl rfl, _, rfl, ?_⟩
  refine ⟨rfl, top_fin h1 hR h3 h4 k1 k3 hne hi1 hi2 his hpos hlim (cv' := .msl ic 0 (kids.length + 1) c1) (cid' := [ic]) (by simp) (ap8 his) (fun j hj hn hm => (by rw [List.mem_singleton] at hm; exact ap9 hj hm hn)) (.of (kids := kids ++ [t]) (rest := rest1) (by simp) ((ap7 his hic1 (fun e => hi2 (by simp [e]))).trans (by rw [hRR2, flatSt_snoc]; refine congrArg (fun z => some (AObj.row z)) ?_; exact set3 (flatSt_len kids))) hr2 hr3) (fun i hi => by rw [List.mem_singleton] at hi; subst hi; exact .inl (by simp))⟩
end Go.Abs
namespace Go.Abs
open Go.Proofs
theorem acalls_w {P : Program} {N : Nat} {f : FuncId} {fn : Func} {args : List PV} {R : PV → Heap → Prop} {H : Heap} (hf : P.funcs[f]? = some fn) (hN : fn.ntmps = N) (hl : args.length ≤ N) (l : List (Nat × PV))
  (hl2 : (List.range args.length).map (fun d => (d, enter args d)) = l)
  (h : ∃ c, fn.body = some c ∧ AWP P N H.length c (fun e T H' => (e = .normal ∨ e = .ret) ∧ ∃ r, aresults P N T H' fn.results.toList = some r ∧ R r H') (mkS l) H) : ACalls P f args H R := by
 obtain ⟨c, hb, h⟩ := h
 exact aF hf hb hN hl fun _ => wL (List.range args.length) hl2 h
def FN (P : Program) (toks : List Tk) (ip : Nat) (f : FuncId) (args : List PV) (m : PS → Option PS) (rv : PS → PS → PV) : Prop :=
 ∀ (s s' : PS) (F : List Nat) (H : Heap), m s = some s' → PSt toks ip s F H → ACalls P f args H fun r H' => r = rv s s' ∧ ∃ F', PSt toks ip s' F' H' ∧ Fr F F' H H'
def unitR : PS → PS → PV := fun _ _ => .tup []
theorem FN.ap {P : Program} {toks : List Tk} {ip : Nat} {f : FuncId} {args : List PV} {m : PS → Option PS} {rv : PS → PS → PV} (h : FN P toks ip f args m rv) {s s' : PS} {F : List Nat} {H : Heap} (hm : m s = some s') (hp : PSt toks ip s F H) (L : Heap) :
  ACalls P f args (H ++ L) fun r H' => r = rv s s' ∧ ∃ F', PSt toks ip s' F' H' ∧ Fr F F' (H ++ L) H' := h s s' F _ hm (hp.app L)
theorem FN.ap0 {P : Program} {toks : List Tk} {ip : Nat} {f : FuncId} {args : List PV} {m : PS → Option PS} {rv : PS → PS → PV} (h : FN P toks ip f args m rv) {s s' : PS} {F : List Nat} {H : Heap} (hm : m s = some s') (hp : PSt toks ip s F H) :
  ACalls P f args H fun r H' => r = rv s s' ∧ ∃ F', PSt toks ip s' F' H' ∧ Fr F F' H H' := h s s' F _ hm hp
theorem add_c (toks : List Tk) (ip : Nat) (t : St) : FN Tryz.prog toks ip 96 [.optr ip 0, t.enc] (addM t) unitR := by
 intro s s' F H hm hp
 exact acalls_w (N := 27) Tryz.func96 rfl (by simp) [(0, .optr ip 0), (1, t.enc)] rfl (add_w hm hp)
theorem chunk3 : ∀ (n : Nat) (l : List PV), l.length = n * 3 → ∃ es : List PV, es.length = n ∧ flatE es = l ∧ ∀ e ∈ es, e.cells.length = 3
 | 0, [], h => ⟨[], rfl, rfl, by simp⟩
 | 0, a :: l, h => by simp at h
 | n + 1, [], h => absurd h (by simp)
 | n + 1, [a], h => by simp at h; omega
 | n + 1, [a, b], h => by simp at h; omega
 | n + 1, a :: b :: c :: l, h => by
  obtain ⟨es, h1, h2, h3⟩ := chunk3 n l (by simp at h; omega)
  refine ⟨.agg [a, b, c] :: es, by simp [h1], by simp [flatE, PV.cells] at h2 ⊢; exact h2, fun e he => ?_⟩
  rcases List.mem_cons.1 he with rfl | he
  ·rfl
  ·exact h3 e he
theorem add_f {toks : List Tk} {ip : Nat} {s s' : PS} {F : List Nat} {H : Heap} {k : Int} {kids : List St} {cid : List Nat} {cv : PV} (hm : addM ⟨k, [], kids⟩ s = some s') (hp : PSt toks ip s F H) (hc : ChOk H cv kids cid) (hd : ∀ i ∈ cid, i ∉ F) :
  ACalls Tryz.prog 96 [.optr ip 0, .agg [.int .i64 k, .str [], cv.drop1]] H fun r H' => r = .tup [] ∧ ∃ F', PSt toks ip s' F' H' ∧ Fr (cid ++ F) F' H H' := by
 have hpl : ∀ cv', cv' = (St.mk k [] kids).enc → cid = [] → ACalls Tryz.prog 96 [.optr ip 0, cv'] H fun r H' => r = .tup [] ∧ ∃ F', PSt toks ip s' F' H' ∧ Fr (cid ++ F) F' H H' := by
  rintro _ rfl rfl
  exact add_c toks ip _ s s' F H hm hp
 cases hc with
 | nil => exact hpl _ (by rw [St.enc_eq]; rfl) rfl
 | @msl ic c _ rest hH hcl hmx =>
  obtain ⟨es, e1, e2, e3⟩ := chunk3 (c - kids.length) rest (by omega)
  have hil := lG hH
  have hp2 : PSt toks ip s F (H.set ic dead) := hp.fr fun i hi => by rw [List.getElem?_set_ne (by rintro rfl; exact hd _ (by simp) hi)]
  obtain ⟨cd, hb, hw⟩ := add_w (nb := H.length) hm hp2
  refine acalls_w (N := 27) Tryz.func96 rfl (by simp) [(0, .optr ip 0), (1, .agg [.int .i64 k, .str [], .msl ic 0 kids.length c])] rfl ⟨cd, hb, ?_⟩
  have hrow : H[ic]? = some (.row (flatE (kids.map St.enc ++ es))) := by rw [hH, flatE_append, e2]
  refine awp_frz1 ic kids.length 3 1 (kids.map St.enc ++ es) hrow (by simp) (fun e he => ?_) rfl (q := (St.mk k [] kids).enc) ?_ ?_
  ·rcases List.mem_append.1 he with he | he
   ·obtain ⟨v, _, rfl⟩ := List.mem_map.1 he; exact v.enc_len
   ·exact e3 e he
  ·rw [St.enc_eq]
   refine .agg _ _ rfl fun i h1 h2 => ?_
   match i, h1, h2 with
   | 0, _, _ => exact .same _
   | 1, _, _ => exact .same _
   | 2, _, _ =>
    have : (kids.map St.enc ++ es).take kids.length = kids.map St.enc := by rw [List.take_append_of_le_length (by simp), List.take_of_length_le (by simp)]
    have h := Fz.msl (id := ic) (k := kids.length) (es := kids.map St.enc ++ es) c (by omega)
    rw [this] at h
    exact h
  ·refine wL [0, 1] rfl ?_
   refine AWP.mono hw ?_
   rintro e T H' ⟨h1, r, h2, h3, F', h4, h5⟩
   refine ⟨h1, r, h2, h3, F', h4, ⟨by have := h5.len; rwa [lS] at this, fun j hj hn => ?_, fun j hj hjl => ?_⟩⟩
   ·simp only [List.mem_append, List.mem_singleton, not_or] at hn
    rw [h5.same j (by rwa [lS]) hn.2, List.getElem?_set_ne (Ne.symm hn.1)]
   ·exact List.mem_append.2 (.inr (h5.ids j hj (by rwa [lS])))
theorem PSt.setpos {toks : List Tk} {ip : Nat} {s : PS} {F : List Nat} {H : Heap} (h : PSt toks ip s F H) {a b st : PV} (hr : H[ip]? = some (.row [a, b, st])) {p : Nat} (hp : p ≤ toks.length) :
  PSt toks ip { s with pos := p } F (H.set ip (.row [a, .int .i64 (p : Nat), st])) ∧ Fr F F H (H.set ip (.row [a, .int .i64 (p : Nat), st])) := by
 have hm := h.mem
 have hil := lG hr
 obtain ⟨is, c, cells, rest, ids, h1, h2, h3, h4, h5, rfl, h7, h8, h9, h10, h11⟩ := h
 rw [hr] at h1
 injection h1 with h1; injection h1 with h1; injection h1 with e1 h1; injection h1 with e2 h1; injection h1 with e3 _
 subst e1 e3
 refine ⟨⟨is, c, cells, rest, ids, ?_, ?_, h3, h4, h5.fr fun i hi => ?_, rfl, h7, h8, h9, hp, h11⟩, by simp, fun j hj hn => ?_, fun j hj _ => hj⟩
 ·rw [List.getElem?_set_self hil]
 ·rw [List.getElem?_set_ne h7]; exact h2
 ·rw [List.getElem?_set_ne (by rintro rfl; exact h8 hi)]
 ·rw [List.getElem?_set_ne (by rintro rfl; exact hn (by simp))]
theorem addM_pos {t : St} {s s' : PS} (h : addM t s = some s') : s'.pos = s.pos := by
 unfold addM at h
 split at h
 ·cases h
 ·split at h
  ·cases h; rfl
  ·cases h
theorem getL {H : Heap} {i : Nat} {o : AObj} (h : H[i]? = some o) (L : Heap) : (H ++ L)[i]? = some o := by rw [List.getElem?_append_left (lG h)]; exact h
theorem tokM_inv {toks : List Tk} {s s' : PS} (h : tokM toks s = some s') : ∃ (hlt : s.pos < toks.length) (s1 : PS), addM ⟨toks[s.pos].kind, toks[s.pos].text, []⟩ s = some s1 ∧ s1.pos = s.pos ∧ s' = { s1 with pos := s1.pos + 1 } := by
 unfold tokM at h
 split at h
 ·cases h
 ·rename_i t ht
  obtain ⟨hlt, rfl⟩ := List.getElem?_eq_some_iff.1 ht
  cases ha : addM ⟨toks[s.pos].kind, toks[s.pos].text, []⟩ s with
  | none => rw [ha] at h; cases h
  | some s1 => rw [ha] at h; injection h with h; exact ⟨hlt, s1, ha, addM_pos ha, h.symm⟩
theorem lim_le {n : Nat} (h : n ≤ lim) : n ≤ 4611686018427387904 := by unfold lim at h; omega
end Go.Abs
namespace Go.Abs
theorem bumpM_inv {toks : List Tk} {s s' : PS} (h : bumpM toks s = some s') : ∃ s1, skipM toks s = some s1 ∧ (if s1.pos < toks.length then tokM toks s1 else some s1) = some s' := by
 unfold bumpM at h
 cases hs : skipM toks s with
 | none => rw [hs] at h; cases h
 | some s1 => rw [hs] at h; exact ⟨s1, rfl, h⟩
theorem PSt.ne {toks : List Tk} {ip : Nat} {s : PS} {F : List Nat} {H : Heap} (h : PSt toks ip s F H) : (ip = H.length) = False := by have := h.lt_ip; simp; omega
theorem PSt.neK {toks : List Tk} {ip : Nat} {s : PS} {F : List Nat} {H : Heap} (h : PSt toks ip s F H) (k : Nat) : (ip = H.length + k) = False := by have := h.lt_ip; simp; omega
theorem FN.apX {P : Program} {toks : List Tk} {ip : Nat} {f : FuncId} {args : List PV} {m : PS → Option PS} {rv : PS → PS → PV} (h : FN P toks ip f args m rv) {s s' : PS} {F : List Nat} {H H1 : Heap} (hm : m s = some s') (hp : PSt toks ip s F H1) (hL : ∃ L, H = H1 ++ L := by first | exact ⟨[], (List.append_nil _).symm⟩ | exact ⟨_, rfl⟩) : ACalls P f args H fun r H' => r = rv s s' ∧ ∃ F', PSt toks ip s' F' H' ∧ Fr F F' H H' := by
 obtain ⟨L, rfl⟩ := hL; exact h.ap hm hp L
end Go.Abs
namespace Go.Abs
open Go.Proofs
theorem addToken_c (toks : List Tk) (ip : Nat) : FN Tryz.prog toks ip 66 [.optr ip 0] (tokM toks) unitR := by
 intro s s' F0 H0 hm p0
 have f0 := Fr.refl F0 H0
 obtain ⟨st0, r0⟩ := p0.row
 have q0 := getL r0
 have hl := lim_le p0.len
 obtain ⟨hlt, s1, hm1, hps, rfl⟩ := tokM_inv hm
 have gi := ix_nat hlt
 have ge := get_enc Tk.enc hlt
 have gw : IntKind.i64.wrap (((s1.pos : Nat) : Int) + 1) = ((s1.pos + 1 : Nat) : Int) := by rw [wrap_id (by omega) (by omega)]; omega
 refine aF (N := 34) Tryz.func66 rfl rfl (by simp) fun hb' => ?_
 repeat refine wS ?_
 refine awp_drawB 0 (by kernel_rfl) ?_
 refine seg_pure 24 (bm := [0, 0, 2, 6, 14, 0, 32, 96, 224, 510, 1022, 2046, 0, 4096, 12288, 28672, 0, 65536, 196608, 458752, 1044480, 2093056, 4190208, 8388606, 16777215]) (by kernel_rfl) (by decide) (by kernel_rfl) (by kernel_rfl) ?_
 refine pX (a5 y3 y9 y38 y24 (a5 y59 y32 q0 r0 (a3 gi ge tN))) ?_
 refine seg_op (k := 24) (bm := [0, 0, 2, 6, 14, 0, 32, 96, 224, 510, 1022, 2046, 0, 4096, 12288, 28672, 0, 65536, 196608, 458752, 1044480, 2093056, 4190208, 8388606, 16777215]) (by kernel_rfl) rfl (by kernel_rfl) (by kernel_rfl) ?_
 refine qN (a5 q0 r0 gi ge tN) (add_c toks ip _ s s1 F0 _ hm1 p0) ?_
 rintro _ H1 ⟨rfl, F1, p1, f1⟩
 obtain ⟨st1, r1⟩ := p1.row
 have q1 := getL r1
 have n1 := p1.ne
 show GoAt _ _ _ _ _ _ _ _
 refine goat_end ?_
 refine qL [0] (a5 q0 r0 gi ge (a5 tN q1 r1 gw n1)) ?_
 refine qE (a5 y3 y59 q0 r0 (a5 gi ge tN q1 (a3 r1 gw n1))) ?_
 refine enX ?_
 have hh := p1.setpos r1 (p := s1.pos + 1) (by omega)
 exact ⟨rfl, F1, hh.1, f1.trans hh.2⟩
theorem skipTrivia_c (toks : List Tk) (ip : Nat) : FN Tryz.prog toks ip 25 [.optr ip 0] (skipM toks) unitR := by
 intro s s' F0 H0 hm p0
 have f0 := Fr.refl F0 H0
 obtain ⟨st0, r0⟩ := p0.row
 have q0 := getL r0
 have hl := lim_le p0.len
 obtain ⟨n, hn⟩ : ∃ n, toks.length - s.pos = n := ⟨_, rfl⟩
 unfold skipM at hm
 rw [hn] at hm
 refine aF (N := 28) Tryz.func25 rfl rfl (by simp) fun hb' => ?_
 refine qB ?_
 refine awp_loopX (σ := Nat × PS × List Nat) (fun (z : Nat × PS × List Nat) => [(0, .optr ip 0)]) (fun (z : Nat × PS × List Nat) =>  fun H1 => skipN toks z.1 z.2.1 = some s' ∧ toks.length - z.2.1.pos = z.1 ∧ PSt toks ip z.2.1 z.2.2 H1 ∧ Fr F0 z.2.2 H0 H1) (fun (z : Nat × PS × List Nat) => z.1) ((n, s, F0)) ⟨(by first | rfl | (simp only [jN, seval, vint, qC, q0, r0] <;> first | done | with_reducible rfl)), trivial⟩ (⟨hm, hn, p0, f0⟩) ?_
 intro z H1 hg
 obtain ⟨k, s1, F1⟩ := z
 obtain ⟨hm1, hn1, p1, f1⟩ := hg
 simp only at hm1 hn1 p1 f1
 obtain ⟨st1, r1⟩ := p1.row
 have q1 := getL r1
 have hc := p1.pos
 rcases Nat.lt_or_ge s1.pos toks.length with hlt | hge
 ·-- case
  have gi := ix_nat hlt
  have ge := get_enc Tk.enc hlt
  have gl : decide ((s1.pos : Int) < (toks.length : Int)) = true := decide_eq_true (by omega)
  obtain ⟨k, rfl⟩ : ∃ k0, k = k0 + 1 := ⟨k - 1, by omega⟩
  unfold skipN at hm1
  rw [List.getElem?_eq_getElem hlt] at hm1
  simp only at hm1
  repeat refine wS ?_
  refine dp_draw (by kernel_rfl) ?_
  refine pT 22 (a5 y3 y24 y59 y32 (a5 q0 r0 q1 r1 (a4 gi ge gl tN))) ?_
  refine pK (a5 q0 r0 q1 r1 (a4 gi ge gl tN)) zgo65 (fun hc => isTrivia_c _ _) ?_
  refine pX (a5 q0 r0 q1 r1 (a4 gi ge gl tN)) ?_
  refine qI (a5 q0 r0 q1 r1 (a4 gi ge gl tN)) (fun bt25 => ?_) (fun bt25 => ?_)
  ·-- if t25
   rw [if_pos bt25] at hm1
   obtain ⟨s2, hb1, hb2⟩ := oB hm1
   refine qK ?_
   refine qB ?_
   refine qL [0] (a5 q0 r0 q1 r1 (a4 gi ge gl tN)) ?_
   refine qW 1 (a5 q0 r0 q1 r1 (a4 gi ge gl tN)) ((addToken_c toks ip).ap0 hb1 p1) ?_
   rintro _ H2 ⟨rfl, F2, p2, g2⟩
   have n2 := p2.ne
   have m2 := p2.neK
   have f2 := f1.stX g2
   obtain ⟨st2, r2⟩ := p2.row
   have q2 := getL r2
   try simp only [thenQ, blockQ]
   exact ⟨(k, s2, F2), by show k < k + 1; omega, ⟨rfl, trivial⟩, hb2, by have := tokM_inv hb1; obtain ⟨h1, s3, h2, h3, h4⟩ := this; rw [h4]; show toks.length - (s3.pos + 1) = k; omega, p2, f2⟩
  ·-- else t25
   rw [if_neg (by rw [bt25]; simp)] at hm1
   injection hm1 with hm1
   subst hm1
   repeat refine wS ?_
   refine awp_exit ?_
   simp only [thenQ, blockQ, reduceIte, Nat.reduceEqDiff, Nat.succ_ne_self, if_true, if_false]
   refine enX ?_
   exact ⟨rfl, F1, p1, f1⟩
 ·-- case
  have gl : decide ((s1.pos : Int) < (toks.length : Int)) = false := decide_eq_false (by omega)
  have hk0 : k = 0 := by omega
  subst hk0
  injection hm1 with hm1
  subst hm1
  repeat refine wS ?_
  refine dp_draw (by kernel_rfl) ?_
  refine pT 11 (a5 y3 y24 y59 y32 (a5 q0 r0 q1 r1 gl)) ?_
  refine pS (a5 q0 r0 q1 r1 gl) ?_
  refine pS (a5 q0 r0 q1 r1 gl) ?_
  refine pS (a5 q0 r0 q1 r1 gl) ?_
  refine pS (a5 q0 r0 q1 r1 gl) ?_
  refine pS (a5 q0 r0 q1 r1 gl) ?_
  refine pS (a5 q0 r0 q1 r1 gl) ?_
  refine pS (a5 q0 r0 q1 r1 gl) ?_
  refine pS (a5 q0 r0 q1 r1 gl) ?_
  refine pS (a5 q0 r0 q1 r1 gl) ?_
  refine pS (a5 q0 r0 q1 r1 gl) ?_
  refine pS (a5 q0 r0 q1 r1 gl) ?_
  refine pS (a5 q0 r0 q1 r1 gl) ?_
  refine pX (a5 q0 r0 q1 r1 gl) ?_
  refine qF (a5 q0 r0 q1 r1 gl) ?_
  repeat refine wS ?_
  refine awp_exit ?_
  simp only [thenQ, blockQ, reduceIte, Nat.reduceEqDiff, Nat.succ_ne_self, if_true, if_false]
  refine enX ?_
  exact ⟨rfl, F1, p1, f1⟩
theorem bump_c (toks : List Tk) (ip : Nat) : FN Tryz.prog toks ip 63 [.optr ip 0] (bumpM toks) unitR := by
 intro s s' F0 H0 hm p0
 have f0 := Fr.refl F0 H0
 obtain ⟨st0, r0⟩ := p0.row
 have q0 := getL r0
 have hl := lim_le p0.len
 obtain ⟨s1, hm1, hm2⟩ := bumpM_inv hm
 refine aF (N := 16) Tryz.func63 rfl rfl (by simp) fun hb' => ?_
 refine qW 1 (a2 q0 r0) (FN.apX (skipTrivia_c toks ip) hm1 p0) ?_
 rintro _ H1 ⟨rfl, F1, p1, g1⟩
 have n1 := p1.ne
 have m1 := p1.neK
 have f1 := f0.stX g1
 obtain ⟨st1, r1⟩ := p1.row
 have q1 := getL r1
 rcases Nat.lt_or_ge s1.pos toks.length with hlt | hge
 ·-- case
  have gl : decide ((s1.pos : Int) < (toks.length : Int)) = true := decide_eq_true (by omega)
  rw [if_pos hlt] at hm2
  repeat refine wS ?_
  refine dp_draw (by kernel_rfl) ?_
  refine pX (a5 y3 y24 y59 y32 (a5 q0 r0 q1 r1 (a3 n1 m1 gl))) ?_
  repeat refine wS ?_
  refine awp_cond_true rfl (by simp only [jN, seval, vint, qC, q0, r0, q1, r1, n1, m1, gl] <;> with_reducible rfl) ?_
  refine qW 1 (a5 q0 r0 q1 r1 (a3 n1 m1 gl)) (FN.apX (addToken_c toks ip) hm2 p1) ?_
  rintro _ H2 ⟨rfl, F2, p2, g2⟩
  have n2 := p2.ne
  have m2 := p2.neK
  have f2 := f1.stX g2
  obtain ⟨st2, r2⟩ := p2.row
  have q2 := getL r2
  refine enX ?_
  exact ⟨rfl, F2, p2, f2⟩
 ·-- case
  have gl : decide ((s1.pos : Int) < (toks.length : Int)) = false := decide_eq_false (by omega)
  rw [if_neg (by omega)] at hm2
  injection hm2 with hm2
  subst hm2
  repeat refine wS ?_
  refine dp_draw (by kernel_rfl) ?_
  refine pX (a5 y3 y24 y59 y32 (a5 q0 r0 q1 r1 (a3 n1 m1 gl))) ?_
  refine qF (a5 q0 r0 q1 r1 (a3 n1 m1 gl)) ?_
  refine qK ?_
  refine enX ?_
  exact ⟨rfl, F1, p1, f1⟩
theorem missingNode_c (toks : List Tk) (ip : Nat) : FN Tryz.prog toks ip 119 [.optr ip 0] (missM 46) unitR := by
 intro s s' F0 H0 hm p0
 have f0 := Fr.refl F0 H0
 obtain ⟨st0, r0⟩ := p0.row
 have q0 := getL r0
 have hl := lim_le p0.len
 refine aF (N := 5) Tryz.func119 rfl rfl (by simp) fun hb' => ?_
 refine qT 2 (a5 y38 q0 r0 zStf zStd) ?_
 refine qN (a4 q0 r0 zStf zStd) (FN.apX (add_c toks ip (St.mk 46 [] [])) hm p0) ?_
 rintro _ H1 ⟨rfl, F1, p1, g1⟩
 have n1 := p1.ne
 have m1 := p1.neK
 have f1 := f0.stX g1
 obtain ⟨st1, r1⟩ := p1.row
 have q1 := getL r1
 refine enX ?_
 exact ⟨rfl, F1, p1, f1⟩
theorem missingToken_c (toks : List Tk) (ip : Nat) : FN Tryz.prog toks ip 112 [.optr ip 0] (missM 108) unitR := by
 intro s s' F0 H0 hm p0
 have f0 := Fr.refl F0 H0
 obtain ⟨st0, r0⟩ := p0.row
 have q0 := getL r0
 have hl := lim_le p0.len
 refine aF (N := 5) Tryz.func112 rfl rfl (by simp) fun hb' => ?_
 refine qT 2 (a5 y38 q0 r0 zStf zStd) ?_
 refine qN (a4 q0 r0 zStf zStd) (FN.apX (add_c toks ip (St.mk 108 [] [])) hm p0) ?_
 rintro _ H1 ⟨rfl, F1, p1, g1⟩
 have n1 := p1.ne
 have m1 := p1.neK
 have f1 := f0.stX g1
 obtain ⟨st1, r1⟩ := p1.row
 have q1 := getL r1
 refine enX ?_
 exact ⟨rfl, F1, p1, f1⟩
theorem absent_c (toks : List Tk) (ip : Nat) : FN Tryz.prog toks ip 105 [.optr ip 0] (missM 0) unitR := by
 intro s s' F0 H0 hm p0
 have f0 := Fr.refl F0 H0
 obtain ⟨st0, r0⟩ := p0.row
 have q0 := getL r0
 have hl := lim_le p0.len
 refine aF (N := 5) Tryz.func105 rfl rfl (by simp) fun hb' => ?_
 refine qT 2 (a5 y38 q0 r0 zStf zStd) ?_
 refine qN (a4 q0 r0 zStf zStd) (FN.apX (add_c toks ip (St.mk 0 [] [])) hm p0) ?_
 rintro _ H1 ⟨rfl, F1, p1, g1⟩
 have n1 := p1.ne
 have m1 := p1.neK
 have f1 := f0.stX g1
 obtain ⟨st1, r1⟩ := p1.row
 have q1 := getL r1
 refine enX ?_
 exact ⟨rfl, F1, p1, f1⟩
theorem accept_c (toks : List Tk) (ip : Nat) (xs : List (List UInt8)) (hx : xs.length ≤ maxLen) : FN Tryz.prog toks ip 62 [.optr ip 0, .slice (xs.map PV.str) .none] (acceptM toks xs) (fun s _ => .bool (atM toks s xs)) := by
 intro s s' F0 H0 hm p0
 have f0 := Fr.refl F0 H0
 obtain ⟨st0, r0⟩ := p0.row
 have q0 := getL r0
 have hl := lim_le p0.len
 unfold acceptM at hm
 refine aF (N := 10) Tryz.func62 rfl rfl (by simp) fun hb' => ?_
 refine qE (a2 q0 r0) ?_
 refine qT 2 (a2 q0 r0) ?_
 refine qP (a2 q0 r0) zgo56 (at_c (gtH r0) hl p0.pos xs hx) ?_
 refine oN ?_
 refine qI (a2 q0 r0) (fun bt7 => ?_) (fun bt7 => ?_)
 ·-- if t7
  rw [if_pos bt7] at hm
  refine qW 1 (a2 q0 r0) (FN.apX (bump_c toks ip) hm p0) ?_
  rintro _ H1 ⟨rfl, F1, p1, g1⟩
  have n1 := p1.ne
  have m1 := p1.neK
  have f1 := f0.stX g1
  obtain ⟨st1, r1⟩ := p1.row
  have q1 := getL r1
  refine qE (a5 q0 r0 q1 r1 (a2 n1 m1)) ?_
  repeat refine wS ?_
  refine wT ⟨.inr rfl, _, rfl, ?_⟩
  refine ⟨?_, F1, p1, f1⟩
  simp only [jN, seval, vint, qC, atM, bt7]
  try rfl
 ·-- else t7
  rw [if_neg (by simp [atM, bt7])] at hm
  injection hm with hm
  subst hm
  refine qK ?_
  refine qE (a2 q0 r0) ?_
  repeat refine wS ?_
  refine wT ⟨.inr rfl, _, rfl, ?_⟩
  refine ⟨?_, F0, p0, f0⟩
  simp only [jN, seval, vint, qC, atM, bt7]
  try rfl
theorem expect_c (toks : List Tk) (ip : Nat) (t : List UInt8) : FN Tryz.prog toks ip 92 [.optr ip 0, .str t] (expectM toks t) unitR := by
 intro s s' F0 H0 hm p0
 have f0 := Fr.refl F0 H0
 obtain ⟨st0, r0⟩ := p0.row
 have q0 := getL r0
 have hl := lim_le p0.len
 obtain ⟨s1, hm1, hm2⟩ := oB hm
 refine aF (N := 11) Tryz.func92 rfl rfl (by simp) fun hb' => ?_
 refine qT 3 (a4 y9 y72 q0 r0) ?_
 refine qA (a2 q0 r0) zgo62 (FN.apX (accept_c toks ip [t] (by show 1 ≤ maxLen; decide)) hm1 p0) ?_
 rintro _ H1 ⟨rfl, F1, p1, g1⟩
 have n1 := p1.ne
 have m1 := p1.neK
 have f1 := f0.stX g1
 obtain ⟨st1, r1⟩ := p1.row
 have q1 := getL r1
 refine qX (a2 q0 r0) ?_
 refine qI (a5 q0 r0 q1 r1 (a2 n1 m1)) (fun bt8 => ?_) (fun bt8 => ?_)
 ·-- if t8
  have bt8 : atM toks s [t] = false := by simpa using bt8
  rw [if_neg (by rw [bt8]; simp)] at hm2
  refine qW 1 (a5 q0 r0 q1 r1 (a2 n1 m1)) (FN.apX (missingToken_c toks ip) hm2 p1) ?_
  rintro _ H2 ⟨rfl, F2, p2, g2⟩
  have n2 := p2.ne
  have m2 := p2.neK
  have f2 := f1.stX g2
  obtain ⟨st2, r2⟩ := p2.row
  have q2 := getL r2
  refine enX ?_
  exact ⟨rfl, F2, p2, f2⟩
 ·-- else t8
  have bt8 : atM toks s [t] = true := by simpa using bt8
  rw [if_pos bt8] at hm2
  injection hm2 with hm2
  subst hm2
  refine qK ?_
  refine enX ?_
  exact ⟨rfl, F1, p1, f1⟩
theorem expectIdent_c (toks : List Tk) (ip : Nat) : FN Tryz.prog toks ip 89 [.optr ip 0] (expectIdentM toks) unitR := by
 intro s s' F0 H0 hm p0
 have f0 := Fr.refl F0 H0
 obtain ⟨st0, r0⟩ := p0.row
 have q0 := getL r0
 have hl := lim_le p0.len
 unfold expectIdentM at hm
 refine aF (N := 8) Tryz.func89 rfl rfl (by simp) fun hb' => ?_
 refine qT 1 (a2 q0 r0) ?_
 refine qP (a2 q0 r0) zgo109 (atIdent_c (gtH r0) hl p0.pos) ?_
 refine oN ?_
 refine qI (a2 q0 r0) (fun bt3 => ?_) (fun bt3 => ?_)
 ·-- if t3
  rw [if_pos bt3] at hm
  refine qW 1 (a2 q0 r0) (FN.apX (bump_c toks ip) hm p0) ?_
  rintro _ H1 ⟨rfl, F1, p1, g1⟩
  have n1 := p1.ne
  have m1 := p1.neK
  have f1 := f0.stX g1
  obtain ⟨st1, r1⟩ := p1.row
  have q1 := getL r1
  refine enX ?_
  exact ⟨rfl, F1, p1, f1⟩
 ·-- else t3
  rw [if_neg (by simp only [identM, bt3]; simp)] at hm
  refine qW 1 (a2 q0 r0) (FN.apX (missingToken_c toks ip) hm p0) ?_
  rintro _ H2 ⟨rfl, F2, p2, g2⟩
  have n2 := p2.ne
  have m2 := p2.neK
  have f2 := f0.stX g2
  obtain ⟨st2, r2⟩ := p2.row
  have q2 := getL r2
  refine enX ?_
  exact ⟨rfl, F2, p2, f2⟩
end Go.Abs
namespace Go.Abs
section
variable {P : Program} {N nb : Nat} {ops : Array Oper} {Q : Post}
theorem sound_buildSM {E : Env} {a : Act} {T : Slots} (ht : TRel E.view N a T) (ho : E.Ok) {t : TypeId} {n : Nat} {ps : Array (Nat × Operand)} (hok : ps.toList.all (fun x => okOpnd N x.2) = true) {ei : TypeId × TI} (hf : telem P t = some ei) {z : PV} (hz : tzero P ei.1 = some z)
  (hfit : z.fits ei.2 = true) (hs0 : 0 < ei.2.sz) (hn : 0 < n) (hsz : n * ei.2.sz ≤ 2 ^ 24) {es : List PV} (hb : abuildS ei.2 T (List.replicate n z) ps.toList = some es) {id : Nat} (hid : E.H[id]? = some .unborn) :
  ∃ E' val, (Instr.buildSlice t n (ps.map fun (i, x) => (i, a.eval x))).run P E.w = .ok val E'.w ∧ E.le E' ∧ E'.Ok ∧ E'.H = E.H.set id (.row (flatE es)) ∧ VRel E'.view val (.msl id 0 n n) := by
 obtain ⟨e, i⟩ := ei
 obtain ⟨h1, h2⟩ := telem_some hf
 obtain ⟨d, f, h3, h4, rfl⟩ := tinfo_some h2
 obtain ⟨f', v, h5, h6, rfl⟩ := tzero_some hz
 simp only at hfit hs0 hsz hb h5
 rw [h4] at h5; cases h5
 obtain ⟨hc1, hc2⟩ := PV.fits_spec hfit
 simp only at hc1
 obtain ⟨c1, c2⟩ := (vrel_ofConst E.view v).not_junk_cells hc2
 have hvs : v.cells.size = f.size := c1.trans hc1
 have hrl := rl_zero (V := E.view) v hc2 n
 have hes : ∀ e ∈ List.replicate n (ofConst v), e.cells.length = f.size := by
  intro e he; rw [(List.mem_replicate.1 he).2, hc1]
 obtain ⟨arr', e1, e2, e3, e4⟩ := sound_fillS ht ⟨isAggD d, f.size, f.bytes⟩ ps.toList _ _ es hrl hes hok hb
 rw [List.length_replicate] at e4
 have hle := Env.newRow_le ho hid arr' e (flatE es)
 have hlen := lG hid
 refine ⟨E.newRow id arr' e (flatE es), .slice (some ⟨E.w.heap.size, 0, none⟩) n n, ?_, hle, Env.Ok.newRow ho hid arr' e (flatE es) e2.1 e2.2, rfl, ?_⟩
 ·simp only [Instr.buildSlice, Sem.run_bind, run_under h1, run_size h4, Result.andThen_ok]
  have hlt : ¬ n * f.size > 2 ^ 24 := by omega
  simp only [hlt, if_false, Sem.run_pure, Result.andThen_ok, Sem.run_ite, Sem.run_bind]
  have hn0 : ¬ n * f.size = 0 := by have := Nat.mul_pos hn hs0; omega
  simp only [if_neg hn0, run_zero h4 h6, Result.andThen_ok, Sem.run_bind, Sem.run_pure]
  rw [Array.toList_map]
  rw [hvs] at e1
  simp only [hvs, e1, newRow, Sem.run_bind, run_newObj, Result.andThen_ok, Sem.run_pure]
  rfl
 ·have hm : n ≤ maxLen := by
   have : n ≤ n * f.size := Nat.le_mul_of_pos_right _ hs0
   unfold maxLen; omega
  have := VRel.msl (V := (E.newRow id arr' e (flatE es)).view) id 0 n n ⟨.row _, by simp only [Env.newRow]; exact List.getElem?_set_self hlen, by simp⟩ hm
  simpa [Env.view, Env.newRow] using this
theorem dops_bs {bm : List Nat} {k : Nat} {o : Oper} {l : List Oper} {prev : Prev} {T : Slots} {H : Heap} (id : Nat) {t : TypeId} {n : Nat} {ps : Array (Nat × Operand)} {ei : TypeId × TI} {z : PV} {es : List PV} (hbm : bmasks ops.toList = bm) (hid : H[id]? = some .unborn) (hw : awanted ops.toList T N o = some true)
  (hop : o.op = .buildSlice t n ps) (hok : ps.toList.all (fun x => okOpnd N x.2) = true) (hf : telem P t = some ei) (hz : tzero P ei.1 = some z)
  (hfit : z.fits ei.2 = true) (hs0 : 0 < ei.2.sz) (hn : 0 < n) (hsz : n * ei.2.sz ≤ 2 ^ 24) (hb : abuildS ei.2 T (List.replicate n z) ps.toList = some es) (hap : hapB (bm.getD k 0) prev [id] [id] = true)
  (h : DOps P N ops Q (k + 1) l (prev ++ [(k, [id], [id])]) (updO T o.dst (.msl id 0 n n)) (H.set id (.row (flatE es)))) : DOps P N ops Q k (o :: l) prev T H := by
 refine ⟨_, [(id, .row (flatE es))], [id], ?_, by simp, hapB_spec (eff := [(id, .row (flatE es))]) (by rw [hbm]; exact hap), h⟩
 intro T' H' hT hH hlen E a ho hE ht
 refine .inr ⟨awanted_sound ht (wanted_agree hT hw), fun next Q' hn' => ?_⟩
 have hb' : abuildS ei.2 T' (List.replicate n z) ps.toList = some es := by
  rw [abuildS_congr ps.toList _ (fun x hx => aev_agree hT x.2 (by rw [hop]; simp only [Op.operands]; exact List.mem_map.2 ⟨x, hx, rfl⟩))]
  exact hb
 obtain ⟨E', val, e1, e2, e3, e4, e5⟩ := sound_buildSM ht ho hok hf hz hfit hs0 hn hsz hb' (id := id) (by rw [hE, hH id (by simp)]; exact hid)
 have := hn' E' val e2 e3 (by rw [e4, hE]; rfl) e5
 unfold Oper.wp execOp
 rw [hop]
 simp only [Sem.run_bind, e1, Result.andThen_ok, Sem.run_pure]
 exact this
end
end Go.Abs
namespace Go.Abs
open Go.Proofs
theorem Fr.perm {A B F' : List Nat} {H H' : Heap} (h : Fr A F' H H') (hp : ∀ x, x ∈ A ↔ x ∈ B) : Fr B F' H H' :=
 ⟨h.len, fun id h1 h2 => h.same id h1 (fun h3 => h2 ((hp id).1 h3)), fun id h1 h2 => (hp id).1 (h.ids id h1 h2)⟩
theorem Fr.set {F : List Nat} {H : Heap} {i : Nat} {o : AObj} (hi : i ∈ F) : Fr F F H (H.set i o) :=
 ⟨by simp, fun id h1 h2 => by rw [List.getElem?_set_ne (by rintro rfl; exact h2 hi)], fun id h _ => h⟩
structure Split (toks : List Tk) (ip : Nat) (s : PS) (f : Frm) (gs : List Frm) (F : List Nat) (H : Heap) (is c : Nat) (R : List PV) (ids cid : List Nat) (cv : PV) (cells0 rest : List PV) : Prop where
 h1 : H[ip]? = some (.row [.slice (toks.map Tk.enc) .none, .int .i64 (s.pos : Nat), .msl is 0 (gs.length + 1) c])
 h2 : H[is]? = some (.row R)
 h3 : R.length = c * 3
 h4 : gs.length + 1 ≤ c
 h5 : c ≤ maxLen
 ch : ChOk H cv f.kids cid
 top : (R.drop (gs.length * 3)).take 3 = [.int .i64 f.kind, .str [], cv]
 eF : F = ip :: is :: (cid ++ ids)
 pop : PSt toks ip { s with stack := gs } (ip :: is :: ids) (H.set ip (.row [.slice (toks.map Tk.enc) .none, .int .i64 (s.pos : Nat), .msl is 0 gs.length c]))
 apart : ∀ i ∈ cid, i ∉ ip :: is :: ids
 ne : ip ≠ is
 hR : cells0 ++ [.int .i64 f.kind, .str [], cv] ++ rest = R
 k1 : StkOk H gs cells0 ids
 hi1 : ip ∉ cid ++ ids
 hi2 : is ∉ cid ++ ids
 hpos : s.pos ≤ toks.length
 hlim : toks.length ≤ lim
theorem PSt.split {toks : List Tk} {ip : Nat} {s : PS} {F : List Nat} {H : Heap} {f : Frm} {gs : List Frm} (hp : PSt toks ip s F H) (hs : s.stack = f :: gs) : ∃ is c R ids cid cv cells0 rest, Split toks ip s f gs F H is c R ids cid cv cells0 rest := by
 obtain ⟨is, c, cells, rest, ids, h1, h2, h3, h4, h5, rfl, hne, hi1, hi2, hpos, hlim⟩ := hp
 rw [hs] at h1 h5
 cases h5 with
 | @cons _ _ cells0 ids0 cid cv k1 k2 k3 =>
  have hcl := k1.len
  have hi1' := hi1
  have hi2' := hi2
  rw [List.mem_append, not_or] at hi1 hi2
  refine ⟨is, c, _, ids0, cid, cv, cells0, rest, ⟨h1, h2, h3, ?_, h4, k2, ?_, rfl, ?_, ?_, hne, rfl, k1, hi1', hi2', hpos, hlim⟩⟩
  ·simp at h3; omega
  ·rw [← hcl, List.append_assoc, List.drop_left]; simp
  ·refine ⟨is, c, cells0, [.int .i64 f.kind, .str [], cv] ++ rest, ids0, ?_, ?_, ?_, h4, k1.fr fun i hi => ?_, rfl, hne, hi1.2, hi2.2, hpos, hlim⟩
   ·rw [List.getElem?_set_self (lG h1)]
   ·rw [List.getElem?_set_ne hne, h2, List.append_assoc]
   ·rw [← List.append_assoc]; exact h3
   ·rw [List.getElem?_set_ne (by rintro rfl; exact hi1.2 hi)]
  ·intro i hi hm
   rcases List.mem_cons.1 hm with rfl | hm
   ·exact hi1.1 hi
   ·rcases List.mem_cons.1 hm with rfl | hm
    ·exact hi2.1 hi
    ·exact k3 i hi hm
theorem ChOk.cell {H : Heap} {cv : PV} {kids : List St} {cid : List Nat} (h : ChOk H cv kids cid) : cv.drop1.isCell = true ∧ cv.drop1.drop1 = cv.drop1 ∧ cv.drop1.drop0 = cv.drop1 := by
 cases h with
 | nil => exact ⟨rfl, rfl, rfl⟩
 | msl => exact ⟨rfl, rfl, rfl⟩
theorem finishM_inv {s s' : PS} (h : finishM s = some s') : ∃ f gs, s.stack = f :: gs ∧ addM ⟨f.kind, [], f.kids⟩ { s with stack := gs } = some s' := by
 unfold finishM at h
 split at h
 ·rename_i f g fs hs; exact ⟨f, g :: fs, hs, h⟩
 ·cases h
theorem add_fA {toks : List Tk} {ip : Nat} {s s' : PS} {F : List Nat} {H : Heap} {k : Int} {kids : List St} {cid : List Nat} {cv : PV} (hm : addM ⟨k, [], kids⟩ s = some s') (hp : PSt toks ip s F H) (hc : ChOk H cv kids cid) (hd : ∀ i ∈ cid, i ∉ F) (L : Heap) :
  ACalls Tryz.prog 96 [.optr ip 0, .agg [.int .i64 k, .str [], cv.drop1]] (H ++ L) fun r H' => r = .tup [] ∧ ∃ F', PSt toks ip s' F' H' ∧ Fr (cid ++ F) F' (H ++ L) H' :=
 add_f hm (hp.app L) (hc.fr fun i hi => List.getElem?_append_left (hc.lt i hi)) hd
end Go.Abs
namespace Go.Abs
theorem push_fin {toks : List Tk} {ip is pos : Nat} {fl : Bool} {st : List Frm} {cells : List PV} {ids : List Nat} {H H3 : Heap} {k : Int} {kids' : List St} {cv' : PV} {is' c1 : Nat} {rest' : List PV} {cid' : List Nat}
  (h1 : ip < H.length) (h2 : is < H.length) (h5 : StkOk H st cells ids) (hne : ip ≠ is) (hi1 : ip ∉ ids) (hi2 : is ∉ ids) (hpos : pos ≤ toks.length) (hlim : toks.length ≤ lim)
  (e1 : H3[ip]? = some (.row [.slice (toks.map Tk.enc) .none, .int .i64 (pos : Nat), .msl is' 0 (st.length + 1) c1])) (e2 : H3[is']? = some (.row (cells ++ [.int .i64 k, .str [], cv'] ++ rest'))) (e3 : (st.length + 1) * 3 + rest'.length = c1 * 3) (e4 : c1 ≤ maxLen)
  (same : ∀ j, j < H.length → j ≠ ip → j ≠ is → H3[j]? = H[j]?) (hl : H.length ≤ H3.length) (his : is' = is ∨ H.length ≤ is') (hc : ChOk H3 cv' kids' cid') (hcid : ∀ i ∈ cid', H.length ≤ i ∧ i ≠ is') :
  ∃ F', PSt toks ip ⟨pos, ⟨k, kids'⟩ :: st, fl⟩ F' H3 ∧ Fr (ip :: is :: ids) F' H H3 := by
 have hcl := h5.len
 have hn1 : ip ≠ is' := by exact his.elim (fun h => h ▸ hne) (fun h => by omega)
 have hn2 : is' ∉ ids := by
  rcases his with rfl | h
  ·exact hi2
  ·intro hm; have := h5.lt _ hm; omega
 have hc1 : ∀ i ∈ cid', i ∉ ids := fun i hi hm => by have := h5.lt _ hm; have := (hcid i hi).1; omega
 refine ⟨ip :: is' :: (cid' ++ ids), ⟨is', c1, cells ++ [.int .i64 k, .str [], cv'], rest', cid' ++ ids, e1, e2, ?_, e4, ?_, rfl, hn1, ?_, ?_, hpos, hlim⟩, hl, ?_, ?_⟩
 ·simp [hcl]; omega
 ·exact StkOk.cons (f := ⟨k, kids'⟩) (h5.fr fun i hi => same i (h5.lt i hi) (by rintro rfl; exact hi1 hi) (by rintro rfl; exact hi2 hi)) hc hc1
 ·rw [List.mem_append, not_or]; exact ⟨fun h => by have := (hcid _ h).1; omega, hi1⟩
 ·rw [List.mem_append, not_or]; exact ⟨fun h => (hcid _ h).2 rfl, hn2⟩
 ·intro j hj hn
  simp only [List.mem_cons, not_or] at hn
  exact same j hj hn.1 hn.2.1
 ·intro j hj hjl
  simp only [List.mem_cons, List.mem_append] at hj ⊢
  rcases hj with rfl | rfl | hj | hj
  ·exact .inl rfl
  ·rcases his with rfl | h
   ·exact .inr (.inl rfl)
   ·omega
  ·have := (hcid _ hj).1; omega
  ·exact .inr (.inr hj)
theorem rest3 {n c : Nat} {rest : List PV} (h : n * 3 + rest.length = c * 3) : (rest = [] ∧ c = n) ∨ ∃ x y z r, rest = x :: y :: z :: r ∧ n + 1 ≤ c ∧ (n + 1) * 3 + r.length = c * 3 := by
 match rest, h with
 | [], h => exact .inl ⟨rfl, by simp at h; omega⟩
 | [x], h => simp at h; omega
 | [x, y], h => simp at h; omega
 | x :: y :: z :: r, h => exact .inr ⟨x, y, z, r, rfl, by simp at h; omega, by simp at h; omega⟩
end Go.Abs
namespace Go.Abs
theorem awp_abs {P : Program} {N nb : Nat} {Q : Post} {c : Code} {T : Slots} {H : Heap} (I : Heap → Prop) (hI : I H) (h : ∀ H', I H' → AWP P N nb c Q T H') : AWP P N nb c Q T H := h H hI
theorem addM_flag {t : St} {s s' : PS} (h : addM t s = some s') : s'.flag = s.flag := by
 unfold addM at h
 split at h
 ·cases h
 ·split at h
  ·cases h; rfl
  ·cases h
theorem finishM_flag {s s' : PS} (h : finishM s = some s') : s'.flag = s.flag := by
 obtain ⟨f, gs, _, ha⟩ := finishM_inv h
 have := addM_flag ha; exact this
theorem openM_inv {k : Int} {s s1 : PS} (h : openM k s = some s1) : s.stack.length < lim ∧ s1 = ⟨s.pos, ⟨k, []⟩ :: s.stack, s.flag⟩ := by
 unfold openM at h
 split at h
 ·rename_i hl; cases h; exact ⟨hl, rfl⟩
 ·cases h
theorem Split.retop {toks : List Tk} {ip : Nat} {s : PS} {f : Frm} {gs : List Frm} {F : List Nat} {H H3 : Heap} {is c : Nat} {R : List PV} {ids cid cid' : List Nat} {cv cv' : PV} {cells0 rest : List PV} {kids' : List St}
  (sp : Split toks ip s f gs F H is c R ids cid cv cells0 rest) (hl : H.length ≤ H3.length) (e2 : H3[is]? = some (.row (R.set (gs.length * 3 + 2) cv'))) (same : ∀ j, j < H.length → j ≠ is → j ∉ cid → H3[j]? = H[j]?)
  (hc : ChOk H3 cv' kids' cid') (hcid : ∀ i ∈ cid', i ∈ cid ∨ H.length ≤ i) : PSt toks ip ⟨s.pos, ⟨f.kind, kids'⟩ :: gs, s.flag⟩ (ip :: is :: (cid' ++ ids)) H3 ∧ Fr F (ip :: is :: (cid' ++ ids)) H H3 := by
 rw [sp.eF]
 exact top_finE sp.h1 sp.hR sp.h3 sp.h5 sp.k1 (fun i hi hm => sp.apart i hi (by simp [hm])) sp.ne sp.hi1 sp.hi2 (lG sp.h2) sp.hpos sp.hlim hl e2 same hc hcid
theorem wrapOpenM_inv {k : Int} {s s1 : PS} (h : wrapOpenM k s = some s1) : ∃ (f : Frm) (gs : List Frm) (ks : List St) (x : St) (sm : PS), s.stack = f :: gs ∧ f.kids = ks ++ [x] ∧ sm = ⟨s.pos, ⟨f.kind, ks⟩ :: gs, s.flag⟩ ∧ s1 = ⟨sm.pos, ⟨k, [x]⟩ :: sm.stack, sm.flag⟩ ∧ sm.stack.length < lim := by
 unfold wrapOpenM at h
 split at h
 ·cases h
 ·rename_i f gs hs
  split at h
  ·rename_i hc
   split at h
   ·cases h
   ·rename_i x hx
    cases h
    refine ⟨f, gs, f.kids.dropLast, x, _, hs, ?_, rfl, rfl, by rw [hs] at hc; exact hc⟩
    have hne : f.kids ≠ [] := by intro e; rw [e] at hx; cases hx
    rw [List.getLast?_eq_some_getLast hne] at hx
    injection hx with hx
    rw [← hx]; exact (List.dropLast_concat_getLast hne).symm
  ·cases h
theorem ChOk.msl_inv {H : Heap} {cv : PV} {ks : List St} {x : St} {cid : List Nat} (h : ChOk H cv (ks ++ [x]) cid) : ∃ ic c rest, cv = .msl ic 0 (ks.length + 1) c ∧ cid = [ic] ∧ H[ic]? = some (.row (flatE (ks.map St.enc) ++ (x.enc.cells ++ rest))) ∧ (ks.length + 1) * 3 + rest.length = c * 3 ∧ c ≤ maxLen := by
 generalize hk : ks ++ [x] = kk at h
 cases h with
 | nil => simp at hk
 | @msl ic c _ rest hH hc hm =>
  subst hk
  refine ⟨ic, c, rest, by simp, rfl, ?_, by simpa using hc, hm⟩
  rw [hH, List.map_append, flatE_append, List.append_assoc]; simp [flatE]
end Go.Abs
namespace Go.Abs
open Go.Proofs
theorem finish_c (toks : List Tk) (ip : Nat) : FN Tryz.prog toks ip 85 [.optr ip 0] finishM unitR := by
 intro s s' F0 H0 hm p0
 have f0 := Fr.refl F0 H0
 obtain ⟨st0, r0⟩ := p0.row
 have q0 := getL r0
 have hl := lim_le p0.len
 obtain ⟨f, gs, hs, ha⟩ := finishM_inv hm
 obtain ⟨is, c, R, ids, cid, cv, cells0, rest, h1, h2, h3, h4, h5, hch, htop, hF, hpop, hap, hne, _, _, _, _, _, _⟩ := p0.split hs
 have hmx : maxLen = 9223372036854775807 := by decide
 have hip := lG h1
 have his := lG h2
 have q1 := getL h1
 have q2 := getL h2
 have gw : IntKind.i64.wrap (((gs.length + 1 : Nat) : Int) - 1) = ((gs.length : Nat) : Int) := by rw [wrap_id (by omega) (by omega)]; omega
 have gi := ix_nat (n := gs.length + 1) (i := gs.length) (by omega)
 have qs : ∀ L o, (H0 ++ L).set ip o = H0.set ip o ++ L := fun L o => ap6 hip
 have gD : ((R.drop (gs.length * 3)).take 3).map PV.drop1 = [.int .i64 f.kind, .str [], cv.drop1] := by rw [htop]; rfl
 have b3 : (gs.length * 3 + 3 ≤ R.length) = True := by simp; omega
 have hcl := hch.cell.1
 have hdd := hch.cell.2.1
 have hd0 := hch.cell.2.2
 have n0 := p0.ne
 have m0 := p0.neK
 have qz : ∀ o L, (H0.set ip o ++ L)[H0.length]? = L[0]? := fun o L => ap3 (k := 0)
 have hch2 : ChOk (H0.set ip (.row [.slice (toks.map Tk.enc) .none, .int .i64 (s.pos : Nat), .msl is 0 gs.length c])) cv f.kids cid := hch.fr fun i hi => by rw [List.getElem?_set_ne (by rintro rfl; exact hap _ hi (by simp))]
 have fz : ∀ k, (is = H0.length + k) = False := fun k => by simp; omega
 have fz0 : (is = H0.length) = False := by simp; omega
 refine aF (N := 29) Tryz.func85 rfl rfl (by simp) fun hb' => ?_
 refine qE (a5 y3 y36 y38 y59 (a5 h1 h2 q1 q2 (a5 gw gi tN qs (a5 gD b3 hcl hdd (a5 hd0 zStf zStd n0 (a4 m0 qz fz fz0)))))) ?_
 refine qE (a5 y36 y38 y59 h1 (a5 h2 q1 q2 gw (a5 gi tN qs gD (a5 b3 hcl hdd hd0 (a5 zStf zStd n0 m0 (a3 qz fz fz0)))))) ?_
 refine qL [0, 2, 3] (a5 h1 h2 q1 q2 (a5 gw gi tN qs (a5 gD b3 hcl hdd (a5 hd0 zStf zStd n0 (a4 m0 qz fz fz0))))) ?_
 refine qT 6 (a5 y36 y38 y59 h1 (a5 h2 q1 q2 gw (a5 gi tN qs gD (a5 b3 hcl hdd hd0 (a5 zStf zStd n0 m0 (a3 qz fz fz0)))))) ?_
 refine aops_sliceM (id := is) (n := gs.length + 1) (c := c) (kk := .i64) (k := gs.length) (by simp only [kC, seval, vint, qC, h1, h2, q1, q2, gw, gi, tN, qs, gD, b3, hcl, hdd, hd0, zStf, zStd, n0, m0, qz, fz, fz0]) rfl (by decide) (by decide) zte36 (by simp only [kC, seval, vint, qC, h1, h2, q1, q2, gw, gi, tN, qs, gD, b3, hcl, hdd, hd0, zStf, zStd, n0, m0, qz, fz, fz0] <;> first | done | rfl) (by simp only [kC, seval, vint, qC, h1, h2, q1, q2, gw, gi, tN, qs, gD, b3, hcl, hdd, hd0, zStf, zStd, n0, m0, qz, fz, fz0] <;> first | done | rfl) (by omega) ?_
 refine qX (a5 y36 y38 y59 h1 (a5 h2 q1 q2 gw (a5 gi tN qs gD (a5 b3 hcl hdd hd0 (a5 zStf zStd n0 m0 (a3 qz fz fz0)))))) ?_
 refine qT 2 (a5 y38 h1 h2 q1 (a5 q2 gw gi tN (a5 qs gD b3 hcl (a5 hdd hd0 zStf zStd (a5 n0 m0 qz fz fz0))))) ?_
 refine qN (a5 h1 h2 q1 q2 (a5 gw gi tN qs (a5 gD b3 hcl hdd (a5 hd0 zStf zStd n0 (a4 m0 qz fz fz0))))) (add_fA ha hpop hch2 hap _) ?_
 rintro _ H1 ⟨rfl, F1, p1, g1⟩
 have f1 : Fr F0 F1 H0 H1 := (Fr.set (F := F0) (i := ip) (by rw [hF]; simp)).trans (g1.of_app.perm (fun y => by rw [hF]; simp only [List.mem_append, List.mem_cons]; constructor <;> (intro hh; rcases hh with hh | hh | hh | hh <;> simp [hh])))
 refine enX ?_
 exact ⟨rfl, F1, p1, f1⟩
theorem node_c (toks : List Tk) (ip : Nat) (k : Int) (f : FuncId) (pf pc : List PV) (hgo : goFn Tryz.prog f = true) {a : PS → Option PS} {rv : PS → PS → PV} {I : PS → List Nat → Heap → Prop} (hI : Stb I) (hc : FC Tryz.prog toks ip f (pf ++ pc) a rv I) : FC Tryz.prog toks ip 60 [.optr ip 0, .int .i64 k, .fn (.func f) pf pc] (nodeM k a) unitR I := by
 intro s s' F0 H0 hm p0 i0
 obtain ⟨s2, hm2, hfin⟩ := oB hm
 obtain ⟨s1, hopen, hact⟩ := oB hm2
 obtain ⟨hlt, rfl⟩ := openM_inv hopen
 obtain ⟨is, c, cells, rest, ids, h1, h2, h3, h4, h5, hF, hne, hi1, hi2, hpos, hlim⟩ := p0
 have hmx : maxLen = 9223372036854775807 := by decide
 have hip := lG h1
 have his := lG h2
 have hcl := h5.len
 have q1 := getL h1
 have gi := ix_nat (n := s.stack.length + 1) (i := s.stack.length) (by omega)
 have nip : ∀ k, (ip = H0.length + k) = False := fun k => by simp; omega
 have nip0 : (ip = H0.length) = False := by simp; omega
 have nfi : ∀ k, (H0.length + k = ip) = False := fun k => by simp; omega
 have nfi0 : (H0.length = ip) = False := by simp; omega
 have nb1 : ∀ k, (ip == H0.length + k) = false := fun k => by simp; omega
 have nb2 : ∀ k, (H0.length + k == ip) = false := fun k => by simp; omega
 have nb3 : (ip == H0.length) = false := by simp; omega
 have nb4 : (H0.length == ip) = false := by simp; omega
 have nis : ∀ k, (is = H0.length + k) = False := fun k => by simp; omega
 have nis0 : (is = H0.length) = False := by simp; omega
 have nb5 : (ip == is) = false := by simpa using hne
 have nb6 : (is == ip) = false := by simpa using Ne.symm hne
 refine aF (N := 22) Tryz.func60 rfl rfl (by simp) fun hb' => ?_
 (rcases rest3 (n := s.stack.length) (c := c) (rest := rest) (by rw [← hcl, ← List.length_append]; exact h3) with ⟨hr1, hr2⟩ | ⟨e1, e2, e3, rest1, hr1, hr2, hr3⟩)
 ·-- case
  subst hr1 hr2
  simp only [List.append_nil] at h2 h3
  have q2 := getL h2
  repeat refine wS ?_
  refine awp_drawB 0 (by kernel_rfl) ?_
  refine seg_pure 8 (bm := [0, 1, 3, 7, 0, 16, 15, 0, 255, 511, 1023, 511, 2559, 6655]) (by kernel_rfl) (by decide) (by kernel_rfl) (by kernel_rfl) ?_
  refine pX (a5 y36 y38 y59 h1 (a5 q1 gi tN zStf (a5 zStd nip nip0 nfi (a5 nfi0 nb1 nb2 nb3 (a5 nb4 nis nis0 nb5 nb6))))) ?_
  refine seg_op (k := 8) (bm := [0, 1, 3, 7, 0, 16, 15, 0, 255, 511, 1023, 511, 2559, 6655]) (by kernel_rfl) rfl (by kernel_rfl) (by kernel_rfl) ?_
  refine aops_appNew (n := s.stack.length) (oc := cells) (e1 := .agg [.int .i64 0, .str [], .slice [] .none]) (tl := .full) (by simp only [kC, seval, vint, qC]) rfl (by decide) (by decide) (by simp only [kC, seval, vint, qC] <;> first | done | rfl) (by show _ * 48 ≤ _; simp only [lim] at hlt; omega) (by simp only [lim] at hlt; omega) rfl zte36 (by rw [zte36]; rfl) ztz38 rfl (fun E v ho hE hv => first_msl ho (cs := cells) (by rw [hE]; first | exact h2 | exact q2 _) hcl hv) ?_
  intro c1 rest1 hc1 hc2 hrest1
  refine oN ?_
  show GoAt _ _ _ _ _ _ _ _
  obtain ⟨RR, hRR⟩ : ∃ RR, RR = cells ++ PV.cells (.agg [.int .i64 0, .str [], .slice [] .none]) ++ rest1 := ⟨_, rfl⟩
  rw [← hRR]
  have lr1 : rest1.length = (c1 - (s.stack.length + 1)) * 3 := by rw [hrest1]; simp [PV.cells]
  have lRR : RR.length = c1 * 3 := by rw [hRR]; simp [PV.cells, lr1, hcl]; omega
  have hb3 : (s.stack.length * 3 + 3 ≤ c1 * 3) = True := by simp; omega
  have qs : ∀ L o, (H0 ++ L).set ip o = H0.set ip o ++ L := fun L o => ap6 hip
  refine seg_draw 5 (bm := [0, 1, 3, 7, 0, 16, 15, 0, 255, 511, 1023, 511, 2559, 6655]) (by kernel_rfl) (by decide) (by kernel_rfl) (by kernel_rfl) ?_
  refine d_end (bm := [0, 1, 3, 7, 0, 16, 15, 0, 255, 511, 1023, 511, 2559, 6655]) (fresh := H0.length + 7) (by kernel_rfl) (by simp only [jD, jO, jN, seval, y36, y38, y59, vint, qC, h1, q1, gi, tN, zStf, zStd, nip, nip0, nfi, nfi0, nb1, nb2, nb3, nb4, nis, nis0, nb5, nb6, hb3, lRR, qs] <;> with_reducible rfl) (by decide) ?_
  refine goat_end ?_
  refine awp_abs (fun H1 => ∃ F1, PSt toks ip ⟨s.pos, ⟨k, []⟩ :: s.stack, s.flag⟩ F1 H1 ∧ Fr F0 F1 H0 H1) ?_ ?_
  ·rw [hF]; exact push_fin hip his h5 hne hi1 hi2 hpos hlim (ap1 hip) (rest' := rest1) (is' := H0.length) (c1 := c1) ((ap3 (k := 0)).trans (by rw [hRR]; refine congrArg (fun z => some (AObj.row z)) ?_; show List.set (List.set (List.set ((cells ++ [_, _, _]) ++ rest1) _ _) _ _) _ _ = _; rw [List.append_assoc]; exact set3 hcl)) (by rw [lr1]; omega) hc2 (fun j hj hn _ => ap2 hj hn) (by simp) (.inr (Nat.le_refl _)) .nil (fun i hi => by cases hi)
  rintro H1 ⟨F1, p1, f1⟩
  refine qT 1 (a5 h1 q1 gi tN (a5 zStf zStd nip nip0 (a5 nfi nfi0 nb1 nb2 (a5 nb3 nb4 nis nis0 (a2 nb5 nb6))))) ?_
  refine qA (a5 h1 q1 gi tN (a5 zStf zStd nip nip0 (a5 nfi nfi0 nb1 nb2 (a5 nb3 nb4 nis nis0 (a2 nb5 nb6))))) hgo (hc _ s2 F1 _ hact p1 (hI s _ _ _ _ _ rfl i0 f1)) ?_
  rintro _ H2 ⟨rfl, F2, p2, g2, i2⟩
  have f2 := f1.trans g2
  refine oN ?_
  refine qT 1 (a5 h1 q1 gi tN (a5 zStf zStd nip nip0 (a5 nfi nfi0 nb1 nb2 (a5 nb3 nb4 nis nis0 (a2 nb5 nb6))))) ?_
  refine qA (a5 h1 q1 gi tN (a5 zStf zStd nip nip0 (a5 nfi nfi0 nb1 nb2 (a5 nb3 nb4 nis nis0 (a2 nb5 nb6))))) zgo85 ((finish_c toks ip).ap0 hfin p2) ?_
  rintro _ H3 ⟨rfl, F3, p3, g3⟩
  refine oN ?_
  refine enX ?_
  exact ⟨rfl, F3, p3, f2.trans g3, hI _ _ _ _ _ _ (finishM_flag hfin) i2 g3⟩
 ·-- case
  subst hr1
  repeat refine wS ?_
  refine awp_drawB 0 (by kernel_rfl) ?_
  refine seg_pure 8 (bm := [0, 1, 3, 7, 0, 16, 15, 0, 255, 511, 1023, 511, 2559, 6655]) (by kernel_rfl) (by decide) (by kernel_rfl) (by kernel_rfl) ?_
  refine pX (a5 y36 y38 y59 h1 (a5 q1 gi tN zStf (a5 zStd nip nip0 nfi (a5 nfi0 nb1 nb2 nb3 (a5 nb4 nis nis0 nb5 nb6))))) ?_
  refine seg_op (k := 8) (bm := [0, 1, 3, 7, 0, 16, 15, 0, 255, 511, 1023, 511, 2559, 6655]) (by kernel_rfl) rfl (by kernel_rfl) (by kernel_rfl) ?_
  refine aops_appIn (id := is) (n := s.stack.length) (c := c) (cs := cells ++ e1 :: e2 :: e3 :: rest1) (e1 := .agg [.int .i64 0, .str [], .slice [] .none]) (tl := .full) h2 (by simp only [kC, seval, vint, qC]) rfl (by decide) (by decide) (by simp only [kC, seval, vint, qC] <;> first | done | rfl) (by simp only [kC, seval, vint, qC] <;> first | done | rfl) (by omega) (by simp [hcl]; omega) rfl rfl zte36 (by rw [zte36]; rfl) ?_
  refine oN ?_
  show GoAt _ _ _ _ _ _ _ _
  obtain ⟨RR, hRR⟩ : ∃ RR, RR = splice (cells ++ e1 :: e2 :: e3 :: rest1) (s.stack.length * 3) (PV.cells (.agg [.int .i64 0, .str [], .slice [] .none])) := ⟨_, rfl⟩
  rw [← hRR]
  have hRR2 : RR = cells ++ PV.int .i64 0 :: PV.str [] :: PV.slice [] .none :: rest1 := by rw [hRR]; show splice _ _ [_, _, _] = _; simp only [splice]; rw [set3 hcl]; simp
  have lRR : RR.length = c * 3 := by rw [hRR2]; simp [hcl]; omega
  have hb3 : (s.stack.length * 3 + 3 ≤ c * 3) = True := by simp; omega
  have q5 : ∀ o, (H0.set is o)[is]? = some o := fun o => List.getElem?_set_self his
  have q6 : ∀ o, (H0.set is o)[ip]? = some (.row [.slice (toks.map Tk.enc) .none, .int .i64 (s.pos : Nat), .msl is 0 s.stack.length c]) := fun o => by rw [List.getElem?_set_ne (Ne.symm hne)]; exact h1
  have q7 : ∀ o o2, (H0.set is o).set is o2 = H0.set is o2 := fun o o2 => List.set_set ..
  refine seg_draw 5 (bm := [0, 1, 3, 7, 0, 16, 15, 0, 255, 511, 1023, 511, 2559, 6655]) (by kernel_rfl) (by decide) (by kernel_rfl) (by kernel_rfl) ?_
  refine d_end (bm := [0, 1, 3, 7, 0, 16, 15, 0, 255, 511, 1023, 511, 2559, 6655]) (fresh := H0.length + 7) (by kernel_rfl) (by simp only [jD, jO, jN, seval, y36, y38, y59, vint, qC, h1, q1, gi, tN, zStf, zStd, nip, nip0, nfi, nfi0, nb1, nb2, nb3, nb4, nis, nis0, nb5, nb6, hb3, lRR, q5, q6, q7, lS] <;> with_reducible rfl) (by decide) ?_
  refine goat_end ?_
  refine awp_abs (fun H1 => ∃ F1, PSt toks ip ⟨s.pos, ⟨k, []⟩ :: s.stack, s.flag⟩ F1 H1 ∧ Fr F0 F1 H0 H1) ?_ ?_
  ·rw [hF]; exact push_fin hip his h5 hne hi1 hi2 hpos hlim (List.getElem?_set_self (by simpa using hip)) (rest' := rest1) (is' := is) (c1 := c) (by rw [List.getElem?_set_ne hne, List.getElem?_set_self his, hRR2]; refine congrArg (fun z => some (AObj.row z)) ?_; exact set3 hcl) hr3 h4 (fun j hj hn hn2 => by rw [List.getElem?_set_ne (Ne.symm hn), List.getElem?_set_ne (Ne.symm hn2)]) (by simp) (.inl rfl) .nil (fun i hi => by cases hi)
  rintro H1 ⟨F1, p1, f1⟩
  refine qT 1 (a5 h1 q1 gi tN (a5 zStf zStd nip nip0 (a5 nfi nfi0 nb1 nb2 (a5 nb3 nb4 nis nis0 (a2 nb5 nb6))))) ?_
  refine qA (a5 h1 q1 gi tN (a5 zStf zStd nip nip0 (a5 nfi nfi0 nb1 nb2 (a5 nb3 nb4 nis nis0 (a2 nb5 nb6))))) hgo (hc _ s2 F1 _ hact p1 (hI s _ _ _ _ _ rfl i0 f1)) ?_
  rintro _ H2 ⟨rfl, F2, p2, g2, i2⟩
  have f2 := f1.trans g2
  refine oN ?_
  refine qT 1 (a5 h1 q1 gi tN (a5 zStf zStd nip nip0 (a5 nfi nfi0 nb1 nb2 (a5 nb3 nb4 nis nis0 (a2 nb5 nb6))))) ?_
  refine qA (a5 h1 q1 gi tN (a5 zStf zStd nip nip0 (a5 nfi nfi0 nb1 nb2 (a5 nb3 nb4 nis nis0 (a2 nb5 nb6))))) zgo85 ((finish_c toks ip).ap0 hfin p2) ?_
  rintro _ H3 ⟨rfl, F3, p3, g3⟩
  refine oN ?_
  refine enX ?_
  exact ⟨rfl, F3, p3, f2.trans g3, hI _ _ _ _ _ _ (finishM_flag hfin) i2 g3⟩
theorem wrap_c (toks : List Tk) (ip : Nat) (k : Int) (f : FuncId) (pf pc : List PV) (hgo : goFn Tryz.prog f = true) {a : PS → Option PS} {rv : PS → PS → PV} {I : PS → List Nat → Heap → Prop} (hI : Stb I) (hc : FC Tryz.prog toks ip f (pf ++ pc) a rv I) : FC Tryz.prog toks ip 137 [.optr ip 0, .int .i64 k, .fn (.func f) pf pc] (wrapM k a) unitR I := by
 intro s s' F0 H0 hm p0 i0
 obtain ⟨s2, hm2, hfin⟩ := oB hm
 obtain ⟨s1, hopen, hact⟩ := oB hm2
 obtain ⟨f1, gs, ks, xl, sm, hs, hkids, hsm, rfl, hlt⟩ := wrapOpenM_inv hopen
 obtain ⟨is0, c0, R0, ids0, cid0, cv0, cells00, rest0, sp⟩ := p0.split hs
 have h1 := sp.h1
 have h2 := sp.h2
 have h3 := sp.h3
 have h4 := sp.h4
 have h5 := sp.h5
 have hch := sp.ch
 rw [hkids] at hch
 obtain ⟨ic, cc, crest, hcv, hcid, hic, hcc, hccm⟩ := hch.msl_inv
 have hmx : maxLen = 9223372036854775807 := by decide
 have hip := lG h1
 have his := lG h2
 have hicl := lG hic
 have q1 := getL h1
 have q2 := getL h2
 have gw : IntKind.i64.wrap (((gs.length + 1 : Nat) : Int) - 1) = ((gs.length : Nat) : Int) := by rw [wrap_id (by omega) (by omega)]; omega
 have gi := ix_nat (n := gs.length + 1) (i := gs.length) (by omega)
 have gw2 : IntKind.i64.wrap (((ks.length + 1 : Nat) : Int) - 1) = ((ks.length : Nat) : Int) := by rw [wrap_id (by omega) (by omega)]; omega
 have gi2 := ix_nat (n := ks.length + 1) (i := ks.length) (by omega)
 obtain ⟨RC, hRC⟩ : ∃ RC, RC = flatE (ks.map St.enc) ++ (xl.enc.cells ++ crest) := ⟨_, rfl⟩
 rw [← hRC] at hic
 have q3 := getL hic
 have gRC : ((RC.drop (ks.length * 3)).take 3).map PV.drop1 = [.int .i64 xl.kind, .str xl.text, .slice (xl.ch.map St.enc) .none] := by rw [hRC, ← flatSt_len ks, List.drop_left, St.enc_cells]; rfl
 have bRC : (ks.length * 3 + 3 ≤ RC.length) = True := by rw [hRC]; simp [flatSt_len, St.enc_cells]
 have gR2 : R0[gs.length * 3 + 2]? = some (.msl ic 0 (ks.length + 1) cc) := by
  have := congrArg (fun z => z[2]?) sp.top
  simp only [List.getElem?_take, List.getElem?_drop] at this
  rw [← hcv]; simpa using this
 have bR2 : (gs.length * 3 + 2 + 1 ≤ R0.length) = True := by simp; omega
 have qs : ∀ L o, (H0 ++ L).set is0 o = H0.set is0 o ++ L := fun L o => ap6 his
 have nis : ∀ k, (is0 = H0.length + k) = False := fun k => by simp; omega
 have nis0 : (is0 = H0.length) = False := by simp; omega
 have nic : ic ≠ is0 := fun e => sp.hi2 (by rw [hcid]; simp [e])
 refine aF (N := 60) Tryz.func137 rfl rfl (by simp) fun hb' => ?_
 repeat refine wS ?_
 refine dp_draw (by kernel_rfl) ?_
 refine pX (a5 y3 y36 y38 y59 (a5 h1 h2 q1 q2 (a5 hic q3 gw gi (a5 gw2 gi2 tN gRC (a5 bRC gR2 bR2 qs (a2 nis nis0)))))) ?_
 refine qE (a5 y3 y36 y38 h1 (a5 h2 q1 q2 hic (a5 q3 gw gi gw2 (a5 gi2 tN gRC bRC (a5 gR2 bR2 qs nis nis0))))) ?_
 refine qL [0, 1, 2, 6, 7] (a5 h1 h2 q1 q2 (a5 hic q3 gw gi (a5 gw2 gi2 tN gRC (a5 bRC gR2 bR2 qs (a2 nis nis0))))) ?_
 refine qE (a5 y36 y38 h1 h2 (a5 q1 q2 hic q3 (a5 gw gi gw2 gi2 (a5 tN gRC bRC gR2 (a4 bR2 qs nis nis0))))) ?_
 refine qT 6 (a5 y36 y38 h1 h2 (a5 q1 q2 hic q3 (a5 gw gi gw2 gi2 (a5 tN gRC bRC gR2 (a4 bR2 qs nis nis0))))) ?_
 refine aops_sliceM (id := ic) (n := ks.length + 1) (c := cc) (kk := .i64) (k := ks.length) (by simp only [kC, seval, vint, qC, h1, h2, q1, q2, hic, q3, gw, gi, gw2, gi2, tN, gRC, bRC, gR2, bR2, qs, nis, nis0]) rfl (by decide) (by decide) zte36 (by simp only [kC, seval, vint, qC, h1, h2, q1, q2, hic, q3, gw, gi, gw2, gi2, tN, gRC, bRC, gR2, bR2, qs, nis, nis0] <;> first | done | rfl) (by simp only [kC, seval, vint, qC, h1, h2, q1, q2, hic, q3, gw, gi, gw2, gi2, tN, gRC, bRC, gR2, bR2, qs, nis, nis0] <;> first | done | rfl) (by omega) ?_
 refine qX (a5 y36 y38 h1 h2 (a5 q1 q2 hic q3 (a5 gw gi gw2 gi2 (a5 tN gRC bRC gR2 (a4 bR2 qs nis nis0))))) ?_
 refine qL [0, 1, 2, 8] (a5 h1 h2 q1 q2 (a5 hic q3 gw gi (a5 gw2 gi2 tN gRC (a5 bRC gR2 bR2 qs (a2 nis nis0))))) ?_
 refine awp_abs (fun H1 => ∃ F1, PSt toks ip sm F1 H1 ∧ Fr F0 F1 H0 H1 ∧ H1[H0.length]? = some (.row [.int .i64 xl.kind, .str xl.text, .slice (xl.ch.map St.enc) .none]) ∧ H0.length ∉ F1) ?_ ?_
 ·obtain ⟨k1, k2⟩ := sp.retop (H3 := H0.set is0 (.row (R0.set (gs.length * 3 + 2) (.msl ic 0 ks.length cc))) ++ [.row [.int .i64 xl.kind, .str xl.text, .slice (xl.ch.map St.enc) .none]]) (kids' := ks) (cid' := [ic]) (by simp) (ap1 his) (fun j hj hn _ => ap2 hj hn) (.of (rest := xl.enc.cells ++ crest) rfl (by rw [ap2 hicl nic, hic, hRC]) (by simp [St.enc_cells]; omega) hccm) (fun i hi => .inl (by rw [hcid]; exact hi))
  refine ⟨_, by rw [hsm]; exact k1, k2, ap3 (k := 0), fun h => ?_⟩
  have hF := sp.eF
  rw [← hcid] at h
  rw [← hF] at h
  exact p0.new0 h
 rintro H1 ⟨F1, p1, f1', hbx, hbn⟩
 obtain ⟨is, c, cells, rest, ids, h1, h2, h3, h4, h5, hF, hne, hi1, hi2, hpos, hlim⟩ := p1
 have hmx : maxLen = 9223372036854775807 := by decide
 have hip := lG h1
 have his := lG h2
 have hcl := h5.len
 have q1 := getL h1
 have gi := ix_nat (n := sm.stack.length + 1) (i := sm.stack.length) (by omega)
 have nip : ∀ k, (ip = H1.length + k) = False := fun k => by simp; omega
 have nip0 : (ip = H1.length) = False := by simp; omega
 have nfi : ∀ k, (H1.length + k = ip) = False := fun k => by simp; omega
 have nfi0 : (H1.length = ip) = False := by simp; omega
 have nb1 : ∀ k, (ip == H1.length + k) = false := fun k => by simp; omega
 have nb2 : ∀ k, (H1.length + k == ip) = false := fun k => by simp; omega
 have nb3 : (ip == H1.length) = false := by simp; omega
 have nb4 : (H1.length == ip) = false := by simp; omega
 have nis : ∀ k, (is = H1.length + k) = False := fun k => by simp; omega
 have nis0 : (is = H1.length) = False := by simp; omega
 have nb5 : (ip == is) = false := by simpa using hne
 have nb6 : (is == ip) = false := by simpa using Ne.symm hne
 have qbx := getL hbx
 have dxl : List.map PV.drop1 [PV.int .i64 xl.kind, .str xl.text, .slice (xl.ch.map St.enc) .none] = [PV.int .i64 xl.kind, .str xl.text, .slice (xl.ch.map St.enc) .none] := rfl
 (rcases rest3 (n := sm.stack.length) (c := c) (rest := rest) (by rw [← hcl, ← List.length_append]; exact h3) with ⟨hr1, hr2⟩ | ⟨e1, e2, e3, rest1, hr1, hr2, hr3⟩)
 ·-- case
  subst hr1 hr2
  simp only [List.append_nil] at h2 h3
  have q2 := getL h2
  repeat refine wS ?_
  refine awp_drawB 1 (by kernel_rfl) ?_
  refine seg_draw 10 (bm := [0, 1, 3, 7, 0, 0, 32, 112, 15, 0, 1023, 2047, 4095, 2047, 10239, 26623]) (by kernel_rfl) (by decide) (by kernel_rfl) (by kernel_rfl) ?_
  refine d_take 6 (bm := [0, 1, 3, 7, 0, 0, 32, 112, 15, 0, 1023, 2047, 4095, 2047, 10239, 26623]) (fresh := H1.length + 7) (by kernel_rfl) (by simp only [jD, jO, jN, seval, y36, y38, y59, vint, qC, h1, q1, hbx, qbx, gi, tN, zStf, zStd, nip, nip0, nfi, nfi0, nb1, nb2, nb3, nb4, nis, nis0, nb5, nb6, dxl, if_true] <;> with_reducible rfl) (by decide) (by decide) ?_
  refine dops_bs (bm := [0, 1, 3, 7, 0, 0, 32, 112, 15, 0, 1023, 2047, 4095, 2047, 10239, 26623]) H1.length (t := 36) (n := 1) (es := [xl.enc]) (by kernel_rfl) (by simp) (by simp only [kC, seval, vint, qC, h1, q1, hbx, qbx, gi, tN, zStf, zStd, nip, nip0, nfi, nfi0, nb1, nb2, nb3, nb4, nis, nis0, nb5, nb6, dxl, if_true]) rfl (by decide) zte36 ztz38 rfl (by decide) (by decide) (by decide) (by simp only [kC, seval, vint, qC, h1, q1, hbx, qbx, gi, tN, zStf, zStd, nip, nip0, nfi, nfi0, nb1, nb2, nb3, nb4, nis, nis0, nb5, nb6, dxl, if_true, abuildS, y38] <;> first | done | rfl) (by simp only [jD, jO, jN, seval, vint, qC, h1, q1, hbx, qbx, gi, tN, zStf, zStd, nip, nip0, nfi, nfi0, nb1, nb2, nb3, nb4, nis, nis0, nb5, nb6, dxl, if_true] <;> first | done | rfl) ?_
  rw [show ∀ o, (H1 ++ [AObj.unborn]).set H1.length o = H1 ++ [o] from fun o => by simp]
  refine d_end (bm := [0, 1, 3, 7, 0, 0, 32, 112, 15, 0, 1023, 2047, 4095, 2047, 10239, 26623]) (fresh := H1.length + 7) (by kernel_rfl) (by simp only [jD, jO, jN, seval, y36, y38, vint, qC, h1, q1, hbx, qbx, gi, tN, zStf, zStd, nip, nip0, nfi, nfi0, nb1, nb2, nb3, nb4, nis, nis0, nb5, nb6, dxl, if_true] <;> with_reducible rfl) (by decide) ?_
  refine seg_op (k := 10) (bm := [0, 1, 3, 7, 0, 0, 32, 112, 15, 0, 1023, 2047, 4095, 2047, 10239, 26623]) (by kernel_rfl) rfl (by kernel_rfl) (by kernel_rfl) ?_
  refine aops_appNew (n := sm.stack.length) (oc := cells) (e1 := .agg [.int .i64 0, .str [], .slice [] .none]) (tl := .full) (by simp only [kC, seval, vint, qC]) rfl (by decide) (by decide) (by simp only [kC, seval, vint, qC] <;> first | done | rfl) (by show _ * 48 ≤ _; simp only [lim] at hlt; omega) (by simp only [lim] at hlt; omega) rfl zte36 (by rw [zte36]; rfl) ztz38 rfl (fun E v ho hE hv => first_msl ho (cs := cells) (by rw [hE]; first | exact h2 | exact q2 _) hcl hv) ?_
  intro c1 rest1 hc1 hc2 hrest1
  refine oN ?_
  show GoAt _ _ _ _ _ _ _ _
  obtain ⟨RR, hRR⟩ : ∃ RR, RR = cells ++ PV.cells (.agg [.int .i64 0, .str [], .slice [] .none]) ++ rest1 := ⟨_, rfl⟩
  rw [← hRR]
  have lr1 : rest1.length = (c1 - (sm.stack.length + 1)) * 3 := by rw [hrest1]; simp [PV.cells]
  have lRR : RR.length = c1 * 3 := by rw [hRR]; simp [PV.cells, lr1, hcl]; omega
  have hb3 : (sm.stack.length * 3 + 3 ≤ c1 * 3) = True := by simp; omega
  have qs : ∀ L o, (H1 ++ L).set ip o = H1.set ip o ++ L := fun L o => ap6 hip
  refine seg_draw 5 (bm := [0, 1, 3, 7, 0, 0, 32, 112, 15, 0, 1023, 2047, 4095, 2047, 10239, 26623]) (by kernel_rfl) (by decide) (by kernel_rfl) (by kernel_rfl) ?_
  refine d_end (bm := [0, 1, 3, 7, 0, 0, 32, 112, 15, 0, 1023, 2047, 4095, 2047, 10239, 26623]) (fresh := H1.length + 7) (by kernel_rfl) (by simp only [jD, jO, jN, seval, y36, y38, y59, vint, qC, h1, q1, hbx, qbx, gi, tN, zStf, zStd, nip, nip0, nfi, nfi0, nb1, nb2, nb3, nb4, nis, nis0, nb5, nb6, dxl, if_true, hb3, lRR, qs] <;> with_reducible rfl) (by decide) ?_
  refine goat_end ?_
  refine awp_abs (fun H2 => ∃ F2, PSt toks ip ⟨sm.pos, ⟨k, [xl]⟩ :: sm.stack, sm.flag⟩ F2 H2 ∧ Fr F1 F2 H1 H2) ?_ ?_
  ·rw [hF]; exact push_fin hip his h5 hne hi1 hi2 hpos hlim (ap1 hip) (rest' := rest1) (is' := H1.length + 1) (c1 := c1) (ap3.trans (by rw [hRR]; refine congrArg (fun z => some (AObj.row z)) ?_; show List.set (List.set (List.set ((cells ++ [_, _, _]) ++ rest1) _ _) _ _) _ _ = _; rw [List.append_assoc]; exact set3 hcl)) (by rw [lr1]; omega) hc2 (fun j hj hn _ => ap2 hj hn) (by simp) (.inr (by omega)) (.of (kids := [xl]) (rest := []) rfl ((ap3 (k := 0)).trans (by simp [flatE])) rfl (by show 1 ≤ maxLen; decide)) (cid' := [H1.length]) (fun i hi => by rw [List.mem_singleton] at hi; subst hi; exact ⟨Nat.le_refl _, by omega⟩)
  rintro H2 ⟨F2, p2, f2⟩
  refine qT 1 (a5 h1 h2 q1 q2 (a5 hic q3 gw gi (a5 gw2 gi2 tN gRC (a5 bRC gR2 bR2 qs (a2 nis nis0))))) ?_
  refine qA (a5 h1 h2 q1 q2 (a5 hic q3 gw gi (a5 gw2 gi2 tN gRC (a5 bRC gR2 bR2 qs (a2 nis nis0))))) hgo (hc _ s2 F2 _ hact p2 (hI s _ _ _ _ _ (by rw [hsm]) i0 (f1'.trans f2))) ?_
  rintro _ H3 ⟨rfl, F3, p3, g3, i3⟩
  have f3 := (f1'.trans f2).trans g3
  refine oN ?_
  refine qL [0] (a5 h1 h2 q1 q2 (a5 hic q3 gw gi (a5 gw2 gi2 tN gRC (a5 bRC gR2 bR2 qs (a2 nis nis0))))) ?_
  refine qT 1 (a5 h1 h2 q1 q2 (a5 hic q3 gw gi (a5 gw2 gi2 tN gRC (a5 bRC gR2 bR2 qs (a2 nis nis0))))) ?_
  refine qA (a5 h1 h2 q1 q2 (a5 hic q3 gw gi (a5 gw2 gi2 tN gRC (a5 bRC gR2 bR2 qs (a2 nis nis0))))) zgo85 ((finish_c toks ip).ap0 hfin p3) ?_
  rintro _ H4 ⟨rfl, F4, p4, g4⟩
  refine oN ?_
  refine enX ?_
  exact ⟨rfl, F4, p4, f3.trans g4, hI _ _ _ _ _ _ (finishM_flag hfin) i3 g4⟩
 ·-- case
  subst hr1
  repeat refine wS ?_
  refine awp_drawB 1 (by kernel_rfl) ?_
  refine seg_draw 10 (bm := [0, 1, 3, 7, 0, 0, 32, 112, 15, 0, 1023, 2047, 4095, 2047, 10239, 26623]) (by kernel_rfl) (by decide) (by kernel_rfl) (by kernel_rfl) ?_
  refine d_take 6 (bm := [0, 1, 3, 7, 0, 0, 32, 112, 15, 0, 1023, 2047, 4095, 2047, 10239, 26623]) (fresh := H1.length + 7) (by kernel_rfl) (by simp only [jD, jO, jN, seval, y36, y38, y59, vint, qC, h1, q1, hbx, qbx, gi, tN, zStf, zStd, nip, nip0, nfi, nfi0, nb1, nb2, nb3, nb4, nis, nis0, nb5, nb6, dxl, if_true] <;> with_reducible rfl) (by decide) (by decide) ?_
  refine dops_bs (bm := [0, 1, 3, 7, 0, 0, 32, 112, 15, 0, 1023, 2047, 4095, 2047, 10239, 26623]) H1.length (t := 36) (n := 1) (es := [xl.enc]) (by kernel_rfl) (by simp) (by simp only [kC, seval, vint, qC, h1, q1, hbx, qbx, gi, tN, zStf, zStd, nip, nip0, nfi, nfi0, nb1, nb2, nb3, nb4, nis, nis0, nb5, nb6, dxl, if_true]) rfl (by decide) zte36 ztz38 rfl (by decide) (by decide) (by decide) (by simp only [kC, seval, vint, qC, h1, q1, hbx, qbx, gi, tN, zStf, zStd, nip, nip0, nfi, nfi0, nb1, nb2, nb3, nb4, nis, nis0, nb5, nb6, dxl, if_true, abuildS, y38] <;> first | done | rfl) (by simp only [jD, jO, jN, seval, vint, qC, h1, q1, hbx, qbx, gi, tN, zStf, zStd, nip, nip0, nfi, nfi0, nb1, nb2, nb3, nb4, nis, nis0, nb5, nb6, dxl, if_true] <;> first | done | rfl) ?_
  rw [show ∀ o, (H1 ++ [AObj.unborn]).set H1.length o = H1 ++ [o] from fun o => by simp]
  refine d_end (bm := [0, 1, 3, 7, 0, 0, 32, 112, 15, 0, 1023, 2047, 4095, 2047, 10239, 26623]) (fresh := H1.length + 7) (by kernel_rfl) (by simp only [jD, jO, jN, seval, y36, y38, vint, qC, h1, q1, hbx, qbx, gi, tN, zStf, zStd, nip, nip0, nfi, nfi0, nb1, nb2, nb3, nb4, nis, nis0, nb5, nb6, dxl, if_true] <;> with_reducible rfl) (by decide) ?_
  refine seg_op (k := 10) (bm := [0, 1, 3, 7, 0, 0, 32, 112, 15, 0, 1023, 2047, 4095, 2047, 10239, 26623]) (by kernel_rfl) rfl (by kernel_rfl) (by kernel_rfl) ?_
  refine aops_appIn (id := is) (n := sm.stack.length) (c := c) (cs := cells ++ e1 :: e2 :: e3 :: rest1) (e1 := .agg [.int .i64 0, .str [], .slice [] .none]) (tl := .full) (getL h2 _) (by simp only [kC, seval, vint, qC]) rfl (by decide) (by decide) (by simp only [kC, seval, vint, qC] <;> first | done | rfl) (by simp only [kC, seval, vint, qC] <;> first | done | rfl) (by omega) (by simp [hcl]; omega) rfl rfl zte36 (by rw [zte36]; rfl) ?_
  refine oN ?_
  show GoAt _ _ _ _ _ _ _ _
  obtain ⟨RR, hRR⟩ : ∃ RR, RR = splice (cells ++ e1 :: e2 :: e3 :: rest1) (sm.stack.length * 3) (PV.cells (.agg [.int .i64 0, .str [], .slice [] .none])) := ⟨_, rfl⟩
  rw [← hRR, ap6 his]
  have hRR2 : RR = cells ++ PV.int .i64 0 :: PV.str [] :: PV.slice [] .none :: rest1 := by rw [hRR]; show splice _ _ [_, _, _] = _; simp only [splice]; rw [set3 hcl]; simp
  have lRR : RR.length = c * 3 := by rw [hRR2]; simp [hcl]; omega
  have hb3 : (sm.stack.length * 3 + 3 ≤ c * 3) = True := by simp; omega
  have q5 : ∀ o L, (H1.set is o ++ L)[is]? = some o := fun o L => ap1 his
  have q6 : ∀ o L, (H1.set is o ++ L)[ip]? = some (.row [.slice (toks.map Tk.enc) .none, .int .i64 (sm.pos : Nat), .msl is 0 sm.stack.length c]) := fun o L => by rw [ap2 hip hne]; exact h1
  have q7 : ∀ o o2 L, (H1.set is o ++ L).set is o2 = H1.set is o2 ++ L := fun o o2 L => ap4 his
  have q8 : ∀ o o2 L, (H1.set is o ++ L).set ip o2 = (H1.set is o).set ip o2 ++ L := fun o o2 L => ap5 hip
  refine seg_draw 5 (bm := [0, 1, 3, 7, 0, 0, 32, 112, 15, 0, 1023, 2047, 4095, 2047, 10239, 26623]) (by kernel_rfl) (by decide) (by kernel_rfl) (by kernel_rfl) ?_
  refine d_end (bm := [0, 1, 3, 7, 0, 0, 32, 112, 15, 0, 1023, 2047, 4095, 2047, 10239, 26623]) (fresh := H1.length + 7) (by kernel_rfl) (by simp only [jD, jO, jN, seval, y36, y38, y59, vint, qC, h1, q1, hbx, qbx, gi, tN, zStf, zStd, nip, nip0, nfi, nfi0, nb1, nb2, nb3, nb4, nis, nis0, nb5, nb6, dxl, if_true, hb3, lRR, q5, q6, q7, q8, lS] <;> with_reducible rfl) (by decide) ?_
  refine goat_end ?_
  refine awp_abs (fun H2 => ∃ F2, PSt toks ip ⟨sm.pos, ⟨k, [xl]⟩ :: sm.stack, sm.flag⟩ F2 H2 ∧ Fr F1 F2 H1 H2) ?_ ?_
  ·rw [hF]; exact push_fin hip his h5 hne hi1 hi2 hpos hlim (ap8 hip) (rest' := rest1) (is' := is) (c1 := c) ((ap7 hip his hne).trans (by rw [hRR2]; refine congrArg (fun z => some (AObj.row z)) ?_; exact set3 hcl)) hr3 h4 (fun j hj hn hn2 => ap9 hj hn2 hn) (by simp) (.inl rfl) (.of (kids := [xl]) (rest := []) rfl ((ap10 (k := 0)).trans (by simp [flatE])) rfl (by show 1 ≤ maxLen; decide)) (cid' := [H1.length]) (fun i hi => by rw [List.mem_singleton] at hi; subst hi; exact ⟨Nat.le_refl _, by omega⟩)
  rintro H2 ⟨F2, p2, f2⟩
  refine qT 1 (a5 h1 h2 q1 q2 (a5 hic q3 gw gi (a5 gw2 gi2 tN gRC (a5 bRC gR2 bR2 qs (a2 nis nis0))))) ?_
  refine qA (a5 h1 h2 q1 q2 (a5 hic q3 gw gi (a5 gw2 gi2 tN gRC (a5 bRC gR2 bR2 qs (a2 nis nis0))))) hgo (hc _ s2 F2 _ hact p2 (hI s _ _ _ _ _ (by rw [hsm]) i0 (f1'.trans f2))) ?_
  rintro _ H3 ⟨rfl, F3, p3, g3, i3⟩
  have f3 := (f1'.trans f2).trans g3
  refine oN ?_
  refine qL [0] (a5 h1 h2 q1 q2 (a5 hic q3 gw gi (a5 gw2 gi2 tN gRC (a5 bRC gR2 bR2 qs (a2 nis nis0))))) ?_
  refine qT 1 (a5 h1 h2 q1 q2 (a5 hic q3 gw gi (a5 gw2 gi2 tN gRC (a5 bRC gR2 bR2 qs (a2 nis nis0))))) ?_
  refine qA (a5 h1 h2 q1 q2 (a5 hic q3 gw gi (a5 gw2 gi2 tN gRC (a5 bRC gR2 bR2 qs (a2 nis nis0))))) zgo85 ((finish_c toks ip).ap0 hfin p3) ?_
  rintro _ H4 ⟨rfl, F4, p4, g4⟩
  refine oN ?_
  refine enX ?_
  exact ⟨rfl, F4, p4, f3.trans g4, hI _ _ _ _ _ _ (finishM_flag hfin) i3 g4⟩
end Go.Abs
namespace Go.Abs
theorem vrel_newStrs {E : Env} (ho : E.Ok) (xs : List (List UInt8)) (t : TypeId) (hm : xs.length ≤ maxLen) :
  VRel (E.newFixed (.cells (xs.map fun l => Value.string ⟨l.toArray⟩).toArray t (0, 0))).view (.slice (some ⟨E.w.heap.size, 0, none⟩) xs.length xs.length) (.slice (xs.map PV.str) .none) := by
 have hadd : ∀ n, (⟨E.w.heap.size, 0, none⟩ : Addr).add n = ⟨E.w.heap.size, n, none⟩ := by
  intro n; unfold Addr.add; split
  ·rename_i e; subst e; rfl
  ·simp
 refine .slice _ _ _ 1 _ _ (fun i _ => Value.string ⟨(xs.getD i []).toArray⟩) (by simp) (Nat.le_refl _) hm ?_ ?_ ?_ trivial
 ·intro i hi
  simp only [List.getElem_map]; rfl
 ·intro i j hi hj
  have hj0 : j = 0 := by omega
  subst hj0
  rw [hadd, Nat.mul_one, Nat.add_zero]
  simp only [Env.view, Env.newFixed, if_pos, Kind.stable, if_true]
  unfold World.cell?
  rw [heap_alloc_new]
  simp [hi, List.getD_eq_getElem?_getD]
 ·intro i j hi hj
  simp only [List.getElem_map] at hj ⊢
  have hi' : i < xs.length := by simpa using hi
  have hj0 : j = 0 := by
   have : j < 1 := hj
   omega
  subst hj0
  rw [List.getD_eq_getElem?_getD, List.getElem?_eq_getElem hi']
  exact VRel.str ⟨xs[i].toArray⟩
theorem acalls_newStrs {P : Program} {f : FuncId} {args : List PV} {H : Heap} {xs : List (List UInt8)} {t : TypeId} (hm : xs.length ≤ maxLen)
  (h : ∀ (E : Env) (vargs : Array Value), E.Ok → E.H = H → RL E.view vargs args → Calls P f vargs E.w fun e w' => e = .returned (.slice (some ⟨E.w.heap.size, 0, none⟩) xs.length xs.length) ∧ w' = E.w.alloc (.cells (xs.map fun l => Value.string ⟨l.toArray⟩).toArray t (0, 0))) :
  ACalls P f args H fun r' H' => r' = .slice (xs.map PV.str) .none ∧ H' = H := by
 intro E vargs ho hH hrl
 refine (h E vargs ho hH hrl).mono ?_
 rintro e w' ⟨rfl, rfl⟩
 exact ⟨E.newFixed _, _, _, rfl, rfl, Env.newFixed_le ho _, ho.newFixed _, vrel_newStrs ho xs t hm, rfl, hH⟩
end Go.Abs
namespace Go.Abs
open Go.Proofs Go.RowKit
def spT : List Value := (List.range 256).map fun c => .int .u8 (if Lib.isSp (UInt8.ofNat c) then 1 else 0)
def gO : AObj := .glob (Tryz.lays157_ren.g 0) spT
def GC : Heap := [gO]
theorem rl_one {V : View} {vargs : Array Value} {p : PV} (h : RL V vargs [p]) : ∃ v0, vargs = #[v0] ∧ VRel V v0 p := by
 obtain ⟨hsz, hr⟩ := h
 have h0 := hr 0 (by simp)
 simp only [List.getElem_cons_zero] at h0
 have hs : vargs.size = 1 := by simpa using hsz
 rw [Array.getD_eq_getD_getElem?, Array.getElem?_eq_getElem (by omega)] at h0
 refine ⟨vargs[0], ?_, h0⟩
 apply Array.ext <;> simp [hs]; intro i hi; subst hi; rfl
theorem fields_c (s : List UInt8) (hs : s.length < 4294967281) (ha : ∀ b ∈ s, b.toNat < 128) (hf : (Lib.fields s).length ≤ maxLen) {H : Heap} (hG : H[0]? = some gO) : ACalls Tryz.prog 80 [.str s] H fun r' H' => r' = .slice ((Lib.fields s).map PV.str) .none ∧ H' = H := by
 refine acalls_newStrs (t := 9) hf fun E vargs ho hH hrl => ?_
 obtain ⟨v0, rfl, h0⟩ := rl_one hrl
 cases h0 with
 | str z =>
  have hg := hG
  rw [← hH] at hg
  refine Any.strings_Fields_core Tryz.lays157 (by kernel_rfl) z E.w (by rw [Lib.size_eq]; exact hs) (fun j b hb => ha b (List.mem_of_getElem? hb)) fun c hc => ?_
  have hl : c < spT.length := by simpa [spT] using hc
  rw [glob_cell ho hg hl]
  simp [spT]
end Go.Abs
namespace Go.Abs
open Go.Proofs Go.RowKit
abbrev G0 : Heap := GC
theorem fieldsG_c (s : List UInt8) (hs : s.length < 4294967281) (ha : ∀ b ∈ s, b.toNat < 128) (hf : (Lib.fields s).length ≤ maxLen) : PG G0 Tryz.prog 80 [.str s] (.slice ((Lib.fields s).map PV.str) .none) := fun H hG => fields_c s hs ha hf (hG 0 _ rfl)
end Go.Abs
namespace Go.Abs
open Go.Proofs
theorem keywords_c_f : Lib.fields [117, 115, 101, 32, 112, 117, 98, 32, 97, 115, 32, 102, 110, 32, 115, 116, 114, 117, 99, 116, 32, 101, 110, 117, 109, 32, 116, 114, 97, 105, 116, 32, 105, 109, 112, 108, 32, 102, 111, 114, 32, 99, 111, 110, 115, 116, 32, 109, 97, 99, 114, 111, 32, 108, 101, 116, 32, 109, 117, 116, 32, 119, 104, 105, 108, 101, 32, 114, 101, 116, 117, 114, 110, 32, 109, 97, 116, 99, 104, 32, 105, 102, 32, 101, 108, 115, 101, 32, 110, 101, 119, 32, 116, 114, 117, 101, 32, 102, 97, 108, 115, 101, 32, 116, 121, 112, 101] = kwL := by kernel_rfl
theorem keywords_c : PG G0 Tryz.prog 51 [] (.slice (kwL.map PV.str) .none) := by
 have hk := fieldsG_c [117, 115, 101, 32, 112, 117, 98, 32, 97, 115, 32, 102, 110, 32, 115, 116, 114, 117, 99, 116, 32, 101, 110, 117, 109, 32, 116, 114, 97, 105, 116, 32, 105, 109, 112, 108, 32, 102, 111, 114, 32, 99, 111, 110, 115, 116, 32, 109, 97, 99, 114, 111, 32, 108, 101, 116, 32, 109, 117, 116, 32, 119, 104, 105, 108, 101, 32, 114, 101, 116, 117, 114, 110, 32, 109, 97, 116, 99, 104, 32, 105, 102, 32, 101, 108, 115, 101, 32, 110, 101, 119, 32, 116, 114, 117, 101, 32, 102, 97, 108, 115, 101, 32, 116, 121, 112, 101] (by decide) (by decide) (by rw [keywords_c_f]; decide)
 rw [keywords_c_f] at hk
 refine pg_of (N := 2) Tryz.func51 rfl rfl (by simp) (bel_strs0 _ _) fun H hG hb' => ?_
 refine qE0 ?_
 repeat refine wS ?_
 refine wR ?_
 refine oP (by simp only [kC, seval, vint, qC] <;> rfl) (by simp only [kC, seval, vint, qC]) (by decide) zgo80 (hk _ hG) ?_
 refine qX0 ?_
 repeat refine wS ?_
 refine wT ⟨.inr rfl, _, _, rfl, ?_, (by first | exact (List.append_nil _).symm | rfl)⟩
 simp only [jN, seval, vint, qC]
 try rfl
theorem two_c_f : Lib.fields [58, 58, 32, 61, 62, 32, 45, 62, 32, 61, 61, 32, 38, 38, 32, 124, 124] = twoL := by kernel_rfl
theorem two_c : PG G0 Tryz.prog 53 [] (.slice (twoL.map PV.str) .none) := by
 have hk := fieldsG_c [58, 58, 32, 61, 62, 32, 45, 62, 32, 61, 61, 32, 38, 38, 32, 124, 124] (by decide) (by decide) (by rw [two_c_f]; decide)
 rw [two_c_f] at hk
 refine pg_of (N := 2) Tryz.func53 rfl rfl (by simp) (bel_strs0 _ _) fun H hG hb' => ?_
 refine qE0 ?_
 repeat refine wS ?_
 refine wR ?_
 refine oP (by simp only [kC, seval, vint, qC] <;> rfl) (by simp only [kC, seval, vint, qC]) (by decide) zgo80 (hk _ hG) ?_
 refine qX0 ?_
 repeat refine wS ?_
 refine wT ⟨.inr rfl, _, _, rfl, ?_, (by first | exact (List.append_nil _).symm | rfl)⟩
 simp only [jN, seval, vint, qC]
 try rfl
end Go.Abs
namespace Go.Abs
open Go.Proofs
def punL : List (List UInt8) := [[58, 58], [61, 62], [45, 62], [61, 61], [38, 38], [124, 124], [40], [41], [123], [125], [91], [93], [60], [62], [44], [59], [58], [46], [61], [43], [45], [42], [47], [33], [38], [124]]
theorem kwR_c : PC Tryz.prog 37 [] (.slice (kwL.map PV.str) .none) := by
 refine pc_of (N := 2) Tryz.func37 rfl rfl (by simp) (by simp [Bel.int, Bel.str]) (bel_strs0 _ _) ?_
 refine qE0 ?_
 refine qE (a2 y9 y72) ?_
 repeat refine wS ?_
 refine wT ⟨.inr rfl, _, rfl, ?_⟩
 simp only [jN, seval, vint, qC]
 try kernel_rfl
theorem punR_c : PC Tryz.prog 39 [] (.slice (punL.map PV.str) .none) := by
 refine pc_of (N := 2) Tryz.func39 rfl rfl (by simp) (by simp [Bel.int, Bel.str]) (bel_strs0 _ _) ?_
 refine qE0 ?_
 refine qE (a2 y9 y72) ?_
 repeat refine wS ?_
 refine wT ⟨.inr rfl, _, rfl, ?_⟩
 simp only [jN, seval, vint, qC]
 try kernel_rfl
end Go.Abs
namespace Go.Abs
open Go.Proofs
theorem indexByte_nonneg : ∀ (l : List UInt8) (c : UInt8), decide (Lib.indexByte l c ≥ 0) = l.contains c
 | [], c => by simp [Lib.indexByte]
 | b :: l, c => by
  have ih := indexByte_nonneg l c
  have hge := Lib.indexByte_ge l c
  rw [List.contains_cons, ← ih, Lib.indexByte]
  by_cases h : b = c
  ·subst h; simp
  ·have h1 : (b == c) = false := by simpa using h
   have h2 : (c == b) = false := by simpa using fun e => h e.symm
   rw [h1, h2]
   simp only [Bool.false_eq_true, if_false, Bool.false_or]
   by_cases h3 : Lib.indexByte l c = -1
   ·simp [h3]
   ·have : (Lib.indexByte l c == -1) = false := by simpa using h3
    rw [this]
    simp only [Bool.false_eq_true, if_false, decide_eq_decide]
    omega
theorem isSp_contains (c : UInt8) : [32, 9, 10, 13].contains c = isSpB c := by
 rw [Bool.eq_iff_iff]
 simp [isSpB, or_assoc]
theorem isSpace_c (c : UInt8) : PC Tryz.prog 43 [.int .u8 c.toNat] (.bool (isSpB c)) := by
 have hk := indexByte_c [32, 9, 10, 13] c
 have hn := indexByte_nonneg [32, 9, 10, 13] c
 rw [isSp_contains] at hn
 refine pc_of (N := 6) Tryz.func43 rfl rfl (by simp) (by simp [Bel.int, Bel.str]) (.bool _) ?_
 refine qE0 ?_
 refine qT0 1 ?_
 refine qP0 zgo54 (hk _) ?_
 refine qX y3 ?_
 repeat refine wS ?_
 refine wT ⟨.inr rfl, _, rfl, ?_⟩
 simp only [jN, seval, vint, qC, hn]
 try rfl
end Go.Abs
namespace Go.Abs
open Go.Proofs
theorem litO_step {s : List UInt8} {i : Nat} (h : i < s.length) : litO (s.drop i) = if s[i] = 10 then none else if s[i] = 34 then some 1 else
  if s[i] = 92 ∧ (s.drop (i + 1)).head?.getD 10 ≠ 10 then (litO (s.drop (i + 2))).map (· + 2) else (litO (s.drop (i + 1))).map (· + 1) := by
 rw [List.drop_eq_getElem_cons h]
 obtain ⟨c, hc⟩ : ∃ c, s[i] = c := ⟨_, rfl⟩
 rw [hc]
 by_cases h2 : i + 1 < s.length
 ·have e2 : s.drop (i + 1) = s[i + 1] :: s.drop (i + 2) := List.drop_eq_getElem_cons h2
  rw [e2, litO]
  rfl
 ·have e2 : s.drop (i + 1) = [] := List.drop_eq_nil_of_le (by omega)
  have e3 : s.drop (i + 2) = [] := List.drop_eq_nil_of_le (by omega)
  rw [e2, e3, litO]
  by_cases h10 : c = 10
  ·subst h10; simp [litO]
  ·simp [h10, litO]
def strT (s : List UInt8) : Nat × Int := match litG false (s.drop 1) with | some k => (k + 1, 106) | none => (1 + runL notNl (s.drop 1), 108)
theorem scanStr_c (s : List UInt8) (hs : s.length ≤ maxLen) (h1 : 1 ≤ s.length) : PC Tryz.prog 52 [.str s] (.tup [vint ((strT s).1 : Int), vint (strT s).2]) := by
 have em : maxLen = 9223372036854775807 := by decide
 have hsc := scan_c s hs notNl 81 zgo81 scan1 1 h1
 refine pc_of (N := 47) Tryz.func52 rfl rfl (by simp) (by simp [Bel.int, Bel.str]) (.tup _ (by simp [Bel.int])) ?_
 refine qE0 ?_
 refine qE0 ?_
 refine qB ?_
 refine awp_loopS (σ := Nat) (fun (i : Nat) => [(0, .str s), (4, vint (i : Int))]) ([]) (fun (i : Nat) => []) (fun (i : Nat) => s.length - i) (fun (i : Nat) => 1 ≤ i ∧ i ≤ s.length ∧ litG false (s.drop 1) = (litO (s.drop i)).map (· + (i - 1))) (1) ([]) ⟨(by first | rfl | (simp only [jN, seval, vint, qC] <;> first | done | with_reducible rfl)), (by first | rfl | (simp only [jN, seval, vint, qC] <;> first | done | with_reducible rfl)), trivial⟩ (by first | rfl | (simp only [jN, seval, vint, qC] <;> first | done | with_reducible rfl)) (⟨by omega, h1, by rw [litO_eq]; simp⟩) (fun _ _ => by first | exact Nat.zero_le _ | (simp only [List.length_append]; omega)) ?_ ?_
 ·exact fun i hg => ⟨by simp only [List.nil_append]; exact hbel_nil _, xR⟩
 ·intro i hg
  obtain ⟨hq1, hq2, hq3⟩ := hg
  have hcs : i < s.length ∨ i = s.length := by omega
  rcases hcs with hi | hi
  ·-- case
   have g1 := ix_nat hi
   have hd := litO_step hi
   obtain ⟨c, hc⟩ : ∃ c, s[i] = c := ⟨_, rfl⟩
   rw [hc] at hd
   have g2 : s[i]? = some c := by rw [List.getElem?_eq_getElem hi, hc]
   have w1 : IntKind.i64.wrap ((i : Int) + 1) = ((i + 1 : Nat) : Int) := by rw [wrap_id (by omega) (by omega)]; omega
   have f1 : ((i : Int) < s.length) = True := by simp; omega
   have f0 : ((0 : Int) ≤ (i : Int)) = True := by simp
   have e10 : decide ((c.toNat : Int) = 10) = (c == 10) := u8_eq c 10 (by decide)
   have e34 : decide ((c.toNat : Int) = 34) = (c == 34) := u8_eq c 34 (by decide)
   have e92 : decide ((c.toNat : Int) = 92) = (c == 92) := u8_eq c 92 (by decide)
   repeat refine wS ?_
   refine g_eval (by simp only [jG, jO, jN, seval, y3, y5, y9, vint, qC, f1, f0, g1, g2, w1, e10, e34, e92, decide_true, tN] <;> with_reducible rfl) (by decide) (by repeat (first | exact Fin.base _ | with_reducible apply Fin.keep | apply Fin.drop)) ?_
   repeat refine wS ?_
   refine wC rfl (by simp only [jN, seval, vint, qC, f1, f0, g1, g2, w1, e10, e34, e92, decide_true, tN] <;> with_reducible rfl) (fun bt14 => ?_) (fun bt14 => ?_)
   ·-- if t14
    have h10 : ¬ c = 10 := by simpa using bt14
    rw [if_neg h10] at hd
    refine qK ?_
    refine qB ?_
    refine qB ?_
    repeat refine wS ?_
    refine eE (by simp only [kA, seval, y5, y9, vint, qC, f1, f0, g1, g2, w1, e10, e34, e92, decide_true, tN] <;> with_reducible rfl) (by decide) ?_
    repeat refine wS ?_
    refine wC rfl (by simp only [jN, seval, vint, qC, f1, f0, g1, g2, w1, e10, e34, e92, decide_true, tN] <;> with_reducible rfl) (fun bt17 => ?_) (fun bt17 => ?_)
    ·-- if t17
     have h34 : c = 34 := by simpa using bt17
     have hv : strT s = (i + 1, 106) := by unfold strT; rw [hq3, hd, if_pos h34]; simp; omega
     refine wL [0, 4] (by simp only [jN, seval, vint, qC, f1, f0, g1, g2, w1, e10, e34, e92, decide_true, tN] <;> with_reducible rfl) ?_
     repeat refine wS ?_
     refine eE (by simp only [kA, seval, y3, vint, qC, f1, f0, g1, g2, w1, e10, e34, e92, decide_true, tN] <;> with_reducible rfl) (by decide) ?_
     repeat refine wS ?_
     refine wT ⟨.inr rfl, _, (ares_two (.tmp 2) (.tmp 3) rfl (ares_tmp1 (by decide)) (ares_tmp1 (by decide))), ?_⟩
     simp only [jN, seval, vint, qC, hv]
     try rfl
    ·-- else t17
     have h34 : ¬ c = 34 := by simpa using bt17
     rw [if_neg h34] at hd
     have hcd : c = 92 ∧ i + 1 < s.length ∨ ¬ c = 92 ∨ (c = 92 ∧ ¬ i + 1 < s.length) := by by_cases h : c = 92 <;> simp [h] <;> omega
     refine wL [0, 4] (by simp only [jN, seval, vint, qC, f1, f0, g1, g2, w1, e10, e34, e92, decide_true, tN] <;> with_reducible rfl) ?_
     rcases hcd with hk | hk | hk
     ·-- case
      obtain ⟨hk1, hk2⟩ := hk
      have k92 : (c == 92) = true := by simpa using hk1
      have k1 : (((i + 1 : Nat) : Int) < s.length) = True := by simp; omega
      have k0 : ((0 : Int) ≤ ((i + 1 : Nat) : Int)) = True := by simp; omega
      obtain ⟨d, hdd⟩ : ∃ d, s[i + 1] = d := ⟨_, rfl⟩
      have k2 : s[i + 1]? = some d := by rw [List.getElem?_eq_getElem hk2, hdd]
      have d10 : decide ((d.toNat : Int) = 10) = (d == 10) := u8_eq d 10 (by decide)
      have hh : (s.drop (i + 1)).head?.getD 10 = d := by rw [List.drop_eq_getElem_cons hk2, hdd]; rfl
      have w2 : IntKind.i64.wrap (((i + 1 : Nat) : Int) + 1) = ((i + 2 : Nat) : Int) := by rw [wrap_id (by omega) (by omega)]; omega
      rw [hh] at hd
      repeat refine wS ?_
      refine g_eval (by simp only [jG, jO, jN, seval, y3, y5, y9, vint, qC, f1, f0, g1, g2, w1, e10, e34, e92, decide_true, tN, k92, k1, k0, k2, d10, w2] <;> with_reducible rfl) (by decide) (by repeat (first | exact Fin.base _ | with_reducible apply Fin.keep | apply Fin.drop)) ?_
      repeat refine wS ?_
      refine wC rfl (by simp only [jN, seval, vint, qC, f1, f0, g1, g2, w1, e10, e34, e92, decide_true, tN, k92, k1, k0, k2, d10, w2] <;> with_reducible rfl) (fun bt24 => ?_) (fun bt24 => ?_)
      ·-- if t24
       have hd10 : ¬ d = 10 := by simpa using bt24
       rw [if_pos ⟨hk1, hd10⟩] at hd
       refine wL [0, 4] (by simp only [jN, seval, vint, qC, f1, f0, g1, g2, w1, e10, e34, e92, decide_true, tN, k92, k1, k0, k2, d10, w2] <;> with_reducible rfl) ?_
       repeat refine wS ?_
       refine eE (by simp only [kA, seval, y3, vint, qC, f1, f0, g1, g2, w1, e10, e34, e92, decide_true, tN, k92, k1, k0, k2, d10, w2] <;> with_reducible rfl) (by decide) ?_
       repeat refine wS ?_
       refine eE (by simp only [kA, seval, y3, vint, qC, f1, f0, g1, g2, w1, e10, e34, e92, decide_true, tN, k92, k1, k0, k2, d10, w2] <;> with_reducible rfl) (by decide) ?_
       try simp only [thenQ, blockQ]
       exact ⟨i + 2, _, by show s.length - (i + 2) < s.length - i; omega, ⟨rfl, rfl, trivial⟩, by simp only [jN, seval, vint, qC] <;> rfl, by omega, by omega, by rw [hq3, hd, Option.map_map]; congr 1; funext x; simp; omega⟩
      ·-- else t24
       have hd10 : d = 10 := by simpa using bt24
       rw [if_neg (fun q => q.2 hd10)] at hd
       refine qK ?_
       refine wL [0, 4] (by simp only [jN, seval, vint, qC, f1, f0, g1, g2, w1, e10, e34, e92, decide_true, tN, k92, k1, k0, k2, d10, w2] <;> with_reducible rfl) ?_
       repeat refine wS ?_
       refine eE (by simp only [kA, seval, y3, vint, qC, f1, f0, g1, g2, w1, e10, e34, e92, decide_true, tN, k92, k1, k0, k2, d10, w2] <;> with_reducible rfl) (by decide) ?_
       try simp only [thenQ, blockQ]
       exact ⟨i + 1, _, by show s.length - (i + 1) < s.length - i; omega, ⟨rfl, rfl, trivial⟩, by simp only [jN, seval, vint, qC] <;> rfl, by omega, by omega, by rw [hq3, hd, Option.map_map]; congr 1; funext x; simp; omega⟩
     ·-- case
      have k92 : (c == 92) = false := by simpa using hk
      rw [if_neg (fun q => hk q.1)] at hd
      repeat refine wS ?_
      refine wR ?_
      refine aops_gstart ?_
      refine g_take 15 (by simp only [jG, jO, jN, seval, y3, y5, y9, vint, qC, f1, f0, g1, g2, w1, e10, e34, e92, decide_true, tN, k92] <;> with_reducible rfl) (by decide) ?_
      refine aops_gskip (r := .tup []) (by simp only [kE, seval, vint, qC, f1, f0, g1, g2, w1, e10, e34, e92, decide_true, tN, k92] <;> with_reducible rfl) ?_
      refine aops_gskip (r := .tup []) (by simp only [kE, seval, vint, qC, f1, f0, g1, g2, w1, e10, e34, e92, decide_true, tN, k92] <;> with_reducible rfl) ?_
      refine g_end (by simp only [jG, jO, jN, seval, vint, qC, f1, f0, g1, g2, w1, e10, e34, e92, decide_true, tN, k92] <;> with_reducible rfl) (by decide) (by repeat (first | exact Fin.base _ | with_reducible apply Fin.keep | apply Fin.drop)) ?_
      repeat refine wS ?_
      refine wF rfl (by simp only [jN, seval, vint, qC, f1, f0, g1, g2, w1, e10, e34, e92, decide_true, tN, k92] <;> with_reducible rfl) ?_
      refine qK ?_
      refine wL [0, 4] (by simp only [jN, seval, vint, qC, f1, f0, g1, g2, w1, e10, e34, e92, decide_true, tN, k92] <;> with_reducible rfl) ?_
      repeat refine wS ?_
      refine eE (by simp only [kA, seval, y3, vint, qC, f1, f0, g1, g2, w1, e10, e34, e92, decide_true, tN, k92] <;> with_reducible rfl) (by decide) ?_
      try simp only [thenQ, blockQ]
      exact ⟨i + 1, _, by show s.length - (i + 1) < s.length - i; omega, ⟨rfl, rfl, trivial⟩, by simp only [jN, seval, vint, qC] <;> rfl, by omega, by omega, by rw [hq3, hd, Option.map_map]; congr 1; funext x; simp; omega⟩
     ·-- case
      obtain ⟨hk1, hk2⟩ := hk
      have k92 : (c == 92) = true := by simpa using hk1
      have k1 : (((i + 1 : Nat) : Int) < s.length) = False := by simp; omega
      have hh : s.drop (i + 1) = [] := List.drop_eq_nil_of_le (by omega)
      rw [if_neg (by rw [hh]; simp)] at hd
      repeat refine wS ?_
      refine wR ?_
      refine aops_gstart ?_
      refine g_take 15 (by simp only [jG, jO, jN, seval, y3, y5, y9, vint, qC, f1, f0, g1, g2, w1, e10, e34, e92, decide_true, tN, k92, k1, decide_false] <;> with_reducible rfl) (by decide) ?_
      refine aops_gskip (r := .tup []) (by simp only [kE, seval, vint, qC, f1, f0, g1, g2, w1, e10, e34, e92, decide_true, tN, k92, k1, decide_false] <;> with_reducible rfl) ?_
      refine aops_gskip (r := .tup []) (by simp only [kE, seval, vint, qC, f1, f0, g1, g2, w1, e10, e34, e92, decide_true, tN, k92, k1, decide_false] <;> with_reducible rfl) ?_
      refine g_end (by simp only [jG, jO, jN, seval, vint, qC, f1, f0, g1, g2, w1, e10, e34, e92, decide_true, tN, k92, k1, decide_false] <;> with_reducible rfl) (by decide) (by repeat (first | exact Fin.base _ | with_reducible apply Fin.keep | apply Fin.drop)) ?_
      repeat refine wS ?_
      refine wF rfl (by simp only [jN, seval, vint, qC, f1, f0, g1, g2, w1, e10, e34, e92, decide_true, tN, k92, k1, decide_false] <;> with_reducible rfl) ?_
      refine qK ?_
      refine wL [0, 4] (by simp only [jN, seval, vint, qC, f1, f0, g1, g2, w1, e10, e34, e92, decide_true, tN, k92, k1, decide_false] <;> with_reducible rfl) ?_
      repeat refine wS ?_
      refine eE (by simp only [kA, seval, y3, vint, qC, f1, f0, g1, g2, w1, e10, e34, e92, decide_true, tN, k92, k1, decide_false] <;> with_reducible rfl) (by decide) ?_
      try simp only [thenQ, blockQ]
      exact ⟨i + 1, _, by show s.length - (i + 1) < s.length - i; omega, ⟨rfl, rfl, trivial⟩, by simp only [jN, seval, vint, qC] <;> rfl, by omega, by omega, by rw [hq3, hd, Option.map_map]; congr 1; funext x; simp; omega⟩
   ·-- else t14
    have h10 : c = 10 := by simpa using bt14
    have hv : strT s = (1 + runL notNl (s.drop 1), 108) := by unfold strT; rw [hq3, hd, if_pos h10]; rfl
    repeat refine wS ?_
    refine awp_exit ?_
    simp only [thenQ, blockQ, reduceIte, Nat.reduceEqDiff, Nat.succ_ne_self, if_true, if_false]
    repeat refine wS ?_
    refine wR ?_
    refine eT 1 (by simp only [kA, seval, vint, qC, f1, f0, g1, g2, w1, e10, e34, e92, decide_true, tN] <;> with_reducible rfl) (by decide) ?_
    refine oP (by simp only [kC, seval, vint, qC, f1, f0, g1, g2, w1, e10, e34, e92, decide_true, tN] <;> with_reducible rfl) (by simp only [kC, seval, vint, qC, f1, f0, g1, g2, w1, e10, e34, e92, decide_true, tN]) (by decide) zgo44 (hsc _) ?_
    refine e_end (by simp only [kA, seval, vint, qC, f1, f0, g1, g2, w1, e10, e34, e92, decide_true, tN] <;> with_reducible rfl) (by decide) ?_
    repeat refine wS ?_
    refine wT ⟨.inr rfl, _, (ares_two (.tmp 2) (.tmp 3) rfl (ares_tmp1 (by decide)) (ares_tmp1 (by decide))), ?_⟩
    simp only [jN, seval, vint, qC, hv]
    try rfl
  ·-- case
   have f1 : ((i : Int) < s.length) = False := by simp; omega
   have hv : strT s = (1 + runL notNl (s.drop 1), 108) := by unfold strT; rw [hq3, hi, List.drop_length]; rfl
   repeat refine wS ?_
   refine wR ?_
   refine aops_gstart ?_
   refine gT 7 (a4 y3 y9 f1 decide_false) ?_
   refine gS (a2 f1 decide_false) ?_
   refine gS (a2 f1 decide_false) ?_
   refine gX (a2 f1 decide_false) ?_
   refine qF (a2 f1 decide_false) ?_
   repeat refine wS ?_
   refine awp_exit ?_
   simp only [thenQ, blockQ, reduceIte, Nat.reduceEqDiff, Nat.succ_ne_self, if_true, if_false]
   refine qT 1 (a2 f1 decide_false) ?_
   refine qP (a2 f1 decide_false) zgo44 (hsc _) ?_
   refine qX (a2 f1 decide_false) ?_
   repeat refine wS ?_
   refine wT ⟨.inr rfl, _, (ares_two (.tmp 2) (.tmp 3) rfl (ares_tmp1 (by decide)) (ares_tmp1 (by decide))), ?_⟩
   simp only [jN, seval, vint, qC, hv]
   try rfl
end Go.Abs
