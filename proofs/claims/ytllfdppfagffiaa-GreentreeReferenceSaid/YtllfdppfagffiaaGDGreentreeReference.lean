/- Part 4 of a proof of the law GreentreeReference: Go data as trees, the walks of the functions that the law reaches, the plain laws. -/
import Derived.Test.YtllfdppfagffiaaGCGreentreeReference
import Derived.Test.YtllfdppfagffiaaProg
import Derived.KernelRfl
set_option linter.unusedVariables false
set_option linter.unusedSimpArgs false
namespace Go.Abs
open Go.Proofs
theorem Tryti2 : tinfo Try.prog 2 = some ⟨false, 1, 8⟩ := by kernel_rfl
theorem Trytz2 : tzero Try.prog 2 = some (.int .i64 0) := by kernel_rfl
theorem Trytp2 : tptr Try.prog 2 = false := by kernel_rfl
theorem Trytk2 : tint Try.prog 2 = some .i64 := by kernel_rfl
theorem Tryti3 : tinfo Try.prog 3 = some ⟨false, 1, 8⟩ := by kernel_rfl
theorem Trytz3 : tzero Try.prog 3 = some (.int .i64 0) := by kernel_rfl
theorem Trytp3 : tptr Try.prog 3 = false := by kernel_rfl
theorem Trytk3 : tint Try.prog 3 = some .i64 := by kernel_rfl
theorem Tryti4 : tinfo Try.prog 4 = some ⟨false, 1, 1⟩ := by kernel_rfl
theorem Trytz4 : tzero Try.prog 4 = some (.bool false) := by kernel_rfl
theorem Trytp4 : tptr Try.prog 4 = false := by kernel_rfl
theorem Trytb4 : tbool Try.prog 4 = true := by kernel_rfl
theorem Tryti5 : tinfo Try.prog 5 = some ⟨false, 1, 1⟩ := by kernel_rfl
theorem Trytz5 : tzero Try.prog 5 = some (.int .u8 0) := by kernel_rfl
theorem Trytp5 : tptr Try.prog 5 = false := by kernel_rfl
theorem Trytk5 : tint Try.prog 5 = some .u8 := by kernel_rfl
theorem Tryti6 : tinfo Try.prog 6 = some ⟨false, 1, 1⟩ := by kernel_rfl
theorem Trytz6 : tzero Try.prog 6 = some (.int .u8 0) := by kernel_rfl
theorem Trytp6 : tptr Try.prog 6 = false := by kernel_rfl
theorem Trytk6 : tint Try.prog 6 = some .u8 := by kernel_rfl
theorem Tryti7 : tinfo Try.prog 7 = some ⟨true, 4, 24⟩ := by kernel_rfl
theorem Trytf7 : tflds Try.prog 7 = some [(0, ⟨false, 1, 8⟩), (1, ⟨false, 1, 8⟩), (2, ⟨false, 1, 1⟩), (3, ⟨false, 1, 1⟩)] := by kernel_rfl
theorem Trytz7 : tzero Try.prog 7 = some (.agg [.int .i64 0, .int .i64 0, .bool false, .int .u8 0]) := by kernel_rfl
theorem Trytp7 : tptr Try.prog 7 = false := by kernel_rfl
theorem Tryti8 : tinfo Try.prog 8 = some ⟨true, 4, 24⟩ := by kernel_rfl
theorem Trytf8 : tflds Try.prog 8 = some [(0, ⟨false, 1, 8⟩), (1, ⟨false, 1, 8⟩), (2, ⟨false, 1, 1⟩), (3, ⟨false, 1, 1⟩)] := by kernel_rfl
theorem Trytz8 : tzero Try.prog 8 = some (.agg [.int .i64 0, .int .i64 0, .bool false, .int .u8 0]) := by kernel_rfl
theorem Trytp8 : tptr Try.prog 8 = false := by kernel_rfl
theorem Tryti9 : tinfo Try.prog 9 = some ⟨false, 1, 16⟩ := by kernel_rfl
theorem Trytz9 : tzero Try.prog 9 = some (.str []) := by kernel_rfl
theorem Trytp9 : tptr Try.prog 9 = false := by kernel_rfl
theorem Tryts9 : tstr Try.prog 9 = true := by kernel_rfl
theorem Tryti10 : tinfo Try.prog 10 = some ⟨false, 1, 16⟩ := by kernel_rfl
theorem Trytz10 : tzero Try.prog 10 = some (.str []) := by kernel_rfl
theorem Trytp10 : tptr Try.prog 10 = false := by kernel_rfl
theorem Tryts10 : tstr Try.prog 10 = true := by kernel_rfl
theorem Tryti11 : tinfo Try.prog 11 = some ⟨false, 1, 16⟩ := by kernel_rfl
theorem Trytz11 : tzero Try.prog 11 = some (.str []) := by kernel_rfl
theorem Trytp11 : tptr Try.prog 11 = false := by kernel_rfl
theorem Tryts11 : tstr Try.prog 11 = true := by kernel_rfl
theorem Tryti12 : tinfo Try.prog 12 = some ⟨false, 1, 8⟩ := by kernel_rfl
theorem Trytz12 : tzero Try.prog 12 = some (.int .u64 0) := by kernel_rfl
theorem Trytp12 : tptr Try.prog 12 = false := by kernel_rfl
theorem Trytk12 : tint Try.prog 12 = some .u64 := by kernel_rfl
theorem Tryti13 : tinfo Try.prog 13 = some ⟨true, 2, 24⟩ := by kernel_rfl
theorem Trytf13 : tflds Try.prog 13 = some [(0, ⟨false, 1, 16⟩), (1, ⟨false, 1, 8⟩)] := by kernel_rfl
theorem Trytz13 : tzero Try.prog 13 = some (.agg [.str [], .int .u64 0]) := by kernel_rfl
theorem Trytp13 : tptr Try.prog 13 = false := by kernel_rfl
theorem Tryti14 : tinfo Try.prog 14 = some ⟨true, 2, 24⟩ := by kernel_rfl
theorem Trytf14 : tflds Try.prog 14 = some [(0, ⟨false, 1, 16⟩), (1, ⟨false, 1, 8⟩)] := by kernel_rfl
theorem Trytz14 : tzero Try.prog 14 = some (.agg [.str [], .int .u64 0]) := by kernel_rfl
theorem Trytp14 : tptr Try.prog 14 = false := by kernel_rfl
theorem Tryti15 : tinfo Try.prog 15 = some ⟨false, 1, 8⟩ := by kernel_rfl
theorem Trytz15 : tzero Try.prog 15 = some (.nilp) := by kernel_rfl
theorem Trytp15 : tptr Try.prog 15 = true := by kernel_rfl
theorem Tryti16 : tinfo Try.prog 16 = some ⟨false, 1, 8⟩ := by kernel_rfl
theorem Trytz16 : tzero Try.prog 16 = some (.nilp) := by kernel_rfl
theorem Trytp16 : tptr Try.prog 16 = true := by kernel_rfl
theorem Tryti17 : tinfo Try.prog 17 = some ⟨false, 1, 8⟩ := by kernel_rfl
theorem Trytz17 : tzero Try.prog 17 = some (.nilp) := by kernel_rfl
theorem Trytp17 : tptr Try.prog 17 = true := by kernel_rfl
theorem Tryti18 : tinfo Try.prog 18 = some ⟨true, 1, 8⟩ := by kernel_rfl
theorem Trytf18 : tflds Try.prog 18 = some [(0, ⟨false, 1, 8⟩)] := by kernel_rfl
theorem Trytz18 : tzero Try.prog 18 = some (.agg [.nilp]) := by kernel_rfl
theorem Trytp18 : tptr Try.prog 18 = false := by kernel_rfl
theorem Tryti19 : tinfo Try.prog 19 = some ⟨true, 1, 8⟩ := by kernel_rfl
theorem Trytf19 : tflds Try.prog 19 = some [(0, ⟨false, 1, 8⟩)] := by kernel_rfl
theorem Trytz19 : tzero Try.prog 19 = some (.agg [.nilp]) := by kernel_rfl
theorem Trytp19 : tptr Try.prog 19 = false := by kernel_rfl
theorem Tryti21 : tinfo Try.prog 21 = some ⟨false, 1, 4⟩ := by kernel_rfl
theorem Trytz21 : tzero Try.prog 21 = some (.int .i32 0) := by kernel_rfl
theorem Trytp21 : tptr Try.prog 21 = false := by kernel_rfl
theorem Trytk21 : tint Try.prog 21 = some .i32 := by kernel_rfl
theorem Tryti22 : tinfo Try.prog 22 = some ⟨false, 1, 24⟩ := by kernel_rfl
theorem Tryte22 : telem Try.prog 22 = some (48, ⟨true, 4, 56⟩) := by kernel_rfl
theorem Trytz22 : tzero Try.prog 22 = some (.slice [] .full) := by kernel_rfl
theorem Trytp22 : tptr Try.prog 22 = false := by kernel_rfl
theorem Tryti23 : tinfo Try.prog 23 = some ⟨true, 1, 24⟩ := by kernel_rfl
theorem Trytf23 : tflds Try.prog 23 = some [(0, ⟨false, 1, 24⟩)] := by kernel_rfl
theorem Trytz23 : tzero Try.prog 23 = some (.agg [.slice [] .full]) := by kernel_rfl
theorem Trytp23 : tptr Try.prog 23 = false := by kernel_rfl
theorem Tryti24 : tinfo Try.prog 24 = some ⟨true, 1, 24⟩ := by kernel_rfl
theorem Trytf24 : tflds Try.prog 24 = some [(0, ⟨false, 1, 24⟩)] := by kernel_rfl
theorem Trytz24 : tzero Try.prog 24 = some (.agg [.slice [] .full]) := by kernel_rfl
theorem Trytp24 : tptr Try.prog 24 = false := by kernel_rfl
theorem Tryti25 : tinfo Try.prog 25 = some ⟨false, 1, 24⟩ := by kernel_rfl
theorem Tryte25 : telem Try.prog 25 = some (27, ⟨true, 3, 48⟩) := by kernel_rfl
theorem Trytz25 : tzero Try.prog 25 = some (.slice [] .full) := by kernel_rfl
theorem Trytp25 : tptr Try.prog 25 = false := by kernel_rfl
theorem Tryti26 : tinfo Try.prog 26 = some ⟨true, 3, 48⟩ := by kernel_rfl
theorem Trytf26 : tflds Try.prog 26 = some [(0, ⟨false, 1, 8⟩), (1, ⟨false, 1, 16⟩), (2, ⟨false, 1, 24⟩)] := by kernel_rfl
theorem Trytz26 : tzero Try.prog 26 = some (.agg [.int .i64 0, .str [], .slice [] .full]) := by kernel_rfl
theorem Trytp26 : tptr Try.prog 26 = false := by kernel_rfl
theorem Tryti27 : tinfo Try.prog 27 = some ⟨true, 3, 48⟩ := by kernel_rfl
theorem Trytf27 : tflds Try.prog 27 = some [(0, ⟨false, 1, 8⟩), (1, ⟨false, 1, 16⟩), (2, ⟨false, 1, 24⟩)] := by kernel_rfl
theorem Trytz27 : tzero Try.prog 27 = some (.agg [.int .i64 0, .str [], .slice [] .full]) := by kernel_rfl
theorem Trytp27 : tptr Try.prog 27 = false := by kernel_rfl
theorem Tryti31 : tinfo Try.prog 31 = some ⟨false, 1, 8⟩ := by kernel_rfl
theorem Trytz31 : tzero Try.prog 31 = some (.int .i64 0) := by kernel_rfl
theorem Trytp31 : tptr Try.prog 31 = false := by kernel_rfl
theorem Trytk31 : tint Try.prog 31 = some .i64 := by kernel_rfl
theorem Tryti46 : tinfo Try.prog 46 = some ⟨false, 1, 24⟩ := by kernel_rfl
theorem Tryte46 : telem Try.prog 46 = some (3, ⟨false, 1, 8⟩) := by kernel_rfl
theorem Trytz46 : tzero Try.prog 46 = some (.slice [] .full) := by kernel_rfl
theorem Trytp46 : tptr Try.prog 46 = false := by kernel_rfl
theorem Tryti47 : tinfo Try.prog 47 = some ⟨true, 4, 56⟩ := by kernel_rfl
theorem Trytf47 : tflds Try.prog 47 = some [(0, ⟨false, 1, 8⟩), (1, ⟨false, 1, 8⟩), (2, ⟨false, 1, 16⟩), (3, ⟨false, 1, 24⟩)] := by kernel_rfl
theorem Trytz47 : tzero Try.prog 47 = some (.agg [.int .i64 0, .int .i64 0, .str [], .slice [] .full]) := by kernel_rfl
theorem Trytp47 : tptr Try.prog 47 = false := by kernel_rfl
theorem Tryti48 : tinfo Try.prog 48 = some ⟨true, 4, 56⟩ := by kernel_rfl
theorem Trytf48 : tflds Try.prog 48 = some [(0, ⟨false, 1, 8⟩), (1, ⟨false, 1, 8⟩), (2, ⟨false, 1, 16⟩), (3, ⟨false, 1, 24⟩)] := by kernel_rfl
theorem Trytz48 : tzero Try.prog 48 = some (.agg [.int .i64 0, .int .i64 0, .str [], .slice [] .full]) := by kernel_rfl
theorem Trytp48 : tptr Try.prog 48 = false := by kernel_rfl
theorem Tryti52 : tinfo Try.prog 52 = some ⟨false, 1, 8⟩ := by kernel_rfl
theorem Trytz52 : tzero Try.prog 52 = some (.nilp) := by kernel_rfl
theorem Trytp52 : tptr Try.prog 52 = true := by kernel_rfl
theorem Tryti55 : tinfo Try.prog 55 = some ⟨false, 1, 8⟩ := by kernel_rfl
theorem Trytz55 : tzero Try.prog 55 = some (.nilp) := by kernel_rfl
theorem Trytp55 : tptr Try.prog 55 = true := by kernel_rfl
theorem Tryti66 : tinfo Try.prog 66 = some ⟨true, 4, 40⟩ := by kernel_rfl
theorem Trytf66 : tflds Try.prog 66 = some [(0, ⟨false, 1, 8⟩), (1, ⟨false, 1, 8⟩), (2, ⟨false, 1, 8⟩), (3, ⟨false, 1, 16⟩)] := by kernel_rfl
theorem Trytz66 : tzero Try.prog 66 = some (.agg [.nilp, .nilp, .nilp, .str []]) := by kernel_rfl
theorem Trytp66 : tptr Try.prog 66 = false := by kernel_rfl
theorem Tryti67 : tinfo Try.prog 67 = some ⟨true, 4, 40⟩ := by kernel_rfl
theorem Trytf67 : tflds Try.prog 67 = some [(0, ⟨false, 1, 8⟩), (1, ⟨false, 1, 8⟩), (2, ⟨false, 1, 8⟩), (3, ⟨false, 1, 16⟩)] := by kernel_rfl
theorem Trytz67 : tzero Try.prog 67 = some (.agg [.nilp, .nilp, .nilp, .str []]) := by kernel_rfl
theorem Trytp67 : tptr Try.prog 67 = false := by kernel_rfl
theorem Tryti69 : tinfo Try.prog 69 = some ⟨true, 0, 0⟩ := by kernel_rfl
theorem Trytf69 : tflds Try.prog 69 = some [(0, ⟨true, 0, 0⟩)] := by kernel_rfl
theorem Trytz69 : tzero Try.prog 69 = some (.agg []) := by kernel_rfl
theorem Trytp69 : tptr Try.prog 69 = false := by kernel_rfl
theorem Tryti70 : tinfo Try.prog 70 = some ⟨true, 0, 0⟩ := by kernel_rfl
theorem Trytf70 : tflds Try.prog 70 = some [(0, ⟨true, 0, 0⟩)] := by kernel_rfl
theorem Trytz70 : tzero Try.prog 70 = some (.agg []) := by kernel_rfl
theorem Trytp70 : tptr Try.prog 70 = false := by kernel_rfl
theorem Tryti72 : tinfo Try.prog 72 = some ⟨false, 1, 4⟩ := by kernel_rfl
theorem Trytz72 : tzero Try.prog 72 = some (.int .u32 0) := by kernel_rfl
theorem Trytp72 : tptr Try.prog 72 = false := by kernel_rfl
theorem Trytk72 : tint Try.prog 72 = some .u32 := by kernel_rfl
theorem Tryti73 : tinfo Try.prog 73 = some ⟨false, 1, 1⟩ := by kernel_rfl
theorem Trytz73 : tzero Try.prog 73 = some (.int .u8 0) := by kernel_rfl
theorem Trytp73 : tptr Try.prog 73 = false := by kernel_rfl
theorem Trytk73 : tint Try.prog 73 = some .u8 := by kernel_rfl
theorem Tryti74 : tinfo Try.prog 74 = some ⟨false, 1, 1⟩ := by kernel_rfl
theorem Trytz74 : tzero Try.prog 74 = some (.int .u8 0) := by kernel_rfl
theorem Trytp74 : tptr Try.prog 74 = false := by kernel_rfl
theorem Trytk74 : tint Try.prog 74 = some .u8 := by kernel_rfl
theorem Tryti76 : tinfo Try.prog 76 = some ⟨false, 1, 8⟩ := by kernel_rfl
theorem Trytz76 : tzero Try.prog 76 = some (.nilp) := by kernel_rfl
theorem Trytp76 : tptr Try.prog 76 = true := by kernel_rfl
theorem Tryti77 : tinfo Try.prog 77 = some ⟨false, 1, 4⟩ := by kernel_rfl
theorem Trytz77 : tzero Try.prog 77 = some (.int .i32 0) := by kernel_rfl
theorem Trytp77 : tptr Try.prog 77 = false := by kernel_rfl
theorem Trytk77 : tint Try.prog 77 = some .i32 := by kernel_rfl
theorem Tryti78 : tinfo Try.prog 78 = some ⟨false, 1, 4⟩ := by kernel_rfl
theorem Trytz78 : tzero Try.prog 78 = some (.int .i32 0) := by kernel_rfl
theorem Trytp78 : tptr Try.prog 78 = false := by kernel_rfl
theorem Trytk78 : tint Try.prog 78 = some .i32 := by kernel_rfl
theorem Tryti79 : tinfo Try.prog 79 = some ⟨true, 11, 48⟩ := by kernel_rfl
theorem Trytf79 : tflds Try.prog 79 = some [(0, ⟨false, 1, 8⟩), (1, ⟨false, 1, 8⟩), (2, ⟨false, 1, 4⟩), (3, ⟨false, 1, 1⟩), (4, ⟨false, 1, 1⟩), (5, ⟨false, 1, 1⟩), (6, ⟨false, 1, 1⟩), (7, ⟨false, 1, 8⟩), (8, ⟨false, 1, 8⟩), (9, ⟨false, 1, 4⟩), (10, ⟨false, 1, 4⟩)] := by kernel_rfl
theorem Trytz79 : tzero Try.prog 79 = some (.agg [.int .u64 0, .int .u64 0, .int .u32 0, .int .u8 0, .int .u8 0, .int .u8 0, .int .u8 0, .nilfn, .nilp, .int .i32 0, .int .i32 0]) := by kernel_rfl
theorem Trytp79 : tptr Try.prog 79 = false := by kernel_rfl
theorem Tryti80 : tinfo Try.prog 80 = some ⟨true, 11, 48⟩ := by kernel_rfl
theorem Trytf80 : tflds Try.prog 80 = some [(0, ⟨false, 1, 8⟩), (1, ⟨false, 1, 8⟩), (2, ⟨false, 1, 4⟩), (3, ⟨false, 1, 1⟩), (4, ⟨false, 1, 1⟩), (5, ⟨false, 1, 1⟩), (6, ⟨false, 1, 1⟩), (7, ⟨false, 1, 8⟩), (8, ⟨false, 1, 8⟩), (9, ⟨false, 1, 4⟩), (10, ⟨false, 1, 4⟩)] := by kernel_rfl
theorem Trytz80 : tzero Try.prog 80 = some (.agg [.int .u64 0, .int .u64 0, .int .u32 0, .int .u8 0, .int .u8 0, .int .u8 0, .int .u8 0, .nilfn, .nilp, .int .i32 0, .int .i32 0]) := by kernel_rfl
theorem Trytp80 : tptr Try.prog 80 = false := by kernel_rfl
theorem Trygo3 : goFn Try.prog 3 = true := by kernel_rfl
theorem Trygo4 : goFn Try.prog 4 = true := by kernel_rfl
theorem Trygo5 : goFn Try.prog 5 = true := by kernel_rfl
theorem Trygo6 : goFn Try.prog 6 = true := by kernel_rfl
theorem Trygo7 : goFn Try.prog 7 = true := by kernel_rfl
theorem Trygo8 : goFn Try.prog 8 = true := by kernel_rfl
theorem Trygo9 : goFn Try.prog 9 = true := by kernel_rfl
theorem Trygo10 : goFn Try.prog 10 = true := by kernel_rfl
theorem Trygo11 : goFn Try.prog 11 = true := by kernel_rfl
theorem Trygo12 : goFn Try.prog 12 = true := by kernel_rfl
theorem Trygo13 : goFn Try.prog 13 = true := by kernel_rfl
theorem Trygo14 : goFn Try.prog 14 = true := by kernel_rfl
theorem Trygo15 : goFn Try.prog 15 = true := by kernel_rfl
theorem Trygo16 : goFn Try.prog 16 = true := by kernel_rfl
theorem Trygo17 : goFn Try.prog 17 = true := by kernel_rfl
theorem Trygo18 : goFn Try.prog 18 = true := by kernel_rfl
theorem Trygo19 : goFn Try.prog 19 = true := by kernel_rfl
theorem Trygo20 : goFn Try.prog 20 = true := by kernel_rfl
theorem Trygo21 : goFn Try.prog 21 = true := by kernel_rfl
theorem Trygo22 : goFn Try.prog 22 = true := by kernel_rfl
theorem Trygo23 : goFn Try.prog 23 = true := by kernel_rfl
theorem Trygo24 : goFn Try.prog 24 = true := by kernel_rfl
theorem Trygo25 : goFn Try.prog 25 = true := by kernel_rfl
theorem Trygo26 : goFn Try.prog 26 = true := by kernel_rfl
theorem Trygo27 : goFn Try.prog 27 = true := by kernel_rfl
theorem Trygo28 : goFn Try.prog 28 = true := by kernel_rfl
theorem Trygo29 : goFn Try.prog 29 = true := by kernel_rfl
theorem Trygo30 : goFn Try.prog 30 = true := by kernel_rfl
theorem Trygo31 : goFn Try.prog 31 = true := by kernel_rfl
theorem Trygo32 : goFn Try.prog 32 = true := by kernel_rfl
theorem Trygo33 : goFn Try.prog 33 = true := by kernel_rfl
theorem Trygo34 : goFn Try.prog 34 = true := by kernel_rfl
theorem Trygo35 : goFn Try.prog 35 = true := by kernel_rfl
theorem Trygo36 : goFn Try.prog 36 = true := by kernel_rfl
theorem Trygo37 : goFn Try.prog 37 = true := by kernel_rfl
theorem Trygo38 : goFn Try.prog 38 = true := by kernel_rfl
theorem y2 : type_of% (And.intro @Tryti2 (And.intro @Trytz2 (And.intro @Trytp2 (@Trytk2)))) := And.intro @Tryti2 (And.intro @Trytz2 (And.intro @Trytp2 (@Trytk2)))
theorem y3 : type_of% (And.intro @Tryti3 (And.intro @Trytz3 (And.intro @Trytp3 (@Trytk3)))) := And.intro @Tryti3 (And.intro @Trytz3 (And.intro @Trytp3 (@Trytk3)))
theorem y4 : type_of% (And.intro @Tryti4 (And.intro @Trytz4 (And.intro @Trytp4 (@Trytb4)))) := And.intro @Tryti4 (And.intro @Trytz4 (And.intro @Trytp4 (@Trytb4)))
theorem y5 : type_of% (And.intro @Tryti5 (And.intro @Trytz5 (And.intro @Trytp5 (@Trytk5)))) := And.intro @Tryti5 (And.intro @Trytz5 (And.intro @Trytp5 (@Trytk5)))
theorem y6 : type_of% (And.intro @Tryti6 (And.intro @Trytz6 (And.intro @Trytp6 (@Trytk6)))) := And.intro @Tryti6 (And.intro @Trytz6 (And.intro @Trytp6 (@Trytk6)))
theorem y7 : type_of% (And.intro @Tryti7 (And.intro @Trytf7 (And.intro @Trytz7 (@Trytp7)))) := And.intro @Tryti7 (And.intro @Trytf7 (And.intro @Trytz7 (@Trytp7)))
theorem y8 : type_of% (And.intro @Tryti8 (And.intro @Trytf8 (And.intro @Trytz8 (@Trytp8)))) := And.intro @Tryti8 (And.intro @Trytf8 (And.intro @Trytz8 (@Trytp8)))
theorem y9 : type_of% (And.intro @Tryti9 (And.intro @Trytz9 (And.intro @Trytp9 (@Tryts9)))) := And.intro @Tryti9 (And.intro @Trytz9 (And.intro @Trytp9 (@Tryts9)))
theorem y10 : type_of% (And.intro @Tryti10 (And.intro @Trytz10 (And.intro @Trytp10 (@Tryts10)))) := And.intro @Tryti10 (And.intro @Trytz10 (And.intro @Trytp10 (@Tryts10)))
theorem y11 : type_of% (And.intro @Tryti11 (And.intro @Trytz11 (And.intro @Trytp11 (@Tryts11)))) := And.intro @Tryti11 (And.intro @Trytz11 (And.intro @Trytp11 (@Tryts11)))
theorem y12 : type_of% (And.intro @Tryti12 (And.intro @Trytz12 (And.intro @Trytp12 (@Trytk12)))) := And.intro @Tryti12 (And.intro @Trytz12 (And.intro @Trytp12 (@Trytk12)))
theorem y13 : type_of% (And.intro @Tryti13 (And.intro @Trytf13 (And.intro @Trytz13 (@Trytp13)))) := And.intro @Tryti13 (And.intro @Trytf13 (And.intro @Trytz13 (@Trytp13)))
theorem y14 : type_of% (And.intro @Tryti14 (And.intro @Trytf14 (And.intro @Trytz14 (@Trytp14)))) := And.intro @Tryti14 (And.intro @Trytf14 (And.intro @Trytz14 (@Trytp14)))
theorem y15 : type_of% (And.intro @Tryti15 (And.intro @Trytz15 (@Trytp15))) := And.intro @Tryti15 (And.intro @Trytz15 (@Trytp15))
theorem y16 : type_of% (And.intro @Tryti16 (And.intro @Trytz16 (@Trytp16))) := And.intro @Tryti16 (And.intro @Trytz16 (@Trytp16))
theorem y17 : type_of% (And.intro @Tryti17 (And.intro @Trytz17 (@Trytp17))) := And.intro @Tryti17 (And.intro @Trytz17 (@Trytp17))
theorem y18 : type_of% (And.intro @Tryti18 (And.intro @Trytf18 (And.intro @Trytz18 (@Trytp18)))) := And.intro @Tryti18 (And.intro @Trytf18 (And.intro @Trytz18 (@Trytp18)))
theorem y19 : type_of% (And.intro @Tryti19 (And.intro @Trytf19 (And.intro @Trytz19 (@Trytp19)))) := And.intro @Tryti19 (And.intro @Trytf19 (And.intro @Trytz19 (@Trytp19)))
theorem y21 : type_of% (And.intro @Tryti21 (And.intro @Trytz21 (And.intro @Trytp21 (@Trytk21)))) := And.intro @Tryti21 (And.intro @Trytz21 (And.intro @Trytp21 (@Trytk21)))
theorem y22 : type_of% (And.intro @Tryti22 (And.intro @Tryte22 (And.intro @Trytz22 (@Trytp22)))) := And.intro @Tryti22 (And.intro @Tryte22 (And.intro @Trytz22 (@Trytp22)))
theorem y23 : type_of% (And.intro @Tryti23 (And.intro @Trytf23 (And.intro @Trytz23 (@Trytp23)))) := And.intro @Tryti23 (And.intro @Trytf23 (And.intro @Trytz23 (@Trytp23)))
theorem y24 : type_of% (And.intro @Tryti24 (And.intro @Trytf24 (And.intro @Trytz24 (@Trytp24)))) := And.intro @Tryti24 (And.intro @Trytf24 (And.intro @Trytz24 (@Trytp24)))
theorem y25 : type_of% (And.intro @Tryti25 (And.intro @Tryte25 (And.intro @Trytz25 (@Trytp25)))) := And.intro @Tryti25 (And.intro @Tryte25 (And.intro @Trytz25 (@Trytp25)))
theorem y26 : type_of% (And.intro @Tryti26 (And.intro @Trytf26 (And.intro @Trytz26 (@Trytp26)))) := And.intro @Tryti26 (And.intro @Trytf26 (And.intro @Trytz26 (@Trytp26)))
theorem y27 : type_of% (And.intro @Tryti27 (And.intro @Trytf27 (And.intro @Trytz27 (@Trytp27)))) := And.intro @Tryti27 (And.intro @Trytf27 (And.intro @Trytz27 (@Trytp27)))
theorem y31 : type_of% (And.intro @Tryti31 (And.intro @Trytz31 (And.intro @Trytp31 (@Trytk31)))) := And.intro @Tryti31 (And.intro @Trytz31 (And.intro @Trytp31 (@Trytk31)))
theorem y46 : type_of% (And.intro @Tryti46 (And.intro @Tryte46 (And.intro @Trytz46 (@Trytp46)))) := And.intro @Tryti46 (And.intro @Tryte46 (And.intro @Trytz46 (@Trytp46)))
theorem y47 : type_of% (And.intro @Tryti47 (And.intro @Trytf47 (And.intro @Trytz47 (@Trytp47)))) := And.intro @Tryti47 (And.intro @Trytf47 (And.intro @Trytz47 (@Trytp47)))
theorem y48 : type_of% (And.intro @Tryti48 (And.intro @Trytf48 (And.intro @Trytz48 (@Trytp48)))) := And.intro @Tryti48 (And.intro @Trytf48 (And.intro @Trytz48 (@Trytp48)))
theorem y52 : type_of% (And.intro @Tryti52 (And.intro @Trytz52 (@Trytp52))) := And.intro @Tryti52 (And.intro @Trytz52 (@Trytp52))
theorem y55 : type_of% (And.intro @Tryti55 (And.intro @Trytz55 (@Trytp55))) := And.intro @Tryti55 (And.intro @Trytz55 (@Trytp55))
theorem y66 : type_of% (And.intro @Tryti66 (And.intro @Trytf66 (And.intro @Trytz66 (@Trytp66)))) := And.intro @Tryti66 (And.intro @Trytf66 (And.intro @Trytz66 (@Trytp66)))
theorem y67 : type_of% (And.intro @Tryti67 (And.intro @Trytf67 (And.intro @Trytz67 (@Trytp67)))) := And.intro @Tryti67 (And.intro @Trytf67 (And.intro @Trytz67 (@Trytp67)))
theorem y69 : type_of% (And.intro @Tryti69 (And.intro @Trytf69 (And.intro @Trytz69 (@Trytp69)))) := And.intro @Tryti69 (And.intro @Trytf69 (And.intro @Trytz69 (@Trytp69)))
theorem y70 : type_of% (And.intro @Tryti70 (And.intro @Trytf70 (And.intro @Trytz70 (@Trytp70)))) := And.intro @Tryti70 (And.intro @Trytf70 (And.intro @Trytz70 (@Trytp70)))
theorem y72 : type_of% (And.intro @Tryti72 (And.intro @Trytz72 (And.intro @Trytp72 (@Trytk72)))) := And.intro @Tryti72 (And.intro @Trytz72 (And.intro @Trytp72 (@Trytk72)))
theorem y73 : type_of% (And.intro @Tryti73 (And.intro @Trytz73 (And.intro @Trytp73 (@Trytk73)))) := And.intro @Tryti73 (And.intro @Trytz73 (And.intro @Trytp73 (@Trytk73)))
theorem y74 : type_of% (And.intro @Tryti74 (And.intro @Trytz74 (And.intro @Trytp74 (@Trytk74)))) := And.intro @Tryti74 (And.intro @Trytz74 (And.intro @Trytp74 (@Trytk74)))
theorem y76 : type_of% (And.intro @Tryti76 (And.intro @Trytz76 (@Trytp76))) := And.intro @Tryti76 (And.intro @Trytz76 (@Trytp76))
theorem y77 : type_of% (And.intro @Tryti77 (And.intro @Trytz77 (And.intro @Trytp77 (@Trytk77)))) := And.intro @Tryti77 (And.intro @Trytz77 (And.intro @Trytp77 (@Trytk77)))
theorem y78 : type_of% (And.intro @Tryti78 (And.intro @Trytz78 (And.intro @Trytp78 (@Trytk78)))) := And.intro @Tryti78 (And.intro @Trytz78 (And.intro @Trytp78 (@Trytk78)))
theorem y79 : type_of% (And.intro @Tryti79 (And.intro @Trytf79 (And.intro @Trytz79 (@Trytp79)))) := And.intro @Tryti79 (And.intro @Trytf79 (And.intro @Trytz79 (@Trytp79)))
theorem y80 : type_of% (And.intro @Tryti80 (And.intro @Trytf80 (And.intro @Trytz80 (@Trytp80)))) := And.intro @Tryti80 (And.intro @Trytf80 (And.intro @Trytz80 (@Trytp80)))
end Go.Abs
set_option maxRecDepth 4000
namespace Go.Abs
open Go.Proofs

theorem indexFuncGn {f : FuncId} {caps : List PV} {H : Heap} {us : List Gn} {p : Gn → Bool} (hc : CloB Try.prog Gn.enc f caps H us p) (hl : us.length ≤ maxLen) : ACalls Try.prog 35 [.slice (us.map Gn.enc) .none, .fn (.func f) [] caps] H fun r' H' => r' = vint (idxI p us) ∧ H' = H := by
  have hgo := hc.go
  refine keeps_of (N := 19) Try.func35 rfl rfl (by simp) (.int _ _) fun hb' => ?_
  repeat (refine awp_seq ?_)
  refine e_eval (by simp only [jA, jO, jN, seval, vint, qF] <;> with_reducible rfl) (by decide) ?_
  repeat (refine awp_seq ?_)
  refine e_eval (by simp only [jA, jO, jN, seval, y22, y48, vint, qF] <;> with_reducible rfl) (by decide) ?_
  repeat (refine awp_seq ?_)
  refine awp_forS (σ := Unit) (us.length) (fun (s : Unit) => [(0, .slice (us.map Gn.enc) .none), (1, .fn (.func f) [] caps)]) [0, 1] (H) (fun (s : Unit) => []) (fun (i : Nat) (s : Unit) => (us.take i).any p = false) (()) ([]) rfl rfl rfl rfl rfl rfl rfl rfl rfl (by decide) (by decide) (by decide) (fun _ => rfl) (hl) ⟨(by first | rfl | (simp only [jN, seval, vint, qF] <;> first | done | with_reducible rfl)), (by first | rfl | (simp only [jN, seval, vint, qF] <;> first | done | with_reducible rfl)), (by first | rfl | (simp only [jN, seval, vint, qF] <;> first | done | with_reducible rfl)), (by first | rfl | (simp only [jN, seval, vint, qF] <;> first | done | with_reducible rfl)), trivial⟩ (by first | rfl | (simp only [jN, seval, vint, qF] <;> first | done | with_reducible rfl)) (by simp) (fun _ _ _ => by first | exact Nat.zero_le _ | (simp only [List.length_append]; omega)) ?_ ?_ ?_
  · exact fun i s hg => ⟨by simp only [List.append_nil]; exact hb', .cons (bel_Gn _ _) (.cons (.fn _ _ _ (by simp) (fun c hc' => (hc.bel c hc').mono (by simp))) .nil)⟩
  · intro i s hi hg
    have g1 := ix_nat hi
    have g2 := get_enc Gn.enc hi
    repeat (refine awp_seq ?_)
    refine e_eval (by simp only [jA, jO, jN, seval, vint, qF, g1, Int.toNat_natCast, g2] <;> with_reducible rfl) (by decide) ?_
    repeat (refine awp_seq ?_)
    refine awp_region ?_
    refine e_take 5 (by simp only [jA, jO, jN, seval, y22, y48, vint, qF, g1, Int.toNat_natCast, g2] <;> with_reducible rfl) (by decide) ?_
    refine aops_pure (by simp only [jC, jN, seval, vint, qF, g1, Int.toNat_natCast, g2] <;> with_reducible rfl) (by simp only [jC, jN, seval, vint, qF, g1, Int.toNat_natCast, g2]) (by decide) (by assumption) (hc.call _ (List.getElem_mem hi)) ?_
    refine aops_nil ?_
    repeat (refine awp_seq ?_)
    refine awp_cond rfl (by simp only [jN, seval, vint, qF, g1, Int.toNat_natCast, g2] <;> with_reducible rfl) (fun b0 => ?_) (fun b0 => ?_)
    ·
      repeat (refine awp_seq ?_)
      refine e_eval (by simp only [jA, jO, jN, seval, vint, qF, g1, Int.toNat_natCast, g2] <;> with_reducible rfl) (by decide) ?_
      repeat (refine awp_seq ?_)
      refine awp_ret ⟨.inr rfl, _, _, rfl, ?_, (by first | exact (List.append_nil _).symm | rfl)⟩
      rw [idxI_at hi b0 hg]; rfl
    ·
      repeat (refine awp_seq ?_)
      refine awp_skip ?_
      exact ⟨⟨rfl, rfl, trivial⟩, (), [], ⟨rfl, rfl, trivial⟩, by simp only [List.append_nil], any_take_succ hi hg b0⟩
  · intro s hg
    rw [List.take_length] at hg
    repeat (refine awp_seq ?_)
    refine e_eval (by simp only [jA, jO, jN, seval, vint, qF] <;> with_reducible rfl) (by decide) ?_
    repeat (refine awp_seq ?_)
    refine awp_ret ⟨.inr rfl, _, _, rfl, ?_, (by first | exact (List.append_nil _).symm | rfl)⟩
    rw [idxI_none hg]; rfl

theorem containsFuncGn {f : FuncId} {caps : List PV} {H : Heap} {us : List Gn} {p : Gn → Bool} (hc : CloB Try.prog Gn.enc f caps H us p) (hl : us.length ≤ maxLen) : ACalls Try.prog 27 [.slice (us.map Gn.enc) .none, .fn (.func f) [] caps] H fun r' H' => r' = .bool (us.any p) ∧ H' = H := by
  refine keeps_of (N := 9) Try.func27 rfl rfl (by simp) (.bool _) fun hb' => ?_
  repeat (refine awp_seq ?_)
  refine e_eval (by simp only [jA, jO, jN, seval, vint, qF] <;> with_reducible rfl) (by decide) ?_
  repeat (refine awp_seq ?_)
  refine awp_region ?_
  refine e_take 2 (by simp only [jA, jO, jN, seval, vint, qF] <;> with_reducible rfl) (by decide) ?_
  refine aops_pure (by simp only [jC, jN, seval, vint, qF] <;> with_reducible rfl) (by simp only [jC, jN, seval, vint, qF]) (by decide) Trygo35 (indexFuncGn hc hl) ?_
  refine e_end (by simp only [jA, jO, jN, seval, y3, vint, qF] <;> with_reducible rfl) (by decide) ?_
  repeat (refine awp_seq ?_)
  refine awp_ret ⟨.inr rfl, _, _, rfl, ?_, (by first | exact (List.append_nil _).symm | rfl)⟩
  rw [← idxI_nonneg]; rfl

theorem indexFuncSt {f : FuncId} {caps : List PV} {H : Heap} {us : List St} {p : St → Bool} (hc : CloB Try.prog St.enc f caps H us p) (hl : us.length ≤ maxLen) : ACalls Try.prog 38 [.slice (us.map St.enc) .none, .fn (.func f) [] caps] H fun r' H' => r' = vint (idxI p us) ∧ H' = H := by
  have hgo := hc.go
  refine keeps_of (N := 19) Try.func38 rfl rfl (by simp) (.int _ _) fun hb' => ?_
  repeat (refine awp_seq ?_)
  refine e_eval (by simp only [jA, jO, jN, seval, vint, qF] <;> with_reducible rfl) (by decide) ?_
  repeat (refine awp_seq ?_)
  refine e_eval (by simp only [jA, jO, jN, seval, y25, y27, vint, qF] <;> with_reducible rfl) (by decide) ?_
  repeat (refine awp_seq ?_)
  refine awp_forS (σ := Unit) (us.length) (fun (s : Unit) => [(0, .slice (us.map St.enc) .none), (1, .fn (.func f) [] caps)]) [0, 1] (H) (fun (s : Unit) => []) (fun (i : Nat) (s : Unit) => (us.take i).any p = false) (()) ([]) rfl rfl rfl rfl rfl rfl rfl rfl rfl (by decide) (by decide) (by decide) (fun _ => rfl) (hl) ⟨(by first | rfl | (simp only [jN, seval, vint, qF] <;> first | done | with_reducible rfl)), (by first | rfl | (simp only [jN, seval, vint, qF] <;> first | done | with_reducible rfl)), (by first | rfl | (simp only [jN, seval, vint, qF] <;> first | done | with_reducible rfl)), (by first | rfl | (simp only [jN, seval, vint, qF] <;> first | done | with_reducible rfl)), trivial⟩ (by first | rfl | (simp only [jN, seval, vint, qF] <;> first | done | with_reducible rfl)) (by simp) (fun _ _ _ => by first | exact Nat.zero_le _ | (simp only [List.length_append]; omega)) ?_ ?_ ?_
  · exact fun i s hg => ⟨by simp only [List.append_nil]; exact hb', .cons (bel_St _ _) (.cons (.fn _ _ _ (by simp) (fun c hc' => (hc.bel c hc').mono (by simp))) .nil)⟩
  · intro i s hi hg
    have g1 := ix_nat hi
    have g2 := get_enc St.enc hi
    repeat (refine awp_seq ?_)
    refine e_eval (by simp only [jA, jO, jN, seval, vint, qF, g1, Int.toNat_natCast, g2] <;> with_reducible rfl) (by decide) ?_
    repeat (refine awp_seq ?_)
    refine awp_region ?_
    refine e_take 5 (by simp only [jA, jO, jN, seval, y25, y27, vint, qF, g1, Int.toNat_natCast, g2] <;> with_reducible rfl) (by decide) ?_
    refine aops_pure (by simp only [jC, jN, seval, vint, qF, g1, Int.toNat_natCast, g2] <;> with_reducible rfl) (by simp only [jC, jN, seval, vint, qF, g1, Int.toNat_natCast, g2]) (by decide) (by assumption) (hc.call _ (List.getElem_mem hi)) ?_
    refine aops_nil ?_
    repeat (refine awp_seq ?_)
    refine awp_cond rfl (by simp only [jN, seval, vint, qF, g1, Int.toNat_natCast, g2] <;> with_reducible rfl) (fun b0 => ?_) (fun b0 => ?_)
    ·
      repeat (refine awp_seq ?_)
      refine e_eval (by simp only [jA, jO, jN, seval, vint, qF, g1, Int.toNat_natCast, g2] <;> with_reducible rfl) (by decide) ?_
      repeat (refine awp_seq ?_)
      refine awp_ret ⟨.inr rfl, _, _, rfl, ?_, (by first | exact (List.append_nil _).symm | rfl)⟩
      rw [idxI_at hi b0 hg]; rfl
    ·
      repeat (refine awp_seq ?_)
      refine awp_skip ?_
      exact ⟨⟨rfl, rfl, trivial⟩, (), [], ⟨rfl, rfl, trivial⟩, by simp only [List.append_nil], any_take_succ hi hg b0⟩
  · intro s hg
    rw [List.take_length] at hg
    repeat (refine awp_seq ?_)
    refine e_eval (by simp only [jA, jO, jN, seval, vint, qF] <;> with_reducible rfl) (by decide) ?_
    repeat (refine awp_seq ?_)
    refine awp_ret ⟨.inr rfl, _, _, rfl, ?_, (by first | exact (List.append_nil _).symm | rfl)⟩
    rw [idxI_none hg]; rfl

theorem containsFuncSt {f : FuncId} {caps : List PV} {H : Heap} {us : List St} {p : St → Bool} (hc : CloB Try.prog St.enc f caps H us p) (hl : us.length ≤ maxLen) : ACalls Try.prog 30 [.slice (us.map St.enc) .none, .fn (.func f) [] caps] H fun r' H' => r' = .bool (us.any p) ∧ H' = H := by
  refine keeps_of (N := 9) Try.func30 rfl rfl (by simp) (.bool _) fun hb' => ?_
  repeat (refine awp_seq ?_)
  refine e_eval (by simp only [jA, jO, jN, seval, vint, qF] <;> with_reducible rfl) (by decide) ?_
  repeat (refine awp_seq ?_)
  refine awp_region ?_
  refine e_take 2 (by simp only [jA, jO, jN, seval, vint, qF] <;> with_reducible rfl) (by decide) ?_
  refine aops_pure (by simp only [jC, jN, seval, vint, qF] <;> with_reducible rfl) (by simp only [jC, jN, seval, vint, qF]) (by decide) Trygo38 (indexFuncSt hc hl) ?_
  refine e_end (by simp only [jA, jO, jN, seval, y3, vint, qF] <;> with_reducible rfl) (by decide) ?_
  repeat (refine awp_seq ?_)
  refine awp_ret ⟨.inr rfl, _, _, rfl, ?_, (by first | exact (List.append_nil _).symm | rfl)⟩
  rw [← idxI_nonneg]; rfl

theorem equalInt (us vs : List Int) (ha : us.length ≤ maxLen) : PC Try.prog 37 [.slice (us.map vint) .none, .slice (vs.map vint) .none] (.bool (decide (us = vs))) := by
  refine pc_of (N := 26) Try.func37 rfl rfl (by simp) (by simp [St.bel, Gn.bel, Ga.bel, bel_St, bel_Gn, bel_ints0, Bel.int]) (.bool _) ?_
  repeat (refine awp_seq ?_)
  refine e_eval (by simp only [jA, jO, jN, seval, vint, qF] <;> with_reducible rfl) (by decide) ?_
  repeat (refine awp_seq ?_)
  refine e_eval (by simp only [jA, jO, jN, seval, y3, y46, vint, qF] <;> with_reducible rfl) (by decide) ?_
  repeat (refine awp_seq ?_)
  refine awp_cond rfl (by simp only [jN, seval, vint, qF] <;> with_reducible rfl) (fun bt10 => ?_) (fun bt10 => ?_)
  ·
    have hl : ¬ us.length = vs.length := by simp at bt10; omega
    have hf : decide (us = vs) = false := decide_eq_false fun h => hl (by rw [h])
    repeat (refine awp_seq ?_)
    refine e_eval (by simp only [jA, jO, jN, seval, vint, qF] <;> with_reducible rfl) (by decide) ?_
    repeat (refine awp_seq ?_)
    refine awp_ret ⟨.inr rfl, _, rfl, ?_⟩
    simp only [jN, seval, vint, qF, hf]
  ·
    have hl : us.length = vs.length := by simp at bt10; omega
    repeat (refine awp_seq ?_)
    refine awp_skip ?_
    repeat (refine awp_seq ?_)
    refine e_eval (by simp only [jA, jO, jN, seval, y3, y46, vint, qF] <;> with_reducible rfl) (by decide) ?_
    repeat (refine awp_seq ?_)
    refine awp_forS (σ := Unit) (us.length) (fun (u_ : Unit) => [(0, .slice (us.map vint) .none), (1, .slice (vs.map vint) .none)]) [0, 1] ([]) (fun (u_ : Unit) => []) (fun (i : Nat) (u_ : Unit) => ∀ j (h1 : j < i) (h2 : j < us.length) (h3 : j < vs.length), us[j] = vs[j]) (()) ([]) rfl rfl rfl rfl rfl rfl rfl rfl rfl (by decide) (by decide) (by decide) (fun _ => rfl) (ha) ⟨(by first | rfl | (simp only [jN, seval, vint, qF] <;> first | done | with_reducible rfl)), (by first | rfl | (simp only [jN, seval, vint, qF] <;> first | done | with_reducible rfl)), (by first | rfl | (simp only [jN, seval, vint, qF] <;> first | done | with_reducible rfl)), (by first | rfl | (simp only [jN, seval, vint, qF] <;> first | done | with_reducible rfl)), trivial⟩ (by first | rfl | (simp only [jN, seval, vint, qF] <;> first | done | with_reducible rfl)) (fun j h => absurd h (by omega)) (fun _ _ _ => by first | exact Nat.zero_le _ | (simp only [List.length_append]; omega)) ?_ ?_ ?_
    · exact fun i s hg => ⟨by first | exact hbel_nil _ | (simp only [List.append_nil]; assumption) | (refine hbel_app' hb' (by simp) ?_; repeat (first | exact hbel_nil _ | exact trivial | exact obel_row_nil _ | (refine HBel.cons ?_ ?_) | (refine obel_row_cons (by first | exact bel_ints0 _ _ | exact bel_St _ _ | exact St.bel _ _ | exact bel_Gn _ _ | exact Gn.bel _ _ | exact Ga.bel _ _ | exact bel_Gn_tok _ (by simp) | exact bel_St_tok _ (by simp) | exact bel_int_tok _ (by simp) | exact bel_nil0 _ | exact bel_nil1 _ | exact Bel.int _ _ | exact Bel.bool _ | exact Bel.str _ | exact Bel.nilp | exact Bel.nilfn | exact Bel.optr _ _ (by simp) | exact bel_nil0 _ | exact bel_nil1 _ | exact bel_fn0 _ _ | assumption) ?_))), by repeat (first | exact BelL.nil | refine BelL.cons (by first | exact bel_ints0 _ _ | exact bel_St _ _ | exact St.bel _ _ | exact bel_Gn _ _ | exact Gn.bel _ _ | exact Ga.bel _ _ | exact bel_Gn_tok _ (by simp) | exact bel_St_tok _ (by simp) | exact bel_int_tok _ (by simp) | exact bel_nil0 _ | exact bel_nil1 _ | exact Bel.int _ _ | exact Bel.bool _ | exact Bel.str _ | exact Bel.nilp | exact Bel.nilfn | exact Bel.optr _ _ (by simp) | exact bel_nil0 _ | exact bel_nil1 _ | exact bel_fn0 _ _ | assumption) ?_)⟩
    · intro i u_ hi hg
      have g1 := ix_nat hi
      have hi2 : i < vs.length := by omega
      have g3 := ix_nat hi2
      have g2 := get_enc vint hi
      have g4 := get_enc vint hi2
      repeat (refine awp_seq ?_)
      refine e_eval (by simp only [jA, jO, jN, seval, vint, qF, g1, g2, g3, g4, Int.toNat_natCast] <;> with_reducible rfl) (by decide) ?_
      repeat (refine awp_seq ?_)
      refine dp_draw (by kernel_rfl) ?_
      refine dp_end (by simp only [jP, jO, jN, seval, y3, y46, vint, qF, g1, g2, g3, g4, Int.toNat_natCast] <;> with_reducible rfl) (by decide) (by repeat (first | exact Fin.base _ | with_reducible apply Fin.keep | apply Fin.drop)) ?_
      repeat (refine awp_seq ?_)
      refine awp_cond rfl (by simp only [jN, seval, vint, qF, g1, g2, g3, g4, Int.toNat_natCast] <;> with_reducible rfl) (fun bt24 => ?_) (fun bt24 => ?_)
      ·
        have hne : ¬ us[i] = vs[i] := by simpa using bt24
        have hf : decide (us = vs) = false := decide_eq_false fun h => hne (by subst h; rfl)
        repeat (refine awp_seq ?_)
        refine e_eval (by simp only [jA, jO, jN, seval, vint, qF, g1, g2, g3, g4, Int.toNat_natCast] <;> with_reducible rfl) (by decide) ?_
        repeat (refine awp_seq ?_)
        refine awp_ret ⟨.inr rfl, _, rfl, ?_⟩
        simp only [jN, seval, vint, qF, hf]
      ·
        have heq : us[i] = vs[i] := by simpa using bt24
        repeat (refine awp_seq ?_)
        refine awp_skip ?_
        exact ⟨⟨rfl, rfl, trivial⟩, (), _, ⟨rfl, rfl, trivial⟩, rfl, fun j h1 h2 h3 => by
          rcases Nat.lt_or_ge j i with q | q
          · exact hg j q h2 h3
          · obtain rfl : j = i := by omega
            exact heq⟩
    · intro u_ hg
      have hf : decide (us = vs) = true := decide_eq_true (List.ext_getElem hl fun j h1 h2 => hg j h1 h1 h2)
      repeat (refine awp_seq ?_)
      refine e_eval (by simp only [jA, jO, jN, seval, vint, qF] <;> with_reducible rfl) (by decide) ?_
      repeat (refine awp_seq ?_)
      refine awp_ret ⟨.inr rfl, _, rfl, ?_⟩
      simp only [jN, seval, vint, qF, hf]

theorem equalL (us vs : List Int) (ha : us.length ≤ maxLen) : PC Try.prog 25 [.slice (us.map vint) .none, .slice (vs.map vint) .none] (.bool (decide (us = vs))) := by
  refine pc_of (N := 26) Try.func25 rfl rfl (by simp) (by simp [St.bel, Gn.bel, Ga.bel, bel_St, bel_Gn, bel_ints0, Bel.int]) (.bool _) ?_
  repeat (refine awp_seq ?_)
  refine e_eval (by simp only [jA, jO, jN, seval, vint, qF] <;> with_reducible rfl) (by decide) ?_
  repeat (refine awp_seq ?_)
  refine e_eval (by simp only [jA, jO, jN, seval, y3, y46, vint, qF] <;> with_reducible rfl) (by decide) ?_
  repeat (refine awp_seq ?_)
  refine awp_cond rfl (by simp only [jN, seval, vint, qF] <;> with_reducible rfl) (fun bt10 => ?_) (fun bt10 => ?_)
  ·
    have hl : ¬ us.length = vs.length := by simp at bt10; omega
    have hf : decide (us = vs) = false := decide_eq_false fun h => hl (by rw [h])
    repeat (refine awp_seq ?_)
    refine e_eval (by simp only [jA, jO, jN, seval, vint, qF] <;> with_reducible rfl) (by decide) ?_
    repeat (refine awp_seq ?_)
    refine awp_ret ⟨.inr rfl, _, rfl, ?_⟩
    simp only [jN, seval, vint, qF, hf]
  ·
    have hl : us.length = vs.length := by simp at bt10; omega
    repeat (refine awp_seq ?_)
    refine awp_skip ?_
    repeat (refine awp_seq ?_)
    refine e_eval (by simp only [jA, jO, jN, seval, y3, y46, vint, qF] <;> with_reducible rfl) (by decide) ?_
    repeat (refine awp_seq ?_)
    refine awp_forS (σ := Unit) (us.length) (fun (u_ : Unit) => [(0, .slice (us.map vint) .none), (1, .slice (vs.map vint) .none)]) [0, 1] ([]) (fun (u_ : Unit) => []) (fun (i : Nat) (u_ : Unit) => ∀ j (h1 : j < i) (h2 : j < us.length) (h3 : j < vs.length), us[j] = vs[j]) (()) ([]) rfl rfl rfl rfl rfl rfl rfl rfl rfl (by decide) (by decide) (by decide) (fun _ => rfl) (ha) ⟨(by first | rfl | (simp only [jN, seval, vint, qF] <;> first | done | with_reducible rfl)), (by first | rfl | (simp only [jN, seval, vint, qF] <;> first | done | with_reducible rfl)), (by first | rfl | (simp only [jN, seval, vint, qF] <;> first | done | with_reducible rfl)), (by first | rfl | (simp only [jN, seval, vint, qF] <;> first | done | with_reducible rfl)), trivial⟩ (by first | rfl | (simp only [jN, seval, vint, qF] <;> first | done | with_reducible rfl)) (fun j h => absurd h (by omega)) (fun _ _ _ => by first | exact Nat.zero_le _ | (simp only [List.length_append]; omega)) ?_ ?_ ?_
    · exact fun i s hg => ⟨by first | exact hbel_nil _ | (simp only [List.append_nil]; assumption) | (refine hbel_app' hb' (by simp) ?_; repeat (first | exact hbel_nil _ | exact trivial | exact obel_row_nil _ | (refine HBel.cons ?_ ?_) | (refine obel_row_cons (by first | exact bel_ints0 _ _ | exact bel_St _ _ | exact St.bel _ _ | exact bel_Gn _ _ | exact Gn.bel _ _ | exact Ga.bel _ _ | exact bel_Gn_tok _ (by simp) | exact bel_St_tok _ (by simp) | exact bel_int_tok _ (by simp) | exact bel_nil0 _ | exact bel_nil1 _ | exact Bel.int _ _ | exact Bel.bool _ | exact Bel.str _ | exact Bel.nilp | exact Bel.nilfn | exact Bel.optr _ _ (by simp) | exact bel_nil0 _ | exact bel_nil1 _ | exact bel_fn0 _ _ | assumption) ?_))), by repeat (first | exact BelL.nil | refine BelL.cons (by first | exact bel_ints0 _ _ | exact bel_St _ _ | exact St.bel _ _ | exact bel_Gn _ _ | exact Gn.bel _ _ | exact Ga.bel _ _ | exact bel_Gn_tok _ (by simp) | exact bel_St_tok _ (by simp) | exact bel_int_tok _ (by simp) | exact bel_nil0 _ | exact bel_nil1 _ | exact Bel.int _ _ | exact Bel.bool _ | exact Bel.str _ | exact Bel.nilp | exact Bel.nilfn | exact Bel.optr _ _ (by simp) | exact bel_nil0 _ | exact bel_nil1 _ | exact bel_fn0 _ _ | assumption) ?_)⟩
    · intro i u_ hi hg
      have g1 := ix_nat hi
      have hi2 : i < vs.length := by omega
      have g3 := ix_nat hi2
      have g2 := get_enc vint hi
      have g4 := get_enc vint hi2
      repeat (refine awp_seq ?_)
      refine e_eval (by simp only [jA, jO, jN, seval, vint, qF, g1, g2, g3, g4, Int.toNat_natCast] <;> with_reducible rfl) (by decide) ?_
      repeat (refine awp_seq ?_)
      refine dp_draw (by kernel_rfl) ?_
      refine dp_end (by simp only [jP, jO, jN, seval, y3, y46, vint, qF, g1, g2, g3, g4, Int.toNat_natCast] <;> with_reducible rfl) (by decide) (by repeat (first | exact Fin.base _ | with_reducible apply Fin.keep | apply Fin.drop)) ?_
      repeat (refine awp_seq ?_)
      refine awp_cond rfl (by simp only [jN, seval, vint, qF, g1, g2, g3, g4, Int.toNat_natCast] <;> with_reducible rfl) (fun bt24 => ?_) (fun bt24 => ?_)
      ·
        have hne : ¬ us[i] = vs[i] := by simpa using bt24
        have hf : decide (us = vs) = false := decide_eq_false fun h => hne (by subst h; rfl)
        repeat (refine awp_seq ?_)
        refine e_eval (by simp only [jA, jO, jN, seval, vint, qF, g1, g2, g3, g4, Int.toNat_natCast] <;> with_reducible rfl) (by decide) ?_
        repeat (refine awp_seq ?_)
        refine awp_ret ⟨.inr rfl, _, rfl, ?_⟩
        simp only [jN, seval, vint, qF, hf]
      ·
        have heq : us[i] = vs[i] := by simpa using bt24
        repeat (refine awp_seq ?_)
        refine awp_skip ?_
        exact ⟨⟨rfl, rfl, trivial⟩, (), _, ⟨rfl, rfl, trivial⟩, rfl, fun j h1 h2 h3 => by
          rcases Nat.lt_or_ge j i with q | q
          · exact hg j q h2 h3
          · obtain rfl : j = i := by omega
            exact heq⟩
    · intro u_ hg
      have hf : decide (us = vs) = true := decide_eq_true (List.ext_getElem hl fun j h1 h2 => hg j h1 h1 h2)
      repeat (refine awp_seq ?_)
      refine e_eval (by simp only [jA, jO, jN, seval, vint, qF] <;> with_reducible rfl) (by decide) ?_
      repeat (refine awp_seq ?_)
      refine awp_ret ⟨.inr rfl, _, rfl, ?_⟩
      simp only [jN, seval, vint, qF, hf]

theorem gequal (a b : Gn) (ha : a.W) : PC Try.prog 29 [a.enc, b.enc] (.bool (gEq a b)) := by
  refine pc_of (N := 31) Try.func29 rfl rfl (by simp) (by simp [St.bel, Gn.bel, Ga.bel, bel_St, bel_Gn, bel_ints0, Bel.int]) (.bool _) ?_
  repeat (refine awp_seq ?_)
  refine e_eval (by simp only [jA, jO, jN, seval, y48, vint, qF] <;> with_reducible rfl) (by decide) ?_
  repeat (refine awp_seq ?_)
  refine awp_region ?_
  refine aops_gstart ?_
  refine g_take 24 (by simp only [jG, jO, jN, seval, y3, y9, y46, y48, vint, qF] <;> with_reducible rfl) (by decide) ?_
  refine aops_gpure (by simp only [jE, jN, seval, vint, qF] <;> with_reducible rfl) (by simp only [jE, jN, seval, vint, qF] <;> with_reducible rfl) (by simp only [jE, jN, seval, vint, qF]) (by decide) Trygo37 (fun hc => equalInt a.ch b.ch ha.max_ch _) ?_
  refine g_end (by simp only [jG, jO, jN, seval, vint, qF] <;> with_reducible rfl) (by decide) (by repeat (first | exact Fin.base _ | with_reducible apply Fin.keep | apply Fin.drop)) ?_
  repeat (refine awp_seq ?_)
  refine awp_ret ⟨.inr rfl, _, rfl, ?_⟩
  simp only [jN, seval, vint, qF]
  unfold gEq
  simp only [Bool.and_assoc]

theorem sgreen (a b : Gn) (ha : a.W) : PC Try.prog 18 [a.enc, b.enc] (.bool (gEq a b)) := by
  refine pc_of (N := 31) Try.func18 rfl rfl (by simp) (by simp [St.bel, Gn.bel, Ga.bel, bel_St, bel_Gn, bel_ints0, Bel.int]) (.bool _) ?_
  repeat (refine awp_seq ?_)
  refine e_eval (by simp only [jA, jO, jN, seval, y48, vint, qF] <;> with_reducible rfl) (by decide) ?_
  repeat (refine awp_seq ?_)
  refine awp_region ?_
  refine aops_gstart ?_
  refine g_take 24 (by simp only [jG, jO, jN, seval, y3, y9, y46, y48, vint, qF] <;> with_reducible rfl) (by decide) ?_
  refine aops_gpure (by simp only [jE, jN, seval, vint, qF] <;> with_reducible rfl) (by simp only [jE, jN, seval, vint, qF] <;> with_reducible rfl) (by simp only [jE, jN, seval, vint, qF]) (by decide) Trygo25 (fun hc => equalL a.ch b.ch ha.max_ch _) ?_
  refine g_end (by simp only [jG, jO, jN, seval, vint, qF] <;> with_reducible rfl) (by decide) (by repeat (first | exact Fin.base _ | with_reducible apply Fin.keep | apply Fin.drop)) ?_
  repeat (refine awp_seq ?_)
  refine awp_ret ⟨.inr rfl, _, rfl, ?_⟩
  simp only [jN, seval, vint, qF]
  unfold gEq
  simp only [Bool.and_assoc]

theorem iv1 (n : Gn) (H : Heap) (id : Nat) (h1 : H[id]? = some (.row n.enc.cells)) (m : Gn) (hm : m.W) : ACalls Try.prog 28 [m.enc, .optr id 0] H fun r' H' => r' = .bool (gEq m n) ∧ H' = H := by
  simp only [GnS] at h1
  have q1 : ∀ L, (H ++ L)[id]? = some (.row [.int .i64 n.kind, .int .i64 n.width, .str n.text, .slice (n.ch.map vint) .none]) := fun L => by rw [List.getElem?_append_left (len_of_get h1)]; exact h1
  refine keeps_of (N := 7) Try.func28 rfl rfl (by simp) (.bool _) fun hb' => ?_
  repeat (refine awp_seq ?_)
  refine e_eval (by simp only [jA, jO, jN, seval, y48, vint, qF, q1] <;> with_reducible rfl) (by decide) ?_
  repeat (refine awp_seq ?_)
  refine awp_region ?_
  refine e_take 2 (by simp only [jA, jO, jN, seval, y48, vint, qF, q1] <;> with_reducible rfl) (by decide) ?_
  refine aops_pure (by simp only [jC, jN, seval, vint, qF, q1] <;> with_reducible rfl) (by simp only [jC, jN, seval, vint, qF, q1]) (by decide) Trygo29 (gequal m n hm _) ?_
  refine e_end (by simp only [jA, jO, jN, seval, vint, qF, q1] <;> with_reducible rfl) (by decide) ?_
  repeat (refine awp_seq ?_)
  refine awp_ret ⟨.inr rfl, _, _, rfl, ?_, (by first | exact (List.append_nil _).symm | rfl)⟩
  simp only [jN, seval, vint, qF]

theorem ins1 (n : Gn) (H : Heap) (id : Nat) (h1 : H[id]? = some (.row n.enc.cells)) (m : Gn) (hm : m.W) : ACalls Try.prog 36 [m.enc, .optr id 0] H fun r' H' => r' = .bool (gEq m n) ∧ H' = H := by
  simp only [GnS] at h1
  have q1 : ∀ L, (H ++ L)[id]? = some (.row [.int .i64 n.kind, .int .i64 n.width, .str n.text, .slice (n.ch.map vint) .none]) := fun L => by rw [List.getElem?_append_left (len_of_get h1)]; exact h1
  refine keeps_of (N := 7) Try.func36 rfl rfl (by simp) (.bool _) fun hb' => ?_
  repeat (refine awp_seq ?_)
  refine e_eval (by simp only [jA, jO, jN, seval, y48, vint, qF, q1] <;> with_reducible rfl) (by decide) ?_
  repeat (refine awp_seq ?_)
  refine awp_region ?_
  refine e_take 2 (by simp only [jA, jO, jN, seval, y48, vint, qF, q1] <;> with_reducible rfl) (by decide) ?_
  refine aops_pure (by simp only [jC, jN, seval, vint, qF, q1] <;> with_reducible rfl) (by simp only [jC, jN, seval, vint, qF, q1]) (by decide) Trygo29 (gequal m n hm _) ?_
  refine e_end (by simp only [jA, jO, jN, seval, vint, qF, q1] <;> with_reducible rfl) (by decide) ?_
  repeat (refine awp_seq ?_)
  refine awp_ret ⟨.inr rfl, _, _, rfl, ?_, (by first | exact (List.append_nil _).symm | rfl)⟩
  simp only [jN, seval, vint, qF]

/-- The lengths are what memory bears. -/
structure NsW (ns : List Gn) : Prop where
  len : ns.length ≤ 4096
  el : ∀ n ∈ ns, n.W
theorem widthG_take {ns : List Gn} {cs : List Int} {j : Nat} (hj : j < cs.length) (w : Int) : widthG ns (cs.take (j + 1)) w = IntKind.i64.wrap (widthG ns (cs.take j) w + wd ns cs[j]) := by
  unfold widthG
  rw [List.take_succ_eq_append_getElem hj, List.foldl_append]; rfl
theorem wd_get {ns : List Gn} {c : Int} (h0 : 0 ≤ c) (h : c < ns.length) : (ns.map Gn.enc)[c.toNat]? = some (ns.getD c.toNat .zero).enc ∧ wd ns c = (ns.getD c.toNat .zero).width := by
  have hl : c.toNat < ns.length := by omega
  refine ⟨?_, rfl⟩
  rw [List.getElem?_map, List.getD_eq_getElem?_getD, List.getElem?_eq_getElem hl]; rfl
theorem nodeOk_eq (ns : List Gn) (i : Nat) (n : Gn) : nodeOk 100 ns i n = (n.ch.all (fun c => decide (0 ≤ c) && decide (c < i)) && (decide (n.width = widthG ns n.ch n.text.length) && (!badK 100 n.kind n.ch.length n.text && !(ns.take i).any fun m => gEq m n))) := rfl
theorem all4 (l : List Gn) : (∀ e ∈ l.map Gn.enc, e.cells.length = 4) = True := eq_true fun e he => by obtain ⟨u, _, rfl⟩ := List.mem_map.1 he; exact u.enc_len
theorem tk_map {α : Type} (f : α → PV) (n : Nat) (l : List α) : List.take n (l.map f) = (l.take n).map f := (List.map_take ..).symm

theorem isValid (ns : List Gn) (hw : NsW ns) (i : Nat) (hi : i < ns.length) : PC Try.prog 19 [.slice (ns.map Gn.enc) .none, vint (i : Int)] (.bool (nodeOk 100 ns i (ns.getD i .zero))) := by
  have em : maxLen = 9223372036854775807 := by decide
  have hln := hw.len
  have g1 := ix_nat hi
  have g2 := get_enc Gn.enc hi
  have hmem : ns[i] ∈ ns := List.getElem_mem hi
  have hgd : ns.getD i .zero = ns[i] := by rw [List.getD_eq_getElem?_getD, List.getElem?_eq_getElem hi]; rfl
  rw [hgd]
  obtain ⟨n, hne⟩ : ∃ n, ns[i] = n := ⟨_, rfl⟩
  rw [hne] at g2 hmem ⊢
  have hnw := hw.el n hmem
  have htl : (ns.take i).length ≤ maxLen := by rw [List.length_take]; omega
  have h3 : ((0 : Int) ≤ i ∧ (i : Int) ≤ ns.length) = True := by simp; omega
  have hnl : ¬ i = ns.length := by omega
  refine pc_of (N := 70) Try.func19 rfl rfl (by simp) (by simp [St.bel, Gn.bel, Ga.bel, bel_St, bel_Gn, bel_ints0, Bel.int]) (.bool _) ?_
  repeat (refine awp_seq ?_)
  refine e_eval (by simp only [jA, jO, jN, seval, vint, qF] <;> with_reducible rfl) (by decide) ?_
  repeat (refine awp_seq ?_)
  refine e_eval (by simp only [jA, jO, jN, seval, y22, y48, vint, qF, g1, g2, Int.toNat_natCast] <;> with_reducible rfl) (by decide) ?_
  repeat (refine awp_seq ?_)
  refine e_eval (by simp only [jA, jO, jN, seval, y9, y48, vint, qF] <;> with_reducible rfl) (by decide) ?_
  repeat (refine awp_seq ?_)
  refine e_eval (by simp only [jA, jO, jN, seval, y3, y46, y48, vint, qF] <;> with_reducible rfl) (by decide) ?_
  repeat (refine awp_seq ?_)
  refine awp_forS (σ := Int) (n.ch.length) (fun (s : Int) => [(0, .slice (ns.map Gn.enc) .none), (1, vint (i : Int)), (5, .optr 0 0), (6, vint s), (18, .slice (n.ch.map vint) .none)]) [0, 1, 5, 6, 18] ([]) (fun (s : Int) => [.row n.enc.cells]) (fun (j : Nat) (s : Int) => (n.ch.take j).all (fun c => decide (0 ≤ c) && decide (c < i)) = true ∧ s = widthG ns (n.ch.take j) n.text.length) ((n.text.length : Int)) ([]) rfl rfl rfl rfl rfl rfl rfl rfl rfl (by decide) (by decide) (by decide) (fun _ => rfl) (hnw.max_ch) ⟨(by first | rfl | (simp only [jN, seval, vint, qF] <;> first | done | with_reducible rfl)), (by first | rfl | (simp only [jN, seval, vint, qF] <;> first | done | with_reducible rfl)), (by first | rfl | (simp only [jN, seval, vint, qF] <;> first | done | with_reducible rfl)), (by first | rfl | (simp only [jN, seval, vint, qF] <;> first | done | with_reducible rfl)), (by first | rfl | (simp only [jN, seval, vint, qF] <;> first | done | with_reducible rfl)), (by first | rfl | (simp only [jN, seval, vint, qF] <;> first | done | with_reducible rfl)), (by first | rfl | (simp only [jN, seval, vint, qF] <;> first | done | with_reducible rfl)), trivial⟩ (by first | rfl | (simp only [jN, seval, vint, qF] <;> first | done | with_reducible rfl)) (⟨by simp, rfl⟩) (fun _ _ _ => by first | exact Nat.zero_le _ | (simp only [List.length_append]; omega)) ?_ ?_ ?_
  · exact fun j s hq => ⟨by simp only [StS, GnS, GaS, List.nil_append]; repeat (first | exact hbel_nil _ | exact trivial | exact obel_row_nil _ | (refine HBel.cons ?_ ?_) | (refine obel_row_cons (by first | exact bel_ints0 _ _ | exact bel_St _ _ | exact St.bel _ _ | exact bel_Gn _ _ | exact Gn.bel _ _ | exact Ga.bel _ _ | exact bel_Gn_tok _ (by simp) | exact bel_St_tok _ (by simp) | exact bel_int_tok _ (by simp) | exact bel_nil0 _ | exact bel_nil1 _ | exact Bel.int _ _ | exact Bel.bool _ | exact Bel.str _ | exact Bel.nilp | exact Bel.nilfn | exact Bel.optr _ _ (by simp) | exact bel_nil0 _ | exact bel_nil1 _ | exact bel_fn0 _ _ | assumption) ?_)), by repeat (first | exact BelL.nil | refine BelL.cons (by first | exact bel_ints0 _ _ | exact bel_St _ _ | exact St.bel _ _ | exact bel_Gn _ _ | exact Gn.bel _ _ | exact Ga.bel _ _ | exact bel_Gn_tok _ (by simp) | exact bel_St_tok _ (by simp) | exact bel_int_tok _ (by simp) | exact bel_nil0 _ | exact bel_nil1 _ | exact Bel.int _ _ | exact Bel.bool _ | exact Bel.str _ | exact Bel.nilp | exact Bel.nilfn | exact Bel.optr _ _ (by simp) | exact bel_nil0 _ | exact bel_nil1 _ | exact bel_fn0 _ _ | assumption) ?_)⟩
  · intro j s hj hq
    have g3 := ix_nat hj
    have g4 := get_enc vint hj
    have hwt := widthG_take (ns := ns) hj (n.text.length : Int)
    have hal := fun h => all_take_succ (p := fun c => decide (0 ≤ c) && decide (c < (i : Int))) hj hq.1 h
    have hna : ((fun c => decide (0 ≤ c) && decide (c < (i : Int))) n.ch[j]) = false → n.ch.all (fun c => decide (0 ≤ c) && decide (c < (i : Int))) = false := fun h => List.all_eq_false.2 ⟨_, List.getElem_mem hj, by simpa using h⟩
    rw [← hq.2] at hwt
    obtain ⟨c, hce⟩ : ∃ c, n.ch[j] = c := ⟨_, rfl⟩
    rw [hce] at g4 hwt hal hna
    repeat (refine awp_seq ?_)
    refine e_eval (by simp only [jA, jO, jN, seval, y3, y46, vint, qF, g3, g4, Int.toNat_natCast] <;> with_reducible rfl) (by decide) ?_
    repeat (refine awp_seq ?_)
    refine g_eval (by simp only [jG, jO, jN, seval, y3, vint, qF, g3, g4, Int.toNat_natCast] <;> with_reducible rfl) (by decide) (by repeat (first | exact Fin.base _ | with_reducible apply Fin.keep | apply Fin.drop)) ?_
    repeat (refine awp_seq ?_)
    refine awp_cond rfl (by simp only [jN, seval, vint, qF, g3, g4, Int.toNat_natCast] <;> with_reducible rfl) (fun bt30 => ?_) (fun bt30 => ?_)
    ·
      have hnc : (decide (0 ≤ c) && decide (c < (i : Int))) = false := by simp only [Bool.or_eq_true, decide_eq_true_eq] at bt30; simp; omega
      have hno : nodeOk 100 ns i n = false := by rw [nodeOk_eq, hna hnc]; rfl
      repeat (refine awp_seq ?_)
      refine e_eval (by simp only [jA, jO, jN, seval, vint, qF, g3, g4, Int.toNat_natCast] <;> with_reducible rfl) (by decide) ?_
      repeat (refine awp_seq ?_)
      refine awp_ret ⟨.inr rfl, _, rfl, ?_⟩
      simp only [jN, seval, vint, qF, hno]
    ·
      have hc : 0 ≤ c ∧ c < i := by simp only [Bool.or_eq_false_iff, decide_eq_false_iff_not] at bt30; omega
      have hcl : c < ns.length := by omega
      obtain ⟨g5, g6⟩ := wd_get (ns := ns) hc.1 hcl
      have g7 : ((0 : Int) ≤ c ∧ c < ns.length) = True := by simp; omega
      repeat (refine awp_seq ?_)
      refine awp_skip ?_
      repeat (refine awp_seq ?_)
      refine e_eval (by simp only [jA, jO, jN, seval, y3, y22, y48, vint, qF, g3, g4, Int.toNat_natCast, g5, g7] <;> with_reducible rfl) (by decide) ?_
      exact ⟨⟨rfl, rfl, trivial⟩, IntKind.i64.wrap (s + (ns.getD c.toNat .zero).width), _, ⟨rfl, rfl, rfl, rfl, rfl, trivial⟩, by simp only [jN, seval, vint, qF] <;> rfl, hal (by simp; omega), by rw [hwt, g6]⟩
  · intro s hq
    rw [List.take_length] at hq
    repeat (refine awp_seq ?_)
    refine e_eval (by simp only [jA, jO, jN, seval, y3, y48, vint, qF] <;> with_reducible rfl) (by decide) ?_
    repeat (refine awp_seq ?_)
    refine g_eval (by simp only [jG, jO, jN, seval, y3, y9, y46, y48, vint, qF] <;> with_reducible rfl) (by decide) (by repeat (first | exact Fin.base _ | with_reducible apply Fin.keep | apply Fin.drop)) ?_
    repeat (refine awp_seq ?_)
    refine awp_cond rfl (by simp only [jN, seval, vint, qF] <;> with_reducible rfl) (fun bt63 => ?_) (fun bt63 => ?_)
    ·
      have hno : nodeOk 100 ns i n = false := by
        rw [nodeOk_eq, ← hq.2]
        unfold badK
        revert bt63
        cases decide (n.width = s) <;> cases decide (n.kind ≥ 100) <;> cases decide ((n.ch.length : Int) > 0) <;> cases decide (n.text = []) <;> simp
      refine awp_sel [] (by simp only [jN, seval, vint, qF] <;> with_reducible rfl) ?_
      repeat (refine awp_seq ?_)
      refine e_eval (by simp only [jA, jO, jN, seval, vint, qF] <;> with_reducible rfl) (by decide) ?_
      repeat (refine awp_seq ?_)
      refine awp_ret ⟨.inr rfl, _, rfl, ?_⟩
      simp only [jN, seval, vint, qF, hno]
    ·
      have hno : nodeOk 100 ns i n = !(ns.take i).any fun m => gEq m n := by
        rw [nodeOk_eq, ← hq.2, hq.1]
        unfold badK
        revert bt63
        cases decide (n.width = s) <;> cases decide (n.kind ≥ 100) <;> cases decide ((n.ch.length : Int) > 0) <;> cases decide (n.text = []) <;> simp
      repeat (refine awp_seq ?_)
      refine awp_skip ?_
      refine awp_sel [0, 1, 5] (by simp only [jN, seval, vint, qF] <;> with_reducible rfl) ?_
      repeat (refine awp_seq ?_)
      refine awp_region ?_
      refine e_take 4 (by simp only [jA, jO, jN, seval, y22, y48, vint, qF, h3, all4, hnl, tk_map, false_and, ite_false, List.drop_zero, Int.toNat_natCast] <;> with_reducible rfl) (by decide) ?_
      refine aops_pure (by simp only [jC, jN, seval, vint, qF, h3, all4, hnl, tk_map, false_and, ite_false, List.drop_zero, Int.toNat_natCast] <;> with_reducible rfl) (by simp only [jC, jN, seval, vint, qF, h3, all4, hnl, tk_map, false_and, ite_false, List.drop_zero, Int.toNat_natCast]) (by decide) Trygo27 (containsFuncGn (p := fun m => gEq m n) ⟨Trygo28, by simp; exact .optr _ _ (by simp), fun u hu => iv1 n _ 0 rfl u (hw.el u (List.mem_of_mem_take hu))⟩ htl) ?_
      refine e_end (by simp only [jA, jO, jN, seval, vint, qF, h3, all4, hnl, tk_map, false_and, ite_false, List.drop_zero, Int.toNat_natCast] <;> with_reducible rfl) (by decide) ?_
      repeat (refine awp_seq ?_)
      refine awp_ret ⟨.inr rfl, _, rfl, ?_⟩
      simp only [jN, seval, vint, qF, hno]

theorem gvalidate (ns : List Gn) (hm : ns.length ≤ maxLen) (hw : ns.length ≤ 4000 → NsW ns) : PC Try.prog 8 [(Ga.mk ns).enc] (vint (validG 100 ns)) := by
  refine pc_of (N := 20) Try.func8 rfl rfl (by simp) (by simp [St.bel, Gn.bel, Ga.bel, bel_St, bel_Gn, bel_ints0, Bel.int]) (.int _ _) ?_
  repeat (refine awp_seq ?_)
  refine e_eval (by simp only [jA, jO, jN, seval, y24, vint, qF] <;> with_reducible rfl) (by decide) ?_
  repeat (refine awp_seq ?_)
  refine e_eval (by simp only [jA, jO, jN, seval, y3, y22, y24, y48, vint, qF] <;> with_reducible rfl) (by decide) ?_
  repeat (refine awp_seq ?_)
  refine awp_cond rfl (by simp only [jN, seval, vint, qF] <;> with_reducible rfl) (fun bt7 => ?_) (fun bt7 => ?_)
  ·
    have hv : validG 100 ns = 2 := by unfold validG; rw [if_pos (by simpa using bt7)]
    repeat (refine awp_seq ?_)
    refine e_eval (by simp only [jA, jO, jN, seval, vint, qF] <;> with_reducible rfl) (by decide) ?_
    repeat (refine awp_seq ?_)
    refine awp_ret ⟨.inr rfl, _, rfl, ?_⟩
    simp only [jN, seval, vint, qF, hv]
  ·
    have hl : ns.length ≤ 4000 := by simp at bt7; omega
    have hv : validG 100 ns = if (List.range ns.length).all (fun i => nodeOk 100 ns i (ns.getD i .zero)) then 0 else 3 := by unfold validG; rw [if_neg (by omega)]
    repeat (refine awp_seq ?_)
    refine awp_skip ?_
    repeat (refine awp_seq ?_)
    refine e_eval (by simp only [jA, jO, jN, seval, y22, y24, y48, vint, qF] <;> with_reducible rfl) (by decide) ?_
    repeat (refine awp_seq ?_)
    refine awp_forS (σ := Unit) (ns.length) (fun (u_ : Unit) => [(1, .optr 0 0)]) [1] ([]) (fun (u_ : Unit) => [.row (Ga.mk ns).enc.cells]) (fun (i : Nat) (u_ : Unit) => (List.range i).all (fun i => nodeOk 100 ns i (ns.getD i .zero)) = true) (()) ([]) rfl rfl rfl rfl rfl rfl rfl rfl rfl (by decide) (by decide) (by decide) (fun _ => rfl) (hm) ⟨(by first | rfl | (simp only [jN, seval, vint, qF] <;> first | done | with_reducible rfl)), (by first | rfl | (simp only [jN, seval, vint, qF] <;> first | done | with_reducible rfl)), (by first | rfl | (simp only [jN, seval, vint, qF] <;> first | done | with_reducible rfl)), trivial⟩ (by first | rfl | (simp only [jN, seval, vint, qF] <;> first | done | with_reducible rfl)) (by simp) (fun _ _ _ => by first | exact Nat.zero_le _ | (simp only [List.length_append]; omega)) ?_ ?_ ?_
    · exact fun i u_ hg => ⟨by simp only [StS, GnS, GaS, List.nil_append]; repeat (first | exact hbel_nil _ | exact trivial | exact obel_row_nil _ | (refine HBel.cons ?_ ?_) | (refine obel_row_cons (by first | exact bel_ints0 _ _ | exact bel_St _ _ | exact St.bel _ _ | exact bel_Gn _ _ | exact Gn.bel _ _ | exact Ga.bel _ _ | exact bel_Gn_tok _ (by simp) | exact bel_St_tok _ (by simp) | exact bel_int_tok _ (by simp) | exact bel_nil0 _ | exact bel_nil1 _ | exact Bel.int _ _ | exact Bel.bool _ | exact Bel.str _ | exact Bel.nilp | exact Bel.nilfn | exact Bel.optr _ _ (by simp) | exact bel_nil0 _ | exact bel_nil1 _ | exact bel_fn0 _ _ | assumption) ?_)), by repeat (first | exact BelL.nil | refine BelL.cons (by first | exact bel_ints0 _ _ | exact bel_St _ _ | exact St.bel _ _ | exact bel_Gn _ _ | exact Gn.bel _ _ | exact Ga.bel _ _ | exact bel_Gn_tok _ (by simp) | exact bel_St_tok _ (by simp) | exact bel_int_tok _ (by simp) | exact bel_nil0 _ | exact bel_nil1 _ | exact Bel.int _ _ | exact Bel.bool _ | exact Bel.str _ | exact Bel.nilp | exact Bel.nilfn | exact Bel.optr _ _ (by simp) | exact bel_nil0 _ | exact bel_nil1 _ | exact bel_fn0 _ _ | assumption) ?_)⟩
    · intro i u_ hi hg
      have hiv := isValid ns (hw hl) i hi
      repeat (refine awp_seq ?_)
      refine e_eval (by simp only [jA, jO, jN, seval, vint, qF] <;> with_reducible rfl) (by decide) ?_
      repeat (refine awp_seq ?_)
      refine awp_region ?_
      refine e_take 3 (by simp only [jA, jO, jN, seval, y22, y24, y48, vint, qF] <;> with_reducible rfl) (by decide) ?_
      refine aops_pure (by simp only [jC, jN, seval, vint, qF] <;> with_reducible rfl) (by simp only [jC, jN, seval, vint, qF]) (by decide) Trygo19 (hiv _) ?_
      refine e_end (by simp only [jA, jO, jN, seval, vint, qF] <;> with_reducible rfl) (by decide) ?_
      repeat (refine awp_seq ?_)
      refine awp_cond rfl (by simp only [jN, seval, vint, qF] <;> with_reducible rfl) (fun bt18 => ?_) (fun bt18 => ?_)
      ·
        rw [if_neg (by rw [range_not_all hi (by simpa using bt18)]; simp)] at hv
        repeat (refine awp_seq ?_)
        refine e_eval (by simp only [jA, jO, jN, seval, vint, qF] <;> with_reducible rfl) (by decide) ?_
        repeat (refine awp_seq ?_)
        refine awp_ret ⟨.inr rfl, _, rfl, ?_⟩
        simp only [jN, seval, vint, qF, hv]
      ·
        repeat (refine awp_seq ?_)
        refine awp_skip ?_
        exact ⟨⟨rfl, rfl, trivial⟩, (), _, ⟨rfl, trivial⟩, by simp only [jN, seval, vint, qF] <;> rfl, range_succ_all hg (by simpa using bt18)⟩
    · intro u_ hg
      rw [if_pos hg] at hv
      repeat (refine awp_seq ?_)
      refine e_eval (by simp only [jA, jO, jN, seval, vint, qF] <;> with_reducible rfl) (by decide) ?_
      repeat (refine awp_seq ?_)
      refine awp_ret ⟨.inr rfl, _, rfl, ?_⟩
      simp only [jN, seval, vint, qF, hv]

end Go.Abs
set_option maxRecDepth 4000
namespace Go.Abs
open Go.Proofs

theorem arenaError (ns : List Gn) (hm : ns.length ≤ maxLen) (hw : ns.length ≤ 4000 → NsW ns) : PC Try.prog 7 [(Ga.mk ns).enc] (vint (validG 100 ns)) := by
  refine pc_of (N := 88) Try.func7 rfl rfl (by simp) (by simp [St.bel, Gn.bel, Ga.bel, bel_St, bel_Gn, bel_ints0, Bel.int]) (.int _ _) ?_
  repeat (refine awp_seq ?_)
  refine e_eval (by simp only [jA, jO, jN, seval, y24, vint, qF] <;> with_reducible rfl) (by decide) ?_
  repeat (refine awp_seq ?_)
  refine e_eval (by simp only [jA, jO, jN, seval, y3, y22, y24, y48, vint, qF] <;> with_reducible rfl) (by decide) ?_
  repeat (refine awp_seq ?_)
  refine awp_cond rfl (by simp only [jN, seval, vint, qF] <;> with_reducible rfl) (fun bt13 => ?_) (fun bt13 => ?_)
  ·
    have hv : validG 100 ns = 2 := by unfold validG; rw [if_pos (by simpa using bt13)]
    repeat (refine awp_seq ?_)
    refine e_eval (by simp only [jA, jO, jN, seval, vint, qF] <;> with_reducible rfl) (by decide) ?_
    repeat (refine awp_seq ?_)
    refine awp_ret ⟨.inr rfl, _, rfl, ?_⟩
    simp only [jN, seval, vint, qF, hv]
  ·
    have hl : ns.length ≤ 4000 := by simp at bt13; omega
    have hw := hw hl
    have hv : validG 100 ns = if (List.range ns.length).all (fun i => nodeOk 100 ns i (ns.getD i .zero)) then 0 else 3 := by unfold validG; rw [if_neg (by omega)]
    repeat (refine awp_seq ?_)
    refine awp_skip ?_
    repeat (refine awp_seq ?_)
    refine e_eval (by simp only [jA, jO, jN, seval, y22, y24, y48, vint, qF] <;> with_reducible rfl) (by decide) ?_
    repeat (refine awp_seq ?_)
    refine awp_forS (σ := Unit) (ns.length) (fun (u_ : Unit) => [(1, .optr 0 0), (15, .slice (ns.map Gn.enc) .none)]) [1, 15] ([]) (fun (u_ : Unit) => [.row (Ga.mk ns).enc.cells]) (fun (i : Nat) (u_ : Unit) => (List.range i).all (fun i => nodeOk 100 ns i (ns.getD i .zero)) = true) (()) ([]) rfl rfl rfl rfl rfl rfl rfl rfl rfl (by decide) (by decide) (by decide) (fun _ => rfl) (hm) ⟨(by first | rfl | (simp only [jN, seval, vint, qF] <;> first | done | with_reducible rfl)), (by first | rfl | (simp only [jN, seval, vint, qF] <;> first | done | with_reducible rfl)), (by first | rfl | (simp only [jN, seval, vint, qF] <;> first | done | with_reducible rfl)), (by first | rfl | (simp only [jN, seval, vint, qF] <;> first | done | with_reducible rfl)), trivial⟩ (by first | rfl | (simp only [jN, seval, vint, qF] <;> first | done | with_reducible rfl)) (by simp) (fun _ _ _ => by first | exact Nat.zero_le _ | (simp only [List.length_append]; omega)) ?_ ?_ ?_
    · exact fun i u_ hg => ⟨by simp only [StS, GnS, GaS, List.nil_append]; repeat (first | exact hbel_nil _ | exact trivial | exact obel_row_nil _ | (refine HBel.cons ?_ ?_) | (refine obel_row_cons (by first | exact bel_ints0 _ _ | exact bel_St _ _ | exact St.bel _ _ | exact bel_Gn _ _ | exact Gn.bel _ _ | exact Ga.bel _ _ | exact bel_Gn_tok _ (by simp) | exact bel_St_tok _ (by simp) | exact bel_int_tok _ (by simp) | exact bel_nil0 _ | exact bel_nil1 _ | exact Bel.int _ _ | exact Bel.bool _ | exact Bel.str _ | exact Bel.nilp | exact Bel.nilfn | exact Bel.optr _ _ (by simp) | exact bel_nil0 _ | exact bel_nil1 _ | exact bel_fn0 _ _ | assumption) ?_)), by repeat (first | exact BelL.nil | refine BelL.cons (by first | exact bel_ints0 _ _ | exact bel_St _ _ | exact St.bel _ _ | exact bel_Gn _ _ | exact Gn.bel _ _ | exact Ga.bel _ _ | exact bel_Gn_tok _ (by simp) | exact bel_St_tok _ (by simp) | exact bel_int_tok _ (by simp) | exact bel_nil0 _ | exact bel_nil1 _ | exact Bel.int _ _ | exact Bel.bool _ | exact Bel.str _ | exact Bel.nilp | exact Bel.nilfn | exact Bel.optr _ _ (by simp) | exact bel_nil0 _ | exact bel_nil1 _ | exact bel_fn0 _ _ | assumption) ?_)⟩
    · intro i u_ hi hg
      have g1 := ix_nat hi
      have g2 := get_enc Gn.enc hi
      have hmem : ns[i] ∈ ns := List.getElem_mem hi
      have hgd : ns.getD i .zero = ns[i] := by rw [List.getD_eq_getElem?_getD, List.getElem?_eq_getElem hi]; rfl
      have hbad : nodeOk 100 ns i (ns.getD i .zero) = false → validG 100 ns = 3 := fun h => by rw [hv, range_not_all hi h]; rfl
      have hgood := fun h => range_succ_all (p := fun i => nodeOk 100 ns i (ns.getD i .zero)) hg h
      try simp only at hgood
      rw [hgd] at hbad hgood
      obtain ⟨n, hne⟩ : ∃ n, ns[i] = n := ⟨_, rfl⟩
      rw [hne] at g2 hmem hbad hgood
      have hnw := hw.el n hmem
      have hi3 : ((0 : Int) ≤ i ∧ (i : Int) ≤ ns.length) = True := by simp; omega
      have hnl : ¬ i = ns.length := by omega
      have htl : (ns.take i).length = i := by rw [List.length_take]; omega
      have hwi : IntKind.i64.wrap ((i : Int) - 1) = (i : Int) - 1 := wrap_id (by omega) (by have := hw.len; omega)
      repeat (refine awp_seq ?_)
      refine e_eval (by simp only [jA, jO, jN, seval, y22, y48, vint, qF, g1, g2, Int.toNat_natCast] <;> with_reducible rfl) (by decide) ?_
      repeat (refine awp_seq ?_)
      refine e_eval (by simp only [jA, jO, jN, seval, y9, y48, vint, qF, g1, g2, Int.toNat_natCast] <;> with_reducible rfl) (by decide) ?_
      repeat (refine awp_seq ?_)
      refine e_eval (by simp only [jA, jO, jN, seval, y3, y46, y48, vint, qF, g1, g2, Int.toNat_natCast] <;> with_reducible rfl) (by decide) ?_
      repeat (refine awp_seq ?_)
      refine awp_forS (σ := Int) (n.ch.length) (fun (s : Int) => [(1, .optr 0 0), (3, vint (i : Int)), (4, .optr 1 0), (5, vint s), (15, .slice (ns.map Gn.enc) .none), (17, vint (i : Int)), (16, vint (ns.length : Int)), (26, .slice (n.ch.map vint) .none)]) [1, 3, 4, 5, 15, 17, 16, 26] ([]) (fun (s : Int) => [.row (Ga.mk ns).enc.cells, .row n.enc.cells]) (fun (j : Nat) (s : Int) => (n.ch.take j).all (fun c => decide (0 ≤ c) && decide (c < i)) = true ∧ s = widthG ns (n.ch.take j) n.text.length) ((n.text.length : Int)) (_) rfl rfl rfl rfl rfl rfl rfl rfl rfl (by decide) (by decide) (by decide) (fun _ => rfl) (hnw.max_ch) ⟨(by first | rfl | (simp only [jN, seval, vint, qF, g1, g2, Int.toNat_natCast] <;> first | done | with_reducible rfl)), (by first | rfl | (simp only [jN, seval, vint, qF, g1, g2, Int.toNat_natCast] <;> first | done | with_reducible rfl)), (by first | rfl | (simp only [jN, seval, vint, qF, g1, g2, Int.toNat_natCast] <;> first | done | with_reducible rfl)), (by first | rfl | (simp only [jN, seval, vint, qF, g1, g2, Int.toNat_natCast] <;> first | done | with_reducible rfl)), (by first | rfl | (simp only [jN, seval, vint, qF, g1, g2, Int.toNat_natCast] <;> first | done | with_reducible rfl)), (by first | rfl | (simp only [jN, seval, vint, qF, g1, g2, Int.toNat_natCast] <;> first | done | with_reducible rfl)), (by first | rfl | (simp only [jN, seval, vint, qF, g1, g2, Int.toNat_natCast] <;> first | done | with_reducible rfl)), (by first | rfl | (simp only [jN, seval, vint, qF, g1, g2, Int.toNat_natCast] <;> first | done | with_reducible rfl)), (by first | rfl | (simp only [jN, seval, vint, qF, g1, g2, Int.toNat_natCast] <;> first | done | with_reducible rfl)), (by first | rfl | (simp only [jN, seval, vint, qF, g1, g2, Int.toNat_natCast] <;> first | done | with_reducible rfl)), trivial⟩ (by first | rfl | (simp only [jN, seval, vint, qF, g1, g2, Int.toNat_natCast] <;> first | done | with_reducible rfl)) (⟨by simp, rfl⟩) (fun _ _ _ => by first | exact Nat.zero_le _ | (simp only [List.length_append]; omega)) ?_ ?_ ?_
      · exact fun j s hq => ⟨by simp only [StS, GnS, GaS, List.nil_append]; repeat (first | exact hbel_nil _ | exact trivial | exact obel_row_nil _ | (refine HBel.cons ?_ ?_) | (refine obel_row_cons (by first | exact bel_ints0 _ _ | exact bel_St _ _ | exact St.bel _ _ | exact bel_Gn _ _ | exact Gn.bel _ _ | exact Ga.bel _ _ | exact bel_Gn_tok _ (by simp) | exact bel_St_tok _ (by simp) | exact bel_int_tok _ (by simp) | exact bel_nil0 _ | exact bel_nil1 _ | exact Bel.int _ _ | exact Bel.bool _ | exact Bel.str _ | exact Bel.nilp | exact Bel.nilfn | exact Bel.optr _ _ (by simp) | exact bel_nil0 _ | exact bel_nil1 _ | exact bel_fn0 _ _ | assumption) ?_)), by repeat (first | exact BelL.nil | refine BelL.cons (by first | exact bel_ints0 _ _ | exact bel_St _ _ | exact St.bel _ _ | exact bel_Gn _ _ | exact Gn.bel _ _ | exact Ga.bel _ _ | exact bel_Gn_tok _ (by simp) | exact bel_St_tok _ (by simp) | exact bel_int_tok _ (by simp) | exact bel_nil0 _ | exact bel_nil1 _ | exact Bel.int _ _ | exact Bel.bool _ | exact Bel.str _ | exact Bel.nilp | exact Bel.nilfn | exact Bel.optr _ _ (by simp) | exact bel_nil0 _ | exact bel_nil1 _ | exact bel_fn0 _ _ | assumption) ?_)⟩
      · intro j s hj hq
        have g3 := ix_nat hj
        have g4 := get_enc vint hj
        have hwt := widthG_take (ns := ns) hj (n.text.length : Int)
        have hal := fun h => all_take_succ (p := fun c => decide (0 ≤ c) && decide (c < (i : Int))) hj hq.1 h
        have hna : ((fun c => decide (0 ≤ c) && decide (c < (i : Int))) n.ch[j]) = false → n.ch.all (fun c => decide (0 ≤ c) && decide (c < (i : Int))) = false := fun h => List.all_eq_false.2 ⟨_, List.getElem_mem hj, by simpa using h⟩
        rw [← hq.2] at hwt
        obtain ⟨c, hce⟩ : ∃ c, n.ch[j] = c := ⟨_, rfl⟩
        rw [hce] at g4 hwt hal hna
        repeat (refine awp_seq ?_)
        refine e_eval (by simp only [jA, jO, jN, seval, y3, y46, vint, qF, g1, g2, Int.toNat_natCast, g3, g4] <;> with_reducible rfl) (by decide) ?_
        repeat (refine awp_seq ?_)
        refine g_eval (by simp only [jG, jO, jN, seval, y3, vint, qF, g1, g2, Int.toNat_natCast, g3, g4, hwi] <;> with_reducible rfl) (by decide) (by repeat (first | exact Fin.base _ | with_reducible apply Fin.keep | apply Fin.drop)) ?_
        repeat (refine awp_seq ?_)
        refine awp_cond rfl (by simp only [jN, seval, vint, qF, g1, g2, Int.toNat_natCast, g3, g4] <;> with_reducible rfl) (fun bt39 => ?_) (fun bt39 => ?_)
        ·
          have hnc : (decide (0 ≤ c) && decide (c < (i : Int))) = false := by simp only [Bool.or_eq_true, decide_eq_true_eq] at bt39; simp; omega
          have hno : nodeOk 100 ns i n = false := by rw [nodeOk_eq, hna hnc]; rfl
          have hv3 := hbad hno
          repeat (refine awp_seq ?_)
          refine e_eval (by simp only [jA, jO, jN, seval, vint, qF, g1, g2, Int.toNat_natCast, g3, g4] <;> with_reducible rfl) (by decide) ?_
          repeat (refine awp_seq ?_)
          refine awp_ret ⟨.inr rfl, _, rfl, ?_⟩
          simp only [jN, seval, vint, qF, hv3]
        ·
          have hc : 0 ≤ c ∧ c < i := by simp only [Bool.or_eq_false_iff, decide_eq_false_iff_not] at bt39; omega
          have hcl : c < ns.length := by omega
          obtain ⟨g5, g6⟩ := wd_get (ns := ns) hc.1 hcl
          have g7 : ((0 : Int) ≤ c ∧ c < ns.length) = True := by simp; omega
          repeat (refine awp_seq ?_)
          refine awp_skip ?_
          repeat (refine awp_seq ?_)
          refine e_eval (by simp only [jA, jO, jN, seval, y3, y22, y24, y48, vint, qF, g1, g2, Int.toNat_natCast, g3, g4, g5, g7] <;> with_reducible rfl) (by decide) ?_
          exact ⟨⟨rfl, rfl, trivial⟩, IntKind.i64.wrap (s + (ns.getD c.toNat .zero).width), _, ⟨rfl, rfl, rfl, rfl, rfl, rfl, rfl, rfl, trivial⟩, by simp only [jN, seval, vint, qF] <;> rfl, hal (by simp; omega), by rw [hwt, g6]⟩
      · intro s hq
        rw [List.take_length] at hq
        repeat (refine awp_seq ?_)
        refine g_eval (by simp only [jG, jO, jN, seval, y3, y9, y46, y48, vint, qF, g1, g2, Int.toNat_natCast] <;> with_reducible rfl) (by decide) (by repeat (first | exact Fin.base _ | with_reducible apply Fin.keep | apply Fin.drop)) ?_
        repeat (refine awp_seq ?_)
        refine awp_cond rfl (by simp only [jN, seval, vint, qF, g1, g2, Int.toNat_natCast] <;> with_reducible rfl) (fun bt73 => ?_) (fun bt73 => ?_)
        ·
          have hno : nodeOk 100 ns i n = false := by
            have e1 : decide (n.kind < 100) = !decide (n.kind ≥ 100) := by rw [Bool.eq_iff_iff]; simp
            have e2 : decide (s = n.width) = decide (n.width = s) := by rw [decide_eq_decide]; exact ⟨Eq.symm, Eq.symm⟩
            rw [e1, e2] at bt73
            rw [nodeOk_eq, ← hq.2]
            unfold badK
            revert bt73
            cases decide (n.width = s) <;> cases decide (n.kind ≥ 100) <;> cases decide ((n.ch.length : Int) > 0) <;> cases decide (n.text = []) <;> simp
          have hv3 := hbad hno
          refine awp_sel [1, 15, 16, 17] (by simp only [jN, seval, vint, qF, g1, g2, Int.toNat_natCast] <;> with_reducible rfl) ?_
          repeat (refine awp_seq ?_)
          refine e_eval (by simp only [jA, jO, jN, seval, vint, qF, g1, g2, Int.toNat_natCast] <;> with_reducible rfl) (by decide) ?_
          repeat (refine awp_seq ?_)
          refine awp_ret ⟨.inr rfl, _, rfl, ?_⟩
          simp only [jN, seval, vint, qF, hv3]
        ·
          have hno : nodeOk 100 ns i n = !(ns.take i).any fun m => gEq m n := by
            have e1 : decide (n.kind < 100) = !decide (n.kind ≥ 100) := by rw [Bool.eq_iff_iff]; simp
            have e2 : decide (s = n.width) = decide (n.width = s) := by rw [decide_eq_decide]; exact ⟨Eq.symm, Eq.symm⟩
            rw [e1, e2] at bt73
            rw [nodeOk_eq, ← hq.2, hq.1]
            unfold badK
            revert bt73
            cases decide (n.width = s) <;> cases decide (n.kind ≥ 100) <;> cases decide ((n.ch.length : Int) > 0) <;> cases decide (n.text = []) <;> simp
          repeat (refine awp_seq ?_)
          refine awp_skip ?_
          refine awp_sel [1, 3, 4, 15, 16, 17] (by simp only [jN, seval, vint, qF, g1, g2, Int.toNat_natCast] <;> with_reducible rfl) ?_
          repeat (refine awp_seq ?_)
          refine e_eval (by simp only [jA, jO, jN, seval, y22, y24, y48, vint, qF, g1, g2, Int.toNat_natCast, hi3, all4, hnl, tk_map, false_and, ite_false, List.drop_zero, Int.toNat_natCast, List.length_map, htl] <;> with_reducible rfl) (by decide) ?_
          repeat (refine awp_seq ?_)
          refine awp_forS (σ := Unit) (i) (fun (v_ : Unit) => [(1, .optr 0 0), (3, vint (i : Int)), (4, .optr 1 0), (15, .slice (ns.map Gn.enc) .none), (17, vint (i : Int)), (16, vint (ns.length : Int)), (77, .slice ((ns.take i).map Gn.enc) .none)]) [1, 3, 4, 15, 17, 16, 77] ([]) (fun (v_ : Unit) => [.row (Ga.mk ns).enc.cells, .row n.enc.cells]) (fun (j : Nat) (v_ : Unit) => ((ns.take i).take j).any (fun m => gEq m n) = false) (()) (_) rfl rfl rfl rfl rfl rfl rfl rfl rfl (by decide) (by decide) (by decide) (fun _ => rfl) (by have := hw.len; omega) ⟨(by first | rfl | (simp only [jN, seval, vint, qF, g1, g2, Int.toNat_natCast] <;> first | done | with_reducible rfl)), (by first | rfl | (simp only [jN, seval, vint, qF, g1, g2, Int.toNat_natCast] <;> first | done | with_reducible rfl)), (by first | rfl | (simp only [jN, seval, vint, qF, g1, g2, Int.toNat_natCast] <;> first | done | with_reducible rfl)), (by first | rfl | (simp only [jN, seval, vint, qF, g1, g2, Int.toNat_natCast] <;> first | done | with_reducible rfl)), (by first | rfl | (simp only [jN, seval, vint, qF, g1, g2, Int.toNat_natCast] <;> first | done | with_reducible rfl)), (by first | rfl | (simp only [jN, seval, vint, qF, g1, g2, Int.toNat_natCast] <;> first | done | with_reducible rfl)), (by first | rfl | (simp only [jN, seval, vint, qF, g1, g2, Int.toNat_natCast] <;> first | done | with_reducible rfl)), (by first | rfl | (simp only [jN, seval, vint, qF, g1, g2, Int.toNat_natCast] <;> first | done | with_reducible rfl)), (by first | rfl | (simp only [jN, seval, vint, qF, g1, g2, Int.toNat_natCast] <;> first | done | with_reducible rfl)), trivial⟩ (by first | rfl | (simp only [jN, seval, vint, qF, g1, g2, Int.toNat_natCast] <;> first | done | with_reducible rfl)) (by simp) (fun _ _ _ => by first | exact Nat.zero_le _ | (simp only [List.length_append]; omega)) ?_ ?_ ?_
          · exact fun j v_ hp => ⟨by simp only [StS, GnS, GaS, List.nil_append]; repeat (first | exact hbel_nil _ | exact trivial | exact obel_row_nil _ | (refine HBel.cons ?_ ?_) | (refine obel_row_cons (by first | exact bel_ints0 _ _ | exact bel_St _ _ | exact St.bel _ _ | exact bel_Gn _ _ | exact Gn.bel _ _ | exact Ga.bel _ _ | exact bel_Gn_tok _ (by simp) | exact bel_St_tok _ (by simp) | exact bel_int_tok _ (by simp) | exact bel_nil0 _ | exact bel_nil1 _ | exact Bel.int _ _ | exact Bel.bool _ | exact Bel.str _ | exact Bel.nilp | exact Bel.nilfn | exact Bel.optr _ _ (by simp) | exact bel_nil0 _ | exact bel_nil1 _ | exact bel_fn0 _ _ | assumption) ?_)), by repeat (first | exact BelL.nil | refine BelL.cons (by first | exact bel_ints0 _ _ | exact bel_St _ _ | exact St.bel _ _ | exact bel_Gn _ _ | exact Gn.bel _ _ | exact Ga.bel _ _ | exact bel_Gn_tok _ (by simp) | exact bel_St_tok _ (by simp) | exact bel_int_tok _ (by simp) | exact bel_nil0 _ | exact bel_nil1 _ | exact Bel.int _ _ | exact Bel.bool _ | exact Bel.str _ | exact Bel.nilp | exact Bel.nilfn | exact Bel.optr _ _ (by simp) | exact bel_nil0 _ | exact bel_nil1 _ | exact bel_fn0 _ _ | assumption) ?_)⟩
          · intro j v_ hj hp
            have hj2 : j < (ns.take i).length := by omega
            have g3 : ((0 : Int) ≤ j ∧ (j : Int) < (ns.take i).length) = True := ix_nat hj2
            have g4 := get_enc Gn.enc hj2
            have hmm : (ns.take i)[j] ∈ ns := List.mem_of_mem_take (List.getElem_mem hj2)
            have hany := fun h => any_take_succ (p := fun m => gEq m n) hj2 hp h
            have hbad2 : gEq (ns.take i)[j] n = true → (ns.take i).any (fun m => gEq m n) = true := fun h => List.any_eq_true.2 ⟨_, List.getElem_mem hj2, h⟩
            rw [htl] at g3
            obtain ⟨m, hme⟩ : ∃ m, (ns.take i)[j] = m := ⟨_, rfl⟩
            rw [hme] at g4 hmm hany hbad2
            have hmw := hw.el m hmm
            repeat (refine awp_seq ?_)
            refine e_eval (by simp only [jA, jO, jN, seval, y22, y48, vint, qF, g1, g2, Int.toNat_natCast, g3, g4, htl] <;> with_reducible rfl) (by decide) ?_
            repeat (refine awp_seq ?_)
            refine awp_region ?_
            refine e_take 2 (by simp only [jA, jO, jN, seval, y48, vint, qF, g1, g2, Int.toNat_natCast, g3, g4, htl] <;> with_reducible rfl) (by decide) ?_
            refine aops_pure (by simp only [jC, jN, seval, vint, qF, g1, g2, Int.toNat_natCast, g3, g4, htl] <;> with_reducible rfl) (by simp only [jC, jN, seval, vint, qF, g1, g2, Int.toNat_natCast, g3, g4, htl]) (by decide) Trygo18 (sgreen m n hmw _) ?_
            refine aops_nil ?_
            repeat (refine awp_seq ?_)
            refine awp_cond rfl (by simp only [jN, seval, vint, qF, g1, g2, Int.toNat_natCast, g3, g4, htl] <;> with_reducible rfl) (fun bt85 => ?_) (fun bt85 => ?_)
            ·
              have hno2 : nodeOk 100 ns i n = false := by rw [hno, hbad2 bt85]; rfl
              have hv3 := hbad hno2
              repeat (refine awp_seq ?_)
              refine e_eval (by simp only [jA, jO, jN, seval, vint, qF, g1, g2, Int.toNat_natCast, g3, g4, htl] <;> with_reducible rfl) (by decide) ?_
              repeat (refine awp_seq ?_)
              refine awp_ret ⟨.inr rfl, _, rfl, ?_⟩
              simp only [jN, seval, vint, qF, hv3]
            ·
              repeat (refine awp_seq ?_)
              refine awp_skip ?_
              exact ⟨⟨rfl, rfl, trivial⟩, (), _, ⟨rfl, rfl, rfl, rfl, rfl, rfl, rfl, trivial⟩, by simp only [jN, seval, vint, qF] <;> rfl, hany bt85⟩
          · intro v_ hp
            rw [List.take_of_length_le (by omega)] at hp
            rw [hp] at hno
            exact ⟨⟨rfl, rfl, trivial⟩, (), _, ⟨rfl, rfl, trivial⟩, by simp only [jN, seval, vint, qF] <;> rfl, hgood hno⟩
    · intro u_ hg
      rw [if_pos hg] at hv
      repeat (refine awp_seq ?_)
      refine e_eval (by simp only [jA, jO, jN, seval, vint, qF] <;> with_reducible rfl) (by decide) ?_
      repeat (refine awp_seq ?_)
      refine awp_ret ⟨.inr rfl, _, rfl, ?_⟩
      simp only [jN, seval, vint, qF, hv]

end Go.Abs
namespace Go.Abs
/-! A mutable row of a call's own, held by a box, that from here on grows as a plain slice. -/

/-- The box 'ib' holds the slice over the row 'id'. -/
def Env.grw (E : Env) (H1 : Heap) (ib id k cp sz : Nat) (es : List PV) : Env :=
  { E with κ := fun b => if b = E.ρ id then .buf (k * sz) (cp * sz) else E.κ b, ρ := fun i => if i = H1.length then E.ρ ib else E.ρ i,
           tb := fun i => if i = H1.length + 1 then some (E.ρ id) else E.tb i, H := H1 ++ [.row [.slice (es.take k) (.tok (H1.length + 1))], .buf k sz] }

section
variable {E : Env} (ho : E.Ok) {H1 L : Heap} (hE : E.H = H1 ++ L) {ib id k cp sz : Nat} {es : List PV}
  (hib : H1.length ≤ ib) (hid : H1.length ≤ id) (hne : ib ≠ id) (hbox : E.H[ib]? = some (.row [.msl id 0 k cp])) (hrow : E.H[id]? = some (.row (flatE es))) (hk : k ≤ es.length) (hcp : es.length = cp)
  (hes : ∀ e ∈ es, e.cells.length = sz) (hb : ∀ e ∈ es, ∀ x ∈ e.cells, Bel H1.length x)

include ho hrow in
theorem Env.grw_cell (a : Addr) (v : Value) (h : E.view.cell a = some v) : (E.grw H1 ib id k cp sz es).view.cell a = some v := by
  obtain ⟨_, _, _, _, _, h4⟩ := ho.rows id _ hrow
  simp only [Env.view] at h ⊢
  split at h
  · rename_i hs
    have hne : a.block ≠ E.ρ id := by rintro e; rw [e, h4] at hs; cases hs
    have : ((E.grw H1 ib id k cp sz es).κ a.block).stable a.off = true := by
      simp only [Env.grw, if_neg hne]; exact hs
    rw [if_pos this]; exact h
  · cases h

include hE in
theorem Env.grw_get {i : Nat} (hi : i < H1.length) : (E.grw H1 ib id k cp sz es).H[i]? = E.H[i]? := by
  show (H1 ++ _)[i]? = _
  rw [cut_get hE hi, List.getElem?_append_left hi]

include ho hE hrow in
theorem Env.grw_tok {i : Nat} (hi : i < H1.length) {t : TokI} (h : (E.grw H1 ib id k cp sz es).view.tok i = some t) : E.view.tok i = some t := by
  have e1 := Env.grw_get (ib := ib) (id := id) (k := k) (cp := cp) (sz := sz) (es := es) hE hi
  obtain ⟨_, _, _, _, _, h4⟩ := ho.rows id _ hrow
  have e2 : (E.grw H1 ib id k cp sz es).tb i = E.tb i := by simp only [Env.grw]; rw [if_neg (by omega)]
  simp only [Env.view, e1, e2] at h ⊢
  split at h
  · rename_i n s hx
    rw [← h]
    cases htb : E.tb i with
    | none => rfl
    | some b =>
      obtain ⟨arr, elem, pos, _, h6⟩ := ho.bufs i n s b hx htb
      have hne : b ≠ E.ρ id := by rintro e; rw [e, h4] at h6; cases h6
      simp only [Option.bind_some]
      rw [show (E.grw H1 ib id k cp sz es).κ b = E.κ b by simp only [Env.grw, if_neg hne]]
  · cases h

include ho hE hrow in
theorem Env.grw_rel {v : Value} {p : PV} (h : VRel E.view v p) (hp : Bel H1.length p) : VRel (E.grw H1 ib id k cp sz es).view v p := by
  refine VRel.cut (V := E.view) (V' := (E.grw H1 ib id k cp sz es).view) (n := H1.length) (Env.grw_cell ho hrow) (fun i hi hb => ⟨?_, ?_, fun t ht => Env.grw_tok ho hE hrow hi ht⟩) h hp
  · obtain ⟨o, h1, h2⟩ := hb
    exact ⟨o, by rw [Env.grw_get hE hi]; exact h1, h2⟩
  · show (if i = H1.length then _ else _) = _
    rw [if_neg (by omega)]; rfl

include ho hE hbox hrow in
theorem Env.grw_leN {n : Nat} (hn : n ≤ H1.length) : E.leN n (E.grw H1 ib id k cp sz es) := by
  refine ⟨rfl, rfl, rfl, Nat.le_refl _, fun b hb h1 _ => ⟨?_, rfl⟩, Env.grw_cell ho hrow, fun i hi hb => ⟨?_, ?_, fun t' ht => ⟨t', Env.grw_tok ho hE hrow (by omega) ht, .inl rfl⟩⟩, fun b hb hx => ?_⟩
  · simp only [Env.grw]
    rw [if_neg]
    rintro rfl
    exact h1 ⟨id, _, hrow, rfl⟩
  · obtain ⟨o, h1, h2⟩ := hb
    exact ⟨o, by rw [Env.grw_get hE (by omega)]; exact h1, h2⟩
  · show (if i = H1.length then _ else _) = _
    rw [if_neg (by omega)]; rfl
  · rcases hx with ⟨i, cs, h1, h2⟩ | ⟨i, m, s, h1, h2⟩
    · left
      by_cases hi : i < H1.length
      · rw [Env.grw_get hE hi] at h1
        refine ⟨i, cs, h1, ?_⟩
        rw [← h2]; show _ = (if i = H1.length then _ else _)
        rw [if_neg (by omega)]
      · by_cases he : i = H1.length
        · subst he
          refine ⟨ib, _, hbox, ?_⟩
          rw [← h2]; show _ = (if H1.length = H1.length then _ else _)
          rw [if_pos rfl]
        · exfalso
          have : (E.grw H1 ib id k cp sz es).H[i]? = ([.row [.slice (es.take k) (.tok (H1.length + 1))], .buf k sz] : Heap)[i - H1.length]? := by
            show (H1 ++ _)[i]? = _
            rw [List.getElem?_append_right (by omega)]
          rw [this] at h1
          match hd : i - H1.length, h1 with
          | 0, _ => omega
          | 1, h1 => cases h1
          | j + 2, h1 => cases h1
    · by_cases hi : i < H1.length
      · right
        rw [Env.grw_get hE hi] at h1
        refine ⟨i, m, s, h1, ?_⟩
        rw [← h2]; show _ = (if i = H1.length + 1 then _ else _)
        rw [if_neg (by omega)]
      · left
        have : (E.grw H1 ib id k cp sz es).H[i]? = ([.row [.slice (es.take k) (.tok (H1.length + 1))], .buf k sz] : Heap)[i - H1.length]? := by
          show (H1 ++ _)[i]? = _
          rw [List.getElem?_append_right (by omega)]
        rw [this] at h1
        match hd : i - H1.length, h1 with
        | 0, h1 => cases h1
        | 1, _ =>
          have e : i = H1.length + 1 := by omega
          have h2 : (if i = H1.length + 1 then some (E.ρ id) else E.tb i) = some b := h2
          rw [if_pos e] at h2
          exact ⟨id, _, hrow, by cases h2; rfl⟩
        | j + 2, h1 => cases h1

include ho hE hrow hk hcp hes hb in
theorem Env.grw_msl {v : Value} (h : VRel E.view v (.msl id 0 k cp)) : VRel (E.grw H1 ib id k cp sz es).view v (.slice (es.take k) (.tok (H1.length + 1))) := by
  obtain ⟨arr, elem, h1, h2, h3, h4⟩ := ho.rows id _ hrow
  cases h with
  | msl _ _ _ _ hbn hm =>
    have hlenf := flatE_length es hes
    have hκ : (E.grw H1 ib id k cp sz es).κ (E.ρ id) = .buf (k * sz) (cp * sz) := by simp only [Env.grw, if_pos]
    let vs : Nat → Nat → Value := fun i j => arr.getD (i * sz + j) undef
    have hbound : ∀ i j, i < k → j < sz → i * sz + j < k * sz := by
      intro i j hi hj
      have : (i + 1) * sz ≤ k * sz := Nat.mul_le_mul_right _ (by omega)
      rw [Nat.add_mul] at this; omega
    have hks : k * sz ≤ es.length * sz := Nat.mul_le_mul_right _ hk
    have hcell2 : ∀ i j, i < k → j < sz → (E.grw H1 ib id k cp sz es).view.cell ⟨E.ρ id, i * sz + j, none⟩ = some (vs i j) := by
      intro i j hi hj
      have hbd := hbound i j hi hj
      simp only [Env.view, hκ, Kind.stable, decide_eq_true_eq, if_pos hbd]
      show E.w.cell? _ = _
      rw [cell_row h1]
      show _ = some (arr.getD _ undef)
      rw [Array.getD_eq_getD_getElem?, Array.getElem?_eq_getElem (by omega)]; rfl
    have hadd : ∀ n, (⟨E.ρ id, 0, none⟩ : Addr).add n = ⟨E.ρ id, n, none⟩ := by
      intro n; unfold Addr.add; split
      · rename_i e; subst e; rfl
      · simp
    have hget1 : (E.grw H1 ib id k cp sz es).H[H1.length + 1]? = some (.buf k sz) := by
      show (H1 ++ _)[H1.length + 1]? = _
      rw [List.getElem?_append_right (by omega), Nat.add_sub_cancel_left]; rfl
    have htake : (es.take k).length = k := by rw [List.length_take]; omega
    refine .slice ⟨E.ρ id, 0, none⟩ k cp sz (es.take k) _ vs htake (by omega) hm ?_ ?_ ?_ ⟨⟨_, hget1, by simp⟩, fun t ht => ?_⟩
    · intro i hi
      rw [List.getElem_take]
      exact hes _ (List.getElem_mem _)
    · intro i j hi hj
      rw [hadd]; exact hcell2 i j hi hj
    · intro i j hi hj
      rw [List.length_take] at hi
      have hi' : i < es.length := by omega
      have hik : i < k := by omega
      have hjs : j < sz := by rw [List.getElem_take] at hj; rwa [hes _ (List.getElem_mem _)] at hj
      have hlt := hbound i j hik hjs
      have hlt' : i * sz + j < (flatE es).length := by rw [hlenf]; omega
      have hget := flatE_get es hes i j hi' hjs
      have hr := h3 (i * sz + j) hlt'
      rw [List.getElem?_eq_getElem hlt', List.getElem?_eq_getElem (by rw [hes _ (List.getElem_mem _)]; exact hjs)] at hget
      have hget' := Option.some.inj hget
      have hr2 := Env.grw_rel (ib := ib) (id := id) (k := k) (cp := cp) (sz := sz) (es := es) ho hE hrow hr (by
        rw [hget']; exact hb _ (List.getElem_mem _) _ (List.getElem_mem _))
      rw [hget'] at hr2
      simp only [List.getElem_take]
      exact hr2
    · simp only [Env.view, hget1] at ht
      have e2 : (E.grw H1 ib id k cp sz es).tb (H1.length + 1) = some (E.ρ id) := by simp only [Env.grw, if_pos]
      rw [e2] at ht
      simp only [Option.bind_some, hκ, Option.some.injEq] at ht
      subst ht
      exact ⟨by simp, fun _ => .inr ⟨_, _, _, 0, rfl, rfl, by simp, by simp⟩⟩

include ho hE hib hid hne hbox hrow hk hcp hes hb in
theorem Env.Ok.grw (hb1 : HBel H1.length H1) : (E.grw H1 ib id k cp sz es).Ok := by
  have hg : ∀ {i : Nat} {o : AObj}, i < H1.length → (E.grw H1 ib id k cp sz es).H[i]? = some o → E.H[i]? = some o := fun hi h => by rw [← Env.grw_get hE hi]; exact h
  have hρ : ∀ i, i < H1.length → (E.grw H1 ib id k cp sz es).ρ i = E.ρ i := fun i hi => by show (if i = H1.length then _ else _) = _; rw [if_neg (by omega)]
  have hρ0 : (E.grw H1 ib id k cp sz es).ρ H1.length = E.ρ ib := by show (if H1.length = H1.length then _ else _) = _; rw [if_pos rfl]
  have htb : ∀ i, i < H1.length → (E.grw H1 ib id k cp sz es).tb i = E.tb i := fun i hi => by show (if i = H1.length + 1 then _ else _) = _; rw [if_neg (by omega)]
  have htb1 : (E.grw H1 ib id k cp sz es).tb (H1.length + 1) = some (E.ρ id) := by show (if H1.length + 1 = H1.length + 1 then _ else _) = _; rw [if_pos rfl]
  have hκ : ∀ b, b ≠ E.ρ id → (E.grw H1 ib id k cp sz es).κ b = E.κ b := fun b hb => by simp only [Env.grw, if_neg hb]
  have hout : ∀ i o, ¬ i < H1.length → (E.grw H1 ib id k cp sz es).H[i]? = some o → (i = H1.length ∧ o = .row [.slice (es.take k) (.tok (H1.length + 1))]) ∨ (i = H1.length + 1 ∧ o = .buf k sz) := by
    intro i o hi h
    have : (E.grw H1 ib id k cp sz es).H[i]? = ([.row [.slice (es.take k) (.tok (H1.length + 1))], .buf k sz] : Heap)[i - H1.length]? := by
      show (H1 ++ _)[i]? = _
      rw [List.getElem?_append_right (by omega)]
    rw [this] at h
    match hd : i - H1.length, h with
    | 0, h => cases h; exact .inl ⟨by omega, rfl⟩
    | 1, h => cases h; exact .inr ⟨by omega, rfl⟩
    | j + 2, h => cases h
  obtain ⟨arrI, elemI, i1, i2, i3, i4⟩ := ho.rows id _ hrow
  obtain ⟨arrB, elemB, b1, b2, b3, b4⟩ := ho.rows ib _ hbox
  have hbi : E.ρ ib ≠ E.ρ id := fun e => hne (ho.injr ib id _ _ hbox hrow e)
  refine ⟨?_, ?_, ?_, ?_⟩
  · intro i cs hi
    by_cases hl : i < H1.length
    · have hi1 : H1[i]? = some (.row cs) := by rw [← cut_get hE hl]; exact hg hl hi
      obtain ⟨arr, elem, h1, h2, h3, h4⟩ := ho.rows i cs (hg hl hi)
      have hm : AObj.row cs ∈ H1 := List.mem_of_getElem? hi1
      have hni : E.ρ i ≠ E.ρ id := fun e => by have := ho.injr i id _ _ (hg hl hi) hrow e; omega
      rw [hρ i hl]
      exact ⟨arr, elem, h1, h2, fun j hj => Env.grw_rel ho hE hrow (h3 j hj) (hb1 _ hm _ (List.getElem_mem hj)), by rw [hκ _ hni]; exact h4⟩
    · rcases hout i _ hl hi with ⟨rfl, e⟩ | ⟨_, e⟩
      · cases e
        rw [hρ0]
        refine ⟨arrB, elemB, b1, by simpa using b2, fun j hj => ?_, by rw [hκ _ hbi]; exact b4⟩
        have hj0 : j = 0 := by simp at hj; omega
        subst hj0
        exact Env.grw_msl ho hE hrow hk hcp hes hb (b3 0 (by simp))
      · cases e
  · intro i n s b hi hb'
    by_cases hl : i < H1.length
    · rw [htb i hl] at hb'
      obtain ⟨arr, elem, pos, h1, h2⟩ := ho.bufs i n s b (hg hl hi) hb'
      have hni : b ≠ E.ρ id := by rintro e; rw [e, i4] at h2; cases h2
      exact ⟨arr, elem, pos, h1, by rw [hκ _ hni]; exact h2⟩
    · rcases hout i _ hl hi with ⟨_, e⟩ | ⟨rfl, e⟩
      · cases e
      · cases e
        rw [htb1] at hb'
        cases hb'
        refine ⟨arrI, elemI, k * sz, i1, ?_⟩
        rw [i2, flatE_length es hes, hcp]
        simp only [Env.grw, if_pos]
  · intro i i' cs cs' h1 h2 e
    by_cases hl : i < H1.length
    · by_cases hl' : i' < H1.length
      · rw [hρ i hl, hρ i' hl'] at e
        exact ho.injr i i' cs cs' (hg hl h1) (hg hl' h2) e
      · rcases hout i' _ hl' h2 with ⟨rfl, _⟩ | ⟨_, e'⟩
        · rw [hρ i hl, hρ0] at e
          have := ho.injr i ib _ _ (hg hl h1) hbox e
          omega
        · cases e'
    · rcases hout i _ hl h1 with ⟨rfl, _⟩ | ⟨_, e'⟩
      · by_cases hl' : i' < H1.length
        · rw [hρ i' hl', hρ0] at e
          have := ho.injr ib i' _ _ hbox (hg hl' h2) e
          omega
        · rcases hout i' _ hl' h2 with ⟨rfl, _⟩ | ⟨_, e'⟩
          · rfl
          · cases e'
      · cases e'
  · intro i i' n s n' s' b h1 h2 e e'
    by_cases hl : i < H1.length
    · by_cases hl' : i' < H1.length
      · rw [htb i hl] at e
        rw [htb i' hl'] at e'
        exact ho.injb i i' n s n' s' b (hg hl h1) (hg hl' h2) e e'
      · rcases hout i' _ hl' h2 with ⟨_, q⟩ | ⟨rfl, _⟩
        · cases q
        · rw [htb i hl] at e
          rw [htb1] at e'
          cases e'
          obtain ⟨_, _, _, _, h6⟩ := ho.bufs i n s _ (hg hl h1) e
          rw [i4] at h6; cases h6
    · rcases hout i _ hl h1 with ⟨_, q⟩ | ⟨rfl, _⟩
      · cases q
      · rw [htb1] at e
        cases e
        by_cases hl' : i' < H1.length
        · rw [htb i' hl'] at e'
          obtain ⟨_, _, _, _, h6⟩ := ho.bufs i' n' s' _ (hg hl' h2) e'
          rw [i4] at h6; cases h6
        · rcases hout i' _ hl' h2 with ⟨_, q⟩ | ⟨rfl, _⟩
          · cases q
          · rfl
end

section
variable {P : Program} {N nb : Nat} {Q : Post}
/-- The slots that are kept: the box under its new name, and what lies below. -/
def GrwL (T : Slots) (ib n : Nat) : List (Nat × PV) → Prop
  | [] => True
  | (d, v) :: l => ((T d = v ∧ Bel n v) ∨ (T d = .optr ib 0 ∧ v = .optr n 0)) ∧ GrwL T ib n l

theorem awp_grw {c : Code} {T : Slots} {H : Heap} (l : List (Nat × PV)) {H1 L : Heap} (ib id k cp sz : Nat) (es : List PV) (hl : GrwL T ib H1.length l) (hH : H = H1 ++ L) (hn : nb ≤ H1.length) (hb1 : HBel H1.length H1)
    (hib : H1.length ≤ ib) (hid : H1.length ≤ id) (hne : ib ≠ id) (hbox : H[ib]? = some (.row [.msl id 0 k cp])) (hrow : H[id]? = some (.row (flatE es))) (hk : k ≤ es.length) (hcp : es.length = cp)
    (hes : ∀ e ∈ es, e.cells.length = sz) (hb : ∀ e ∈ es, ∀ x ∈ e.cells, Bel H1.length x)
    (h : AWP P N nb c Q (mkS l) (H1 ++ [.row [.slice (es.take k) (.tok (H1.length + 1))], .buf k sz])) : AWP P N nb c Q T H := by
  intro E a ho hE ht
  have hE' : E.H = H1 ++ L := hE.trans hH
  rw [← hE] at hbox hrow
  have hbx : ∀ {v : Value}, VRel E.view v (.optr ib 0) → VRel (E.grw H1 ib id k cp sz es).view v (.optr H1.length 0) := by
    intro v hv
    cases hv with
    | optr _ _ h =>
      have e : (E.grw H1 ib id k cp sz es).view.rho H1.length = E.view.rho ib := by show (if H1.length = H1.length then _ else _) = _; rw [if_pos rfl]; rfl
      rw [← e]
      refine .optr _ _ ⟨.row [.slice (es.take k) (.tok (H1.length + 1))], ?_, by simp⟩
      show (H1 ++ _)[H1.length]? = _
      rw [List.getElem?_append_right (Nat.le_refl _), Nat.sub_self]; rfl
  refine wp_mono (h (E.grw H1 ib id k cp sz es) a (ho.grw hE' hib hid hne hbox hrow hk hcp hes hb hb1) rfl ⟨ht.size, ht.defers, ?_⟩) fun e a w hl => lift_mono (Env.grw_leN ho hE' hbox hrow hn) (fun _ _ _ q => q) hl
  intro i hi
  have hT := ht.rel i hi
  clear h hi
  induction l with
  | nil => exact .junk _
  | cons x l ih =>
    obtain ⟨d, v⟩ := x
    simp only [mkS, upd]
    split
    · rename_i e
      subst e
      rcases hl.1 with ⟨h1, h2⟩ | ⟨h1, rfl⟩
      · rw [← h1] at h2 ⊢; exact Env.grw_rel ho hE' hrow hT h2
      · rw [h1] at hT; exact hbx hT
    · exact ih hl.2
end
end Go.Abs
namespace Go.Abs
/-! One object, or two, of a caller's heap. -/
def gH (H : Heap) (i : Nat) (o : AObj) : Heap := H.set i o
theorem gH_len (H : Heap) (i : Nat) (o : AObj) : (gH H i o).length = H.length := by simp [gH]
theorem gH_rules {H : Heap} {i : Nat} (hi : i < H.length) :
    (∀ o L, (gH H i o ++ L)[i]? = some o) ∧ (∀ o L o', (gH H i o ++ L).set i o' = gH H i o' ++ L) ∧
    (∀ o L k, (gH H i o ++ L)[H.length + k]? = L[k]?) ∧ (∀ o L, (gH H i o ++ L)[H.length]? = L[0]?) ∧ (∀ o L k o', (gH H i o ++ L).set (H.length + k) o' = gH H i o ++ L.set k o') ∧ (∀ o L o', (gH H i o ++ L).set H.length o' = gH H i o ++ L.set 0 o') ∧
    (∀ o, (gH H i o).length = H.length) ∧ (∀ k, (i = H.length + k) = False) ∧ ((i = H.length) = False) ∧ (∀ k, (H.length + k == i) = false) ∧ ((H.length == i) = false) ∧ (∀ k, (i == H.length + k) = false) ∧ ((i == H.length) = false) ∧ (∀ k, (H.length + k = i) = False) ∧ ((H.length = i) = False) := by
  have hset : ∀ o L o', (gH H i o ++ L).set i o' = gH H i o' ++ L := fun o L o' => by rw [List.set_append_left _ _ (by rw [gH_len]; exact hi)]; simp only [gH]; rw [List.set_set]
  refine ⟨fun o L => ?_, hset, fun o L k => ?_, fun o L => ?_, fun o L k o' => ?_, fun o L o' => ?_, fun o => gH_len .., fun k => by simp; omega, by simp; omega, fun k => by simp; omega, by simp; omega, fun k => by simp; omega, by simp; omega, fun k => by simp; omega, by simp; omega⟩
  · rw [List.getElem?_append_left (by rw [gH_len]; exact hi)]; simp only [gH]; rw [List.getElem?_set_self hi]
  · have := get_app (gH H i o) L k; rwa [gH_len] at this
  · have := get_app0 (gH H i o) L; rwa [gH_len] at this
  · have := set_app (gH H i o) L k o'; rwa [gH_len] at this
  · have := set_app0 (gH H i o) L o'; rwa [gH_len] at this
theorem gH_self {H : Heap} {i : Nat} {o : AObj} (h : H[i]? = some o) : gH H i o = H := list_set_self h
theorem gH_bel {H : Heap} {i n : Nat} {o o' : AObj} (hb : HBel n (gH H i o)) (hi : i < H.length) (ho : OBel n o') : HBel n (gH H i o') := by
  intro x hx
  obtain ⟨k, hk⟩ := List.mem_iff_getElem?.1 hx
  simp only [gH] at hk
  by_cases e1 : k = i
  · subst e1
    rw [List.getElem?_set_self hi] at hk
    cases hk
    exact ho
  · rw [List.getElem?_set_ne (Ne.symm e1)] at hk
    refine hb x (List.mem_iff_getElem?.2 ⟨k, ?_⟩)
    simp only [gH]
    rw [List.getElem?_set_ne (Ne.symm e1)]; exact hk
theorem gH_set {P : Program} {f : FuncId} {args : List PV} {r : PV} {i : Nat} {o o2 : AObj}
    (hk : ∀ H : Heap, i < H.length → ACalls P f args (gH H i o) fun r' H' => r' = r ∧ H' = gH H i o2) (H : Heap) (h : H[i]? = some o) : ACalls P f args H fun r' H' => r' = r ∧ H' = H.set i o2 := by
  have := hk H (len_of_get h)
  rw [gH_self h] at this
  exact this
/-- The arena's box and its slice's token. -/
def aH (H : Heap) (ib k : Nat) (es : List PV) (n : Nat) : Heap := (H.set ib (.row [.slice es (.tok k)])).set k (.buf n 4)
theorem aH_len (H : Heap) (ib k : Nat) (es : List PV) (n : Nat) : (aH H ib k es n).length = H.length := by simp [aH]
theorem aH_rules {H : Heap} {ib k : Nat} (hi : ib < H.length) (hk : k < H.length) (hne : ib ≠ k) :
    (∀ es n L, (aH H ib k es n ++ L)[ib]? = some (.row [.slice es (.tok k)])) ∧ (∀ es n L, (aH H ib k es n ++ L)[k]? = some (.buf n 4)) ∧
    (∀ es n L es', (aH H ib k es n ++ L).set ib (.row [.slice es' (.tok k)]) = aH H ib k es' n ++ L) ∧ (∀ es n L n', (aH H ib k es n ++ L).set k (.buf n' 4) = aH H ib k es n' ++ L) ∧
    (∀ es n L j, (aH H ib k es n ++ L)[H.length + j]? = L[j]?) ∧ (∀ es n L, (aH H ib k es n ++ L)[H.length]? = L[0]?) ∧ (∀ es n L j o', (aH H ib k es n ++ L).set (H.length + j) o' = aH H ib k es n ++ L.set j o') ∧ (∀ es n L o', (aH H ib k es n ++ L).set H.length o' = aH H ib k es n ++ L.set 0 o') ∧
    (∀ es n, (aH H ib k es n).length = H.length) ∧ (∀ j, (ib = H.length + j) = False) ∧ ((ib = H.length) = False) ∧ (∀ j, (H.length + j == ib) = false) ∧ ((H.length == ib) = false) ∧ (∀ j, (ib == H.length + j) = false) ∧ ((ib == H.length) = false) ∧ (∀ j, (H.length + j = ib) = False) ∧ ((H.length = ib) = False) ∧
    (∀ j, (k = H.length + j) = False) ∧ ((k = H.length) = False) ∧ (∀ j, (H.length + j == k) = false) ∧ ((H.length == k) = false) ∧ (∀ j, (k == H.length + j) = false) ∧ ((k == H.length) = false) ∧ (∀ j, (H.length + j = k) = False) ∧ ((H.length = k) = False) ∧
    ((ib = k) = False) ∧ ((k = ib) = False) ∧ ((ib == k) = false) ∧ ((k == ib) = false) := by
  refine ⟨fun es n L => ?_, fun es n L => ?_, fun es n L es' => ?_, fun es n L n' => ?_, fun es n L j => ?_, fun es n L => ?_, fun es n L j o' => ?_, fun es n L o' => ?_, fun es n => aH_len .., fun k => by simp; omega, by simp; omega, fun k => by simp; omega, by simp; omega, fun k => by simp; omega, by simp; omega, fun k => by simp; omega, by simp; omega,
    fun k => by simp; omega, by simp; omega, fun k => by simp; omega, by simp; omega, fun k => by simp; omega, by simp; omega, fun k => by simp; omega, by simp; omega, by simp; omega, by simp; omega, by simp; omega, by simp; omega⟩
  · rw [List.getElem?_append_left (by rw [aH_len]; exact hi)]; simp only [aH]; rw [List.getElem?_set_ne (Ne.symm hne), List.getElem?_set_self hi]
  · rw [List.getElem?_append_left (by rw [aH_len]; exact hk)]; simp only [aH]; rw [List.getElem?_set_self (by simpa using hk)]
  · rw [List.set_append_left _ _ (by rw [aH_len]; exact hi)]; simp only [aH]; rw [List.set_comm _ _ (Ne.symm hne), List.set_set]
  · rw [List.set_append_left _ _ (by rw [aH_len]; exact hk)]; simp only [aH]; rw [List.set_set]
  · have := get_app (aH H ib k es n) L j; rwa [aH_len] at this
  · have := get_app0 (aH H ib k es n) L; rwa [aH_len] at this
  · have := set_app (aH H ib k es n) L j o'; rwa [aH_len] at this
  · have := set_app0 (aH H ib k es n) L o'; rwa [aH_len] at this
theorem aH_self {H : Heap} {ib k : Nat} {es : List PV} {n : Nat} (h : H[ib]? = some (.row [.slice es (.tok k)])) (h2 : H[k]? = some (.buf n 4)) : aH H ib k es n = H := by
  unfold aH
  rw [list_set_self h]
  exact list_set_self h2
theorem aH_bel {H : Heap} {ib k n0 : Nat} {es es' : List PV} {n n' : Nat} (hb : HBel n0 (aH H ib k es n)) (hi : ib < H.length) (hk : k < H.length) (hne : ib ≠ k) (ho : Bel n0 (.slice es' (.tok k))) : HBel n0 (aH H ib k es' n') := by
  intro x hx
  obtain ⟨j, hj⟩ := List.mem_iff_getElem?.1 hx
  simp only [aH] at hj
  by_cases e2 : j = k
  · subst e2
    rw [List.getElem?_set_self (by simpa using hk)] at hj
    cases hj
    trivial
  · rw [List.getElem?_set_ne (Ne.symm e2)] at hj
    by_cases e1 : j = ib
    · subst e1
      rw [List.getElem?_set_self hi] at hj
      cases hj
      exact fun c hc => by rcases List.mem_singleton.1 hc with rfl; exact ho
    · rw [List.getElem?_set_ne (Ne.symm e1)] at hj
      refine hb x (List.mem_iff_getElem?.2 ⟨j, ?_⟩)
      simp only [aH]
      rw [List.getElem?_set_ne (Ne.symm e2), List.getElem?_set_ne (Ne.symm e1)]; exact hj
theorem aH_set {P : Program} {f : FuncId} {args : List PV} {r : PV} {ib k : Nat} {es es2 : List PV} {n n2 : Nat} (hne : ib ≠ k)
    (hk : ∀ H : Heap, ib < H.length → k < H.length → ACalls P f args (aH H ib k es n) fun r' H' => r' = r ∧ H' = aH H ib k es2 n2) (H : Heap) (h : H[ib]? = some (.row [.slice es (.tok k)])) (h2 : H[k]? = some (.buf n 4)) :
    ACalls P f args H fun r' H' => r' = r ∧ H' = aH H ib k es2 n2 := by
  have := hk H (len_of_get h) (len_of_get h2)
  rw [aH_self h h2] at this
  exact this
theorem ACalls.trunc0 {P : Program} {f : FuncId} {args : List PV} {r : PV} {H H1 : Heap} (h : ACalls P f args H fun r' H' => r' = r ∧ ∃ L, H' = H1 ++ L) (hlen : H1.length = H.length) (hbel : HBel H.length H → HBel H1.length H1) (hr : Bel H.length r) : ACalls P f args H fun r' H' => r' = r ∧ H' = H1 :=
  ACalls.trunc (h.mono fun r' H' ⟨h1, L, h2⟩ => ⟨H1, L, h2, hlen, fun hb => by have := hbel hb; rw [hlen] at this; exact this, h1 ▸ hr, h1, rfl⟩)
theorem aH_app {H L : Heap} {ib k : Nat} {es es' : List PV} {n n' : Nat} (hi : ib < H.length) (hk : k < H.length) (hne : ib ≠ k) : aH (aH H ib k es n ++ L) ib k es' n' = aH H ib k es' n' ++ L := by
  obtain ⟨_, _, h3, h4, _⟩ := aH_rules hi hk hne
  show ((aH H ib k es n ++ L).set ib _).set k _ = _
  rw [h3, h4]
theorem gH_app {H L : Heap} {i : Nat} {o o' : AObj} (hi : i < H.length) : (gH H i o ++ L).set i o' = gH H i o' ++ L := (gH_rules hi).2.1 o L o'
/-- Sizes, once more. -/
theorem tszL_drop {cs : List St} {i : Nat} (h : i < cs.length) (L s : Int) : tszL ((cs.drop i).map tszT) L s = if s > L then s else tszL ((cs.drop (i + 1)).map tszT) L (s + tszT cs[i] (L - s)) := by
  rw [List.drop_eq_getElem_cons h, List.map_cons, tszL]
theorem foldl_max_take {l : List Int} {i : Nat} (h : i < l.length) (a : Int) : (l.take (i + 1)).foldl max a = max ((l.take i).foldl max a) l[i] := by
  rw [List.take_succ_eq_append_getElem h, List.foldl_append]; rfl
end Go.Abs
set_option maxRecDepth 4000
namespace Go.Abs
open Go.Proofs

theorem tsz_k : ∀ (k : Nat) (t : St), t.size ≤ k → t.W → ∀ L : Int, 0 ≤ L → L ≤ 4000 → PC Try.prog 5 [t.enc, vint L] (vint (tszT t L))
  | 0, t, h, _, _, _, _ => by cases t; simp [St.size] at h
  | k + 1, t, h, hw, L, hL0, hL1 => by
    refine pc_of (N := 27) Try.func5 rfl rfl (by simp) (by simp [St.bel, Gn.bel, Ga.bel, bel_St, bel_Gn, bel_ints0, Bel.int]) (.int _ _) ?_
    repeat (refine awp_seq ?_)
    refine e_eval (by simp only [jA, jO, jN, seval, y27, vint, qF] <;> with_reducible rfl) (by decide) ?_
    repeat (refine awp_seq ?_)
    refine e_eval (by simp only [jA, jO, jN, seval, vint, qF] <;> with_reducible rfl) (by decide) ?_
    repeat (refine awp_seq ?_)
    refine e_eval (by simp only [jA, jO, jN, seval, y25, y27, vint, qF] <;> with_reducible rfl) (by decide) ?_
    repeat (refine awp_seq ?_)
    refine awp_forS (σ := Int) (t.ch.length) (fun (s : Int) => [(1, vint L), (2, .optr 0 0), (5, vint s), (9, .slice (t.ch.map St.enc) .none)]) [1, 2, 5, 9] ([]) (fun (s : Int) => [.row t.enc.cells]) (fun (i : Nat) (s : Int) => tszT t L = tszL ((t.ch.drop i).map tszT) L s ∧ 1 ≤ s ∧ s ≤ L + 1) (1) ([]) rfl rfl rfl rfl rfl rfl rfl rfl rfl (by decide) (by decide) (by decide) (fun _ => rfl) (hw.max_ch) ⟨(by first | rfl | (simp only [jN, seval, vint, qF] <;> first | done | with_reducible rfl)), (by first | rfl | (simp only [jN, seval, vint, qF] <;> first | done | with_reducible rfl)), (by first | rfl | (simp only [jN, seval, vint, qF] <;> first | done | with_reducible rfl)), (by first | rfl | (simp only [jN, seval, vint, qF] <;> first | done | with_reducible rfl)), (by first | rfl | (simp only [jN, seval, vint, qF] <;> first | done | with_reducible rfl)), (by first | rfl | (simp only [jN, seval, vint, qF] <;> first | done | with_reducible rfl)), trivial⟩ (by first | rfl | (simp only [jN, seval, vint, qF] <;> first | done | with_reducible rfl)) (⟨by rw [tszT_eq]; rfl, by omega, by omega⟩) (fun _ _ _ => by first | exact Nat.zero_le _ | (simp only [List.length_append]; omega)) ?_ ?_ ?_
    · exact fun i s hg => ⟨by simp only [StS, GnS, GaS, List.nil_append]; repeat (first | exact hbel_nil _ | exact trivial | exact obel_row_nil _ | (refine HBel.cons ?_ ?_) | (refine obel_row_cons (by first | exact bel_ints0 _ _ | exact bel_St _ _ | exact St.bel _ _ | exact bel_Gn _ _ | exact Gn.bel _ _ | exact Ga.bel _ _ | exact bel_Gn_tok _ (by simp) | exact bel_St_tok _ (by simp) | exact bel_int_tok _ (by simp) | exact bel_nil0 _ | exact bel_nil1 _ | exact Bel.int _ _ | exact Bel.bool _ | exact Bel.str _ | exact Bel.nilp | exact Bel.nilfn | exact Bel.optr _ _ (by simp) | exact bel_nil0 _ | exact bel_nil1 _ | exact bel_fn0 _ _ | assumption) ?_)), by repeat (first | exact BelL.nil | refine BelL.cons (by first | exact bel_ints0 _ _ | exact bel_St _ _ | exact St.bel _ _ | exact bel_Gn _ _ | exact Gn.bel _ _ | exact Ga.bel _ _ | exact bel_Gn_tok _ (by simp) | exact bel_St_tok _ (by simp) | exact bel_int_tok _ (by simp) | exact bel_nil0 _ | exact bel_nil1 _ | exact Bel.int _ _ | exact Bel.bool _ | exact Bel.str _ | exact Bel.nilp | exact Bel.nilfn | exact Bel.optr _ _ (by simp) | exact bel_nil0 _ | exact bel_nil1 _ | exact bel_fn0 _ _ | assumption) ?_)⟩
    · intro i s hi hg
      have g1 := ix_nat hi
      have g2 := get_enc St.enc hi
      have hmem : t.ch[i] ∈ t.ch := List.getElem_mem hi
      have hsz := St.size_ch hmem
      have hcW := hw.ch hmem
      have hd := tszL_drop hi L s
      obtain ⟨c, ce⟩ : ∃ c, t.ch[i] = c := ⟨_, rfl⟩
      rw [ce] at g2 hmem hsz hcW hd
      have w1 : IntKind.i64.wrap (L - s) = L - s := wrap_id (by omega) (by omega)
      repeat (refine awp_seq ?_)
      refine e_eval (by simp only [jA, jO, jN, seval, y25, y27, vint, qF, g1, g2, Int.toNat_natCast, w1] <;> with_reducible rfl) (by decide) ?_
      repeat (refine awp_seq ?_)
      refine e_eval (by simp only [jA, jO, jN, seval, y3, vint, qF, g1, g2, Int.toNat_natCast, w1] <;> with_reducible rfl) (by decide) ?_
      repeat (refine awp_seq ?_)
      refine awp_cond rfl (by simp only [jN, seval, vint, qF, g1, g2, Int.toNat_natCast, w1] <;> with_reducible rfl) (fun bt17 => ?_) (fun bt17 => ?_)
      ·
        have hf : tszT t L = s := by rw [hg.1, hd, if_pos (by simpa using bt17)]
        repeat (refine awp_seq ?_)
        refine awp_exit ?_
        simp only [thenQ, blockQ, reduceIte, Nat.reduceEqDiff, Nat.succ_ne_self, if_true, if_false]
        repeat (refine awp_seq ?_)
        refine e_eval (by simp only [jA, jO, jN, seval, vint, qF, g1, g2, Int.toNat_natCast, w1] <;> with_reducible rfl) (by decide) ?_
        repeat (refine awp_seq ?_)
        refine awp_ret ⟨.inr rfl, _, rfl, ?_⟩
        simp only [jN, seval, vint, qF, hf]
      ·
        have hns : ¬ s > L := by simpa using bt17
        have hbd := tszT_bd c (L - s) (by omega)
        have w2 : IntKind.i64.wrap (s + tszT c (L - s)) = s + tszT c (L - s) := wrap_id (by omega) (by omega)
        repeat (refine awp_seq ?_)
        refine awp_skip ?_
        repeat (refine awp_seq ?_)
        refine awp_region ?_
        refine e_take 5 (by simp only [jA, jO, jN, seval, y3, y27, vint, qF, g1, g2, Int.toNat_natCast, w1, w2] <;> with_reducible rfl) (by decide) ?_
        refine aops_pure (by simp only [jC, jN, seval, vint, qF, g1, g2, Int.toNat_natCast, w1, w2] <;> with_reducible rfl) (by simp only [jC, jN, seval, vint, qF, g1, g2, Int.toNat_natCast, w1, w2]) (by decide) Trygo5 (tsz_k k c (by omega) hcW (L - s) (by omega) (by omega) _) ?_
        refine e_end (by simp only [jA, jO, jN, seval, y3, vint, qF, g1, g2, Int.toNat_natCast, w1, w2] <;> with_reducible rfl) (by decide) ?_
        exact ⟨⟨rfl, rfl, trivial⟩, s + tszT c (L - s), _, ⟨rfl, rfl, rfl, rfl, trivial⟩, by simp only [jN, seval, vint, qF] <;> rfl, by rw [hg.1, hd, if_neg hns], by omega, by omega⟩
    · intro s hg
      rw [List.drop_length] at hg
      have hf : tszT t L = s := hg.1
      repeat (refine awp_seq ?_)
      refine e_eval (by simp only [jA, jO, jN, seval, vint, qF] <;> with_reducible rfl) (by decide) ?_
      repeat (refine awp_seq ?_)
      refine awp_ret ⟨.inr rfl, _, rfl, ?_⟩
      simp only [jN, seval, vint, qF, hf]

theorem dpt_k : ∀ (k : Nat) (t : St), t.size ≤ k → k ≤ 4000 → t.W → PC Try.prog 6 [t.enc] (vint (dptT t))
  | 0, t, h, _, _ => by cases t; simp [St.size] at h
  | k + 1, t, h, hk, hw => by
    refine pc_of (N := 20) Try.func6 rfl rfl (by simp) (by simp [St.bel, Gn.bel, Ga.bel, bel_St, bel_Gn, bel_ints0, Bel.int]) (.int _ _) ?_
    repeat (refine awp_seq ?_)
    refine e_eval (by simp only [jA, jO, jN, seval, y27, vint, qF] <;> with_reducible rfl) (by decide) ?_
    repeat (refine awp_seq ?_)
    refine e_eval (by simp only [jA, jO, jN, seval, vint, qF] <;> with_reducible rfl) (by decide) ?_
    repeat (refine awp_seq ?_)
    refine e_eval (by simp only [jA, jO, jN, seval, y25, y27, vint, qF] <;> with_reducible rfl) (by decide) ?_
    repeat (refine awp_seq ?_)
    refine awp_forS (σ := Int) (t.ch.length) (fun (s : Int) => [(1, .optr 0 0), (3, vint s), (7, .slice (t.ch.map St.enc) .none)]) [1, 3, 7] ([]) (fun (s : Int) => [.row t.enc.cells]) (fun (i : Nat) (s : Int) => s = ((t.ch.map dptT).take i).foldl max 0 ∧ 0 ≤ s ∧ s ≤ 4000) (0) ([]) rfl rfl rfl rfl rfl rfl rfl rfl rfl (by decide) (by decide) (by decide) (fun _ => rfl) (hw.max_ch) ⟨(by first | rfl | (simp only [jN, seval, vint, qF] <;> first | done | with_reducible rfl)), (by first | rfl | (simp only [jN, seval, vint, qF] <;> first | done | with_reducible rfl)), (by first | rfl | (simp only [jN, seval, vint, qF] <;> first | done | with_reducible rfl)), (by first | rfl | (simp only [jN, seval, vint, qF] <;> first | done | with_reducible rfl)), (by first | rfl | (simp only [jN, seval, vint, qF] <;> first | done | with_reducible rfl)), trivial⟩ (by first | rfl | (simp only [jN, seval, vint, qF] <;> first | done | with_reducible rfl)) (⟨by simp, by omega, by omega⟩) (fun _ _ _ => by first | exact Nat.zero_le _ | (simp only [List.length_append]; omega)) ?_ ?_ ?_
    · exact fun i s hg => ⟨by simp only [StS, GnS, GaS, List.nil_append]; repeat (first | exact hbel_nil _ | exact trivial | exact obel_row_nil _ | (refine HBel.cons ?_ ?_) | (refine obel_row_cons (by first | exact bel_ints0 _ _ | exact bel_St _ _ | exact St.bel _ _ | exact bel_Gn _ _ | exact Gn.bel _ _ | exact Ga.bel _ _ | exact bel_Gn_tok _ (by simp) | exact bel_St_tok _ (by simp) | exact bel_int_tok _ (by simp) | exact bel_nil0 _ | exact bel_nil1 _ | exact Bel.int _ _ | exact Bel.bool _ | exact Bel.str _ | exact Bel.nilp | exact Bel.nilfn | exact Bel.optr _ _ (by simp) | exact bel_nil0 _ | exact bel_nil1 _ | exact bel_fn0 _ _ | assumption) ?_)), by repeat (first | exact BelL.nil | refine BelL.cons (by first | exact bel_ints0 _ _ | exact bel_St _ _ | exact St.bel _ _ | exact bel_Gn _ _ | exact Gn.bel _ _ | exact Ga.bel _ _ | exact bel_Gn_tok _ (by simp) | exact bel_St_tok _ (by simp) | exact bel_int_tok _ (by simp) | exact bel_nil0 _ | exact bel_nil1 _ | exact Bel.int _ _ | exact Bel.bool _ | exact Bel.str _ | exact Bel.nilp | exact Bel.nilfn | exact Bel.optr _ _ (by simp) | exact bel_nil0 _ | exact bel_nil1 _ | exact bel_fn0 _ _ | assumption) ?_)⟩
    · intro i s hi hg
      have g1 := ix_nat hi
      have g2 := get_enc St.enc hi
      have hmem : t.ch[i] ∈ t.ch := List.getElem_mem hi
      have hsz := St.size_ch hmem
      have hcW := hw.ch hmem
      have hd := foldl_max_take (l := t.ch.map dptT) (i := i) (by simpa using hi) 0
      rw [List.getElem_map, ← hg.1] at hd
      obtain ⟨c, ce⟩ : ∃ c, t.ch[i] = c := ⟨_, rfl⟩
      rw [ce] at g2 hmem hsz hcW hd
      have hbd := dptT_bd c
      repeat (refine awp_seq ?_)
      refine e_eval (by simp only [jA, jO, jN, seval, y25, y27, vint, qF, g1, g2, Int.toNat_natCast] <;> with_reducible rfl) (by decide) ?_
      repeat (refine awp_seq ?_)
      refine awp_region ?_
      refine e_take 2 (by simp only [jA, jO, jN, seval, y27, vint, qF, g1, g2, Int.toNat_natCast] <;> with_reducible rfl) (by decide) ?_
      refine aops_pure (by simp only [jC, jN, seval, vint, qF, g1, g2, Int.toNat_natCast] <;> with_reducible rfl) (by simp only [jC, jN, seval, vint, qF, g1, g2, Int.toNat_natCast]) (by decide) Trygo6 (dpt_k k c (by omega) (by omega) hcW _) ?_
      refine e_end (by simp only [jA, jO, jN, seval, y3, vint, qF, g1, g2, Int.toNat_natCast] <;> with_reducible rfl) (by decide) ?_
      exact ⟨⟨rfl, rfl, trivial⟩, max s (dptT c), _, ⟨rfl, rfl, rfl, trivial⟩, by simp only [jN, seval, vint, qF] <;> rfl, hd.symm, by omega, by omega⟩
    · intro s hg
      rw [List.take_of_length_le (by simp)] at hg
      have hf : dptT t = s + 1 := by rw [dptT_eq, ← hg.1]
      have w1 : IntKind.i64.wrap (s + 1) = s + 1 := wrap_id (by omega) (by omega)
      repeat (refine awp_seq ?_)
      refine e_eval (by simp only [jA, jO, jN, seval, y3, vint, qF, w1] <;> with_reducible rfl) (by decide) ?_
      repeat (refine awp_seq ?_)
      refine awp_ret ⟨.inr rfl, _, rfl, ?_⟩
      simp only [jN, seval, vint, qF, hf]

theorem trv_k : ∀ (k : Nat) (t : St), t.size ≤ k → t.W → PC Try.prog 13 [t.enc] (.bool (trV 100 t))
  | 0, t, h, _ => by cases t; simp [St.size] at h
  | k + 1, t, h, hw => by
    refine pc_of (N := 35) Try.func13 rfl rfl (by simp) (by simp [St.bel, Gn.bel, Ga.bel, bel_St, bel_Gn, bel_ints0, Bel.int]) (.bool _) ?_
    repeat (refine awp_seq ?_)
    refine e_eval (by simp only [jA, jO, jN, seval, y27, vint, qF] <;> with_reducible rfl) (by decide) ?_
    repeat (refine awp_seq ?_)
    refine g_eval (by simp only [jG, jO, jN, seval, y3, y9, y25, y27, vint, qF] <;> with_reducible rfl) (by decide) (by repeat (first | exact Fin.base _ | with_reducible apply Fin.keep | apply Fin.drop)) ?_
    repeat (refine awp_seq ?_)
    refine awp_cond rfl (by simp only [jN, seval, vint, qF] <;> with_reducible rfl) (fun bt23 => ?_) (fun bt23 => ?_)
    ·
      have hv : trV 100 t = false := by
        have e1 : decide (t.kind < 100) = !decide (t.kind ≥ 100) := by rw [Bool.eq_iff_iff]; simp
        rw [e1] at bt23
        rw [trV_eq]
        unfold badK
        revert bt23
        cases decide (t.kind ≥ 100) <;> cases decide ((t.ch.length : Int) > 0) <;> cases decide (t.text = []) <;> simp
      refine awp_sel [] (by simp only [jN, seval, vint, qF] <;> with_reducible rfl) ?_
      repeat (refine awp_seq ?_)
      refine e_eval (by simp only [jA, jO, jN, seval, vint, qF] <;> with_reducible rfl) (by decide) ?_
      repeat (refine awp_seq ?_)
      refine awp_ret ⟨.inr rfl, _, rfl, ?_⟩
      simp only [jN, seval, vint, qF, hv]
    ·
      have hv : trV 100 t = t.ch.all (trV 100) := by
        have e1 : decide (t.kind < 100) = !decide (t.kind ≥ 100) := by rw [Bool.eq_iff_iff]; simp
        rw [e1] at bt23
        rw [trV_eq]
        unfold badK
        revert bt23
        cases decide (t.kind ≥ 100) <;> cases decide ((t.ch.length : Int) > 0) <;> cases decide (t.text = []) <;> simp
      repeat (refine awp_seq ?_)
      refine awp_skip ?_
      refine awp_sel [1] (by simp only [jN, seval, vint, qF] <;> with_reducible rfl) ?_
      repeat (refine awp_seq ?_)
      refine e_eval (by simp only [jA, jO, jN, seval, y25, y27, vint, qF] <;> with_reducible rfl) (by decide) ?_
      repeat (refine awp_seq ?_)
      refine awp_forS (σ := Unit) (t.ch.length) (fun (u_ : Unit) => [(1, .optr 0 0), (25, .slice (t.ch.map St.enc) .none)]) [1, 25] ([]) (fun (u_ : Unit) => [.row t.enc.cells]) (fun (i : Nat) (u_ : Unit) => (t.ch.take i).all (trV 100) = true) (()) ([]) rfl rfl rfl rfl rfl rfl rfl rfl rfl (by decide) (by decide) (by decide) (fun _ => rfl) (hw.max_ch) ⟨(by first | rfl | (simp only [jN, seval, vint, qF] <;> first | done | with_reducible rfl)), (by first | rfl | (simp only [jN, seval, vint, qF] <;> first | done | with_reducible rfl)), (by first | rfl | (simp only [jN, seval, vint, qF] <;> first | done | with_reducible rfl)), (by first | rfl | (simp only [jN, seval, vint, qF] <;> first | done | with_reducible rfl)), trivial⟩ (by first | rfl | (simp only [jN, seval, vint, qF] <;> first | done | with_reducible rfl)) (by simp) (fun _ _ _ => by first | exact Nat.zero_le _ | (simp only [List.length_append]; omega)) ?_ ?_ ?_
      · exact fun i u_ hg => ⟨by simp only [StS, GnS, GaS, List.nil_append]; repeat (first | exact hbel_nil _ | exact trivial | exact obel_row_nil _ | (refine HBel.cons ?_ ?_) | (refine obel_row_cons (by first | exact bel_ints0 _ _ | exact bel_St _ _ | exact St.bel _ _ | exact bel_Gn _ _ | exact Gn.bel _ _ | exact Ga.bel _ _ | exact bel_Gn_tok _ (by simp) | exact bel_St_tok _ (by simp) | exact bel_int_tok _ (by simp) | exact bel_nil0 _ | exact bel_nil1 _ | exact Bel.int _ _ | exact Bel.bool _ | exact Bel.str _ | exact Bel.nilp | exact Bel.nilfn | exact Bel.optr _ _ (by simp) | exact bel_nil0 _ | exact bel_nil1 _ | exact bel_fn0 _ _ | assumption) ?_)), by repeat (first | exact BelL.nil | refine BelL.cons (by first | exact bel_ints0 _ _ | exact bel_St _ _ | exact St.bel _ _ | exact bel_Gn _ _ | exact Gn.bel _ _ | exact Ga.bel _ _ | exact bel_Gn_tok _ (by simp) | exact bel_St_tok _ (by simp) | exact bel_int_tok _ (by simp) | exact bel_nil0 _ | exact bel_nil1 _ | exact Bel.int _ _ | exact Bel.bool _ | exact Bel.str _ | exact Bel.nilp | exact Bel.nilfn | exact Bel.optr _ _ (by simp) | exact bel_nil0 _ | exact bel_nil1 _ | exact bel_fn0 _ _ | assumption) ?_)⟩
      · intro i u_ hi hg
        have g1 := ix_nat hi
        have g2 := get_enc St.enc hi
        have hmem : t.ch[i] ∈ t.ch := List.getElem_mem hi
        have hsz := St.size_ch hmem
        have hcW := hw.ch hmem
        have hal := fun h => all_take_succ (p := trV 100) hi hg h
        have hna : trV 100 t.ch[i] = false → t.ch.all (trV 100) = false := fun h => List.all_eq_false.2 ⟨_, hmem, by simpa using h⟩
        obtain ⟨c, ce⟩ : ∃ c, t.ch[i] = c := ⟨_, rfl⟩
        rw [ce] at g2 hmem hsz hcW hal hna
        repeat (refine awp_seq ?_)
        refine e_eval (by simp only [jA, jO, jN, seval, y25, y27, vint, qF, g1, g2, Int.toNat_natCast] <;> with_reducible rfl) (by decide) ?_
        repeat (refine awp_seq ?_)
        refine awp_region ?_
        refine e_take 1 (by simp only [jA, jO, jN, seval, y27, vint, qF, g1, g2, Int.toNat_natCast] <;> with_reducible rfl) (by decide) ?_
        refine aops_pure (by simp only [jC, jN, seval, vint, qF, g1, g2, Int.toNat_natCast] <;> with_reducible rfl) (by simp only [jC, jN, seval, vint, qF, g1, g2, Int.toNat_natCast]) (by decide) Trygo13 (trv_k k c (by omega) hcW _) ?_
        refine e_end (by simp only [jA, jO, jN, seval, vint, qF, g1, g2, Int.toNat_natCast] <;> with_reducible rfl) (by decide) ?_
        repeat (refine awp_seq ?_)
        refine awp_cond rfl (by simp only [jN, seval, vint, qF, g1, g2, Int.toNat_natCast] <;> with_reducible rfl) (fun bt33 => ?_) (fun bt33 => ?_)
        ·
          have hc : trV 100 c = false := by simpa using bt33
          rw [hna hc] at hv
          repeat (refine awp_seq ?_)
          refine e_eval (by simp only [jA, jO, jN, seval, vint, qF, g1, g2, Int.toNat_natCast] <;> with_reducible rfl) (by decide) ?_
          repeat (refine awp_seq ?_)
          refine awp_ret ⟨.inr rfl, _, rfl, ?_⟩
          simp only [jN, seval, vint, qF, hv]
        ·
          have hc : trV 100 c = true := by simpa using bt33
          repeat (refine awp_seq ?_)
          refine awp_skip ?_
          exact ⟨⟨rfl, rfl, trivial⟩, (), _, ⟨rfl, rfl, trivial⟩, by simp only [jN, seval, vint, qF] <;> rfl, hal hc⟩
      · intro u_ hg
        rw [List.take_length] at hg
        rw [hg] at hv
        repeat (refine awp_seq ?_)
        refine e_eval (by simp only [jA, jO, jN, seval, vint, qF] <;> with_reducible rfl) (by decide) ?_
        repeat (refine awp_seq ?_)
        refine awp_ret ⟨.inr rfl, _, rfl, ?_⟩
        simp only [jN, seval, vint, qF, hv]

theorem it1 (c : St) (h : PC Try.prog 21 [c.enc] (.bool (trV 100 c))) : PC Try.prog 32 [c.enc] (.bool (!trV 100 c)) := by
  refine pc_of (N := 6) Try.func32 rfl rfl (by simp) (by simp [St.bel, Gn.bel, Ga.bel, bel_St, bel_Gn, bel_ints0, Bel.int]) (.bool _) ?_
  repeat (refine awp_seq ?_)
  refine e_eval (by simp only [jA, jO, jN, seval, y27, vint, qF] <;> with_reducible rfl) (by decide) ?_
  repeat (refine awp_seq ?_)
  refine awp_region ?_
  refine e_take 1 (by simp only [jA, jO, jN, seval, y27, vint, qF] <;> with_reducible rfl) (by decide) ?_
  refine aops_pure (by simp only [jC, jN, seval, vint, qF] <;> with_reducible rfl) (by simp only [jC, jN, seval, vint, qF]) (by decide) Trygo21 (h _) ?_
  refine e_end (by simp only [jA, jO, jN, seval, vint, qF] <;> with_reducible rfl) (by decide) ?_
  repeat (refine awp_seq ?_)
  refine awp_ret ⟨.inr rfl, _, rfl, ?_⟩
  simp only [jN, seval, vint, qF]

theorem ist_k : ∀ (k : Nat) (t : St), t.size ≤ k → t.W → PC Try.prog 21 [t.enc] (.bool (trV 100 t))
  | 0, t, h, _ => by cases t; simp [St.size] at h
  | k + 1, t, h, hw => by
    refine pc_of (N := 27) Try.func21 rfl rfl (by simp) (by simp [St.bel, Gn.bel, Ga.bel, bel_St, bel_Gn, bel_ints0, Bel.int]) (.bool _) ?_
    repeat (refine awp_seq ?_)
    refine e_eval (by simp only [jA, jO, jN, seval, y27, vint, qF] <;> with_reducible rfl) (by decide) ?_
    repeat (refine awp_seq ?_)
    refine e_eval (by simp only [jA, jO, jN, seval, y3, y27, vint, qF] <;> with_reducible rfl) (by decide) ?_
    repeat (refine awp_seq ?_)
    refine g_eval (by simp only [jG, jO, jN, seval, y3, y9, y25, y27, vint, qF] <;> with_reducible rfl) (by decide) (by repeat (first | exact Fin.base _ | with_reducible apply Fin.keep | apply Fin.drop)) ?_
    repeat (refine awp_seq ?_)
    refine awp_cond rfl (by simp only [jN, seval, vint, qF] <;> with_reducible rfl) (fun bt22 => ?_) (fun bt22 => ?_)
    ·
      have hv : trV 100 t = false := by
        rw [trV_eq]
        unfold badK
        revert bt22
        cases decide (t.kind ≥ 100) <;> cases decide ((t.ch.length : Int) > 0) <;> cases decide (t.text = []) <;> simp
      refine awp_sel [] (by simp only [jN, seval, vint, qF] <;> with_reducible rfl) ?_
      repeat (refine awp_seq ?_)
      refine e_eval (by simp only [jA, jO, jN, seval, vint, qF] <;> with_reducible rfl) (by decide) ?_
      repeat (refine awp_seq ?_)
      refine awp_ret ⟨.inr rfl, _, rfl, ?_⟩
      simp only [jN, seval, vint, qF, hv]
    ·
      have hv : trV 100 t = !t.ch.any fun c => !trV 100 c := by
        rw [trV_eq, show (!t.ch.any fun c => !trV 100 c) = t.ch.all (trV 100) from by rw [List.not_any_eq_all_not]; simp]
        unfold badK
        revert bt22
        cases decide (t.kind ≥ 100) <;> cases decide ((t.ch.length : Int) > 0) <;> cases decide (t.text = []) <;> simp
      repeat (refine awp_seq ?_)
      refine awp_skip ?_
      refine awp_sel [1] (by simp only [jN, seval, vint, qF] <;> with_reducible rfl) ?_
      repeat (refine awp_seq ?_)
      refine awp_region ?_
      refine e_take 2 (by simp only [jA, jO, jN, seval, y25, y27, vint, qF] <;> with_reducible rfl) (by decide) ?_
      refine aops_pure (by simp only [jC, jN, seval, vint, qF] <;> with_reducible rfl) (by simp only [jC, jN, seval, vint, qF]) (by decide) Trygo30 (containsFuncSt (p := fun c => !trV 100 c) ⟨Trygo32, by simp, fun u hu => it1 u (ist_k k u (by have := St.size_ch hu; omega) (hw.ch hu)) _⟩ hw.max_ch) ?_
      refine e_end (by simp only [jA, jO, jN, seval, vint, qF] <;> with_reducible rfl) (by decide) ?_
      repeat (refine awp_seq ?_)
      refine awp_ret ⟨.inr rfl, _, rfl, ?_⟩
      simp only [jN, seval, vint, qF, hv]

end Go.Abs
set_option maxRecDepth 4000
namespace Go.Abs
open Go.Proofs

theorem stSizes_append : ∀ (a b : List St), stSizes (a ++ b) = stSizes a + stSizes b
  | [], b => by simp [stSizes]
  | x :: a, b => by simp only [List.cons_append, stSizes]; rw [stSizes_append a b]; omega
theorem stSizes_take {cs : List St} {i : Nat} (h : i < cs.length) : stSizes (cs.take (i + 1)) = stSizes (cs.take i) + cs[i].size := by
  rw [List.take_succ_eq_append_getElem h, stSizes_append]; simp [stSizes]
theorem stSizes_take_le (cs : List St) (i : Nat) : stSizes (cs.take i) ≤ stSizes cs := by
  conv => rhs; rw [← List.take_append_drop i cs]
  rw [stSizes_append]; omega

theorem indexFuncX (us : List St) (Hs : Nat → Heap) (n0 : Nat) {f : FuncId} {caps : List PV} (hlen : ∀ j, (Hs j).length = n0) (hbel : HBel n0 (Hs 0) → ∀ j, HBel n0 (Hs j)) (hgo : goFn Try.prog f = true) (hcaps : ∀ c ∈ caps, Bel n0 c) (hl : us.length ≤ maxLen) (hc : ∀ i (hi : i < us.length), ACalls Try.prog f (us[i].enc :: caps) (Hs i) fun r' H' => r' = .bool false ∧ H' = Hs (i + 1)) : ACalls Try.prog 38 [.slice (us.map St.enc) .none, .fn (.func f) [] caps] (Hs 0) fun r' H' => r' = vint (-1) ∧ H' = Hs us.length := by
  refine ACalls.trunc0 ?_ (by rw [hlen, hlen]) (fun hb => by rw [hlen] at hb ⊢; exact hbel hb _) (.int _ _)
  refine acalls_of (N := 19) Try.func38 rfl rfl (by simp) fun hb' => ?_
  rw [hlen] at hb' ⊢
  have hbj := hbel hb'
  repeat (refine awp_seq ?_)
  refine e_eval (by simp only [jA, jO, jN, seval, vint, qF] <;> with_reducible rfl) (by decide) ?_
  repeat (refine awp_seq ?_)
  refine e_eval (by simp only [jA, jO, jN, seval, y25, y27, vint, qF] <;> with_reducible rfl) (by decide) ?_
  repeat (refine awp_seq ?_)
  refine awp_forS (σ := Nat) (us.length) (fun (j : Nat) => [(0, .slice (us.map St.enc) .none), (1, .fn (.func f) [] caps)]) [0, 1] ([]) (fun (j : Nat) => Hs j) (fun (i : Nat) (j : Nat) => j = i) (0) ([]) rfl rfl rfl rfl rfl rfl rfl rfl rfl (by decide) (by decide) (by decide) (fun _ => rfl) (hl) ⟨(by first | rfl | (simp only [jN, seval, vint, qF] <;> first | done | with_reducible rfl)), (by first | rfl | (simp only [jN, seval, vint, qF] <;> first | done | with_reducible rfl)), (by first | rfl | (simp only [jN, seval, vint, qF] <;> first | done | with_reducible rfl)), (by first | rfl | (simp only [jN, seval, vint, qF] <;> first | done | with_reducible rfl)), trivial⟩ (by first | rfl | (simp only [jN, seval, vint, qF] <;> first | done | with_reducible rfl)) (rfl) (fun i j hg => by rw [List.nil_append, hlen]; exact Nat.le_refl _) ?_ ?_ ?_
  · exact fun i j hg => ⟨by rw [List.nil_append, hlen]; exact hbj j, by rw [List.nil_append, hlen]; exact .cons (bel_St _ _) (.cons (.fn _ _ _ (by simp) (fun c hc' => hcaps c hc')) .nil)⟩
  · intro i j hi hg
    subst hg
    have g1 := ix_nat hi
    have g2 := get_enc St.enc hi
    repeat (refine awp_seq ?_)
    refine e_eval (by simp only [jA, jO, jN, seval, vint, qF, g1, Int.toNat_natCast, g2, List.nil_append] <;> with_reducible rfl) (by decide) ?_
    repeat (refine awp_seq ?_)
    refine awp_region ?_
    refine e_take 5 (by simp only [jA, jO, jN, seval, y25, y27, vint, qF, g1, Int.toNat_natCast, g2, List.nil_append] <;> with_reducible rfl) (by decide) ?_
    refine aops_acall (by simp only [jC, jN, seval, vint, qF, g1, Int.toNat_natCast, g2, List.nil_append] <;> with_reducible rfl) (by simp only [jC, jN, seval, vint, qF, g1, Int.toNat_natCast, g2, List.nil_append]) (by decide) (by assumption) (hc _ hi) ?_
    rintro _ _ ⟨rfl, rfl⟩
    refine aops_nil ?_
    repeat (refine awp_seq ?_)
    refine awp_cond_false rfl (by simp only [jN, seval, vint, qF, g1, Int.toNat_natCast, g2, List.nil_append] <;> with_reducible rfl) ?_
    repeat (refine awp_seq ?_)
    refine awp_skip ?_
    exact ⟨⟨rfl, rfl, trivial⟩, _, [], ⟨rfl, rfl, trivial⟩, by simp only [List.nil_append, List.append_nil], rfl⟩
  · intro j hg
    subst hg
    repeat (refine awp_seq ?_)
    refine e_eval (by simp only [jA, jO, jN, seval, vint, qF] <;> with_reducible rfl) (by decide) ?_
    repeat (refine awp_seq ?_)
    refine awp_ret ⟨.inr rfl, _, rfl, ?_⟩
    exact ⟨rfl, [], by simp⟩

theorem containsFuncX (us : List St) (Hs : Nat → Heap) (n0 : Nat) {f : FuncId} {caps : List PV} (hlen : ∀ j, (Hs j).length = n0) (hbel : HBel n0 (Hs 0) → ∀ j, HBel n0 (Hs j)) (hgo : goFn Try.prog f = true) (hcaps : ∀ c ∈ caps, Bel n0 c) (hl : us.length ≤ maxLen) (hc : ∀ i (hi : i < us.length), ACalls Try.prog f (us[i].enc :: caps) (Hs i) fun r' H' => r' = .bool false ∧ H' = Hs (i + 1)) : ACalls Try.prog 30 [.slice (us.map St.enc) .none, .fn (.func f) [] caps] (Hs 0) fun r' H' => r' = .bool false ∧ H' = Hs us.length := by
  refine ACalls.trunc0 ?_ (by rw [hlen, hlen]) (fun hb => by rw [hlen] at hb ⊢; exact hbel hb _) (.bool _)
  refine acalls_of (N := 9) Try.func30 rfl rfl (by simp) fun hb' => ?_
  repeat (refine awp_seq ?_)
  refine e_eval (by simp only [jA, jO, jN, seval, vint, qF] <;> with_reducible rfl) (by decide) ?_
  repeat (refine awp_seq ?_)
  refine awp_region ?_
  refine e_take 2 (by simp only [jA, jO, jN, seval, vint, qF] <;> with_reducible rfl) (by decide) ?_
  refine aops_acall (by simp only [jC, jN, seval, vint, qF] <;> with_reducible rfl) (by simp only [jC, jN, seval, vint, qF]) (by decide) Trygo38 (indexFuncX us Hs n0 hlen hbel hgo hcaps hl hc) ?_
  rintro _ _ ⟨rfl, rfl⟩
  refine e_end (by simp only [jA, jO, jN, seval, y3, vint, qF] <;> with_reducible rfl) (by decide) ?_
  repeat (refine awp_seq ?_)
  refine awp_ret ⟨.inr rfl, _, rfl, ?_⟩
  exact ⟨rfl, [], by simp⟩

theorem exc1 (c : St) (K : Heap) (il a b : Nat) (dep l : Int) (hil : il < K.length) (ha : ∀ o, (gH K il o)[a]? = some (.row [vint dep])) (hb : ∀ o, (gH K il o)[b]? = some (.row [.optr il 0])) (hd : IntKind.i64.wrap (dep + 1) = dep + 1) (h : ∀ H : Heap, il < H.length → ACalls Try.prog 20 [c.enc, vint (dep + 1), .optr il 0] (gH H il (.row [vint l])) fun r' H' => r' = .bool false ∧ H' = gH H il (.row [vint (l - c.size)])) : ACalls Try.prog 31 [c.enc, .optr a 0, .optr b 0] (gH K il (.row [vint l])) fun r' H' => r' = .bool false ∧ H' = gH K il (.row [vint (l - c.size)]) := by
  have MH := gH_rules hil
  have qa : ∀ o L, (gH K il o ++ L)[a]? = some (.row [vint dep]) := fun o L => by rw [List.getElem?_append_left (len_of_get (ha o))]; exact ha o
  have qb : ∀ o L, (gH K il o ++ L)[b]? = some (.row [.optr il 0]) := fun o L => by rw [List.getElem?_append_left (len_of_get (hb o))]; exact hb o
  refine muts_of (N := 10) Try.func31 rfl rfl (by simp) (.bool _) (by simp only [gH_len]) (fun hb => by rw [gH_len] at hb ⊢; exact gH_bel hb hil (obel_row_cons (.int _ _) (obel_row_nil _))) fun hb' => ?_
  rw [gH_len]
  rw [gH_len] at hb'
  repeat (refine awp_seq ?_)
  refine e_eval (by simp only [jA, jO, jN, seval, y27, vint, qF, MH, qa, qb, hd] <;> with_reducible rfl) (by decide) ?_
  repeat (refine awp_seq ?_)
  refine awp_region ?_
  refine e_take 4 (by simp only [jA, jO, jN, seval, y3, y27, y52, vint, qF, MH, qa, qb, hd] <;> with_reducible rfl) (by decide) ?_
  refine aops_acall (by simp only [jC, jN, seval, vint, qF, MH, qa, qb, hd] <;> with_reducible rfl) (by simp only [jC, jN, seval, vint, qF, MH, qa, qb, hd]) (by decide) Trygo20 (gH_set h _ (by simp only [MH] <;> rfl)) ?_
  rintro _ _ ⟨rfl, rfl⟩
  refine e_end (by simp only [jA, jO, jN, seval, vint, qF, MH, qa, qb, hd] <;> with_reducible rfl) (by decide) ?_
  repeat (refine awp_seq ?_)
  refine awp_ret ⟨.inr rfl, _, _, rfl, ?_, rfl⟩
  simp only [jN, seval, vint, qF]

theorem contEx (t : St) (hw : t.W) (k : Nat) (K : Heap) (il a b : Nat) (dep l : Int) (hil : il < K.length) (hK : K[il]? = some (.row [vint l])) (ha : K[a]? = some (.row [vint dep])) (hb : K[b]? = some (.row [.optr il 0])) (hna : il ≠ a) (hnb : il ≠ b) (hd : IntKind.i64.wrap (dep + 1) = dep + 1) (hl : (stSizes t.ch : Int) ≤ l)
    (h : ∀ c ∈ t.ch, ∀ (l : Int), (c.size : Int) ≤ l → l ≤ 4000 → ∀ H : Heap, il < H.length → ACalls Try.prog 20 [c.enc, vint (dep + 1), .optr il 0] (gH H il (.row [vint l])) fun r' H' => r' = .bool false ∧ H' = gH H il (.row [vint (l - c.size)])) (hl4 : l ≤ 4000) :
    ACalls Try.prog 30 [.slice (t.ch.map St.enc) .none, .fn (.func 31) [] [.optr a 0, .optr b 0]] K fun r' H' => r' = .bool false ∧ H' = K.set il (.row [vint (l - stSizes t.ch)]) := by
  have e0 : gH K il (.row [vint (l - stSizes (t.ch.take 0))]) = K := by
    rw [List.take_zero]; exact gH_self (by rw [hK]; simp [stSizes])
  have key := containsFuncX t.ch (fun j => gH K il (.row [vint (l - stSizes (t.ch.take j))])) K.length (f := 31) (caps := [.optr a 0, .optr b 0]) (fun j => gH_len ..) (fun hb j => gH_bel hb hil (obel_row_cons (.int _ _) (obel_row_nil _))) Trygo31
    (by simp only [List.mem_cons, List.not_mem_nil, or_false]; rintro c (rfl | rfl); exact .optr _ _ (len_of_get ha); exact .optr _ _ (len_of_get hb)) hw.max_ch (fun i hi => by
      have hs := stSizes_take hi
      have hs2 := stSizes_take_le t.ch (i + 1)
      have e : l - (stSizes (t.ch.take (i + 1)) : Int) = l - (stSizes (t.ch.take i) : Int) - (t.ch[i].size : Int) := by rw [hs]; push_cast; omega
      show ACalls _ _ _ _ fun r' H' => r' = .bool false ∧ H' = gH K il (.row [vint (l - stSizes (t.ch.take (i + 1)))])
      rw [e]
      exact exc1 t.ch[i] K il a b dep _ hil (fun o => by unfold gH; rw [List.getElem?_set_ne hna]; exact ha) (fun o => by unfold gH; rw [List.getElem?_set_ne hnb]; exact hb) hd (fun H hi2 => h _ (List.getElem_mem hi) _ (by omega) (by omega) H hi2))
  simp only [e0, List.take_length] at key
  exact key

theorem exc_k : ∀ (k : Nat) (t : St), t.size ≤ k → t.W → ∀ (dep l : Int) (il : Nat), 1 ≤ dep → dep + t.size ≤ 201 → (t.size : Int) ≤ l → l ≤ 4000 → ∀ H : Heap, il < H.length → ACalls Try.prog 20 [t.enc, vint dep, .optr il 0] (gH H il (.row [vint l])) fun r' H' => r' = .bool false ∧ H' = gH H il (.row [vint (l - t.size)])
  | 0, t, h, _, _, _, _, _, _, _, _, _, _ => by cases t; simp [St.size] at h
  | k + 1, t, h, hw, dep, l, il, hd1, hd2, hl1, hl2, H, hil => by
    have MH := gH_rules hil
    have hsz : t.size = 1 + stSizes t.ch := by cases t; simp [St.size, St.ch]
    have w1 : IntKind.i64.wrap (l - 1) = l - 1 := wrap_id (by omega) (by omega)
    have w2 : IntKind.i64.wrap (dep + 1) = dep + 1 := wrap_id (by omega) (by omega)
    have f1 : (l - 1 < 0) = False := by simp; omega
    have f2 : (200 < dep) = False := by simp; omega
    have hts : l - (t.size : Int) = l - 1 - (stSizes t.ch : Int) := by omega
    rw [hts]
    refine muts_of (N := 24) Try.func20 rfl rfl (by simp) (.bool _) (by simp only [gH_len]) (fun hb => by rw [gH_len] at hb ⊢; exact gH_bel hb hil (obel_row_cons (.int _ _) (obel_row_nil _))) fun hb' => ?_
    rw [gH_len]
    rw [gH_len] at hb'
    repeat (refine awp_seq ?_)
    refine e_eval (by simp only [jA, jO, jN, seval, y3, y27, y52, vint, qF, MH, w1, w2, f1, f2, decide_false, GT.gt, Bool.or_false] <;> with_reducible rfl) (by decide) ?_
    repeat (refine awp_seq ?_)
    refine e_eval (by simp only [jA, jO, jN, seval, y3, y52, vint, qF, MH, w1, w2, f1, f2, decide_false, GT.gt, Bool.or_false] <;> with_reducible rfl) (by decide) ?_
    repeat (refine awp_seq ?_)
    refine g_eval (by simp only [jG, jO, jN, seval, y3, y52, vint, qF, MH, w1, w2, f1, f2, decide_false, GT.gt, Bool.or_false] <;> with_reducible rfl) (by decide) (by repeat (first | exact Fin.base _ | with_reducible apply Fin.keep | apply Fin.drop)) ?_
    repeat (refine awp_seq ?_)
    refine awp_cond_false rfl (by simp only [jN, seval, vint, qF, MH, w1, w2, f1, f2, decide_false, GT.gt, Bool.or_false] <;> with_reducible rfl) ?_
    repeat (refine awp_seq ?_)
    refine awp_skip ?_
    refine awp_sel [3, 4, 5] (by simp only [jN, seval, vint, qF, MH, w1, w2, f1, f2, decide_false, GT.gt, Bool.or_false] <;> with_reducible rfl) ?_
    repeat (refine awp_seq ?_)
    refine awp_region ?_
    refine e_take 3 (by simp only [jA, jO, jN, seval, y25, y27, vint, qF, MH, w1, w2, f1, f2, decide_false, GT.gt, Bool.or_false] <;> with_reducible rfl) (by decide) ?_
    refine aops_acall (by simp only [jC, jN, seval, vint, qF, MH, w1, w2, f1, f2, decide_false, GT.gt, Bool.or_false] <;> with_reducible rfl) (by simp only [jC, jN, seval, vint, qF, MH, w1, w2, f1, f2, decide_false, GT.gt, Bool.or_false]) (by decide) Trygo30 (contEx t hw k _ il (H.length + 1) (H.length + 2) dep (l - 1) (by simp only [List.length_append, gH_len]; omega) (by simp only [MH] <;> rfl) (by simp only [MH] <;> rfl) (by simp only [MH] <;> rfl) (by omega) (by omega) w2 (by omega) (fun c hc l hl hl4 H hH => exc_k k c (by have := St.size_ch hc; omega) (hw.ch hc) (dep + 1) l il (by omega) (by have := St.size_ch hc; omega) hl hl4 H hH) (by omega)) ?_
    rintro _ _ ⟨rfl, rfl⟩
    refine e_end (by simp only [jA, jO, jN, seval, vint, qF, MH, w1, w2, f1, f2, decide_false, GT.gt, Bool.or_false] <;> with_reducible rfl) (by decide) ?_
    repeat (refine awp_seq ?_)
    refine awp_ret ⟨.inr rfl, _, _, rfl, ?_, rfl⟩
    simp only [jN, seval, vint, qF]

end Go.Abs
namespace Go.Abs
/-! Loads of a struct from a box that keep what is known of its slices' room. -/
theorem sound_loadK {P : Program} {E : Env} {N : Nat} {a : Act} {T : Nat → PV} (ho : E.Ok) (ht : TRel E.view N a T) {t : TypeId} {x : Operand} (hx : okOpnd N x = true) {i : TI} (hi : tinfo P t = some i) (hagg : i.agg = true)
    {id off : Nat} {cs : List PV} (hT : aev T x = .optr id off) (hcs : E.H[id]? = some (.row cs)) (hl : off + i.sz ≤ cs.length) :
    ∃ val, (Instr.loadAt t (a.eval x)).run P E.w = .ok val E.w ∧ VRel E.view val (.agg ((cs.drop off).take i.sz)) := by
  have hr := vrel_eval ht x hx
  rw [hT] at hr
  obtain ⟨hv, hb⟩ := hr.optr_inv
  rw [hv]
  have hc : Cells E ⟨E.ρ id, off, none⟩ (cs.drop off) := .row hcs
  obtain ⟨h1, h2⟩ := hc.loadVar (P := P) ho hi
  obtain ⟨arr, e1, e2⟩ := h1 hagg (by simp; omega)
  exact ⟨_, by simpa [Instr.loadAt, Instr.sureAddr, Env.view] using e1, e2⟩
theorem sound_fill1 {P : Program} {E : Env} {N : Nat} {a : Act} {T : Nat → PV} (ht : TRel E.view N a T) (fl : List (Nat × TI)) (f : Nat) (x : Operand) (arr : Array Value) (cs : List PV) (h : RL E.view arr cs) (hok : okOpnd N x = true) {off : Nat} {i : TI} (hf : fl[f]? = some (off, i))
    (hc1 : (aev T x).isJunk = false) (hc2 : (aev T x).cells.length = i.sz) (hc3 : off + i.sz ≤ cs.length) :
    ∃ arr', Instr.fill ((fl.map fun x => (x.1, x.2.sz)).toArray[·]?) arr [(f, a.eval x)] = some arr' ∧ RL E.view arr' (splice cs off (aev T x).cells) := by
  have hr := vrel_eval ht x hok
  obtain ⟨c1, c2⟩ := hr.not_junk_cells hc1
  have h' := foldl_splice (V := E.view) (a.eval x).cells.toList (aev T x).cells off 0 arr cs h (by simp [c1]) (fun j hj => by
    have := c2 j (by simpa using hj)
    rw [Array.getD_eq_getD_getElem?] at this
    rw [List.getD_eq_getElem?_getD, Array.getElem?_toList]
    exact this)
  rw [Nat.add_zero] at h'
  refine ⟨_, ?_, h'⟩
  simp only [Instr.fill]
  simp only [List.getElem?_toArray, List.getElem?_map, hf, Option.map_some]
  rw [if_neg]
  · congr 1
    rw [← Array.foldl_toList, Array.toList_zipIdx]
  · have c3 : (a.eval x).cells.size = i.sz := c1.trans hc2
    have c4 := h.1
    rw [c3, c4]; simp; omega
theorem sound_buildK {P : Program} {E : Env} {N : Nat} {a : Act} {T : Nat → PV} (ht : TRel E.view N a T) {t : TypeId} {f : Nat} {x : Operand} (hok : okOpnd N x = true) {fl : List (Nat × TI)} (hfl : tflds P t = some fl) {z : PV} (hz : tzero P t = some z) (hj : z.isJunk = false) {off : Nat} {i : TI} (hf : fl[f]? = some (off, i))
    (hc1 : (aev T x).isJunk = false) (hc2 : (aev T x).cells.length = i.sz) (hc3 : off + i.sz ≤ z.cells.length) :
    ∃ val, (Instr.build t #[(f, a.eval x)]).run P E.w = .ok val E.w ∧ VRel E.view val (.agg (splice z.cells off (aev T x).cells)) := by
  obtain ⟨fs, h1, h2⟩ := tflds_some hfl
  obtain ⟨f', v, h3, h4, rfl⟩ := tzero_some hz
  have hr := run_places (P := P) (w := E.w) fs.toList fl h2
  obtain ⟨c1, c2⟩ := (vrel_ofConst E.view v).not_junk_cells hj
  obtain ⟨arr', e1, e2⟩ := sound_fill1 (P := P) ht fl f x v.cells (ofConst v).cells ⟨c1, c2⟩ hok hf hc1 hc2 hc3
  refine ⟨.agg arr', ?_, .agg _ _ e2.1 e2.2⟩
  simp only [Instr.build, Sem.run_bind, run_zero h3 h4, Result.andThen_ok, run_under h1, Array.mapM_eq_mapM_toList, Sem.run_map, hr]
  simp only [e1, Sem.run_pure]
section
variable {P : Program} {N nb : Nat} {ops : Array Oper} {Q : Post}
theorem aops_buildK {o : Oper} {l : List Oper} {T : Slots} {H : Heap} {x : Operand} {t : TypeId} {f : Nat} {fl : List (Nat × TI)} {z v : PV} {off : Nat} {i : TI} (hop : o.op = .build t #[(f, x)]) (hok : okOpnd N x = true) (hfl : tflds P t = some fl) (hz : tzero P t = some z) (hj : z.isJunk = false) (hf : fl[f]? = some (off, i))
    (hc1 : (aev T x).isJunk = false) (hc2 : (aev T x).cells.length = i.sz) (hc3 : off + i.sz ≤ z.cells.length) (hv : .agg (splice z.cells off (aev T x).cells) = v) (hw : awanted ops.toList T N o = some true) (h : AOps P N nb ops Q l (updO T o.dst v) H) : AOps P N nb ops Q (o :: l) T H := by
  subst hv
  refine aops_done hw (fun E a ho hH ht => ?_) h
  subst hH
  obtain ⟨val, h1, h2⟩ := sound_buildK (P := P) ht hok hfl hz hj hf hc1 hc2 hc3
  refine ⟨E, val, .inl ?_, .refl E, ho, rfl, h2⟩
  unfold execOp
  rw [hop]
  simp only [List.map_toArray, List.map_cons, List.map_nil, Sem.run_bind, h1, Result.andThen_ok, Sem.run_pure]
end
section
variable {P : Program} {N nb : Nat} {ops : Array Oper} {Q : Post}
theorem aops_loadK {o : Oper} {l : List Oper} {T : Slots} {H : Heap} {x : Operand} {t : TypeId} {i : TI} {id off : Nat} {cs : List PV} (hop : o.op = .load t x) (hx : aev T x = .optr id off) (hcs : H[id]? = some (.row cs)) (hi : tinfo P t = some i) (hagg : i.agg = true)
    (hl : off + i.sz ≤ cs.length) (hw : awanted ops.toList T N o = some true) (hok : okOpnd N x = true) (h : AOps P N nb ops Q l (updO T o.dst (.agg ((cs.drop off).take i.sz))) H) : AOps P N nb ops Q (o :: l) T H := by
  refine aops_done hw (fun E a ho hH ht => ?_) h
  subst hH
  obtain ⟨val, h1, h2⟩ := sound_loadK (P := P) ho ht hok hi hagg hx hcs hl
  refine ⟨E, val, .inl ?_, .refl E, ho, rfl, h2⟩
  unfold execOp
  rw [hop]
  simp only [Sem.run_bind, h1, Result.andThen_ok, Sem.run_pure]
theorem acalls_ofK {f : FuncId} {fn : Func} {c : Code} {args : List PV} {R : PV → Heap → Prop} {H : Heap} {x : Nat} {t : TypeId} {i : TI} (hf : P.funcs[f]? = some fn) (hb : fn.body = some c) (hN : fn.ntmps = N) (hl : args.length ≤ N) (hrs : fn.results.toList = [.cell x t]) (hxN : x < N) (hi : tinfo P t = some i) (hagg : i.agg = true)
    (h : HBel H.length H → AWP P N H.length c (fun e T H => (e = .normal ∨ e = .ret) ∧ ∃ id off cs, T x = .optr id off ∧ H[id]? = some (.row cs) ∧ off + i.sz ≤ cs.length ∧ R (.agg ((cs.drop off).take i.sz)) H) (enter args) H) : ACalls P f args H R := by
  intro E vargs ho hH hrl
  refine calls_of_wp hf hb (wp_mono (h (by have := ho.hbel; rw [hH] at this; exact this) E _ ho hH ⟨by simp [hrl.1, hN]; omega, rfl, fun i hi => ?_⟩) ?_)
  · rw [Array.getD_eq_getD_getElem?, Array.getElem?_append]
    unfold enter
    by_cases hia : i < args.length
    · rw [if_pos (by rw [hrl.1]; exact hia), ← Array.getD_eq_getD_getElem?, List.getD_eq_getElem?_getD, List.getElem?_eq_getElem hia]
      exact hrl.2 i hia
    · rw [List.getD_eq_getElem?_getD, List.getElem?_eq_none (by omega)]
      exact .junk _
  · rintro e a w ⟨E', T', rfl, h2, h3, h4, he, id, off, cs, hT, hcs, hlen, hR⟩
    obtain ⟨val, h5, h6⟩ : ∃ val, (results fn a.tmps).run P E'.w = .ok val E'.w ∧ VRel E'.view val (.agg ((cs.drop off).take i.sz)) := by
      obtain ⟨val, k1, k2⟩ := sound_loadK (P := P) h3 h4 (x := .tmp x) (by simpa [okOpnd] using hxN) hi hagg (by simpa [aev] using hT) hcs hlen
      refine ⟨val, ?_, k2⟩
      have hr := h4.rel x hxN
      rw [hT] at hr
      have hp := hr.optr_inv.1
      simp only [Act.eval, Instr.loadAt, hp, Instr.sureAddr, Sem.run_bind, Sem.run_pure, Result.andThen_ok] at k1
      rw [results_eq, Array.mapM_eq_mapM_toList, hrs]
      simp only [List.mapM_cons, List.mapM_nil, resF, hp, asAddr, Sem.run_bind, Sem.run_map, k1, Sem.run_pure, Result.andThen_ok]
      rfl
    rcases he with rfl | rfl
    · exact ⟨h4.defers, val, h5, E', val, _, rfl, rfl, (hH ▸ h2 : E.leN E.H.length E').le, h3, h6, hR⟩
    · exact ⟨h4.defers, val, h5, E', val, _, rfl, rfl, (hH ▸ h2 : E.leN E.H.length E').le, h3, h6, hR⟩
end
end Go.Abs
set_option maxRecDepth 4000
namespace Go.Abs
open Go.Proofs

def zG : PV := .agg [.int .i64 0, .int .i64 0, .str [], .slice [] .full]

theorem cloneInt (xs : List Int) (hx : xs.length * 8 ≤ 2 ^ 47) : PC Try.prog 34 [.slice (xs.map vint) .none] (.slice (xs.map vint) .none) := by
  have em : maxLen = 9223372036854775807 := by decide
  have happ : xs.map vint ≠ [] → ∀ fr HH, aappend ⟨false, 1, 8⟩ fr HH (.slice [] .full) (.slice (xs.map vint) .none) = some (.slice (xs.map vint) (.tok fr), some (fr, .buf xs.length 1)) := fun hne fr HH => by
    have := aappend_all (i := ⟨false, 1, 8⟩) (fresh := fr) (H := HH) (tl := .none) hne (by simpa using hx) (by simp; omega) (fun e he => by obtain ⟨v, _, rfl⟩ := List.mem_map.1 he; exact ⟨rfl, rfl⟩) (by decide)
    simpa using this
  refine pc_of (N := 8) Try.func34 rfl rfl (by simp) (by simp [St.bel, Gn.bel, Ga.bel, bel_St, bel_Gn, bel_ints0, Bel.int]) (bel_ints0 _ _) ?_
  refine awp_ext ?_
  repeat (refine awp_seq ?_)
  refine e_eval (by simp only [jA, jO, jN, seval, vint, qF] <;> with_reducible rfl) (by decide) ?_
  repeat (refine awp_seq ?_)
  refine awp_region ?_
  refine e_take 1 (by simp only [jA, jO, jN, seval, vint, qF] <;> with_reducible rfl) (by decide) ?_
  refine aops_nilcmp (es := xs.map vint) (tl := .none) rfl (by simp only [jC, jN, seval, vint, qF] <;> rfl) rfl (by decide) (by rw [Tryte46]; rfl) (fun b hb => ?_)
  refine aops_nil ?_
  repeat (refine awp_seq ?_)
  refine awp_cond rfl (by simp only [jN, seval, vint, qF] <;> with_reducible rfl) (fun b0 => ?_) (fun b0 => ?_)
  ·
    have hxs : xs = [] := by
      cases xs with
      | nil => rfl
      | cons a l => rw [hb (by simp)] at b0; cases b0
    subst hxs
    repeat (refine awp_seq ?_)
    refine e_eval (by simp only [jA, jO, jN, seval, vint, qF] <;> with_reducible rfl) (by decide) ?_
    repeat (refine awp_seq ?_)
    refine awp_ret ⟨.inr rfl, _, rfl, ?_⟩
    simp only [jN, seval, vint, qF]
  ·
    repeat (refine awp_seq ?_)
    refine awp_skip ?_
    rcases Classical.em (xs = []) with hxs | hxs
    ·
      subst hxs
      repeat (refine awp_seq ?_)
      refine e_eval (by simp only [jA, jO, jN, seval, y3, y46, vint, qF, List.map_nil, aappend] <;> with_reducible rfl) (by decide) ?_
      repeat (refine awp_seq ?_)
      refine awp_ret ⟨.inr rfl, _, rfl, ?_⟩
      simp only [jN, seval, vint, qF]
    ·
      have ha := happ (by simpa using hxs)
      repeat (refine awp_seq ?_)
      refine awp_region ?_
      refine e_take 2 (by simp only [jA, jO, jN, seval, y3, y46, vint, qF, ha] <;> with_reducible rfl) (by decide) ?_
      refine aops_opF false 0 rfl rfl (by decide) (v := .slice (xs.map vint) (.tok 0)) (e := some (0, .buf xs.length 1)) (by simp only [jN, seval, vint, qF, ha, aop, abuiltin, Tryti46, Tryte46] <;> rfl) rfl ?_
      refine e_end (by simp only [jA, jO, jN, seval, vint, qF, ha] <;> with_reducible rfl) (by decide) ?_
      repeat (refine awp_seq ?_)
      refine awp_ret ⟨.inr rfl, _, rfl, ?_⟩
      simp only [jN, seval, vint, qF]

theorem cloneGnM (ns : List Gn) (hne : ns ≠ []) (hb : ns.length * 56 ≤ 2 ^ 47) (H : Heap) (id : Nat) (hid : H[id]? = some .unborn) : ACalls Try.prog 33 [.slice (ns.map Gn.enc) .none] H fun r' H' => ∃ c, ns.length ≤ c ∧ c ≤ maxLen ∧ r' = .msl id 0 ns.length c ∧ H' = H.set id (.row (flatE (ns.map Gn.enc ++ List.replicate (c - ns.length) zG))) := by
  have em : maxLen = 9223372036854775807 := by decide
  refine acalls_of (N := 8) Try.func33 rfl rfl (by simp) fun hb' => ?_
  repeat (refine awp_seq ?_)
  refine e_eval (by simp only [jA, jO, jN, seval, vint, qF] <;> with_reducible rfl) (by decide) ?_
  repeat (refine awp_seq ?_)
  refine awp_region ?_
  refine e_take 1 (by simp only [jA, jO, jN, seval, vint, qF] <;> with_reducible rfl) (by decide) ?_
  refine aops_nilcmp (es := ns.map Gn.enc) (tl := .none) rfl (by simp only [jC, jN, seval, vint, qF] <;> rfl) rfl (by decide) (by rw [Tryte22]; rfl) (fun b hbb => ?_)
  obtain rfl : b = false := hbb (by simpa using hne)
  refine aops_nil ?_
  repeat (refine awp_seq ?_)
  refine awp_cond_false rfl (by simp only [jN, seval, vint, qF] <;> with_reducible rfl) ?_
  repeat (refine awp_seq ?_)
  refine awp_skip ?_
  repeat (refine awp_seq ?_)
  refine awp_region ?_
  refine e_take 2 (by simp only [jA, jO, jN, seval, y22, y48, vint, qF] <;> with_reducible rfl) (by decide) ?_
  refine aops_appendM id hid (by simp only [jC, jN, seval, vint, qF] <;> rfl) rfl (by decide) (by decide) (xs := ns.map Gn.enc) (tl := .none) (by simp only [jC, jN, seval, vint, qF] <;> rfl) (by simp only [jC, jN, seval, vint, qF] <;> rfl) (by simpa using hne) (by simpa using hb) (by simp; omega) (fun e he => by obtain ⟨r, _, rfl⟩ := List.mem_map.1 he; rfl) (by decide) Tryte22 (by rw [Tryte22]; rfl) Trytz48 (by rfl) ?_
  intro c rest hc hcm hrest
  simp only [List.length_map] at hc hrest
  have hrest : flatE (ns.map Gn.enc) ++ rest = flatE (ns.map Gn.enc ++ List.replicate (c - ns.length) zG) := by rw [hrest]; simp [flatE]; rfl
  rw [hrest]
  refine e_end (by simp only [jA, jO, jN, seval, vint, qF] <;> with_reducible rfl) (by decide) ?_
  repeat (refine awp_seq ?_)
  refine awp_ret ⟨.inr rfl, _, rfl, ?_⟩
  exact ⟨c, hc, hcm, by simp [upd], rfl⟩

theorem cloneGn0 (H : Heap) : ACalls Try.prog 33 [.slice [] .none] H fun r' H' => r' = .slice [] .full ∧ H' = H := by
  refine acalls_of (N := 8) Try.func33 rfl rfl (by simp) fun hb' => ?_
  repeat (refine awp_seq ?_)
  refine e_eval (by simp only [jA, jO, jN, seval, vint, qF] <;> with_reducible rfl) (by decide) ?_
  repeat (refine awp_seq ?_)
  refine awp_region ?_
  refine e_take 1 (by simp only [jA, jO, jN, seval, vint, qF] <;> with_reducible rfl) (by decide) ?_
  refine aops_nilcmp (es := []) (tl := .none) rfl (by simp only [jC, jN, seval, vint, qF] <;> rfl) rfl (by decide) (by rw [Tryte22]; rfl) (fun b hb => ?_)
  refine aops_nil ?_
  repeat (refine awp_seq ?_)
  refine awp_cond rfl (by simp only [jN, seval, vint, qF] <;> with_reducible rfl) (fun b0 => ?_) (fun b0 => ?_)
  ·
    repeat (refine awp_seq ?_)
    refine e_eval (by simp only [jA, jO, jN, seval, vint, qF] <;> with_reducible rfl) (by decide) ?_
    repeat (refine awp_seq ?_)
    refine awp_ret ⟨.inr rfl, _, rfl, ?_⟩
    exact ⟨rfl, rfl⟩
  ·
    repeat (refine awp_seq ?_)
    refine awp_skip ?_
    repeat (refine awp_seq ?_)
    refine e_eval (by simp only [jA, jO, jN, seval, y22, y48, vint, qF, aappend] <;> with_reducible rfl) (by decide) ?_
    repeat (refine awp_seq ?_)
    refine awp_ret ⟨.inr rfl, _, rfl, ?_⟩
    exact ⟨rfl, rfl⟩

end Go.Abs
set_option maxRecDepth 4000
namespace Go.Abs
open Go.Proofs

theorem set_selfL {α : Type} {l : List α} {i : Nat} {x : α} (h : l[i]? = some x) : l.set i x = l := by
  refine List.ext_getElem? fun j => ?_
  rw [List.getElem?_set]
  split
  · rename_i e; subst e; rw [if_pos (by rcases Nat.lt_or_ge i l.length with q | q; exact q; rw [List.getElem?_eq_none q] at h; cases h)]; exact h.symm
  · rfl
theorem zG_len : zG.cells.length = 4 := rfl
theorem esG_len (ns : List Gn) (m : Nat) : ∀ e ∈ ns.map Gn.enc ++ List.replicate m zG, e.cells.length = 4 := by
  intro e he
  rcases List.mem_append.1 he with h | h
  · obtain ⟨u, _, rfl⟩ := List.mem_map.1 h; exact u.enc_len
  · rw [(List.mem_replicate.1 h).2]; rfl
theorem esG_bel (n : Nat) (ns : List Gn) (m : Nat) : ∀ e ∈ ns.map Gn.enc ++ List.replicate m zG, ∀ x ∈ e.cells, Bel n x := by
  intro e he x hx
  rcases List.mem_append.1 he with h | h
  · obtain ⟨u, _, rfl⟩ := List.mem_map.1 h
    have := u.bel n
    rw [Gn.enc_eq] at this
    cases this with | agg _ h => exact h x hx
  · rw [(List.mem_replicate.1 h).2] at hx
    have hx : x ∈ [PV.int IntKind.i64 0, .int .i64 0, .str [], .slice [] .full] := hx
    simp only [List.mem_cons, List.not_mem_nil, or_false] at hx
    rcases hx with rfl | rfl | rfl | rfl
    · exact .int _ _
    · exact .int _ _
    · exact .str _
    · exact bel_nil0 _
theorem rowG_bel (n : Nat) (ns : List Gn) (m : Nat) : OBel n (.row (flatE (ns.map Gn.enc ++ List.replicate m zG))) := by
  intro x hx
  obtain ⟨l, hl, hx⟩ := List.mem_flatten.1 hx
  obtain ⟨e, he, rfl⟩ := List.mem_map.1 hl
  exact esG_bel n ns m e he x hx
theorem rowG_len (ns : List Gn) (m : Nat) : (flatE (ns.map Gn.enc ++ List.replicate m zG)).length = (ns.length + m) * 4 := by
  rw [flatE_length _ (esG_len ns m)]; simp
theorem rowG_get {ns : List Gn} {i : Nat} (m : Nat) (h : i < ns.length) : (flatE (ns.map Gn.enc ++ List.replicate m zG))[i * 4 + 3]? = some (.slice (ns[i].ch.map vint) .none) := by
  rw [flatE_get _ (esG_len ns m) i 3 (by simp; omega) (by omega), List.getElem_append_left (by simpa using h), List.getElem_map]
  rfl
theorem cloneT (ns : List Gn) (m : Nat) : (ns.map Gn.enc ++ List.replicate m zG).take ns.length = ns.map Gn.enc := by
  rw [List.take_append_of_le_length (by simp), List.take_of_length_le (by simp)]

theorem clone_ne (ns : List Gn) (hne : ns ≠ []) (hw : NsW ns) (H : Heap) : ACalls Try.prog 22 [(Ga.mk ns).enc] H fun r' H' => r' = .agg [.slice (ns.map Gn.enc) (.tok (H.length + 3))] ∧ H' = H ++ [.row [.slice (ns.map Gn.enc) .none], .row [.slice (ns.map Gn.enc) (.tok (H.length + 3))], .row [.slice (ns.map Gn.enc) (.tok (H.length + 3))], .buf ns.length 4] := by
  have em : maxLen = 9223372036854775807 := by decide
  have hln := hw.len
  refine acalls_ofK (N := 29) (x := 2) (t := 24) Try.func22 rfl rfl (by simp) rfl (by decide) Tryti24 rfl fun hb' => ?_
  repeat (refine awp_seq ?_)
  refine e_eval (by simp only [jA, jO, jN, seval, y24, vint, qF, List.append_assoc, List.cons_append, List.nil_append] <;> with_reducible rfl) (by decide) ?_
  repeat (refine awp_seq ?_)
  refine awp_ext ?_
  refine awp_region ?_
  refine e_take 2 (by simp only [jA, jO, jN, seval, y22, y24, y48, vint, qF, List.append_assoc, List.cons_append, List.nil_append] <;> with_reducible rfl) (by decide) ?_
  refine aops_acall (by simp only [jC, jN, seval, vint, qF, List.append_assoc, List.cons_append, List.nil_append] <;> with_reducible rfl) (by simp only [jC, jN, seval, vint, qF, List.append_assoc, List.cons_append, List.nil_append]) (by decide) Trygo33 (cloneGnM ns hne (by omega) _ (H.length + 2) (by simp only [jC, jN, seval, vint, qF, List.append_assoc, List.cons_append, List.nil_append] <;> rfl)) ?_
  rintro _ _ ⟨c, hc1, hc2, rfl, rfl⟩
  obtain ⟨R, hR⟩ : ∃ R, flatE (ns.map Gn.enc ++ List.replicate (c - ns.length) zG) = R := ⟨_, rfl⟩
  rw [hR]
  refine e_end (by simp only [jA, jO, jN, seval, y24, vint, qF, List.append_assoc, List.cons_append, List.nil_append] <;> with_reducible rfl) (by decide) ?_
  repeat (refine awp_seq ?_)
  refine e_eval (by simp only [jA, jO, jN, seval, y22, y24, y48, vint, qF, List.append_assoc, List.cons_append, List.nil_append] <;> with_reducible rfl) (by decide) ?_
  repeat (refine awp_seq ?_)
  refine awp_forS (σ := Unit) (ns.length) (fun (u_ : Unit) => [(2, .optr (H.length + 1) 0), (3, .optr (H.length + 3) 0)]) [2, 3] (H) (fun (u_ : Unit) => [.row [.slice (ns.map Gn.enc) .none], .row [.slice [] .full], .row R, .row [.msl (H.length + 2) 0 ns.length c]]) (fun (i : Nat) (u_ : Unit) => True) (()) ([]) rfl rfl rfl rfl rfl rfl rfl rfl rfl (by decide) (by decide) (by decide) (fun _ => rfl) (by omega) ⟨(by first | rfl | (simp only [jN, seval, vint, qF, List.append_assoc, List.cons_append, List.nil_append] <;> first | done | with_reducible rfl)), (by first | rfl | (simp only [jN, seval, vint, qF, List.append_assoc, List.cons_append, List.nil_append] <;> first | done | with_reducible rfl)), (by first | rfl | (simp only [jN, seval, vint, qF, List.append_assoc, List.cons_append, List.nil_append] <;> first | done | with_reducible rfl)), (by first | rfl | (simp only [jN, seval, vint, qF, List.append_assoc, List.cons_append, List.nil_append] <;> first | done | with_reducible rfl)), trivial⟩ (by first | rfl | (simp only [jN, seval, vint, qF, List.append_assoc, List.cons_append, List.nil_append] <;> first | done | with_reducible rfl)) (by simp) (fun _ _ _ => by first | exact Nat.zero_le _ | (simp only [List.length_append]; omega)) ?_ ?_ ?_
  · exact fun i u_ hg => ⟨by refine hbel_app' hb' (by simp) ?_; refine HBel.cons (obel_row_cons (bel_Gn _ _) (obel_row_nil _)) (HBel.cons (obel_row_cons (bel_nil0 _) (obel_row_nil _)) (HBel.cons (by rw [← hR]; exact rowG_bel _ _ _) (HBel.cons (obel_row_cons (by first | exact .msl _ _ _ _ (by simp only [List.length_append, List.length_cons, List.length_nil]; omega) | exact Bel.optr _ _ (by simp only [List.length_append, List.length_cons, List.length_nil]; omega) | exact bel_ints0 _ _ | exact bel_St _ _ | exact St.bel _ _ | exact bel_Gn _ _ | exact Gn.bel _ _ | exact Ga.bel _ _ | exact bel_Gn_tok _ (by simp) | exact bel_St_tok _ (by simp) | exact bel_int_tok _ (by simp) | exact bel_nil0 _ | exact bel_nil1 _ | exact Bel.int _ _ | exact Bel.bool _ | exact Bel.str _ | exact Bel.nilp | exact Bel.nilfn | exact Bel.optr _ _ (by simp) | exact bel_nil0 _ | exact bel_nil1 _ | exact bel_fn0 _ _ | assumption) (obel_row_nil _)) (hbel_nil _)))), by repeat (first | exact BelL.nil | refine BelL.cons (by first | exact .msl _ _ _ _ (by simp only [List.length_append, List.length_cons, List.length_nil]; omega) | exact Bel.optr _ _ (by simp only [List.length_append, List.length_cons, List.length_nil]; omega) | exact bel_ints0 _ _ | exact bel_St _ _ | exact St.bel _ _ | exact bel_Gn _ _ | exact Gn.bel _ _ | exact Ga.bel _ _ | exact bel_Gn_tok _ (by simp) | exact bel_St_tok _ (by simp) | exact bel_int_tok _ (by simp) | exact bel_nil0 _ | exact bel_nil1 _ | exact Bel.int _ _ | exact Bel.bool _ | exact Bel.str _ | exact Bel.nilp | exact Bel.nilfn | exact Bel.optr _ _ (by simp) | exact bel_nil0 _ | exact bel_nil1 _ | exact bel_fn0 _ _ | assumption) ?_)⟩
  · intro i u_ hi hg
    have g1 := ix_nat hi
    have gR : R[i * 4 + 3]? = some (.slice (ns[i].ch.map vint) .none) := by rw [← hR]; exact rowG_get _ hi
    have lR : (i * 4 + 3 + 1 ≤ R.length) = True := by rw [← hR, rowG_len]; simp; omega
    have sR : R.set (i * 4 + 3) (.slice (ns[i].ch.map vint) .none) = R := set_selfL gR
    have hle := (hw.el ns[i] (List.getElem_mem hi)).len_ch
    repeat (refine awp_seq ?_)
    refine e_eval (by simp only [jA, jO, jN, seval, vint, qF, List.append_assoc, List.cons_append, List.nil_append, g1, gR, lR, sR, Int.toNat_natCast, Nat.zero_add] <;> with_reducible rfl) (by decide) ?_
    repeat (refine awp_seq ?_)
    refine x_draw 0 (n0 := H.length + 4) (by first | rfl | (simp only [List.length_append, List.length_cons, List.length_nil, Nat.reduceAdd, Nat.zero_add, List.append_assoc, List.cons_append, List.nil_append, g1, gR, lR, sR, Int.toNat_natCast, Nat.zero_add, List.append_assoc, List.cons_append, List.nil_append]; done)) (by kernel_rfl) ?_
    refine x1_take 9 (by first | rfl | (simp only [List.length_append, List.length_cons, List.length_nil, Nat.reduceAdd, Nat.zero_add, List.append_assoc, List.cons_append, List.nil_append, g1, gR, lR, sR, Int.toNat_natCast, Nat.zero_add, List.append_assoc, List.cons_append, List.nil_append]; done)) (by simp only [jP, jO, jN, seval, y3, y22, y24, y46, y48, vint, qF, List.append_assoc, List.cons_append, List.nil_append, g1, gR, lR, sR, Int.toNat_natCast, Nat.zero_add, List.append_assoc, List.cons_append, List.nil_append] <;> with_reducible rfl) (by decide) (by decide) (by decide) ?_
    refine x1_keep (by first | rfl | (simp only [List.length_append, List.length_cons, List.length_nil, Nat.reduceAdd, Nat.zero_add, List.append_assoc, List.cons_append, List.nil_append, g1, gR, lR, sR, Int.toNat_natCast, Nat.zero_add, List.append_assoc, List.cons_append, List.nil_append]; done)) (by simp only [jE, jN, seval, vint, qF, List.append_assoc, List.cons_append, List.nil_append, g1, gR, lR, sR, Int.toNat_natCast, Nat.zero_add, List.append_assoc, List.cons_append, List.nil_append] <;> with_reducible rfl) (by simp only [jE, jN, seval, vint, qF, List.append_assoc, List.cons_append, List.nil_append, g1, gR, lR, sR, Int.toNat_natCast, Nat.zero_add, List.append_assoc, List.cons_append, List.nil_append] <;> with_reducible rfl) (by simp only [jE, jN, seval, vint, qF, List.append_assoc, List.cons_append, List.nil_append, g1, gR, lR, sR, Int.toNat_natCast, Nat.zero_add, List.append_assoc, List.cons_append, List.nil_append]) (by decide) Trygo34 (fun hc L => cloneInt _ hle _) ?_
    refine x1_take 2 (by first | rfl | (simp only [List.length_append, List.length_cons, List.length_nil, Nat.reduceAdd, Nat.zero_add, List.append_assoc, List.cons_append, List.nil_append, g1, gR, lR, sR, Int.toNat_natCast, Nat.zero_add, List.append_assoc, List.cons_append, List.nil_append]; done)) (by simp only [jP, jO, jN, seval, y22, y48, vint, qF, List.append_assoc, List.cons_append, List.nil_append, g1, gR, lR, sR, Int.toNat_natCast, Nat.zero_add, List.append_assoc, List.cons_append, List.nil_append] <;> with_reducible rfl) (by decide) (by decide) (by decide) ?_
    refine x_mid (by first | (simp only [LS, HS, List.append_assoc, List.cons_append, List.nil_append, List.append_assoc, List.cons_append, List.nil_append, g1, gR, lR, sR, Int.toNat_natCast, Nat.zero_add, List.append_assoc, List.cons_append, List.nil_append] <;> with_reducible rfl) | rfl) ?_
    refine x2_end (bm := [0, 1, 0, 0, 8, 0, 56, 120, 248, 504, 1023, 2047, 4095]) (fresh := (H.length + 4)) (by kernel_rfl) (by simp only [jX, jO, jN, seval, y3, y46, vint, qF, List.append_assoc, List.cons_append, List.nil_append, g1, gR, lR, sR, Int.toNat_natCast, Nat.zero_add, List.append_assoc, List.cons_append, List.nil_append] <;> with_reducible rfl) (by decide) (by repeat (first | exact Fin.base _ | with_reducible apply Fin.keep | apply Fin.drop)) ?_
    exact ⟨⟨rfl, rfl, trivial⟩, (), [], ⟨rfl, rfl, trivial⟩, by simp only [jN, seval, vint, qF, List.append_assoc, List.cons_append, List.nil_append, List.append_nil] <;> rfl, trivial⟩
  · intro u_ hg
    have hes := esG_len ns (c - ns.length)
    have eL : (H ++ ([.row [.slice (ns.map Gn.enc) .none], .row [.slice [] .full]] : Heap)).length = H.length + 2 := by simp
    refine awp_grw (H1 := H ++ ([.row [.slice (ns.map Gn.enc) .none], .row [.slice [] .full]] : Heap)) (L := [.row R, .row [.msl (H.length + 2) 0 ns.length c]]) [(2, .optr (H.length + 1) 0), (3, .optr (H ++ ([.row [.slice (ns.map Gn.enc) .none], .row [.slice [] .full]] : Heap)).length 0)] (H.length + 3) (H.length + 2) ns.length c 4 (ns.map Gn.enc ++ List.replicate (c - ns.length) zG) ⟨.inl ⟨rfl, .optr _ _ (by rw [eL]; omega)⟩, .inr ⟨rfl, rfl⟩, trivial⟩ (by simp) (by rw [eL]; omega)
      (hbel_app' hb' (by simp) (HBel.cons (obel_row_cons (bel_Gn _ _) (obel_row_nil _)) (HBel.cons (obel_row_cons (bel_nil0 _) (obel_row_nil _)) (hbel_nil _)))) (by rw [eL]; omega) (by rw [eL]; omega) (by omega) (by simp only [jC, jN, seval, vint, qF, List.append_assoc, List.cons_append, List.nil_append] <;> rfl) (by rw [hR]; simp only [jC, jN, seval, vint, qF, List.append_assoc, List.cons_append, List.nil_append] <;> rfl) (by simp) (by simp; omega) hes (esG_bel _ ns _) ?_
    rw [cloneT, eL]
    repeat (refine awp_seq ?_)
    refine awp_region ?_
    refine aops_loadK (id := H.length + 2) (off := 0) (cs := [.slice (ns.map Gn.enc) (.tok (H.length + 3))]) rfl (by simp only [jC, jN, seval, vint, qF] <;> rfl) (by simp only [jC, jN, seval, vint, qF, List.append_assoc, List.cons_append, List.nil_append] <;> rfl) Tryti24 rfl (by simp) rfl (by decide) ?_
    refine e_end (by simp only [jA, jO, jN, seval, y24, vint, qF, List.append_assoc, List.cons_append, List.nil_append, List.append_assoc, List.cons_append, List.nil_append] <;> with_reducible rfl) (by decide) ?_
    repeat (refine awp_seq ?_)
    refine awp_ret ?_
    exact ⟨.inr rfl, H.length + 1, 0, [.slice (ns.map Gn.enc) (.tok (H.length + 3))], by simp only [jC, jN, seval, vint, qF] <;> rfl, by simp only [jC, jN, seval, vint, qF, List.append_assoc, List.cons_append, List.nil_append] <;> rfl, by simp, rfl, rfl⟩

theorem clone_0 (H : Heap) : ACalls Try.prog 22 [(Ga.mk []).enc] H fun r' H' => r' = .agg [.slice [] (.tok (H.length + 3))] ∧ H' = H ++ [.row [.slice [] .none], .row [.slice [] (.tok (H.length + 3))], .row [.slice [] (.tok (H.length + 3))], .buf 0 4] := by
  refine acalls_ofK (N := 29) (x := 2) (t := 24) Try.func22 rfl rfl (by simp) rfl (by decide) Tryti24 rfl fun hb' => ?_
  repeat (refine awp_seq ?_)
  refine e_eval (by simp only [jA, jO, jN, seval, y24, vint, qF, List.append_assoc, List.cons_append, List.nil_append, List.map_nil] <;> with_reducible rfl) (by decide) ?_
  repeat (refine awp_seq ?_)
  refine awp_region ?_
  refine e_take 2 (by simp only [jA, jO, jN, seval, y22, y24, y48, vint, qF, List.append_assoc, List.cons_append, List.nil_append, List.map_nil] <;> with_reducible rfl) (by decide) ?_
  refine aops_acall (by simp only [jC, jN, seval, vint, qF, List.append_assoc, List.cons_append, List.nil_append, List.map_nil] <;> with_reducible rfl) (by simp only [jC, jN, seval, vint, qF, List.append_assoc, List.cons_append, List.nil_append, List.map_nil]) (by decide) Trygo33 (cloneGn0 _) ?_
  rintro _ _ ⟨rfl, rfl⟩
  refine aops_buildK (v := .agg [.slice [] .full]) rfl (by decide) Trytf24 Trytz24 rfl rfl rfl rfl (by decide) rfl rfl ?_
  refine e_end (by simp only [jA, jO, jN, seval, y24, vint, qF, List.append_assoc, List.cons_append, List.nil_append, List.map_nil] <;> with_reducible rfl) (by decide) ?_
  repeat (refine awp_seq ?_)
  refine e_eval (by simp only [jA, jO, jN, seval, y22, y24, y48, vint, qF, List.append_assoc, List.cons_append, List.nil_append, List.map_nil] <;> with_reducible rfl) (by decide) ?_
  repeat (refine awp_seq ?_)
  refine awp_forS (σ := Unit) (0) (fun (u_ : Unit) => [(2, .optr (H.length + 1) 0), (3, .optr (H.length + 2) 0)]) [2, 3] (H) (fun (u_ : Unit) => [.row [.slice [] .none], .row [.slice [] .full], .row [.slice [] .full]]) (fun (i : Nat) (u_ : Unit) => True) (()) ([]) rfl rfl rfl rfl rfl rfl rfl rfl rfl (by decide) (by decide) (by decide) (fun _ => rfl) (by decide) ⟨(by first | rfl | (simp only [jN, seval, vint, qF, List.append_assoc, List.cons_append, List.nil_append, List.map_nil] <;> first | done | with_reducible rfl)), (by first | rfl | (simp only [jN, seval, vint, qF, List.append_assoc, List.cons_append, List.nil_append, List.map_nil] <;> first | done | with_reducible rfl)), (by first | rfl | (simp only [jN, seval, vint, qF, List.append_assoc, List.cons_append, List.nil_append, List.map_nil] <;> first | done | with_reducible rfl)), (by first | rfl | (simp only [jN, seval, vint, qF, List.append_assoc, List.cons_append, List.nil_append, List.map_nil] <;> first | done | with_reducible rfl)), trivial⟩ (by first | rfl | (simp only [jN, seval, vint, qF, List.append_assoc, List.cons_append, List.nil_append, List.map_nil] <;> first | done | with_reducible rfl)) (by simp) (fun _ _ _ => by first | exact Nat.zero_le _ | (simp only [List.length_append]; omega)) ?_ ?_ ?_
  · exact fun i u_ hg => ⟨by refine hbel_app' hb' (by simp) ?_; repeat (first | exact hbel_nil _ | exact trivial | exact obel_row_nil _ | (refine HBel.cons ?_ ?_) | (refine obel_row_cons (by first | exact .msl _ _ _ _ (by simp only [List.length_append, List.length_cons, List.length_nil]; omega) | exact Bel.optr _ _ (by simp only [List.length_append, List.length_cons, List.length_nil]; omega) | exact bel_ints0 _ _ | exact bel_St _ _ | exact St.bel _ _ | exact bel_Gn _ _ | exact Gn.bel _ _ | exact Ga.bel _ _ | exact bel_Gn_tok _ (by simp) | exact bel_St_tok _ (by simp) | exact bel_int_tok _ (by simp) | exact bel_nil0 _ | exact bel_nil1 _ | exact Bel.int _ _ | exact Bel.bool _ | exact Bel.str _ | exact Bel.nilp | exact Bel.nilfn | exact Bel.optr _ _ (by simp) | exact bel_nil0 _ | exact bel_nil1 _ | exact bel_fn0 _ _ | assumption) ?_)), by repeat (first | exact BelL.nil | refine BelL.cons (by first | exact .msl _ _ _ _ (by simp only [List.length_append, List.length_cons, List.length_nil]; omega) | exact Bel.optr _ _ (by simp only [List.length_append, List.length_cons, List.length_nil]; omega) | exact bel_ints0 _ _ | exact bel_St _ _ | exact St.bel _ _ | exact bel_Gn _ _ | exact Gn.bel _ _ | exact Ga.bel _ _ | exact bel_Gn_tok _ (by simp) | exact bel_St_tok _ (by simp) | exact bel_int_tok _ (by simp) | exact bel_nil0 _ | exact bel_nil1 _ | exact Bel.int _ _ | exact Bel.bool _ | exact Bel.str _ | exact Bel.nilp | exact Bel.nilfn | exact Bel.optr _ _ (by simp) | exact bel_nil0 _ | exact bel_nil1 _ | exact bel_fn0 _ _ | assumption) ?_)⟩
  · intro i u_ hi hg
    exact absurd hi (by omega)
  · intro u_ hg
    refine awp_retok_row (H.length + 2) 0 4 (by simp only [jC, jN, seval, vint, qF, List.append_assoc, List.cons_append, List.nil_append] <;> rfl) rfl ?_
    simp only [List.length_append, List.length_cons, List.length_nil, Nat.zero_add, Nat.reduceAdd]
    repeat (refine awp_seq ?_)
    refine awp_region ?_
    refine aops_loadK (id := H.length + 2) (off := 0) (cs := [.slice [] (.tok (H.length + 3))]) rfl (by simp only [jC, jN, seval, vint, qF] <;> rfl) (by simp only [jC, jN, seval, vint, qF, List.append_assoc, List.cons_append, List.nil_append] <;> rfl) Tryti24 rfl (by simp) rfl (by decide) ?_
    refine e_end (by simp only [jA, jO, jN, seval, y24, vint, qF, List.append_assoc, List.cons_append, List.nil_append, List.map_nil, List.append_assoc, List.cons_append, List.nil_append] <;> with_reducible rfl) (by decide) ?_
    repeat (refine awp_seq ?_)
    refine awp_ret ?_
    exact ⟨.inr rfl, H.length + 1, 0, [.slice [] (.tok (H.length + 3))], by simp only [jC, jN, seval, vint, qF] <;> rfl, by simp only [jC, jN, seval, vint, qF, List.append_assoc, List.cons_append, List.nil_append] <;> rfl, by simp, rfl, rfl⟩

theorem clone_c (ns : List Gn) (hw : NsW ns) (H : Heap) : ACalls Try.prog 22 [(Ga.mk ns).enc] H fun r' H' => r' = .agg [.slice (ns.map Gn.enc) (.tok (H.length + 3))] ∧ H' = H ++ [.row [.slice (ns.map Gn.enc) .none], .row [.slice (ns.map Gn.enc) (.tok (H.length + 3))], .row [.slice (ns.map Gn.enc) (.tok (H.length + 3))], .buf ns.length 4] := by
  by_cases hne : ns = []
  · subst hne; exact clone_0 H
  · exact clone_ne ns hne hw H

end Go.Abs
set_option maxRecDepth 4000
namespace Go.Abs
open Go.Proofs

theorem insN_W {k : Int} {tx : List UInt8} {s : List Gn × List Int × Int} (ht : tx.length ≤ 2 ^ 47) (hc : s.2.1.length * 8 ≤ 2 ^ 47) (hs : ∀ n ∈ s.1, n.W) : ∀ n ∈ (insN k tx s).1, n.W := by
  unfold insN
  split
  · exact hs
  · intro n hn
    rcases List.mem_append.1 hn with h | h
    · exact hs n h
    · rw [List.mem_singleton.1 h]; exact ⟨ht, hc⟩
theorem insL_W : ∀ (cs : List St), (∀ c ∈ cs, ∀ ns : List Gn, (∀ n ∈ ns, n.W) → ∀ n ∈ (insT c ns).1, n.W) → ∀ s : List Gn × List Int × Int, (∀ n ∈ s.1, n.W) → ∀ n ∈ (insL (cs.map insT) s).1, n.W
  | [], _, s, hs => hs
  | c :: cs, h, s, hs => by
    simp only [List.map_cons, insL]
    exact insL_W cs (fun d hd => h d (List.mem_cons_of_mem _ hd)) _ (h c (List.mem_cons_self ..) s.1 hs)
theorem insT_W_k : ∀ (k : Nat) (t : St), t.size ≤ k → t.W → ∀ ns : List Gn, (∀ n ∈ ns, n.W) → ∀ n ∈ (insT t ns).1, n.W
  | 0, t, h => by cases t; simp [St.size] at h
  | k + 1, t, h => fun hw ns hs => by
    rw [insT_eq]
    have hl := (insL_len t.ch (fun c hc ns => ⟨(insT_len c ns).1, (insT_len c ns).2.1⟩) (ns, [], (t.text.length : Int))).2.2
    refine insN_W hw.w0 (by rw [hl]; have := hw.w1; simp; omega) (insL_W t.ch (fun c hc ns h2 => insT_W_k k c (by have := St.size_ch hc; omega) (hw.ch hc) ns h2) _ hs)
theorem insT_W {t : St} (hw : t.W) {ns : List Gn} (hs : ∀ n ∈ ns, n.W) : ∀ n ∈ (insT t ns).1, n.W := insT_W_k _ t (Nat.le_refl _) hw ns hs
theorem insL_take_len (cs : List St) (i : Nat) (s : List Gn × List Int × Int) : s.1.length ≤ (insL ((cs.take i).map insT) s).1.length ∧ (insL ((cs.take i).map insT) s).1.length ≤ s.1.length + stSizes (cs.take i) ∧ (insL ((cs.take i).map insT) s).2.1.length = s.2.1.length + (cs.take i).length :=
  insL_len (cs.take i) (fun c _ ns => ⟨(insT_len c ns).1, (insT_len c ns).2.1⟩) s
theorem insL_take_W (cs : List St) (hw : ∀ c ∈ cs, c.W) (i : Nat) (s : List Gn × List Int × Int) (hs : ∀ n ∈ s.1, n.W) : ∀ n ∈ (insL ((cs.take i).map insT) s).1, n.W :=
  insL_W (cs.take i) (fun c hc ns h => insT_W (hw c (List.mem_of_mem_take hc)) h) s hs

theorem insert_k : ∀ (k : Nat) (t : St), t.size ≤ k → t.W → ∀ (ns : List Gn) (ib kk : Nat), ib ≠ kk → (∀ n ∈ ns, n.W) → ns.length + t.size ≤ 4000 → ∀ H : Heap, ib < H.length → kk < H.length → ACalls Try.prog 23 [.optr ib 0, t.enc] (aH H ib kk (ns.map Gn.enc) ns.length) fun r' H' => r' = vint (insT t ns).2 ∧ H' = aH H ib kk ((insT t ns).1.map Gn.enc) (insT t ns).1.length
  | 0, t, h, _, _, _, _, _, _, _, _, _, _ => by cases t; simp [St.size] at h
  | k + 1, t, h, hw, ns, ib, kk, hne, hsW, hsl, H, hib, hkk => by
    have em : maxLen = 9223372036854775807 := by decide
    have MH := aH_rules hib hkk hne
    have hAA : ∀ es n L es' n', aH (aH H ib kk es n ++ L) ib kk es' n' = aH H ib kk es' n' ++ L := fun es n L es' n' => aH_app hib hkk hne
    have hsz : t.size = 1 + stSizes t.ch := by cases t; simp [St.size, St.ch]
    refine muts_of (N := 72) Try.func23 rfl rfl (by simp) (.int _ _) (by simp only [aH_len]) (fun hb => by rw [aH_len] at hb ⊢; exact aH_bel hb hib hkk hne (bel_Gn_tok _ hkk)) fun hb' => ?_
    rw [aH_len]
    rw [aH_len] at hb'
    repeat (refine awp_seq ?_)
    refine e_eval (by simp only [jA, jO, jN, seval, y27, vint, qF, MH, hAA, List.append_assoc, List.cons_append, List.nil_append] <;> with_reducible rfl) (by decide) ?_
    repeat (refine awp_seq ?_)
    refine e_eval (by simp only [jA, jO, jN, seval, y3, y9, y27, y48, vint, qF, MH, hAA, List.append_assoc, List.cons_append, List.nil_append] <;> with_reducible rfl) (by decide) ?_
    repeat (refine awp_seq ?_)
    refine e_eval (by simp only [jA, jO, jN, seval, y25, y27, vint, qF, MH, hAA, List.append_assoc, List.cons_append, List.nil_append] <;> with_reducible rfl) (by decide) ?_
    repeat (refine awp_seq ?_)
    refine awp_retok_row (H.length + 1) 3 1 (by simp only [jD, jO, jN, seval, vint, qF, MH] <;> with_reducible rfl) rfl ?_
    refine awp_forS (σ := List Gn × List Int × Int) (t.ch.length) (fun (q : List Gn × List Int × Int) => [(0, .optr ib 0), (3, .optr H.length 0), (5, .optr (H.length + 1) 0), (19, .slice (t.ch.map St.enc) .none)]) [0, 3, 5, 19] ([]) (fun (q : List Gn × List Int × Int) => aH H ib kk (q.1.map Gn.enc) q.1.length ++ [.row t.enc.cells, .row [.int .i64 t.kind, .int .i64 q.2.2, .str t.text, .slice (q.2.1.map vint) (.tok (H.length + 2))], .buf q.2.1.length 1]) (fun (i : Nat) (q : List Gn × List Int × Int) => q = insL ((t.ch.take i).map insT) (ns, ([] : List Int), (t.text.length : Int))) ((ns, ([] : List Int), (t.text.length : Int))) ([]) rfl rfl rfl rfl rfl rfl rfl rfl rfl (by decide) (by decide) (by decide) (fun _ => rfl) (hw.max_ch) ⟨(by first | rfl | (simp only [jN, seval, vint, qF, MH, hAA, List.append_assoc, List.cons_append, List.nil_append] <;> first | done | with_reducible rfl)), (by first | rfl | (simp only [jN, seval, vint, qF, MH, hAA, List.append_assoc, List.cons_append, List.nil_append] <;> first | done | with_reducible rfl)), (by first | rfl | (simp only [jN, seval, vint, qF, MH, hAA, List.append_assoc, List.cons_append, List.nil_append] <;> first | done | with_reducible rfl)), (by first | rfl | (simp only [jN, seval, vint, qF, MH, hAA, List.append_assoc, List.cons_append, List.nil_append] <;> first | done | with_reducible rfl)), (by first | rfl | (simp only [jN, seval, vint, qF, MH, hAA, List.append_assoc, List.cons_append, List.nil_append] <;> first | done | with_reducible rfl)), (by first | rfl | (simp only [jN, seval, vint, qF, MH, hAA, List.append_assoc, List.cons_append, List.nil_append] <;> first | done | with_reducible rfl)), trivial⟩ (by first | rfl | (simp only [jN, seval, vint, qF, MH, hAA, List.append_assoc, List.cons_append, List.nil_append] <;> first | done | with_reducible rfl)) (by simp [insL]) (fun i q hg => by simp only [List.nil_append, List.length_append, aH_len]; omega) ?_ ?_ ?_
    · intro i q hg
      refine ⟨?_, by repeat (first | exact BelL.nil | refine BelL.cons (by first | exact Bel.optr _ _ (by simp only [List.length_append, List.length_cons, List.length_nil, aH_len]; omega) | exact bel_Gn_tok _ (by simp only [List.length_append, List.length_cons, List.length_nil, aH_len]; omega) | exact bel_int_tok _ (by simp only [List.length_append, List.length_cons, List.length_nil, aH_len]; omega) | exact bel_ints0 _ _ | exact bel_St _ _ | exact St.bel _ _ | exact bel_Gn _ _ | exact Gn.bel _ _ | exact Ga.bel _ _ | exact bel_Gn_tok _ (by simp) | exact bel_St_tok _ (by simp) | exact bel_int_tok _ (by simp) | exact bel_nil0 _ | exact bel_nil1 _ | exact Bel.int _ _ | exact Bel.bool _ | exact Bel.str _ | exact Bel.nilp | exact Bel.nilfn | exact Bel.optr _ _ (by simp) | exact bel_nil0 _ | exact bel_nil1 _ | exact bel_fn0 _ _ | assumption) ?_)⟩
      simp only [List.nil_append, StS]
      refine hbel_app' (aH_bel hb' hib hkk hne (bel_Gn_tok _ hkk)) (by simp [aH_len]) ?_
      repeat (first | exact hbel_nil _ | exact trivial | exact obel_row_nil _ | (refine HBel.cons ?_ ?_) | (refine obel_row_cons (by first | exact Bel.optr _ _ (by simp only [List.length_append, List.length_cons, List.length_nil, aH_len]; omega) | exact bel_Gn_tok _ (by simp only [List.length_append, List.length_cons, List.length_nil, aH_len]; omega) | exact bel_int_tok _ (by simp only [List.length_append, List.length_cons, List.length_nil, aH_len]; omega) | exact bel_ints0 _ _ | exact bel_St _ _ | exact St.bel _ _ | exact bel_Gn _ _ | exact Gn.bel _ _ | exact Ga.bel _ _ | exact bel_Gn_tok _ (by simp) | exact bel_St_tok _ (by simp) | exact bel_int_tok _ (by simp) | exact bel_nil0 _ | exact bel_nil1 _ | exact Bel.int _ _ | exact Bel.bool _ | exact Bel.str _ | exact Bel.nilp | exact Bel.nilfn | exact Bel.optr _ _ (by simp) | exact bel_nil0 _ | exact bel_nil1 _ | exact bel_fn0 _ _ | assumption) ?_))
    · intro i q hi hg
      have g1 := ix_nat hi
      have g2 := get_enc St.enc hi
      have hmem : t.ch[i] ∈ t.ch := List.getElem_mem hi
      have hsz := St.size_ch hmem
      have hcW := hw.ch hmem
      have hlens := insL_take_len t.ch i (ns, ([] : List Int), (t.text.length : Int))
      have hqW := insL_take_W t.ch (fun c hc => hw.ch hc) i (ns, ([] : List Int), (t.text.length : Int)) hsW
      have htk := insL_take hi (ns, ([] : List Int), (t.text.length : Int))
      have hss := stSizes_take hi
      have hss2 := stSizes_take_le t.ch (i + 1)
      rw [← hg] at hlens hqW htk
      rw [List.length_take] at hlens
      have hlc := hw.w1
      obtain ⟨c, ce⟩ : ∃ c, t.ch[i] = c := ⟨_, rfl⟩
      rw [ce] at g2 hmem hsz hcW htk hss
      have hil := insT_len c q.1
      have hap := fun j : Int => app_int (us := q.2.1) (u := j) (id := H.length + 2) (tl := .full) (by simp only [List.length_nil] at hlens; omega)
      obtain ⟨g5, g6⟩ := wd_get (ns := (insT c q.1).1) hil.2.2.1 hil.2.2.2
      have g7 : ((0 : Int) ≤ (insT c q.1).2 ∧ (insT c q.1).2 < (insT c q.1).1.length) = True := by simp; omega
      simp only at hlens
      repeat (refine awp_seq ?_)
      refine e_eval (by simp only [jA, jO, jN, seval, y25, y27, vint, qF, MH, hAA, List.append_assoc, List.cons_append, List.nil_append, g1, g2, Int.toNat_natCast] <;> with_reducible rfl) (by decide) ?_
      repeat (refine awp_seq ?_)
      refine awp_region ?_
      refine e_take 2 (by simp only [jA, jO, jN, seval, y27, vint, qF, MH, hAA, List.append_assoc, List.cons_append, List.nil_append, g1, g2, Int.toNat_natCast] <;> with_reducible rfl) (by decide) ?_
      refine aops_acall (by simp only [jC, jN, seval, vint, qF, MH, hAA, List.append_assoc, List.cons_append, List.nil_append, g1, g2, Int.toNat_natCast] <;> with_reducible rfl) (by simp only [jC, jN, seval, vint, qF, MH, hAA, List.append_assoc, List.cons_append, List.nil_append, g1, g2, Int.toNat_natCast]) (by decide) Trygo23 (aH_set hne (fun H hi hk => insert_k k c (by omega) hcW q.1 ib kk hne hqW (by omega) H hi hk) _ (by simp only [jC, jN, seval, vint, qF, MH, List.append_assoc, List.cons_append, List.nil_append] <;> rfl) (by simp only [jC, jN, seval, vint, qF, MH, List.append_assoc, List.cons_append, List.nil_append] <;> rfl)) ?_
      rintro _ _ ⟨rfl, rfl⟩
      refine e_end (by simp only [jA, jO, jN, seval, vint, qF, MH, hAA, List.append_assoc, List.cons_append, List.nil_append, g1, g2, Int.toNat_natCast] <;> with_reducible rfl) (by decide) ?_
      repeat (refine awp_seq ?_)
      refine e_eval (by simp only [jA, jO, jN, seval, y3, y46, y48, vint, qF, MH, hAA, List.append_assoc, List.cons_append, List.nil_append, g1, g2, Int.toNat_natCast, hap] <;> with_reducible rfl) (by decide) ?_
      repeat (refine awp_seq ?_)
      refine x_draw 0 (n0 := H.length + 4) (by first | rfl | (simp only [List.length_append, List.length_cons, List.length_nil, Nat.reduceAdd, Nat.zero_add, MH, hAA, List.append_assoc, List.cons_append, List.nil_append, g1, g2, Int.toNat_natCast, g5, g7]; done)) (by kernel_rfl) ?_
      refine x1_take 12 (by first | rfl | (simp only [List.length_append, List.length_cons, List.length_nil, Nat.reduceAdd, Nat.zero_add, MH, hAA, List.append_assoc, List.cons_append, List.nil_append, g1, g2, Int.toNat_natCast, g5, g7]; done)) (by simp only [jP, jO, jN, seval, y3, y22, y24, y48, vint, qF, MH, hAA, List.append_assoc, List.cons_append, List.nil_append, g1, g2, Int.toNat_natCast, g5, g7] <;> with_reducible rfl) (by decide) (by decide) (by decide) ?_
      refine x_mid (by first | (simp only [LS, HS, List.append_assoc, List.cons_append, List.nil_append, MH, hAA, List.append_assoc, List.cons_append, List.nil_append, g1, g2, Int.toNat_natCast, g5, g7] <;> with_reducible rfl) | rfl) ?_
      refine x2_end (bm := [0, 1, 0, 4, 12, 28, 0, 124, 252, 508, 1023, 2047, 4095]) (fresh := (H.length + 4)) (by kernel_rfl) (by simp only [jX, jO, jN, seval, y3, vint, qF, MH, hAA, List.append_assoc, List.cons_append, List.nil_append, g1, g2, Int.toNat_natCast, g5, g7] <;> with_reducible rfl) (by decide) (by repeat (first | exact Fin.base _ | with_reducible apply Fin.keep | apply Fin.drop)) ?_
      exact ⟨⟨rfl, rfl, trivial⟩, ((insT c q.1).1, q.2.1 ++ [(insT c q.1).2], IntKind.i64.wrap (q.2.2 + wd (insT c q.1).1 (insT c q.1).2)), _, ⟨rfl, rfl, rfl, rfl, trivial⟩, by simp only [g6]; simp only [jN, seval, vint, qF, MH, List.length_append, List.length_singleton, List.append_assoc, List.cons_append, List.nil_append] <;> rfl, htk.symm⟩
    · intro q hg
      rw [List.take_length] at hg
      have hlens := insL_take_len t.ch t.ch.length (ns, ([] : List Int), (t.text.length : Int))
      have hqW := insL_take_W t.ch (fun c hc => hw.ch hc) t.ch.length (ns, ([] : List Int), (t.text.length : Int)) hsW
      rw [List.take_length, ← hg] at hlens hqW
      simp only at hlens
      have hT : insT t ns = insN t.kind t.text q := by rw [insT_eq, ← hg]
      refine awp_dropRow (H.length + 1) (by simp only [jD, jO, jN, seval, vint, qF, MH, List.append_assoc, List.cons_append, List.nil_append] <;> with_reducible rfl) ?_
      repeat (refine awp_seq ?_)
      refine awp_region ?_
      refine e_take 5 (by simp only [jA, jO, jN, seval, y22, y24, y48, vint, qF, MH, hAA, List.append_assoc, List.cons_append, List.nil_append] <;> with_reducible rfl) (by decide) ?_
      refine aops_pure (by simp only [jC, jN, seval, vint, qF, MH, hAA, List.append_assoc, List.cons_append, List.nil_append] <;> with_reducible rfl) (by simp only [jC, jN, seval, vint, qF, MH, hAA, List.append_assoc, List.cons_append, List.nil_append]) (by decide) Trygo35 (indexFuncGn (p := fun m => gEq m ⟨t.kind, q.2.2, t.text, q.2.1⟩) ⟨Trygo36, by simp; exact .optr _ _ (by simp only [List.length_append, List.length_cons, List.length_nil, List.length_set, aH_len]; omega), fun u hu => ins1 ⟨t.kind, q.2.2, t.text, q.2.1⟩ _ (H.length + 1) (by simp only [jC, jN, seval, vint, qF, MH, List.append_assoc, List.cons_append, List.nil_append] <;> rfl) u (hqW u hu)⟩ (by omega)) ?_
      refine e_end (by simp only [jA, jO, jN, seval, vint, qF, MH, hAA, List.append_assoc, List.cons_append, List.nil_append] <;> with_reducible rfl) (by decide) ?_
      repeat (refine awp_seq ?_)
      refine e_eval (by simp only [jA, jO, jN, seval, y3, vint, qF, MH, hAA, List.append_assoc, List.cons_append, List.nil_append] <;> with_reducible rfl) (by decide) ?_
      repeat (refine awp_seq ?_)
      refine awp_cond rfl (by simp only [jN, seval, vint, qF, MH, hAA, List.append_assoc, List.cons_append, List.nil_append] <;> with_reducible rfl) (fun bt54 => ?_) (fun bt54 => ?_)
      ·
        have hr : insT t ns = (q.1, idxI (fun m => gEq m ⟨t.kind, q.2.2, t.text, q.2.1⟩) q.1) := by rw [hT]; unfold insN; rw [if_pos (by simpa using bt54)]
        rw [hr]
        repeat (refine awp_seq ?_)
        refine e_eval (by simp only [jA, jO, jN, seval, vint, qF, MH, hAA, List.append_assoc, List.cons_append, List.nil_append] <;> with_reducible rfl) (by decide) ?_
        repeat (refine awp_seq ?_)
        refine awp_ret ⟨.inr rfl, _, _, rfl, ?_, rfl⟩
        simp only [jN, seval, vint, qF]
      ·
        have hr : insT t ns = (q.1 ++ [⟨t.kind, q.2.2, t.text, q.2.1⟩], (q.1.length : Int)) := by rw [hT]; unfold insN; rw [if_neg (by simpa using bt54)]
        rw [hr]
        have hl1 : (q.1 ++ [(⟨t.kind, q.2.2, t.text, q.2.1⟩ : Gn)]).length = q.1.length + 1 := by simp
        simp only [hl1]
        have hap2 := app_Gn (us := q.1) (u := ⟨t.kind, q.2.2, t.text, q.2.1⟩) (id := kk) (tl := .full) (by omega)
        have w1 : IntKind.i64.wrap (((q.1.length + 1 : Nat) : Int) - 1) = q.1.length := by rw [wrap_id (by omega) (by omega)]; omega
        repeat (refine awp_seq ?_)
        refine awp_skip ?_
        repeat (refine awp_seq ?_)
        refine awp_draw 0 (by kernel_rfl) ?_
        refine d_end (bm := [0, 0, 2, 6, 14, 0, 32, 126, 255, 511, 1023]) (fresh := (H.length + 3)) (by kernel_rfl) (by simp only [jD, jO, jN, seval, y22, y24, y48, vint, qF, MH, hAA, List.append_assoc, List.cons_append, List.nil_append, hap2] <;> with_reducible rfl) (by decide) ?_
        refine awp_sel [0] (by simp only [jN, seval, vint, qF, MH, hAA, List.append_assoc, List.cons_append, List.nil_append] <;> with_reducible rfl) ?_
        repeat (refine awp_seq ?_)
        refine e_eval (by simp only [jA, jO, jN, seval, y3, y22, y24, y48, vint, qF, MH, hAA, List.append_assoc, List.cons_append, List.nil_append, w1, List.length_append, List.length_singleton, List.length_map] <;> with_reducible rfl) (by decide) ?_
        repeat (refine awp_seq ?_)
        refine awp_ret ⟨.inr rfl, _, _, rfl, ?_, rfl⟩
        simp only [jN, seval, vint, qF]

end Go.Abs
set_option maxRecDepth 4000
namespace Go.Abs
open Go.Proofs

theorem cloneRG (H : Heap) (id : Nat) (ns : List Gn) (hid : H[id]? = some .unborn) (hx : ns.length * 56 ≤ 2 ^ 47) : ACalls Try.prog 26 [.slice (ns.map Gn.enc) .none] H fun r' H' => r' = .slice (ns.map Gn.enc) (.tok id) ∧ H' = H.set id (.buf ns.length 4) := by
  have em : maxLen = 9223372036854775807 := by decide
  have happ : ns.map Gn.enc ≠ [] → ∀ fr HH, aappend ⟨true, 4, 56⟩ fr HH (.slice [] .full) (.slice (ns.map Gn.enc) .none) = some (.slice (ns.map Gn.enc) (.tok fr), some (fr, .buf ns.length 4)) := fun hne fr HH => by
    have := aappend_all (i := ⟨true, 4, 56⟩) (fresh := fr) (H := HH) (tl := .none) hne (by simpa using hx) (by simp; omega) (fun e he => by obtain ⟨v, _, rfl⟩ := List.mem_map.1 he; exact ⟨v.enc_len, by rw [Gn.enc_cells]; rfl⟩) (by decide)
    simpa using this
  refine acalls_of (N := 5) Try.func26 rfl rfl (by simp) fun hb' => ?_
  repeat (refine awp_seq ?_)
  refine e_eval (by simp only [jA, jO, jN, seval, vint, qF] <;> with_reducible rfl) (by decide) ?_
  rcases Classical.em (ns = []) with hxs | hxs
  ·
    subst hxs
    repeat (refine awp_seq ?_)
    refine e_eval (by simp only [jA, jO, jN, seval, y22, y48, vint, qF, List.map_nil, aappend] <;> with_reducible rfl) (by decide) ?_
    repeat (refine awp_seq ?_)
    refine awp_retokF id 2 4 (es := []) hid (by simp only [jC, jN, seval, vint, qF] <;> rfl) ?_
    refine awp_ret ⟨.inr rfl, _, rfl, ?_⟩
    exact ⟨rfl, rfl⟩
  ·
    have ha := happ (by simpa using hxs)
    repeat (refine awp_seq ?_)
    refine awp_region ?_
    refine e_take 1 (by simp only [jA, jO, jN, seval, vint, qF, ha] <;> with_reducible rfl) (by decide) ?_
    refine aops_opF false id hid rfl (by decide) (v := .slice (ns.map Gn.enc) (.tok id)) (e := some (id, .buf ns.length 4)) (by simp only [jN, seval, vint, qF, ha, aop, abuiltin, Tryti22, Tryte22, Trytz48] <;> rfl) rfl ?_
    refine e_end (by simp only [jA, jO, jN, seval, vint, qF, ha] <;> with_reducible rfl) (by decide) ?_
    repeat (refine awp_seq ?_)
    refine awp_ret ⟨.inr rfl, _, rfl, ?_⟩
    exact ⟨rfl, rfl⟩

theorem arIns_k : ∀ (k : Nat) (t : St), t.size ≤ k → t.W → ∀ (ns : List Gn), (∀ n ∈ ns, n.W) → ns.length + t.size ≤ 4000 → PC Try.prog 14 [(Ga.mk ns).enc, t.enc] (.tup [(Ga.mk (insT t ns).1).enc, vint (insT t ns).2])
  | 0, t, h, _, _, _, _ => by cases t; simp [St.size] at h
  | k + 1, t, h, hw, ns, hsW, hsl => by
    have em : maxLen = 9223372036854775807 := by decide
    have hsz : t.size = 1 + stSizes t.ch := by cases t; simp [St.size, St.ch]
    refine pc_of (N := 74) Try.func14 rfl rfl (by simp) (by simp [St.bel, Gn.bel, Ga.bel, bel_St, bel_Gn, bel_ints0, Bel.int]) (.tup _ (by simp [Ga.bel, Bel.int])) ?_
    repeat (refine awp_seq ?_)
    refine e_eval (by simp only [jA, jO, jN, seval, y24, y27, vint, qF] <;> with_reducible rfl) (by decide) ?_
    repeat (refine awp_seq ?_)
    refine e_eval (by simp only [jA, jO, jN, seval, y3, y9, y27, y48, vint, qF] <;> with_reducible rfl) (by decide) ?_
    repeat (refine awp_seq ?_)
    refine e_eval (by simp only [jA, jO, jN, seval, y25, y27, vint, qF] <;> with_reducible rfl) (by decide) ?_
    repeat (refine awp_seq ?_)
    refine awp_retok_row 3 3 1 rfl rfl ?_
    refine awp_forS (σ := List Gn × List Int × Int) (t.ch.length) (fun (q : List Gn × List Int × Int) => [(2, .optr 0 0), (3, .optr 1 0), (4, .optr 2 0), (6, .optr 3 0), (21, .slice (t.ch.map St.enc) .none)]) [2, 3, 4, 6, 21] ([]) (fun (q : List Gn × List Int × Int) => [.row [.slice (q.1.map Gn.enc) .none], .row t.enc.cells, .row [.slice [] .full], .row [.int .i64 t.kind, .int .i64 q.2.2, .str t.text, .slice (q.2.1.map vint) (.tok 4)], .buf q.2.1.length 1]) (fun (i : Nat) (q : List Gn × List Int × Int) => q = insL ((t.ch.take i).map insT) (ns, ([] : List Int), (t.text.length : Int))) ((ns, ([] : List Int), (t.text.length : Int))) ([]) rfl rfl rfl rfl rfl rfl rfl rfl rfl (by decide) (by decide) (by decide) (fun _ => rfl) (hw.max_ch) ⟨(by first | rfl | (simp only [jN, seval, vint, qF] <;> first | done | with_reducible rfl)), (by first | rfl | (simp only [jN, seval, vint, qF] <;> first | done | with_reducible rfl)), (by first | rfl | (simp only [jN, seval, vint, qF] <;> first | done | with_reducible rfl)), (by first | rfl | (simp only [jN, seval, vint, qF] <;> first | done | with_reducible rfl)), (by first | rfl | (simp only [jN, seval, vint, qF] <;> first | done | with_reducible rfl)), (by first | rfl | (simp only [jN, seval, vint, qF] <;> first | done | with_reducible rfl)), (by first | rfl | (simp only [jN, seval, vint, qF] <;> first | done | with_reducible rfl)), trivial⟩ (by first | rfl | (simp only [jN, seval, vint, qF] <;> first | done | with_reducible rfl)) (by simp [insL]) (fun _ _ _ => by first | exact Nat.zero_le _ | (simp only [List.length_append]; omega)) ?_ ?_ ?_
    · intro i q hg
      refine ⟨?_, by repeat (first | exact BelL.nil | refine BelL.cons (by first | exact bel_ints0 _ _ | exact bel_St _ _ | exact St.bel _ _ | exact bel_Gn _ _ | exact Gn.bel _ _ | exact Ga.bel _ _ | exact bel_Gn_tok _ (by simp) | exact bel_St_tok _ (by simp) | exact bel_int_tok _ (by simp) | exact bel_nil0 _ | exact bel_nil1 _ | exact Bel.int _ _ | exact Bel.bool _ | exact Bel.str _ | exact Bel.nilp | exact Bel.nilfn | exact Bel.optr _ _ (by simp) | exact bel_nil0 _ | exact bel_nil1 _ | exact bel_fn0 _ _ | assumption) ?_)⟩
      simp only [List.nil_append, StS]
      repeat (first | exact hbel_nil _ | exact trivial | exact obel_row_nil _ | (refine HBel.cons ?_ ?_) | (refine obel_row_cons (by first | exact bel_ints0 _ _ | exact bel_St _ _ | exact St.bel _ _ | exact bel_Gn _ _ | exact Gn.bel _ _ | exact Ga.bel _ _ | exact bel_Gn_tok _ (by simp) | exact bel_St_tok _ (by simp) | exact bel_int_tok _ (by simp) | exact bel_nil0 _ | exact bel_nil1 _ | exact Bel.int _ _ | exact Bel.bool _ | exact Bel.str _ | exact Bel.nilp | exact Bel.nilfn | exact Bel.optr _ _ (by simp) | exact bel_nil0 _ | exact bel_nil1 _ | exact bel_fn0 _ _ | assumption) ?_))
    · intro i q hi hg
      have g1 := ix_nat hi
      have g2 := get_enc St.enc hi
      have hmem : t.ch[i] ∈ t.ch := List.getElem_mem hi
      have hsz := St.size_ch hmem
      have hcW := hw.ch hmem
      have hlens := insL_take_len t.ch i (ns, ([] : List Int), (t.text.length : Int))
      have hqW := insL_take_W t.ch (fun c hc => hw.ch hc) i (ns, ([] : List Int), (t.text.length : Int)) hsW
      have htk := insL_take hi (ns, ([] : List Int), (t.text.length : Int))
      have hss := stSizes_take hi
      have hss2 := stSizes_take_le t.ch (i + 1)
      rw [← hg] at hlens hqW htk
      rw [List.length_take] at hlens
      have hlc := hw.w1
      obtain ⟨c, ce⟩ : ∃ c, t.ch[i] = c := ⟨_, rfl⟩
      rw [ce] at g2 hmem hsz hcW htk hss
      have hil := insT_len c q.1
      have hap := fun j : Int => app_int (us := q.2.1) (u := j) (id := 4) (tl := .full) (by simp only [List.length_nil] at hlens; omega)
      obtain ⟨g5, g6⟩ := wd_get (ns := (insT c q.1).1) hil.2.2.1 hil.2.2.2
      have g7 : ((0 : Int) ≤ (insT c q.1).2 ∧ (insT c q.1).2 < (insT c q.1).1.length) = True := by simp; omega
      simp only at hlens
      repeat (refine awp_seq ?_)
      refine e_eval (by simp only [jA, jO, jN, seval, y25, y27, vint, qF, g1, g2, Int.toNat_natCast] <;> with_reducible rfl) (by decide) ?_
      repeat (refine awp_seq ?_)
      refine e_eval (by simp only [jA, jO, jN, seval, vint, qF, g1, g2, Int.toNat_natCast] <;> with_reducible rfl) (by decide) ?_
      repeat (refine awp_seq ?_)
      refine awp_region ?_
      refine e_take 2 (by simp only [jA, jO, jN, seval, y24, y27, vint, qF, g1, g2, Int.toNat_natCast] <;> with_reducible rfl) (by decide) ?_
      refine aops_pure (by simp only [jC, jN, seval, vint, qF, g1, g2, Int.toNat_natCast] <;> with_reducible rfl) (by simp only [jC, jN, seval, vint, qF, g1, g2, Int.toNat_natCast]) (by decide) Trygo14 (arIns_k k c (by omega) hcW q.1 hqW (by omega) _) ?_
      refine e_end (by simp only [jA, jO, jN, seval, y24, vint, qF, g1, g2, Int.toNat_natCast] <;> with_reducible rfl) (by decide) ?_
      repeat (refine awp_seq ?_)
      refine e_eval (by simp only [jA, jO, jN, seval, y3, y46, y48, vint, qF, g1, g2, Int.toNat_natCast, hap] <;> with_reducible rfl) (by decide) ?_
      refine awp_sel [2, 3, 4, 6, 9, 21, 22, 23] (by simp only [jN, seval, vint, qF, g1, g2, Int.toNat_natCast] <;> with_reducible rfl) ?_
      repeat (refine awp_seq ?_)
      refine x_draw 0 rfl (by kernel_rfl) ?_
      refine x1_take 10 rfl (by simp only [jP, jO, jN, seval, y3, y22, y24, y48, vint, qF, g1, g2, Int.toNat_natCast, g5, g7] <;> with_reducible rfl) (by decide) (by decide) (by decide) ?_
      refine x_mid (by first | (simp only [LS, HS, List.append_assoc, List.cons_append, List.nil_append, g1, g2, Int.toNat_natCast, g5, g7] <;> with_reducible rfl) | rfl) ?_
      refine x2_end (bm := [0, 1, 0, 4, 0, 28, 60, 124, 255, 511, 1023]) (fresh := 0) (by kernel_rfl) (by simp only [jX, jO, jN, seval, y3, vint, qF, g1, g2, Int.toNat_natCast, g5, g7] <;> with_reducible rfl) (by decide) (by repeat (first | exact Fin.base _ | with_reducible apply Fin.keep | apply Fin.drop)) ?_
      exact ⟨⟨rfl, rfl, trivial⟩, ((insT c q.1).1, q.2.1 ++ [(insT c q.1).2], IntKind.i64.wrap (q.2.2 + wd (insT c q.1).1 (insT c q.1).2)), _, ⟨rfl, rfl, rfl, rfl, rfl, trivial⟩, by simp only [g6]; simp only [jN, seval, vint, qF, List.length_append, List.length_singleton] <;> rfl, htk.symm⟩
    · intro q hg
      rw [List.take_length] at hg
      have hlens := insL_take_len t.ch t.ch.length (ns, ([] : List Int), (t.text.length : Int))
      have hqW := insL_take_W t.ch (fun c hc => hw.ch hc) t.ch.length (ns, ([] : List Int), (t.text.length : Int)) hsW
      rw [List.take_length, ← hg] at hlens hqW
      simp only at hlens
      have hT : insT t ns = insN t.kind t.text q := by rw [insT_eq, ← hg]
      repeat (refine awp_seq ?_)
      refine e_eval (by simp only [jA, jO, jN, seval, y22, y24, y48, vint, qF] <;> with_reducible rfl) (by decide) ?_
      repeat (refine awp_seq ?_)
      refine awp_forS (σ := Unit) (q.1.length) (fun (u_ : Unit) => [(2, .optr 0 0), (4, .optr 2 0), (6, .optr 3 0), (51, .slice (q.1.map Gn.enc) .none)]) [2, 4, 6, 51] ([]) (fun (u_ : Unit) => [.row [.slice (q.1.map Gn.enc) .none], .row t.enc.cells, .row [.slice [] .full], .row [.int .i64 t.kind, .int .i64 q.2.2, .str t.text, .slice (q.2.1.map vint) (.tok 4)], .buf q.2.1.length 1]) (fun (j : Nat) (u_ : Unit) => (q.1.take j).any (fun m => gEq m ⟨t.kind, q.2.2, t.text, q.2.1⟩) = false) (()) (_) rfl rfl rfl rfl rfl rfl rfl rfl rfl (by decide) (by decide) (by decide) (fun _ => rfl) (by omega) ⟨(by first | rfl | (simp only [jN, seval, vint, qF] <;> first | done | with_reducible rfl)), (by first | rfl | (simp only [jN, seval, vint, qF] <;> first | done | with_reducible rfl)), (by first | rfl | (simp only [jN, seval, vint, qF] <;> first | done | with_reducible rfl)), (by first | rfl | (simp only [jN, seval, vint, qF] <;> first | done | with_reducible rfl)), (by first | rfl | (simp only [jN, seval, vint, qF] <;> first | done | with_reducible rfl)), (by first | rfl | (simp only [jN, seval, vint, qF] <;> first | done | with_reducible rfl)), trivial⟩ (by first | rfl | (simp only [jN, seval, vint, qF] <;> first | done | with_reducible rfl)) (by simp) (fun _ _ _ => by first | exact Nat.zero_le _ | (simp only [List.length_append]; omega)) ?_ ?_ ?_
      · intro j u_ hq
        refine ⟨?_, by repeat (first | exact BelL.nil | refine BelL.cons (by first | exact bel_ints0 _ _ | exact bel_St _ _ | exact St.bel _ _ | exact bel_Gn _ _ | exact Gn.bel _ _ | exact Ga.bel _ _ | exact bel_Gn_tok _ (by simp) | exact bel_St_tok _ (by simp) | exact bel_int_tok _ (by simp) | exact bel_nil0 _ | exact bel_nil1 _ | exact Bel.int _ _ | exact Bel.bool _ | exact Bel.str _ | exact Bel.nilp | exact Bel.nilfn | exact Bel.optr _ _ (by simp) | exact bel_nil0 _ | exact bel_nil1 _ | exact bel_fn0 _ _ | assumption) ?_)⟩
        simp only [List.nil_append, StS]
        repeat (first | exact hbel_nil _ | exact trivial | exact obel_row_nil _ | (refine HBel.cons ?_ ?_) | (refine obel_row_cons (by first | exact bel_ints0 _ _ | exact bel_St _ _ | exact St.bel _ _ | exact bel_Gn _ _ | exact Gn.bel _ _ | exact Ga.bel _ _ | exact bel_Gn_tok _ (by simp) | exact bel_St_tok _ (by simp) | exact bel_int_tok _ (by simp) | exact bel_nil0 _ | exact bel_nil1 _ | exact Bel.int _ _ | exact Bel.bool _ | exact Bel.str _ | exact Bel.nilp | exact Bel.nilfn | exact Bel.optr _ _ (by simp) | exact bel_nil0 _ | exact bel_nil1 _ | exact bel_fn0 _ _ | assumption) ?_))
      · intro j u_ hj hq
        have g1 := ix_nat hj
        have g2 := get_enc Gn.enc hj
        have hat := fun h => idxI_at (p := fun m => gEq m ⟨t.kind, q.2.2, t.text, q.2.1⟩) hj h hq
        have hnx := fun h => any_take_succ (p := fun m => gEq m ⟨t.kind, q.2.2, t.text, q.2.1⟩) hj hq h
        have hmW := hqW q.1[j] (List.getElem_mem hj)
        try simp only at hat
        try simp only at hnx
        obtain ⟨m, hme⟩ : ∃ m, q.1[j] = m := ⟨_, rfl⟩
        rw [hme] at g2 hmW hat hnx
        repeat (refine awp_seq ?_)
        refine e_eval (by simp only [jA, jO, jN, seval, y22, y48, vint, qF, g1, g2, Int.toNat_natCast] <;> with_reducible rfl) (by decide) ?_
        repeat (refine awp_seq ?_)
        refine awp_region ?_
        refine e_take 2 (by simp only [jA, jO, jN, seval, y48, vint, qF, g1, g2, Int.toNat_natCast] <;> with_reducible rfl) (by decide) ?_
        refine aops_pure (by simp only [jC, jN, seval, vint, qF, g1, g2, Int.toNat_natCast] <;> with_reducible rfl) (by simp only [jC, jN, seval, vint, qF, g1, g2, Int.toNat_natCast]) (by decide) Trygo18 (sgreen m ⟨t.kind, q.2.2, t.text, q.2.1⟩ hmW _) ?_
        refine aops_nil ?_
        repeat (refine awp_seq ?_)
        refine awp_cond rfl (by simp only [jN, seval, vint, qF, g1, g2, Int.toNat_natCast] <;> with_reducible rfl) (fun bt60 => ?_) (fun bt60 => ?_)
        ·
          have hr : insT t ns = (q.1, (j : Int)) := by rw [hT]; unfold insN; rw [hat bt60]; exact if_pos (by omega)
          rw [hr]
          repeat (refine awp_seq ?_)
          refine e_eval (by simp only [jA, jO, jN, seval, y24, vint, qF, g1, g2, Int.toNat_natCast] <;> with_reducible rfl) (by decide) ?_
          repeat (refine awp_seq ?_)
          refine awp_ret ⟨.inr rfl, _, (ares_two (.cell 4 24) (.tmp 5) rfl (ares_cell1 Tryti24 (by decide) (by simp only [jL, jN, seval, vint, qF, g1, g2, Int.toNat_natCast] <;> with_reducible rfl)) (ares_tmp1 (by decide))), ?_⟩
          simp only [jN, seval, vint, qF]
        ·
          repeat (refine awp_seq ?_)
          refine awp_skip ?_
          exact ⟨⟨rfl, rfl, trivial⟩, (), _, ⟨rfl, rfl, rfl, rfl, trivial⟩, by simp only [jN, seval, vint, qF] <;> rfl, hnx bt60⟩
      · intro u_ hq
        rw [List.take_length] at hq
        have hr : insT t ns = (q.1 ++ [⟨t.kind, q.2.2, t.text, q.2.1⟩], (q.1.length : Int)) := by rw [hT]; unfold insN; rw [idxI_none hq]; rfl
        rw [hr]
        have hap2 := app_Gn (us := q.1) (u := ⟨t.kind, q.2.2, t.text, q.2.1⟩) (id := 5) (tl := .full) (by omega)
        repeat (refine awp_seq ?_)
        refine x_draw 1 rfl (by kernel_rfl) ?_
        refine x1_take 2 rfl (by simp only [jP, jO, jN, seval, y22, y24, y48, vint, qF, hap2] <;> with_reducible rfl) (by decide) (by decide) (by decide) ?_
        refine x_mid (by first | (simp only [LS, HS, List.append_assoc, List.cons_append, List.nil_append, hap2] <;> with_reducible rfl) | rfl) ?_
        refine x2_fx (bm := [0, 1, 3, 0, 8, 31, 63, 0, 128, 384, 127, 2047]) [5] 5 (.buf q.1.length 4) (by kernel_rfl) (by simp only [jE, jN, seval, vint, qF, hap2] <;> with_reducible rfl) (by simp only [jE, jN, seval, vint, qF, hap2] <;> with_reducible rfl) (by simp only [jE, jN, seval, vint, qF, hap2]) (by decide) Trygo26 (fun H' hH _ => cloneRG H' 5 q.1 (hH 5 (by simp)) (by omega)) (by simp) (by simp only [jX, jO, jN, seval, vint, qF, hap2] <;> first | done | rfl) (by simp only [jX, jO, jN, seval, vint, qF, hap2] <;> first | done | rfl) (by simp only [jX, jO, jN, seval, vint, qF, hap2] <;> with_reducible rfl) ?_
        refine x2_end (bm := [0, 1, 3, 0, 8, 31, 63, 0, 128, 384, 127, 2047]) (fresh := 0) (by kernel_rfl) (by simp only [jX, jO, jN, seval, y22, y24, y48, vint, qF, hap2] <;> with_reducible rfl) (by decide) (by repeat (first | exact Fin.base _ | with_reducible apply Fin.keep | apply Fin.drop)) ?_
        repeat (refine awp_seq ?_)
        refine awp_ret ⟨.inr rfl, _, (ares_two (.cell 4 24) (.tmp 5) rfl (ares_cell1 Tryti24 (by decide) (by simp only [jL, jN, seval, vint, qF] <;> with_reducible rfl)) (ares_tmp1 (by decide))), ?_⟩
        simp only [jN, seval, vint, qF]

/-- What 'Insert' answers. -/
def insR (ns : List Gn) (t : St) : List Gn × Int × Int := if validG 100 ns = 0 then (if trV 100 t = true then ((insT t ns).1, (insT t ns).2, 0) else ([], 0, 3)) else ([], 0, validG 100 ns)

theorem gInsert (ns : List Gn) (t : St) (hns : NsW ns) (hl : ns.length ≤ 60) (hw : t.W) (hs : t.size ≤ 60) : PC Try.prog 9 [(Ga.mk ns).enc, t.enc] (.tup [(Ga.mk (insR ns t).1).enc, vint (insR ns t).2.1, vint (insR ns t).2.2]) := by
  have em : maxLen = 9223372036854775807 := by decide
  have hil := insT_len t ns
  have hgt : (4000 < ((insT t ns).1.length : Int)) = False := by simp; omega
  refine pc_of (N := 37) Try.func9 rfl rfl (by simp) (by simp [St.bel, Gn.bel, Ga.bel, bel_St, bel_Gn, bel_ints0, Bel.int]) (.tup _ (by simp [Ga.bel, Bel.int])) ?_
  repeat (refine awp_seq ?_)
  refine e_eval (by simp only [jA, jO, jN, seval, y24, y27, vint, qF] <;> with_reducible rfl) (by decide) ?_
  repeat (refine awp_seq ?_)
  refine awp_region ?_
  refine e_take 1 (by simp only [jA, jO, jN, seval, y24, vint, qF] <;> with_reducible rfl) (by decide) ?_
  refine aops_pure (by simp only [jC, jN, seval, vint, qF] <;> with_reducible rfl) (by simp only [jC, jN, seval, vint, qF]) (by decide) Trygo8 (gvalidate ns (by omega) (fun _ => hns) _) ?_
  refine e_end (by simp only [jA, jO, jN, seval, vint, qF] <;> with_reducible rfl) (by decide) ?_
  repeat (refine awp_seq ?_)
  refine e_eval (by simp only [jA, jO, jN, seval, y31, vint, qF] <;> with_reducible rfl) (by decide) ?_
  repeat (refine awp_seq ?_)
  refine awp_cond rfl (by simp only [jN, seval, vint, qF] <;> with_reducible rfl) (fun bt14 => ?_) (fun bt14 => ?_)
  ·
    have hv : insR ns t = ([], 0, validG 100 ns) := by unfold insR; rw [if_neg (by simpa using bt14)]
    rw [hv]
    repeat (refine awp_seq ?_)
    refine e_eval (by simp only [jA, jO, jN, seval, y24, vint, qF] <;> with_reducible rfl) (by decide) ?_
    repeat (refine awp_seq ?_)
    refine awp_ret ⟨.inr rfl, _, (ares_three (.cell 4 24) (.tmp 5) (.tmp 6) rfl (ares_cell1 Tryti24 (by decide) (by simp only [jL, jN, seval, vint, qF] <;> with_reducible rfl)) (ares_tmp1 (by decide)) (ares_tmp1 (by decide))), ?_⟩
    simp only [jN, seval, vint, qF]
    try rfl
  ·
    have hv0 : validG 100 ns = 0 := by simpa using bt14
    repeat (refine awp_seq ?_)
    refine awp_skip ?_
    repeat (refine awp_seq ?_)
    refine e_eval (by simp only [jA, jO, jN, seval, y3, vint, qF] <;> with_reducible rfl) (by decide) ?_
    repeat (refine awp_seq ?_)
    refine awp_block ?_
    repeat (refine awp_seq ?_)
    refine awp_region ?_
    refine e_take 1 (by simp only [jA, jO, jN, seval, y27, vint, qF] <;> with_reducible rfl) (by decide) ?_
    refine aops_acall (by simp only [jC, jN, seval, vint, qF] <;> with_reducible rfl) (by simp only [jC, jN, seval, vint, qF]) (by decide) Trygo20 (gH_set (fun H hH => exc_k _ t (Nat.le_refl _) hw 1 4000 3 (by omega) (by omega) (by omega) (by omega) H hH) _ rfl) ?_
    rintro _ _ ⟨rfl, rfl⟩
    refine e_end (by simp only [jA, jO, jN, seval, vint, qF] <;> with_reducible rfl) (by decide) ?_
    repeat (refine awp_seq ?_)
    refine awp_cond_false rfl (by simp only [jN, seval, vint, qF] <;> with_reducible rfl) ?_
    repeat (refine awp_seq ?_)
    refine awp_region ?_
    refine e_take 1 (by simp only [jA, jO, jN, seval, y27, vint, qF] <;> with_reducible rfl) (by decide) ?_
    refine aops_pure (by simp only [jC, jN, seval, vint, qF] <;> with_reducible rfl) (by simp only [jC, jN, seval, vint, qF]) (by decide) Trygo21 (ist_k _ t (Nat.le_refl _) hw _) ?_
    refine e_end (by simp only [jA, jO, jN, seval, vint, qF] <;> with_reducible rfl) (by decide) ?_
    repeat (refine awp_seq ?_)
    refine awp_cond rfl (by simp only [jN, seval, vint, qF] <;> with_reducible rfl) (fun bt21 => ?_) (fun bt21 => ?_)
    ·
      have hv : insR ns t = ([], 0, 3) := by unfold insR; rw [if_pos hv0, if_neg (by simpa using bt21)]
      rw [hv]
      refine awp_sel [4] (by simp only [jN, seval, vint, qF] <;> with_reducible rfl) ?_
      repeat (refine awp_seq ?_)
      refine e_eval (by simp only [jA, jO, jN, seval, y24, vint, qF] <;> with_reducible rfl) (by decide) ?_
      repeat (refine awp_seq ?_)
      refine awp_ret ⟨.inr rfl, _, (ares_three (.cell 4 24) (.tmp 5) (.tmp 6) rfl (ares_cell1 Tryti24 (by decide) (by simp only [jL, jN, seval, vint, qF] <;> with_reducible rfl)) (ares_tmp1 (by decide)) (ares_tmp1 (by decide))), ?_⟩
      simp only [jN, seval, vint, qF]
      try rfl
    ·
      have hv : insR ns t = ((insT t ns).1, (insT t ns).2, 0) := by unfold insR; rw [if_pos hv0, if_pos (by simpa using bt21)]
      rw [hv]
      repeat (refine awp_seq ?_)
      refine awp_skip ?_
      refine awp_sel [2, 3, 4] (by simp only [jN, seval, vint, qF] <;> with_reducible rfl) ?_
      repeat (refine awp_seq ?_)
      refine awp_region ?_
      refine e_take 1 (by simp only [jA, jO, jN, seval, y24, vint, qF] <;> with_reducible rfl) (by decide) ?_
      refine aops_acall (by simp only [jC, jN, seval, vint, qF] <;> with_reducible rfl) (by simp only [jC, jN, seval, vint, qF]) (by decide) Trygo22 (clone_c ns hns _) ?_
      rintro _ _ ⟨rfl, rfl⟩
      refine e_end (by simp only [jA, jO, jN, seval, y24, vint, qF] <;> with_reducible rfl) (by decide) ?_
      repeat (refine awp_seq ?_)
      refine awp_region ?_
      refine e_take 1 (by simp only [jA, jO, jN, seval, y27, vint, qF] <;> with_reducible rfl) (by decide) ?_
      refine aops_acall (by simp only [jC, jN, seval, vint, qF] <;> with_reducible rfl) (by simp only [jC, jN, seval, vint, qF]) (by decide) Trygo23 (aH_set (ib := 8) (k := 7) (by decide) (fun H hi hk => insert_k _ t (Nat.le_refl _) hw ns 8 7 (by decide) hns.el (by omega) H hi hk) _ rfl rfl) ?_
      rintro _ _ ⟨rfl, rfl⟩
      refine e_end (by simp only [jA, jO, jN, seval, vint, qF] <;> with_reducible rfl) (by decide) ?_
      repeat (refine awp_seq ?_)
      refine e_eval (by simp only [jA, jO, jN, seval, y3, y22, y24, y48, vint, qF, aH, hgt, decide_false] <;> with_reducible rfl) (by decide) ?_
      repeat (refine awp_seq ?_)
      refine awp_cond_false rfl (by simp only [jN, seval, vint, qF] <;> with_reducible rfl) ?_
      repeat (refine awp_seq ?_)
      refine awp_skip ?_
      repeat (refine awp_seq ?_)
      refine e_eval (by simp only [jA, jO, jN, seval, y24, vint, qF] <;> with_reducible rfl) (by decide) ?_
      repeat (refine awp_seq ?_)
      refine awp_ret ⟨.inr rfl, _, (ares_three (.cell 4 24) (.tmp 5) (.tmp 6) rfl (ares_cell1 Tryti24 (by decide) (by simp only [jL, jN, seval, vint, qF] <;> with_reducible rfl)) (ares_tmp1 (by decide)) (ares_tmp1 (by decide))), ?_⟩
      simp only [jN, seval, vint, qF]
      try rfl

end Go.Abs
