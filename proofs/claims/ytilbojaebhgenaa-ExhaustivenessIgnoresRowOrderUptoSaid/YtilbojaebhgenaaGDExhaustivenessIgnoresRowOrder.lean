/- Part 4 of a proof of the law ExhaustivenessIgnoresRowOrder: Go data as trees, the walks of the functions that the law reaches, the plain laws. -/
import Derived.Test.YtilbojaebhgenaaGCExhaustivenessIgnoresRowOrder
import Derived.Test.YtilbojaebhgenaaProg
import Derived.KernelRfl
set_option linter.unusedVariables false
set_option linter.unusedSimpArgs false
namespace Go.Abs
open Go.Proofs
theorem Tryti2 : tinfo Try.prog 2 = some ⟨false, 1, 8⟩ := by kernel_rfl
theorem Trytz2 : tzero Try.prog 2 = some (.int .i64 0) := by kernel_rfl
theorem Trytp2 : tptr Try.prog 2 = false := by kernel_rfl
theorem Trytk2 : tint Try.prog 2 = some .i64 := by kernel_rfl
theorem Tryti3 : tinfo Try.prog 3 = some ⟨false, 1, 8⟩ := by kernel_rfl
theorem Trytz3 : tzero Try.prog 3 = some (.int .i64 0) := by kernel_rfl
theorem Trytp3 : tptr Try.prog 3 = false := by kernel_rfl
theorem Trytk3 : tint Try.prog 3 = some .i64 := by kernel_rfl
theorem Tryti4 : tinfo Try.prog 4 = some ⟨false, 1, 1⟩ := by kernel_rfl
theorem Trytz4 : tzero Try.prog 4 = some (.bool false) := by kernel_rfl
theorem Trytp4 : tptr Try.prog 4 = false := by kernel_rfl
theorem Trytb4 : tbool Try.prog 4 = true := by kernel_rfl
theorem Tryti5 : tinfo Try.prog 5 = some ⟨false, 1, 1⟩ := by kernel_rfl
theorem Trytz5 : tzero Try.prog 5 = some (.int .u8 0) := by kernel_rfl
theorem Trytp5 : tptr Try.prog 5 = false := by kernel_rfl
theorem Trytk5 : tint Try.prog 5 = some .u8 := by kernel_rfl
theorem Tryti6 : tinfo Try.prog 6 = some ⟨false, 1, 1⟩ := by kernel_rfl
theorem Trytz6 : tzero Try.prog 6 = some (.int .u8 0) := by kernel_rfl
theorem Trytp6 : tptr Try.prog 6 = false := by kernel_rfl
theorem Trytk6 : tint Try.prog 6 = some .u8 := by kernel_rfl
theorem Tryti7 : tinfo Try.prog 7 = some ⟨true, 4, 24⟩ := by kernel_rfl
theorem Trytf7 : tflds Try.prog 7 = some [(0, ⟨false, 1, 8⟩), (1, ⟨false, 1, 8⟩), (2, ⟨false, 1, 1⟩), (3, ⟨false, 1, 1⟩)] := by kernel_rfl
theorem Trytz7 : tzero Try.prog 7 = some (.agg [.int .i64 0, .int .i64 0, .bool false, .int .u8 0]) := by kernel_rfl
theorem Trytp7 : tptr Try.prog 7 = false := by kernel_rfl
theorem Tryti8 : tinfo Try.prog 8 = some ⟨true, 4, 24⟩ := by kernel_rfl
theorem Trytf8 : tflds Try.prog 8 = some [(0, ⟨false, 1, 8⟩), (1, ⟨false, 1, 8⟩), (2, ⟨false, 1, 1⟩), (3, ⟨false, 1, 1⟩)] := by kernel_rfl
theorem Trytz8 : tzero Try.prog 8 = some (.agg [.int .i64 0, .int .i64 0, .bool false, .int .u8 0]) := by kernel_rfl
theorem Trytp8 : tptr Try.prog 8 = false := by kernel_rfl
theorem Tryti9 : tinfo Try.prog 9 = some ⟨false, 1, 16⟩ := by kernel_rfl
theorem Trytz9 : tzero Try.prog 9 = some (.str []) := by kernel_rfl
theorem Trytp9 : tptr Try.prog 9 = false := by kernel_rfl
theorem Tryts9 : tstr Try.prog 9 = true := by kernel_rfl
theorem Tryti10 : tinfo Try.prog 10 = some ⟨false, 1, 16⟩ := by kernel_rfl
theorem Trytz10 : tzero Try.prog 10 = some (.str []) := by kernel_rfl
theorem Trytp10 : tptr Try.prog 10 = false := by kernel_rfl
theorem Tryts10 : tstr Try.prog 10 = true := by kernel_rfl
theorem Tryti11 : tinfo Try.prog 11 = some ⟨false, 1, 16⟩ := by kernel_rfl
theorem Trytz11 : tzero Try.prog 11 = some (.str []) := by kernel_rfl
theorem Trytp11 : tptr Try.prog 11 = false := by kernel_rfl
theorem Tryts11 : tstr Try.prog 11 = true := by kernel_rfl
theorem Tryti12 : tinfo Try.prog 12 = some ⟨false, 1, 8⟩ := by kernel_rfl
theorem Trytz12 : tzero Try.prog 12 = some (.int .u64 0) := by kernel_rfl
theorem Trytp12 : tptr Try.prog 12 = false := by kernel_rfl
theorem Trytk12 : tint Try.prog 12 = some .u64 := by kernel_rfl
theorem Tryti13 : tinfo Try.prog 13 = some ⟨true, 2, 24⟩ := by kernel_rfl
theorem Trytf13 : tflds Try.prog 13 = some [(0, ⟨false, 1, 16⟩), (1, ⟨false, 1, 8⟩)] := by kernel_rfl
theorem Trytz13 : tzero Try.prog 13 = some (.agg [.str [], .int .u64 0]) := by kernel_rfl
theorem Trytp13 : tptr Try.prog 13 = false := by kernel_rfl
theorem Tryti14 : tinfo Try.prog 14 = some ⟨true, 2, 24⟩ := by kernel_rfl
theorem Trytf14 : tflds Try.prog 14 = some [(0, ⟨false, 1, 16⟩), (1, ⟨false, 1, 8⟩)] := by kernel_rfl
theorem Trytz14 : tzero Try.prog 14 = some (.agg [.str [], .int .u64 0]) := by kernel_rfl
theorem Trytp14 : tptr Try.prog 14 = false := by kernel_rfl
theorem Tryti15 : tinfo Try.prog 15 = some ⟨false, 1, 8⟩ := by kernel_rfl
theorem Trytz15 : tzero Try.prog 15 = some (.nilp) := by kernel_rfl
theorem Trytp15 : tptr Try.prog 15 = true := by kernel_rfl
theorem Tryti16 : tinfo Try.prog 16 = some ⟨false, 1, 8⟩ := by kernel_rfl
theorem Trytz16 : tzero Try.prog 16 = some (.nilp) := by kernel_rfl
theorem Trytp16 : tptr Try.prog 16 = true := by kernel_rfl
theorem Tryti17 : tinfo Try.prog 17 = some ⟨false, 1, 8⟩ := by kernel_rfl
theorem Trytz17 : tzero Try.prog 17 = some (.nilp) := by kernel_rfl
theorem Trytp17 : tptr Try.prog 17 = true := by kernel_rfl
theorem Tryti18 : tinfo Try.prog 18 = some ⟨true, 1, 8⟩ := by kernel_rfl
theorem Trytf18 : tflds Try.prog 18 = some [(0, ⟨false, 1, 8⟩)] := by kernel_rfl
theorem Trytz18 : tzero Try.prog 18 = some (.agg [.nilp]) := by kernel_rfl
theorem Trytp18 : tptr Try.prog 18 = false := by kernel_rfl
theorem Tryti19 : tinfo Try.prog 19 = some ⟨true, 1, 8⟩ := by kernel_rfl
theorem Trytf19 : tflds Try.prog 19 = some [(0, ⟨false, 1, 8⟩)] := by kernel_rfl
theorem Trytz19 : tzero Try.prog 19 = some (.agg [.nilp]) := by kernel_rfl
theorem Trytp19 : tptr Try.prog 19 = false := by kernel_rfl
theorem Tryti21 : tinfo Try.prog 21 = some ⟨false, 1, 4⟩ := by kernel_rfl
theorem Trytz21 : tzero Try.prog 21 = some (.int .i32 0) := by kernel_rfl
theorem Trytp21 : tptr Try.prog 21 = false := by kernel_rfl
theorem Trytk21 : tint Try.prog 21 = some .i32 := by kernel_rfl
theorem Tryti22 : tinfo Try.prog 22 = some ⟨false, 1, 24⟩ := by kernel_rfl
theorem Tryte22 : telem Try.prog 22 = some (48, ⟨true, 2, 32⟩) := by kernel_rfl
theorem Trytz22 : tzero Try.prog 22 = some (.slice [] .full) := by kernel_rfl
theorem Trytp22 : tptr Try.prog 22 = false := by kernel_rfl
theorem Tryti23 : tinfo Try.prog 23 = some ⟨false, 1, 24⟩ := by kernel_rfl
theorem Tryte23 : telem Try.prog 23 = some (3, ⟨false, 1, 8⟩) := by kernel_rfl
theorem Trytz23 : tzero Try.prog 23 = some (.slice [] .full) := by kernel_rfl
theorem Trytp23 : tptr Try.prog 23 = false := by kernel_rfl
theorem Tryti24 : tinfo Try.prog 24 = some ⟨false, 1, 24⟩ := by kernel_rfl
theorem Tryte24 : telem Try.prog 24 = some (25, ⟨false, 1, 24⟩) := by kernel_rfl
theorem Trytz24 : tzero Try.prog 24 = some (.slice [] .full) := by kernel_rfl
theorem Trytp24 : tptr Try.prog 24 = false := by kernel_rfl
theorem Tryti25 : tinfo Try.prog 25 = some ⟨false, 1, 24⟩ := by kernel_rfl
theorem Tryte25 : telem Try.prog 25 = some (42, ⟨true, 3, 40⟩) := by kernel_rfl
theorem Trytz25 : tzero Try.prog 25 = some (.slice [] .full) := by kernel_rfl
theorem Trytp25 : tptr Try.prog 25 = false := by kernel_rfl
theorem Tryti28 : tinfo Try.prog 28 = some ⟨false, 1, 8⟩ := by kernel_rfl
theorem Trytz28 : tzero Try.prog 28 = some (.int .i64 0) := by kernel_rfl
theorem Trytp28 : tptr Try.prog 28 = false := by kernel_rfl
theorem Trytk28 : tint Try.prog 28 = some .i64 := by kernel_rfl
theorem Tryti41 : tinfo Try.prog 41 = some ⟨true, 3, 40⟩ := by kernel_rfl
theorem Trytf41 : tflds Try.prog 41 = some [(0, ⟨false, 1, 8⟩), (1, ⟨false, 1, 8⟩), (2, ⟨false, 1, 24⟩)] := by kernel_rfl
theorem Trytz41 : tzero Try.prog 41 = some (.agg [.int .i64 0, .int .i64 0, .slice [] .full]) := by kernel_rfl
theorem Trytp41 : tptr Try.prog 41 = false := by kernel_rfl
theorem Tryti42 : tinfo Try.prog 42 = some ⟨true, 3, 40⟩ := by kernel_rfl
theorem Trytf42 : tflds Try.prog 42 = some [(0, ⟨false, 1, 8⟩), (1, ⟨false, 1, 8⟩), (2, ⟨false, 1, 24⟩)] := by kernel_rfl
theorem Trytz42 : tzero Try.prog 42 = some (.agg [.int .i64 0, .int .i64 0, .slice [] .full]) := by kernel_rfl
theorem Trytp42 : tptr Try.prog 42 = false := by kernel_rfl
theorem Tryti46 : tinfo Try.prog 46 = some ⟨false, 1, 24⟩ := by kernel_rfl
theorem Tryte46 : telem Try.prog 46 = some (51, ⟨true, 2, 32⟩) := by kernel_rfl
theorem Trytz46 : tzero Try.prog 46 = some (.slice [] .full) := by kernel_rfl
theorem Trytp46 : tptr Try.prog 46 = false := by kernel_rfl
theorem Tryti47 : tinfo Try.prog 47 = some ⟨true, 2, 32⟩ := by kernel_rfl
theorem Trytf47 : tflds Try.prog 47 = some [(0, ⟨false, 1, 8⟩), (1, ⟨false, 1, 24⟩)] := by kernel_rfl
theorem Trytz47 : tzero Try.prog 47 = some (.agg [.int .i64 0, .slice [] .full]) := by kernel_rfl
theorem Trytp47 : tptr Try.prog 47 = false := by kernel_rfl
theorem Tryti48 : tinfo Try.prog 48 = some ⟨true, 2, 32⟩ := by kernel_rfl
theorem Trytf48 : tflds Try.prog 48 = some [(0, ⟨false, 1, 8⟩), (1, ⟨false, 1, 24⟩)] := by kernel_rfl
theorem Trytz48 : tzero Try.prog 48 = some (.agg [.int .i64 0, .slice [] .full]) := by kernel_rfl
theorem Trytp48 : tptr Try.prog 48 = false := by kernel_rfl
theorem Tryti50 : tinfo Try.prog 50 = some ⟨true, 2, 32⟩ := by kernel_rfl
theorem Trytf50 : tflds Try.prog 50 = some [(0, ⟨false, 1, 8⟩), (1, ⟨false, 1, 24⟩)] := by kernel_rfl
theorem Trytz50 : tzero Try.prog 50 = some (.agg [.int .i64 0, .slice [] .full]) := by kernel_rfl
theorem Trytp50 : tptr Try.prog 50 = false := by kernel_rfl
theorem Tryti51 : tinfo Try.prog 51 = some ⟨true, 2, 32⟩ := by kernel_rfl
theorem Trytf51 : tflds Try.prog 51 = some [(0, ⟨false, 1, 8⟩), (1, ⟨false, 1, 24⟩)] := by kernel_rfl
theorem Trytz51 : tzero Try.prog 51 = some (.agg [.int .i64 0, .slice [] .full]) := by kernel_rfl
theorem Trytp51 : tptr Try.prog 51 = false := by kernel_rfl
theorem Tryti53 : tinfo Try.prog 53 = some ⟨true, 1, 24⟩ := by kernel_rfl
theorem Trytf53 : tflds Try.prog 53 = some [(0, ⟨false, 1, 24⟩)] := by kernel_rfl
theorem Trytz53 : tzero Try.prog 53 = some (.agg [.slice [] .full]) := by kernel_rfl
theorem Trytp53 : tptr Try.prog 53 = false := by kernel_rfl
theorem Tryti54 : tinfo Try.prog 54 = some ⟨true, 1, 24⟩ := by kernel_rfl
theorem Trytf54 : tflds Try.prog 54 = some [(0, ⟨false, 1, 24⟩)] := by kernel_rfl
theorem Trytz54 : tzero Try.prog 54 = some (.agg [.slice [] .full]) := by kernel_rfl
theorem Trytp54 : tptr Try.prog 54 = false := by kernel_rfl
theorem Tryti61 : tinfo Try.prog 61 = some ⟨false, 1, 24⟩ := by kernel_rfl
theorem Tryte61 : telem Try.prog 61 = some (4, ⟨false, 1, 1⟩) := by kernel_rfl
theorem Trytz61 : tzero Try.prog 61 = some (.slice [] .full) := by kernel_rfl
theorem Trytp61 : tptr Try.prog 61 = false := by kernel_rfl
theorem Tryti71 : tinfo Try.prog 71 = some ⟨false, 1, 8⟩ := by kernel_rfl
theorem Trytz71 : tzero Try.prog 71 = some (.nilp) := by kernel_rfl
theorem Trytp71 : tptr Try.prog 71 = true := by kernel_rfl
theorem Tryti82 : tinfo Try.prog 82 = some ⟨false, 1, 24⟩ := by kernel_rfl
theorem Tryte82 : telem Try.prog 82 = some (23, ⟨false, 1, 24⟩) := by kernel_rfl
theorem Trytz82 : tzero Try.prog 82 = some (.slice [] .full) := by kernel_rfl
theorem Trytp82 : tptr Try.prog 82 = false := by kernel_rfl
theorem Tryti87 : tinfo Try.prog 87 = some ⟨true, 4, 40⟩ := by kernel_rfl
theorem Trytf87 : tflds Try.prog 87 = some [(0, ⟨false, 1, 8⟩), (1, ⟨false, 1, 8⟩), (2, ⟨false, 1, 8⟩), (3, ⟨false, 1, 16⟩)] := by kernel_rfl
theorem Trytz87 : tzero Try.prog 87 = some (.agg [.nilp, .nilp, .nilp, .str []]) := by kernel_rfl
theorem Trytp87 : tptr Try.prog 87 = false := by kernel_rfl
theorem Tryti88 : tinfo Try.prog 88 = some ⟨true, 4, 40⟩ := by kernel_rfl
theorem Trytf88 : tflds Try.prog 88 = some [(0, ⟨false, 1, 8⟩), (1, ⟨false, 1, 8⟩), (2, ⟨false, 1, 8⟩), (3, ⟨false, 1, 16⟩)] := by kernel_rfl
theorem Trytz88 : tzero Try.prog 88 = some (.agg [.nilp, .nilp, .nilp, .str []]) := by kernel_rfl
theorem Trytp88 : tptr Try.prog 88 = false := by kernel_rfl
theorem Tryti90 : tinfo Try.prog 90 = some ⟨true, 0, 0⟩ := by kernel_rfl
theorem Trytf90 : tflds Try.prog 90 = some [(0, ⟨true, 0, 0⟩)] := by kernel_rfl
theorem Trytz90 : tzero Try.prog 90 = some (.agg []) := by kernel_rfl
theorem Trytp90 : tptr Try.prog 90 = false := by kernel_rfl
theorem Tryti91 : tinfo Try.prog 91 = some ⟨true, 0, 0⟩ := by kernel_rfl
theorem Trytf91 : tflds Try.prog 91 = some [(0, ⟨true, 0, 0⟩)] := by kernel_rfl
theorem Trytz91 : tzero Try.prog 91 = some (.agg []) := by kernel_rfl
theorem Trytp91 : tptr Try.prog 91 = false := by kernel_rfl
theorem Tryti93 : tinfo Try.prog 93 = some ⟨false, 1, 4⟩ := by kernel_rfl
theorem Trytz93 : tzero Try.prog 93 = some (.int .u32 0) := by kernel_rfl
theorem Trytp93 : tptr Try.prog 93 = false := by kernel_rfl
theorem Trytk93 : tint Try.prog 93 = some .u32 := by kernel_rfl
theorem Tryti94 : tinfo Try.prog 94 = some ⟨false, 1, 1⟩ := by kernel_rfl
theorem Trytz94 : tzero Try.prog 94 = some (.int .u8 0) := by kernel_rfl
theorem Trytp94 : tptr Try.prog 94 = false := by kernel_rfl
theorem Trytk94 : tint Try.prog 94 = some .u8 := by kernel_rfl
theorem Tryti95 : tinfo Try.prog 95 = some ⟨false, 1, 1⟩ := by kernel_rfl
theorem Trytz95 : tzero Try.prog 95 = some (.int .u8 0) := by kernel_rfl
theorem Trytp95 : tptr Try.prog 95 = false := by kernel_rfl
theorem Trytk95 : tint Try.prog 95 = some .u8 := by kernel_rfl
theorem Tryti97 : tinfo Try.prog 97 = some ⟨false, 1, 8⟩ := by kernel_rfl
theorem Trytz97 : tzero Try.prog 97 = some (.nilp) := by kernel_rfl
theorem Trytp97 : tptr Try.prog 97 = true := by kernel_rfl
theorem Tryti98 : tinfo Try.prog 98 = some ⟨false, 1, 4⟩ := by kernel_rfl
theorem Trytz98 : tzero Try.prog 98 = some (.int .i32 0) := by kernel_rfl
theorem Trytp98 : tptr Try.prog 98 = false := by kernel_rfl
theorem Trytk98 : tint Try.prog 98 = some .i32 := by kernel_rfl
theorem Tryti99 : tinfo Try.prog 99 = some ⟨false, 1, 4⟩ := by kernel_rfl
theorem Trytz99 : tzero Try.prog 99 = some (.int .i32 0) := by kernel_rfl
theorem Trytp99 : tptr Try.prog 99 = false := by kernel_rfl
theorem Trytk99 : tint Try.prog 99 = some .i32 := by kernel_rfl
theorem Tryti100 : tinfo Try.prog 100 = some ⟨true, 11, 48⟩ := by kernel_rfl
theorem Trytf100 : tflds Try.prog 100 = some [(0, ⟨false, 1, 8⟩), (1, ⟨false, 1, 8⟩), (2, ⟨false, 1, 4⟩), (3, ⟨false, 1, 1⟩), (4, ⟨false, 1, 1⟩), (5, ⟨false, 1, 1⟩), (6, ⟨false, 1, 1⟩), (7, ⟨false, 1, 8⟩), (8, ⟨false, 1, 8⟩), (9, ⟨false, 1, 4⟩), (10, ⟨false, 1, 4⟩)] := by kernel_rfl
theorem Trytz100 : tzero Try.prog 100 = some (.agg [.int .u64 0, .int .u64 0, .int .u32 0, .int .u8 0, .int .u8 0, .int .u8 0, .int .u8 0, .nilfn, .nilp, .int .i32 0, .int .i32 0]) := by kernel_rfl
theorem Trytp100 : tptr Try.prog 100 = false := by kernel_rfl
theorem Tryti101 : tinfo Try.prog 101 = some ⟨true, 11, 48⟩ := by kernel_rfl
theorem Trytf101 : tflds Try.prog 101 = some [(0, ⟨false, 1, 8⟩), (1, ⟨false, 1, 8⟩), (2, ⟨false, 1, 4⟩), (3, ⟨false, 1, 1⟩), (4, ⟨false, 1, 1⟩), (5, ⟨false, 1, 1⟩), (6, ⟨false, 1, 1⟩), (7, ⟨false, 1, 8⟩), (8, ⟨false, 1, 8⟩), (9, ⟨false, 1, 4⟩), (10, ⟨false, 1, 4⟩)] := by kernel_rfl
theorem Trytz101 : tzero Try.prog 101 = some (.agg [.int .u64 0, .int .u64 0, .int .u32 0, .int .u8 0, .int .u8 0, .int .u8 0, .int .u8 0, .nilfn, .nilp, .int .i32 0, .int .i32 0]) := by kernel_rfl
theorem Trytp101 : tptr Try.prog 101 = false := by kernel_rfl
theorem Trygo3 : goFn Try.prog 3 = true := by kernel_rfl
theorem Trygo4 : goFn Try.prog 4 = true := by kernel_rfl
theorem Trygo5 : goFn Try.prog 5 = true := by kernel_rfl
theorem Trygo6 : goFn Try.prog 6 = true := by kernel_rfl
theorem Trygo7 : goFn Try.prog 7 = true := by kernel_rfl
theorem Trygo8 : goFn Try.prog 8 = true := by kernel_rfl
theorem Trygo9 : goFn Try.prog 9 = true := by kernel_rfl
theorem Trygo10 : goFn Try.prog 10 = true := by kernel_rfl
theorem Trygo11 : goFn Try.prog 11 = true := by kernel_rfl
theorem Trygo12 : goFn Try.prog 12 = true := by kernel_rfl
theorem Trygo13 : goFn Try.prog 13 = true := by kernel_rfl
theorem Trygo14 : goFn Try.prog 14 = true := by kernel_rfl
theorem Trygo15 : goFn Try.prog 15 = true := by kernel_rfl
theorem Trygo16 : goFn Try.prog 16 = true := by kernel_rfl
theorem Trygo17 : goFn Try.prog 17 = true := by kernel_rfl
theorem Trygo18 : goFn Try.prog 18 = true := by kernel_rfl
theorem Trygo19 : goFn Try.prog 19 = true := by kernel_rfl
theorem Trygo20 : goFn Try.prog 20 = true := by kernel_rfl
theorem Trygo21 : goFn Try.prog 21 = true := by kernel_rfl
theorem Trygo22 : goFn Try.prog 22 = true := by kernel_rfl
theorem Trygo23 : goFn Try.prog 23 = true := by kernel_rfl
theorem Trygo24 : goFn Try.prog 24 = true := by kernel_rfl
theorem Trygo25 : goFn Try.prog 25 = true := by kernel_rfl
theorem Trygo26 : goFn Try.prog 26 = true := by kernel_rfl
theorem Trygo27 : goFn Try.prog 27 = true := by kernel_rfl
theorem Trygo28 : goFn Try.prog 28 = true := by kernel_rfl
theorem Trygo29 : goFn Try.prog 29 = true := by kernel_rfl
theorem Trygo30 : goFn Try.prog 30 = true := by kernel_rfl
theorem Trygo31 : goFn Try.prog 31 = true := by kernel_rfl
theorem Trygo32 : goFn Try.prog 32 = true := by kernel_rfl
theorem Trygo33 : goFn Try.prog 33 = true := by kernel_rfl
theorem Trygo34 : goFn Try.prog 34 = true := by kernel_rfl
theorem Trygo35 : goFn Try.prog 35 = true := by kernel_rfl
theorem Trygo36 : goFn Try.prog 36 = true := by kernel_rfl
theorem Trygo37 : goFn Try.prog 37 = true := by kernel_rfl
theorem Trygo38 : goFn Try.prog 38 = true := by kernel_rfl
theorem Trygo39 : goFn Try.prog 39 = true := by kernel_rfl
theorem Trygo40 : goFn Try.prog 40 = true := by kernel_rfl
theorem Trygo41 : goFn Try.prog 41 = true := by kernel_rfl
theorem Trygo42 : goFn Try.prog 42 = true := by kernel_rfl
theorem Trygo43 : goFn Try.prog 43 = true := by kernel_rfl
theorem Trygo44 : goFn Try.prog 44 = true := by kernel_rfl
theorem Trygo45 : goFn Try.prog 45 = true := by kernel_rfl
theorem Trygo46 : goFn Try.prog 46 = true := by kernel_rfl
theorem Trygo47 : goFn Try.prog 47 = true := by kernel_rfl
theorem Trygo48 : goFn Try.prog 48 = true := by kernel_rfl
theorem Trygo49 : goFn Try.prog 49 = true := by kernel_rfl
theorem Trygo50 : goFn Try.prog 50 = true := by kernel_rfl
theorem Trygo51 : goFn Try.prog 51 = true := by kernel_rfl
theorem Trygo52 : goFn Try.prog 52 = true := by kernel_rfl
theorem Trygo53 : goFn Try.prog 53 = true := by kernel_rfl
theorem Trygo54 : goFn Try.prog 54 = true := by kernel_rfl
theorem Trygo55 : goFn Try.prog 55 = true := by kernel_rfl
theorem Trygo56 : goFn Try.prog 56 = true := by kernel_rfl
theorem Trygo57 : goFn Try.prog 57 = true := by kernel_rfl
theorem Trygo58 : goFn Try.prog 58 = true := by kernel_rfl
theorem Trygo59 : goFn Try.prog 59 = true := by kernel_rfl
theorem Trygo60 : goFn Try.prog 60 = true := by kernel_rfl
theorem Trygo61 : goFn Try.prog 61 = true := by kernel_rfl
theorem Trygo62 : goFn Try.prog 62 = true := by kernel_rfl
theorem Trygo63 : goFn Try.prog 63 = true := by kernel_rfl
theorem y2 : type_of% (And.intro @Tryti2 (And.intro @Trytz2 (And.intro @Trytp2 (@Trytk2)))) := And.intro @Tryti2 (And.intro @Trytz2 (And.intro @Trytp2 (@Trytk2)))
theorem y3 : type_of% (And.intro @Tryti3 (And.intro @Trytz3 (And.intro @Trytp3 (@Trytk3)))) := And.intro @Tryti3 (And.intro @Trytz3 (And.intro @Trytp3 (@Trytk3)))
theorem y4 : type_of% (And.intro @Tryti4 (And.intro @Trytz4 (And.intro @Trytp4 (@Trytb4)))) := And.intro @Tryti4 (And.intro @Trytz4 (And.intro @Trytp4 (@Trytb4)))
theorem y5 : type_of% (And.intro @Tryti5 (And.intro @Trytz5 (And.intro @Trytp5 (@Trytk5)))) := And.intro @Tryti5 (And.intro @Trytz5 (And.intro @Trytp5 (@Trytk5)))
theorem y6 : type_of% (And.intro @Tryti6 (And.intro @Trytz6 (And.intro @Trytp6 (@Trytk6)))) := And.intro @Tryti6 (And.intro @Trytz6 (And.intro @Trytp6 (@Trytk6)))
theorem y7 : type_of% (And.intro @Tryti7 (And.intro @Trytf7 (And.intro @Trytz7 (@Trytp7)))) := And.intro @Tryti7 (And.intro @Trytf7 (And.intro @Trytz7 (@Trytp7)))
theorem y8 : type_of% (And.intro @Tryti8 (And.intro @Trytf8 (And.intro @Trytz8 (@Trytp8)))) := And.intro @Tryti8 (And.intro @Trytf8 (And.intro @Trytz8 (@Trytp8)))
theorem y9 : type_of% (And.intro @Tryti9 (And.intro @Trytz9 (And.intro @Trytp9 (@Tryts9)))) := And.intro @Tryti9 (And.intro @Trytz9 (And.intro @Trytp9 (@Tryts9)))
theorem y10 : type_of% (And.intro @Tryti10 (And.intro @Trytz10 (And.intro @Trytp10 (@Tryts10)))) := And.intro @Tryti10 (And.intro @Trytz10 (And.intro @Trytp10 (@Tryts10)))
theorem y11 : type_of% (And.intro @Tryti11 (And.intro @Trytz11 (And.intro @Trytp11 (@Tryts11)))) := And.intro @Tryti11 (And.intro @Trytz11 (And.intro @Trytp11 (@Tryts11)))
theorem y12 : type_of% (And.intro @Tryti12 (And.intro @Trytz12 (And.intro @Trytp12 (@Trytk12)))) := And.intro @Tryti12 (And.intro @Trytz12 (And.intro @Trytp12 (@Trytk12)))
theorem y13 : type_of% (And.intro @Tryti13 (And.intro @Trytf13 (And.intro @Trytz13 (@Trytp13)))) := And.intro @Tryti13 (And.intro @Trytf13 (And.intro @Trytz13 (@Trytp13)))
theorem y14 : type_of% (And.intro @Tryti14 (And.intro @Trytf14 (And.intro @Trytz14 (@Trytp14)))) := And.intro @Tryti14 (And.intro @Trytf14 (And.intro @Trytz14 (@Trytp14)))
theorem y15 : type_of% (And.intro @Tryti15 (And.intro @Trytz15 (@Trytp15))) := And.intro @Tryti15 (And.intro @Trytz15 (@Trytp15))
theorem y16 : type_of% (And.intro @Tryti16 (And.intro @Trytz16 (@Trytp16))) := And.intro @Tryti16 (And.intro @Trytz16 (@Trytp16))
theorem y17 : type_of% (And.intro @Tryti17 (And.intro @Trytz17 (@Trytp17))) := And.intro @Tryti17 (And.intro @Trytz17 (@Trytp17))
theorem y18 : type_of% (And.intro @Tryti18 (And.intro @Trytf18 (And.intro @Trytz18 (@Trytp18)))) := And.intro @Tryti18 (And.intro @Trytf18 (And.intro @Trytz18 (@Trytp18)))
theorem y19 : type_of% (And.intro @Tryti19 (And.intro @Trytf19 (And.intro @Trytz19 (@Trytp19)))) := And.intro @Tryti19 (And.intro @Trytf19 (And.intro @Trytz19 (@Trytp19)))
theorem y21 : type_of% (And.intro @Tryti21 (And.intro @Trytz21 (And.intro @Trytp21 (@Trytk21)))) := And.intro @Tryti21 (And.intro @Trytz21 (And.intro @Trytp21 (@Trytk21)))
theorem y22 : type_of% (And.intro @Tryti22 (And.intro @Tryte22 (And.intro @Trytz22 (@Trytp22)))) := And.intro @Tryti22 (And.intro @Tryte22 (And.intro @Trytz22 (@Trytp22)))
theorem y23 : type_of% (And.intro @Tryti23 (And.intro @Tryte23 (And.intro @Trytz23 (@Trytp23)))) := And.intro @Tryti23 (And.intro @Tryte23 (And.intro @Trytz23 (@Trytp23)))
theorem y24 : type_of% (And.intro @Tryti24 (And.intro @Tryte24 (And.intro @Trytz24 (@Trytp24)))) := And.intro @Tryti24 (And.intro @Tryte24 (And.intro @Trytz24 (@Trytp24)))
theorem y25 : type_of% (And.intro @Tryti25 (And.intro @Tryte25 (And.intro @Trytz25 (@Trytp25)))) := And.intro @Tryti25 (And.intro @Tryte25 (And.intro @Trytz25 (@Trytp25)))
theorem y28 : type_of% (And.intro @Tryti28 (And.intro @Trytz28 (And.intro @Trytp28 (@Trytk28)))) := And.intro @Tryti28 (And.intro @Trytz28 (And.intro @Trytp28 (@Trytk28)))
theorem y41 : type_of% (And.intro @Tryti41 (And.intro @Trytf41 (And.intro @Trytz41 (@Trytp41)))) := And.intro @Tryti41 (And.intro @Trytf41 (And.intro @Trytz41 (@Trytp41)))
theorem y42 : type_of% (And.intro @Tryti42 (And.intro @Trytf42 (And.intro @Trytz42 (@Trytp42)))) := And.intro @Tryti42 (And.intro @Trytf42 (And.intro @Trytz42 (@Trytp42)))
theorem y46 : type_of% (And.intro @Tryti46 (And.intro @Tryte46 (And.intro @Trytz46 (@Trytp46)))) := And.intro @Tryti46 (And.intro @Tryte46 (And.intro @Trytz46 (@Trytp46)))
theorem y47 : type_of% (And.intro @Tryti47 (And.intro @Trytf47 (And.intro @Trytz47 (@Trytp47)))) := And.intro @Tryti47 (And.intro @Trytf47 (And.intro @Trytz47 (@Trytp47)))
theorem y48 : type_of% (And.intro @Tryti48 (And.intro @Trytf48 (And.intro @Trytz48 (@Trytp48)))) := And.intro @Tryti48 (And.intro @Trytf48 (And.intro @Trytz48 (@Trytp48)))
theorem y50 : type_of% (And.intro @Tryti50 (And.intro @Trytf50 (And.intro @Trytz50 (@Trytp50)))) := And.intro @Tryti50 (And.intro @Trytf50 (And.intro @Trytz50 (@Trytp50)))
theorem y51 : type_of% (And.intro @Tryti51 (And.intro @Trytf51 (And.intro @Trytz51 (@Trytp51)))) := And.intro @Tryti51 (And.intro @Trytf51 (And.intro @Trytz51 (@Trytp51)))
theorem y53 : type_of% (And.intro @Tryti53 (And.intro @Trytf53 (And.intro @Trytz53 (@Trytp53)))) := And.intro @Tryti53 (And.intro @Trytf53 (And.intro @Trytz53 (@Trytp53)))
theorem y54 : type_of% (And.intro @Tryti54 (And.intro @Trytf54 (And.intro @Trytz54 (@Trytp54)))) := And.intro @Tryti54 (And.intro @Trytf54 (And.intro @Trytz54 (@Trytp54)))
theorem y61 : type_of% (And.intro @Tryti61 (And.intro @Tryte61 (And.intro @Trytz61 (@Trytp61)))) := And.intro @Tryti61 (And.intro @Tryte61 (And.intro @Trytz61 (@Trytp61)))
theorem y71 : type_of% (And.intro @Tryti71 (And.intro @Trytz71 (@Trytp71))) := And.intro @Tryti71 (And.intro @Trytz71 (@Trytp71))
theorem y82 : type_of% (And.intro @Tryti82 (And.intro @Tryte82 (And.intro @Trytz82 (@Trytp82)))) := And.intro @Tryti82 (And.intro @Tryte82 (And.intro @Trytz82 (@Trytp82)))
theorem y87 : type_of% (And.intro @Tryti87 (And.intro @Trytf87 (And.intro @Trytz87 (@Trytp87)))) := And.intro @Tryti87 (And.intro @Trytf87 (And.intro @Trytz87 (@Trytp87)))
theorem y88 : type_of% (And.intro @Tryti88 (And.intro @Trytf88 (And.intro @Trytz88 (@Trytp88)))) := And.intro @Tryti88 (And.intro @Trytf88 (And.intro @Trytz88 (@Trytp88)))
theorem y90 : type_of% (And.intro @Tryti90 (And.intro @Trytf90 (And.intro @Trytz90 (@Trytp90)))) := And.intro @Tryti90 (And.intro @Trytf90 (And.intro @Trytz90 (@Trytp90)))
theorem y91 : type_of% (And.intro @Tryti91 (And.intro @Trytf91 (And.intro @Trytz91 (@Trytp91)))) := And.intro @Tryti91 (And.intro @Trytf91 (And.intro @Trytz91 (@Trytp91)))
theorem y93 : type_of% (And.intro @Tryti93 (And.intro @Trytz93 (And.intro @Trytp93 (@Trytk93)))) := And.intro @Tryti93 (And.intro @Trytz93 (And.intro @Trytp93 (@Trytk93)))
theorem y94 : type_of% (And.intro @Tryti94 (And.intro @Trytz94 (And.intro @Trytp94 (@Trytk94)))) := And.intro @Tryti94 (And.intro @Trytz94 (And.intro @Trytp94 (@Trytk94)))
theorem y95 : type_of% (And.intro @Tryti95 (And.intro @Trytz95 (And.intro @Trytp95 (@Trytk95)))) := And.intro @Tryti95 (And.intro @Trytz95 (And.intro @Trytp95 (@Trytk95)))
theorem y97 : type_of% (And.intro @Tryti97 (And.intro @Trytz97 (@Trytp97))) := And.intro @Tryti97 (And.intro @Trytz97 (@Trytp97))
theorem y98 : type_of% (And.intro @Tryti98 (And.intro @Trytz98 (And.intro @Trytp98 (@Trytk98)))) := And.intro @Tryti98 (And.intro @Trytz98 (And.intro @Trytp98 (@Trytk98)))
theorem y99 : type_of% (And.intro @Tryti99 (And.intro @Trytz99 (And.intro @Trytp99 (@Trytk99)))) := And.intro @Tryti99 (And.intro @Trytz99 (And.intro @Trytp99 (@Trytk99)))
theorem y100 : type_of% (And.intro @Tryti100 (And.intro @Trytf100 (And.intro @Trytz100 (@Trytp100)))) := And.intro @Tryti100 (And.intro @Trytf100 (And.intro @Trytz100 (@Trytp100)))
theorem y101 : type_of% (And.intro @Tryti101 (And.intro @Trytf101 (And.intro @Trytz101 (@Trytp101)))) := And.intro @Tryti101 (And.intro @Trytf101 (And.intro @Trytz101 (@Trytp101)))
end Go.Abs
namespace Go.Abs
theorem dp_skip {P : Program} {N : Nat} {ops : Array Oper} {Q : Post} {k : Nat} {o : Oper} {l : List Oper} {T : Slots} {G : Nat → Bool} {H : Heap} {r : PV} (hc : gcond ops.toList T G N o = some false)
    (h : DP P N ops Q (k + 1) l (msk (.tup []) (updO T o.dst r) (ugO G o.dst false)) H) : DP P N ops Q k (o :: l) (msk (.tup []) T G) H := by
  intro prev hn
  rw [msk_put_false] at h
  exact dops_skipR [] (fun p hp => .inr ⟨by rw [hn p hp]; simp, by simp⟩) hc (h _ (hn.app _ _))
theorem x1_skip {P : Program} {N : Nat} {ops : Array Oper} {Q : Post} {n0 k m : Nat} {o : Oper} {l : List Oper} {T : Slots} {G : Nat → Bool} {B : Heap} {r : PV} (hc : gcond ops.toList T G N o = some false)
    (h : X1 P N ops Q n0 (k + 1) l (msk (.tup []) (updO T o.dst r) (ugO G o.dst false)) (B ++ List.replicate m .unborn)) : X1 P N ops Q n0 k (o :: l) (msk (.tup []) T G) (B ++ List.replicate m .unborn) := by
  intro prev hn
  rw [msk_put_false] at h
  exact dops_skipR [] (fun p hp => .inr ⟨by rw [hn.noeff p hp]; simp, by simp⟩) hc (h _ (hn.app (by simp)))
/-- Rules for a slice's bounds among operands. -/
theorem jS : (∀ x : Operand, (some x).toArray.toList = [x]) ∧ ((none : Option Operand).toArray.toList = []) ∧ ((none : Option Operand).isNone = true) ∧ (∀ x : Operand, (some x).isNone = false) ∧ (∀ l : List Operand, [] ++ l = l) ∧ (∀ l : List Operand, l ++ [] = l) ∧
    (∀ (x : Operand) (l m : List Operand), (x :: l) ++ m = x :: (l ++ m)) ∧ ((false = true) = False) ∧ (∀ p : Prop, (p ∧ False) = False) ∧ (∀ p : Prop, (False ∧ p) = False) ∧ (∀ (c : Bool) (G : Nat → Bool) (v : Value), gOk c G (.const v) = true) :=
  ⟨fun _ => rfl, rfl, rfl, fun _ => rfl, fun _ => rfl, fun l => List.append_nil l, fun _ _ _ => rfl, by simp, by simp, by simp, fun _ _ _ => rfl⟩
end Go.Abs
set_option maxRecDepth 4000
namespace Go.Abs
open Go.Proofs

theorem indexFuncTy {f : FuncId} {caps : List PV} {H : Heap} {us : List Ty} {p : Ty → Bool} (hc : CloB Try.prog Ty.enc f caps H us p) (hl : us.length ≤ maxLen) : ACalls Try.prog 63 [.slice (us.map Ty.enc) .none, .fn (.func f) [] caps] H fun r' H' => r' = vint (idxI p us) ∧ H' = H := by
  have hgo := hc.go
  refine keeps_of (N := 19) Try.func63 rfl rfl (by simp) (.int _ _) fun hb' => ?_
  repeat (refine awp_seq ?_)
  refine e_eval (by simp only [jA, jO, jN, seval, vint, qD] <;> with_reducible rfl) (by decide) ?_
  repeat (refine awp_seq ?_)
  refine e_eval (by simp only [jA, jO, jN, seval, y25, y42, vint, qD] <;> with_reducible rfl) (by decide) ?_
  repeat (refine awp_seq ?_)
  refine awp_forS (σ := Unit) (us.length) (fun (s : Unit) => [(0, .slice (us.map Ty.enc) .none), (1, .fn (.func f) [] caps)]) [0, 1] (H) (fun (s : Unit) => []) (fun (i : Nat) (s : Unit) => (us.take i).any p = false) (()) ([]) rfl rfl rfl rfl rfl rfl rfl rfl rfl (by decide) (by decide) (by decide) (fun _ => rfl) (hl) ⟨(by first | rfl | (simp only [jN, seval, vint, qD] <;> first | done | with_reducible rfl)), (by first | rfl | (simp only [jN, seval, vint, qD] <;> first | done | with_reducible rfl)), (by first | rfl | (simp only [jN, seval, vint, qD] <;> first | done | with_reducible rfl)), (by first | rfl | (simp only [jN, seval, vint, qD] <;> first | done | with_reducible rfl)), trivial⟩ (by first | rfl | (simp only [jN, seval, vint, qD] <;> first | done | with_reducible rfl)) (by simp) (fun _ _ _ => by first | exact Nat.zero_le _ | (simp only [List.length_append]; omega)) ?_ ?_ ?_
  · exact fun i s hg => ⟨by simp only [List.append_nil]; exact hb', .cons (bel_Ty _ _) (.cons (.fn _ _ _ (by simp) (fun c hc' => (hc.bel c hc').mono (by simp))) .nil)⟩
  · intro i s hi hg
    have g1 := ix_nat hi
    have g2 := get_enc Ty.enc hi
    repeat (refine awp_seq ?_)
    refine e_eval (by simp only [jA, jO, jN, seval, vint, qD, g1, Int.toNat_natCast, g2] <;> with_reducible rfl) (by decide) ?_
    repeat (refine awp_seq ?_)
    refine awp_region ?_
    refine e_take 5 (by simp only [jA, jO, jN, seval, y25, y42, vint, qD, g1, Int.toNat_natCast, g2] <;> with_reducible rfl) (by decide) ?_
    refine aops_pure (by simp only [jC, jN, seval, vint, qD, g1, Int.toNat_natCast, g2] <;> with_reducible rfl) (by simp only [jC, jN, seval, vint, qD, g1, Int.toNat_natCast, g2]) (by decide) (by assumption) (hc.call _ (List.getElem_mem hi)) ?_
    refine aops_nil ?_
    repeat (refine awp_seq ?_)
    refine awp_cond rfl (by simp only [jN, seval, vint, qD, g1, Int.toNat_natCast, g2] <;> with_reducible rfl) (fun b0 => ?_) (fun b0 => ?_)
    ·
      repeat (refine awp_seq ?_)
      refine e_eval (by simp only [jA, jO, jN, seval, vint, qD, g1, Int.toNat_natCast, g2] <;> with_reducible rfl) (by decide) ?_
      repeat (refine awp_seq ?_)
      refine awp_ret ⟨.inr rfl, _, _, rfl, ?_, (by first | exact (List.append_nil _).symm | rfl)⟩
      rw [idxI_at hi b0 hg]; rfl
    ·
      repeat (refine awp_seq ?_)
      refine awp_skip ?_
      exact ⟨⟨rfl, rfl, trivial⟩, (), [], ⟨rfl, rfl, trivial⟩, by simp only [List.append_nil], any_take_succ hi hg b0⟩
  · intro s hg
    rw [List.take_length] at hg
    repeat (refine awp_seq ?_)
    refine e_eval (by simp only [jA, jO, jN, seval, vint, qD] <;> with_reducible rfl) (by decide) ?_
    repeat (refine awp_seq ?_)
    refine awp_ret ⟨.inr rfl, _, _, rfl, ?_, (by first | exact (List.append_nil _).symm | rfl)⟩
    rw [idxI_none hg]; rfl

theorem containsFuncTy {f : FuncId} {caps : List PV} {H : Heap} {us : List Ty} {p : Ty → Bool} (hc : CloB Try.prog Ty.enc f caps H us p) (hl : us.length ≤ maxLen) : ACalls Try.prog 55 [.slice (us.map Ty.enc) .none, .fn (.func f) [] caps] H fun r' H' => r' = .bool (us.any p) ∧ H' = H := by
  refine keeps_of (N := 9) Try.func55 rfl rfl (by simp) (.bool _) fun hb' => ?_
  repeat (refine awp_seq ?_)
  refine e_eval (by simp only [jA, jO, jN, seval, vint, qD] <;> with_reducible rfl) (by decide) ?_
  repeat (refine awp_seq ?_)
  refine awp_region ?_
  refine e_take 2 (by simp only [jA, jO, jN, seval, vint, qD] <;> with_reducible rfl) (by decide) ?_
  refine aops_pure (by simp only [jC, jN, seval, vint, qD] <;> with_reducible rfl) (by simp only [jC, jN, seval, vint, qD]) (by decide) Trygo63 (indexFuncTy hc hl) ?_
  refine e_end (by simp only [jA, jO, jN, seval, y3, vint, qD] <;> with_reducible rfl) (by decide) ?_
  repeat (refine awp_seq ?_)
  refine awp_ret ⟨.inr rfl, _, _, rfl, ?_, (by first | exact (List.append_nil _).symm | rfl)⟩
  rw [← idxI_nonneg]; rfl

theorem indexFuncInt {f : FuncId} {caps : List PV} {H : Heap} {us : List Int} {p : Int → Bool} (hc : CloB Try.prog vint f caps H us p) (hl : us.length ≤ maxLen) : ACalls Try.prog 46 [.slice (us.map vint) .none, .fn (.func f) [] caps] H fun r' H' => r' = vint (idxI p us) ∧ H' = H := by
  have hgo := hc.go
  refine keeps_of (N := 19) Try.func46 rfl rfl (by simp) (.int _ _) fun hb' => ?_
  repeat (refine awp_seq ?_)
  refine e_eval (by simp only [jA, jO, jN, seval, vint, qD] <;> with_reducible rfl) (by decide) ?_
  repeat (refine awp_seq ?_)
  refine e_eval (by simp only [jA, jO, jN, seval, y3, y23, vint, qD] <;> with_reducible rfl) (by decide) ?_
  repeat (refine awp_seq ?_)
  refine awp_forS (σ := Unit) (us.length) (fun (s : Unit) => [(0, .slice (us.map vint) .none), (1, .fn (.func f) [] caps)]) [0, 1] (H) (fun (s : Unit) => []) (fun (i : Nat) (s : Unit) => (us.take i).any p = false) (()) ([]) rfl rfl rfl rfl rfl rfl rfl rfl rfl (by decide) (by decide) (by decide) (fun _ => rfl) (hl) ⟨(by first | rfl | (simp only [jN, seval, vint, qD] <;> first | done | with_reducible rfl)), (by first | rfl | (simp only [jN, seval, vint, qD] <;> first | done | with_reducible rfl)), (by first | rfl | (simp only [jN, seval, vint, qD] <;> first | done | with_reducible rfl)), (by first | rfl | (simp only [jN, seval, vint, qD] <;> first | done | with_reducible rfl)), trivial⟩ (by first | rfl | (simp only [jN, seval, vint, qD] <;> first | done | with_reducible rfl)) (by simp) (fun _ _ _ => by first | exact Nat.zero_le _ | (simp only [List.length_append]; omega)) ?_ ?_ ?_
  · exact fun i s hg => ⟨by simp only [List.append_nil]; exact hb', .cons (bel_Int _ _) (.cons (.fn _ _ _ (by simp) (fun c hc' => (hc.bel c hc').mono (by simp))) .nil)⟩
  · intro i s hi hg
    have g1 := ix_nat hi
    have g2 := get_enc vint hi
    repeat (refine awp_seq ?_)
    refine e_eval (by simp only [jA, jO, jN, seval, vint, qD, g1, Int.toNat_natCast, g2] <;> with_reducible rfl) (by decide) ?_
    repeat (refine awp_seq ?_)
    refine awp_region ?_
    refine e_take 5 (by simp only [jA, jO, jN, seval, y3, y23, vint, qD, g1, Int.toNat_natCast, g2] <;> with_reducible rfl) (by decide) ?_
    refine aops_pure (by simp only [jC, jN, seval, vint, qD, g1, Int.toNat_natCast, g2] <;> with_reducible rfl) (by simp only [jC, jN, seval, vint, qD, g1, Int.toNat_natCast, g2]) (by decide) (by assumption) (hc.call _ (List.getElem_mem hi)) ?_
    refine aops_nil ?_
    repeat (refine awp_seq ?_)
    refine awp_cond rfl (by simp only [jN, seval, vint, qD, g1, Int.toNat_natCast, g2] <;> with_reducible rfl) (fun b0 => ?_) (fun b0 => ?_)
    ·
      repeat (refine awp_seq ?_)
      refine e_eval (by simp only [jA, jO, jN, seval, vint, qD, g1, Int.toNat_natCast, g2] <;> with_reducible rfl) (by decide) ?_
      repeat (refine awp_seq ?_)
      refine awp_ret ⟨.inr rfl, _, _, rfl, ?_, (by first | exact (List.append_nil _).symm | rfl)⟩
      rw [idxI_at hi b0 hg]; rfl
    ·
      repeat (refine awp_seq ?_)
      refine awp_skip ?_
      exact ⟨⟨rfl, rfl, trivial⟩, (), [], ⟨rfl, rfl, trivial⟩, by simp only [List.append_nil], any_take_succ hi hg b0⟩
  · intro s hg
    rw [List.take_length] at hg
    repeat (refine awp_seq ?_)
    refine e_eval (by simp only [jA, jO, jN, seval, vint, qD] <;> with_reducible rfl) (by decide) ?_
    repeat (refine awp_seq ?_)
    refine awp_ret ⟨.inr rfl, _, _, rfl, ?_, (by first | exact (List.append_nil _).symm | rfl)⟩
    rw [idxI_none hg]; rfl

theorem containsFuncInt {f : FuncId} {caps : List PV} {H : Heap} {us : List Int} {p : Int → Bool} (hc : CloB Try.prog vint f caps H us p) (hl : us.length ≤ maxLen) : ACalls Try.prog 29 [.slice (us.map vint) .none, .fn (.func f) [] caps] H fun r' H' => r' = .bool (us.any p) ∧ H' = H := by
  refine keeps_of (N := 9) Try.func29 rfl rfl (by simp) (.bool _) fun hb' => ?_
  repeat (refine awp_seq ?_)
  refine e_eval (by simp only [jA, jO, jN, seval, vint, qD] <;> with_reducible rfl) (by decide) ?_
  repeat (refine awp_seq ?_)
  refine awp_region ?_
  refine e_take 2 (by simp only [jA, jO, jN, seval, vint, qD] <;> with_reducible rfl) (by decide) ?_
  refine aops_pure (by simp only [jC, jN, seval, vint, qD] <;> with_reducible rfl) (by simp only [jC, jN, seval, vint, qD]) (by decide) Trygo46 (indexFuncInt hc hl) ?_
  refine e_end (by simp only [jA, jO, jN, seval, y3, vint, qD] <;> with_reducible rfl) (by decide) ?_
  repeat (refine awp_seq ?_)
  refine awp_ret ⟨.inr rfl, _, _, rfl, ?_, (by first | exact (List.append_nil _).symm | rfl)⟩
  rw [← idxI_nonneg]; rfl

theorem indexFuncDv {f : FuncId} {caps : List PV} {H : Heap} {us : List Dv} {p : Dv → Bool} (hc : CloB Try.prog Dv.enc f caps H us p) (hl : us.length ≤ maxLen) : ACalls Try.prog 42 [.slice (us.map Dv.enc) .none, .fn (.func f) [] caps] H fun r' H' => r' = vint (idxI p us) ∧ H' = H := by
  have hgo := hc.go
  refine keeps_of (N := 19) Try.func42 rfl rfl (by simp) (.int _ _) fun hb' => ?_
  repeat (refine awp_seq ?_)
  refine e_eval (by simp only [jA, jO, jN, seval, vint, qD] <;> with_reducible rfl) (by decide) ?_
  repeat (refine awp_seq ?_)
  refine e_eval (by simp only [jA, jO, jN, seval, y46, y51, vint, qD] <;> with_reducible rfl) (by decide) ?_
  repeat (refine awp_seq ?_)
  refine awp_forS (σ := Unit) (us.length) (fun (s : Unit) => [(0, .slice (us.map Dv.enc) .none), (1, .fn (.func f) [] caps)]) [0, 1] (H) (fun (s : Unit) => []) (fun (i : Nat) (s : Unit) => (us.take i).any p = false) (()) ([]) rfl rfl rfl rfl rfl rfl rfl rfl rfl (by decide) (by decide) (by decide) (fun _ => rfl) (hl) ⟨(by first | rfl | (simp only [jN, seval, vint, qD] <;> first | done | with_reducible rfl)), (by first | rfl | (simp only [jN, seval, vint, qD] <;> first | done | with_reducible rfl)), (by first | rfl | (simp only [jN, seval, vint, qD] <;> first | done | with_reducible rfl)), (by first | rfl | (simp only [jN, seval, vint, qD] <;> first | done | with_reducible rfl)), trivial⟩ (by first | rfl | (simp only [jN, seval, vint, qD] <;> first | done | with_reducible rfl)) (by simp) (fun _ _ _ => by first | exact Nat.zero_le _ | (simp only [List.length_append]; omega)) ?_ ?_ ?_
  · exact fun i s hg => ⟨by simp only [List.append_nil]; exact hb', .cons (bel_Dv _ _) (.cons (.fn _ _ _ (by simp) (fun c hc' => (hc.bel c hc').mono (by simp))) .nil)⟩
  · intro i s hi hg
    have g1 := ix_nat hi
    have g2 := get_enc Dv.enc hi
    repeat (refine awp_seq ?_)
    refine e_eval (by simp only [jA, jO, jN, seval, vint, qD, g1, Int.toNat_natCast, g2] <;> with_reducible rfl) (by decide) ?_
    repeat (refine awp_seq ?_)
    refine awp_region ?_
    refine e_take 5 (by simp only [jA, jO, jN, seval, y46, y51, vint, qD, g1, Int.toNat_natCast, g2] <;> with_reducible rfl) (by decide) ?_
    refine aops_pure (by simp only [jC, jN, seval, vint, qD, g1, Int.toNat_natCast, g2] <;> with_reducible rfl) (by simp only [jC, jN, seval, vint, qD, g1, Int.toNat_natCast, g2]) (by decide) (by assumption) (hc.call _ (List.getElem_mem hi)) ?_
    refine aops_nil ?_
    repeat (refine awp_seq ?_)
    refine awp_cond rfl (by simp only [jN, seval, vint, qD, g1, Int.toNat_natCast, g2] <;> with_reducible rfl) (fun b0 => ?_) (fun b0 => ?_)
    ·
      repeat (refine awp_seq ?_)
      refine e_eval (by simp only [jA, jO, jN, seval, vint, qD, g1, Int.toNat_natCast, g2] <;> with_reducible rfl) (by decide) ?_
      repeat (refine awp_seq ?_)
      refine awp_ret ⟨.inr rfl, _, _, rfl, ?_, (by first | exact (List.append_nil _).symm | rfl)⟩
      rw [idxI_at hi b0 hg]; rfl
    ·
      repeat (refine awp_seq ?_)
      refine awp_skip ?_
      exact ⟨⟨rfl, rfl, trivial⟩, (), [], ⟨rfl, rfl, trivial⟩, by simp only [List.append_nil], any_take_succ hi hg b0⟩
  · intro s hg
    rw [List.take_length] at hg
    repeat (refine awp_seq ?_)
    refine e_eval (by simp only [jA, jO, jN, seval, vint, qD] <;> with_reducible rfl) (by decide) ?_
    repeat (refine awp_seq ?_)
    refine awp_ret ⟨.inr rfl, _, _, rfl, ?_, (by first | exact (List.append_nil _).symm | rfl)⟩
    rw [idxI_none hg]; rfl

theorem containsFuncDv {f : FuncId} {caps : List PV} {H : Heap} {us : List Dv} {p : Dv → Bool} (hc : CloB Try.prog Dv.enc f caps H us p) (hl : us.length ≤ maxLen) : ACalls Try.prog 24 [.slice (us.map Dv.enc) .none, .fn (.func f) [] caps] H fun r' H' => r' = .bool (us.any p) ∧ H' = H := by
  refine keeps_of (N := 9) Try.func24 rfl rfl (by simp) (.bool _) fun hb' => ?_
  repeat (refine awp_seq ?_)
  refine e_eval (by simp only [jA, jO, jN, seval, vint, qD] <;> with_reducible rfl) (by decide) ?_
  repeat (refine awp_seq ?_)
  refine awp_region ?_
  refine e_take 2 (by simp only [jA, jO, jN, seval, vint, qD] <;> with_reducible rfl) (by decide) ?_
  refine aops_pure (by simp only [jC, jN, seval, vint, qD] <;> with_reducible rfl) (by simp only [jC, jN, seval, vint, qD]) (by decide) Trygo42 (indexFuncDv hc hl) ?_
  refine e_end (by simp only [jA, jO, jN, seval, y3, vint, qD] <;> with_reducible rfl) (by decide) ?_
  repeat (refine awp_seq ?_)
  refine awp_ret ⟨.inr rfl, _, _, rfl, ?_, (by first | exact (List.append_nil _).symm | rfl)⟩
  rw [← idxI_nonneg]; rfl

theorem indexFuncDm {f : FuncId} {caps : List PV} {H : Heap} {us : List Dm} {p : Dm → Bool} (hc : CloB Try.prog Dm.enc f caps H us p) (hl : us.length ≤ maxLen) : ACalls Try.prog 43 [.slice (us.map Dm.enc) .none, .fn (.func f) [] caps] H fun r' H' => r' = vint (idxI p us) ∧ H' = H := by
  have hgo := hc.go
  refine keeps_of (N := 19) Try.func43 rfl rfl (by simp) (.int _ _) fun hb' => ?_
  repeat (refine awp_seq ?_)
  refine e_eval (by simp only [jA, jO, jN, seval, vint, qD] <;> with_reducible rfl) (by decide) ?_
  repeat (refine awp_seq ?_)
  refine e_eval (by simp only [jA, jO, jN, seval, y22, y48, vint, qD] <;> with_reducible rfl) (by decide) ?_
  repeat (refine awp_seq ?_)
  refine awp_forS (σ := Unit) (us.length) (fun (s : Unit) => [(0, .slice (us.map Dm.enc) .none), (1, .fn (.func f) [] caps)]) [0, 1] (H) (fun (s : Unit) => []) (fun (i : Nat) (s : Unit) => (us.take i).any p = false) (()) ([]) rfl rfl rfl rfl rfl rfl rfl rfl rfl (by decide) (by decide) (by decide) (fun _ => rfl) (hl) ⟨(by first | rfl | (simp only [jN, seval, vint, qD] <;> first | done | with_reducible rfl)), (by first | rfl | (simp only [jN, seval, vint, qD] <;> first | done | with_reducible rfl)), (by first | rfl | (simp only [jN, seval, vint, qD] <;> first | done | with_reducible rfl)), (by first | rfl | (simp only [jN, seval, vint, qD] <;> first | done | with_reducible rfl)), trivial⟩ (by first | rfl | (simp only [jN, seval, vint, qD] <;> first | done | with_reducible rfl)) (by simp) (fun _ _ _ => by first | exact Nat.zero_le _ | (simp only [List.length_append]; omega)) ?_ ?_ ?_
  · exact fun i s hg => ⟨by simp only [List.append_nil]; exact hb', .cons (bel_Dm _ _) (.cons (.fn _ _ _ (by simp) (fun c hc' => (hc.bel c hc').mono (by simp))) .nil)⟩
  · intro i s hi hg
    have g1 := ix_nat hi
    have g2 := get_enc Dm.enc hi
    repeat (refine awp_seq ?_)
    refine e_eval (by simp only [jA, jO, jN, seval, vint, qD, g1, Int.toNat_natCast, g2] <;> with_reducible rfl) (by decide) ?_
    repeat (refine awp_seq ?_)
    refine awp_region ?_
    refine e_take 5 (by simp only [jA, jO, jN, seval, y22, y48, vint, qD, g1, Int.toNat_natCast, g2] <;> with_reducible rfl) (by decide) ?_
    refine aops_pure (by simp only [jC, jN, seval, vint, qD, g1, Int.toNat_natCast, g2] <;> with_reducible rfl) (by simp only [jC, jN, seval, vint, qD, g1, Int.toNat_natCast, g2]) (by decide) (by assumption) (hc.call _ (List.getElem_mem hi)) ?_
    refine aops_nil ?_
    repeat (refine awp_seq ?_)
    refine awp_cond rfl (by simp only [jN, seval, vint, qD, g1, Int.toNat_natCast, g2] <;> with_reducible rfl) (fun b0 => ?_) (fun b0 => ?_)
    ·
      repeat (refine awp_seq ?_)
      refine e_eval (by simp only [jA, jO, jN, seval, vint, qD, g1, Int.toNat_natCast, g2] <;> with_reducible rfl) (by decide) ?_
      repeat (refine awp_seq ?_)
      refine awp_ret ⟨.inr rfl, _, _, rfl, ?_, (by first | exact (List.append_nil _).symm | rfl)⟩
      rw [idxI_at hi b0 hg]; rfl
    ·
      repeat (refine awp_seq ?_)
      refine awp_skip ?_
      exact ⟨⟨rfl, rfl, trivial⟩, (), [], ⟨rfl, rfl, trivial⟩, by simp only [List.append_nil], any_take_succ hi hg b0⟩
  · intro s hg
    rw [List.take_length] at hg
    repeat (refine awp_seq ?_)
    refine e_eval (by simp only [jA, jO, jN, seval, vint, qD] <;> with_reducible rfl) (by decide) ?_
    repeat (refine awp_seq ?_)
    refine awp_ret ⟨.inr rfl, _, _, rfl, ?_, (by first | exact (List.append_nil _).symm | rfl)⟩
    rw [idxI_none hg]; rfl

theorem containsFuncDm {f : FuncId} {caps : List PV} {H : Heap} {us : List Dm} {p : Dm → Bool} (hc : CloB Try.prog Dm.enc f caps H us p) (hl : us.length ≤ maxLen) : ACalls Try.prog 26 [.slice (us.map Dm.enc) .none, .fn (.func f) [] caps] H fun r' H' => r' = .bool (us.any p) ∧ H' = H := by
  refine keeps_of (N := 9) Try.func26 rfl rfl (by simp) (.bool _) fun hb' => ?_
  repeat (refine awp_seq ?_)
  refine e_eval (by simp only [jA, jO, jN, seval, vint, qD] <;> with_reducible rfl) (by decide) ?_
  repeat (refine awp_seq ?_)
  refine awp_region ?_
  refine e_take 2 (by simp only [jA, jO, jN, seval, vint, qD] <;> with_reducible rfl) (by decide) ?_
  refine aops_pure (by simp only [jC, jN, seval, vint, qD] <;> with_reducible rfl) (by simp only [jC, jN, seval, vint, qD]) (by decide) Trygo43 (indexFuncDm hc hl) ?_
  refine e_end (by simp only [jA, jO, jN, seval, y3, vint, qD] <;> with_reducible rfl) (by decide) ?_
  repeat (refine awp_seq ?_)
  refine awp_ret ⟨.inr rfl, _, _, rfl, ?_, (by first | exact (List.append_nil _).symm | rfl)⟩
  rw [← idxI_nonneg]; rfl

theorem indexFuncRow {f : FuncId} {caps : List PV} {H : Heap} {us : List Row} {p : Row → Bool} (hc : CloB Try.prog rowE f caps H us p) (hl : us.length ≤ maxLen) : ACalls Try.prog 39 [.slice (us.map rowE) .none, .fn (.func f) [] caps] H fun r' H' => r' = vint (idxI p us) ∧ H' = H := by
  have hgo := hc.go
  refine keeps_of (N := 19) Try.func39 rfl rfl (by simp) (.int _ _) fun hb' => ?_
  repeat (refine awp_seq ?_)
  refine e_eval (by simp only [jA, jO, jN, seval, vint, qD] <;> with_reducible rfl) (by decide) ?_
  repeat (refine awp_seq ?_)
  refine e_eval (by simp only [jA, jO, jN, seval, y24, y25, vint, qD] <;> with_reducible rfl) (by decide) ?_
  repeat (refine awp_seq ?_)
  refine awp_forS (σ := Unit) (us.length) (fun (s : Unit) => [(0, .slice (us.map rowE) .none), (1, .fn (.func f) [] caps)]) [0, 1] (H) (fun (s : Unit) => []) (fun (i : Nat) (s : Unit) => (us.take i).any p = false) (()) ([]) rfl rfl rfl rfl rfl rfl rfl rfl rfl (by decide) (by decide) (by decide) (fun _ => rfl) (hl) ⟨(by first | rfl | (simp only [jN, seval, vint, qD] <;> first | done | with_reducible rfl)), (by first | rfl | (simp only [jN, seval, vint, qD] <;> first | done | with_reducible rfl)), (by first | rfl | (simp only [jN, seval, vint, qD] <;> first | done | with_reducible rfl)), (by first | rfl | (simp only [jN, seval, vint, qD] <;> first | done | with_reducible rfl)), trivial⟩ (by first | rfl | (simp only [jN, seval, vint, qD] <;> first | done | with_reducible rfl)) (by simp) (fun _ _ _ => by first | exact Nat.zero_le _ | (simp only [List.length_append]; omega)) ?_ ?_ ?_
  · exact fun i s hg => ⟨by simp only [List.append_nil]; exact hb', .cons (bel_Row _ _) (.cons (.fn _ _ _ (by simp) (fun c hc' => (hc.bel c hc').mono (by simp))) .nil)⟩
  · intro i s hi hg
    have g1 := ix_nat hi
    have g2 := get_enc rowE hi
    repeat (refine awp_seq ?_)
    refine e_eval (by simp only [jA, jO, jN, seval, vint, qD, g1, Int.toNat_natCast, g2] <;> with_reducible rfl) (by decide) ?_
    repeat (refine awp_seq ?_)
    refine awp_region ?_
    refine e_take 5 (by simp only [jA, jO, jN, seval, y24, y25, y42, vint, qD, g1, Int.toNat_natCast, g2] <;> with_reducible rfl) (by decide) ?_
    refine aops_pure (by simp only [jC, jN, seval, vint, qD, g1, Int.toNat_natCast, g2] <;> with_reducible rfl) (by simp only [jC, jN, seval, vint, qD, g1, Int.toNat_natCast, g2]) (by decide) (by assumption) (hc.call _ (List.getElem_mem hi)) ?_
    refine aops_nil ?_
    repeat (refine awp_seq ?_)
    refine awp_cond rfl (by simp only [jN, seval, vint, qD, g1, Int.toNat_natCast, g2] <;> with_reducible rfl) (fun b0 => ?_) (fun b0 => ?_)
    ·
      repeat (refine awp_seq ?_)
      refine e_eval (by simp only [jA, jO, jN, seval, vint, qD, g1, Int.toNat_natCast, g2] <;> with_reducible rfl) (by decide) ?_
      repeat (refine awp_seq ?_)
      refine awp_ret ⟨.inr rfl, _, _, rfl, ?_, (by first | exact (List.append_nil _).symm | rfl)⟩
      rw [idxI_at hi b0 hg]; rfl
    ·
      repeat (refine awp_seq ?_)
      refine awp_skip ?_
      exact ⟨⟨rfl, rfl, trivial⟩, (), [], ⟨rfl, rfl, trivial⟩, by simp only [List.append_nil], any_take_succ hi hg b0⟩
  · intro s hg
    rw [List.take_length] at hg
    repeat (refine awp_seq ?_)
    refine e_eval (by simp only [jA, jO, jN, seval, vint, qD] <;> with_reducible rfl) (by decide) ?_
    repeat (refine awp_seq ?_)
    refine awp_ret ⟨.inr rfl, _, _, rfl, ?_, (by first | exact (List.append_nil _).symm | rfl)⟩
    rw [idxI_none hg]; rfl

theorem containsFuncRow {f : FuncId} {caps : List PV} {H : Heap} {us : List Row} {p : Row → Bool} (hc : CloB Try.prog rowE f caps H us p) (hl : us.length ≤ maxLen) : ACalls Try.prog 17 [.slice (us.map rowE) .none, .fn (.func f) [] caps] H fun r' H' => r' = .bool (us.any p) ∧ H' = H := by
  refine keeps_of (N := 9) Try.func17 rfl rfl (by simp) (.bool _) fun hb' => ?_
  repeat (refine awp_seq ?_)
  refine e_eval (by simp only [jA, jO, jN, seval, vint, qD] <;> with_reducible rfl) (by decide) ?_
  repeat (refine awp_seq ?_)
  refine awp_region ?_
  refine e_take 2 (by simp only [jA, jO, jN, seval, vint, qD] <;> with_reducible rfl) (by decide) ?_
  refine aops_pure (by simp only [jC, jN, seval, vint, qD] <;> with_reducible rfl) (by simp only [jC, jN, seval, vint, qD]) (by decide) Trygo39 (indexFuncRow hc hl) ?_
  refine e_end (by simp only [jA, jO, jN, seval, y3, vint, qD] <;> with_reducible rfl) (by decide) ?_
  repeat (refine awp_seq ?_)
  refine awp_ret ⟨.inr rfl, _, _, rfl, ?_, (by first | exact (List.append_nil _).symm | rfl)⟩
  rw [← idxI_nonneg]; rfl

theorem index (xs : List Int) (n : Int) (hx : xs.length ≤ maxLen) : PC Try.prog 36 [.slice (xs.map vint) .none, vint n] (vint (idxI (fun x => decide (n = x)) xs)) := by
  refine pc_of (N := 19) Try.func36 rfl rfl (by simp) (by simp [bel_ints0, Bel.int]) (.int _ _) ?_
  repeat (refine awp_seq ?_)
  refine e_eval (by simp only [jA, jO, jN, seval, vint, qD] <;> with_reducible rfl) (by decide) ?_
  repeat (refine awp_seq ?_)
  refine e_eval (by simp only [jA, jO, jN, seval, y3, y23, vint, qD] <;> with_reducible rfl) (by decide) ?_
  repeat (refine awp_seq ?_)
  refine awp_forS (σ := Unit) (xs.length) (fun (s : Unit) => [(0, .slice (xs.map vint) .none), (1, vint n)]) [0, 1] ([]) (fun (s : Unit) => []) (fun (i : Nat) (s : Unit) => (xs.take i).any (fun x => decide (n = x)) = false) (()) ([]) rfl rfl rfl rfl rfl rfl rfl rfl rfl (by decide) (by decide) (by decide) (fun _ => rfl) (hx) ⟨(by first | rfl | (simp only [jN, seval, vint, qD] <;> first | done | with_reducible rfl)), (by first | rfl | (simp only [jN, seval, vint, qD] <;> first | done | with_reducible rfl)), (by first | rfl | (simp only [jN, seval, vint, qD] <;> first | done | with_reducible rfl)), (by first | rfl | (simp only [jN, seval, vint, qD] <;> first | done | with_reducible rfl)), trivial⟩ (by first | rfl | (simp only [jN, seval, vint, qD] <;> first | done | with_reducible rfl)) (by simp) (fun _ _ _ => by first | exact Nat.zero_le _ | (simp only [List.length_append]; omega)) ?_ ?_ ?_
  · exact fun i s hg => ⟨by first | exact hbel_nil _ | (simp only [List.append_nil]; assumption) | (refine hbel_app' hb' (by simp) ?_; repeat (first | exact hbel_nil _ | exact trivial | exact obel_row_nil _ | (refine HBel.cons ?_ ?_) | (refine obel_row_cons (by first | exact bel_ints0 _ _ | exact bel_slice_ty _ _ | exact Ty.bel _ _ | exact bel_ty_tok _ (by simp) | exact bel_Dv _ _ | exact Dv.bel _ _ | exact bel_Dm _ _ | exact Dm.bel _ _ | exact bel_Row _ _ | exact bel_mE _ _ | exact bel_iptr _ _ | exact bel_Row_tok _ (by simp) | exact Bel.int _ _ | exact Bel.bool _ | exact Bel.str _ | exact Bel.nilp | exact Bel.nilfn | exact Bel.optr _ _ (by simp) | exact bel_nil0 _ | exact bel_nil1 _ | exact bel_fn0 _ _ | assumption) ?_))), by repeat (first | exact BelL.nil | refine BelL.cons (by first | exact bel_ints0 _ _ | exact bel_slice_ty _ _ | exact Ty.bel _ _ | exact bel_ty_tok _ (by simp) | exact bel_Dv _ _ | exact Dv.bel _ _ | exact bel_Dm _ _ | exact Dm.bel _ _ | exact bel_Row _ _ | exact bel_mE _ _ | exact bel_iptr _ _ | exact bel_Row_tok _ (by simp) | exact Bel.int _ _ | exact Bel.bool _ | exact Bel.str _ | exact Bel.nilp | exact Bel.nilfn | exact Bel.optr _ _ (by simp) | exact bel_nil0 _ | exact bel_nil1 _ | exact bel_fn0 _ _ | assumption) ?_)⟩
  · intro i s hi hg
    have g1 := ix_nat hi
    have g2 := get_enc vint hi
    repeat (refine awp_seq ?_)
    refine e_eval (by simp only [jA, jO, jN, seval, vint, qD, g1, Int.toNat_natCast, g2] <;> with_reducible rfl) (by decide) ?_
    repeat (refine awp_seq ?_)
    refine e_eval (by simp only [jA, jO, jN, seval, y3, y23, vint, qD, g1, Int.toNat_natCast, g2] <;> with_reducible rfl) (by decide) ?_
    repeat (refine awp_seq ?_)
    refine awp_cond rfl (by simp only [jN, seval, vint, qD, g1, Int.toNat_natCast, g2] <;> with_reducible rfl) (fun b0 => ?_) (fun b0 => ?_)
    ·
      repeat (refine awp_seq ?_)
      refine e_eval (by simp only [jA, jO, jN, seval, vint, qD, g1, Int.toNat_natCast, g2] <;> with_reducible rfl) (by decide) ?_
      repeat (refine awp_seq ?_)
      refine awp_ret ⟨.inr rfl, _, rfl, ?_⟩
      rw [idxI_at hi b0 hg]; rfl
    ·
      repeat (refine awp_seq ?_)
      refine awp_skip ?_
      exact ⟨⟨rfl, rfl, trivial⟩, (), [], ⟨rfl, rfl, trivial⟩, rfl, any_take_succ hi hg b0⟩
  · intro s hg
    rw [List.take_length] at hg
    repeat (refine awp_seq ?_)
    refine e_eval (by simp only [jA, jO, jN, seval, vint, qD] <;> with_reducible rfl) (by decide) ?_
    repeat (refine awp_seq ?_)
    refine awp_ret ⟨.inr rfl, _, rfl, ?_⟩
    rw [idxI_none hg]; rfl

theorem contains (xs : List Int) (n : Int) (hx : xs.length ≤ maxLen) : PC Try.prog 14 [.slice (xs.map vint) .none, vint n] (.bool (xs.any fun x => decide (n = x))) := by
  refine pc_of (N := 9) Try.func14 rfl rfl (by simp) (by simp [bel_ints0, Bel.int]) (.bool _) ?_
  repeat (refine awp_seq ?_)
  refine e_eval (by simp only [jA, jO, jN, seval, vint, qD] <;> with_reducible rfl) (by decide) ?_
  repeat (refine awp_seq ?_)
  refine awp_region ?_
  refine e_take 2 (by simp only [jA, jO, jN, seval, vint, qD] <;> with_reducible rfl) (by decide) ?_
  refine aops_pure (by simp only [jC, jN, seval, vint, qD] <;> with_reducible rfl) (by simp only [jC, jN, seval, vint, qD]) (by decide) Trygo36 (index xs n hx _) ?_
  refine e_end (by simp only [jA, jO, jN, seval, y3, vint, qD] <;> with_reducible rfl) (by decide) ?_
  repeat (refine awp_seq ?_)
  refine awp_ret ⟨.inr rfl, _, rfl, ?_⟩
  rw [← idxI_nonneg]; rfl

theorem equalFunc (us vs : List Ty) (g : Ty → Ty → Bool) (f : FuncId) (hgo : goFn Try.prog f = true) (ha : us.length ≤ maxLen) (hf : ∀ a ∈ us, ∀ b ∈ vs, PC Try.prog f [a.enc, b.enc] (.bool (g a b))) : PC Try.prog 37 [.slice (us.map Ty.enc) .none, .slice (vs.map Ty.enc) .none, .fn (.func f) [] []] (.bool (all2 g us vs)) := by
  refine pc_of (N := 32) Try.func37 rfl rfl (by simp) (by simp [bel_slice_ty, bel_fn0]) (.bool _) ?_
  repeat (refine awp_seq ?_)
  refine e_eval (by simp only [jA, jO, jN, seval, vint, qD] <;> with_reducible rfl) (by decide) ?_
  repeat (refine awp_seq ?_)
  refine e_eval (by simp only [jA, jO, jN, seval, y3, y25, y42, vint, qD] <;> with_reducible rfl) (by decide) ?_
  repeat (refine awp_seq ?_)
  refine awp_cond rfl (by simp only [jN, seval, vint, qD] <;> with_reducible rfl) (fun b0 => ?_) (fun b0 => ?_)
  ·
    repeat (refine awp_seq ?_)
    refine e_eval (by simp only [jA, jO, jN, seval, vint, qD] <;> with_reducible rfl) (by decide) ?_
    repeat (refine awp_seq ?_)
    refine awp_ret ⟨.inr rfl, _, rfl, ?_⟩
    have : us.length ≠ vs.length := by simp at b0; omega
    simp [all2, this, upd_apply, PV.drop1]
  ·
    have hlen : us.length = vs.length := by simp at b0; omega
    repeat (refine awp_seq ?_)
    refine awp_skip ?_
    repeat (refine awp_seq ?_)
    refine e_eval (by simp only [jA, jO, jN, seval, y25, y42, vint, qD] <;> with_reducible rfl) (by decide) ?_
    repeat (refine awp_seq ?_)
    refine awp_forS (σ := Unit) (us.length) (fun (s : Unit) => [(1, .slice (vs.map Ty.enc) .none), (2, .fn (.func f) [] []), (15, .slice (us.map Ty.enc) .none)]) [1, 2, 15] ([]) (fun (s : Unit) => []) (fun (i : Nat) (s : Unit) => ((us.zip vs).take i).all (fun p => g p.1 p.2) = true) (()) ([]) rfl rfl rfl rfl rfl rfl rfl rfl rfl (by decide) (by decide) (by decide) (fun _ => rfl) (ha) ⟨(by first | rfl | (simp only [jN, seval, vint, qD] <;> first | done | with_reducible rfl)), (by first | rfl | (simp only [jN, seval, vint, qD] <;> first | done | with_reducible rfl)), (by first | rfl | (simp only [jN, seval, vint, qD] <;> first | done | with_reducible rfl)), (by first | rfl | (simp only [jN, seval, vint, qD] <;> first | done | with_reducible rfl)), (by first | rfl | (simp only [jN, seval, vint, qD] <;> first | done | with_reducible rfl)), trivial⟩ (by first | rfl | (simp only [jN, seval, vint, qD] <;> first | done | with_reducible rfl)) (by simp) (fun _ _ _ => by first | exact Nat.zero_le _ | (simp only [List.length_append]; omega)) ?_ ?_ ?_
    · exact fun i s hg => ⟨by first | exact hbel_nil _ | (simp only [List.append_nil]; assumption) | (refine hbel_app' hb' (by simp) ?_; repeat (first | exact hbel_nil _ | exact trivial | exact obel_row_nil _ | (refine HBel.cons ?_ ?_) | (refine obel_row_cons (by first | exact bel_ints0 _ _ | exact bel_slice_ty _ _ | exact Ty.bel _ _ | exact bel_ty_tok _ (by simp) | exact bel_Dv _ _ | exact Dv.bel _ _ | exact bel_Dm _ _ | exact Dm.bel _ _ | exact bel_Row _ _ | exact bel_mE _ _ | exact bel_iptr _ _ | exact bel_Row_tok _ (by simp) | exact Bel.int _ _ | exact Bel.bool _ | exact Bel.str _ | exact Bel.nilp | exact Bel.nilfn | exact Bel.optr _ _ (by simp) | exact bel_nil0 _ | exact bel_nil1 _ | exact bel_fn0 _ _ | assumption) ?_))), by repeat (first | exact BelL.nil | refine BelL.cons (by first | exact bel_ints0 _ _ | exact bel_slice_ty _ _ | exact Ty.bel _ _ | exact bel_ty_tok _ (by simp) | exact bel_Dv _ _ | exact Dv.bel _ _ | exact bel_Dm _ _ | exact Dm.bel _ _ | exact bel_Row _ _ | exact bel_mE _ _ | exact bel_iptr _ _ | exact bel_Row_tok _ (by simp) | exact Bel.int _ _ | exact Bel.bool _ | exact Bel.str _ | exact Bel.nilp | exact Bel.nilfn | exact Bel.optr _ _ (by simp) | exact bel_nil0 _ | exact bel_nil1 _ | exact bel_fn0 _ _ | assumption) ?_)⟩
    · intro i s hi hg
      have g1 := ix_nat hi
      have hi2 : i < vs.length := by omega
      have g3 := ix_nat hi2
      have g2 := get_enc Ty.enc hi
      have g4 := get_enc Ty.enc hi2
      repeat (refine awp_seq ?_)
      refine e_eval (by simp only [jA, jO, jN, seval, y25, y42, vint, qD, g1, Int.toNat_natCast, g2, g3, g4] <;> with_reducible rfl) (by decide) ?_
      repeat (refine awp_seq ?_)
      refine e_eval (by simp only [jA, jO, jN, seval, y25, y42, vint, qD, g1, Int.toNat_natCast, g2, g3, g4] <;> with_reducible rfl) (by decide) ?_
      repeat (refine awp_seq ?_)
      refine awp_region ?_
      refine e_take 3 (by simp only [jA, jO, jN, seval, y42, vint, qD, g1, Int.toNat_natCast, g2, g3, g4] <;> with_reducible rfl) (by decide) ?_
      refine aops_pure (by simp only [jC, jN, seval, vint, qD, g1, Int.toNat_natCast, g2, g3, g4] <;> with_reducible rfl) (by simp only [jC, jN, seval, vint, qD, g1, Int.toNat_natCast, g2, g3, g4]) (by decide) (by assumption) (hf us[i] (List.getElem_mem hi) vs[i] (List.getElem_mem hi2) _) ?_
      refine e_end (by simp only [jA, jO, jN, seval, vint, qD, g1, Int.toNat_natCast, g2, g3, g4] <;> with_reducible rfl) (by decide) ?_
      repeat (refine awp_seq ?_)
      refine awp_cond rfl (by simp only [jN, seval, vint, qD, g1, Int.toNat_natCast, g2, g3, g4] <;> with_reducible rfl) (fun b1 => ?_) (fun b1 => ?_)
      ·
        refine awp_sel [1, 2, 15, 16, 17] (by simp only [jN, seval, vint, qD, g1, Int.toNat_natCast, g2, g3, g4] <;> with_reducible rfl) ?_
        repeat (refine awp_seq ?_)
        refine e_eval (by simp only [jA, jO, jN, seval, vint, qD, g1, Int.toNat_natCast, g2, g3, g4] <;> with_reducible rfl) (by decide) ?_
        repeat (refine awp_seq ?_)
        refine awp_ret ⟨.inr rfl, _, rfl, ?_⟩
        have hgf : g us[i] vs[i] = false := by simpa using b1
        have hmem : (us[i], vs[i]) ∈ us.zip vs := by
          rw [List.mem_iff_getElem]; exact ⟨i, by simp; omega, by simp⟩
        have : ((us.zip vs).all fun p => g p.1 p.2) = false := by
          rw [List.all_eq_false]; exact ⟨_, hmem, by simp [hgf]⟩
        simp [all2, this, upd_apply, PV.drop1]
      ·
        repeat (refine awp_seq ?_)
        refine awp_skip ?_
        have hgt : g us[i] vs[i] = true := by simpa using b1
        exact ⟨⟨rfl, rfl, trivial⟩, (), _, ⟨rfl, rfl, rfl, trivial⟩, rfl, all_take_succ (by simp; omega) hg (by simpa using hgt)⟩
    · intro s hg
      repeat (refine awp_seq ?_)
      refine e_eval (by simp only [jA, jO, jN, seval, vint, qD] <;> with_reducible rfl) (by decide) ?_
      repeat (refine awp_seq ?_)
      refine awp_ret ⟨.inr rfl, _, rfl, ?_⟩
      rw [List.take_of_length_le (by simp; omega)] at hg
      simp [all2, hlen, hg, upd_apply, PV.drop1]

end Go.Abs
set_option maxRecDepth 4000
namespace Go.Abs
open Go.Proofs

theorem matches_s (p v : Ty) (ih : ∀ vs : List Ty, PC Try.prog 16 [.slice (p.args.map Ty.enc) .none, .slice (vs.map Ty.enc) .none] (.bool (matL p.args vs))) : PC Try.prog 38 [p.enc, v.enc] (.bool (matP p v)) := by
  rw [matP_eq]
  refine pc_of (N := 27) Try.func38 rfl rfl (by simp) (by simp [Ty.bel, bel_slice_ty, bel_ints0, bel_Dv, bel_Dm, Dv.bel, Dm.bel, bel_Row, Bel.int, bel_mE]) (.bool _) ?_
  repeat (refine awp_seq ?_)
  refine e_eval (by simp only [jA, jO, jN, seval, y42, vint, qD] <;> with_reducible rfl) (by decide) ?_
  repeat (refine awp_seq ?_)
  refine e_eval (by simp only [jA, jO, jN, seval, y3, y42, vint, qD] <;> with_reducible rfl) (by decide) ?_
  repeat (refine awp_seq ?_)
  refine awp_cond rfl (by simp only [jN, seval, vint, qD] <;> with_reducible rfl) (fun b0 => ?_) (fun b0 => ?_)
  ·
    have h0 : p.kind = 0 := by simpa using b0
    repeat (refine awp_seq ?_)
    refine e_eval (by simp only [jA, jO, jN, seval, vint, qD] <;> with_reducible rfl) (by decide) ?_
    repeat (refine awp_seq ?_)
    refine awp_ret ⟨.inr rfl, _, rfl, ?_⟩
    simp only [jN, seval, vint, qD, h0, decide_true, decide_false, Bool.true_or, Bool.false_or, Bool.and_assoc]
  ·
    have h0 : ¬ p.kind = 0 := by simpa using b0
    repeat (refine awp_seq ?_)
    refine awp_skip ?_
    repeat (refine awp_seq ?_)
    refine awp_region ?_
    refine aops_gstart ?_
    refine g_take 17 (by simp only [jG, jO, jN, seval, y3, y25, y42, vint, qD] <;> with_reducible rfl) (by decide) ?_
    refine aops_gpure (by simp only [jE, jN, seval, vint, qD] <;> with_reducible rfl) (by simp only [jE, jN, seval, vint, qD] <;> with_reducible rfl) (by simp only [jE, jN, seval, vint, qD]) (by decide) Trygo16 (fun hc => ih v.args _) ?_
    refine g_end (by simp only [jG, jO, jN, seval, vint, qD] <;> with_reducible rfl) (by decide) (by repeat (first | exact Fin.base _ | with_reducible apply Fin.keep | apply Fin.drop)) ?_
    repeat (refine awp_seq ?_)
    refine awp_ret ⟨.inr rfl, _, rfl, ?_⟩
    simp only [jN, seval, vint, qD, h0, decide_true, decide_false, Bool.true_or, Bool.false_or, Bool.and_assoc]

theorem matL_k : ∀ (k : Nat) (us vs : List Ty), Ty.sizes us < k → us.length ≤ maxLen → (∀ u ∈ us, u.W) → PC Try.prog 16 [.slice (us.map Ty.enc) .none, .slice (vs.map Ty.enc) .none] (.bool (matL us vs))
  | 0, us, vs, h, _, _ => by omega
  | k + 1, us, vs, h, hl, hw => by
    have ih := equalFunc us vs matP 38 Trygo38 hl (fun a ha b _ => matches_s a b fun vs => matL_k k a.args vs (by have := Ty.size_mem ha; have := Ty.size_args a; omega) (hw a ha).lenMax (fun u hu => (hw a ha).arg hu))
    rw [matL_all2]
    refine pc_of (N := 8) Try.func16 rfl rfl (by simp) (by simp [Ty.bel, bel_slice_ty, bel_ints0, bel_Dv, bel_Dm, Dv.bel, Dm.bel, bel_Row, Bel.int, bel_mE]) (.bool _) ?_
    repeat (refine awp_seq ?_)
    refine e_eval (by simp only [jA, jO, jN, seval, vint, qD] <;> with_reducible rfl) (by decide) ?_
    repeat (refine awp_seq ?_)
    refine awp_region ?_
    refine e_take 2 (by simp only [jA, jO, jN, seval, vint, qD] <;> with_reducible rfl) (by decide) ?_
    refine aops_pure (by simp only [jC, jN, seval, vint, qD] <;> with_reducible rfl) (by simp only [jC, jN, seval, vint, qD]) (by decide) Trygo37 (ih _) ?_
    refine e_end (by simp only [jA, jO, jN, seval, vint, qD] <;> with_reducible rfl) (by decide) ?_
    repeat (refine awp_seq ?_)
    refine awp_ret ⟨.inr rfl, _, rfl, ?_⟩
    simp only [jN, seval, vint, qD]

theorem matL_c (us vs : List Ty) (hl : us.length ≤ maxLen) (hw : ∀ u ∈ us, u.W) : PC Try.prog 16 [.slice (us.map Ty.enc) .none, .slice (vs.map Ty.enc) .none] (.bool (matL us vs)) := matL_k _ us vs (Nat.lt_succ_self _) hl hw

theorem rm_k : ∀ (k : Nat) (us vs : List Ty), Ty.sizes us < k → us.length ≤ maxLen → (∀ u ∈ us, u.W) → PC Try.prog 20 [.slice (us.map Ty.enc) .none, .slice (vs.map Ty.enc) .none] (.bool (matL us vs))
  | 0, us, vs, h, _, _ => by omega
  | k + 1, us, vs, h, hl, hw => by
    refine pc_of (N := 50) Try.func20 rfl rfl (by simp) (by simp [Ty.bel, bel_slice_ty, bel_ints0, bel_Dv, bel_Dm, Dv.bel, Dm.bel, bel_Row, Bel.int, bel_mE]) (.bool _) ?_
    repeat (refine awp_seq ?_)
    refine e_eval (by simp only [jA, jO, jN, seval, vint, qD] <;> with_reducible rfl) (by decide) ?_
    repeat (refine awp_seq ?_)
    refine e_eval (by simp only [jA, jO, jN, seval, y3, y25, y42, vint, qD] <;> with_reducible rfl) (by decide) ?_
    repeat (refine awp_seq ?_)
    refine awp_cond rfl (by simp only [jN, seval, vint, qD] <;> with_reducible rfl) (fun bt12 => ?_) (fun bt12 => ?_)
    ·
      have hlen : ¬ us.length = vs.length := by simp at bt12; omega
      have hm : matL us vs = false := by cases hq : matL us vs with | false => rfl | true => exact absurd (matL_len hq) hlen
      repeat (refine awp_seq ?_)
      refine e_eval (by simp only [jA, jO, jN, seval, vint, qD] <;> with_reducible rfl) (by decide) ?_
      repeat (refine awp_seq ?_)
      refine awp_ret ⟨.inr rfl, _, rfl, ?_⟩
      simp only [jN, seval, vint, qD, hm]
    ·
      have hlen : us.length = vs.length := by simp at bt12; omega
      repeat (refine awp_seq ?_)
      refine awp_skip ?_
      repeat (refine awp_seq ?_)
      refine e_eval (by simp only [jA, jO, jN, seval, y25, y42, vint, qD] <;> with_reducible rfl) (by decide) ?_
      repeat (refine awp_seq ?_)
      refine awp_forS (σ := Unit) (us.length) (fun (s : Unit) => [(0, .slice (us.map Ty.enc) .none), (1, .slice (vs.map Ty.enc) .none), (13, .slice (us.map Ty.enc) .none)]) [0, 1, 13] ([]) (fun (s : Unit) => []) (fun (i : Nat) (s : Unit) => ∀ j (h1 : j < i) (h2 : j < us.length) (h3 : j < vs.length), matP us[j] vs[j] = true) (()) ([]) rfl rfl rfl rfl rfl rfl rfl rfl rfl (by decide) (by decide) (by decide) (fun _ => rfl) (hl) ⟨(by first | rfl | (simp only [jN, seval, vint, qD] <;> first | done | with_reducible rfl)), (by first | rfl | (simp only [jN, seval, vint, qD] <;> first | done | with_reducible rfl)), (by first | rfl | (simp only [jN, seval, vint, qD] <;> first | done | with_reducible rfl)), (by first | rfl | (simp only [jN, seval, vint, qD] <;> first | done | with_reducible rfl)), (by first | rfl | (simp only [jN, seval, vint, qD] <;> first | done | with_reducible rfl)), trivial⟩ (by first | rfl | (simp only [jN, seval, vint, qD] <;> first | done | with_reducible rfl)) (fun j h1 => by omega) (fun _ _ _ => by first | exact Nat.zero_le _ | (simp only [List.length_append]; omega)) ?_ ?_ ?_
      · exact fun i s hg => ⟨by first | exact hbel_nil _ | (simp only [List.append_nil]; assumption) | (refine hbel_app' hb' (by simp) ?_; repeat (first | exact hbel_nil _ | exact trivial | exact obel_row_nil _ | (refine HBel.cons ?_ ?_) | (refine obel_row_cons (by first | exact bel_ints0 _ _ | exact bel_slice_ty _ _ | exact Ty.bel _ _ | exact bel_ty_tok _ (by simp) | exact bel_Dv _ _ | exact Dv.bel _ _ | exact bel_Dm _ _ | exact Dm.bel _ _ | exact bel_Row _ _ | exact bel_mE _ _ | exact bel_iptr _ _ | exact bel_Row_tok _ (by simp) | exact Bel.int _ _ | exact Bel.bool _ | exact Bel.str _ | exact Bel.nilp | exact Bel.nilfn | exact Bel.optr _ _ (by simp) | exact bel_nil0 _ | exact bel_nil1 _ | exact bel_fn0 _ _ | assumption) ?_))), by repeat (first | exact BelL.nil | refine BelL.cons (by first | exact bel_ints0 _ _ | exact bel_slice_ty _ _ | exact Ty.bel _ _ | exact bel_ty_tok _ (by simp) | exact bel_Dv _ _ | exact Dv.bel _ _ | exact bel_Dm _ _ | exact Dm.bel _ _ | exact bel_Row _ _ | exact bel_mE _ _ | exact bel_iptr _ _ | exact bel_Row_tok _ (by simp) | exact Bel.int _ _ | exact Bel.bool _ | exact Bel.str _ | exact Bel.nilp | exact Bel.nilfn | exact Bel.optr _ _ (by simp) | exact bel_nil0 _ | exact bel_nil1 _ | exact bel_fn0 _ _ | assumption) ?_)⟩
      · intro i s hi hg
        have g1 := ix_nat hi
        have hi2 : i < vs.length := by omega
        have g3 := ix_nat hi2
        have g2 := get_enc Ty.enc hi
        have g4 := get_enc Ty.enc hi2
        have hmem : us[i] ∈ us := List.getElem_mem hi
        have hmp := matP_eq us[i] vs[i]
        obtain ⟨a, hae⟩ : ∃ a, us[i] = a := ⟨_, rfl⟩
        obtain ⟨b, hbe⟩ : ∃ b, vs[i] = b := ⟨_, rfl⟩
        have hsz := Ty.size_mem hmem
        rw [hae] at g2 hmem hmp hsz
        rw [hbe] at g4 hmp
        have hwa := hw a hmem
        have hsa := Ty.size_args a
        repeat (refine awp_seq ?_)
        refine e_eval (by simp only [jA, jO, jN, seval, y25, y42, vint, qD, g1, g2, g3, g4, Int.toNat_natCast] <;> with_reducible rfl) (by decide) ?_
        repeat (refine awp_seq ?_)
        refine e_eval (by simp only [jA, jO, jN, seval, y25, y42, vint, qD, g1, g2, g3, g4, Int.toNat_natCast] <;> with_reducible rfl) (by decide) ?_
        repeat (refine awp_seq ?_)
        refine awp_region ?_
        refine aops_gstart ?_
        refine g_take 21 (by simp only [jG, jO, jN, seval, y3, y25, y42, vint, qD, g1, g2, g3, g4, Int.toNat_natCast] <;> with_reducible rfl) (by decide) ?_
        refine aops_gpure (by simp only [jE, jN, seval, vint, qD, g1, g2, g3, g4, Int.toNat_natCast] <;> with_reducible rfl) (by simp only [jE, jN, seval, vint, qD, g1, g2, g3, g4, Int.toNat_natCast] <;> with_reducible rfl) (by simp only [jE, jN, seval, vint, qD, g1, g2, g3, g4, Int.toNat_natCast]) (by decide) Trygo20 (fun hc => rm_k k a.args b.args (by omega) hwa.lenMax (fun u hu => hwa.arg hu) _) ?_
        refine g_end (by simp only [jG, jO, jN, seval, vint, qD, g1, g2, g3, g4, Int.toNat_natCast] <;> with_reducible rfl) (by decide) (by repeat (first | exact Fin.base _ | with_reducible apply Fin.keep | apply Fin.drop)) ?_
        repeat (refine awp_seq ?_)
        refine awp_cond rfl (by simp only [jN, seval, vint, qD, g1, g2, g3, g4, Int.toNat_natCast] <;> with_reducible rfl) (fun bt48 => ?_) (fun bt48 => ?_)
        ·
          have hm : matL us vs = false := by
            cases hq : matL us vs with
            | false => rfl
            | true =>
              have := (matL_iff us vs).1 hq |>.2 i hi hi2
              rw [hae, hbe, hmp] at this
              simp only [Bool.or_eq_true, Bool.and_eq_true, decide_eq_true_eq, Bool.or_eq_false_iff, Bool.and_eq_false_iff] at this bt48
              rcases this with q | q
              · simp [q] at bt48
              · simp [q.1, q.2.1, q.2.2] at bt48
          refine awp_sel [0, 1, 13, 14, 15] (by simp only [jN, seval, vint, qD, g1, g2, g3, g4, Int.toNat_natCast] <;> with_reducible rfl) ?_
          repeat (refine awp_seq ?_)
          refine e_eval (by simp only [jA, jO, jN, seval, vint, qD, g1, g2, g3, g4, Int.toNat_natCast] <;> with_reducible rfl) (by decide) ?_
          repeat (refine awp_seq ?_)
          refine awp_ret ⟨.inr rfl, _, rfl, ?_⟩
          simp only [jN, seval, vint, qD, hm]
        ·
          have hab : matP a b = true := by
            rw [hmp]
            simp at bt48 ⊢
            by_cases h0 : a.kind = 0
            · exact .inl h0
            · right; have := bt48 h0; grind
          repeat (refine awp_seq ?_)
          refine awp_skip ?_
          exact ⟨⟨rfl, rfl, trivial⟩, (), _, ⟨rfl, rfl, rfl, trivial⟩, by simp only [jN, seval, vint, qD] <;> rfl, fun j h1 h2 h3 => by
            rcases Nat.lt_or_ge j i with q | q
            · exact hg j q h2 h3
            · obtain rfl : j = i := by omega
              rw [hae, hbe]; exact hab⟩
      · intro s hg
        have hm : matL us vs = true := by
          rw [matL_iff]; exact ⟨hlen, fun j h2 h3 => hg j h2 h2 h3⟩
        repeat (refine awp_seq ?_)
        refine e_eval (by simp only [jA, jO, jN, seval, vint, qD] <;> with_reducible rfl) (by decide) ?_
        repeat (refine awp_seq ?_)
        refine awp_ret ⟨.inr rfl, _, rfl, ?_⟩
        simp only [jN, seval, vint, qD, hm]

theorem pc_k : ∀ (k : Nat) (p : Ty), p.size ≤ k → p.W → PC Try.prog 32 [p.enc] (vint (pcT p))
  | 0, p, h, _ => by cases p; simp [Ty.size] at h
  | k + 1, p, h, hw => by
    refine pc_of (N := 21) Try.func32 rfl rfl (by simp) (by simp [Ty.bel, bel_slice_ty, bel_ints0, bel_Dv, bel_Dm, Dv.bel, Dm.bel, bel_Row, Bel.int, bel_mE]) (.int _ _) ?_
    repeat (refine awp_seq ?_)
    refine e_eval (by simp only [jA, jO, jN, seval, y42, vint, qD] <;> with_reducible rfl) (by decide) ?_
    repeat (refine awp_seq ?_)
    refine e_eval (by simp only [jA, jO, jN, seval, vint, qD] <;> with_reducible rfl) (by decide) ?_
    repeat (refine awp_seq ?_)
    refine e_eval (by simp only [jA, jO, jN, seval, y25, y42, vint, qD] <;> with_reducible rfl) (by decide) ?_
    repeat (refine awp_seq ?_)
    refine awp_forS (σ := Int) (p.args.length) (fun (n : Int) => [(1, .optr 0 0), (3, vint n), (7, .slice (p.args.map Ty.enc) .none)]) [1, 3, 7] ([]) (fun (n : Int) => [.row p.enc.cells]) (fun (i : Nat) (n : Int) => pcT p = pcL ((p.args.drop i).map pcT) n) (1) ([]) rfl rfl rfl rfl rfl rfl rfl rfl rfl (by decide) (by decide) (by decide) (fun _ => rfl) (hw.lenMax) ⟨(by first | rfl | (simp only [jN, seval, vint, qD] <;> first | done | with_reducible rfl)), (by first | rfl | (simp only [jN, seval, vint, qD] <;> first | done | with_reducible rfl)), (by first | rfl | (simp only [jN, seval, vint, qD] <;> first | done | with_reducible rfl)), (by first | rfl | (simp only [jN, seval, vint, qD] <;> first | done | with_reducible rfl)), (by first | rfl | (simp only [jN, seval, vint, qD] <;> first | done | with_reducible rfl)), trivial⟩ (by first | rfl | (simp only [jN, seval, vint, qD] <;> first | done | with_reducible rfl)) (by rw [pcT_eq]; rfl) (fun _ _ _ => by first | exact Nat.zero_le _ | (simp only [List.length_append]; omega)) ?_ ?_ ?_
    · exact fun i n hg => ⟨by simp only [TyS, DvS, DmS, List.nil_append]; repeat (first | exact hbel_nil _ | exact trivial | exact obel_row_nil _ | (refine HBel.cons ?_ ?_) | (refine obel_row_cons (by first | exact bel_ints0 _ _ | exact bel_slice_ty _ _ | exact Ty.bel _ _ | exact bel_ty_tok _ (by simp) | exact bel_Dv _ _ | exact Dv.bel _ _ | exact bel_Dm _ _ | exact Dm.bel _ _ | exact bel_Row _ _ | exact bel_mE _ _ | exact bel_iptr _ _ | exact bel_Row_tok _ (by simp) | exact Bel.int _ _ | exact Bel.bool _ | exact Bel.str _ | exact Bel.nilp | exact Bel.nilfn | exact Bel.optr _ _ (by simp) | exact bel_nil0 _ | exact bel_nil1 _ | exact bel_fn0 _ _ | assumption) ?_)), by repeat (first | exact BelL.nil | refine BelL.cons (by first | exact bel_ints0 _ _ | exact bel_slice_ty _ _ | exact Ty.bel _ _ | exact bel_ty_tok _ (by simp) | exact bel_Dv _ _ | exact Dv.bel _ _ | exact bel_Dm _ _ | exact Dm.bel _ _ | exact bel_Row _ _ | exact bel_mE _ _ | exact bel_iptr _ _ | exact bel_Row_tok _ (by simp) | exact Bel.int _ _ | exact Bel.bool _ | exact Bel.str _ | exact Bel.nilp | exact Bel.nilfn | exact Bel.optr _ _ (by simp) | exact bel_nil0 _ | exact bel_nil1 _ | exact bel_fn0 _ _ | assumption) ?_)⟩
    · intro i n hi hg
      have g1 := ix_nat hi
      have g2 := get_enc Ty.enc hi
      have hmem : p.args[i] ∈ p.args := List.getElem_mem hi
      have hd := pcL_drop hi (n := n)
      obtain ⟨a, hae⟩ : ∃ a, p.args[i] = a := ⟨_, rfl⟩
      have hsz := Ty.size_arg hmem
      rw [hae] at g2 hmem hd hsz
      have hwa := hw.arg hmem
      repeat (refine awp_seq ?_)
      refine e_eval (by simp only [jA, jO, jN, seval, y25, y42, vint, qD, g1, g2, Int.toNat_natCast] <;> with_reducible rfl) (by decide) ?_
      repeat (refine awp_seq ?_)
      refine e_eval (by simp only [jA, jO, jN, seval, y3, vint, qD, g1, g2, Int.toNat_natCast] <;> with_reducible rfl) (by decide) ?_
      repeat (refine awp_seq ?_)
      refine awp_cond rfl (by simp only [jN, seval, vint, qD, g1, g2, Int.toNat_natCast] <;> with_reducible rfl) (fun bt14 => ?_) (fun bt14 => ?_)
      ·
        have hf : pcT p = n := by rw [hg, hd, if_pos (by simpa using bt14)]
        repeat (refine awp_seq ?_)
        refine awp_exit ?_
        simp only [thenQ, blockQ, reduceIte, Nat.reduceEqDiff, Nat.succ_ne_self, if_true, if_false]
        repeat (refine awp_seq ?_)
        refine e_eval (by simp only [jA, jO, jN, seval, vint, qD, g1, g2, Int.toNat_natCast] <;> with_reducible rfl) (by decide) ?_
        repeat (refine awp_seq ?_)
        refine awp_ret ⟨.inr rfl, _, rfl, ?_⟩
        simp only [jN, seval, vint, qD, hf]
      ·
        repeat (refine awp_seq ?_)
        refine awp_skip ?_
        repeat (refine awp_seq ?_)
        refine awp_region ?_
        refine e_take 2 (by simp only [jA, jO, jN, seval, y42, vint, qD, g1, g2, Int.toNat_natCast] <;> with_reducible rfl) (by decide) ?_
        refine aops_pure (by simp only [jC, jN, seval, vint, qD, g1, g2, Int.toNat_natCast] <;> with_reducible rfl) (by simp only [jC, jN, seval, vint, qD, g1, g2, Int.toNat_natCast]) (by decide) Trygo32 (pc_k k a (by omega) hwa _) ?_
        refine e_end (by simp only [jA, jO, jN, seval, y3, vint, qD, g1, g2, Int.toNat_natCast] <;> with_reducible rfl) (by decide) ?_
        exact ⟨⟨rfl, rfl, trivial⟩, IntKind.i64.wrap (n + pcT a), _, ⟨rfl, rfl, rfl, trivial⟩, by simp only [jN, seval, vint, qD] <;> rfl, by rw [hg, hd, if_neg (by simpa using bt14)]⟩
    · intro n hg
      rw [List.drop_length] at hg
      have hf : pcT p = n := hg
      repeat (refine awp_seq ?_)
      refine e_eval (by simp only [jA, jO, jN, seval, vint, qD] <;> with_reducible rfl) (by decide) ?_
      repeat (refine awp_seq ?_)
      refine awp_ret ⟨.inr rfl, _, rfl, ?_⟩
      simp only [jN, seval, vint, qD, hf]

end Go.Abs
set_option maxRecDepth 4000
namespace Go.Abs
open Go.Proofs

theorem variant1 (i : Int) (H : Heap) (id : Nat) (h1 : H[id]? = some (.row [vint i])) (v : Dv) : ACalls Try.prog 57 [v.enc, .optr id 0] H fun r' H' => r' = .bool (decide (v.id = i)) ∧ H' = H := by
  have q1 : ∀ L, (H ++ L)[id]? = some (.row [.int .i64 i]) := fun L => by rw [List.getElem?_append_left (len_of_get h1)]; exact h1
  refine keeps_of (N := 8) Try.func57 rfl rfl (by simp) (.bool _) fun hb' => ?_
  repeat (refine awp_seq ?_)
  refine e_eval (by simp only [jA, jO, jN, seval, y51, vint, qD, q1] <;> with_reducible rfl) (by decide) ?_
  repeat (refine awp_seq ?_)
  refine e_eval (by simp only [jA, jO, jN, seval, y3, y51, vint, qD, q1] <;> with_reducible rfl) (by decide) ?_
  repeat (refine awp_seq ?_)
  refine awp_ret ⟨.inr rfl, _, _, rfl, ?_, (by first | exact (List.append_nil _).symm | rfl)⟩
  simp only [jN, seval, vint, qD]

theorem variant_c (d : Dm) (hd : d.W) (i : Int) : PC Try.prog 47 [d.enc, vint i] (vptr (findV d i)) := by
  refine pc_of (N := 16) Try.func47 rfl rfl (by simp) (by simp [Ty.bel, bel_slice_ty, bel_ints0, bel_Dv, bel_Dm, Dv.bel, Dm.bel, bel_Row, Bel.int, bel_mE]) (by unfold vptr; split; exact .nilp; exact bel_iptr _ _) ?_
  repeat (refine awp_seq ?_)
  refine e_eval (by simp only [jA, jO, jN, seval, y3, y48, vint, qD] <;> with_reducible rfl) (by decide) ?_
  repeat (refine awp_seq ?_)
  refine awp_region ?_
  refine e_take 3 (by simp only [jA, jO, jN, seval, y46, y48, y51, vint, qD] <;> with_reducible rfl) (by decide) ?_
  refine aops_pure (by simp only [jC, jN, seval, vint, qD] <;> with_reducible rfl) (by simp only [jC, jN, seval, vint, qD]) (by decide) Trygo42 (indexFuncDv (p := fun v : Dv => decide (v.id = i)) ⟨Trygo57, by simp; exact .optr _ _ (by simp), fun u hu => variant1 i _ 1 rfl u⟩ hd.max_vs) ?_
  refine e_end (by simp only [jA, jO, jN, seval, vint, qD] <;> with_reducible rfl) (by decide) ?_
  repeat (refine awp_seq ?_)
  refine e_eval (by simp only [jA, jO, jN, seval, y3, vint, qD] <;> with_reducible rfl) (by decide) ?_
  repeat (refine awp_seq ?_)
  refine awp_cond rfl (by simp only [jN, seval, vint, qD] <;> with_reducible rfl) (fun bt11 => ?_) (fun bt11 => ?_)
  ·
    have hf : findV d i = none := by
      rcases findV_idx d i with h | ⟨n, h1, h2, h3⟩
      · exact h.1
      · simp only [h2, decide_eq_true_eq] at bt11; omega
    repeat (refine awp_seq ?_)
    refine e_eval (by simp only [jA, jO, jN, seval, vint, qD] <;> with_reducible rfl) (by decide) ?_
    repeat (refine awp_seq ?_)
    refine awp_ret ⟨.inr rfl, _, rfl, ?_⟩
    rw [hf]; rfl
  ·
    obtain ⟨n, hn, h2, h3⟩ : ∃ (n : Nat) (h : n < d.vs.length), idxI (fun v : Dv => decide (v.id = i)) d.vs = n ∧ findV d i = some d.vs[n] := by
      rcases findV_idx d i with h | h
      · simp [h.2] at bt11
      · exact h
    have g1 := ix_nat hn
    have g2 := get_enc Dv.enc hn
    repeat (refine awp_seq ?_)
    refine awp_skip ?_
    repeat (refine awp_seq ?_)
    refine e_eval (by simp only [jA, jO, jN, seval, y46, y48, y51, vint, qD, h2, g1, g2, Int.toNat_natCast] <;> with_reducible rfl) (by decide) ?_
    repeat (refine awp_seq ?_)
    refine awp_ret ⟨.inr rfl, _, rfl, ?_⟩
    rw [h3]; rfl

theorem conf_k (ds : List Dm) (hw : DsW ds) (hf : ∀ d ∈ ds, ∀ v ∈ d.vs, ∀ f ∈ v.fields, okIx ds f = true) : ∀ (k : Nat) (p : Ty) (d : Int), p.size ≤ k → p.W → okIx ds d = true → PC Try.prog 33 [.agg [.slice (ds.map Dm.enc) .none], p.enc, vint d] (.bool (confP ds p d))
  | 0, p, d, h, _, _ => by cases p; simp [Ty.size] at h
  | k + 1, p, d, h, hp, hx => by
    obtain ⟨g1, g2⟩ := ix_dom hx
    have hdm := domOf_mem hx
    obtain ⟨dm, hdme⟩ : ∃ dm, domOf ds d = dm := ⟨_, rfl⟩
    have hce := confP_eq ds p d
    rw [hdme] at g2 hdm hce
    have hdw := hw.el dm hdm
    have hfd := hf dm hdm
    refine pc_of (N := 94) Try.func33 rfl rfl (by simp) (by simp [Ty.bel, bel_slice_ty, bel_ints0, bel_Dv, bel_Dm, Dv.bel, Dm.bel, bel_Row, Bel.int, bel_mE]) (.bool _) ?_
    repeat (refine awp_seq ?_)
    refine e_eval (by simp only [jA, jO, jN, seval, y42, y54, vint, qD] <;> with_reducible rfl) (by decide) ?_
    repeat (refine awp_seq ?_)
    refine e_eval (by simp only [jA, jO, jN, seval, y22, y48, y54, vint, qD, g1, g2] <;> with_reducible rfl) (by decide) ?_
    repeat (refine awp_seq ?_)
    refine e_eval (by simp only [jA, jO, jN, seval, y3, y42, vint, qD] <;> with_reducible rfl) (by decide) ?_
    repeat (refine awp_seq ?_)
    refine awp_cond rfl (by simp only [jN, seval, vint, qD] <;> with_reducible rfl) (fun bt18 => ?_) (fun bt18 => ?_)
    ·
      have hk : p.kind = 0 := by simpa using bt18
      rw [if_pos hk] at hce
      repeat (refine awp_seq ?_)
      refine g_eval (by simp only [jG, jO, jN, seval, y3, y25, y42, vint, qD] <;> with_reducible rfl) (by decide) (by repeat (first | exact Fin.base _ | with_reducible apply Fin.keep | apply Fin.drop)) ?_
      repeat (refine awp_seq ?_)
      refine awp_ret ⟨.inr rfl, _, rfl, ?_⟩
      rw [hce]
      simp only [jN, seval, vint, qD, isE0]
    ·
      have hk : ¬ p.kind = 0 := by simpa using bt18
      rw [if_neg hk] at hce
      repeat (refine awp_seq ?_)
      refine awp_skip ?_
      repeat (refine awp_seq ?_)
      refine e_eval (by simp only [jA, jO, jN, seval, y3, y42, y48, vint, qD] <;> with_reducible rfl) (by decide) ?_
      repeat (refine awp_seq ?_)
      refine awp_cond rfl (by simp only [jN, seval, vint, qD] <;> with_reducible rfl) (fun bt32 => ?_) (fun bt32 => ?_)
      ·
        have hk2 : p.kind ≠ dm.kind := by simpa using bt32
        rw [if_pos hk2] at hce
        refine awp_sel [] (by simp only [jN, seval, vint, qD] <;> with_reducible rfl) ?_
        repeat (refine awp_seq ?_)
        refine e_eval (by simp only [jA, jO, jN, seval, vint, qD] <;> with_reducible rfl) (by decide) ?_
        repeat (refine awp_seq ?_)
        refine awp_ret ⟨.inr rfl, _, rfl, ?_⟩
        rw [hce]
        simp only [jN, seval, vint, qD]
      ·
        have hk2 : ¬ p.kind ≠ dm.kind := by simpa using bt32
        rw [if_neg hk2] at hce
        repeat (refine awp_seq ?_)
        refine awp_skip ?_
        refine awp_sel [3, 4, 7] (by simp only [jN, seval, vint, qD] <;> with_reducible rfl) ?_
        repeat (refine awp_seq ?_)
        refine e_eval (by simp only [jA, jO, jN, seval, y3, y42, vint, qD] <;> with_reducible rfl) (by decide) ?_
        repeat (refine awp_seq ?_)
        refine awp_block ?_
        repeat (refine awp_seq ?_)
        refine e_eval (by simp only [jA, jO, jN, seval, y3, vint, qD] <;> with_reducible rfl) (by decide) ?_
        repeat (refine awp_seq ?_)
        refine awp_cond rfl (by simp only [jN, seval, vint, qD] <;> with_reducible rfl) (fun bt35 => ?_) (fun bt35 => ?_)
        ·
          have hk3 : p.kind = 2 := by simpa using bt35
          rw [if_pos hk3] at hce
          repeat (refine awp_seq ?_)
          refine e_eval (by simp only [jA, jO, jN, seval, y3, y25, y42, vint, qD] <;> with_reducible rfl) (by decide) ?_
          repeat (refine awp_seq ?_)
          refine awp_ret ⟨.inr rfl, _, rfl, ?_⟩
          rw [hce]
          simp only [jN, seval, vint, qD, isE0]
        ·
          have hk3 : ¬ p.kind = 2 := by simpa using bt35
          rw [if_neg hk3] at hce
          repeat (refine awp_seq ?_)
          refine e_eval (by simp only [jA, jO, jN, seval, y3, vint, qD] <;> with_reducible rfl) (by decide) ?_
          repeat (refine awp_seq ?_)
          refine awp_cond rfl (by simp only [jN, seval, vint, qD] <;> with_reducible rfl) (fun bt41 => ?_) (fun bt41 => ?_)
          ·
            have hk4 : p.kind = 3 := by simpa using bt41
            rw [if_pos hk4] at hce
            repeat (refine awp_seq ?_)
            refine g_eval (by simp only [jG, jO, jN, seval, y3, y25, y42, vint, qD] <;> with_reducible rfl) (by decide) (by repeat (first | exact Fin.base _ | with_reducible apply Fin.keep | apply Fin.drop)) ?_
            repeat (refine awp_seq ?_)
            refine awp_ret ⟨.inr rfl, _, rfl, ?_⟩
            rw [hce]
            simp only [jN, seval, vint, qD, isE0]
          ·
            have hk4 : ¬ p.kind = 3 := by simpa using bt41
            rw [if_neg hk4] at hce
            repeat (refine awp_seq ?_)
            refine awp_skip ?_
            repeat (refine awp_seq ?_)
            refine awp_region ?_
            refine e_take 3 (by simp only [jA, jO, jN, seval, y3, y42, y48, vint, qD] <;> with_reducible rfl) (by decide) ?_
            refine aops_pure (by simp only [jC, jN, seval, vint, qD] <;> with_reducible rfl) (by simp only [jC, jN, seval, vint, qD]) (by decide) Trygo47 (variant_c dm hdw p.id _) ?_
            refine e_end (by simp only [jA, jO, jN, seval, vint, qD] <;> with_reducible rfl) (by decide) ?_
            rcases hfv : findV dm p.id with _ | v
            ·
              rw [hfv] at hce
              repeat (refine awp_seq ?_)
              refine dp_draw (by kernel_rfl) ?_
              refine dp_take 3 (by simp only [jP, jO, jN, seval, y71, vint, qD, hfv, vptr] <;> with_reducible rfl) (by decide) ?_
              refine dp_skip (r := .tup []) (by simp only [jE, jN, seval, vint, qD, hfv, vptr] <;> with_reducible rfl) ?_
              refine dp_skip (r := .tup []) (by simp only [jE, jN, seval, vint, qD, hfv, vptr] <;> with_reducible rfl) ?_
              refine dp_skip (r := .tup []) (by simp only [jE, jN, seval, vint, qD, hfv, vptr] <;> with_reducible rfl) ?_
              refine dp_skip (r := .tup []) (by simp only [jE, jN, seval, vint, qD, hfv, vptr] <;> with_reducible rfl) ?_
              refine dp_skip (r := .tup []) (by simp only [jE, jN, seval, vint, qD, hfv, vptr] <;> with_reducible rfl) ?_
              refine dp_skip (r := .tup []) (by simp only [jE, jN, seval, vint, qD, hfv, vptr] <;> with_reducible rfl) ?_
              refine dp_skip (r := .tup []) (by simp only [jE, jN, seval, vint, qD, hfv, vptr] <;> with_reducible rfl) ?_
              refine dp_skip (r := .tup []) (by simp only [jE, jN, seval, vint, qD, hfv, vptr] <;> with_reducible rfl) ?_
              refine dp_skip (r := .tup []) (by simp only [jE, jN, seval, vint, qD, hfv, vptr] <;> with_reducible rfl) ?_
              refine dp_end (by simp only [jP, jO, jN, seval, vint, qD, hfv, vptr] <;> with_reducible rfl) (by decide) (by repeat (first | exact Fin.base _ | with_reducible apply Fin.keep | apply Fin.drop)) ?_
              repeat (refine awp_seq ?_)
              refine awp_cond_true rfl (by simp only [jN, seval, vint, qD, hfv, vptr] <;> with_reducible rfl) ?_
              refine awp_sel [] (by simp only [jN, seval, vint, qD, hfv, vptr] <;> with_reducible rfl) ?_
              repeat (refine awp_seq ?_)
              refine e_eval (by simp only [jA, jO, jN, seval, vint, qD, hfv, vptr] <;> with_reducible rfl) (by decide) ?_
              repeat (refine awp_seq ?_)
              refine awp_ret ⟨.inr rfl, _, rfl, ?_⟩
              rw [hce]
              simp only [jN, seval, vint, qD]
            ·
              rw [hfv] at hce
              have hvm := (findV_mem hfv).1
              have hvw := hdw.el_vs v hvm
              have hvf := hfd v hvm
              repeat (refine awp_seq ?_)
              refine dp_draw (by kernel_rfl) ?_
              refine dp_end (by simp only [jP, jO, jN, seval, y3, y23, y25, y42, y51, y71, vint, qD, hfv, vptr, DvS] <;> with_reducible rfl) (by decide) (by repeat (first | exact Fin.base _ | with_reducible apply Fin.keep | apply Fin.drop)) ?_
              repeat (refine awp_seq ?_)
              refine awp_cond rfl (by simp only [jN, seval, vint, qD, hfv, vptr, DvS] <;> with_reducible rfl) (fun bt73 => ?_) (fun bt73 => ?_)
              ·
                have hl : ¬ v.fields.length = p.args.length := by simp at bt73; omega
                have hcf : confL ds p.args v.fields = false := by cases hq : confL ds p.args v.fields with | false => rfl | true => exact absurd (confL_len hq).symm hl
                have hce2 : confP ds p d = false := hce.trans hcf
                refine awp_sel [] (by simp only [jN, seval, vint, qD, hfv, vptr, DvS] <;> with_reducible rfl) ?_
                repeat (refine awp_seq ?_)
                refine e_eval (by simp only [jA, jO, jN, seval, vint, qD, hfv, vptr, DvS] <;> with_reducible rfl) (by decide) ?_
                repeat (refine awp_seq ?_)
                refine awp_ret ⟨.inr rfl, _, rfl, ?_⟩
                rw [hce2]
                simp only [jN, seval, vint, qD]
              ·
                have hl : p.args.length = v.fields.length := by simp at bt73; omega
                have hce2 : confP ds p d = confL ds p.args v.fields := hce
                repeat (refine awp_seq ?_)
                refine awp_skip ?_
                refine awp_sel [3, 4, 8] (by simp only [jN, seval, vint, qD, hfv, vptr, DvS] <;> with_reducible rfl) ?_
                repeat (refine awp_seq ?_)
                refine e_eval (by simp only [jA, jO, jN, seval, y25, y42, vint, qD, hfv, vptr, DvS] <;> with_reducible rfl) (by decide) ?_
                repeat (refine awp_seq ?_)
                refine awp_forS (σ := Unit) (p.args.length) (fun (u_ : Unit) => [(3, .optr 0 0), (4, .optr 1 0), (8, .iptr [.int .i64 v.id, .slice (v.fields.map vint) .none]), (75, .slice (p.args.map Ty.enc) .none)]) [3, 4, 8, 75] ([]) (fun (u_ : Unit) => [.row [.slice (ds.map Dm.enc) .none], .row p.enc.cells, .row dm.enc.cells]) (fun (i : Nat) (u_ : Unit) => ∀ j (h1 : j < i) (h2 : j < p.args.length) (h3 : j < v.fields.length), confP ds p.args[j] v.fields[j] = true) (()) ([]) rfl rfl rfl rfl rfl rfl rfl rfl rfl (by decide) (by decide) (by decide) (fun _ => rfl) (hp.lenMax) ⟨(by first | rfl | (simp only [jN, seval, vint, qD, hfv, vptr, DvS] <;> first | done | with_reducible rfl)), (by first | rfl | (simp only [jN, seval, vint, qD, hfv, vptr, DvS] <;> first | done | with_reducible rfl)), (by first | rfl | (simp only [jN, seval, vint, qD, hfv, vptr, DvS] <;> first | done | with_reducible rfl)), (by first | rfl | (simp only [jN, seval, vint, qD, hfv, vptr, DvS] <;> first | done | with_reducible rfl)), (by first | rfl | (simp only [jN, seval, vint, qD, hfv, vptr, DvS] <;> first | done | with_reducible rfl)), (by first | rfl | (simp only [jN, seval, vint, qD, hfv, vptr, DvS] <;> first | done | with_reducible rfl)), trivial⟩ (by first | rfl | (simp only [jN, seval, vint, qD, hfv, vptr, DvS] <;> first | done | with_reducible rfl)) (fun j h1 => by omega) (fun _ _ _ => by first | exact Nat.zero_le _ | (simp only [List.length_append]; omega)) ?_ ?_ ?_
                · exact fun i u_ hg => ⟨by simp only [TyS, DvS, DmS, List.nil_append]; repeat (first | exact hbel_nil _ | exact trivial | exact obel_row_nil _ | (refine HBel.cons ?_ ?_) | (refine obel_row_cons (by first | exact bel_ints0 _ _ | exact bel_slice_ty _ _ | exact Ty.bel _ _ | exact bel_ty_tok _ (by simp) | exact bel_Dv _ _ | exact Dv.bel _ _ | exact bel_Dm _ _ | exact Dm.bel _ _ | exact bel_Row _ _ | exact bel_mE _ _ | exact bel_iptr _ _ | exact bel_iptr2 _ _ _ | exact bel_Row_tok _ (by simp) | exact Bel.int _ _ | exact Bel.bool _ | exact Bel.str _ | exact Bel.nilp | exact Bel.nilfn | exact Bel.optr _ _ (by simp) | exact bel_nil0 _ | exact bel_nil1 _ | exact bel_fn0 _ _ | assumption) ?_)), by repeat (first | exact BelL.nil | refine BelL.cons (by first | exact bel_ints0 _ _ | exact bel_slice_ty _ _ | exact Ty.bel _ _ | exact bel_ty_tok _ (by simp) | exact bel_Dv _ _ | exact Dv.bel _ _ | exact bel_Dm _ _ | exact Dm.bel _ _ | exact bel_Row _ _ | exact bel_mE _ _ | exact bel_iptr _ _ | exact bel_iptr2 _ _ _ | exact bel_Row_tok _ (by simp) | exact Bel.int _ _ | exact Bel.bool _ | exact Bel.str _ | exact Bel.nilp | exact Bel.nilfn | exact Bel.optr _ _ (by simp) | exact bel_nil0 _ | exact bel_nil1 _ | exact bel_fn0 _ _ | assumption) ?_)⟩
                · intro i u_ hi hg
                  have g3 := ix_nat hi
                  have g4 := get_enc Ty.enc hi
                  have hi2 : i < v.fields.length := by omega
                  have g5 := ix_nat hi2
                  have g6 := get_enc vint hi2
                  have hmem : p.args[i] ∈ p.args := List.getElem_mem hi
                  have hsz := Ty.size_arg hmem
                  have hfx := hvf _ (List.getElem_mem hi2)
                  obtain ⟨a, hae⟩ : ∃ a, p.args[i] = a := ⟨_, rfl⟩
                  obtain ⟨f, hfe⟩ : ∃ f, v.fields[i] = f := ⟨_, rfl⟩
                  rw [hae] at g4 hmem hsz
                  rw [hfe] at g6 hfx
                  have haw := hp.arg hmem
                  repeat (refine awp_seq ?_)
                  refine e_eval (by simp only [jA, jO, jN, seval, y25, y42, vint, qD, hfv, vptr, DvS, g3, g4, g5, g6, Int.toNat_natCast] <;> with_reducible rfl) (by decide) ?_
                  repeat (refine awp_seq ?_)
                  refine dp_draw (by kernel_rfl) ?_
                  refine dp_take 9 (by simp only [jP, jO, jN, seval, y3, y23, y42, y51, y54, vint, qD, hfv, vptr, DvS, g3, g4, g5, g6, Int.toNat_natCast] <;> with_reducible rfl) (by decide) ?_
                  refine dp_keep (by simp only [jE, jN, seval, vint, qD, hfv, vptr, DvS, g3, g4, g5, g6, Int.toNat_natCast] <;> with_reducible rfl) (by simp only [jE, jN, seval, vint, qD, hfv, vptr, DvS, g3, g4, g5, g6, Int.toNat_natCast] <;> with_reducible rfl) (by simp only [jE, jN, seval, vint, qD, hfv, vptr, DvS, g3, g4, g5, g6, Int.toNat_natCast]) (by decide) Trygo33 (fun hc => conf_k ds hw hf k a f (by omega) haw hfx _) ?_
                  refine dp_end (by simp only [jP, jO, jN, seval, vint, qD, hfv, vptr, DvS, g3, g4, g5, g6, Int.toNat_natCast] <;> with_reducible rfl) (by decide) (by repeat (first | exact Fin.base _ | with_reducible apply Fin.keep | apply Fin.drop)) ?_
                  repeat (refine awp_seq ?_)
                  refine awp_cond rfl (by simp only [jN, seval, vint, qD, hfv, vptr, DvS, g3, g4, g5, g6, Int.toNat_natCast] <;> with_reducible rfl) (fun bt92 => ?_) (fun bt92 => ?_)
                  ·
                    have hcf : confL ds p.args v.fields = false := by
                      cases hq : confL ds p.args v.fields with
                      | false => rfl
                      | true =>
                        have := ((confL_iff ds _ _).1 hq).2 i hi hi2
                        rw [hae, hfe] at this
                        simp [this] at bt92
                    refine awp_sel [3, 4, 8, 75, 76, 77] (by simp only [jN, seval, vint, qD, hfv, vptr, DvS, g3, g4, g5, g6, Int.toNat_natCast] <;> with_reducible rfl) ?_
                    repeat (refine awp_seq ?_)
                    refine e_eval (by simp only [jA, jO, jN, seval, vint, qD, hfv, vptr, DvS, g3, g4, g5, g6, Int.toNat_natCast] <;> with_reducible rfl) (by decide) ?_
                    repeat (refine awp_seq ?_)
                    refine awp_ret ⟨.inr rfl, _, rfl, ?_⟩
                    rw [hce2, hcf]
                    simp only [jN, seval, vint, qD]
                  ·
                    have hab : confP ds a f = true := by simpa using bt92
                    repeat (refine awp_seq ?_)
                    refine awp_skip ?_
                    exact ⟨⟨rfl, rfl, trivial⟩, (), _, ⟨rfl, rfl, rfl, rfl, trivial⟩, by simp only [jN, seval, vint, qD] <;> rfl, fun j h1 h2 h3 => by
                      rcases Nat.lt_or_ge j i with q | q
                      · exact hg j q h2 h3
                      · obtain rfl : j = i := by omega
                        rw [hae, hfe]; exact hab⟩
                · intro u_ hg
                  have hcf : confL ds p.args v.fields = true := by
                    rw [confL_iff]; exact ⟨hl, fun j h2 h3 => hg j h2 h2 h3⟩
                  repeat (refine awp_seq ?_)
                  refine e_eval (by simp only [jA, jO, jN, seval, vint, qD, hfv, vptr, DvS] <;> with_reducible rfl) (by decide) ?_
                  repeat (refine awp_seq ?_)
                  refine awp_ret ⟨.inr rfl, _, rfl, ?_⟩
                  rw [hce2, hcf]
                  simp only [jN, seval, vint, qD]

end Go.Abs
set_option maxRecDepth 4000
namespace Go.Abs
open Go.Proofs

theorem validDomain (ds : List Dm) (i : Int) : PC Try.prog 31 [.agg [.slice (ds.map Dm.enc) .none], vint i] (.bool (okIx ds i)) := by
  refine pc_of (N := 14) Try.func31 rfl rfl (by simp) (by simp [Ty.bel, bel_slice_ty, bel_ints0, bel_Dv, bel_Dm, Dv.bel, Dm.bel, bel_Row, Bel.int, bel_mE]) (.bool _) ?_
  repeat (refine awp_seq ?_)
  refine e_eval (by simp only [jA, jO, jN, seval, y54, vint, qD] <;> with_reducible rfl) (by decide) ?_
  repeat (refine awp_seq ?_)
  refine g_eval (by simp only [jG, jO, jN, seval, y3, y22, y48, y54, vint, qD] <;> with_reducible rfl) (by decide) (by repeat (first | exact Fin.base _ | with_reducible apply Fin.keep | apply Fin.drop)) ?_
  repeat (refine awp_seq ?_)
  refine awp_ret ⟨.inr rfl, _, rfl, ?_⟩
  simp only [jN, seval, vint, qD]
  rfl

theorem vv1 (v : Dv) (H : Heap) (id : Nat) (h1 : H[id]? = some (.row v.enc.cells)) (u : Dv) : ACalls Try.prog 44 [u.enc, .optr id 0] H fun r' H' => r' = .bool (decide (u.id = v.id)) ∧ H' = H := by
  simp only [DvS] at h1
  have q1 : ∀ L, (H ++ L)[id]? = some (.row [.int .i64 v.id, .slice (v.fields.map vint) .none]) := fun L => by rw [List.getElem?_append_left (len_of_get h1)]; exact h1
  refine keeps_of (N := 9) Try.func44 rfl rfl (by simp) (.bool _) fun hb' => ?_
  repeat (refine awp_seq ?_)
  refine e_eval (by simp only [jA, jO, jN, seval, y51, vint, qD, q1] <;> with_reducible rfl) (by decide) ?_
  repeat (refine awp_seq ?_)
  refine e_eval (by simp only [jA, jO, jN, seval, y3, y51, vint, qD, q1] <;> with_reducible rfl) (by decide) ?_
  repeat (refine awp_seq ?_)
  refine awp_ret ⟨.inr rfl, _, _, rfl, ?_, (by first | exact (List.append_nil _).symm | rfl)⟩
  simp only [jN, seval, vint, qD]

theorem vv2 (ds : List Dm) (H : Heap) (id : Nat) (h1 : H[id]? = some (.row [.slice (ds.map Dm.enc) .none])) (f : Int) : ACalls Try.prog 45 [vint f, .optr id 0] H fun r' H' => r' = .bool (!okIx ds f) ∧ H' = H := by
  have q1 : ∀ L, (H ++ L)[id]? = some (.row [.slice (ds.map Dm.enc) .none]) := fun L => by rw [List.getElem?_append_left (len_of_get h1)]; exact h1
  refine keeps_of (N := 8) Try.func45 rfl rfl (by simp) (.bool _) fun hb' => ?_
  repeat (refine awp_seq ?_)
  refine e_eval (by simp only [jA, jO, jN, seval, vint, qD, q1, h1] <;> with_reducible rfl) (by decide) ?_
  repeat (refine awp_seq ?_)
  refine awp_region ?_
  refine e_take 2 (by simp only [jA, jO, jN, seval, y54, vint, qD, q1, h1] <;> with_reducible rfl) (by decide) ?_
  refine aops_pure (by simp only [jC, jN, seval, vint, qD, q1, h1] <;> with_reducible rfl) (by simp only [jC, jN, seval, vint, qD, q1, h1]) (by decide) Trygo31 (validDomain ds f _) ?_
  refine e_end (by simp only [jA, jO, jN, seval, vint, qD, q1, h1] <;> with_reducible rfl) (by decide) ?_
  repeat (refine awp_seq ?_)
  refine awp_ret ⟨.inr rfl, _, _, rfl, ?_, (by first | exact (List.append_nil _).symm | rfl)⟩
  simp only [jN, seval, vint, qD]

theorem validVariants (ds : List Dm) (d : Dm) (hd : d.W) : PC Try.prog 28 [.agg [.slice (ds.map Dm.enc) .none], d.enc] (.bool (vvar ds d)) := by
  refine pc_of (N := 49) Try.func28 rfl rfl (by simp) (by simp [Ty.bel, bel_slice_ty, bel_ints0, bel_Dv, bel_Dm, Dv.bel, Dm.bel, bel_Row, Bel.int, bel_mE]) (.bool _) ?_
  repeat (refine awp_seq ?_)
  refine e_eval (by simp only [jA, jO, jN, seval, y48, y54, vint, qD] <;> with_reducible rfl) (by decide) ?_
  repeat (refine awp_seq ?_)
  refine g_eval (by simp only [jG, jO, jN, seval, y3, y46, y48, y51, vint, qD] <;> with_reducible rfl) (by decide) (by repeat (first | exact Fin.base _ | with_reducible apply Fin.keep | apply Fin.drop)) ?_
  repeat (refine awp_seq ?_)
  refine awp_cond rfl (by simp only [jN, seval, vint, qD] <;> with_reducible rfl) (fun bt26 => ?_) (fun bt26 => ?_)
  ·
    have hk : vvar ds d = false := by unfold vvar vKind; rw [bt26]; rfl
    refine awp_sel [] (by simp only [jN, seval, vint, qD] <;> with_reducible rfl) ?_
    repeat (refine awp_seq ?_)
    refine e_eval (by simp only [jA, jO, jN, seval, vint, qD] <;> with_reducible rfl) (by decide) ?_
    repeat (refine awp_seq ?_)
    refine awp_ret ⟨.inr rfl, _, rfl, ?_⟩
    simp only [jN, seval, vint, qD, hk]
  ·
    have hk : vvar ds d = (List.range d.vs.length).all (vOk ds d) := by unfold vvar vKind; rw [bt26]; rfl
    repeat (refine awp_seq ?_)
    refine awp_skip ?_
    refine awp_sel [2, 3] (by simp only [jN, seval, vint, qD] <;> with_reducible rfl) ?_
    repeat (refine awp_seq ?_)
    refine e_eval (by simp only [jA, jO, jN, seval, y46, y48, y51, vint, qD] <;> with_reducible rfl) (by decide) ?_
    repeat (refine awp_seq ?_)
    refine awp_forS (σ := Unit) (d.vs.length) (fun (u_ : Unit) => [(2, .optr 0 0), (3, .optr 1 0), (28, .slice (d.vs.map Dv.enc) .none)]) [2, 3, 28] ([]) (fun (u_ : Unit) => [.row [.slice (ds.map Dm.enc) .none], .row d.enc.cells]) (fun (i : Nat) (u_ : Unit) => (List.range i).all (vOk ds d) = true) (()) ([]) rfl rfl rfl rfl rfl rfl rfl rfl rfl (by decide) (by decide) (by decide) (fun _ => rfl) (hd.max_vs) ⟨(by first | rfl | (simp only [jN, seval, vint, qD] <;> first | done | with_reducible rfl)), (by first | rfl | (simp only [jN, seval, vint, qD] <;> first | done | with_reducible rfl)), (by first | rfl | (simp only [jN, seval, vint, qD] <;> first | done | with_reducible rfl)), (by first | rfl | (simp only [jN, seval, vint, qD] <;> first | done | with_reducible rfl)), (by first | rfl | (simp only [jN, seval, vint, qD] <;> first | done | with_reducible rfl)), trivial⟩ (by first | rfl | (simp only [jN, seval, vint, qD] <;> first | done | with_reducible rfl)) (by simp) (fun _ _ _ => by first | exact Nat.zero_le _ | (simp only [List.length_append]; omega)) ?_ ?_ ?_
    · exact fun i u_ hg => ⟨by simp only [TyS, DvS, DmS, List.nil_append]; repeat (first | exact hbel_nil _ | exact trivial | exact obel_row_nil _ | (refine HBel.cons ?_ ?_) | (refine obel_row_cons (by first | exact bel_ints0 _ _ | exact bel_slice_ty _ _ | exact Ty.bel _ _ | exact bel_ty_tok _ (by simp) | exact bel_Dv _ _ | exact Dv.bel _ _ | exact bel_Dm _ _ | exact Dm.bel _ _ | exact bel_Row _ _ | exact bel_mE _ _ | exact bel_iptr _ _ | exact bel_iptr2 _ _ _ | exact bel_Row_tok _ (by simp) | exact Bel.int _ _ | exact Bel.bool _ | exact Bel.str _ | exact Bel.nilp | exact Bel.nilfn | exact Bel.optr _ _ (by simp) | exact bel_nil0 _ | exact bel_nil1 _ | exact bel_fn0 _ _ | assumption) ?_)), by repeat (first | exact BelL.nil | refine BelL.cons (by first | exact bel_ints0 _ _ | exact bel_slice_ty _ _ | exact Ty.bel _ _ | exact bel_ty_tok _ (by simp) | exact bel_Dv _ _ | exact Dv.bel _ _ | exact bel_Dm _ _ | exact Dm.bel _ _ | exact bel_Row _ _ | exact bel_mE _ _ | exact bel_iptr _ _ | exact bel_iptr2 _ _ _ | exact bel_Row_tok _ (by simp) | exact Bel.int _ _ | exact Bel.bool _ | exact Bel.str _ | exact Bel.nilp | exact Bel.nilfn | exact Bel.optr _ _ (by simp) | exact bel_nil0 _ | exact bel_nil1 _ | exact bel_fn0 _ _ | assumption) ?_)⟩
    · intro i u_ hi hg
      have g1 := ix_nat hi
      have g2 := get_enc Dv.enc hi
      have hmem : d.vs[i] ∈ d.vs := List.getElem_mem hi
      have hlm := hd.max_vs
      have g3 : ((0 : Int) ≤ i ∧ (i : Int) ≤ d.vs.length) = True := by simp; omega
      have g4 : (∀ e ∈ d.vs.map Dv.enc, e.cells.length = 2) = True := eq_true fun e he => by obtain ⟨u, _, rfl⟩ := List.mem_map.1 he; exact u.enc_len
      have hvo : vOk ds d i = (!((d.vs.take i).any fun u => decide (u.id = d.vs[i].id)) && !(d.vs[i].fields.any fun f => !okIx ds f)) := by unfold vOk; rw [List.getD_eq_getElem?_getD, List.getElem?_eq_getElem hi]; rfl
      obtain ⟨v, hve⟩ : ∃ v, d.vs[i] = v := ⟨_, rfl⟩
      rw [hve] at g2 hmem hvo
      have hvw := hd.el_vs v hmem
      have g5 : List.take i (d.vs.map Dv.enc) = (d.vs.take i).map Dv.enc := (List.map_take ..).symm
      have hne : ¬ i = d.vs.length := by omega
      have htl : (d.vs.take i).length ≤ maxLen := by rw [List.length_take]; omega
      repeat (refine awp_seq ?_)
      refine e_eval (by simp only [jA, jO, jN, seval, y46, y51, vint, qD, g1, g2, g3, g4, g5, Int.toNat_natCast] <;> with_reducible rfl) (by decide) ?_
      repeat (refine awp_seq ?_)
      refine awp_region ?_
      refine e_take 5 (by simp only [jA, jO, jN, seval, y46, y48, y51, vint, qD, g1, g2, g3, g4, g5, Int.toNat_natCast, List.drop_zero, hne, false_and, and_false, ite_false, reduceCtorEq, Option.isNone_none, Option.isNone_some, Bool.false_eq_true, implies_true, if_pos] <;> with_reducible rfl) (by decide) ?_
      refine aops_pure (by simp only [jC, jN, seval, vint, qD, g1, g2, g3, g4, g5, Int.toNat_natCast, List.drop_zero, hne, false_and, and_false, ite_false, reduceCtorEq, Option.isNone_none, Option.isNone_some, Bool.false_eq_true, implies_true, if_pos] <;> with_reducible rfl) (by simp only [jC, jN, seval, vint, qD, g1, g2, g3, g4, g5, Int.toNat_natCast, List.drop_zero, hne, false_and, and_false, ite_false, reduceCtorEq, Option.isNone_none, Option.isNone_some, Bool.false_eq_true, implies_true, if_pos]) (by decide) Trygo24 (containsFuncDv (p := fun u : Dv => decide (u.id = v.id)) ⟨Trygo44, by simp; exact .optr _ _ (by simp), fun u hu => vv1 v _ 2 rfl u⟩ htl) ?_
      refine e_end (by simp only [jA, jO, jN, seval, vint, qD, g1, g2, g3, g4, g5, Int.toNat_natCast, List.drop_zero, hne, false_and, and_false, ite_false, reduceCtorEq, Option.isNone_none, Option.isNone_some, Bool.false_eq_true, implies_true, if_pos] <;> with_reducible rfl) (by decide) ?_
      repeat (refine awp_seq ?_)
      refine awp_region ?_
      refine aops_gstart ?_
      refine g_take 5 (by simp only [jG, jO, jN, seval, y3, y23, y51, vint, qD, g1, g2, g3, g4, g5, Int.toNat_natCast] <;> with_reducible rfl) (by decide) ?_
      refine aops_gpure (by simp only [jE, jN, seval, vint, qD, g1, g2, g3, g4, g5, Int.toNat_natCast] <;> with_reducible rfl) (by simp only [jE, jN, seval, vint, qD, g1, g2, g3, g4, g5, Int.toNat_natCast] <;> with_reducible rfl) (by simp only [jE, jN, seval, vint, qD, g1, g2, g3, g4, g5, Int.toNat_natCast]) (by decide) Trygo29 (fun hc => containsFuncInt (p := fun f => !okIx ds f) ⟨Trygo45, by simp; exact .optr _ _ (by simp), fun u hu => vv2 ds _ 0 rfl u⟩ hvw.max_fields) ?_
      refine g_end (by simp only [jG, jO, jN, seval, vint, qD, g1, g2, g3, g4, g5, Int.toNat_natCast] <;> with_reducible rfl) (by decide) (by repeat (first | exact Fin.base _ | with_reducible apply Fin.keep | apply Fin.drop)) ?_
      repeat (refine awp_seq ?_)
      refine awp_cond rfl (by simp only [jN, seval, vint, qD, g1, g2, g3, g4, g5, Int.toNat_natCast] <;> with_reducible rfl) (fun bt47 => ?_) (fun bt47 => ?_)
      ·
        have hvf : vOk ds d i = false := by rw [hvo]; cases h1 : (d.vs.take i).any (fun u => decide (u.id = v.id)) <;> cases h2 : (v.fields.any fun f => !okIx ds f) <;> simp_all
        have hk2 : vvar ds d = false := hk.trans (range_not_all hi hvf)
        refine awp_sel [2, 3, 28, 29, 30] (by simp only [jN, seval, vint, qD, g1, g2, g3, g4, g5, Int.toNat_natCast] <;> with_reducible rfl) ?_
        repeat (refine awp_seq ?_)
        refine e_eval (by simp only [jA, jO, jN, seval, vint, qD, g1, g2, g3, g4, g5, Int.toNat_natCast] <;> with_reducible rfl) (by decide) ?_
        repeat (refine awp_seq ?_)
        refine awp_ret ⟨.inr rfl, _, rfl, ?_⟩
        simp only [jN, seval, vint, qD, hk2]
      ·
        have hvt : vOk ds d i = true := by rw [hvo]; cases h1 : (d.vs.take i).any (fun u => decide (u.id = v.id)) <;> cases h2 : (v.fields.any fun f => !okIx ds f) <;> simp_all
        repeat (refine awp_seq ?_)
        refine awp_skip ?_
        exact ⟨⟨rfl, rfl, trivial⟩, (), _, ⟨rfl, rfl, rfl, trivial⟩, by simp only [jN, seval, vint, qD] <;> rfl, range_succ_all hg hvt⟩
    · intro u_ hg
      have hres := hk.trans hg
      repeat (refine awp_seq ?_)
      refine e_eval (by simp only [jA, jO, jN, seval, vint, qD] <;> with_reducible rfl) (by decide) ?_
      repeat (refine awp_seq ?_)
      refine awp_ret ⟨.inr rfl, _, rfl, ?_⟩
      simp only [jN, seval, vint, qD, hres]

end Go.Abs
set_option maxRecDepth 4000
namespace Go.Abs
open Go.Proofs

theorem va1 (v : Dv) (H : Heap) : ACalls Try.prog 25 [v.enc] H fun r' H' => r' = .bool (decide ((v.fields.length : Int) > 4)) ∧ H' = H := by
  refine keeps_of (N := 7) Try.func25 rfl rfl (by simp) (.bool _) fun hb' => ?_
  repeat (refine awp_seq ?_)
  refine e_eval (by simp only [jA, jO, jN, seval, y51, vint, qD] <;> with_reducible rfl) (by decide) ?_
  repeat (refine awp_seq ?_)
  refine e_eval (by simp only [jA, jO, jN, seval, y3, y23, y51, vint, qD] <;> with_reducible rfl) (by decide) ?_
  repeat (refine awp_seq ?_)
  refine awp_ret ⟨.inr rfl, _, _, rfl, ?_, (by first | exact (List.append_nil _).symm | rfl)⟩
  simp only [jN, seval, vint, qD]

theorem va2 (ds : List Dm) (H : Heap) (id : Nat) (h1 : H[id]? = some (.row [.slice (ds.map Dm.enc) .none])) (d : Dm) (hd : d.W) : ACalls Try.prog 27 [d.enc, .optr id 0] H fun r' H' => r' = .bool (!vvar ds d) ∧ H' = H := by
  have q1 : ∀ L, (H ++ L)[id]? = some (.row [.slice (ds.map Dm.enc) .none]) := fun L => by rw [List.getElem?_append_left (len_of_get h1)]; exact h1
  refine keeps_of (N := 8) Try.func27 rfl rfl (by simp) (.bool _) fun hb' => ?_
  repeat (refine awp_seq ?_)
  refine e_eval (by simp only [jA, jO, jN, seval, y48, vint, qD, q1, h1] <;> with_reducible rfl) (by decide) ?_
  repeat (refine awp_seq ?_)
  refine awp_region ?_
  refine e_take 2 (by simp only [jA, jO, jN, seval, y48, y54, vint, qD, q1, h1] <;> with_reducible rfl) (by decide) ?_
  refine aops_pure (by simp only [jC, jN, seval, vint, qD, q1, h1] <;> with_reducible rfl) (by simp only [jC, jN, seval, vint, qD, q1, h1]) (by decide) Trygo28 (validVariants ds d hd _) ?_
  refine e_end (by simp only [jA, jO, jN, seval, vint, qD, q1, h1] <;> with_reducible rfl) (by decide) ?_
  repeat (refine awp_seq ?_)
  refine awp_ret ⟨.inr rfl, _, _, rfl, ?_, (by first | exact (List.append_nil _).symm | rfl)⟩
  simp only [jN, seval, vint, qD]

theorem va3 (ds : List Dm) (H : Heap) (id : Nat) (h1 : H[id]? = some (.row [.slice (ds.map Dm.enc) .none])) (f : Int) : ACalls Try.prog 30 [vint f, .optr id 0] H fun r' H' => r' = .bool (!okIx ds f) ∧ H' = H := by
  have q1 : ∀ L, (H ++ L)[id]? = some (.row [.slice (ds.map Dm.enc) .none]) := fun L => by rw [List.getElem?_append_left (len_of_get h1)]; exact h1
  refine keeps_of (N := 8) Try.func30 rfl rfl (by simp) (.bool _) fun hb' => ?_
  repeat (refine awp_seq ?_)
  refine e_eval (by simp only [jA, jO, jN, seval, vint, qD, q1, h1] <;> with_reducible rfl) (by decide) ?_
  repeat (refine awp_seq ?_)
  refine awp_region ?_
  refine e_take 2 (by simp only [jA, jO, jN, seval, y54, vint, qD, q1, h1] <;> with_reducible rfl) (by decide) ?_
  refine aops_pure (by simp only [jC, jN, seval, vint, qD, q1, h1] <;> with_reducible rfl) (by simp only [jC, jN, seval, vint, qD, q1, h1]) (by decide) Trygo31 (validDomain ds f _) ?_
  refine e_end (by simp only [jA, jO, jN, seval, vint, qD, q1, h1] <;> with_reducible rfl) (by decide) ?_
  repeat (refine awp_seq ?_)
  refine awp_ret ⟨.inr rfl, _, _, rfl, ?_, (by first | exact (List.append_nil _).symm | rfl)⟩
  simp only [jN, seval, vint, qD]

theorem validate (ds : List Dm) (cols : List Int) (rows : List Row) (hw : DsW ds) (hcl : cols.length ≤ maxLen) (hr : RowsW rows) : PC Try.prog 10 [.slice (ds.map Dm.enc) .none, .slice (cols.map vint) .none, .slice (rows.map rowE) .none] (vint (validM ds cols rows)) := by
  refine pc_of (N := 92) Try.func10 rfl rfl (by simp) (by simp [Ty.bel, bel_slice_ty, bel_ints0, bel_Dv, bel_Dm, Dv.bel, Dm.bel, bel_Row, Bel.int, bel_mE]) (.int _ _) ?_
  repeat (refine awp_seq ?_)
  refine e_eval (by simp only [jA, jO, jN, seval, vint, qD, RwS] <;> with_reducible rfl) (by decide) ?_
  repeat (refine awp_seq ?_)
  refine g_eval (by simp only [jG, jO, jN, seval, y3, y22, y23, y24, y25, y48, vint, qD, RwS] <;> with_reducible rfl) (by decide) (by repeat (first | exact Fin.base _ | with_reducible apply Fin.keep | apply Fin.drop)) ?_
  refine awp_sel [0, 1, 2, 7] (by simp only [jN, seval, vint, qD, RwS] <;> with_reducible rfl) ?_
  repeat (refine awp_seq ?_)
  refine e_eval (by simp only [jA, jO, jN, seval, y22, y48, vint, qD, RwS] <;> with_reducible rfl) (by decide) ?_
  repeat (refine awp_seq ?_)
  refine awp_forS (σ := Bool) (ds.length) (fun (b : Bool) => [(0, .slice (ds.map Dm.enc) .none), (1, .slice (cols.map vint) .none), (2, .slice (rows.map rowE) .none), (7, .bool b), (28, .slice (ds.map Dm.enc) .none)]) [0, 1, 2, 7, 28] ([]) (fun (b : Bool) => []) (fun (i : Nat) (b : Bool) => b = (big0 ds cols rows || (ds.take i).any bigD)) (big0 ds cols rows) ([]) rfl rfl rfl rfl rfl rfl rfl rfl rfl (by decide) (by decide) (by decide) (fun _ => rfl) (hw.max) ⟨(by first | rfl | (simp only [jN, seval, vint, qD, RwS] <;> first | done | with_reducible rfl)), (by first | rfl | (simp only [jN, seval, vint, qD, RwS] <;> first | done | with_reducible rfl)), (by first | rfl | (simp only [jN, seval, vint, qD, RwS] <;> first | done | with_reducible rfl)), (by first | rfl | (simp only [jN, seval, vint, qD, RwS] <;> first | done | with_reducible rfl)), (by first | rfl | (simp only [jN, seval, vint, qD, RwS] <;> first | done | with_reducible rfl)), (by first | rfl | (simp only [jN, seval, vint, qD, RwS] <;> first | done | with_reducible rfl)), (by first | rfl | (simp only [jN, seval, vint, qD, RwS] <;> first | done | with_reducible rfl)), trivial⟩ (by first | rfl | (simp only [jN, seval, vint, qD, RwS] <;> first | done | with_reducible rfl)) (by simp) (fun _ _ _ => by first | exact Nat.zero_le _ | (simp only [List.length_append]; omega)) ?_ ?_ ?_
  · exact fun i s hg => ⟨by first | exact hbel_nil _ | (simp only [List.append_nil]; assumption) | (refine hbel_app' hb' (by simp) ?_; repeat (first | exact hbel_nil _ | exact trivial | exact obel_row_nil _ | (refine HBel.cons ?_ ?_) | (refine obel_row_cons (by first | exact bel_ints0 _ _ | exact bel_slice_ty _ _ | exact Ty.bel _ _ | exact bel_ty_tok _ (by simp) | exact bel_Dv _ _ | exact Dv.bel _ _ | exact bel_Dm _ _ | exact Dm.bel _ _ | exact bel_Row _ _ | exact bel_mE _ _ | exact bel_iptr _ _ | exact bel_iptr2 _ _ _ | exact bel_Row_tok _ (by simp) | exact Bel.int _ _ | exact Bel.bool _ | exact Bel.str _ | exact Bel.nilp | exact Bel.nilfn | exact Bel.optr _ _ (by simp) | exact bel_nil0 _ | exact bel_nil1 _ | exact bel_fn0 _ _ | assumption) ?_))), by repeat (first | exact BelL.nil | refine BelL.cons (by first | exact bel_ints0 _ _ | exact bel_slice_ty _ _ | exact Ty.bel _ _ | exact bel_ty_tok _ (by simp) | exact bel_Dv _ _ | exact Dv.bel _ _ | exact bel_Dm _ _ | exact Dm.bel _ _ | exact bel_Row _ _ | exact bel_mE _ _ | exact bel_iptr _ _ | exact bel_iptr2 _ _ _ | exact bel_Row_tok _ (by simp) | exact Bel.int _ _ | exact Bel.bool _ | exact Bel.str _ | exact Bel.nilp | exact Bel.nilfn | exact Bel.optr _ _ (by simp) | exact bel_nil0 _ | exact bel_nil1 _ | exact bel_fn0 _ _ | assumption) ?_)⟩
  · intro i b hi hg
    have g1 := ix_nat hi
    have g2 := get_enc Dm.enc hi
    have hmem : ds[i] ∈ ds := List.getElem_mem hi
    have htk := take_any_succ bigD hi
    obtain ⟨d, hde⟩ : ∃ d, ds[i] = d := ⟨_, rfl⟩
    rw [hde] at g2 hmem htk
    have hdw := hw.el d hmem
    repeat (refine awp_seq ?_)
    refine e_eval (by simp only [jA, jO, jN, seval, y22, y48, vint, qD, RwS, g1, g2, Int.toNat_natCast] <;> with_reducible rfl) (by decide) ?_
    repeat (refine awp_seq ?_)
    refine awp_region ?_
    refine aops_gstart ?_
    refine g_take 10 (by simp only [jG, jO, jN, seval, y3, y46, y48, y51, vint, qD, RwS, g1, g2, Int.toNat_natCast] <;> with_reducible rfl) (by decide) ?_
    refine aops_gpure (by simp only [jE, jN, seval, vint, qD, RwS, g1, g2, Int.toNat_natCast] <;> with_reducible rfl) (by simp only [jE, jN, seval, vint, qD, RwS, g1, g2, Int.toNat_natCast] <;> with_reducible rfl) (by simp only [jE, jN, seval, vint, qD, RwS, g1, g2, Int.toNat_natCast]) (by decide) Trygo24 (fun hc => containsFuncDv (p := fun v : Dv => decide ((v.fields.length : Int) > 4)) ⟨Trygo25, by simp, fun u hu => va1 u _⟩ hdw.max_vs) ?_
    refine g_end (by simp only [jG, jO, jN, seval, vint, qD, RwS, g1, g2, Int.toNat_natCast] <;> with_reducible rfl) (by decide) (by repeat (first | exact Fin.base _ | with_reducible apply Fin.keep | apply Fin.drop)) ?_
    exact ⟨⟨rfl, rfl, trivial⟩, (b || decide ((d.vs.length : Int) > 8)) || d.vs.any fun v => decide ((v.fields.length : Int) > 4), _, ⟨rfl, rfl, rfl, rfl, rfl, trivial⟩, rfl, by rw [htk, hg]; unfold bigD; simp only [Bool.or_assoc]⟩
  · intro b hg
    rw [List.take_length] at hg
    have hbig0 : bigM ds cols rows = b := hg.symm
    repeat (refine awp_seq ?_)
    refine e_eval (by simp only [jA, jO, jN, seval, vint, qD, RwS] <;> with_reducible rfl) (by decide) ?_
    repeat (refine awp_seq ?_)
    refine awp_cond rfl (by simp only [jN, seval, vint, qD, RwS] <;> with_reducible rfl) (fun bt47 => ?_) (fun bt47 => ?_)
    ·
      have hv : validM ds cols rows = 2 := by unfold validM; rw [hbig0, bt47]; rfl
      repeat (refine awp_seq ?_)
      refine e_eval (by simp only [jA, jO, jN, seval, vint, qD, RwS] <;> with_reducible rfl) (by decide) ?_
      repeat (refine awp_seq ?_)
      refine awp_ret ⟨.inr rfl, _, rfl, ?_⟩
      simp only [jN, seval, vint, qD, hv]
    ·
      have hbig : bigM ds cols rows = false := hbig0.trans bt47
      repeat (refine awp_seq ?_)
      refine awp_skip ?_
      repeat (refine awp_seq ?_)
      refine e_eval (by simp only [jA, jO, jN, seval, y54, vint, qD, RwS] <;> with_reducible rfl) (by decide) ?_
      repeat (refine awp_seq ?_)
      refine awp_region ?_
      refine aops_gstart ?_
      refine g_take 2 (by simp only [jG, jO, jN, seval, vint, qD, RwS] <;> with_reducible rfl) (by decide) ?_
      refine aops_gpure (by simp only [jE, jN, seval, vint, qD, RwS] <;> with_reducible rfl) (by simp only [jE, jN, seval, vint, qD, RwS] <;> with_reducible rfl) (by simp only [jE, jN, seval, vint, qD, RwS]) (by decide) Trygo26 (fun hc => containsFuncDm (p := fun d => !vvar ds d) ⟨Trygo27, by simp; exact .optr _ _ (by simp), fun u hu => va2 ds _ 0 rfl u (hw.el u hu)⟩ hw.max) ?_
      refine g_take 3 (by simp only [jG, jO, jN, seval, vint, qD, RwS] <;> with_reducible rfl) (by decide) ?_
      refine aops_gpure (by simp only [jE, jN, seval, vint, qD, RwS] <;> with_reducible rfl) (by simp only [jE, jN, seval, vint, qD, RwS] <;> with_reducible rfl) (by simp only [jE, jN, seval, vint, qD, RwS]) (by decide) Trygo29 (fun hc => containsFuncInt (p := fun f => !okIx ds f) ⟨Trygo30, by simp; exact .optr _ _ (by simp), fun u hu => va3 ds _ 0 rfl u⟩ hcl) ?_
      refine g_end (by simp only [jG, jO, jN, seval, vint, qD, RwS] <;> with_reducible rfl) (by decide) (by repeat (first | exact Fin.base _ | with_reducible apply Fin.keep | apply Fin.drop)) ?_
      repeat (refine awp_seq ?_)
      refine awp_cond rfl (by simp only [jN, seval, vint, qD, RwS] <;> with_reducible rfl) (fun bt57 => ?_) (fun bt57 => ?_)
      ·
        have hv : validM ds cols rows = 3 := by unfold validM; rw [hbig, if_neg (by simp), if_pos bt57]
        repeat (refine awp_seq ?_)
        refine e_eval (by simp only [jA, jO, jN, seval, vint, qD, RwS] <;> with_reducible rfl) (by decide) ?_
        repeat (refine awp_seq ?_)
        refine awp_ret ⟨.inr rfl, _, rfl, ?_⟩
        simp only [jN, seval, vint, qD, hv]
      ·
        have hv : validM ds cols rows = if rows.all (rowOk ds cols) then 0 else 3 := by unfold validM; rw [hbig, if_neg (by simp), if_neg (by rw [bt57]; simp)]
        obtain ⟨hdo, huq⟩ := vvar_dok (ds := ds) (Bool.or_eq_false_iff.1 bt57).1
        have hco : ColsOk ds cols := fun c hc => by have := List.any_eq_false.1 (Bool.or_eq_false_iff.1 bt57).2 c hc; simpa using this
        repeat (refine awp_seq ?_)
        refine awp_skip ?_
        repeat (refine awp_seq ?_)
        refine e_eval (by simp only [jA, jO, jN, seval, y24, y25, vint, qD, RwS] <;> with_reducible rfl) (by decide) ?_
        repeat (refine awp_seq ?_)
        refine awp_forS (σ := Unit) (rows.length) (fun (u_ : Unit) => [(1, .slice (cols.map vint) .none), (10, .optr 0 0), (58, .slice (rows.map rowE) .none)]) [1, 10, 58] ([]) (fun (u_ : Unit) => [.row [.slice (ds.map Dm.enc) .none]]) (fun (i : Nat) (u_ : Unit) => (rows.take i).all (rowOk ds cols) = true) (()) ([]) rfl rfl rfl rfl rfl rfl rfl rfl rfl (by decide) (by decide) (by decide) (fun _ => rfl) (hr.max) ⟨(by first | rfl | (simp only [jN, seval, vint, qD, RwS] <;> first | done | with_reducible rfl)), (by first | rfl | (simp only [jN, seval, vint, qD, RwS] <;> first | done | with_reducible rfl)), (by first | rfl | (simp only [jN, seval, vint, qD, RwS] <;> first | done | with_reducible rfl)), (by first | rfl | (simp only [jN, seval, vint, qD, RwS] <;> first | done | with_reducible rfl)), (by first | rfl | (simp only [jN, seval, vint, qD, RwS] <;> first | done | with_reducible rfl)), trivial⟩ (by first | rfl | (simp only [jN, seval, vint, qD, RwS] <;> first | done | with_reducible rfl)) (by simp) (fun _ _ _ => by first | exact Nat.zero_le _ | (simp only [List.length_append]; omega)) ?_ ?_ ?_
        · exact fun i u_ hg => ⟨by simp only [TyS, DvS, DmS, List.nil_append]; repeat (first | exact hbel_nil _ | exact trivial | exact obel_row_nil _ | (refine HBel.cons ?_ ?_) | (refine obel_row_cons (by first | exact bel_ints0 _ _ | exact bel_slice_ty _ _ | exact Ty.bel _ _ | exact bel_ty_tok _ (by simp) | exact bel_Dv _ _ | exact Dv.bel _ _ | exact bel_Dm _ _ | exact Dm.bel _ _ | exact bel_Row _ _ | exact bel_mE _ _ | exact bel_iptr _ _ | exact bel_iptr2 _ _ _ | exact bel_Row_tok _ (by simp) | exact Bel.int _ _ | exact Bel.bool _ | exact Bel.str _ | exact Bel.nilp | exact Bel.nilfn | exact Bel.optr _ _ (by simp) | exact bel_nil0 _ | exact bel_nil1 _ | exact bel_fn0 _ _ | assumption) ?_)), by repeat (first | exact BelL.nil | refine BelL.cons (by first | exact bel_ints0 _ _ | exact bel_slice_ty _ _ | exact Ty.bel _ _ | exact bel_ty_tok _ (by simp) | exact bel_Dv _ _ | exact Dv.bel _ _ | exact bel_Dm _ _ | exact Dm.bel _ _ | exact bel_Row _ _ | exact bel_mE _ _ | exact bel_iptr _ _ | exact bel_iptr2 _ _ _ | exact bel_Row_tok _ (by simp) | exact Bel.int _ _ | exact Bel.bool _ | exact Bel.str _ | exact Bel.nilp | exact Bel.nilfn | exact Bel.optr _ _ (by simp) | exact bel_nil0 _ | exact bel_nil1 _ | exact bel_fn0 _ _ | assumption) ?_)⟩
        · intro i u_ hi hg
          have g1 := ix_nat hi
          have g2 := get_enc rowE hi
          have hmem : rows[i] ∈ rows := List.getElem_mem hi
          have hbad : rowOk ds cols rows[i] = false → validM ds cols rows = 3 := fun h => by rw [hv, if_neg]; intro h2; have := List.all_eq_true.1 h2 _ (List.getElem_mem hi); rw [h] at this; cases this
          obtain ⟨r, hre⟩ : ∃ r, rows[i] = r := ⟨_, rfl⟩
          rw [hre] at g2 hmem hbad
          obtain ⟨hrl, hru⟩ := hr.el r hmem
          have hrw : (Ty.mk 0 0 r).W := .mk hrl hru
          have hrm : r.length ≤ maxLen := hrw.lenMax
          repeat (refine awp_seq ?_)
          refine e_eval (by simp only [jA, jO, jN, seval, y24, y25, y42, vint, qD, RwS, g1, g2, Int.toNat_natCast] <;> with_reducible rfl) (by decide) ?_
          repeat (refine awp_seq ?_)
          refine awp_region ?_
          refine aops_gstart ?_
          refine g_take 8 (by simp only [jG, jO, jN, seval, y3, y23, y25, y42, vint, qD, RwS, g1, g2, Int.toNat_natCast] <;> with_reducible rfl) (by decide) ?_
          refine aops_gpure (by simp only [jE, jN, seval, vint, qD, RwS, g1, g2, Int.toNat_natCast] <;> with_reducible rfl) (by simp only [jE, jN, seval, vint, qD, RwS, g1, g2, Int.toNat_natCast] <;> with_reducible rfl) (by simp only [jE, jN, seval, vint, qD, RwS, g1, g2, Int.toNat_natCast]) (by decide) Trygo32 (fun hc => pc_k _ (Ty.mk 0 0 r) (Nat.le_refl _) hrw _) ?_
          refine g_end (by simp only [jG, jO, jN, seval, y3, vint, qD, RwS, g1, g2, Int.toNat_natCast] <;> with_reducible rfl) (by decide) (by repeat (first | exact Fin.base _ | with_reducible apply Fin.keep | apply Fin.drop)) ?_
          repeat (refine awp_seq ?_)
          refine awp_cond rfl (by simp only [jN, seval, vint, qD, RwS, g1, g2, Int.toNat_natCast] <;> with_reducible rfl) (fun bt74 => ?_) (fun bt74 => ?_)
          ·
            have hro : rowOk ds cols r = false := by
              unfold rowOk
              simp only [Bool.or_eq_true, Bool.not_eq_true', decide_eq_true_eq, decide_eq_false_iff_not] at bt74
              rcases bt74 with q | q
              · have : ¬ r.length = cols.length := by omega
                simp [this]
              · simp [q]
            have hv3 := hbad hro
            repeat (refine awp_seq ?_)
            refine e_eval (by simp only [jA, jO, jN, seval, vint, qD, RwS, g1, g2, Int.toNat_natCast] <;> with_reducible rfl) (by decide) ?_
            repeat (refine awp_seq ?_)
            refine awp_ret ⟨.inr rfl, _, rfl, ?_⟩
            simp only [jN, seval, vint, qD, hv3]
          ·
            have hrc : r.length = cols.length ∧ ¬ pcT (Ty.mk 0 0 r) > 21 := by simp at bt74; exact ⟨by omega, by omega⟩
            repeat (refine awp_seq ?_)
            refine awp_skip ?_
            repeat (refine awp_seq ?_)
            refine e_eval (by simp only [jA, jO, jN, seval, y25, y42, vint, qD, RwS, g1, g2, Int.toNat_natCast] <;> with_reducible rfl) (by decide) ?_
            repeat (refine awp_seq ?_)
            refine awp_forS (σ := Unit) (r.length) (fun (v_ : Unit) => [(1, .slice (cols.map vint) .none), (10, .optr 0 0), (58, .slice (rows.map rowE) .none), (12, .slice (r.map Ty.enc) .none), (60, vint i), (59, vint rows.length), (75, .slice (r.map Ty.enc) .none)]) [1, 10, 58, 12, 60, 59, 75] ([]) (fun (v_ : Unit) => [.row [.slice (ds.map Dm.enc) .none]]) (fun (j : Nat) (v_ : Unit) => ∀ a (h1 : a < j) (h2 : a < r.length) (h3 : a < cols.length), confP ds r[a] cols[a] = true) (()) ([]) rfl rfl rfl rfl rfl rfl rfl rfl rfl (by decide) (by decide) (by decide) (fun _ => rfl) (hrm) ⟨(by first | rfl | (simp only [jN, seval, vint, qD, RwS, g1, g2, Int.toNat_natCast] <;> first | done | with_reducible rfl)), (by first | rfl | (simp only [jN, seval, vint, qD, RwS, g1, g2, Int.toNat_natCast] <;> first | done | with_reducible rfl)), (by first | rfl | (simp only [jN, seval, vint, qD, RwS, g1, g2, Int.toNat_natCast] <;> first | done | with_reducible rfl)), (by first | rfl | (simp only [jN, seval, vint, qD, RwS, g1, g2, Int.toNat_natCast] <;> first | done | with_reducible rfl)), (by first | rfl | (simp only [jN, seval, vint, qD, RwS, g1, g2, Int.toNat_natCast] <;> first | done | with_reducible rfl)), (by first | rfl | (simp only [jN, seval, vint, qD, RwS, g1, g2, Int.toNat_natCast] <;> first | done | with_reducible rfl)), (by first | rfl | (simp only [jN, seval, vint, qD, RwS, g1, g2, Int.toNat_natCast] <;> first | done | with_reducible rfl)), (by first | rfl | (simp only [jN, seval, vint, qD, RwS, g1, g2, Int.toNat_natCast] <;> first | done | with_reducible rfl)), (by first | rfl | (simp only [jN, seval, vint, qD, RwS, g1, g2, Int.toNat_natCast] <;> first | done | with_reducible rfl)), trivial⟩ (by first | rfl | (simp only [jN, seval, vint, qD, RwS, g1, g2, Int.toNat_natCast] <;> first | done | with_reducible rfl)) (fun j h1 => by omega) (fun _ _ _ => by first | exact Nat.zero_le _ | (simp only [List.length_append]; omega)) ?_ ?_ ?_
            · exact fun j v_ hq => ⟨by simp only [TyS, DvS, DmS, List.nil_append]; repeat (first | exact hbel_nil _ | exact trivial | exact obel_row_nil _ | (refine HBel.cons ?_ ?_) | (refine obel_row_cons (by first | exact bel_ints0 _ _ | exact bel_slice_ty _ _ | exact Ty.bel _ _ | exact bel_ty_tok _ (by simp) | exact bel_Dv _ _ | exact Dv.bel _ _ | exact bel_Dm _ _ | exact Dm.bel _ _ | exact bel_Row _ _ | exact bel_mE _ _ | exact bel_iptr _ _ | exact bel_iptr2 _ _ _ | exact bel_Row_tok _ (by simp) | exact Bel.int _ _ | exact Bel.bool _ | exact Bel.str _ | exact Bel.nilp | exact Bel.nilfn | exact Bel.optr _ _ (by simp) | exact bel_nil0 _ | exact bel_nil1 _ | exact bel_fn0 _ _ | assumption) ?_)), by repeat (first | exact BelL.nil | refine BelL.cons (by first | exact bel_ints0 _ _ | exact bel_slice_ty _ _ | exact Ty.bel _ _ | exact bel_ty_tok _ (by simp) | exact bel_Dv _ _ | exact Dv.bel _ _ | exact bel_Dm _ _ | exact Dm.bel _ _ | exact bel_Row _ _ | exact bel_mE _ _ | exact bel_iptr _ _ | exact bel_iptr2 _ _ _ | exact bel_Row_tok _ (by simp) | exact Bel.int _ _ | exact Bel.bool _ | exact Bel.str _ | exact Bel.nilp | exact Bel.nilfn | exact Bel.optr _ _ (by simp) | exact bel_nil0 _ | exact bel_nil1 _ | exact bel_fn0 _ _ | assumption) ?_)⟩
            · intro j v_ hj hq
              have g3 := ix_nat hj
              have g4 := get_enc Ty.enc hj
              have hj2 : j < cols.length := by omega
              have g5 := ix_nat hj2
              have g6 := get_enc vint hj2
              have hcx := hco _ (List.getElem_mem hj2)
              have hpw := hru _ (List.getElem_mem hj)
              obtain ⟨a, hae⟩ : ∃ a, r[j] = a := ⟨_, rfl⟩
              obtain ⟨f, hfe⟩ : ∃ f, cols[j] = f := ⟨_, rfl⟩
              rw [hae] at g4 hpw
              rw [hfe] at g6 hcx
              repeat (refine awp_seq ?_)
              refine e_eval (by simp only [jA, jO, jN, seval, y25, y42, vint, qD, RwS, g1, g2, Int.toNat_natCast, g3, g4, g5, g6, Int.toNat_natCast] <;> with_reducible rfl) (by decide) ?_
              repeat (refine awp_seq ?_)
              refine dp_draw (by kernel_rfl) ?_
              refine dp_take 6 (by simp only [jP, jO, jN, seval, y3, y23, y42, y54, vint, qD, RwS, g1, g2, Int.toNat_natCast, g3, g4, g5, g6, Int.toNat_natCast] <;> with_reducible rfl) (by decide) ?_
              refine dp_keep (by simp only [jE, jN, seval, vint, qD, RwS, g1, g2, Int.toNat_natCast, g3, g4, g5, g6, Int.toNat_natCast] <;> with_reducible rfl) (by simp only [jE, jN, seval, vint, qD, RwS, g1, g2, Int.toNat_natCast, g3, g4, g5, g6, Int.toNat_natCast] <;> with_reducible rfl) (by simp only [jE, jN, seval, vint, qD, RwS, g1, g2, Int.toNat_natCast, g3, g4, g5, g6, Int.toNat_natCast]) (by decide) Trygo33 (fun hc => conf_k ds hw hdo.fld _ a f (Nat.le_refl _) hpw hcx _) ?_
              refine dp_end (by simp only [jP, jO, jN, seval, vint, qD, RwS, g1, g2, Int.toNat_natCast, g3, g4, g5, g6, Int.toNat_natCast] <;> with_reducible rfl) (by decide) (by repeat (first | exact Fin.base _ | with_reducible apply Fin.keep | apply Fin.drop)) ?_
              repeat (refine awp_seq ?_)
              refine awp_cond rfl (by simp only [jN, seval, vint, qD, RwS, g1, g2, Int.toNat_natCast, g3, g4, g5, g6, Int.toNat_natCast] <;> with_reducible rfl) (fun bt89 => ?_) (fun bt89 => ?_)
              ·
                have hro : rowOk ds cols r = false := by
                  unfold rowOk
                  have : confL ds r cols = false := by
                    cases hq2 : confL ds r cols with
                    | false => rfl
                    | true =>
                      have := ((confL_iff ds _ _).1 hq2).2 j hj hj2
                      rw [hae, hfe] at this
                      simp [this] at bt89
                  rw [this]; simp
                have hv3 := hbad hro
                repeat (refine awp_seq ?_)
                refine e_eval (by simp only [jA, jO, jN, seval, vint, qD, RwS, g1, g2, Int.toNat_natCast, g3, g4, g5, g6, Int.toNat_natCast] <;> with_reducible rfl) (by decide) ?_
                repeat (refine awp_seq ?_)
                refine awp_ret ⟨.inr rfl, _, rfl, ?_⟩
                simp only [jN, seval, vint, qD, hv3]
              ·
                have hab : confP ds a f = true := by simpa using bt89
                repeat (refine awp_seq ?_)
                refine awp_skip ?_
                exact ⟨⟨rfl, rfl, trivial⟩, (), _, ⟨rfl, rfl, rfl, rfl, rfl, rfl, rfl, trivial⟩, by simp only [jN, seval, vint, qD] <;> rfl, fun x h1 h2 h3 => by
                  rcases Nat.lt_or_ge x j with q | q
                  · exact hq x q h2 h3
                  · obtain rfl : x = j := by omega
                    rw [hae, hfe]; exact hab⟩
            · intro v_ hq
              have hro : rowOk ds cols r = true := by
                unfold rowOk
                rw [(confL_iff ds r cols).2 ⟨hrc.1, fun a h2 h3 => hq a h2 h2 h3⟩]; simp [hrc.1]; omega
              exact ⟨⟨rfl, rfl, trivial⟩, (), _, ⟨rfl, rfl, rfl, trivial⟩, by simp only [jN, seval, vint, qD] <;> rfl, all_take_succ hi hg (by rw [hre]; exact hro)⟩
        · intro u_ hg
          rw [List.take_length] at hg
          have hv0 : validM ds cols rows = 0 := by rw [hv, if_pos hg]
          repeat (refine awp_seq ?_)
          refine e_eval (by simp only [jA, jO, jN, seval, vint, qD, RwS] <;> with_reducible rfl) (by decide) ?_
          repeat (refine awp_seq ?_)
          refine awp_ret ⟨.inr rfl, _, rfl, ?_⟩
          simp only [jN, seval, vint, qD, hv0]

end Go.Abs
namespace Go.Abs
theorem wrap_id' {n : Int} (h0 : -9223372036854775808 ≤ n) (h : n ≤ 9223372036854775807) : IntKind.i64.wrap n = n := by
  simp [IntKind.wrap, IntKind.bits, IntKind.signed]
  omega
section
variable {P : Program} {N nb : Nat} {ops : Array Oper} {Q : Post}
/-- The capacity of a slice that is full. -/
theorem aops_cap {o : Oper} {l : List Oper} {T : Slots} {H : Heap} {x : Operand} {t : TypeId} {es : List PV} (hop : o.op = .call ⟨.builtin .cap, #[x], #[t]⟩) (hx : aev T x = .slice es .full) (hw : awanted ops.toList T N o = some true) (hok : okOpnd N x = true)
    (hte : (telem P t).isSome = true) (h : AOps P N nb ops Q l (updO T o.dst (.int .i64 es.length)) H) : AOps P N nb ops Q (o :: l) T H := by
  refine aops_done hw (fun E a ho hH ht => ?_) h
  have hr := vrel_eval ht x hok
  rw [hx] at hr
  obtain ⟨e, hu⟩ := telem_isSome hte
  obtain ⟨ad, hval⟩ : ∃ ad, a.eval x = .slice ad es.length es.length := by
    generalize a.eval x = y at hr
    cases hr with
    | nils _ _ => exact ⟨none, rfl⟩
    | slice ad len cap sz _ _ vs hlen hcap hmax hsz hc hr ht =>
      have : cap = len := ht
      subst this; subst hlen; exact ⟨some ad, rfl⟩
  refine ⟨E, .int .i64 es.length, .inl ?_, .refl E, ho, hH, .int _ _⟩
  unfold execOp
  rw [hop]
  simp only
  refine (run_builtin (c := ⟨.builtin .cap, #[x], #[t]⟩) (a := a) (E := E) (P := P) (xs := [x]) (ts := [t]) (ty := o.type) rfl rfl rfl (s := Builtin.cap_ #[t] o.type #[a.eval x]) rfl).trans ?_
  simp only [Builtin.cap_, List.getElem?_toArray, List.getElem?_cons_zero, Sem.run_bind, run_under hu, Result.andThen_ok, hval, Sem.run_pure, goInt]
theorem wanted_none {o : Oper} {y : Nat → Option Bool} (h : o.guard = none) : Region.wanted o y = true := by unfold Region.wanted; rw [h]
/-- An empty slice's room: append of a made slice, cut to nothing. -/
theorem aops_grow {o1 o2 o3 o4 : Oper} {l : List Oper} {T : Slots} {H : Heap} {x y s : Nat} {d1 d2 d3 d4 : Nat} {t u : TypeId} {ei : TypeId × TI} {z : PV} {n : Int} (id : Nat) (hid : H[id]? = some .unborn)
    (g1 : o1.guard = none) (g2 : o2.guard = none) (g3 : o3.guard = none) (g4 : o4.guard = none)
    (p1 : o1.op = .call ⟨.builtin .append, #[.tmp x, .tmp y], #[t, u]⟩) (p2 : o2.op = .move (.tmp s)) (p3 : o3.op = .call ⟨.builtin .len, #[.tmp d2], #[t]⟩) (p4 : o4.op = .slice t (.tmp d1) none (some (.tmp d3)) none)
    (e1 : o1.dst = some d1) (e2 : o2.dst = some d2) (e3 : o3.dst = some d3) (e4 : o4.dst = some d4)
    (hd : d1 ≠ d2 ∧ d1 ≠ d3 ∧ d2 ≠ d3 ∧ s ≠ d1 ∧ x < N ∧ y < N ∧ s < N ∧ d1 < N ∧ d2 < N ∧ d3 < N)
    (hx : T x = .slice [] .full) (hy : T y = .int .i64 n) (hs : T s = .slice [] .full) (hn : 0 < n) (hnb : n * ei.2.bytes ≤ 2 ^ 47) (hnm : n ≤ maxLen)
    (hte : telem P t = some ei) (htu : tint P u = some .i64) (hz : tzero P ei.1 = some z) (hzf : z.fits ei.2 = true) (hsz : 0 < ei.2.sz)
    (h : AOps P N nb ops Q l (upd (upd (upd (upd T d1 .junk) d2 (.slice [] .full)) d3 (.int .i64 0)) d4 (.slice [] (.tok id))) (H.set id (.buf 0 ei.2.sz))) : AOps P N nb ops Q (o1 :: o2 :: o3 :: o4 :: l) T H := by
  obtain ⟨q1, q2, q3, q4, q5, q6, q7, q8, q9, q10⟩ := hd
  obtain ⟨e, i⟩ := ei
  obtain ⟨h1, h2⟩ := telem_some hte
  obtain ⟨dd, f, h3, h4, rfl⟩ := tinfo_some h2
  obtain ⟨f', zv, h5, h6, rfl⟩ := tzero_some hz
  simp only at h5 hzf hnb hsz h
  rw [h4] at h5; cases h5
  obtain ⟨hzs, hzj⟩ := PV.fits_spec hzf
  simp only at hzs
  have hue : P.underlying u = some (.int .i64) := by
    unfold tint at htu
    split at htu
    · rename_i k hq; cases htu; exact hq
    · cases htu
  intro E a ho hH ht
  subst hH
  obtain ⟨zc1, zc2⟩ := (vrel_ofConst E.view zv).not_junk_cells hzj
  have hzv : zv.cells.size = f.size := zc1.trans hzs
  have full : ∀ v, VRel E.view v (.slice [] .full) → ∃ ad, v = .slice ad 0 0 := fun v hv => by
    cases hv with
    | nils _ _ => exact ⟨none, rfl⟩
    | slice ad len cap sz _ _ vs hlen hcap hmax hsz' hc hr ht =>
      have : cap = len := ht
      subst this; simp at hlen; subst hlen; exact ⟨some ad, rfl⟩
  have rx := ht.rel x q5
  have rs := ht.rel s q7
  have ry := ht.rel y q6
  rw [hx] at rx; rw [hs] at rs; rw [hy] at ry
  obtain ⟨adx, vx⟩ := full _ rx
  obtain ⟨ads, vs⟩ := full _ rs
  have vy := ry.int_inv
  have vx' : a.eval (.tmp x) = .slice adx 0 0 := vx
  have vy' : a.eval (.tmp y) = .int .i64 n := vy
  obtain ⟨m, rfl⟩ : ∃ m : Nat, n = m := ⟨n.toNat, by omega⟩
  have em : maxLen = 9223372036854775807 := by decide
  have hw : IntKind.i64.wrap (m : Int) = m := wrap_id' (by omega) (by omega)
  obtain ⟨c, hc6, hc7, hc8⟩ := run_choose_cap (P := P) (w := E.w) m 0 e
  have hcm : c ≤ maxLen := by
    have := hc8 (by have e2 : maxLen = 2 ^ 63 - 1 := rfl; omega)
    have e2 : maxLen = 2 ^ 63 - 1 := rfl
    omega
  let arr : Array Value := #[] ++ Builtin.zeroCells zv.cells m ++ Builtin.zeroCells zv.cells (c - m)
  have harr : arr.size = c * f.size := by
    have h0 : (#[] : Array Value).size = 0 := rfl
    simp only [arr, Array.size_append, zeroCells_size, hzv, h0, Nat.zero_add]
    rw [← Nat.add_mul]; congr 1; omega
  have hd' := ho.drew
  have hid' : E.drew.H[id]? = some .unborn ∨ ∃ n0, E.drew.H[id]? = some (.buf n0 f.size) ∧ n0 < 0 := .inl hid
  have hle' := Env.newBuf_le (E := E.drew) hd' (n := 0) (sz := f.size) hid' arr e 0
  have hok' := Env.Ok.newBuf (E := E.drew) hd' (n := 0) (sz := f.size) hid' arr e 0
  have hlen := tok_len (E := E.drew) (n := 0) hid'
  have hle := E.drew_le.trans hle'
  generalize hE' : E.drew.newBuf id 0 f.size arr e 0 = E' at hle' hok' hle
  have hH' : E'.H = E.H.set id (.buf 0 f.size) := by rw [← hE']; rfl
  have run1 : (execOp a.eval o1).run P E.w = .ok (.value (.slice (some ⟨E.w.heap.size, 0, none⟩) m c)) E'.w := by
    unfold execOp
    rw [p1]
    simp only
    refine (run_builtin (c := ⟨.builtin .append, #[.tmp x, .tmp y], #[t, u]⟩) (a := a) (E := E) (P := P) (xs := [.tmp x, .tmp y]) (ts := [t, u]) (ty := o1.type) rfl rfl rfl (s := Builtin.append_ #[t, u] o1.type #[a.eval (.tmp x), a.eval (.tmp y)]) rfl).trans ?_
    have hc6' : (choose (.appendCap m 0 e)).run P E.w = .ok c E.drew.w := hc6
    have n0 : ¬ (m : Int) < 0 := by omega
    have n1 : ¬ (m : Int) * f.bytes > 2 ^ 48 := by omega
    have n2 : ¬ m ≤ 0 := by omega
    have n3 : ¬ ((m : Nat) : Int) > IntKind.i64.max := by
      have e1 : IntKind.i64.max = 9223372036854775807 := by decide
      have e2 : maxLen = 9223372036854775807 := by decide
      rw [e1]; omega
    have n4 : ¬ Builtin.nextslicecap m 0 * f.bytes > 2 ^ 48 := by
      have := nextslicecap_le m 0 (by omega)
      have := Nat.mul_le_mul_right f.bytes this
      rw [Nat.mul_assoc] at this
      have hb : m * f.bytes ≤ 2 ^ 47 := by exact_mod_cast hnb
      omega
    have n5 : ¬ m * f.size = 0 := by
      intro h0
      rcases Nat.mul_eq_zero.1 h0 with h0 | h0 <;> omega
    have hfirst : (Builtin.firstCells f.size 0 (.slice adx 0 0)).run P E.drew.w = .ok #[] E.drew.w := by
      cases adx <;> simp only [Builtin.firstCells, Nat.zero_mul, loadCells, loadCellsFrom, Sem.run_pure]
    have hai : (asInt (.int .i64 (m : Int))).run P E.w = .ok (m : Int) E.w := rfl
    simp only [Builtin.append_, List.getElem?_toArray, List.getElem?_cons_zero, List.getElem?_cons_succ, Sem.run_bind, run_under h1, run_size h4, run_under hue, Result.andThen_ok, Sem.run_pure, vx', vy', hai, hw, n0, n1, n2, n3, n4, n5, if_true, if_false, run_tinfo h4,
      Int.toNat_natCast, Nat.zero_add, Bool.not_true, Bool.false_eq_true, run_zero h4 h6, hc6', run_ask, hfirst, Go.newRow, run_newObj, false_and]
    rw [← hE']
    rfl
  have hb : E'.tb id = some E.w.heap.size := by rw [← hE']; simp [Env.newBuf, Env.drew]
  have hk : E'.κ E.w.heap.size = .buf 0 arr.size := by rw [← hE']; simp only [Env.newBuf]; exact if_pos rfl
  have rel0 : VRel E'.view (.slice (some ⟨E.w.heap.size, 0, none⟩) 0 c) (.slice [] (.tok id)) := by
    refine .slice _ 0 c f.size [] _ (fun _ _ => undef) rfl (Nat.zero_le _) hcm (fun i h => absurd h (by simp)) (fun i j h => absurd h (by omega)) (fun i j h => absurd h (by simp)) ⟨⟨.buf 0 f.size, by rw [hH']; exact List.getElem?_set_self hlen, by simp⟩, fun t' ht' => ?_⟩
    have hg : E'.H[id]? = some (.buf 0 f.size) := by rw [hH']; exact List.getElem?_set_self hlen
    simp only [Env.view, hg, hb, hk, Option.bind_some, Option.some.injEq] at ht'
    subst ht'
    refine ⟨Nat.le_refl _, fun _ => .inr ⟨E.w.heap.size, 0, arr.size, 0, rfl, rfl, by simp, by rw [harr]; simp⟩⟩
  refine wpList_cons (wanted_none g1) ?_
  unfold Oper.wp
  rw [run1]
  show wpList P ops _ _ (a.put o1.dst _) E'.w
  rw [e1]
  have ht1 : TRel E'.view N (a.put (some d1) (.slice (some ⟨E.w.heap.size, 0, none⟩) m c)) (upd T d1 .junk) := (ht.mono hle.view).put (some d1) (.junk _)
  obtain ⟨E2, v2, r2, le2, ok2, hH2, rel2⟩ := aop_sound (o := o2) (P := P) hok' ht1 (by rw [p2]; simp [okOp, Op.operands, okOpnd, q7]) (mt := false) (fresh := 0) (v := .slice [] .full) (eff := none) (by rw [p2]; simp only [aop, aev, upd, if_neg q4, hs]) (by intro ob h; cases h)
  have ht2 := ((ht1.mono le2.view).put (some d2) rel2)
  obtain ⟨E3, v3, r3, le3, ok3, hH3, rel3⟩ := aop_sound (o := o3) (P := P) ok2 ht2 (by rw [p3]; simp [okOp, Op.operands, Call.operands, okOpnd, q9]) (mt := false) (fresh := 0) (v := .int .i64 0) (eff := none) (by rw [p3]; simp [aop, abuiltin, aev, updO, upd, hte]) (by intro ob h; cases h)
  have ht3 := ((ht2.mono le3.view).put (some d3) rel3)
  have key : ∀ (o : Oper) (E1 E2 : Env) (a : Act) (v : Value) (d : Nat) (l : List Oper) (Q2 : Exit → Act → World → Prop), o.guard = none → o.dst = some d → ((execOp a.eval o).run P E1.w = .ok (.value v) E2.w ∨ ((execOp a.eval o).run P E1.w = .ok .skip E2.w ∧ v = undef)) → wpList P ops Q2 l (a.put (some d) v) E2.w → wpList P ops Q2 (o :: l) a E1.w := by
    intro o E1 E2 a v d l Q2 hg hd hr hn
    refine wpList_cons (wanted_none hg) ?_
    unfold Oper.wp
    rcases hr with hr | ⟨hr, rfl⟩
    · rw [hr]; show wpList P ops _ _ (a.put o.dst _) _; rw [hd]; exact hn
    · rw [hr]; show wpList P ops _ _ (a.put o.dst _) _; rw [hd]; exact hn
  refine key o2 E' E2 _ v2 d2 _ _ g2 e2 r2 ?_
  refine key o3 E2 E3 _ v3 d3 _ _ g3 e3 r3 ?_
  have hv3 : v3 = .int .i64 0 := rel3.int_inv
  have hsz3 := ht3.size
  have gd1 : ∀ (b : Act) (d : Nat) (v : Value), d < b.tmps.size → (b.put (some d) v).tmps.getD d undef = v := fun b d v h => by
    simp only [Act.put]
    rw [Array.getD_eq_getD_getElem?, Array.getElem?_setIfInBounds_self_of_lt h]; rfl
  have gd2 : ∀ (b : Act) (d d' : Nat) (v : Value), d ≠ d' → (b.put (some d) v).tmps.getD d' undef = b.tmps.getD d' undef := fun b d d' v h => by
    simp only [Act.put]
    rw [Array.getD_eq_getD_getElem?, Array.getElem?_setIfInBounds_ne h, ← Array.getD_eq_getD_getElem?]
  have run4 : (execOp (Act.eval (((a.put (some d1) (.slice (some ⟨E.w.heap.size, 0, none⟩) m c)).put (some d2) v2).put (some d3) v3)) o4).run P E3.w = .ok (.value (.slice (some ⟨E.w.heap.size, 0, none⟩) 0 c)) E3.w := by
    unfold execOp
    rw [p4]
    have f1 : (((a.put (some d1) (.slice (some ⟨E.w.heap.size, 0, none⟩) m c)).put (some d2) v2).put (some d3) v3).eval (.tmp d1) = .slice (some ⟨E.w.heap.size, 0, none⟩) m c := by
      show Array.getD _ d1 undef = _
      rw [gd2 _ _ _ _ (Ne.symm q2), gd2 _ _ _ _ (Ne.symm q1), gd1 _ _ _ (by rw [ht.size]; exact q8)]
    have f2 : (((a.put (some d1) (.slice (some ⟨E.w.heap.size, 0, none⟩) m c)).put (some d2) v2).put (some d3) v3).eval (.tmp d3) = .int .i64 0 := by
      show Array.getD _ d3 undef = _
      rw [gd1 _ _ _ (by rw [ht2.size]; exact q10), hv3]
    simp only [Option.map_none, Option.map_some, f1, f2]
    have hb0 : (Instr.sliceBounds true m c none (some (.int .i64 0)) none).run P E3.w = .ok (0, 0, c) E3.w := by
      simp [Instr.sliceBounds, Instr.sliceBound, asInt, asIntOf, Sem.run_bind]
    simp only [Instr.sliceAt, Instr.slice, Sem.run_bind, run_under h1, Result.andThen_ok, hb0, run_size h4, Sem.run_pure, Nat.sub_zero, Nat.sub_self]
    have ha0 : ∀ ad : Addr, ad.add 0 = ad := add_zero'
    split <;> simp [ha0]
  refine key o4 E3 E3 _ _ d4 _ _ g4 e4 (.inl run4) ?_
  have ht4 := ht3.put (some d4) ((rel0.mono le2.view).mono le3.view)
  have hfin := h E3 _ ok3 (by rw [hH3, hH2]; exact hH') ht4
  exact wpList_mono (fun e a w hl => lift_mono (((hle.trans le2).trans le3).leN nb) (fun _ _ _ q => q) hl) l _ _ hfin
end
end Go.Abs
set_option maxRecDepth 4000
namespace Go.Abs
open Go.Proofs

theorem bel_nilfull (n : Nat) : Bel n (.slice [] .full) := .slice _ _ (by simp) (by simp)
theorem nilAll (n : Nat) : (∀ e : PV, e ∈ ([] : List PV) → e.cells.length = n) = True := by simp
theorem wrap00 : IntKind.i64.wrap 0 = 0 := by decide
theorem bel_Ty_tok {n id : Nat} (us : List Ty) (h : id < n) : Bel n (.slice (us.map Ty.enc) (.tok id)) := by
  have := bel_slice_ty n us
  cases this with
  | slice _ _ h1 h2 => exact .slice _ _ h1 (fun _ e => by cases e; exact h)
theorem bel_Int_tok {n id : Nat} (us : List Int) (h : id < n) : Bel n (.slice (us.map vint) (.tok id)) := bel_ints n us _ (fun _ e => by cases e; exact h)
theorem bel_rows_Ty (n : Nat) (us : List (List Ty)) : Bel n (.slice (us.map fun l : List Ty => PV.slice (l.map Ty.enc) .none) .none) := bel_Row n us
theorem bel_rows_Int (n : Nat) (us : List (List Int)) : Bel n (.slice (us.map fun l : List Int => PV.slice (l.map vint) .none) .none) := .slice _ _ (fun e he c hc => by
  obtain ⟨r, _, rfl⟩ := List.mem_map.1 he
  simp [PV.cells] at hc
  subst hc; exact bel_ints0 _ _) (by simp)
theorem sum_take_succ {α : Type} (f : α → Nat) {xs : List α} {i : Nat} (hi : i < xs.length) : ((xs.take (i + 1)).map f).sum = ((xs.take i).map f).sum + f xs[i] := by
  rw [List.take_succ_eq_append_getElem hi, List.map_append, List.sum_append]; simp
theorem sum_take_le {α : Type} (f : α → Nat) : ∀ (xs : List α) (i : Nat), ((xs.take i).map f).sum ≤ (xs.map f).sum
  | [], i => by simp
  | x :: xs, 0 => by simp
  | x :: xs, i + 1 => by have := sum_take_le f xs i; simp only [List.take_succ_cons, List.map_cons, List.sum_cons]; omega
theorem aapp_nil (i : TI) (fr : Nat) (H : Heap) (es : List PV) (tl tl2 : Tail) : aappend i fr H (.slice es tl) (.slice [] tl2) = some (.slice es tl, none) := by unfold aappend; simp
theorem aapp_list {i : TI} {fr : Nat} {H : Heap} {es xs : List PV} {id : Nat} {tl : Tail} (hH : H[id]? = some (.buf es.length i.sz)) (hne : xs ≠ []) (hb : (es.length + xs.length) * i.bytes ≤ 2 ^ 47) (hm : es.length + xs.length ≤ maxLen)
    (he : ∀ e ∈ es, e.cells.length = i.sz) (hx : ∀ e ∈ xs, e.cells.length = i.sz ∧ e.cells.all PV.isCell = true) (hs : 0 < i.sz) :
    aappend i fr H (.slice es (.tok id)) (.slice xs tl) = some (.slice (es ++ xs) (.tok id), some (id, .buf (es.length + xs.length) i.sz)) := by
  unfold aappend
  simp only [if_neg hne]
  rw [if_pos ⟨hb, hm, he, hx, hs⟩]
  simp only [hH, and_self, if_true]
theorem app_Tys {us vs : List Ty} {id : Nat} {tl : Tail} (hne : vs ≠ []) (hb : (us.length + vs.length) * 40 ≤ 2 ^ 47) (fresh : Nat) (H : Heap) (hH : H[id]? = some (.buf us.length 3)) :
    aappend ⟨true, 3, 40⟩ fresh H (.slice (us.map Ty.enc) (.tok id)) (.slice (vs.map Ty.enc) tl) = some (.slice ((us ++ vs).map Ty.enc) (.tok id), some (id, .buf (us.length + vs.length) 3)) := by
  have em : maxLen = 9223372036854775807 := by decide
  have := aapp_list (i := ⟨true, 3, 40⟩) (fr := fresh) (H := H) (es := us.map Ty.enc) (xs := vs.map Ty.enc) (id := id) (tl := tl) (by simpa using hH) (by simpa using hne) (by simpa using hb) (by simp; omega) (fun e he => by obtain ⟨v, _, rfl⟩ := List.mem_map.1 he; exact v.enc_len)
    (fun e he => by obtain ⟨v, _, rfl⟩ := List.mem_map.1 he; exact ⟨v.enc_len, by rw [Ty.enc_cells]; rfl⟩) (by decide)
  simpa using this
theorem app_Ints {us vs : List Int} {id : Nat} {tl : Tail} (hne : vs ≠ []) (hb : (us.length + vs.length) * 8 ≤ 2 ^ 47) (fresh : Nat) (H : Heap) (hH : H[id]? = some (.buf us.length 1)) :
    aappend ⟨false, 1, 8⟩ fresh H (.slice (us.map vint) (.tok id)) (.slice (vs.map vint) tl) = some (.slice ((us ++ vs).map vint) (.tok id), some (id, .buf (us.length + vs.length) 1)) := by
  have em : maxLen = 9223372036854775807 := by decide
  have := aapp_list (i := ⟨false, 1, 8⟩) (fr := fresh) (H := H) (es := us.map vint) (xs := vs.map vint) (id := id) (tl := tl) (by simpa using hH) (by simpa using hne) (by simpa using hb) (by simp; omega) (fun e he => by obtain ⟨v, _, rfl⟩ := List.mem_map.1 he; rfl)
    (fun e he => by obtain ⟨v, _, rfl⟩ := List.mem_map.1 he; exact ⟨rfl, rfl⟩) (by decide)
  simpa using this

theorem growTy (H : Heap) (id : Nat) (n : Int) (hid : H[id]? = some .unborn) (h0 : 0 ≤ n) (hb : n * 40 ≤ 2 ^ 47) : ACalls Try.prog 62 [.slice [] .full, vint n] H fun r' H' => r' = .slice [] (.tok id) ∧ H' = H.set id (.buf 0 3) := by
  have em : maxLen = 9223372036854775807 := by decide
  have hm : n ≤ maxLen := by omega
  have hn0 : IntKind.i64.wrap (n - 0) = n := by rw [wrap_id (by omega) (by omega)]; omega
  have hneg : decide (n < 0) = false := decide_eq_false (by omega)
  refine acalls_of (N := 27) Try.func62 rfl rfl (by simp) fun hb' => ?_
  repeat (refine awp_seq ?_)
  refine e_eval (by simp only [jA, jO, jN, seval, vint, qD] <;> with_reducible rfl) (by decide) ?_
  repeat (refine awp_seq ?_)
  refine e_eval (by simp only [jA, jO, jN, seval, y3, vint, qD] <;> with_reducible rfl) (by decide) ?_
  repeat (refine awp_seq ?_)
  refine awp_cond_false rfl (by simp only [jN, seval, vint, qD, hneg] <;> with_reducible rfl) ?_
  repeat (refine awp_seq ?_)
  refine awp_skip ?_
  repeat (refine awp_seq ?_)
  refine awp_region ?_
  refine e_take 2 (by simp only [jA, jO, jN, seval, vint, qD, List.length_nil, Int.sub_self, wrap00, hn0, Int.ofNat_zero, Int.natCast_zero] <;> with_reducible rfl) (by decide) ?_
  refine aops_cap (es := []) rfl (by simp only [jC, jN, seval, vint, qD] <;> rfl) rfl (by decide) (by rw [Tryte25]; rfl) ?_
  refine e_end (by simp only [jA, jO, jN, seval, y3, y25, y42, vint, qD, List.length_nil, Int.sub_self, wrap00, hn0, Int.ofNat_zero, Int.natCast_zero] <;> with_reducible rfl) (by decide) ?_
  repeat (refine awp_seq ?_)
  refine e_eval (by simp only [jA, jO, jN, seval, y3, vint, qD] <;> with_reducible rfl) (by decide) ?_
  repeat (refine awp_seq ?_)
  refine awp_cond rfl (by simp only [jN, seval, vint, qD] <;> with_reducible rfl) (fun bt16 => ?_) (fun bt16 => ?_)
  ·
    have hpos : 0 < n := by simpa using bt16
    repeat (refine awp_seq ?_)
    refine awp_region ?_
    refine e_take 2 (by simp only [jA, jO, jN, seval, vint, qD, hn0] <;> with_reducible rfl) (by decide) ?_
    refine aops_cap (es := []) rfl (by simp only [jC, jN, seval, vint, qD] <;> rfl) rfl (by decide) (by rw [Tryte25]; rfl) ?_
    refine e_take 2 (by simp only [jA, jO, jN, seval, y25, y42, vint, qD, hn0, nilAll, List.take_nil, List.drop_nil, List.length_nil] <;> with_reducible rfl) (by decide) ?_
    refine aops_grow id hid rfl rfl rfl rfl rfl rfl rfl rfl rfl rfl rfl rfl (by decide) (by simp only [jC, jN, seval, vint, qD] <;> rfl) (by simp only [jC, jN, seval, vint, qD] <;> rfl) (by simp only [jC, jN, seval, vint, qD] <;> rfl) hpos hb hm Tryte25 Trytk3 Trytz42 (by rfl) (by decide) ?_
    refine e_end (by simp only [jA, jO, jN, seval, vint, qD, hn0] <;> with_reducible rfl) (by decide) ?_
    refine awp_sel [0] (by simp only [jN, seval, vint, qD] <;> with_reducible rfl) ?_
    repeat (refine awp_seq ?_)
    refine e_eval (by simp only [jA, jO, jN, seval, vint, qD] <;> with_reducible rfl) (by decide) ?_
    repeat (refine awp_seq ?_)
    refine awp_ret ⟨.inr rfl, _, rfl, ?_⟩
    exact ⟨rfl, rfl⟩
  ·
    have hz : n = 0 := by simp at bt16; omega
    refine awp_retokF id 0 3 (es := []) hid (by simp only [jC, jN, seval, vint, qD] <;> rfl) ?_
    repeat (refine awp_seq ?_)
    refine awp_skip ?_
    repeat (refine awp_seq ?_)
    refine e_eval (by simp only [jA, jO, jN, seval, vint, qD] <;> with_reducible rfl) (by decide) ?_
    repeat (refine awp_seq ?_)
    refine awp_ret ⟨.inr rfl, _, rfl, ?_⟩
    exact ⟨rfl, rfl⟩

theorem concatTy (xs : List (List Ty)) (hl : xs.length ≤ maxLen) (hb : ((xs.map List.length).sum : Nat) * 40 ≤ 2 ^ 47) : PC Try.prog 54 [.slice (xs.map fun l : List Ty => PV.slice (l.map Ty.enc) .none) .none] (.slice (xs.flatten.map Ty.enc) .none) := by
  have em : maxLen = 9223372036854775807 := by decide
  refine pc_of (N := 36) Try.func54 rfl rfl (by simp) (by simp [bel_rows_Ty]) (bel_Ty _ _) ?_
  repeat (refine awp_seq ?_)
  refine e_eval (by simp only [jA, jO, jN, seval, vint, qD] <;> with_reducible rfl) (by decide) ?_
  repeat (refine awp_seq ?_)
  refine e_eval (by simp only [jA, jO, jN, seval, vint, qD] <;> with_reducible rfl) (by decide) ?_
  repeat (refine awp_seq ?_)
  refine e_eval (by simp only [jA, jO, jN, seval, y24, y25, vint, qD] <;> with_reducible rfl) (by decide) ?_
  repeat (refine awp_seq ?_)
  refine awp_forS (σ := Int) (xs.length) (fun (s : Int) => [(0, .slice (xs.map fun l : List Ty => PV.slice (l.map Ty.enc) .none) .none), (3, vint s), (9, .slice (xs.map fun l : List Ty => PV.slice (l.map Ty.enc) .none) .none)]) [0, 3, 9] ([]) (fun (s : Int) => []) (fun (i : Nat) (s : Int) => s = (((xs.take i).map List.length).sum : Nat)) (0) ([]) rfl rfl rfl rfl rfl rfl rfl rfl rfl (by decide) (by decide) (by decide) (fun _ => rfl) (hl) ⟨(by first | rfl | (simp only [jN, seval, vint, qD] <;> first | done | with_reducible rfl)), (by first | rfl | (simp only [jN, seval, vint, qD] <;> first | done | with_reducible rfl)), (by first | rfl | (simp only [jN, seval, vint, qD] <;> first | done | with_reducible rfl)), (by first | rfl | (simp only [jN, seval, vint, qD] <;> first | done | with_reducible rfl)), (by first | rfl | (simp only [jN, seval, vint, qD] <;> first | done | with_reducible rfl)), trivial⟩ (by first | rfl | (simp only [jN, seval, vint, qD] <;> first | done | with_reducible rfl)) (by simp) (fun _ _ _ => by first | exact Nat.zero_le _ | (simp only [List.length_append]; omega)) ?_ ?_ ?_
  · exact fun i s hg => ⟨hbel_nil _, .cons (bel_rows_Ty _ _) (.cons (.int _ _) (.cons (bel_rows_Ty _ _) .nil))⟩
  · intro i s hi hg
    have g1 := ix_nat hi
    have g2 := get_enc (fun l : List Ty => PV.slice (l.map Ty.enc) .none) hi
    have hst := sum_take_succ List.length hi
    have hle := sum_take_le List.length xs (i + 1)
    have hw1 : IntKind.i64.wrap (s + (xs[i].length : Int)) = s + (xs[i].length : Int) := wrap_id (by omega) (by omega)
    have hneg : decide (s + (xs[i].length : Int) < 0) = false := decide_eq_false (by omega)
    repeat (refine awp_seq ?_)
    refine e_eval (by simp only [jA, jO, jN, seval, y24, y25, y42, vint, qD, g1, g2, Int.toNat_natCast, hw1] <;> with_reducible rfl) (by decide) ?_
    repeat (refine awp_seq ?_)
    refine e_eval (by simp only [jA, jO, jN, seval, y3, y25, y42, vint, qD, g1, g2, Int.toNat_natCast, hw1] <;> with_reducible rfl) (by decide) ?_
    repeat (refine awp_seq ?_)
    refine e_eval (by simp only [jA, jO, jN, seval, y3, vint, qD, g1, g2, Int.toNat_natCast, hw1] <;> with_reducible rfl) (by decide) ?_
    repeat (refine awp_seq ?_)
    refine awp_cond_false rfl (by simp only [jN, seval, vint, qD, g1, g2, Int.toNat_natCast, hw1, hneg] <;> with_reducible rfl) ?_
    repeat (refine awp_seq ?_)
    refine awp_skip ?_
    exact ⟨⟨rfl, rfl, trivial⟩, s + (xs[i].length : Int), _, ⟨rfl, rfl, rfl, trivial⟩, by simp only [jN, seval, vint, qD] <;> rfl, by rw [hst, hg]; omega⟩
  · intro s hg
    rw [List.take_length] at hg
    have hs0 : 0 ≤ s := by omega
    have hsb : s * 40 ≤ 2 ^ 47 := by omega
    repeat (refine awp_seq ?_)
    refine awp_ext ?_
    refine awp_region ?_
    refine e_take 1 (by simp only [jA, jO, jN, seval, vint, qD] <;> with_reducible rfl) (by decide) ?_
    refine aops_callR (by simp only [jC, jN, seval, vint, qD] <;> with_reducible rfl) (by simp only [jC, jN, seval, vint, qD]) (by decide) Trygo62 (growTy _ 0 s rfl hs0 hsb) ?_
    rintro _ _ ⟨rfl, rfl⟩
    refine e_end (by simp only [jA, jO, jN, seval, vint, qD] <;> with_reducible rfl) (by decide) ?_
    repeat (refine awp_seq ?_)
    refine e_eval (by simp only [jA, jO, jN, seval, y24, y25, vint, qD] <;> with_reducible rfl) (by decide) ?_
    repeat (refine awp_seq ?_)
    refine awp_forS (σ := List (Ty)) (xs.length) (fun (q : List (Ty)) => [(6, .slice (q.map Ty.enc) (.tok 0)), (25, .slice (xs.map fun l : List Ty => PV.slice (l.map Ty.enc) .none) .none)]) [6, 25] ([]) (fun (q : List (Ty)) => [.buf q.length 3]) (fun (i : Nat) (q : List (Ty)) => q = (xs.take i).flatten) ([]) (_) rfl rfl rfl rfl rfl rfl rfl rfl rfl (by decide) (by decide) (by decide) (fun _ => rfl) (hl) ⟨(by first | rfl | (simp only [jN, seval, vint, qD] <;> first | done | with_reducible rfl)), (by first | rfl | (simp only [jN, seval, vint, qD] <;> first | done | with_reducible rfl)), (by first | rfl | (simp only [jN, seval, vint, qD] <;> first | done | with_reducible rfl)), (by first | rfl | (simp only [jN, seval, vint, qD] <;> first | done | with_reducible rfl)), trivial⟩ (by first | rfl | (simp only [jN, seval, vint, qD] <;> first | done | with_reducible rfl)) (by simp) (fun _ _ _ => by first | exact Nat.zero_le _ | (simp only [List.length_append]; omega)) ?_ ?_ ?_
    · exact fun i q hg => ⟨by simp only [List.nil_append]; repeat (first | exact hbel_nil _ | exact trivial | exact obel_row_nil _ | (refine HBel.cons ?_ ?_) | (refine obel_row_cons (by first | exact bel_nilfull _ | exact bel_Ty_tok _ (by simp) | exact bel_ints0 _ _ | exact bel_slice_ty _ _ | exact Ty.bel _ _ | exact bel_ty_tok _ (by simp) | exact bel_Dv _ _ | exact Dv.bel _ _ | exact bel_Dm _ _ | exact Dm.bel _ _ | exact bel_Row _ _ | exact bel_mE _ _ | exact bel_iptr _ _ | exact bel_iptr2 _ _ _ | exact bel_Row_tok _ (by simp) | exact Bel.int _ _ | exact Bel.bool _ | exact Bel.str _ | exact Bel.nilp | exact Bel.nilfn | exact Bel.optr _ _ (by simp) | exact bel_nil0 _ | exact bel_nil1 _ | exact bel_fn0 _ _ | assumption) ?_)), .cons (bel_Ty_tok _ (by simp)) (.cons (bel_rows_Ty _ _) .nil)⟩
    · intro i q hi hg
      have g1 := ix_nat hi
      have g2 := get_enc (fun l : List Ty => PV.slice (l.map Ty.enc) .none) hi
      have hst := sum_take_succ List.length hi
      have hle := sum_take_le List.length xs (i + 1)
      have hql : q.length = ((xs.take i).map List.length).sum := by rw [hg, List.length_flatten]
      have hfl : (xs.take (i + 1)).flatten = q ++ xs[i] := by rw [List.take_succ_eq_append_getElem hi, List.flatten_append, hg]; simp
      obtain ⟨r, hre⟩ : ∃ r, xs[i] = r := ⟨_, rfl⟩
      rw [hre] at g2 hst hfl
      repeat (refine awp_seq ?_)
      refine e_eval (by simp only [jA, jO, jN, seval, y24, y25, y42, vint, qD, g1, g2, Int.toNat_natCast] <;> with_reducible rfl) (by decide) ?_
      rcases Classical.em (r = []) with hr0 | hr0
      ·
        subst hr0
        repeat (refine awp_seq ?_)
        refine e_eval (by simp only [jA, jO, jN, seval, y25, y42, vint, qD, g1, g2, Int.toNat_natCast, List.map_nil, aapp_nil] <;> with_reducible rfl) (by decide) ?_
        exact ⟨⟨rfl, rfl, trivial⟩, q, _, ⟨rfl, rfl, trivial⟩, by simp only [jN, seval, vint, qD] <;> rfl, by rw [hfl]; simp⟩
      ·
        have happ := app_Tys (us := q) (vs := r) (id := 0) (tl := .none) hr0 (by rw [hql, ← hst]; exact Nat.le_trans (Nat.mul_le_mul_right _ hle) hb)
        repeat (refine awp_seq ?_)
        refine e_eval (by simp only [jA, jO, jN, seval, y25, y42, vint, qD, g1, g2, Int.toNat_natCast, happ] <;> with_reducible rfl) (by decide) ?_
        exact ⟨⟨rfl, rfl, trivial⟩, q ++ r, _, ⟨rfl, rfl, trivial⟩, by simp only [jN, seval, vint, qD, List.length_append] <;> rfl, hfl.symm⟩
    · intro q hg
      rw [List.take_length] at hg
      repeat (refine awp_seq ?_)
      refine e_eval (by simp only [jA, jO, jN, seval, vint, qD] <;> with_reducible rfl) (by decide) ?_
      repeat (refine awp_seq ?_)
      refine awp_ret ⟨.inr rfl, _, rfl, ?_⟩
      rw [← hg]; rfl

theorem growInt (H : Heap) (id : Nat) (n : Int) (hid : H[id]? = some .unborn) (h0 : 0 ≤ n) (hb : n * 8 ≤ 2 ^ 47) : ACalls Try.prog 61 [.slice [] .full, vint n] H fun r' H' => r' = .slice [] (.tok id) ∧ H' = H.set id (.buf 0 1) := by
  have em : maxLen = 9223372036854775807 := by decide
  have hm : n ≤ maxLen := by omega
  have hn0 : IntKind.i64.wrap (n - 0) = n := by rw [wrap_id (by omega) (by omega)]; omega
  have hneg : decide (n < 0) = false := decide_eq_false (by omega)
  refine acalls_of (N := 27) Try.func61 rfl rfl (by simp) fun hb' => ?_
  repeat (refine awp_seq ?_)
  refine e_eval (by simp only [jA, jO, jN, seval, vint, qD] <;> with_reducible rfl) (by decide) ?_
  repeat (refine awp_seq ?_)
  refine e_eval (by simp only [jA, jO, jN, seval, y3, vint, qD] <;> with_reducible rfl) (by decide) ?_
  repeat (refine awp_seq ?_)
  refine awp_cond_false rfl (by simp only [jN, seval, vint, qD, hneg] <;> with_reducible rfl) ?_
  repeat (refine awp_seq ?_)
  refine awp_skip ?_
  repeat (refine awp_seq ?_)
  refine awp_region ?_
  refine e_take 2 (by simp only [jA, jO, jN, seval, vint, qD, List.length_nil, Int.sub_self, wrap00, hn0, Int.ofNat_zero, Int.natCast_zero] <;> with_reducible rfl) (by decide) ?_
  refine aops_cap (es := []) rfl (by simp only [jC, jN, seval, vint, qD] <;> rfl) rfl (by decide) (by rw [Tryte23]; rfl) ?_
  refine e_end (by simp only [jA, jO, jN, seval, y3, y23, vint, qD, List.length_nil, Int.sub_self, wrap00, hn0, Int.ofNat_zero, Int.natCast_zero] <;> with_reducible rfl) (by decide) ?_
  repeat (refine awp_seq ?_)
  refine e_eval (by simp only [jA, jO, jN, seval, y3, vint, qD] <;> with_reducible rfl) (by decide) ?_
  repeat (refine awp_seq ?_)
  refine awp_cond rfl (by simp only [jN, seval, vint, qD] <;> with_reducible rfl) (fun bt16 => ?_) (fun bt16 => ?_)
  ·
    have hpos : 0 < n := by simpa using bt16
    repeat (refine awp_seq ?_)
    refine awp_region ?_
    refine e_take 2 (by simp only [jA, jO, jN, seval, vint, qD, hn0] <;> with_reducible rfl) (by decide) ?_
    refine aops_cap (es := []) rfl (by simp only [jC, jN, seval, vint, qD] <;> rfl) rfl (by decide) (by rw [Tryte23]; rfl) ?_
    refine e_take 2 (by simp only [jA, jO, jN, seval, y3, y23, vint, qD, hn0, nilAll, List.take_nil, List.drop_nil, List.length_nil] <;> with_reducible rfl) (by decide) ?_
    refine aops_grow id hid rfl rfl rfl rfl rfl rfl rfl rfl rfl rfl rfl rfl (by decide) (by simp only [jC, jN, seval, vint, qD] <;> rfl) (by simp only [jC, jN, seval, vint, qD] <;> rfl) (by simp only [jC, jN, seval, vint, qD] <;> rfl) hpos hb hm Tryte23 Trytk3 Trytz3 (by rfl) (by decide) ?_
    refine e_end (by simp only [jA, jO, jN, seval, vint, qD, hn0] <;> with_reducible rfl) (by decide) ?_
    refine awp_sel [0] (by simp only [jN, seval, vint, qD] <;> with_reducible rfl) ?_
    repeat (refine awp_seq ?_)
    refine e_eval (by simp only [jA, jO, jN, seval, vint, qD] <;> with_reducible rfl) (by decide) ?_
    repeat (refine awp_seq ?_)
    refine awp_ret ⟨.inr rfl, _, rfl, ?_⟩
    exact ⟨rfl, rfl⟩
  ·
    have hz : n = 0 := by simp at bt16; omega
    refine awp_retokF id 0 1 (es := []) hid (by simp only [jC, jN, seval, vint, qD] <;> rfl) ?_
    repeat (refine awp_seq ?_)
    refine awp_skip ?_
    repeat (refine awp_seq ?_)
    refine e_eval (by simp only [jA, jO, jN, seval, vint, qD] <;> with_reducible rfl) (by decide) ?_
    repeat (refine awp_seq ?_)
    refine awp_ret ⟨.inr rfl, _, rfl, ?_⟩
    exact ⟨rfl, rfl⟩

theorem concatInt (xs : List (List Int)) (hl : xs.length ≤ maxLen) (hb : ((xs.map List.length).sum : Nat) * 8 ≤ 2 ^ 47) : PC Try.prog 52 [.slice (xs.map fun l : List Int => PV.slice (l.map vint) .none) .none] (.slice (xs.flatten.map vint) .none) := by
  have em : maxLen = 9223372036854775807 := by decide
  refine pc_of (N := 36) Try.func52 rfl rfl (by simp) (by simp [bel_rows_Int]) (bel_Int _ _) ?_
  repeat (refine awp_seq ?_)
  refine e_eval (by simp only [jA, jO, jN, seval, vint, qD] <;> with_reducible rfl) (by decide) ?_
  repeat (refine awp_seq ?_)
  refine e_eval (by simp only [jA, jO, jN, seval, vint, qD] <;> with_reducible rfl) (by decide) ?_
  repeat (refine awp_seq ?_)
  refine e_eval (by simp only [jA, jO, jN, seval, y23, y82, vint, qD] <;> with_reducible rfl) (by decide) ?_
  repeat (refine awp_seq ?_)
  refine awp_forS (σ := Int) (xs.length) (fun (s : Int) => [(0, .slice (xs.map fun l : List Int => PV.slice (l.map vint) .none) .none), (3, vint s), (9, .slice (xs.map fun l : List Int => PV.slice (l.map vint) .none) .none)]) [0, 3, 9] ([]) (fun (s : Int) => []) (fun (i : Nat) (s : Int) => s = (((xs.take i).map List.length).sum : Nat)) (0) ([]) rfl rfl rfl rfl rfl rfl rfl rfl rfl (by decide) (by decide) (by decide) (fun _ => rfl) (hl) ⟨(by first | rfl | (simp only [jN, seval, vint, qD] <;> first | done | with_reducible rfl)), (by first | rfl | (simp only [jN, seval, vint, qD] <;> first | done | with_reducible rfl)), (by first | rfl | (simp only [jN, seval, vint, qD] <;> first | done | with_reducible rfl)), (by first | rfl | (simp only [jN, seval, vint, qD] <;> first | done | with_reducible rfl)), (by first | rfl | (simp only [jN, seval, vint, qD] <;> first | done | with_reducible rfl)), trivial⟩ (by first | rfl | (simp only [jN, seval, vint, qD] <;> first | done | with_reducible rfl)) (by simp) (fun _ _ _ => by first | exact Nat.zero_le _ | (simp only [List.length_append]; omega)) ?_ ?_ ?_
  · exact fun i s hg => ⟨hbel_nil _, .cons (bel_rows_Int _ _) (.cons (.int _ _) (.cons (bel_rows_Int _ _) .nil))⟩
  · intro i s hi hg
    have g1 := ix_nat hi
    have g2 := get_enc (fun l : List Int => PV.slice (l.map vint) .none) hi
    have hst := sum_take_succ List.length hi
    have hle := sum_take_le List.length xs (i + 1)
    have hw1 : IntKind.i64.wrap (s + (xs[i].length : Int)) = s + (xs[i].length : Int) := wrap_id (by omega) (by omega)
    have hneg : decide (s + (xs[i].length : Int) < 0) = false := decide_eq_false (by omega)
    repeat (refine awp_seq ?_)
    refine e_eval (by simp only [jA, jO, jN, seval, y3, y23, y82, vint, qD, g1, g2, Int.toNat_natCast, hw1] <;> with_reducible rfl) (by decide) ?_
    repeat (refine awp_seq ?_)
    refine e_eval (by simp only [jA, jO, jN, seval, y3, y23, vint, qD, g1, g2, Int.toNat_natCast, hw1] <;> with_reducible rfl) (by decide) ?_
    repeat (refine awp_seq ?_)
    refine e_eval (by simp only [jA, jO, jN, seval, y3, vint, qD, g1, g2, Int.toNat_natCast, hw1] <;> with_reducible rfl) (by decide) ?_
    repeat (refine awp_seq ?_)
    refine awp_cond_false rfl (by simp only [jN, seval, vint, qD, g1, g2, Int.toNat_natCast, hw1, hneg] <;> with_reducible rfl) ?_
    repeat (refine awp_seq ?_)
    refine awp_skip ?_
    exact ⟨⟨rfl, rfl, trivial⟩, s + (xs[i].length : Int), _, ⟨rfl, rfl, rfl, trivial⟩, by simp only [jN, seval, vint, qD] <;> rfl, by rw [hst, hg]; omega⟩
  · intro s hg
    rw [List.take_length] at hg
    have hs0 : 0 ≤ s := by omega
    have hsb : s * 8 ≤ 2 ^ 47 := by omega
    repeat (refine awp_seq ?_)
    refine awp_ext ?_
    refine awp_region ?_
    refine e_take 1 (by simp only [jA, jO, jN, seval, vint, qD] <;> with_reducible rfl) (by decide) ?_
    refine aops_callR (by simp only [jC, jN, seval, vint, qD] <;> with_reducible rfl) (by simp only [jC, jN, seval, vint, qD]) (by decide) Trygo61 (growInt _ 0 s rfl hs0 hsb) ?_
    rintro _ _ ⟨rfl, rfl⟩
    refine e_end (by simp only [jA, jO, jN, seval, vint, qD] <;> with_reducible rfl) (by decide) ?_
    repeat (refine awp_seq ?_)
    refine e_eval (by simp only [jA, jO, jN, seval, y23, y82, vint, qD] <;> with_reducible rfl) (by decide) ?_
    repeat (refine awp_seq ?_)
    refine awp_forS (σ := List (Int)) (xs.length) (fun (q : List (Int)) => [(6, .slice (q.map vint) (.tok 0)), (25, .slice (xs.map fun l : List Int => PV.slice (l.map vint) .none) .none)]) [6, 25] ([]) (fun (q : List (Int)) => [.buf q.length 1]) (fun (i : Nat) (q : List (Int)) => q = (xs.take i).flatten) ([]) (_) rfl rfl rfl rfl rfl rfl rfl rfl rfl (by decide) (by decide) (by decide) (fun _ => rfl) (hl) ⟨(by first | rfl | (simp only [jN, seval, vint, qD] <;> first | done | with_reducible rfl)), (by first | rfl | (simp only [jN, seval, vint, qD] <;> first | done | with_reducible rfl)), (by first | rfl | (simp only [jN, seval, vint, qD] <;> first | done | with_reducible rfl)), (by first | rfl | (simp only [jN, seval, vint, qD] <;> first | done | with_reducible rfl)), trivial⟩ (by first | rfl | (simp only [jN, seval, vint, qD] <;> first | done | with_reducible rfl)) (by simp) (fun _ _ _ => by first | exact Nat.zero_le _ | (simp only [List.length_append]; omega)) ?_ ?_ ?_
    · exact fun i q hg => ⟨by simp only [List.nil_append]; repeat (first | exact hbel_nil _ | exact trivial | exact obel_row_nil _ | (refine HBel.cons ?_ ?_) | (refine obel_row_cons (by first | exact bel_nilfull _ | exact bel_Int_tok _ (by simp) | exact bel_nilfull _ | exact bel_Ty_tok _ (by simp) | exact bel_ints0 _ _ | exact bel_slice_ty _ _ | exact Ty.bel _ _ | exact bel_ty_tok _ (by simp) | exact bel_Dv _ _ | exact Dv.bel _ _ | exact bel_Dm _ _ | exact Dm.bel _ _ | exact bel_Row _ _ | exact bel_mE _ _ | exact bel_iptr _ _ | exact bel_iptr2 _ _ _ | exact bel_Row_tok _ (by simp) | exact Bel.int _ _ | exact Bel.bool _ | exact Bel.str _ | exact Bel.nilp | exact Bel.nilfn | exact Bel.optr _ _ (by simp) | exact bel_nil0 _ | exact bel_nil1 _ | exact bel_fn0 _ _ | assumption) ?_)), .cons (bel_Int_tok _ (by simp)) (.cons (bel_rows_Int _ _) .nil)⟩
    · intro i q hi hg
      have g1 := ix_nat hi
      have g2 := get_enc (fun l : List Int => PV.slice (l.map vint) .none) hi
      have hst := sum_take_succ List.length hi
      have hle := sum_take_le List.length xs (i + 1)
      have hql : q.length = ((xs.take i).map List.length).sum := by rw [hg, List.length_flatten]
      have hfl : (xs.take (i + 1)).flatten = q ++ xs[i] := by rw [List.take_succ_eq_append_getElem hi, List.flatten_append, hg]; simp
      obtain ⟨r, hre⟩ : ∃ r, xs[i] = r := ⟨_, rfl⟩
      rw [hre] at g2 hst hfl
      repeat (refine awp_seq ?_)
      refine e_eval (by simp only [jA, jO, jN, seval, y3, y23, y82, vint, qD, g1, g2, Int.toNat_natCast] <;> with_reducible rfl) (by decide) ?_
      rcases Classical.em (r = []) with hr0 | hr0
      ·
        subst hr0
        repeat (refine awp_seq ?_)
        refine e_eval (by simp only [jA, jO, jN, seval, y3, y23, vint, qD, g1, g2, Int.toNat_natCast, List.map_nil, aapp_nil] <;> with_reducible rfl) (by decide) ?_
        exact ⟨⟨rfl, rfl, trivial⟩, q, _, ⟨rfl, rfl, trivial⟩, by simp only [jN, seval, vint, qD] <;> rfl, by rw [hfl]; simp⟩
      ·
        have happ := app_Ints (us := q) (vs := r) (id := 0) (tl := .none) hr0 (by rw [hql, ← hst]; exact Nat.le_trans (Nat.mul_le_mul_right _ hle) hb)
        repeat (refine awp_seq ?_)
        refine e_eval (by simp only [jA, jO, jN, seval, y3, y23, vint, qD, g1, g2, Int.toNat_natCast, happ] <;> with_reducible rfl) (by decide) ?_
        exact ⟨⟨rfl, rfl, trivial⟩, q ++ r, _, ⟨rfl, rfl, trivial⟩, by simp only [jN, seval, vint, qD, List.length_append] <;> rfl, hfl.symm⟩
    · intro q hg
      rw [List.take_length] at hg
      repeat (refine awp_seq ?_)
      refine e_eval (by simp only [jA, jO, jN, seval, vint, qD] <;> with_reducible rfl) (by decide) ?_
      repeat (refine awp_seq ?_)
      refine awp_ret ⟨.inr rfl, _, rfl, ?_⟩
      rw [← hg]; rfl

end Go.Abs
set_option maxRecDepth 4000
namespace Go.Abs
open Go.Proofs

theorem rep_wild (n : Nat) : List.replicate n (Ty.mk 0 0 []).enc = (List.replicate n wildP).map Ty.enc := by
  rw [List.map_replicate]; rfl
theorem take_map {α : Type} (f : α → PV) (l : List α) : List.take l.length (l.map f) = l.map f := by rw [← List.map_take, List.take_length]
theorem app_Row {us : List Row} {u : Row} {id : Nat} {tl : Tail} (hb : (us.length + 1) * 24 ≤ 2 ^ 47) (fresh : Nat) (H : Heap) (hH : H[id]? = some (.buf us.length 1)) :
    aappend ⟨false, 1, 24⟩ fresh H (.slice (us.map rowE) (.tok id)) (.slice [rowE u] tl) = some (.slice ((us ++ [u]).map rowE) (.tok id), some (id, .buf (us.length + 1) 1)) := by
  have em : maxLen = 9223372036854775807 := by decide
  rw [aappend_tok1 (n := us.length) hH (by simp) (by simpa using hb) (by simp; omega) (fun e he => by obtain ⟨v, _, rfl⟩ := List.mem_map.1 he; rfl) rfl rfl (by decide), List.map_append, List.length_map]; rfl
/-- Rows that have a first pattern. -/
def Heads (rows : List Row) : Prop := ∀ r ∈ rows, r ≠ []
theorem spec_take {rows : List Row} {k i : Int} {n j : Nat} (hj : j < rows.length) : spec (rows.take (j + 1)) k i n = spec (rows.take j) k i n ++ (specRow k i n rows[j]).toList := by
  unfold spec
  rw [List.take_succ_eq_append_getElem hj, List.filterMap_append]
  congr 1
theorem spec_length (rows : List Row) (k i : Int) (n : Nat) : (spec rows k i n).length ≤ rows.length := List.length_filterMap_le ..
theorem cons_take {rows : List Row} {j : Nat} (hj : j < rows.length) : cons (rows.take (j + 1)) = conAdd (cons (rows.take j)) rows[j] := by
  unfold cons
  rw [List.take_succ_eq_append_getElem hj, List.foldl_append]; rfl
theorem cons_length : ∀ (rows : List Row) (acc : List Ty), (rows.foldl conAdd acc).length ≤ acc.length + rows.length
  | [], acc => by simp
  | r :: rows, acc => by
    have ih := cons_length rows (conAdd acc r)
    have : (conAdd acc r).length ≤ acc.length + 1 := by
      cases r with
      | nil => simp [conAdd]
      | cons p r => rw [conAdd_cons]; split <;> simp
    simp only [List.foldl_cons, List.length_cons]; omega
theorem cons_W {rows : List Row} (h : ∀ r ∈ rows, ∀ u ∈ r, u.W) : ∀ u ∈ cons rows, u.W := fun u hu => by
  obtain ⟨_, r, hr⟩ := cons_mem hu
  exact h _ hr u (List.mem_cons_self ..)

theorem specialize (rows : List Row) (k i : Int) (n : Nat) (hl : rows.length * 24 ≤ 2 ^ 47) (hh : Heads rows) (hn : n * 40 ≤ 2 ^ 47) (hr : ∀ p r, p :: r ∈ rows → (n + r.length) * 40 ≤ 2 ^ 47 ∧ (p.args.length + r.length) * 40 ≤ 2 ^ 47) :
    PC Try.prog 53 [.slice (rows.map rowE) .none, vint k, vint i, vint n] (.slice ((spec rows k i n).map rowE) .none) := by
  have em : maxLen = 9223372036854775807 := by decide
  refine pc_of (N := 57) Try.func53 rfl rfl (by simp) (by simp [Ty.bel, bel_slice_ty, bel_ints0, bel_Dv, bel_Dm, Dv.bel, Dm.bel, bel_Row, Bel.int, bel_mE]) (bel_Row _ _) ?_
  repeat (refine awp_seq ?_)
  refine e_eval (by simp only [jA, jO, jN, seval, vint, qD] <;> with_reducible rfl) (by decide) ?_
  repeat (refine awp_seq ?_)
  refine e_eval (by simp only [jA, jO, jN, seval, vint, qD] <;> with_reducible rfl) (by decide) ?_
  repeat (refine awp_seq ?_)
  refine e_eval (by simp only [jA, jO, jN, seval, y24, y25, vint, qD] <;> with_reducible rfl) (by decide) ?_
  repeat (refine awp_seq ?_)
  refine awp_retok 9 1 (es := []) (by simp only [jC, jN, seval, vint, qD] <;> rfl) ?_
  refine awp_forS (σ := List Row) (rows.length) (fun (q : List Row) => [(1, vint k), (2, vint i), (3, vint n), (9, .slice (q.map rowE) (.tok 0)), (13, .slice (rows.map rowE) .none)]) [1, 2, 3, 9, 13] ([]) (fun (q : List Row) => [.buf q.length 1]) (fun (j : Nat) (q : List Row) => q = spec (rows.take j) k i n) ([]) (_) rfl rfl rfl rfl rfl rfl rfl rfl rfl (by decide) (by decide) (by decide) (fun _ => rfl) ((by omega)) ⟨(by first | rfl | (simp only [jN, seval, vint, qD] <;> first | done | with_reducible rfl)), (by first | rfl | (simp only [jN, seval, vint, qD] <;> first | done | with_reducible rfl)), (by first | rfl | (simp only [jN, seval, vint, qD] <;> first | done | with_reducible rfl)), (by first | rfl | (simp only [jN, seval, vint, qD] <;> first | done | with_reducible rfl)), (by first | rfl | (simp only [jN, seval, vint, qD] <;> first | done | with_reducible rfl)), (by first | rfl | (simp only [jN, seval, vint, qD] <;> first | done | with_reducible rfl)), (by first | rfl | (simp only [jN, seval, vint, qD] <;> first | done | with_reducible rfl)), trivial⟩ (by first | rfl | (simp only [jN, seval, vint, qD] <;> first | done | with_reducible rfl)) (by simp [spec]) (fun _ _ _ => by first | exact Nat.zero_le _ | (simp only [List.length_append]; omega)) ?_ ?_ ?_
  · exact fun j q hg => ⟨by simp only [List.nil_append]; repeat (first | exact hbel_nil _ | exact trivial | exact obel_row_nil _ | (refine HBel.cons ?_ ?_) | (refine obel_row_cons (by first | exact bel_nilfull _ | exact bel_Ty_tok _ (by simp) | exact bel_ints0 _ _ | exact bel_slice_ty _ _ | exact Ty.bel _ _ | exact bel_ty_tok _ (by simp) | exact bel_Dv _ _ | exact Dv.bel _ _ | exact bel_Dm _ _ | exact Dm.bel _ _ | exact bel_Row _ _ | exact bel_mE _ _ | exact bel_iptr _ _ | exact bel_iptr2 _ _ _ | exact bel_Row_tok _ (by simp) | exact Bel.int _ _ | exact Bel.bool _ | exact Bel.str _ | exact Bel.nilp | exact Bel.nilfn | exact Bel.optr _ _ (by simp) | exact bel_nil0 _ | exact bel_nil1 _ | exact bel_fn0 _ _ | assumption) ?_)), by repeat (first | exact BelL.nil | refine BelL.cons (by first | exact bel_nilfull _ | exact bel_Ty_tok _ (by simp) | exact bel_ints0 _ _ | exact bel_slice_ty _ _ | exact Ty.bel _ _ | exact bel_ty_tok _ (by simp) | exact bel_Dv _ _ | exact Dv.bel _ _ | exact bel_Dm _ _ | exact Dm.bel _ _ | exact bel_Row _ _ | exact bel_mE _ _ | exact bel_iptr _ _ | exact bel_iptr2 _ _ _ | exact bel_Row_tok _ (by simp) | exact Bel.int _ _ | exact Bel.bool _ | exact Bel.str _ | exact Bel.nilp | exact Bel.nilfn | exact Bel.optr _ _ (by simp) | exact bel_nil0 _ | exact bel_nil1 _ | exact bel_fn0 _ _ | assumption) ?_)⟩
  · intro j q hj hg
    have g1 := ix_nat hj
    have g2 := get_enc rowE hj
    have hst := spec_take (k := k) (i := i) (n := n) hj
    have hql : q.length ≤ j := by rw [hg]; exact Nat.le_trans (spec_length ..) (by rw [List.length_take]; omega)
    have hmem : rows[j] ∈ rows := List.getElem_mem hj
    have hne := hh _ hmem
    obtain ⟨r0, hre⟩ : ∃ r, rows[j] = r := ⟨_, rfl⟩
    rw [hre] at g2 hmem hne hst
    obtain ⟨p, r, rfl⟩ : ∃ p r, r0 = p :: r := by cases r0 with | nil => exact absurd rfl hne | cons p r => exact ⟨p, r, rfl⟩
    obtain ⟨hr1, hr2⟩ := hr p r hmem
    rw [specRow_cons] at hst
    have hc1 := concatTy [List.replicate n wildP, r] (by simp [em]) (by simpa using hr1)
    have hc2 := concatTy [p.args, r] (by simp [em]) (by simpa using hr2)
    have happ := fun u => app_Row (us := q) (u := u) (id := 0) (tl := .full) (by omega)
    have g3a : ((0 : Int) ≤ (n : Int)) = True := by simp
    have g3b : ((n : Int) * 40 ≤ 140737488355328) = True := eq_true (by omega)
    have g3c : ((n : Int) ≤ (maxLen : Int)) = True := eq_true (by rw [em]; omega)
    have g4 : (∀ e ∈ p.enc :: r.map Ty.enc, e.cells.length = 3) = True := eq_true fun e he => by
      rcases List.mem_cons.1 he with rfl | he
      · exact p.enc_len
      · obtain ⟨u, _, rfl⟩ := List.mem_map.1 he; exact u.enc_len
    have g5 : ((1 : Int) ≤ ((r.length + 1 : Nat) : Int)) = True := eq_true (by omega)
    have g6 : ((0 : Int) < ((r.length + 1 : Nat) : Int)) = True := eq_true (by omega)
    repeat (refine awp_seq ?_)
    refine e_eval (by simp only [jA, jO, jN, seval, y24, y25, y42, vint, qD, g1, g2, Int.toNat_natCast] <;> with_reducible rfl) (by decide) ?_
    repeat (refine awp_seq ?_)
    refine e_eval (by simp only [jA, jO, jN, seval, y25, y42, vint, qD, g1, g2, Int.toNat_natCast, List.map_cons, List.length_cons, List.length_map, g6, List.getElem?_cons_zero, Int.toNat_zero] <;> with_reducible rfl) (by decide) ?_
    repeat (refine awp_seq ?_)
    refine awp_block ?_
    repeat (refine awp_seq ?_)
    refine e_eval (by simp only [jA, jO, jN, seval, y3, y42, vint, qD, g1, g2, Int.toNat_natCast] <;> with_reducible rfl) (by decide) ?_
    repeat (refine awp_seq ?_)
    refine awp_cond rfl (by simp only [jN, seval, vint, qD, g1, g2, Int.toNat_natCast] <;> with_reducible rfl) (fun bt22 => ?_) (fun bt22 => ?_)
    ·
      have h0 : p.kind = 0 := by simpa using bt22
      rw [if_pos h0] at hst
      repeat (refine awp_seq ?_)
      refine x_draw 0 (n0 := 2) (by first | rfl | (simp only [List.length_append, List.length_cons, List.length_nil, Nat.reduceAdd, Nat.zero_add, g1, g2, Int.toNat_natCast, happ, g3a, g3b, g3c, Int.le_refl, g4, g5, rep_wild, take_map, List.map_cons, List.length_cons, List.length_map]; done)) (by kernel_rfl) ?_
      refine x1_take 6 (by first | rfl | (simp only [List.length_append, List.length_cons, List.length_nil, Nat.reduceAdd, Nat.zero_add, g1, g2, Int.toNat_natCast, happ, g3a, g3b, g3c, Int.le_refl, g4, g5, rep_wild, take_map, List.map_cons, List.length_cons, List.length_map]; done)) (by simp only [jP, jO, jN, seval, y24, y25, y42, jS, vint, qD, g1, g2, Int.toNat_natCast, happ, g3a, g3b, g3c, Int.le_refl, g4, g5, rep_wild, take_map, List.map_cons, List.length_cons, List.length_map] <;> with_reducible rfl) (by decide) (by decide) (by decide) ?_
      refine x1_keep (by first | rfl | (simp only [List.length_append, List.length_cons, List.length_nil, Nat.reduceAdd, Nat.zero_add, g1, g2, Int.toNat_natCast, happ, g3a, g3b, g3c, Int.le_refl, g4, g5, rep_wild, take_map, List.map_cons, List.length_cons, List.length_map]; done)) (by simp only [jE, jN, seval, vint, qD, g1, g2, Int.toNat_natCast, happ, g3a, g3b, g3c, Int.le_refl, g4, g5, rep_wild, take_map, List.map_cons, List.length_cons, List.length_map] <;> with_reducible rfl) (by simp only [jE, jN, seval, vint, qD, g1, g2, Int.toNat_natCast, happ, g3a, g3b, g3c, Int.le_refl, g4, g5, rep_wild, take_map, List.map_cons, List.length_cons, List.length_map] <;> with_reducible rfl) (by simp only [jE, jN, seval, vint, qD, g1, g2, Int.toNat_natCast, happ, g3a, g3b, g3c, Int.le_refl, g4, g5, rep_wild, take_map, List.map_cons, List.length_cons, List.length_map]) (by decide) Trygo54 (fun hc L => hc1 _) ?_
      refine x1_take 1 (by first | rfl | (simp only [List.length_append, List.length_cons, List.length_nil, Nat.reduceAdd, Nat.zero_add, g1, g2, Int.toNat_natCast, happ, g3a, g3b, g3c, Int.le_refl, g4, g5, rep_wild, take_map, List.map_cons, List.length_cons, List.length_map]; done)) (by simp only [jP, jO, jN, seval, y24, y25, vint, qD, g1, g2, Int.toNat_natCast, happ, g3a, g3b, g3c, Int.le_refl, g4, g5, rep_wild, take_map, List.map_cons, List.length_cons, List.length_map] <;> with_reducible rfl) (by decide) (by decide) (by decide) ?_
      refine x_mid (by first | (simp only [LS, HS, List.append_assoc, List.cons_append, List.nil_append, g1, g2, Int.toNat_natCast, happ, g3a, g3b, g3c, Int.le_refl, g4, g5, rep_wild, take_map, List.map_cons, List.length_cons, List.length_map] <;> with_reducible rfl) | rfl) ?_
      refine x2_end (bm := [0, 0, 2, 0, 8, 30, 62, 126, 255, 511]) (fresh := (2)) (by kernel_rfl) (by simp only [jX, jO, jN, seval, y24, y25, vint, qD, g1, g2, Int.toNat_natCast, happ, g3a, g3b, g3c, Int.le_refl, g4, g5, rep_wild, take_map, List.map_cons, List.length_cons, List.length_map] <;> with_reducible rfl) (by decide) (by repeat (first | exact Fin.base _ | with_reducible apply Fin.keep | apply Fin.drop)) ?_
      exact ⟨⟨rfl, rfl, trivial⟩, q ++ [List.replicate n wildP ++ r], _, ⟨rfl, rfl, rfl, by simp only [jN, seval, vint, qD, List.flatten_cons, List.flatten_nil, List.append_nil] <;> rfl, rfl, trivial⟩, by simp only [jN, seval, vint, qD, List.length_append, List.length_singleton] <;> rfl, by rw [hst, hg]; rfl⟩
    ·
      have h0 : ¬ p.kind = 0 := by simpa using bt22
      rw [if_neg h0] at hst
      repeat (refine awp_seq ?_)
      refine g_eval (by simp only [jG, jO, jN, seval, y3, y42, vint, qD, g1, g2, Int.toNat_natCast] <;> with_reducible rfl) (by decide) (by repeat (first | exact Fin.base _ | with_reducible apply Fin.keep | apply Fin.drop)) ?_
      repeat (refine awp_seq ?_)
      refine awp_cond rfl (by simp only [jN, seval, vint, qD, g1, g2, Int.toNat_natCast] <;> with_reducible rfl) (fun bt35 => ?_) (fun bt35 => ?_)
      ·
        have h1 : p.kind = k ∧ p.id = i := by simpa using bt35
        rw [if_pos h1] at hst
        refine awp_sel [1, 2, 3, 9, 11, 12, 13, 14, 15] (by simp only [jN, seval, vint, qD, g1, g2, Int.toNat_natCast] <;> with_reducible rfl) ?_
        repeat (refine awp_seq ?_)
        refine x_draw 0 (n0 := 2) (by first | rfl | (simp only [List.length_append, List.length_cons, List.length_nil, Nat.reduceAdd, Nat.zero_add, g1, g2, Int.toNat_natCast, happ, g4, g5, take_map, List.map_cons, List.length_cons, List.length_map]; done)) (by kernel_rfl) ?_
        refine x1_take 6 (by first | rfl | (simp only [List.length_append, List.length_cons, List.length_nil, Nat.reduceAdd, Nat.zero_add, g1, g2, Int.toNat_natCast, happ, g4, g5, take_map, List.map_cons, List.length_cons, List.length_map]; done)) (by simp only [jP, jO, jN, seval, y24, y25, y42, jS, vint, qD, g1, g2, Int.toNat_natCast, happ, g4, g5, take_map, List.map_cons, List.length_cons, List.length_map] <;> with_reducible rfl) (by decide) (by decide) (by decide) ?_
        refine x1_keep (by first | rfl | (simp only [List.length_append, List.length_cons, List.length_nil, Nat.reduceAdd, Nat.zero_add, g1, g2, Int.toNat_natCast, happ, g4, g5, take_map, List.map_cons, List.length_cons, List.length_map]; done)) (by simp only [jE, jN, seval, vint, qD, g1, g2, Int.toNat_natCast, happ, g4, g5, take_map, List.map_cons, List.length_cons, List.length_map] <;> with_reducible rfl) (by simp only [jE, jN, seval, vint, qD, g1, g2, Int.toNat_natCast, happ, g4, g5, take_map, List.map_cons, List.length_cons, List.length_map] <;> with_reducible rfl) (by simp only [jE, jN, seval, vint, qD, g1, g2, Int.toNat_natCast, happ, g4, g5, take_map, List.map_cons, List.length_cons, List.length_map]) (by decide) Trygo54 (fun hc L => hc2 _) ?_
        refine x1_take 1 (by first | rfl | (simp only [List.length_append, List.length_cons, List.length_nil, Nat.reduceAdd, Nat.zero_add, g1, g2, Int.toNat_natCast, happ, g4, g5, take_map, List.map_cons, List.length_cons, List.length_map]; done)) (by simp only [jP, jO, jN, seval, y24, y25, vint, qD, g1, g2, Int.toNat_natCast, happ, g4, g5, take_map, List.map_cons, List.length_cons, List.length_map] <;> with_reducible rfl) (by decide) (by decide) (by decide) ?_
        refine x_mid (by first | (simp only [LS, HS, List.append_assoc, List.cons_append, List.nil_append, g1, g2, Int.toNat_natCast, happ, g4, g5, take_map, List.map_cons, List.length_cons, List.length_map] <;> with_reducible rfl) | rfl) ?_
        refine x2_end (bm := [0, 0, 2, 0, 8, 30, 62, 126, 255, 511]) (fresh := (2)) (by kernel_rfl) (by simp only [jX, jO, jN, seval, y24, y25, vint, qD, g1, g2, Int.toNat_natCast, happ, g4, g5, take_map, List.map_cons, List.length_cons, List.length_map] <;> with_reducible rfl) (by decide) (by repeat (first | exact Fin.base _ | with_reducible apply Fin.keep | apply Fin.drop)) ?_
        exact ⟨⟨rfl, rfl, trivial⟩, q ++ [p.args ++ r], _, ⟨rfl, rfl, rfl, by simp only [jN, seval, vint, qD, List.flatten_cons, List.flatten_nil, List.append_nil] <;> rfl, rfl, trivial⟩, by simp only [jN, seval, vint, qD, List.length_append, List.length_singleton] <;> rfl, by rw [hst, hg]; rfl⟩
      ·
        have h1 : ¬ (p.kind = k ∧ p.id = i) := by simpa using bt35
        rw [if_neg h1] at hst
        repeat (refine awp_seq ?_)
        refine awp_skip ?_
        exact ⟨⟨rfl, rfl, trivial⟩, q, _, ⟨rfl, rfl, rfl, rfl, rfl, trivial⟩, by simp only [jN, seval, vint, qD] <;> rfl, by rw [hst, hg]; simp⟩
  · intro q hg
    rw [List.take_length] at hg
    repeat (refine awp_seq ?_)
    refine e_eval (by simp only [jA, jO, jN, seval, vint, qD] <;> with_reducible rfl) (by decide) ?_
    repeat (refine awp_seq ?_)
    refine awp_ret ⟨.inr rfl, _, rfl, ?_⟩
    rw [← hg]; rfl

theorem defaultRows (rows : List Row) (hl : rows.length * 24 ≤ 2 ^ 47) (hh : Heads rows) (hr : ∀ p r, p :: r ∈ rows → r.length * 40 ≤ 2 ^ 47 ∧ (p.args.length + r.length) * 40 ≤ 2 ^ 47) : PC Try.prog 50 [.slice (rows.map rowE) .none] (.slice ((spec rows (-1) 0 0).map rowE) .none) := by
  refine pc_of (N := 5) Try.func50 rfl rfl (by simp) (by simp [Ty.bel, bel_slice_ty, bel_ints0, bel_Dv, bel_Dm, Dv.bel, Dm.bel, bel_Row, Bel.int, bel_mE]) (bel_Row _ _) ?_
  repeat (refine awp_seq ?_)
  refine e_eval (by simp only [jA, jO, jN, seval, vint, qD] <;> with_reducible rfl) (by decide) ?_
  repeat (refine awp_seq ?_)
  refine awp_region ?_
  refine e_take 1 (by simp only [jA, jO, jN, seval, vint, qD] <;> with_reducible rfl) (by decide) ?_
  refine aops_pure (by simp only [jC, jN, seval, vint, qD] <;> with_reducible rfl) (by simp only [jC, jN, seval, vint, qD]) (by decide) Trygo53 (specialize rows (-1) 0 0 hl hh (by omega) (fun p r h => by have := hr p r h; omega) _) ?_
  refine e_end (by simp only [jA, jO, jN, seval, vint, qD] <;> with_reducible rfl) (by decide) ?_
  repeat (refine awp_seq ?_)
  refine awp_ret ⟨.inr rfl, _, rfl, ?_⟩
  simp only [jN, seval, vint, qD]

theorem cons1 (p : Ty) (H : Heap) (id : Nat) (h1 : H[id]? = some (.row p.enc.cells)) (q : Ty) : ACalls Try.prog 58 [q.enc, .optr id 0] H fun r' H' => r' = .bool (decide (q.id = p.id)) ∧ H' = H := by
  simp only [TyS] at h1
  have q1 : ∀ L, (H ++ L)[id]? = some (.row [.int .i64 p.kind, .int .i64 p.id, .slice (p.args.map Ty.enc) .none]) := fun L => by rw [List.getElem?_append_left (len_of_get h1)]; exact h1
  refine keeps_of (N := 9) Try.func58 rfl rfl (by simp) (.bool _) fun hb' => ?_
  repeat (refine awp_seq ?_)
  refine e_eval (by simp only [jA, jO, jN, seval, y42, vint, qD, q1] <;> with_reducible rfl) (by decide) ?_
  repeat (refine awp_seq ?_)
  refine e_eval (by simp only [jA, jO, jN, seval, y3, y42, vint, qD, q1] <;> with_reducible rfl) (by decide) ?_
  repeat (refine awp_seq ?_)
  refine awp_ret ⟨.inr rfl, _, _, rfl, ?_, (by first | exact (List.append_nil _).symm | rfl)⟩
  simp only [jN, seval, vint, qD]

theorem constructors (rows : List Row) (hl : rows.length * 40 ≤ 2 ^ 47) (hh : Heads rows) : PC Try.prog 48 [.slice (rows.map rowE) .none] (.slice ((cons rows).map Ty.enc) .none) := by
  have em : maxLen = 9223372036854775807 := by decide
  refine pc_of (N := 31) Try.func48 rfl rfl (by simp) (by simp [Ty.bel, bel_slice_ty, bel_ints0, bel_Dv, bel_Dm, Dv.bel, Dm.bel, bel_Row, Bel.int, bel_mE]) (bel_slice_ty _ _) ?_
  repeat (refine awp_seq ?_)
  refine e_eval (by simp only [jA, jO, jN, seval, vint, qD] <;> with_reducible rfl) (by decide) ?_
  repeat (refine awp_seq ?_)
  refine e_eval (by simp only [jA, jO, jN, seval, vint, qD] <;> with_reducible rfl) (by decide) ?_
  repeat (refine awp_seq ?_)
  refine e_eval (by simp only [jA, jO, jN, seval, y24, y25, vint, qD] <;> with_reducible rfl) (by decide) ?_
  repeat (refine awp_seq ?_)
  refine awp_retok 3 3 (es := []) (by simp only [jC, jN, seval, vint, qD] <;> rfl) ?_
  refine awp_forS (σ := List Ty) (rows.length) (fun (q : List Ty) => [(3, .slice (q.map Ty.enc) (.tok 0)), (7, .slice (rows.map rowE) .none)]) [3, 7] ([]) (fun (q : List Ty) => [.buf q.length 3]) (fun (j : Nat) (q : List Ty) => q = cons (rows.take j)) ([]) (_) rfl rfl rfl rfl rfl rfl rfl rfl rfl (by decide) (by decide) (by decide) (fun _ => rfl) ((by omega)) ⟨(by first | rfl | (simp only [jN, seval, vint, qD] <;> first | done | with_reducible rfl)), (by first | rfl | (simp only [jN, seval, vint, qD] <;> first | done | with_reducible rfl)), (by first | rfl | (simp only [jN, seval, vint, qD] <;> first | done | with_reducible rfl)), (by first | rfl | (simp only [jN, seval, vint, qD] <;> first | done | with_reducible rfl)), trivial⟩ (by first | rfl | (simp only [jN, seval, vint, qD] <;> first | done | with_reducible rfl)) (by simp [cons]) (fun _ _ _ => by first | exact Nat.zero_le _ | (simp only [List.length_append]; omega)) ?_ ?_ ?_
  · exact fun j q hg => ⟨by simp only [List.nil_append]; repeat (first | exact hbel_nil _ | exact trivial | exact obel_row_nil _ | (refine HBel.cons ?_ ?_) | (refine obel_row_cons (by first | exact bel_nilfull _ | exact bel_Ty_tok _ (by simp) | exact bel_ints0 _ _ | exact bel_slice_ty _ _ | exact Ty.bel _ _ | exact bel_ty_tok _ (by simp) | exact bel_Dv _ _ | exact Dv.bel _ _ | exact bel_Dm _ _ | exact Dm.bel _ _ | exact bel_Row _ _ | exact bel_mE _ _ | exact bel_iptr _ _ | exact bel_iptr2 _ _ _ | exact bel_Row_tok _ (by simp) | exact Bel.int _ _ | exact Bel.bool _ | exact Bel.str _ | exact Bel.nilp | exact Bel.nilfn | exact Bel.optr _ _ (by simp) | exact bel_nil0 _ | exact bel_nil1 _ | exact bel_fn0 _ _ | assumption) ?_)), by repeat (first | exact BelL.nil | refine BelL.cons (by first | exact bel_nilfull _ | exact bel_Ty_tok _ (by simp) | exact bel_ints0 _ _ | exact bel_slice_ty _ _ | exact Ty.bel _ _ | exact bel_ty_tok _ (by simp) | exact bel_Dv _ _ | exact Dv.bel _ _ | exact bel_Dm _ _ | exact Dm.bel _ _ | exact bel_Row _ _ | exact bel_mE _ _ | exact bel_iptr _ _ | exact bel_iptr2 _ _ _ | exact bel_Row_tok _ (by simp) | exact Bel.int _ _ | exact Bel.bool _ | exact Bel.str _ | exact Bel.nilp | exact Bel.nilfn | exact Bel.optr _ _ (by simp) | exact bel_nil0 _ | exact bel_nil1 _ | exact bel_fn0 _ _ | assumption) ?_)⟩
  · intro j q hj hg
    have g1 := ix_nat hj
    have g2 := get_enc rowE hj
    have hst := cons_take hj
    have hql : q.length ≤ j := by
      rw [hg]
      have := cons_length (rows.take j) []
      rw [List.length_take] at this
      simp only [List.length_nil] at this
      unfold cons; omega
    have hmem : rows[j] ∈ rows := List.getElem_mem hj
    have hne := hh _ hmem
    obtain ⟨r0, hre⟩ : ∃ r, rows[j] = r := ⟨_, rfl⟩
    rw [hre] at g2 hmem hne hst
    obtain ⟨p, r, rfl⟩ : ∃ p r, r0 = p :: r := by cases r0 with | nil => exact absurd rfl hne | cons p r => exact ⟨p, r, rfl⟩
    rw [conAdd_cons, ← hg] at hst
    have happ := app_ty (us := q) (u := p) (id := 0) (tl := .full) (by omega)
    have hqm : q.length ≤ maxLen := by omega
    have g6 : ((0 : Int) < ((r.length + 1 : Nat) : Int)) = True := eq_true (by omega)
    repeat (refine awp_seq ?_)
    refine e_eval (by simp only [jA, jO, jN, seval, y24, y25, y42, vint, qD, g1, g2, Int.toNat_natCast] <;> with_reducible rfl) (by decide) ?_
    repeat (refine awp_seq ?_)
    refine e_eval (by simp only [jA, jO, jN, seval, y25, y42, vint, qD, g1, g2, Int.toNat_natCast, List.map_cons, List.length_cons, List.length_map, g6, List.getElem?_cons_zero, Int.toNat_zero] <;> with_reducible rfl) (by decide) ?_
    repeat (refine awp_seq ?_)
    refine awp_region ?_
    refine aops_gstart ?_
    refine g_take 6 (by simp only [jG, jO, jN, seval, y3, y42, vint, qD, g1, g2, Int.toNat_natCast] <;> with_reducible rfl) (by decide) ?_
    refine aops_gpure (by simp only [jE, jN, seval, vint, qD, g1, g2, Int.toNat_natCast] <;> with_reducible rfl) (by simp only [jE, jN, seval, vint, qD, g1, g2, Int.toNat_natCast] <;> with_reducible rfl) (by simp only [jE, jN, seval, vint, qD, g1, g2, Int.toNat_natCast]) (by decide) Trygo55 (fun hc => containsFuncTy (p := fun q : Ty => decide (q.id = p.id)) ⟨Trygo58, by simp; exact .optr _ _ (by simp), fun u hu => cons1 p _ 1 (by simp only [TyS]; rfl) u⟩ hqm) ?_
    refine g_end (by simp only [jG, jO, jN, seval, vint, qD, g1, g2, Int.toNat_natCast] <;> with_reducible rfl) (by decide) (by repeat (first | exact Fin.base _ | with_reducible apply Fin.keep | apply Fin.drop)) ?_
    repeat (refine awp_seq ?_)
    refine awp_cond rfl (by simp only [jN, seval, vint, qD, g1, g2, Int.toNat_natCast] <;> with_reducible rfl) (fun bt24 => ?_) (fun bt24 => ?_)
    ·
      rw [bt24] at hst
      refine awp_sel [3, 6, 7, 8, 9] (by simp only [jN, seval, vint, qD, g1, g2, Int.toNat_natCast] <;> with_reducible rfl) ?_
      repeat (refine awp_seq ?_)
      refine e_eval (by simp only [jA, jO, jN, seval, y25, y42, vint, qD, g1, g2, Int.toNat_natCast, happ] <;> with_reducible rfl) (by decide) ?_
      exact ⟨⟨rfl, rfl, trivial⟩, q ++ [p], _, ⟨rfl, rfl, trivial⟩, by simp only [jN, seval, vint, qD, List.length_append, List.length_singleton] <;> rfl, by rw [hst]; rfl⟩
    ·
      rw [bt24] at hst
      repeat (refine awp_seq ?_)
      refine awp_skip ?_
      exact ⟨⟨rfl, rfl, trivial⟩, q, _, ⟨rfl, rfl, trivial⟩, by simp only [jN, seval, vint, qD] <;> rfl, by rw [hst]; rfl⟩
  · intro q hg
    rw [List.take_length] at hg
    repeat (refine awp_seq ?_)
    refine e_eval (by simp only [jA, jO, jN, seval, vint, qD] <;> with_reducible rfl) (by decide) ?_
    repeat (refine awp_seq ?_)
    refine awp_ret ⟨.inr rfl, _, rfl, ?_⟩
    rw [← hg]; rfl

end Go.Abs
