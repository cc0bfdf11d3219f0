/- Part 4 of a proof of the law NormalizeMatchesReference: Go data as trees, the walks of the functions that the law reaches, the plain laws. -/
import Derived.Test.YtmjoonaejldkhaaGCNormalizeMatchesReference
import Derived.Test.YtmjoonaejldkhaaProg
import Derived.KernelRfl
set_option linter.unusedVariables false
set_option linter.unusedSimpArgs false
namespace Go.Abs
open Go.Proofs
theorem Tryti2 : tinfo Try.prog 2 = some ⟨false, 1, 8⟩ := by kernel_rfl
theorem Trytz2 : tzero Try.prog 2 = some (.int .i64 0) := by kernel_rfl
theorem Trytp2 : tptr Try.prog 2 = false := by kernel_rfl
theorem Trytk2 : tint Try.prog 2 = some .i64 := by kernel_rfl
theorem Tryti3 : tinfo Try.prog 3 = some ⟨false, 1, 8⟩ := by kernel_rfl
theorem Trytz3 : tzero Try.prog 3 = some (.int .i64 0) := by kernel_rfl
theorem Trytp3 : tptr Try.prog 3 = false := by kernel_rfl
theorem Trytk3 : tint Try.prog 3 = some .i64 := by kernel_rfl
theorem Tryti4 : tinfo Try.prog 4 = some ⟨false, 1, 1⟩ := by kernel_rfl
theorem Trytz4 : tzero Try.prog 4 = some (.bool false) := by kernel_rfl
theorem Trytp4 : tptr Try.prog 4 = false := by kernel_rfl
theorem Trytb4 : tbool Try.prog 4 = true := by kernel_rfl
theorem Tryti5 : tinfo Try.prog 5 = some ⟨false, 1, 1⟩ := by kernel_rfl
theorem Trytz5 : tzero Try.prog 5 = some (.int .u8 0) := by kernel_rfl
theorem Trytp5 : tptr Try.prog 5 = false := by kernel_rfl
theorem Trytk5 : tint Try.prog 5 = some .u8 := by kernel_rfl
theorem Tryti6 : tinfo Try.prog 6 = some ⟨false, 1, 1⟩ := by kernel_rfl
theorem Trytz6 : tzero Try.prog 6 = some (.int .u8 0) := by kernel_rfl
theorem Trytp6 : tptr Try.prog 6 = false := by kernel_rfl
theorem Trytk6 : tint Try.prog 6 = some .u8 := by kernel_rfl
theorem Tryti7 : tinfo Try.prog 7 = some ⟨true, 4, 24⟩ := by kernel_rfl
theorem Trytf7 : tflds Try.prog 7 = some [(0, ⟨false, 1, 8⟩), (1, ⟨false, 1, 8⟩), (2, ⟨false, 1, 1⟩), (3, ⟨false, 1, 1⟩)] := by kernel_rfl
theorem Trytz7 : tzero Try.prog 7 = some (.agg [.int .i64 0, .int .i64 0, .bool false, .int .u8 0]) := by kernel_rfl
theorem Trytp7 : tptr Try.prog 7 = false := by kernel_rfl
theorem Tryti8 : tinfo Try.prog 8 = some ⟨true, 4, 24⟩ := by kernel_rfl
theorem Trytf8 : tflds Try.prog 8 = some [(0, ⟨false, 1, 8⟩), (1, ⟨false, 1, 8⟩), (2, ⟨false, 1, 1⟩), (3, ⟨false, 1, 1⟩)] := by kernel_rfl
theorem Trytz8 : tzero Try.prog 8 = some (.agg [.int .i64 0, .int .i64 0, .bool false, .int .u8 0]) := by kernel_rfl
theorem Trytp8 : tptr Try.prog 8 = false := by kernel_rfl
theorem Tryti9 : tinfo Try.prog 9 = some ⟨false, 1, 16⟩ := by kernel_rfl
theorem Trytz9 : tzero Try.prog 9 = some (.str []) := by kernel_rfl
theorem Trytp9 : tptr Try.prog 9 = false := by kernel_rfl
theorem Tryts9 : tstr Try.prog 9 = true := by kernel_rfl
theorem Tryti10 : tinfo Try.prog 10 = some ⟨false, 1, 16⟩ := by kernel_rfl
theorem Trytz10 : tzero Try.prog 10 = some (.str []) := by kernel_rfl
theorem Trytp10 : tptr Try.prog 10 = false := by kernel_rfl
theorem Tryts10 : tstr Try.prog 10 = true := by kernel_rfl
theorem Tryti11 : tinfo Try.prog 11 = some ⟨false, 1, 16⟩ := by kernel_rfl
theorem Trytz11 : tzero Try.prog 11 = some (.str []) := by kernel_rfl
theorem Trytp11 : tptr Try.prog 11 = false := by kernel_rfl
theorem Tryts11 : tstr Try.prog 11 = true := by kernel_rfl
theorem Tryti12 : tinfo Try.prog 12 = some ⟨false, 1, 8⟩ := by kernel_rfl
theorem Trytz12 : tzero Try.prog 12 = some (.int .u64 0) := by kernel_rfl
theorem Trytp12 : tptr Try.prog 12 = false := by kernel_rfl
theorem Trytk12 : tint Try.prog 12 = some .u64 := by kernel_rfl
theorem Tryti13 : tinfo Try.prog 13 = some ⟨true, 2, 24⟩ := by kernel_rfl
theorem Trytf13 : tflds Try.prog 13 = some [(0, ⟨false, 1, 16⟩), (1, ⟨false, 1, 8⟩)] := by kernel_rfl
theorem Trytz13 : tzero Try.prog 13 = some (.agg [.str [], .int .u64 0]) := by kernel_rfl
theorem Trytp13 : tptr Try.prog 13 = false := by kernel_rfl
theorem Tryti14 : tinfo Try.prog 14 = some ⟨true, 2, 24⟩ := by kernel_rfl
theorem Trytf14 : tflds Try.prog 14 = some [(0, ⟨false, 1, 16⟩), (1, ⟨false, 1, 8⟩)] := by kernel_rfl
theorem Trytz14 : tzero Try.prog 14 = some (.agg [.str [], .int .u64 0]) := by kernel_rfl
theorem Trytp14 : tptr Try.prog 14 = false := by kernel_rfl
theorem Tryti15 : tinfo Try.prog 15 = some ⟨false, 1, 8⟩ := by kernel_rfl
theorem Trytz15 : tzero Try.prog 15 = some (.nilp) := by kernel_rfl
theorem Trytp15 : tptr Try.prog 15 = true := by kernel_rfl
theorem Tryti16 : tinfo Try.prog 16 = some ⟨false, 1, 8⟩ := by kernel_rfl
theorem Trytz16 : tzero Try.prog 16 = some (.nilp) := by kernel_rfl
theorem Trytp16 : tptr Try.prog 16 = true := by kernel_rfl
theorem Tryti17 : tinfo Try.prog 17 = some ⟨false, 1, 8⟩ := by kernel_rfl
theorem Trytz17 : tzero Try.prog 17 = some (.nilp) := by kernel_rfl
theorem Trytp17 : tptr Try.prog 17 = true := by kernel_rfl
theorem Tryti18 : tinfo Try.prog 18 = some ⟨true, 1, 8⟩ := by kernel_rfl
theorem Trytf18 : tflds Try.prog 18 = some [(0, ⟨false, 1, 8⟩)] := by kernel_rfl
theorem Trytz18 : tzero Try.prog 18 = some (.agg [.nilp]) := by kernel_rfl
theorem Trytp18 : tptr Try.prog 18 = false := by kernel_rfl
theorem Tryti19 : tinfo Try.prog 19 = some ⟨true, 1, 8⟩ := by kernel_rfl
theorem Trytf19 : tflds Try.prog 19 = some [(0, ⟨false, 1, 8⟩)] := by kernel_rfl
theorem Trytz19 : tzero Try.prog 19 = some (.agg [.nilp]) := by kernel_rfl
theorem Trytp19 : tptr Try.prog 19 = false := by kernel_rfl
theorem Tryti21 : tinfo Try.prog 21 = some ⟨false, 1, 4⟩ := by kernel_rfl
theorem Trytz21 : tzero Try.prog 21 = some (.int .i32 0) := by kernel_rfl
theorem Trytp21 : tptr Try.prog 21 = false := by kernel_rfl
theorem Trytk21 : tint Try.prog 21 = some .i32 := by kernel_rfl
theorem Tryti22 : tinfo Try.prog 22 = some ⟨false, 1, 24⟩ := by kernel_rfl
theorem Tryte22 : telem Try.prog 22 = some (24, ⟨true, 3, 40⟩) := by kernel_rfl
theorem Trytz22 : tzero Try.prog 22 = some (.slice [] .full) := by kernel_rfl
theorem Trytp22 : tptr Try.prog 22 = false := by kernel_rfl
theorem Tryti23 : tinfo Try.prog 23 = some ⟨true, 3, 40⟩ := by kernel_rfl
theorem Trytf23 : tflds Try.prog 23 = some [(0, ⟨false, 1, 8⟩), (1, ⟨false, 1, 8⟩), (2, ⟨false, 1, 24⟩)] := by kernel_rfl
theorem Trytz23 : tzero Try.prog 23 = some (.agg [.int .i64 0, .int .i64 0, .slice [] .full]) := by kernel_rfl
theorem Trytp23 : tptr Try.prog 23 = false := by kernel_rfl
theorem Tryti24 : tinfo Try.prog 24 = some ⟨true, 3, 40⟩ := by kernel_rfl
theorem Trytf24 : tflds Try.prog 24 = some [(0, ⟨false, 1, 8⟩), (1, ⟨false, 1, 8⟩), (2, ⟨false, 1, 24⟩)] := by kernel_rfl
theorem Trytz24 : tzero Try.prog 24 = some (.agg [.int .i64 0, .int .i64 0, .slice [] .full]) := by kernel_rfl
theorem Trytp24 : tptr Try.prog 24 = false := by kernel_rfl
theorem Tryti25 : tinfo Try.prog 25 = some ⟨false, 1, 24⟩ := by kernel_rfl
theorem Tryte25 : telem Try.prog 25 = some (3, ⟨false, 1, 8⟩) := by kernel_rfl
theorem Trytz25 : tzero Try.prog 25 = some (.slice [] .full) := by kernel_rfl
theorem Trytp25 : tptr Try.prog 25 = false := by kernel_rfl
theorem Tryti38 : tinfo Try.prog 38 = some ⟨false, 1, 8⟩ := by kernel_rfl
theorem Trytz38 : tzero Try.prog 38 = some (.int .i64 0) := by kernel_rfl
theorem Trytp38 : tptr Try.prog 38 = false := by kernel_rfl
theorem Trytk38 : tint Try.prog 38 = some .i64 := by kernel_rfl
theorem Tryti41 : tinfo Try.prog 41 = some ⟨true, 4, 48⟩ := by kernel_rfl
theorem Trytf41 : tflds Try.prog 41 = some [(0, ⟨false, 1, 8⟩), (1, ⟨true, 3, 40⟩)] := by kernel_rfl
theorem Trytz41 : tzero Try.prog 41 = some (.agg [.int .i64 0, .int .i64 0, .int .i64 0, .slice [] .full]) := by kernel_rfl
theorem Trytp41 : tptr Try.prog 41 = false := by kernel_rfl
theorem Tryti42 : tinfo Try.prog 42 = some ⟨true, 4, 48⟩ := by kernel_rfl
theorem Trytf42 : tflds Try.prog 42 = some [(0, ⟨false, 1, 8⟩), (1, ⟨true, 3, 40⟩)] := by kernel_rfl
theorem Trytz42 : tzero Try.prog 42 = some (.agg [.int .i64 0, .int .i64 0, .int .i64 0, .slice [] .full]) := by kernel_rfl
theorem Trytp42 : tptr Try.prog 42 = false := by kernel_rfl
theorem Tryti43 : tinfo Try.prog 43 = some ⟨false, 1, 24⟩ := by kernel_rfl
theorem Tryte43 : telem Try.prog 43 = some (42, ⟨true, 4, 48⟩) := by kernel_rfl
theorem Trytz43 : tzero Try.prog 43 = some (.slice [] .full) := by kernel_rfl
theorem Trytp43 : tptr Try.prog 43 = false := by kernel_rfl
theorem Tryti52 : tinfo Try.prog 52 = some ⟨false, 1, 24⟩ := by kernel_rfl
theorem Tryte52 : telem Try.prog 52 = some (117, ⟨true, 6, 56⟩) := by kernel_rfl
theorem Trytz52 : tzero Try.prog 52 = some (.slice [] .full) := by kernel_rfl
theorem Trytp52 : tptr Try.prog 52 = false := by kernel_rfl
theorem Tryti53 : tinfo Try.prog 53 = some ⟨false, 1, 24⟩ := by kernel_rfl
theorem Tryte53 : telem Try.prog 53 = some (217, ⟨true, 3, 24⟩) := by kernel_rfl
theorem Trytz53 : tzero Try.prog 53 = some (.slice [] .full) := by kernel_rfl
theorem Trytp53 : tptr Try.prog 53 = false := by kernel_rfl
theorem Tryti54 : tinfo Try.prog 54 = some ⟨false, 1, 24⟩ := by kernel_rfl
theorem Tryte54 : telem Try.prog 54 = some (219, ⟨true, 5, 48⟩) := by kernel_rfl
theorem Trytz54 : tzero Try.prog 54 = some (.slice [] .full) := by kernel_rfl
theorem Trytp54 : tptr Try.prog 54 = false := by kernel_rfl
theorem Tryti55 : tinfo Try.prog 55 = some ⟨true, 3, 72⟩ := by kernel_rfl
theorem Trytf55 : tflds Try.prog 55 = some [(0, ⟨false, 1, 24⟩), (1, ⟨false, 1, 24⟩), (2, ⟨false, 1, 24⟩)] := by kernel_rfl
theorem Trytz55 : tzero Try.prog 55 = some (.agg [.slice [] .full, .slice [] .full, .slice [] .full]) := by kernel_rfl
theorem Trytp55 : tptr Try.prog 55 = false := by kernel_rfl
theorem Tryti56 : tinfo Try.prog 56 = some ⟨true, 3, 72⟩ := by kernel_rfl
theorem Trytf56 : tflds Try.prog 56 = some [(0, ⟨false, 1, 24⟩), (1, ⟨false, 1, 24⟩), (2, ⟨false, 1, 24⟩)] := by kernel_rfl
theorem Trytz56 : tzero Try.prog 56 = some (.agg [.slice [] .full, .slice [] .full, .slice [] .full]) := by kernel_rfl
theorem Trytp56 : tptr Try.prog 56 = false := by kernel_rfl
theorem Tryti59 : tinfo Try.prog 59 = some ⟨false, 1, 24⟩ := by kernel_rfl
theorem Tryte59 : telem Try.prog 59 = some (71, ⟨true, 7, 120⟩) := by kernel_rfl
theorem Trytz59 : tzero Try.prog 59 = some (.slice [] .full) := by kernel_rfl
theorem Trytp59 : tptr Try.prog 59 = false := by kernel_rfl
theorem Tryti60 : tinfo Try.prog 60 = some ⟨false, 1, 24⟩ := by kernel_rfl
theorem Tryte60 : telem Try.prog 60 = some (74, ⟨true, 4, 48⟩) := by kernel_rfl
theorem Trytz60 : tzero Try.prog 60 = some (.slice [] .full) := by kernel_rfl
theorem Trytp60 : tptr Try.prog 60 = false := by kernel_rfl
theorem Tryti61 : tinfo Try.prog 61 = some ⟨false, 1, 24⟩ := by kernel_rfl
theorem Tryte61 : telem Try.prog 61 = some (63, ⟨true, 8, 112⟩) := by kernel_rfl
theorem Trytz61 : tzero Try.prog 61 = some (.slice [] .full) := by kernel_rfl
theorem Trytp61 : tptr Try.prog 61 = false := by kernel_rfl
theorem Tryti62 : tinfo Try.prog 62 = some ⟨true, 8, 112⟩ := by kernel_rfl
theorem Trytf62 : tflds Try.prog 62 = some [(0, ⟨true, 3, 40⟩), (3, ⟨false, 1, 8⟩), (4, ⟨false, 1, 8⟩), (5, ⟨false, 1, 8⟩), (6, ⟨false, 1, 24⟩), (7, ⟨false, 1, 24⟩)] := by kernel_rfl
theorem Trytz62 : tzero Try.prog 62 = some (.agg [.int .i64 0, .int .i64 0, .slice [] .full, .int .i64 0, .int .i64 0, .int .i64 0, .slice [] .full, .slice [] .full]) := by kernel_rfl
theorem Trytp62 : tptr Try.prog 62 = false := by kernel_rfl
theorem Tryti63 : tinfo Try.prog 63 = some ⟨true, 8, 112⟩ := by kernel_rfl
theorem Trytf63 : tflds Try.prog 63 = some [(0, ⟨true, 3, 40⟩), (3, ⟨false, 1, 8⟩), (4, ⟨false, 1, 8⟩), (5, ⟨false, 1, 8⟩), (6, ⟨false, 1, 24⟩), (7, ⟨false, 1, 24⟩)] := by kernel_rfl
theorem Trytz63 : tzero Try.prog 63 = some (.agg [.int .i64 0, .int .i64 0, .slice [] .full, .int .i64 0, .int .i64 0, .int .i64 0, .slice [] .full, .slice [] .full]) := by kernel_rfl
theorem Trytp63 : tptr Try.prog 63 = false := by kernel_rfl
theorem Tryti70 : tinfo Try.prog 70 = some ⟨true, 7, 120⟩ := by kernel_rfl
theorem Trytf70 : tflds Try.prog 70 = some [(0, ⟨false, 1, 24⟩), (1, ⟨true, 3, 40⟩), (4, ⟨false, 1, 8⟩), (5, ⟨false, 1, 24⟩), (6, ⟨false, 1, 24⟩)] := by kernel_rfl
theorem Trytz70 : tzero Try.prog 70 = some (.agg [.slice [] .full, .int .i64 0, .int .i64 0, .slice [] .full, .int .i64 0, .slice [] .full, .slice [] .full]) := by kernel_rfl
theorem Trytp70 : tptr Try.prog 70 = false := by kernel_rfl
theorem Tryti71 : tinfo Try.prog 71 = some ⟨true, 7, 120⟩ := by kernel_rfl
theorem Trytf71 : tflds Try.prog 71 = some [(0, ⟨false, 1, 24⟩), (1, ⟨true, 3, 40⟩), (4, ⟨false, 1, 8⟩), (5, ⟨false, 1, 24⟩), (6, ⟨false, 1, 24⟩)] := by kernel_rfl
theorem Trytz71 : tzero Try.prog 71 = some (.agg [.slice [] .full, .int .i64 0, .int .i64 0, .slice [] .full, .int .i64 0, .slice [] .full, .slice [] .full]) := by kernel_rfl
theorem Trytp71 : tptr Try.prog 71 = false := by kernel_rfl
theorem Tryti73 : tinfo Try.prog 73 = some ⟨true, 4, 48⟩ := by kernel_rfl
theorem Trytf73 : tflds Try.prog 73 = some [(0, ⟨true, 3, 40⟩), (3, ⟨false, 1, 8⟩)] := by kernel_rfl
theorem Trytz73 : tzero Try.prog 73 = some (.agg [.int .i64 0, .int .i64 0, .slice [] .full, .int .i64 0]) := by kernel_rfl
theorem Trytp73 : tptr Try.prog 73 = false := by kernel_rfl
theorem Tryti74 : tinfo Try.prog 74 = some ⟨true, 4, 48⟩ := by kernel_rfl
theorem Trytf74 : tflds Try.prog 74 = some [(0, ⟨true, 3, 40⟩), (3, ⟨false, 1, 8⟩)] := by kernel_rfl
theorem Trytz74 : tzero Try.prog 74 = some (.agg [.int .i64 0, .int .i64 0, .slice [] .full, .int .i64 0]) := by kernel_rfl
theorem Trytp74 : tptr Try.prog 74 = false := by kernel_rfl
theorem Tryti83 : tinfo Try.prog 83 = some ⟨false, 1, 24⟩ := by kernel_rfl
theorem Tryte83 : telem Try.prog 83 = some (87, ⟨true, 6, 80⟩) := by kernel_rfl
theorem Trytz83 : tzero Try.prog 83 = some (.slice [] .full) := by kernel_rfl
theorem Trytp83 : tptr Try.prog 83 = false := by kernel_rfl
theorem Tryti86 : tinfo Try.prog 86 = some ⟨true, 6, 80⟩ := by kernel_rfl
theorem Trytf86 : tflds Try.prog 86 = some [(0, ⟨true, 3, 40⟩), (3, ⟨true, 3, 40⟩)] := by kernel_rfl
theorem Trytz86 : tzero Try.prog 86 = some (.agg [.int .i64 0, .int .i64 0, .slice [] .full, .int .i64 0, .int .i64 0, .slice [] .full]) := by kernel_rfl
theorem Trytp86 : tptr Try.prog 86 = false := by kernel_rfl
theorem Tryti87 : tinfo Try.prog 87 = some ⟨true, 6, 80⟩ := by kernel_rfl
theorem Trytf87 : tflds Try.prog 87 = some [(0, ⟨true, 3, 40⟩), (3, ⟨true, 3, 40⟩)] := by kernel_rfl
theorem Trytz87 : tzero Try.prog 87 = some (.agg [.int .i64 0, .int .i64 0, .slice [] .full, .int .i64 0, .int .i64 0, .slice [] .full]) := by kernel_rfl
theorem Trytp87 : tptr Try.prog 87 = false := by kernel_rfl
theorem Tryti101 : tinfo Try.prog 101 = some ⟨false, 1, 8⟩ := by kernel_rfl
theorem Trytz101 : tzero Try.prog 101 = some (.nilp) := by kernel_rfl
theorem Trytp101 : tptr Try.prog 101 = true := by kernel_rfl
theorem Tryti102 : tinfo Try.prog 102 = some ⟨false, 1, 24⟩ := by kernel_rfl
theorem Tryte102 : telem Try.prog 102 = some (4, ⟨false, 1, 1⟩) := by kernel_rfl
theorem Trytz102 : tzero Try.prog 102 = some (.slice [] .full) := by kernel_rfl
theorem Trytp102 : tptr Try.prog 102 = false := by kernel_rfl
theorem Tryti103 : tinfo Try.prog 103 = some ⟨true, 3, 72⟩ := by kernel_rfl
theorem Trytf103 : tflds Try.prog 103 = some [(0, ⟨false, 1, 24⟩), (1, ⟨false, 1, 24⟩), (2, ⟨false, 1, 24⟩)] := by kernel_rfl
theorem Trytz103 : tzero Try.prog 103 = some (.agg [.slice [] .full, .slice [] .full, .slice [] .full]) := by kernel_rfl
theorem Trytp103 : tptr Try.prog 103 = false := by kernel_rfl
theorem Tryti104 : tinfo Try.prog 104 = some ⟨true, 3, 72⟩ := by kernel_rfl
theorem Trytf104 : tflds Try.prog 104 = some [(0, ⟨false, 1, 24⟩), (1, ⟨false, 1, 24⟩), (2, ⟨false, 1, 24⟩)] := by kernel_rfl
theorem Trytz104 : tzero Try.prog 104 = some (.agg [.slice [] .full, .slice [] .full, .slice [] .full]) := by kernel_rfl
theorem Trytp104 : tptr Try.prog 104 = false := by kernel_rfl
theorem Tryti112 : tinfo Try.prog 112 = some ⟨false, 1, 24⟩ := by kernel_rfl
theorem Tryte112 : telem Try.prog 112 = some (38, ⟨false, 1, 8⟩) := by kernel_rfl
theorem Trytz112 : tzero Try.prog 112 = some (.slice [] .full) := by kernel_rfl
theorem Trytp112 : tptr Try.prog 112 = false := by kernel_rfl
theorem Tryti116 : tinfo Try.prog 116 = some ⟨true, 6, 56⟩ := by kernel_rfl
theorem Trytf116 : tflds Try.prog 116 = some [(0, ⟨false, 1, 8⟩), (1, ⟨false, 1, 8⟩), (2, ⟨false, 1, 8⟩), (3, ⟨false, 1, 8⟩), (4, ⟨false, 1, 16⟩), (5, ⟨false, 1, 1⟩)] := by kernel_rfl
theorem Trytz116 : tzero Try.prog 116 = some (.agg [.int .i64 0, .int .i64 0, .int .i64 0, .int .i64 0, .str [], .bool false]) := by kernel_rfl
theorem Trytp116 : tptr Try.prog 116 = false := by kernel_rfl
theorem Tryti117 : tinfo Try.prog 117 = some ⟨true, 6, 56⟩ := by kernel_rfl
theorem Trytf117 : tflds Try.prog 117 = some [(0, ⟨false, 1, 8⟩), (1, ⟨false, 1, 8⟩), (2, ⟨false, 1, 8⟩), (3, ⟨false, 1, 8⟩), (4, ⟨false, 1, 16⟩), (5, ⟨false, 1, 1⟩)] := by kernel_rfl
theorem Trytz117 : tzero Try.prog 117 = some (.agg [.int .i64 0, .int .i64 0, .int .i64 0, .int .i64 0, .str [], .bool false]) := by kernel_rfl
theorem Trytp117 : tptr Try.prog 117 = false := by kernel_rfl
theorem Tryti122 : tinfo Try.prog 122 = some ⟨true, 2, 48⟩ := by kernel_rfl
theorem Trytf122 : tflds Try.prog 122 = some [(0, ⟨false, 1, 24⟩), (1, ⟨false, 1, 24⟩)] := by kernel_rfl
theorem Trytz122 : tzero Try.prog 122 = some (.agg [.slice [] .full, .slice [] .full]) := by kernel_rfl
theorem Trytp122 : tptr Try.prog 122 = false := by kernel_rfl
theorem Tryti123 : tinfo Try.prog 123 = some ⟨true, 2, 48⟩ := by kernel_rfl
theorem Trytf123 : tflds Try.prog 123 = some [(0, ⟨false, 1, 24⟩), (1, ⟨false, 1, 24⟩)] := by kernel_rfl
theorem Trytz123 : tzero Try.prog 123 = some (.agg [.slice [] .full, .slice [] .full]) := by kernel_rfl
theorem Trytp123 : tptr Try.prog 123 = false := by kernel_rfl
theorem Tryti128 : tinfo Try.prog 128 = some ⟨false, 1, 8⟩ := by kernel_rfl
theorem Trytz128 : tzero Try.prog 128 = some (.nilp) := by kernel_rfl
theorem Trytp128 : tptr Try.prog 128 = true := by kernel_rfl
theorem Tryti129 : tinfo Try.prog 129 = some ⟨true, 6, 128⟩ := by kernel_rfl
theorem Trytf129 : tflds Try.prog 129 = some [(0, ⟨true, 3, 72⟩), (3, ⟨false, 1, 24⟩), (4, ⟨false, 1, 24⟩), (5, ⟨false, 1, 1⟩)] := by kernel_rfl
theorem Trytz129 : tzero Try.prog 129 = some (.agg [.slice [] .full, .slice [] .full, .slice [] .full, .slice [] .full, .slice [] .full, .bool false]) := by kernel_rfl
theorem Trytp129 : tptr Try.prog 129 = false := by kernel_rfl
theorem Tryti130 : tinfo Try.prog 130 = some ⟨true, 6, 128⟩ := by kernel_rfl
theorem Trytf130 : tflds Try.prog 130 = some [(0, ⟨true, 3, 72⟩), (3, ⟨false, 1, 24⟩), (4, ⟨false, 1, 24⟩), (5, ⟨false, 1, 1⟩)] := by kernel_rfl
theorem Trytz130 : tzero Try.prog 130 = some (.agg [.slice [] .full, .slice [] .full, .slice [] .full, .slice [] .full, .slice [] .full, .bool false]) := by kernel_rfl
theorem Trytp130 : tptr Try.prog 130 = false := by kernel_rfl
theorem Tryti134 : tinfo Try.prog 134 = some ⟨false, 1, 8⟩ := by kernel_rfl
theorem Trytz134 : tzero Try.prog 134 = some (.nilp) := by kernel_rfl
theorem Trytp134 : tptr Try.prog 134 = true := by kernel_rfl
theorem Tryti137 : tinfo Try.prog 137 = some ⟨true, 2, 16⟩ := by kernel_rfl
theorem Trytf137 : tflds Try.prog 137 = some [(0, ⟨false, 1, 8⟩), (1, ⟨false, 1, 8⟩)] := by kernel_rfl
theorem Trytz137 : tzero Try.prog 137 = some (.agg [.nilmap, .int .i64 0]) := by kernel_rfl
theorem Trytp137 : tptr Try.prog 137 = false := by kernel_rfl
theorem Tryti138 : tinfo Try.prog 138 = some ⟨true, 2, 16⟩ := by kernel_rfl
theorem Trytf138 : tflds Try.prog 138 = some [(0, ⟨false, 1, 8⟩), (1, ⟨false, 1, 8⟩)] := by kernel_rfl
theorem Trytz138 : tzero Try.prog 138 = some (.agg [.nilmap, .int .i64 0]) := by kernel_rfl
theorem Trytp138 : tptr Try.prog 138 = false := by kernel_rfl
theorem Tryti145 : tinfo Try.prog 145 = some ⟨false, 1, 24⟩ := by kernel_rfl
theorem Tryte145 : telem Try.prog 145 = some (9, ⟨false, 1, 16⟩) := by kernel_rfl
theorem Trytz145 : tzero Try.prog 145 = some (.slice [] .full) := by kernel_rfl
theorem Trytp145 : tptr Try.prog 145 = false := by kernel_rfl
theorem Tryti155 : tinfo Try.prog 155 = some ⟨true, 2, 16⟩ := by kernel_rfl
theorem Trytf155 : tflds Try.prog 155 = some [(0, ⟨false, 1, 8⟩), (1, ⟨false, 1, 8⟩)] := by kernel_rfl
theorem Trytz155 : tzero Try.prog 155 = some (.agg [.int .i64 0, .int .i64 0]) := by kernel_rfl
theorem Trytp155 : tptr Try.prog 155 = false := by kernel_rfl
theorem Tryti156 : tinfo Try.prog 156 = some ⟨true, 2, 16⟩ := by kernel_rfl
theorem Trytf156 : tflds Try.prog 156 = some [(0, ⟨false, 1, 8⟩), (1, ⟨false, 1, 8⟩)] := by kernel_rfl
theorem Trytz156 : tzero Try.prog 156 = some (.agg [.int .i64 0, .int .i64 0]) := by kernel_rfl
theorem Trytp156 : tptr Try.prog 156 = false := by kernel_rfl
theorem Tryti161 : tinfo Try.prog 161 = some ⟨false, 1, 8⟩ := by kernel_rfl
theorem Trytz161 : tzero Try.prog 161 = some (.int .u64 0) := by kernel_rfl
theorem Trytp161 : tptr Try.prog 161 = false := by kernel_rfl
theorem Trytk161 : tint Try.prog 161 = some .u64 := by kernel_rfl
theorem Tryti162 : tinfo Try.prog 162 = some ⟨false, 1, 8⟩ := by kernel_rfl
theorem Trytz162 : tzero Try.prog 162 = some (.nilp) := by kernel_rfl
theorem Trytp162 : tptr Try.prog 162 = true := by kernel_rfl
theorem Tryti163 : tinfo Try.prog 163 = some ⟨false, 1, 24⟩ := by kernel_rfl
theorem Tryte163 : telem Try.prog 163 = some (5, ⟨false, 1, 1⟩) := by kernel_rfl
theorem Trytz163 : tzero Try.prog 163 = some (.slice [] .full) := by kernel_rfl
theorem Trytp163 : tptr Try.prog 163 = false := by kernel_rfl
theorem Tryti164 : tinfo Try.prog 164 = some ⟨true, 2, 32⟩ := by kernel_rfl
theorem Trytf164 : tflds Try.prog 164 = some [(0, ⟨false, 1, 8⟩), (1, ⟨false, 1, 24⟩)] := by kernel_rfl
theorem Trytz164 : tzero Try.prog 164 = some (.agg [.nilp, .slice [] .full]) := by kernel_rfl
theorem Trytp164 : tptr Try.prog 164 = false := by kernel_rfl
theorem Tryti165 : tinfo Try.prog 165 = some ⟨true, 2, 32⟩ := by kernel_rfl
theorem Trytf165 : tflds Try.prog 165 = some [(0, ⟨false, 1, 8⟩), (1, ⟨false, 1, 24⟩)] := by kernel_rfl
theorem Trytz165 : tzero Try.prog 165 = some (.agg [.nilp, .slice [] .full]) := by kernel_rfl
theorem Trytp165 : tptr Try.prog 165 = false := by kernel_rfl
theorem Tryti178 : tinfo Try.prog 178 = some ⟨false, 1, 8⟩ := by kernel_rfl
theorem Trytz178 : tzero Try.prog 178 = some (.int .i64 0) := by kernel_rfl
theorem Trytp178 : tptr Try.prog 178 = false := by kernel_rfl
theorem Trytk178 : tint Try.prog 178 = some .i64 := by kernel_rfl
theorem Tryti186 : tinfo Try.prog 186 = some ⟨false, 1, 4⟩ := by kernel_rfl
theorem Trytz186 : tzero Try.prog 186 = some (.int .u32 0) := by kernel_rfl
theorem Trytp186 : tptr Try.prog 186 = false := by kernel_rfl
theorem Trytk186 : tint Try.prog 186 = some .u32 := by kernel_rfl
theorem Tryti188 : tinfo Try.prog 188 = some ⟨false, 1, 8⟩ := by kernel_rfl
theorem Trytz188 : tzero Try.prog 188 = some (.int .u64 0) := by kernel_rfl
theorem Trytp188 : tptr Try.prog 188 = false := by kernel_rfl
theorem Trytk188 : tint Try.prog 188 = some .u64 := by kernel_rfl
theorem Tryti189 : tinfo Try.prog 189 = some ⟨false, 1, 8⟩ := by kernel_rfl
theorem Trytz189 : tzero Try.prog 189 = some (.nilp) := by kernel_rfl
theorem Trytp189 : tptr Try.prog 189 = true := by kernel_rfl
theorem Tryti192 : tinfo Try.prog 192 = some ⟨false, 1, 8⟩ := by kernel_rfl
theorem Trytz192 : tzero Try.prog 192 = some (.int .u64 0) := by kernel_rfl
theorem Trytp192 : tptr Try.prog 192 = false := by kernel_rfl
theorem Trytk192 : tint Try.prog 192 = some .u64 := by kernel_rfl
theorem Tryti196 : tinfo Try.prog 196 = some ⟨false, 1, 8⟩ := by kernel_rfl
theorem Trytz196 : tzero Try.prog 196 = some (.nilp) := by kernel_rfl
theorem Trytp196 : tptr Try.prog 196 = true := by kernel_rfl
theorem Tryti201 : tinfo Try.prog 201 = some ⟨false, 1, 8⟩ := by kernel_rfl
theorem Trytz201 : tzero Try.prog 201 = some (.nilp) := by kernel_rfl
theorem Trytp201 : tptr Try.prog 201 = true := by kernel_rfl
theorem Tryti203 : tinfo Try.prog 203 = some ⟨true, 4, 40⟩ := by kernel_rfl
theorem Trytf203 : tflds Try.prog 203 = some [(0, ⟨false, 1, 8⟩), (1, ⟨false, 1, 8⟩), (2, ⟨false, 1, 8⟩), (3, ⟨false, 1, 16⟩)] := by kernel_rfl
theorem Trytz203 : tzero Try.prog 203 = some (.agg [.nilp, .nilp, .nilp, .str []]) := by kernel_rfl
theorem Trytp203 : tptr Try.prog 203 = false := by kernel_rfl
theorem Tryti204 : tinfo Try.prog 204 = some ⟨true, 4, 40⟩ := by kernel_rfl
theorem Trytf204 : tflds Try.prog 204 = some [(0, ⟨false, 1, 8⟩), (1, ⟨false, 1, 8⟩), (2, ⟨false, 1, 8⟩), (3, ⟨false, 1, 16⟩)] := by kernel_rfl
theorem Trytz204 : tzero Try.prog 204 = some (.agg [.nilp, .nilp, .nilp, .str []]) := by kernel_rfl
theorem Trytp204 : tptr Try.prog 204 = false := by kernel_rfl
theorem Tryti206 : tinfo Try.prog 206 = some ⟨true, 0, 0⟩ := by kernel_rfl
theorem Trytf206 : tflds Try.prog 206 = some [(0, ⟨true, 0, 0⟩)] := by kernel_rfl
theorem Trytz206 : tzero Try.prog 206 = some (.agg []) := by kernel_rfl
theorem Trytp206 : tptr Try.prog 206 = false := by kernel_rfl
theorem Tryti207 : tinfo Try.prog 207 = some ⟨true, 0, 0⟩ := by kernel_rfl
theorem Trytf207 : tflds Try.prog 207 = some [(0, ⟨true, 0, 0⟩)] := by kernel_rfl
theorem Trytz207 : tzero Try.prog 207 = some (.agg []) := by kernel_rfl
theorem Trytp207 : tptr Try.prog 207 = false := by kernel_rfl
theorem Tryti209 : tinfo Try.prog 209 = some ⟨false, 1, 1⟩ := by kernel_rfl
theorem Trytz209 : tzero Try.prog 209 = some (.int .u8 0) := by kernel_rfl
theorem Trytp209 : tptr Try.prog 209 = false := by kernel_rfl
theorem Trytk209 : tint Try.prog 209 = some .u8 := by kernel_rfl
theorem Tryti210 : tinfo Try.prog 210 = some ⟨false, 1, 1⟩ := by kernel_rfl
theorem Trytz210 : tzero Try.prog 210 = some (.int .u8 0) := by kernel_rfl
theorem Trytp210 : tptr Try.prog 210 = false := by kernel_rfl
theorem Trytk210 : tint Try.prog 210 = some .u8 := by kernel_rfl
theorem Tryti212 : tinfo Try.prog 212 = some ⟨false, 1, 4⟩ := by kernel_rfl
theorem Trytz212 : tzero Try.prog 212 = some (.int .i32 0) := by kernel_rfl
theorem Trytp212 : tptr Try.prog 212 = false := by kernel_rfl
theorem Trytk212 : tint Try.prog 212 = some .i32 := by kernel_rfl
theorem Tryti213 : tinfo Try.prog 213 = some ⟨false, 1, 4⟩ := by kernel_rfl
theorem Trytz213 : tzero Try.prog 213 = some (.int .i32 0) := by kernel_rfl
theorem Trytp213 : tptr Try.prog 213 = false := by kernel_rfl
theorem Trytk213 : tint Try.prog 213 = some .i32 := by kernel_rfl
theorem Tryti214 : tinfo Try.prog 214 = some ⟨true, 11, 48⟩ := by kernel_rfl
theorem Trytf214 : tflds Try.prog 214 = some [(0, ⟨false, 1, 8⟩), (1, ⟨false, 1, 8⟩), (2, ⟨false, 1, 4⟩), (3, ⟨false, 1, 1⟩), (4, ⟨false, 1, 1⟩), (5, ⟨false, 1, 1⟩), (6, ⟨false, 1, 1⟩), (7, ⟨false, 1, 8⟩), (8, ⟨false, 1, 8⟩), (9, ⟨false, 1, 4⟩), (10, ⟨false, 1, 4⟩)] := by kernel_rfl
theorem Trytz214 : tzero Try.prog 214 = some (.agg [.int .u64 0, .int .u64 0, .int .u32 0, .int .u8 0, .int .u8 0, .int .u8 0, .int .u8 0, .nilfn, .nilp, .int .i32 0, .int .i32 0]) := by kernel_rfl
theorem Trytp214 : tptr Try.prog 214 = false := by kernel_rfl
theorem Tryti215 : tinfo Try.prog 215 = some ⟨true, 11, 48⟩ := by kernel_rfl
theorem Trytf215 : tflds Try.prog 215 = some [(0, ⟨false, 1, 8⟩), (1, ⟨false, 1, 8⟩), (2, ⟨false, 1, 4⟩), (3, ⟨false, 1, 1⟩), (4, ⟨false, 1, 1⟩), (5, ⟨false, 1, 1⟩), (6, ⟨false, 1, 1⟩), (7, ⟨false, 1, 8⟩), (8, ⟨false, 1, 8⟩), (9, ⟨false, 1, 4⟩), (10, ⟨false, 1, 4⟩)] := by kernel_rfl
theorem Trytz215 : tzero Try.prog 215 = some (.agg [.int .u64 0, .int .u64 0, .int .u32 0, .int .u8 0, .int .u8 0, .int .u8 0, .int .u8 0, .nilfn, .nilp, .int .i32 0, .int .i32 0]) := by kernel_rfl
theorem Trytp215 : tptr Try.prog 215 = false := by kernel_rfl
theorem Tryti216 : tinfo Try.prog 216 = some ⟨true, 3, 24⟩ := by kernel_rfl
theorem Trytf216 : tflds Try.prog 216 = some [(0, ⟨false, 1, 8⟩), (1, ⟨false, 1, 8⟩), (2, ⟨false, 1, 8⟩)] := by kernel_rfl
theorem Trytz216 : tzero Try.prog 216 = some (.agg [.int .i64 0, .int .i64 0, .int .i64 0]) := by kernel_rfl
theorem Trytp216 : tptr Try.prog 216 = false := by kernel_rfl
theorem Tryti217 : tinfo Try.prog 217 = some ⟨true, 3, 24⟩ := by kernel_rfl
theorem Trytf217 : tflds Try.prog 217 = some [(0, ⟨false, 1, 8⟩), (1, ⟨false, 1, 8⟩), (2, ⟨false, 1, 8⟩)] := by kernel_rfl
theorem Trytz217 : tzero Try.prog 217 = some (.agg [.int .i64 0, .int .i64 0, .int .i64 0]) := by kernel_rfl
theorem Trytp217 : tptr Try.prog 217 = false := by kernel_rfl
theorem Tryti218 : tinfo Try.prog 218 = some ⟨true, 5, 48⟩ := by kernel_rfl
theorem Trytf218 : tflds Try.prog 218 = some [(0, ⟨false, 1, 8⟩), (1, ⟨false, 1, 8⟩), (2, ⟨false, 1, 8⟩), (3, ⟨false, 1, 8⟩), (4, ⟨false, 1, 16⟩)] := by kernel_rfl
theorem Trytz218 : tzero Try.prog 218 = some (.agg [.int .i64 0, .int .i64 0, .int .i64 0, .int .i64 0, .str []]) := by kernel_rfl
theorem Trytp218 : tptr Try.prog 218 = false := by kernel_rfl
theorem Tryti219 : tinfo Try.prog 219 = some ⟨true, 5, 48⟩ := by kernel_rfl
theorem Trytf219 : tflds Try.prog 219 = some [(0, ⟨false, 1, 8⟩), (1, ⟨false, 1, 8⟩), (2, ⟨false, 1, 8⟩), (3, ⟨false, 1, 8⟩), (4, ⟨false, 1, 16⟩)] := by kernel_rfl
theorem Trytz219 : tzero Try.prog 219 = some (.agg [.int .i64 0, .int .i64 0, .int .i64 0, .int .i64 0, .str []]) := by kernel_rfl
theorem Trytp219 : tptr Try.prog 219 = false := by kernel_rfl
theorem Trygo3 : goFn Try.prog 3 = true := by kernel_rfl
theorem Trygo4 : goFn Try.prog 4 = true := by kernel_rfl
theorem Trygo5 : goFn Try.prog 5 = true := by kernel_rfl
theorem Trygo6 : goFn Try.prog 6 = true := by kernel_rfl
theorem Trygo7 : goFn Try.prog 7 = true := by kernel_rfl
theorem Trygo8 : goFn Try.prog 8 = true := by kernel_rfl
theorem Trygo9 : goFn Try.prog 9 = true := by kernel_rfl
theorem Trygo10 : goFn Try.prog 10 = true := by kernel_rfl
theorem Trygo11 : goFn Try.prog 11 = true := by kernel_rfl
theorem Trygo12 : goFn Try.prog 12 = true := by kernel_rfl
theorem Trygo13 : goFn Try.prog 13 = true := by kernel_rfl
theorem Trygo14 : goFn Try.prog 14 = true := by kernel_rfl
theorem Trygo15 : goFn Try.prog 15 = true := by kernel_rfl
theorem Trygo16 : goFn Try.prog 16 = true := by kernel_rfl
theorem Trygo17 : goFn Try.prog 17 = true := by kernel_rfl
theorem Trygo18 : goFn Try.prog 18 = true := by kernel_rfl
theorem Trygo19 : goFn Try.prog 19 = true := by kernel_rfl
theorem Trygo20 : goFn Try.prog 20 = true := by kernel_rfl
theorem Trygo21 : goFn Try.prog 21 = true := by kernel_rfl
theorem Trygo22 : goFn Try.prog 22 = true := by kernel_rfl
theorem Trygo23 : goFn Try.prog 23 = true := by kernel_rfl
theorem Trygo24 : goFn Try.prog 24 = true := by kernel_rfl
theorem Trygo25 : goFn Try.prog 25 = true := by kernel_rfl
theorem Trygo26 : goFn Try.prog 26 = true := by kernel_rfl
theorem Trygo27 : goFn Try.prog 27 = true := by kernel_rfl
theorem Trygo28 : goFn Try.prog 28 = true := by kernel_rfl
theorem Trygo29 : goFn Try.prog 29 = true := by kernel_rfl
theorem Trygo30 : goFn Try.prog 30 = true := by kernel_rfl
theorem Trygo31 : goFn Try.prog 31 = true := by kernel_rfl
theorem Trygo32 : goFn Try.prog 32 = true := by kernel_rfl
theorem Trygo33 : goFn Try.prog 33 = true := by kernel_rfl
theorem Trygo34 : goFn Try.prog 34 = true := by kernel_rfl
theorem Trygo35 : goFn Try.prog 35 = true := by kernel_rfl
theorem Trygo36 : goFn Try.prog 36 = true := by kernel_rfl
theorem Trygo37 : goFn Try.prog 37 = true := by kernel_rfl
theorem Trygo38 : goFn Try.prog 38 = true := by kernel_rfl
theorem Trygo39 : goFn Try.prog 39 = true := by kernel_rfl
theorem Trygo40 : goFn Try.prog 40 = true := by kernel_rfl
theorem Trygo41 : goFn Try.prog 41 = true := by kernel_rfl
theorem Trygo42 : goFn Try.prog 42 = true := by kernel_rfl
theorem Trygo43 : goFn Try.prog 43 = true := by kernel_rfl
theorem Trygo44 : goFn Try.prog 44 = true := by kernel_rfl
theorem Trygo45 : goFn Try.prog 45 = true := by kernel_rfl
theorem Trygo46 : goFn Try.prog 46 = true := by kernel_rfl
theorem Trygo47 : goFn Try.prog 47 = true := by kernel_rfl
theorem Trygo48 : goFn Try.prog 48 = true := by kernel_rfl
theorem Trygo49 : goFn Try.prog 49 = true := by kernel_rfl
theorem Trygo50 : goFn Try.prog 50 = true := by kernel_rfl
theorem Trygo51 : goFn Try.prog 51 = true := by kernel_rfl
theorem Trygo52 : goFn Try.prog 52 = true := by kernel_rfl
theorem Trygo53 : goFn Try.prog 53 = true := by kernel_rfl
theorem Trygo54 : goFn Try.prog 54 = true := by kernel_rfl
theorem Trygo55 : goFn Try.prog 55 = true := by kernel_rfl
theorem Trygo56 : goFn Try.prog 56 = true := by kernel_rfl
theorem Trygo57 : goFn Try.prog 57 = true := by kernel_rfl
theorem Trygo58 : goFn Try.prog 58 = true := by kernel_rfl
theorem Trygo59 : goFn Try.prog 59 = true := by kernel_rfl
theorem Trygo60 : goFn Try.prog 60 = true := by kernel_rfl
theorem Trygo61 : goFn Try.prog 61 = true := by kernel_rfl
theorem Trygo62 : goFn Try.prog 62 = true := by kernel_rfl
theorem Trygo63 : goFn Try.prog 63 = true := by kernel_rfl
theorem Trygo64 : goFn Try.prog 64 = true := by kernel_rfl
theorem Trygo65 : goFn Try.prog 65 = true := by kernel_rfl
theorem Trygo66 : goFn Try.prog 66 = true := by kernel_rfl
theorem Trygo67 : goFn Try.prog 67 = true := by kernel_rfl
theorem Trygo68 : goFn Try.prog 68 = true := by kernel_rfl
theorem Trygo69 : goFn Try.prog 69 = true := by kernel_rfl
theorem Trygo70 : goFn Try.prog 70 = true := by kernel_rfl
theorem Trygo71 : goFn Try.prog 71 = true := by kernel_rfl
theorem Trygo72 : goFn Try.prog 72 = true := by kernel_rfl
theorem Trygo73 : goFn Try.prog 73 = true := by kernel_rfl
theorem Trygo74 : goFn Try.prog 74 = true := by kernel_rfl
theorem Trygo75 : goFn Try.prog 75 = true := by kernel_rfl
theorem Trygo76 : goFn Try.prog 76 = true := by kernel_rfl
theorem Trygo77 : goFn Try.prog 77 = true := by kernel_rfl
theorem Trygo78 : goFn Try.prog 78 = true := by kernel_rfl
theorem Trygo79 : goFn Try.prog 79 = true := by kernel_rfl
theorem Trygo80 : goFn Try.prog 80 = true := by kernel_rfl
theorem Trygo81 : goFn Try.prog 81 = true := by kernel_rfl
theorem Trygo82 : goFn Try.prog 82 = true := by kernel_rfl
theorem Trygo83 : goFn Try.prog 83 = true := by kernel_rfl
theorem Trygo84 : goFn Try.prog 84 = true := by kernel_rfl
theorem Trygo85 : goFn Try.prog 85 = true := by kernel_rfl
theorem Trygo86 : goFn Try.prog 86 = true := by kernel_rfl
theorem Trygo87 : goFn Try.prog 87 = true := by kernel_rfl
theorem Trygo88 : goFn Try.prog 88 = true := by kernel_rfl
theorem Trygo89 : goFn Try.prog 89 = true := by kernel_rfl
theorem Trygo90 : goFn Try.prog 90 = true := by kernel_rfl
theorem Trygo91 : goFn Try.prog 91 = true := by kernel_rfl
theorem Trygo92 : goFn Try.prog 92 = true := by kernel_rfl
theorem Trygo93 : goFn Try.prog 93 = true := by kernel_rfl
theorem Trygo94 : goFn Try.prog 94 = true := by kernel_rfl
theorem Trygo95 : goFn Try.prog 95 = true := by kernel_rfl
theorem Trygo96 : goFn Try.prog 96 = true := by kernel_rfl
theorem Trygo97 : goFn Try.prog 97 = true := by kernel_rfl
theorem Trygo98 : goFn Try.prog 98 = true := by kernel_rfl
theorem Trygo99 : goFn Try.prog 99 = true := by kernel_rfl
theorem Trygo100 : goFn Try.prog 100 = true := by kernel_rfl
theorem Trygo101 : goFn Try.prog 101 = true := by kernel_rfl
theorem Trygo102 : goFn Try.prog 102 = true := by kernel_rfl
theorem Trygo103 : goFn Try.prog 103 = true := by kernel_rfl
theorem Trygo104 : goFn Try.prog 104 = true := by kernel_rfl
theorem Trygo105 : goFn Try.prog 105 = true := by kernel_rfl
theorem Trygo106 : goFn Try.prog 106 = true := by kernel_rfl
theorem Trygo107 : goFn Try.prog 107 = true := by kernel_rfl
theorem Trygo108 : goFn Try.prog 108 = true := by kernel_rfl
theorem Trygo109 : goFn Try.prog 109 = true := by kernel_rfl
theorem Trygo110 : goFn Try.prog 110 = true := by kernel_rfl
theorem Trygo111 : goFn Try.prog 111 = true := by kernel_rfl
theorem Trygo112 : goFn Try.prog 112 = true := by kernel_rfl
theorem Trygo113 : goFn Try.prog 113 = true := by kernel_rfl
theorem Trygo114 : goFn Try.prog 114 = true := by kernel_rfl
theorem Trygo115 : goFn Try.prog 115 = true := by kernel_rfl
theorem Trygo116 : goFn Try.prog 116 = true := by kernel_rfl
theorem Trygo117 : goFn Try.prog 117 = true := by kernel_rfl
theorem Trygo118 : goFn Try.prog 118 = true := by kernel_rfl
theorem Trygo119 : goFn Try.prog 119 = true := by kernel_rfl
theorem Trygo120 : goFn Try.prog 120 = true := by kernel_rfl
theorem Trygo121 : goFn Try.prog 121 = true := by kernel_rfl
theorem Trygo122 : goFn Try.prog 122 = true := by kernel_rfl
theorem Trygo123 : goFn Try.prog 123 = true := by kernel_rfl
theorem Trygo124 : goFn Try.prog 124 = true := by kernel_rfl
theorem Trygo125 : goFn Try.prog 125 = true := by kernel_rfl
theorem Trygo126 : goFn Try.prog 126 = true := by kernel_rfl
theorem Trygo127 : goFn Try.prog 127 = true := by kernel_rfl
theorem Trygo128 : goFn Try.prog 128 = true := by kernel_rfl
theorem Trygo129 : goFn Try.prog 129 = true := by kernel_rfl
theorem Trygo130 : goFn Try.prog 130 = true := by kernel_rfl
theorem Trygo131 : goFn Try.prog 131 = true := by kernel_rfl
theorem Trygo132 : goFn Try.prog 132 = true := by kernel_rfl
theorem Trygo133 : goFn Try.prog 133 = true := by kernel_rfl
theorem Trygo134 : goFn Try.prog 134 = true := by kernel_rfl
theorem Trygo135 : goFn Try.prog 135 = true := by kernel_rfl
theorem Trygo136 : goFn Try.prog 136 = true := by kernel_rfl
theorem Trygo137 : goFn Try.prog 137 = true := by kernel_rfl
theorem Trygo138 : goFn Try.prog 138 = true := by kernel_rfl
theorem Trygo139 : goFn Try.prog 139 = true := by kernel_rfl
theorem Trygo140 : goFn Try.prog 140 = true := by kernel_rfl
theorem Trygo141 : goFn Try.prog 141 = true := by kernel_rfl
theorem Trygo142 : goFn Try.prog 142 = true := by kernel_rfl
theorem Trygo143 : goFn Try.prog 143 = true := by kernel_rfl
theorem Trygo144 : goFn Try.prog 144 = true := by kernel_rfl
theorem Trygo145 : goFn Try.prog 145 = true := by kernel_rfl
theorem Trygo146 : goFn Try.prog 146 = true := by kernel_rfl
theorem Trygo147 : goFn Try.prog 147 = true := by kernel_rfl
theorem Trygo148 : goFn Try.prog 148 = true := by kernel_rfl
theorem Trygo149 : goFn Try.prog 149 = true := by kernel_rfl
theorem Trygo150 : goFn Try.prog 150 = true := by kernel_rfl
theorem Trygo151 : goFn Try.prog 151 = true := by kernel_rfl
theorem Trygo152 : goFn Try.prog 152 = true := by kernel_rfl
theorem Trygo153 : goFn Try.prog 153 = true := by kernel_rfl
theorem Trygo154 : goFn Try.prog 154 = true := by kernel_rfl
theorem Trygo155 : goFn Try.prog 155 = true := by kernel_rfl
theorem Trygo156 : goFn Try.prog 156 = true := by kernel_rfl
theorem Trygo157 : goFn Try.prog 157 = true := by kernel_rfl
theorem Trygo158 : goFn Try.prog 158 = true := by kernel_rfl
theorem Trygo159 : goFn Try.prog 159 = true := by kernel_rfl
theorem Trygo160 : goFn Try.prog 160 = true := by kernel_rfl
theorem Trygo161 : goFn Try.prog 161 = true := by kernel_rfl
theorem Trygo162 : goFn Try.prog 162 = true := by kernel_rfl
theorem Trygo163 : goFn Try.prog 163 = true := by kernel_rfl
theorem Trygo164 : goFn Try.prog 164 = true := by kernel_rfl
theorem Trygo165 : goFn Try.prog 165 = true := by kernel_rfl
theorem Trygo166 : goFn Try.prog 166 = true := by kernel_rfl
theorem Trygo167 : goFn Try.prog 167 = true := by kernel_rfl
theorem Trygo168 : goFn Try.prog 168 = true := by kernel_rfl
theorem Trygo171 : goFn Try.prog 171 = true := by kernel_rfl
theorem Trygo172 : goFn Try.prog 172 = true := by kernel_rfl
theorem y2 : type_of% (And.intro @Tryti2 (And.intro @Trytz2 (And.intro @Trytp2 (@Trytk2)))) := And.intro @Tryti2 (And.intro @Trytz2 (And.intro @Trytp2 (@Trytk2)))
theorem y3 : type_of% (And.intro @Tryti3 (And.intro @Trytz3 (And.intro @Trytp3 (@Trytk3)))) := And.intro @Tryti3 (And.intro @Trytz3 (And.intro @Trytp3 (@Trytk3)))
theorem y4 : type_of% (And.intro @Tryti4 (And.intro @Trytz4 (And.intro @Trytp4 (@Trytb4)))) := And.intro @Tryti4 (And.intro @Trytz4 (And.intro @Trytp4 (@Trytb4)))
theorem y5 : type_of% (And.intro @Tryti5 (And.intro @Trytz5 (And.intro @Trytp5 (@Trytk5)))) := And.intro @Tryti5 (And.intro @Trytz5 (And.intro @Trytp5 (@Trytk5)))
theorem y6 : type_of% (And.intro @Tryti6 (And.intro @Trytz6 (And.intro @Trytp6 (@Trytk6)))) := And.intro @Tryti6 (And.intro @Trytz6 (And.intro @Trytp6 (@Trytk6)))
theorem y7 : type_of% (And.intro @Tryti7 (And.intro @Trytf7 (And.intro @Trytz7 (@Trytp7)))) := And.intro @Tryti7 (And.intro @Trytf7 (And.intro @Trytz7 (@Trytp7)))
theorem y8 : type_of% (And.intro @Tryti8 (And.intro @Trytf8 (And.intro @Trytz8 (@Trytp8)))) := And.intro @Tryti8 (And.intro @Trytf8 (And.intro @Trytz8 (@Trytp8)))
theorem y9 : type_of% (And.intro @Tryti9 (And.intro @Trytz9 (And.intro @Trytp9 (@Tryts9)))) := And.intro @Tryti9 (And.intro @Trytz9 (And.intro @Trytp9 (@Tryts9)))
theorem y10 : type_of% (And.intro @Tryti10 (And.intro @Trytz10 (And.intro @Trytp10 (@Tryts10)))) := And.intro @Tryti10 (And.intro @Trytz10 (And.intro @Trytp10 (@Tryts10)))
theorem y11 : type_of% (And.intro @Tryti11 (And.intro @Trytz11 (And.intro @Trytp11 (@Tryts11)))) := And.intro @Tryti11 (And.intro @Trytz11 (And.intro @Trytp11 (@Tryts11)))
theorem y12 : type_of% (And.intro @Tryti12 (And.intro @Trytz12 (And.intro @Trytp12 (@Trytk12)))) := And.intro @Tryti12 (And.intro @Trytz12 (And.intro @Trytp12 (@Trytk12)))
theorem y13 : type_of% (And.intro @Tryti13 (And.intro @Trytf13 (And.intro @Trytz13 (@Trytp13)))) := And.intro @Tryti13 (And.intro @Trytf13 (And.intro @Trytz13 (@Trytp13)))
theorem y14 : type_of% (And.intro @Tryti14 (And.intro @Trytf14 (And.intro @Trytz14 (@Trytp14)))) := And.intro @Tryti14 (And.intro @Trytf14 (And.intro @Trytz14 (@Trytp14)))
theorem y15 : type_of% (And.intro @Tryti15 (And.intro @Trytz15 (@Trytp15))) := And.intro @Tryti15 (And.intro @Trytz15 (@Trytp15))
theorem y16 : type_of% (And.intro @Tryti16 (And.intro @Trytz16 (@Trytp16))) := And.intro @Tryti16 (And.intro @Trytz16 (@Trytp16))
theorem y17 : type_of% (And.intro @Tryti17 (And.intro @Trytz17 (@Trytp17))) := And.intro @Tryti17 (And.intro @Trytz17 (@Trytp17))
theorem y18 : type_of% (And.intro @Tryti18 (And.intro @Trytf18 (And.intro @Trytz18 (@Trytp18)))) := And.intro @Tryti18 (And.intro @Trytf18 (And.intro @Trytz18 (@Trytp18)))
theorem y19 : type_of% (And.intro @Tryti19 (And.intro @Trytf19 (And.intro @Trytz19 (@Trytp19)))) := And.intro @Tryti19 (And.intro @Trytf19 (And.intro @Trytz19 (@Trytp19)))
theorem y21 : type_of% (And.intro @Tryti21 (And.intro @Trytz21 (And.intro @Trytp21 (@Trytk21)))) := And.intro @Tryti21 (And.intro @Trytz21 (And.intro @Trytp21 (@Trytk21)))
theorem y22 : type_of% (And.intro @Tryti22 (And.intro @Tryte22 (And.intro @Trytz22 (@Trytp22)))) := And.intro @Tryti22 (And.intro @Tryte22 (And.intro @Trytz22 (@Trytp22)))
theorem y23 : type_of% (And.intro @Tryti23 (And.intro @Trytf23 (And.intro @Trytz23 (@Trytp23)))) := And.intro @Tryti23 (And.intro @Trytf23 (And.intro @Trytz23 (@Trytp23)))
theorem y24 : type_of% (And.intro @Tryti24 (And.intro @Trytf24 (And.intro @Trytz24 (@Trytp24)))) := And.intro @Tryti24 (And.intro @Trytf24 (And.intro @Trytz24 (@Trytp24)))
theorem y25 : type_of% (And.intro @Tryti25 (And.intro @Tryte25 (And.intro @Trytz25 (@Trytp25)))) := And.intro @Tryti25 (And.intro @Tryte25 (And.intro @Trytz25 (@Trytp25)))
theorem y38 : type_of% (And.intro @Tryti38 (And.intro @Trytz38 (And.intro @Trytp38 (@Trytk38)))) := And.intro @Tryti38 (And.intro @Trytz38 (And.intro @Trytp38 (@Trytk38)))
theorem y41 : type_of% (And.intro @Tryti41 (And.intro @Trytf41 (And.intro @Trytz41 (@Trytp41)))) := And.intro @Tryti41 (And.intro @Trytf41 (And.intro @Trytz41 (@Trytp41)))
theorem y42 : type_of% (And.intro @Tryti42 (And.intro @Trytf42 (And.intro @Trytz42 (@Trytp42)))) := And.intro @Tryti42 (And.intro @Trytf42 (And.intro @Trytz42 (@Trytp42)))
theorem y43 : type_of% (And.intro @Tryti43 (And.intro @Tryte43 (And.intro @Trytz43 (@Trytp43)))) := And.intro @Tryti43 (And.intro @Tryte43 (And.intro @Trytz43 (@Trytp43)))
theorem y52 : type_of% (And.intro @Tryti52 (And.intro @Tryte52 (And.intro @Trytz52 (@Trytp52)))) := And.intro @Tryti52 (And.intro @Tryte52 (And.intro @Trytz52 (@Trytp52)))
theorem y53 : type_of% (And.intro @Tryti53 (And.intro @Tryte53 (And.intro @Trytz53 (@Trytp53)))) := And.intro @Tryti53 (And.intro @Tryte53 (And.intro @Trytz53 (@Trytp53)))
theorem y54 : type_of% (And.intro @Tryti54 (And.intro @Tryte54 (And.intro @Trytz54 (@Trytp54)))) := And.intro @Tryti54 (And.intro @Tryte54 (And.intro @Trytz54 (@Trytp54)))
theorem y55 : type_of% (And.intro @Tryti55 (And.intro @Trytf55 (And.intro @Trytz55 (@Trytp55)))) := And.intro @Tryti55 (And.intro @Trytf55 (And.intro @Trytz55 (@Trytp55)))
theorem y56 : type_of% (And.intro @Tryti56 (And.intro @Trytf56 (And.intro @Trytz56 (@Trytp56)))) := And.intro @Tryti56 (And.intro @Trytf56 (And.intro @Trytz56 (@Trytp56)))
theorem y59 : type_of% (And.intro @Tryti59 (And.intro @Tryte59 (And.intro @Trytz59 (@Trytp59)))) := And.intro @Tryti59 (And.intro @Tryte59 (And.intro @Trytz59 (@Trytp59)))
theorem y60 : type_of% (And.intro @Tryti60 (And.intro @Tryte60 (And.intro @Trytz60 (@Trytp60)))) := And.intro @Tryti60 (And.intro @Tryte60 (And.intro @Trytz60 (@Trytp60)))
theorem y61 : type_of% (And.intro @Tryti61 (And.intro @Tryte61 (And.intro @Trytz61 (@Trytp61)))) := And.intro @Tryti61 (And.intro @Tryte61 (And.intro @Trytz61 (@Trytp61)))
theorem y62 : type_of% (And.intro @Tryti62 (And.intro @Trytf62 (And.intro @Trytz62 (@Trytp62)))) := And.intro @Tryti62 (And.intro @Trytf62 (And.intro @Trytz62 (@Trytp62)))
theorem y63 : type_of% (And.intro @Tryti63 (And.intro @Trytf63 (And.intro @Trytz63 (@Trytp63)))) := And.intro @Tryti63 (And.intro @Trytf63 (And.intro @Trytz63 (@Trytp63)))
theorem y70 : type_of% (And.intro @Tryti70 (And.intro @Trytf70 (And.intro @Trytz70 (@Trytp70)))) := And.intro @Tryti70 (And.intro @Trytf70 (And.intro @Trytz70 (@Trytp70)))
theorem y71 : type_of% (And.intro @Tryti71 (And.intro @Trytf71 (And.intro @Trytz71 (@Trytp71)))) := And.intro @Tryti71 (And.intro @Trytf71 (And.intro @Trytz71 (@Trytp71)))
theorem y73 : type_of% (And.intro @Tryti73 (And.intro @Trytf73 (And.intro @Trytz73 (@Trytp73)))) := And.intro @Tryti73 (And.intro @Trytf73 (And.intro @Trytz73 (@Trytp73)))
theorem y74 : type_of% (And.intro @Tryti74 (And.intro @Trytf74 (And.intro @Trytz74 (@Trytp74)))) := And.intro @Tryti74 (And.intro @Trytf74 (And.intro @Trytz74 (@Trytp74)))
theorem y83 : type_of% (And.intro @Tryti83 (And.intro @Tryte83 (And.intro @Trytz83 (@Trytp83)))) := And.intro @Tryti83 (And.intro @Tryte83 (And.intro @Trytz83 (@Trytp83)))
theorem y86 : type_of% (And.intro @Tryti86 (And.intro @Trytf86 (And.intro @Trytz86 (@Trytp86)))) := And.intro @Tryti86 (And.intro @Trytf86 (And.intro @Trytz86 (@Trytp86)))
theorem y87 : type_of% (And.intro @Tryti87 (And.intro @Trytf87 (And.intro @Trytz87 (@Trytp87)))) := And.intro @Tryti87 (And.intro @Trytf87 (And.intro @Trytz87 (@Trytp87)))
theorem y101 : type_of% (And.intro @Tryti101 (And.intro @Trytz101 (@Trytp101))) := And.intro @Tryti101 (And.intro @Trytz101 (@Trytp101))
theorem y102 : type_of% (And.intro @Tryti102 (And.intro @Tryte102 (And.intro @Trytz102 (@Trytp102)))) := And.intro @Tryti102 (And.intro @Tryte102 (And.intro @Trytz102 (@Trytp102)))
theorem y103 : type_of% (And.intro @Tryti103 (And.intro @Trytf103 (And.intro @Trytz103 (@Trytp103)))) := And.intro @Tryti103 (And.intro @Trytf103 (And.intro @Trytz103 (@Trytp103)))
theorem y104 : type_of% (And.intro @Tryti104 (And.intro @Trytf104 (And.intro @Trytz104 (@Trytp104)))) := And.intro @Tryti104 (And.intro @Trytf104 (And.intro @Trytz104 (@Trytp104)))
theorem y112 : type_of% (And.intro @Tryti112 (And.intro @Tryte112 (And.intro @Trytz112 (@Trytp112)))) := And.intro @Tryti112 (And.intro @Tryte112 (And.intro @Trytz112 (@Trytp112)))
theorem y116 : type_of% (And.intro @Tryti116 (And.intro @Trytf116 (And.intro @Trytz116 (@Trytp116)))) := And.intro @Tryti116 (And.intro @Trytf116 (And.intro @Trytz116 (@Trytp116)))
theorem y117 : type_of% (And.intro @Tryti117 (And.intro @Trytf117 (And.intro @Trytz117 (@Trytp117)))) := And.intro @Tryti117 (And.intro @Trytf117 (And.intro @Trytz117 (@Trytp117)))
theorem y122 : type_of% (And.intro @Tryti122 (And.intro @Trytf122 (And.intro @Trytz122 (@Trytp122)))) := And.intro @Tryti122 (And.intro @Trytf122 (And.intro @Trytz122 (@Trytp122)))
theorem y123 : type_of% (And.intro @Tryti123 (And.intro @Trytf123 (And.intro @Trytz123 (@Trytp123)))) := And.intro @Tryti123 (And.intro @Trytf123 (And.intro @Trytz123 (@Trytp123)))
theorem y128 : type_of% (And.intro @Tryti128 (And.intro @Trytz128 (@Trytp128))) := And.intro @Tryti128 (And.intro @Trytz128 (@Trytp128))
theorem y129 : type_of% (And.intro @Tryti129 (And.intro @Trytf129 (And.intro @Trytz129 (@Trytp129)))) := And.intro @Tryti129 (And.intro @Trytf129 (And.intro @Trytz129 (@Trytp129)))
theorem y130 : type_of% (And.intro @Tryti130 (And.intro @Trytf130 (And.intro @Trytz130 (@Trytp130)))) := And.intro @Tryti130 (And.intro @Trytf130 (And.intro @Trytz130 (@Trytp130)))
theorem y134 : type_of% (And.intro @Tryti134 (And.intro @Trytz134 (@Trytp134))) := And.intro @Tryti134 (And.intro @Trytz134 (@Trytp134))
theorem y137 : type_of% (And.intro @Tryti137 (And.intro @Trytf137 (And.intro @Trytz137 (@Trytp137)))) := And.intro @Tryti137 (And.intro @Trytf137 (And.intro @Trytz137 (@Trytp137)))
theorem y138 : type_of% (And.intro @Tryti138 (And.intro @Trytf138 (And.intro @Trytz138 (@Trytp138)))) := And.intro @Tryti138 (And.intro @Trytf138 (And.intro @Trytz138 (@Trytp138)))
theorem y145 : type_of% (And.intro @Tryti145 (And.intro @Tryte145 (And.intro @Trytz145 (@Trytp145)))) := And.intro @Tryti145 (And.intro @Tryte145 (And.intro @Trytz145 (@Trytp145)))
theorem y155 : type_of% (And.intro @Tryti155 (And.intro @Trytf155 (And.intro @Trytz155 (@Trytp155)))) := And.intro @Tryti155 (And.intro @Trytf155 (And.intro @Trytz155 (@Trytp155)))
theorem y156 : type_of% (And.intro @Tryti156 (And.intro @Trytf156 (And.intro @Trytz156 (@Trytp156)))) := And.intro @Tryti156 (And.intro @Trytf156 (And.intro @Trytz156 (@Trytp156)))
theorem y161 : type_of% (And.intro @Tryti161 (And.intro @Trytz161 (And.intro @Trytp161 (@Trytk161)))) := And.intro @Tryti161 (And.intro @Trytz161 (And.intro @Trytp161 (@Trytk161)))
theorem y162 : type_of% (And.intro @Tryti162 (And.intro @Trytz162 (@Trytp162))) := And.intro @Tryti162 (And.intro @Trytz162 (@Trytp162))
theorem y163 : type_of% (And.intro @Tryti163 (And.intro @Tryte163 (And.intro @Trytz163 (@Trytp163)))) := And.intro @Tryti163 (And.intro @Tryte163 (And.intro @Trytz163 (@Trytp163)))
theorem y164 : type_of% (And.intro @Tryti164 (And.intro @Trytf164 (And.intro @Trytz164 (@Trytp164)))) := And.intro @Tryti164 (And.intro @Trytf164 (And.intro @Trytz164 (@Trytp164)))
theorem y165 : type_of% (And.intro @Tryti165 (And.intro @Trytf165 (And.intro @Trytz165 (@Trytp165)))) := And.intro @Tryti165 (And.intro @Trytf165 (And.intro @Trytz165 (@Trytp165)))
theorem y178 : type_of% (And.intro @Tryti178 (And.intro @Trytz178 (And.intro @Trytp178 (@Trytk178)))) := And.intro @Tryti178 (And.intro @Trytz178 (And.intro @Trytp178 (@Trytk178)))
theorem y186 : type_of% (And.intro @Tryti186 (And.intro @Trytz186 (And.intro @Trytp186 (@Trytk186)))) := And.intro @Tryti186 (And.intro @Trytz186 (And.intro @Trytp186 (@Trytk186)))
theorem y188 : type_of% (And.intro @Tryti188 (And.intro @Trytz188 (And.intro @Trytp188 (@Trytk188)))) := And.intro @Tryti188 (And.intro @Trytz188 (And.intro @Trytp188 (@Trytk188)))
theorem y189 : type_of% (And.intro @Tryti189 (And.intro @Trytz189 (@Trytp189))) := And.intro @Tryti189 (And.intro @Trytz189 (@Trytp189))
theorem y192 : type_of% (And.intro @Tryti192 (And.intro @Trytz192 (And.intro @Trytp192 (@Trytk192)))) := And.intro @Tryti192 (And.intro @Trytz192 (And.intro @Trytp192 (@Trytk192)))
theorem y196 : type_of% (And.intro @Tryti196 (And.intro @Trytz196 (@Trytp196))) := And.intro @Tryti196 (And.intro @Trytz196 (@Trytp196))
theorem y201 : type_of% (And.intro @Tryti201 (And.intro @Trytz201 (@Trytp201))) := And.intro @Tryti201 (And.intro @Trytz201 (@Trytp201))
theorem y203 : type_of% (And.intro @Tryti203 (And.intro @Trytf203 (And.intro @Trytz203 (@Trytp203)))) := And.intro @Tryti203 (And.intro @Trytf203 (And.intro @Trytz203 (@Trytp203)))
theorem y204 : type_of% (And.intro @Tryti204 (And.intro @Trytf204 (And.intro @Trytz204 (@Trytp204)))) := And.intro @Tryti204 (And.intro @Trytf204 (And.intro @Trytz204 (@Trytp204)))
theorem y206 : type_of% (And.intro @Tryti206 (And.intro @Trytf206 (And.intro @Trytz206 (@Trytp206)))) := And.intro @Tryti206 (And.intro @Trytf206 (And.intro @Trytz206 (@Trytp206)))
theorem y207 : type_of% (And.intro @Tryti207 (And.intro @Trytf207 (And.intro @Trytz207 (@Trytp207)))) := And.intro @Tryti207 (And.intro @Trytf207 (And.intro @Trytz207 (@Trytp207)))
theorem y209 : type_of% (And.intro @Tryti209 (And.intro @Trytz209 (And.intro @Trytp209 (@Trytk209)))) := And.intro @Tryti209 (And.intro @Trytz209 (And.intro @Trytp209 (@Trytk209)))
theorem y210 : type_of% (And.intro @Tryti210 (And.intro @Trytz210 (And.intro @Trytp210 (@Trytk210)))) := And.intro @Tryti210 (And.intro @Trytz210 (And.intro @Trytp210 (@Trytk210)))
theorem y212 : type_of% (And.intro @Tryti212 (And.intro @Trytz212 (And.intro @Trytp212 (@Trytk212)))) := And.intro @Tryti212 (And.intro @Trytz212 (And.intro @Trytp212 (@Trytk212)))
theorem y213 : type_of% (And.intro @Tryti213 (And.intro @Trytz213 (And.intro @Trytp213 (@Trytk213)))) := And.intro @Tryti213 (And.intro @Trytz213 (And.intro @Trytp213 (@Trytk213)))
theorem y214 : type_of% (And.intro @Tryti214 (And.intro @Trytf214 (And.intro @Trytz214 (@Trytp214)))) := And.intro @Tryti214 (And.intro @Trytf214 (And.intro @Trytz214 (@Trytp214)))
theorem y215 : type_of% (And.intro @Tryti215 (And.intro @Trytf215 (And.intro @Trytz215 (@Trytp215)))) := And.intro @Tryti215 (And.intro @Trytf215 (And.intro @Trytz215 (@Trytp215)))
theorem y216 : type_of% (And.intro @Tryti216 (And.intro @Trytf216 (And.intro @Trytz216 (@Trytp216)))) := And.intro @Tryti216 (And.intro @Trytf216 (And.intro @Trytz216 (@Trytp216)))
theorem y217 : type_of% (And.intro @Tryti217 (And.intro @Trytf217 (And.intro @Trytz217 (@Trytp217)))) := And.intro @Tryti217 (And.intro @Trytf217 (And.intro @Trytz217 (@Trytp217)))
theorem y218 : type_of% (And.intro @Tryti218 (And.intro @Trytf218 (And.intro @Trytz218 (@Trytp218)))) := And.intro @Tryti218 (And.intro @Trytf218 (And.intro @Trytz218 (@Trytp218)))
theorem y219 : type_of% (And.intro @Tryti219 (And.intro @Trytf219 (And.intro @Trytz219 (@Trytp219)))) := And.intro @Tryti219 (And.intro @Trytf219 (And.intro @Trytz219 (@Trytp219)))
end Go.Abs
set_option maxRecDepth 4000
namespace Go.Abs
open Go.Proofs

theorem bel_Ty (n : Nat) (us : List Ty) : Bel n (.slice (us.map Ty.enc) .none) := bel_slice_ty n us
theorem bel_Int (n : Nat) (us : List Int) : Bel n (.slice (us.map vint) .none) := bel_ints0 n us

theorem index (xs : List Int) (n : Int) (hx : xs.length ≤ maxLen) : PC Try.prog 78 [.slice (xs.map vint) .none, vint n] (vint (idxI (fun x => decide (n = x)) xs)) := by
  refine pc_of (N := 19) Try.func78 rfl rfl (by simp) (by simp [bel_ints0, Bel.int]) (.int _ _) ?_
  repeat (refine awp_seq ?_)
  refine e_eval (by simp only [jA, jO, jN, seval, vint, TyS, TyF] <;> with_reducible rfl) (by decide) ?_
  repeat (refine awp_seq ?_)
  refine e_eval (by simp only [jA, jO, jN, seval, y3, y25, vint, TyS, TyF] <;> with_reducible rfl) (by decide) ?_
  repeat (refine awp_seq ?_)
  refine awp_forS (σ := Unit) (xs.length) (fun (s : Unit) => [(0, .slice (xs.map vint) .none), (1, vint n)]) [0, 1] ([]) (fun (s : Unit) => []) (fun (i : Nat) (s : Unit) => (xs.take i).any (fun x => decide (n = x)) = false) (()) ([]) rfl rfl rfl rfl rfl rfl rfl rfl rfl (by decide) (by decide) (by decide) (fun _ => rfl) (hx) ⟨(by first | rfl | (simp only [jN, seval, vint, TyS, TyF] <;> first | done | with_reducible rfl)), (by first | rfl | (simp only [jN, seval, vint, TyS, TyF] <;> first | done | with_reducible rfl)), (by first | rfl | (simp only [jN, seval, vint, TyS, TyF] <;> first | done | with_reducible rfl)), (by first | rfl | (simp only [jN, seval, vint, TyS, TyF] <;> first | done | with_reducible rfl)), trivial⟩ (by first | rfl | (simp only [jN, seval, vint, TyS, TyF] <;> first | done | with_reducible rfl)) (by simp) (fun _ _ _ => by first | exact Nat.zero_le _ | (simp only [List.length_append]; omega)) ?_ ?_ ?_
  · exact fun i s hg => ⟨by first | exact hbel_nil _ | (simp only [List.append_nil]; assumption) | (refine hbel_app' hb' (by simp) ?_; repeat (first | exact hbel_nil _ | exact trivial | exact obel_row_nil _ | (refine HBel.cons ?_ ?_) | (refine obel_row_cons (by first | exact bel_ints0 _ _ | exact bel_slice_ty _ _ | exact Ty.bel _ _ | exact bel_ty_tok _ (by simp) | exact Bel.int _ _ | exact Bel.bool _ | exact Bel.str _ | exact Bel.nilp | exact Bel.nilfn | exact Bel.optr _ _ (by simp) | exact bel_nil0 _ | exact bel_nil1 _ | exact bel_fn0 _ _ | assumption) ?_))), by repeat (first | exact BelL.nil | refine BelL.cons (by first | exact bel_ints0 _ _ | exact bel_slice_ty _ _ | exact Ty.bel _ _ | exact bel_ty_tok _ (by simp) | exact Bel.int _ _ | exact Bel.bool _ | exact Bel.str _ | exact Bel.nilp | exact Bel.nilfn | exact Bel.optr _ _ (by simp) | exact bel_nil0 _ | exact bel_nil1 _ | exact bel_fn0 _ _ | assumption) ?_)⟩
  · intro i s hi hg
    have g1 := ix_nat hi
    have g2 := get_enc vint hi
    repeat (refine awp_seq ?_)
    refine e_eval (by simp only [jA, jO, jN, seval, vint, TyS, TyF, g1, Int.toNat_natCast, g2] <;> with_reducible rfl) (by decide) ?_
    repeat (refine awp_seq ?_)
    refine e_eval (by simp only [jA, jO, jN, seval, y3, y25, vint, TyS, TyF, g1, Int.toNat_natCast, g2] <;> with_reducible rfl) (by decide) ?_
    repeat (refine awp_seq ?_)
    refine awp_cond rfl (by simp only [jN, seval, vint, TyS, TyF, g1, Int.toNat_natCast, g2] <;> with_reducible rfl) (fun b0 => ?_) (fun b0 => ?_)
    ·
      repeat (refine awp_seq ?_)
      refine e_eval (by simp only [jA, jO, jN, seval, vint, TyS, TyF, g1, Int.toNat_natCast, g2] <;> with_reducible rfl) (by decide) ?_
      repeat (refine awp_seq ?_)
      refine awp_ret ⟨.inr rfl, _, rfl, ?_⟩
      rw [idxI_at hi b0 hg]; rfl
    ·
      repeat (refine awp_seq ?_)
      refine awp_skip ?_
      exact ⟨⟨rfl, rfl, trivial⟩, (), [], ⟨rfl, rfl, trivial⟩, rfl, any_take_succ hi hg b0⟩
  · intro s hg
    rw [List.take_length] at hg
    repeat (refine awp_seq ?_)
    refine e_eval (by simp only [jA, jO, jN, seval, vint, TyS, TyF] <;> with_reducible rfl) (by decide) ?_
    repeat (refine awp_seq ?_)
    refine awp_ret ⟨.inr rfl, _, rfl, ?_⟩
    rw [idxI_none hg]; rfl

theorem indexFuncTy {f : FuncId} {caps : List PV} {H : Heap} {us : List Ty} {p : Ty → Bool} (hc : CloB Try.prog Ty.enc f caps H us p) (hl : us.length ≤ maxLen) : ACalls Try.prog 123 [.slice (us.map Ty.enc) .none, .fn (.func f) [] caps] H fun r' H' => r' = vint (idxI p us) ∧ H' = H := by
  have hgo := hc.go
  refine keeps_of (N := 19) Try.func123 rfl rfl (by simp) (.int _ _) fun hb' => ?_
  repeat (refine awp_seq ?_)
  refine e_eval (by simp only [jA, jO, jN, seval, vint, TyS, TyF] <;> with_reducible rfl) (by decide) ?_
  repeat (refine awp_seq ?_)
  refine e_eval (by simp only [jA, jO, jN, seval, y22, y24, vint, TyS, TyF] <;> with_reducible rfl) (by decide) ?_
  repeat (refine awp_seq ?_)
  refine awp_forS (σ := Unit) (us.length) (fun (s : Unit) => [(0, .slice (us.map Ty.enc) .none), (1, .fn (.func f) [] caps)]) [0, 1] (H) (fun (s : Unit) => []) (fun (i : Nat) (s : Unit) => (us.take i).any p = false) (()) ([]) rfl rfl rfl rfl rfl rfl rfl rfl rfl (by decide) (by decide) (by decide) (fun _ => rfl) (hl) ⟨(by first | rfl | (simp only [jN, seval, vint, TyS, TyF] <;> first | done | with_reducible rfl)), (by first | rfl | (simp only [jN, seval, vint, TyS, TyF] <;> first | done | with_reducible rfl)), (by first | rfl | (simp only [jN, seval, vint, TyS, TyF] <;> first | done | with_reducible rfl)), (by first | rfl | (simp only [jN, seval, vint, TyS, TyF] <;> first | done | with_reducible rfl)), trivial⟩ (by first | rfl | (simp only [jN, seval, vint, TyS, TyF] <;> first | done | with_reducible rfl)) (by simp) (fun _ _ _ => by first | exact Nat.zero_le _ | (simp only [List.length_append]; omega)) ?_ ?_ ?_
  · exact fun i s hg => ⟨by simp only [List.append_nil]; exact hb', .cons (bel_Ty _ _) (.cons (.fn _ _ _ (by simp) (fun c hc' => (hc.bel c hc').mono (by simp))) .nil)⟩
  · intro i s hi hg
    have g1 := ix_nat hi
    have g2 := get_enc Ty.enc hi
    repeat (refine awp_seq ?_)
    refine e_eval (by simp only [jA, jO, jN, seval, vint, TyS, TyF, g1, Int.toNat_natCast, g2] <;> with_reducible rfl) (by decide) ?_
    repeat (refine awp_seq ?_)
    refine awp_region ?_
    refine e_take 5 (by simp only [jA, jO, jN, seval, y22, y24, vint, TyS, TyF, g1, Int.toNat_natCast, g2] <;> with_reducible rfl) (by decide) ?_
    refine aops_pure (by simp only [jC, jN, seval, vint, TyS, TyF, g1, Int.toNat_natCast, g2] <;> with_reducible rfl) (by simp only [jC, jN, seval, vint, TyS, TyF, g1, Int.toNat_natCast, g2]) (by decide) (by assumption) (hc.call _ (List.getElem_mem hi)) ?_
    refine aops_nil ?_
    repeat (refine awp_seq ?_)
    refine awp_cond rfl (by simp only [jN, seval, vint, TyS, TyF, g1, Int.toNat_natCast, g2] <;> with_reducible rfl) (fun b0 => ?_) (fun b0 => ?_)
    ·
      repeat (refine awp_seq ?_)
      refine e_eval (by simp only [jA, jO, jN, seval, vint, TyS, TyF, g1, Int.toNat_natCast, g2] <;> with_reducible rfl) (by decide) ?_
      repeat (refine awp_seq ?_)
      refine awp_ret ⟨.inr rfl, _, _, rfl, ?_, (by first | exact (List.append_nil _).symm | rfl)⟩
      rw [idxI_at hi b0 hg]; rfl
    ·
      repeat (refine awp_seq ?_)
      refine awp_skip ?_
      exact ⟨⟨rfl, rfl, trivial⟩, (), [], ⟨rfl, rfl, trivial⟩, by simp only [List.append_nil], any_take_succ hi hg b0⟩
  · intro s hg
    rw [List.take_length] at hg
    repeat (refine awp_seq ?_)
    refine e_eval (by simp only [jA, jO, jN, seval, vint, TyS, TyF] <;> with_reducible rfl) (by decide) ?_
    repeat (refine awp_seq ?_)
    refine awp_ret ⟨.inr rfl, _, _, rfl, ?_, (by first | exact (List.append_nil _).symm | rfl)⟩
    rw [idxI_none hg]; rfl

theorem containsFuncTy {f : FuncId} {caps : List PV} {H : Heap} {us : List Ty} {p : Ty → Bool} (hc : CloB Try.prog Ty.enc f caps H us p) (hl : us.length ≤ maxLen) : ACalls Try.prog 81 [.slice (us.map Ty.enc) .none, .fn (.func f) [] caps] H fun r' H' => r' = .bool (us.any p) ∧ H' = H := by
  refine keeps_of (N := 9) Try.func81 rfl rfl (by simp) (.bool _) fun hb' => ?_
  repeat (refine awp_seq ?_)
  refine e_eval (by simp only [jA, jO, jN, seval, vint, TyS, TyF] <;> with_reducible rfl) (by decide) ?_
  repeat (refine awp_seq ?_)
  refine awp_region ?_
  refine e_take 2 (by simp only [jA, jO, jN, seval, vint, TyS, TyF] <;> with_reducible rfl) (by decide) ?_
  refine aops_pure (by simp only [jC, jN, seval, vint, TyS, TyF] <;> with_reducible rfl) (by simp only [jC, jN, seval, vint, TyS, TyF]) (by decide) Trygo123 (indexFuncTy hc hl) ?_
  refine e_end (by simp only [jA, jO, jN, seval, y3, vint, TyS, TyF] <;> with_reducible rfl) (by decide) ?_
  repeat (refine awp_seq ?_)
  refine awp_ret ⟨.inr rfl, _, _, rfl, ?_, (by first | exact (List.append_nil _).symm | rfl)⟩
  rw [← idxI_nonneg]; rfl

theorem indexFuncInt {f : FuncId} {caps : List PV} {H : Heap} {us : List Int} {p : Int → Bool} (hc : CloB Try.prog vint f caps H us p) (hl : us.length ≤ maxLen) : ACalls Try.prog 80 [.slice (us.map vint) .none, .fn (.func f) [] caps] H fun r' H' => r' = vint (idxI p us) ∧ H' = H := by
  have hgo := hc.go
  refine keeps_of (N := 19) Try.func80 rfl rfl (by simp) (.int _ _) fun hb' => ?_
  repeat (refine awp_seq ?_)
  refine e_eval (by simp only [jA, jO, jN, seval, vint, TyS, TyF] <;> with_reducible rfl) (by decide) ?_
  repeat (refine awp_seq ?_)
  refine e_eval (by simp only [jA, jO, jN, seval, y3, y25, vint, TyS, TyF] <;> with_reducible rfl) (by decide) ?_
  repeat (refine awp_seq ?_)
  refine awp_forS (σ := Unit) (us.length) (fun (s : Unit) => [(0, .slice (us.map vint) .none), (1, .fn (.func f) [] caps)]) [0, 1] (H) (fun (s : Unit) => []) (fun (i : Nat) (s : Unit) => (us.take i).any p = false) (()) ([]) rfl rfl rfl rfl rfl rfl rfl rfl rfl (by decide) (by decide) (by decide) (fun _ => rfl) (hl) ⟨(by first | rfl | (simp only [jN, seval, vint, TyS, TyF] <;> first | done | with_reducible rfl)), (by first | rfl | (simp only [jN, seval, vint, TyS, TyF] <;> first | done | with_reducible rfl)), (by first | rfl | (simp only [jN, seval, vint, TyS, TyF] <;> first | done | with_reducible rfl)), (by first | rfl | (simp only [jN, seval, vint, TyS, TyF] <;> first | done | with_reducible rfl)), trivial⟩ (by first | rfl | (simp only [jN, seval, vint, TyS, TyF] <;> first | done | with_reducible rfl)) (by simp) (fun _ _ _ => by first | exact Nat.zero_le _ | (simp only [List.length_append]; omega)) ?_ ?_ ?_
  · exact fun i s hg => ⟨by simp only [List.append_nil]; exact hb', .cons (bel_Int _ _) (.cons (.fn _ _ _ (by simp) (fun c hc' => (hc.bel c hc').mono (by simp))) .nil)⟩
  · intro i s hi hg
    have g1 := ix_nat hi
    have g2 := get_enc vint hi
    repeat (refine awp_seq ?_)
    refine e_eval (by simp only [jA, jO, jN, seval, vint, TyS, TyF, g1, Int.toNat_natCast, g2] <;> with_reducible rfl) (by decide) ?_
    repeat (refine awp_seq ?_)
    refine awp_region ?_
    refine e_take 5 (by simp only [jA, jO, jN, seval, y3, y25, vint, TyS, TyF, g1, Int.toNat_natCast, g2] <;> with_reducible rfl) (by decide) ?_
    refine aops_pure (by simp only [jC, jN, seval, vint, TyS, TyF, g1, Int.toNat_natCast, g2] <;> with_reducible rfl) (by simp only [jC, jN, seval, vint, TyS, TyF, g1, Int.toNat_natCast, g2]) (by decide) (by assumption) (hc.call _ (List.getElem_mem hi)) ?_
    refine aops_nil ?_
    repeat (refine awp_seq ?_)
    refine awp_cond rfl (by simp only [jN, seval, vint, TyS, TyF, g1, Int.toNat_natCast, g2] <;> with_reducible rfl) (fun b0 => ?_) (fun b0 => ?_)
    ·
      repeat (refine awp_seq ?_)
      refine e_eval (by simp only [jA, jO, jN, seval, vint, TyS, TyF, g1, Int.toNat_natCast, g2] <;> with_reducible rfl) (by decide) ?_
      repeat (refine awp_seq ?_)
      refine awp_ret ⟨.inr rfl, _, _, rfl, ?_, (by first | exact (List.append_nil _).symm | rfl)⟩
      rw [idxI_at hi b0 hg]; rfl
    ·
      repeat (refine awp_seq ?_)
      refine awp_skip ?_
      exact ⟨⟨rfl, rfl, trivial⟩, (), [], ⟨rfl, rfl, trivial⟩, by simp only [List.append_nil], any_take_succ hi hg b0⟩
  · intro s hg
    rw [List.take_length] at hg
    repeat (refine awp_seq ?_)
    refine e_eval (by simp only [jA, jO, jN, seval, vint, TyS, TyF] <;> with_reducible rfl) (by decide) ?_
    repeat (refine awp_seq ?_)
    refine awp_ret ⟨.inr rfl, _, _, rfl, ?_, (by first | exact (List.append_nil _).symm | rfl)⟩
    rw [idxI_none hg]; rfl

theorem containsFuncInt {f : FuncId} {caps : List PV} {H : Heap} {us : List Int} {p : Int → Bool} (hc : CloB Try.prog vint f caps H us p) (hl : us.length ≤ maxLen) : ACalls Try.prog 25 [.slice (us.map vint) .none, .fn (.func f) [] caps] H fun r' H' => r' = .bool (us.any p) ∧ H' = H := by
  refine keeps_of (N := 9) Try.func25 rfl rfl (by simp) (.bool _) fun hb' => ?_
  repeat (refine awp_seq ?_)
  refine e_eval (by simp only [jA, jO, jN, seval, vint, TyS, TyF] <;> with_reducible rfl) (by decide) ?_
  repeat (refine awp_seq ?_)
  refine awp_region ?_
  refine e_take 2 (by simp only [jA, jO, jN, seval, vint, TyS, TyF] <;> with_reducible rfl) (by decide) ?_
  refine aops_pure (by simp only [jC, jN, seval, vint, TyS, TyF] <;> with_reducible rfl) (by simp only [jC, jN, seval, vint, TyS, TyF]) (by decide) Trygo80 (indexFuncInt hc hl) ?_
  refine e_end (by simp only [jA, jO, jN, seval, y3, vint, TyS, TyF] <;> with_reducible rfl) (by decide) ?_
  repeat (refine awp_seq ?_)
  refine awp_ret ⟨.inr rfl, _, _, rfl, ?_, (by first | exact (List.append_nil _).symm | rfl)⟩
  rw [← idxI_nonneg]; rfl

theorem equalFunc (us vs : List Ty) (g : Ty → Ty → Bool) (f : FuncId) (hgo : goFn Try.prog f = true) (ha : us.length ≤ maxLen) (hf : ∀ a ∈ us, ∀ b ∈ vs, PC Try.prog f [a.enc, b.enc] (.bool (g a b))) : PC Try.prog 75 [.slice (us.map Ty.enc) .none, .slice (vs.map Ty.enc) .none, .fn (.func f) [] []] (.bool (all2 g us vs)) := by
  refine pc_of (N := 32) Try.func75 rfl rfl (by simp) (by simp [bel_slice_ty, bel_fn0]) (.bool _) ?_
  repeat (refine awp_seq ?_)
  refine e_eval (by simp only [jA, jO, jN, seval, vint, TyS, TyF] <;> with_reducible rfl) (by decide) ?_
  repeat (refine awp_seq ?_)
  refine e_eval (by simp only [jA, jO, jN, seval, y3, y22, y24, vint, TyS, TyF] <;> with_reducible rfl) (by decide) ?_
  repeat (refine awp_seq ?_)
  refine awp_cond rfl (by simp only [jN, seval, vint, TyS, TyF] <;> with_reducible rfl) (fun b0 => ?_) (fun b0 => ?_)
  ·
    repeat (refine awp_seq ?_)
    refine e_eval (by simp only [jA, jO, jN, seval, vint, TyS, TyF] <;> with_reducible rfl) (by decide) ?_
    repeat (refine awp_seq ?_)
    refine awp_ret ⟨.inr rfl, _, rfl, ?_⟩
    have : us.length ≠ vs.length := by simp at b0; omega
    simp [all2, this, upd_apply, PV.drop1]
  ·
    have hlen : us.length = vs.length := by simp at b0; omega
    repeat (refine awp_seq ?_)
    refine awp_skip ?_
    repeat (refine awp_seq ?_)
    refine e_eval (by simp only [jA, jO, jN, seval, y22, y24, vint, TyS, TyF] <;> with_reducible rfl) (by decide) ?_
    repeat (refine awp_seq ?_)
    refine awp_forS (σ := Unit) (us.length) (fun (s : Unit) => [(1, .slice (vs.map Ty.enc) .none), (2, .fn (.func f) [] []), (15, .slice (us.map Ty.enc) .none)]) [1, 2, 15] ([]) (fun (s : Unit) => []) (fun (i : Nat) (s : Unit) => ((us.zip vs).take i).all (fun p => g p.1 p.2) = true) (()) ([]) rfl rfl rfl rfl rfl rfl rfl rfl rfl (by decide) (by decide) (by decide) (fun _ => rfl) (ha) ⟨(by first | rfl | (simp only [jN, seval, vint, TyS, TyF] <;> first | done | with_reducible rfl)), (by first | rfl | (simp only [jN, seval, vint, TyS, TyF] <;> first | done | with_reducible rfl)), (by first | rfl | (simp only [jN, seval, vint, TyS, TyF] <;> first | done | with_reducible rfl)), (by first | rfl | (simp only [jN, seval, vint, TyS, TyF] <;> first | done | with_reducible rfl)), (by first | rfl | (simp only [jN, seval, vint, TyS, TyF] <;> first | done | with_reducible rfl)), trivial⟩ (by first | rfl | (simp only [jN, seval, vint, TyS, TyF] <;> first | done | with_reducible rfl)) (by simp) (fun _ _ _ => by first | exact Nat.zero_le _ | (simp only [List.length_append]; omega)) ?_ ?_ ?_
    · exact fun i s hg => ⟨by first | exact hbel_nil _ | (simp only [List.append_nil]; assumption) | (refine hbel_app' hb' (by simp) ?_; repeat (first | exact hbel_nil _ | exact trivial | exact obel_row_nil _ | (refine HBel.cons ?_ ?_) | (refine obel_row_cons (by first | exact bel_ints0 _ _ | exact bel_slice_ty _ _ | exact Ty.bel _ _ | exact bel_ty_tok _ (by simp) | exact Bel.int _ _ | exact Bel.bool _ | exact Bel.str _ | exact Bel.nilp | exact Bel.nilfn | exact Bel.optr _ _ (by simp) | exact bel_nil0 _ | exact bel_nil1 _ | exact bel_fn0 _ _ | assumption) ?_))), by repeat (first | exact BelL.nil | refine BelL.cons (by first | exact bel_ints0 _ _ | exact bel_slice_ty _ _ | exact Ty.bel _ _ | exact bel_ty_tok _ (by simp) | exact Bel.int _ _ | exact Bel.bool _ | exact Bel.str _ | exact Bel.nilp | exact Bel.nilfn | exact Bel.optr _ _ (by simp) | exact bel_nil0 _ | exact bel_nil1 _ | exact bel_fn0 _ _ | assumption) ?_)⟩
    · intro i s hi hg
      have g1 := ix_nat hi
      have hi2 : i < vs.length := by omega
      have g3 := ix_nat hi2
      have g2 := get_enc Ty.enc hi
      have g4 := get_enc Ty.enc hi2
      repeat (refine awp_seq ?_)
      refine e_eval (by simp only [jA, jO, jN, seval, y22, y24, vint, TyS, TyF, g1, Int.toNat_natCast, g2, g3, g4] <;> with_reducible rfl) (by decide) ?_
      repeat (refine awp_seq ?_)
      refine e_eval (by simp only [jA, jO, jN, seval, y22, y24, vint, TyS, TyF, g1, Int.toNat_natCast, g2, g3, g4] <;> with_reducible rfl) (by decide) ?_
      repeat (refine awp_seq ?_)
      refine awp_region ?_
      refine e_take 3 (by simp only [jA, jO, jN, seval, y24, vint, TyS, TyF, g1, Int.toNat_natCast, g2, g3, g4] <;> with_reducible rfl) (by decide) ?_
      refine aops_pure (by simp only [jC, jN, seval, vint, TyS, TyF, g1, Int.toNat_natCast, g2, g3, g4] <;> with_reducible rfl) (by simp only [jC, jN, seval, vint, TyS, TyF, g1, Int.toNat_natCast, g2, g3, g4]) (by decide) (by assumption) (hf us[i] (List.getElem_mem hi) vs[i] (List.getElem_mem hi2) _) ?_
      refine e_end (by simp only [jA, jO, jN, seval, vint, TyS, TyF, g1, Int.toNat_natCast, g2, g3, g4] <;> with_reducible rfl) (by decide) ?_
      repeat (refine awp_seq ?_)
      refine awp_cond rfl (by simp only [jN, seval, vint, TyS, TyF, g1, Int.toNat_natCast, g2, g3, g4] <;> with_reducible rfl) (fun b1 => ?_) (fun b1 => ?_)
      ·
        refine awp_sel [1, 2, 15, 16, 17] (by simp only [jN, seval, vint, TyS, TyF, g1, Int.toNat_natCast, g2, g3, g4] <;> with_reducible rfl) ?_
        repeat (refine awp_seq ?_)
        refine e_eval (by simp only [jA, jO, jN, seval, vint, TyS, TyF, g1, Int.toNat_natCast, g2, g3, g4] <;> with_reducible rfl) (by decide) ?_
        repeat (refine awp_seq ?_)
        refine awp_ret ⟨.inr rfl, _, rfl, ?_⟩
        have hgf : g us[i] vs[i] = false := by simpa using b1
        have hmem : (us[i], vs[i]) ∈ us.zip vs := by
          rw [List.mem_iff_getElem]; exact ⟨i, by simp; omega, by simp⟩
        have : ((us.zip vs).all fun p => g p.1 p.2) = false := by
          rw [List.all_eq_false]; exact ⟨_, hmem, by simp [hgf]⟩
        simp [all2, this, upd_apply, PV.drop1]
      ·
        repeat (refine awp_seq ?_)
        refine awp_skip ?_
        have hgt : g us[i] vs[i] = true := by simpa using b1
        exact ⟨⟨rfl, rfl, trivial⟩, (), _, ⟨rfl, rfl, rfl, trivial⟩, rfl, all_take_succ (by simp; omega) hg (by simpa using hgt)⟩
    · intro s hg
      repeat (refine awp_seq ?_)
      refine e_eval (by simp only [jA, jO, jN, seval, vint, TyS, TyF] <;> with_reducible rfl) (by decide) ?_
      repeat (refine awp_seq ?_)
      refine awp_ret ⟨.inr rfl, _, rfl, ?_⟩
      rw [List.take_of_length_le (by simp; omega)] at hg
      simp [all2, hlen, hg, upd_apply, PV.drop1]

theorem equal_k : ∀ (k : Nat) (a b : Ty), a.size ≤ k → a.W → PC Try.prog 23 [a.enc, b.enc] (.bool (a.eqb b))
  | 0, a, b, h, _ => by cases a; simp [Ty.size] at h
  | k + 1, a, b, h, hw => by
    have ih := equalFunc a.args b.args Ty.eqb 23 Trygo23 hw.lenMax (fun u hu v _ => equal_k k u v (by have := Ty.size_arg hu; omega) (hw.arg hu))
    refine pc_of (N := 24) Try.func23 rfl rfl (by simp) (by simp [Ty.bel]) (.bool _) ?_
    repeat (refine awp_seq ?_)
    refine e_eval (by simp only [jA, jO, jN, seval, y24, vint, TyS, TyF] <;> with_reducible rfl) (by decide) ?_
    repeat (refine awp_seq ?_)
    refine awp_region ?_
    refine aops_gstart ?_
    refine g_take 17 (by simp only [jG, jO, jN, seval, y3, y22, y24, vint, TyS, TyF] <;> with_reducible rfl) (by decide) ?_
    refine aops_gpure (by simp only [jE, jN, seval, vint, TyS, TyF] <;> with_reducible rfl) (by simp only [jE, jN, seval, vint, TyS, TyF] <;> with_reducible rfl) (by simp only [jE, jN, seval, vint, TyS, TyF]) (by decide) Trygo75 (fun hc => ih _) ?_
    refine g_end (by simp only [jG, jO, jN, seval, vint, TyS, TyF] <;> with_reducible rfl) (by decide) (by repeat (first | exact Fin.base _ | with_reducible apply Fin.keep | apply Fin.drop)) ?_
    repeat (refine awp_seq ?_)
    refine awp_ret ⟨.inr rfl, _, rfl, ?_⟩
    simp [upd_apply, PV.drop1, Ty.eqb_eq, eqbs_all2, Bool.and_assoc]

theorem equal_any (a b : Ty) (hw : a.W) : PC Try.prog 23 [a.enc, b.enc] (.bool (a.eqb b)) := equal_k a.size a b (Nat.le_refl _) hw

/-- A function value over a heap: what it reads, what it answers. -/
structure Clo (P : Program) (f : FuncId) (caps : List PV) (rd : List (Nat × AObj)) (D : Ty → Prop) (g : Ty → Ty × Bool) : Prop where
  go : goFn P f = true
  bel : ∀ H : Heap, (∀ x ∈ rd, H[x.1]? = some x.2) → ∀ c ∈ caps, Bel H.length c
  sub : ∀ t, D t → ∀ u ∈ t.args, D u
  call : ∀ (H : Heap) (u : Ty), D u → (∀ x ∈ rd, H[x.1]? = some x.2) → ACalls P f (u.enc :: caps) H fun r' H' => r' = .tup [(g u).1.enc, .bool (g u).2] ∧ H' = H

theorem reads_app {rd : List (Nat × AObj)} {H : Heap} (h : ∀ x ∈ rd, H[x.1]? = some x.2) (L : Heap) : ∀ x ∈ rd, (H ++ L)[x.1]? = some x.2 := fun x hx => by
  have := h x hx
  rw [List.getElem?_append_left (len_of_get this)]; exact this

theorem map_k {f : FuncId} {caps : List PV} {rd : List (Nat × AObj)} {D : Ty → Prop} {g : Ty → Ty × Bool} (hc : Clo Try.prog f caps rd D g) :
    ∀ (k : Nat) (t : Ty) (H : Heap), t.size ≤ k → t.W → D t → (∀ x ∈ rd, H[x.1]? = some x.2) → ACalls Try.prog 76 [t.enc, .fn (.func f) [] caps] H fun r' H' => r' = (mapT g t).enc ∧ H' = H
  | 0, t, H, h, _, _, _ => by cases t; simp [Ty.size] at h
  | k + 1, t, H, h, hw, hd, hrd => by
    have hgo := hc.go
    refine keeps_of (N := 40) Try.func76 rfl rfl (by simp) (Ty.bel _ _) fun hb' => ?_
    repeat (refine awp_seq ?_)
    refine e_eval (by simp only [jA, jO, jN, seval, y24, vint, TyS, TyF] <;> with_reducible rfl) (by decide) ?_
    repeat (refine awp_seq ?_)
    refine awp_region ?_
    refine e_take 2 (by simp only [jA, jO, jN, seval, y24, vint, TyS, TyF] <;> with_reducible rfl) (by decide) ?_
    refine aops_pure (by simp only [jC, jN, seval, vint, TyS, TyF] <;> with_reducible rfl) (by simp only [jC, jN, seval, vint, TyS, TyF]) (by decide) (by assumption) (hc.call _ t hd (reads_app hrd _)) ?_
    refine e_end (by simp only [jA, jO, jN, seval, y24, vint, TyS, TyF] <;> with_reducible rfl) (by decide) ?_
    repeat (refine awp_seq ?_)
    refine e_eval (by simp only [jA, jO, jN, seval, vint, TyS, TyF] <;> with_reducible rfl) (by decide) ?_
    repeat (refine awp_seq ?_)
    refine awp_cond rfl (by simp only [jN, seval, vint, TyS, TyF] <;> with_reducible rfl) (fun b0 => ?_) (fun b0 => ?_)
    ·
      repeat (refine awp_seq ?_)
      refine e_eval (by simp only [jA, jO, jN, seval, y24, vint, TyS, TyF] <;> with_reducible rfl) (by decide) ?_
      repeat (refine awp_seq ?_)
      refine awp_ret ⟨.inr rfl, _, _, (ares_cell 4 24 rfl Tryti24 (by decide) (by simp only [jL, jN, seval, vint, TyS, TyF] <;> with_reducible rfl)), ?_, (by first | exact (List.append_nil _).symm | rfl)⟩
      simp only [TyF, mapT_eq g t, b0, if_true, d1_agg, LS]
      exact Ty.enc_drop1 _
    ·
      repeat (refine awp_seq ?_)
      refine awp_skip ?_
      repeat (refine awp_seq ?_)
      refine e_eval (by simp only [jA, jO, jN, seval, y3, y24, vint, TyS, TyF] <;> with_reducible rfl) (by decide) ?_
      refine awp_sel [1, 2, 4, 7] (by simp only [jN, seval, vint, TyS, TyF] <;> with_reducible rfl) ?_
      repeat (refine awp_seq ?_)
      refine e_eval (by simp only [jA, jO, jN, seval, y22, y24, vint, TyS, TyF] <;> with_reducible rfl) (by decide) ?_
      repeat (refine awp_seq ?_)
      refine awp_retok_row (H.length + 3) 2 3 (by simp only [jD, jO, jN, seval, vint, TyS, TyF] <;> with_reducible rfl) rfl ?_
      refine awp_forS (σ := List Ty) (t.args.length) (fun (s : List Ty) => [(1, .fn (.func f) [] caps), (4, .optr (H.length + 1) 0), (7, .optr (H.length + 3) 0), (24, .slice (t.args.map Ty.enc) .none)]) [1, 4, 7, 24] (H) (fun (s : List Ty) => [.row t.enc.cells, .row [.int .i64 0, .int .i64 0, .slice [] .full], .row (g t).1.enc.cells, .row [.int .i64 t.kind, .int .i64 t.id, .slice (s.map Ty.enc) (.tok (H.length + 4))], .buf s.length 3]) (fun (i : Nat) (s : List Ty) => s = (t.args.take i).map (mapT g)) ([]) ([]) rfl rfl rfl rfl rfl rfl rfl rfl rfl (by decide) (by decide) (by decide) (fun _ => rfl) (hw.lenMax) ⟨(by first | rfl | (simp only [jN, seval, vint, TyS, TyF] <;> first | done | with_reducible rfl)), (by first | rfl | (simp only [jN, seval, vint, TyS, TyF] <;> first | done | with_reducible rfl)), (by first | rfl | (simp only [jN, seval, vint, TyS, TyF] <;> first | done | with_reducible rfl)), (by first | rfl | (simp only [jN, seval, vint, TyS, TyF] <;> first | done | with_reducible rfl)), (by first | rfl | (simp only [jN, seval, vint, TyS, TyF] <;> first | done | with_reducible rfl)), (by first | rfl | (simp only [jN, seval, vint, TyS, TyF] <;> first | done | with_reducible rfl)), trivial⟩ (by first | rfl | (simp only [jN, seval, vint, TyS, TyF] <;> first | done | with_reducible rfl)) (by simp) (fun _ _ _ => by first | exact Nat.zero_le _ | (simp only [List.length_append]; omega)) ?_ ?_ ?_
      · intro i s hg
        simp only [TyS]
        refine ⟨by first | exact hbel_nil _ | (simp only [List.append_nil]; assumption) | (refine hbel_app' hb' (by simp) ?_; repeat (first | exact hbel_nil _ | exact trivial | exact obel_row_nil _ | (refine HBel.cons ?_ ?_) | (refine obel_row_cons (by first | exact bel_ints0 _ _ | exact bel_slice_ty _ _ | exact Ty.bel _ _ | exact bel_ty_tok _ (by simp) | exact Bel.int _ _ | exact Bel.bool _ | exact Bel.str _ | exact Bel.nilp | exact Bel.nilfn | exact Bel.optr _ _ (by simp) | exact bel_nil0 _ | exact bel_nil1 _ | exact bel_fn0 _ _ | assumption) ?_))), .cons (.fn _ _ _ (by simp) (fun c hc' => (hc.bel H hrd c hc').mono (by simp))) (by repeat (first | exact BelL.nil | refine BelL.cons (by first | exact bel_ints0 _ _ | exact bel_slice_ty _ _ | exact Ty.bel _ _ | exact bel_ty_tok _ (by simp) | exact Bel.int _ _ | exact Bel.bool _ | exact Bel.str _ | exact Bel.nilp | exact Bel.nilfn | exact Bel.optr _ _ (by simp) | exact bel_nil0 _ | exact bel_nil1 _ | exact bel_fn0 _ _ | assumption) ?_))⟩
      · intro i s hi hg
        have g1 := ix_nat hi
        have g2 := get_enc Ty.enc hi
        have hmem : t.args[i] ∈ t.args := List.getElem_mem hi
        have hlen := hw.len
        have hsl : s.length < t.args.length := by rw [hg, List.length_map, List.length_take]; omega
        have happ := app_ty (us := s) (u := mapT g t.args[i]) (id := H.length + 4) (tl := .full) (by omega)
        repeat (refine awp_seq ?_)
        refine e_eval (by simp only [jA, jO, jN, seval, y22, y24, vint, TyS, TyF, g1, Int.toNat_natCast, g2] <;> with_reducible rfl) (by decide) ?_
        repeat (refine awp_seq ?_)
        refine awp_draw 0 (by kernel_rfl) ?_
        refine d_take (bm := [0, 1, 0, 0, 12, 28, 63, 127, 255]) 4 (fresh := (H.length + 6)) (by kernel_rfl) (by simp only [jD, jO, jN, seval, y22, y24, vint, TyS, TyF, g1, Int.toNat_natCast, g2, happ] <;> with_reducible rfl) (by decide) (by decide) ?_
        refine dops_keep (bm := [0, 1, 0, 0, 12, 28, 63, 127, 255]) (rd.map Prod.fst) (by kernel_rfl) (by simp only [jC, jN, seval, vint, TyS, TyF, g1, Int.toNat_natCast, g2, happ] <;> with_reducible rfl) (by simp only [jC, jN, seval, vint, TyS, TyF, g1, Int.toNat_natCast, g2, happ]) (by decide) Trygo76 (fun H' hH' => map_k hc k t.args[i] H' (by have := Ty.size_arg hmem; omega) (hw.arg hmem) (hc.sub t hd _ hmem) (fun x hx => by rw [hH' x.1 (List.mem_map.2 ⟨x, hx, rfl⟩)]; exact reads_app hrd _ x hx)) (by simp only [jD, jO, jN, seval, vint, TyS, TyF, g1, Int.toNat_natCast, g2, happ] <;> first | done | rfl) ?_
        refine d_end (bm := [0, 1, 0, 0, 12, 28, 63, 127, 255]) (fresh := (H.length + 6)) (by kernel_rfl) (by simp only [jD, jO, jN, seval, y22, y24, vint, TyS, TyF, g1, Int.toNat_natCast, g2, happ] <;> with_reducible rfl) (by decide) ?_
        exact ⟨⟨rfl, rfl, trivial⟩, s ++ [mapT g t.args[i]], _, ⟨rfl, rfl, rfl, rfl, trivial⟩, by simp only [jN, seval, vint, TyS, TyF] <;> rfl, by rw [hg, map_take_succ _ hi]⟩
      · intro s hg
        rw [List.take_length] at hg
        repeat (refine awp_seq ?_)
        refine e_eval (by simp only [jA, jO, jN, seval, y24, vint, TyS, TyF] <;> with_reducible rfl) (by decide) ?_
        repeat (refine awp_seq ?_)
        refine awp_ret ⟨.inr rfl, _, _, (ares_cell 4 24 rfl Tryti24 (by decide) (by simp only [jL, jN, seval, vint, TyS, TyF] <;> with_reducible rfl)), ?_, (by first | exact (List.append_nil _).symm | rfl)⟩
        simp only [TyF, mapT_eq g t, b0, Bool.false_eq_true, if_false, d1_agg, LS, hg]
        exact Ty.enc_drop1 _

end Go.Abs
set_option maxRecDepth 4000
namespace Go.Abs
open Go.Proofs
theorem mapT_id {g : Ty → Ty × Bool} (hg : ∀ u, (g u).2 = false) : ∀ t, mapT g t = t
  | .mk k i us => by
    rw [mapT, if_neg (by rw [hg]; simp)]
    congr 1
    have : ∀ u ∈ us, mapT g u = u := fun u hu => mapT_id hg u
    rw [List.map_congr_left this, List.map_id'']
    intro x; rfl

theorem clone1 (H : Heap) (u : Ty) : ACalls Try.prog 122 [u.enc] H fun r' H' => r' = .tup [(Ty.mk 0 0 []).enc, .bool false] ∧ H' = H := by
  refine keeps_of (N := 5) Try.func122 rfl rfl (by simp) (.tup _ (by simp [Ty.bel, Bel.bool])) fun hb' => ?_
  repeat (refine awp_seq ?_)
  refine e_eval (by simp only [jA, jO, jN, seval, y24, vint, TyS, TyF] <;> with_reducible rfl) (by decide) ?_
  repeat (refine awp_seq ?_)
  refine e_eval (by simp only [jA, jO, jN, seval, y24, vint, TyS, TyF] <;> with_reducible rfl) (by decide) ?_
  repeat (refine awp_seq ?_)
  refine awp_ret ⟨.inr rfl, _, _, (ares_two (.cell 2 24) (.tmp 3) rfl (ares_cell1 Tryti24 (by decide) (by simp only [jL, jN, seval, vint, TyS, TyF] <;> with_reducible rfl)) (ares_tmp1 (by decide))), ?_, (by first | exact (List.append_nil _).symm | rfl)⟩
  simp only [jN, seval, vint, TyS, TyF]

theorem clone (t : Ty) (hw : t.W) : PC Try.prog 79 [t.enc] t.enc := by
  refine pc_of (N := 5) Try.func79 rfl rfl (by simp) (by simp [Ty.bel]) (Ty.bel _ _) ?_
  repeat (refine awp_seq ?_)
  refine e_eval (by simp only [jA, jO, jN, seval, y24, vint, TyS, TyF] <;> with_reducible rfl) (by decide) ?_
  repeat (refine awp_seq ?_)
  refine awp_region ?_
  refine e_take 1 (by simp only [jA, jO, jN, seval, y24, vint, TyS, TyF] <;> with_reducible rfl) (by decide) ?_
  refine aops_pure (by simp only [jC, jN, seval, vint, TyS, TyF] <;> with_reducible rfl) (by simp only [jC, jN, seval, vint, TyS, TyF]) (by decide) Trygo76 (map_k (D := fun _ => True) (rd := []) (g := fun _ => (Ty.mk 0 0 [], false)) ⟨Trygo122, by simp, by simp, fun H u _ _ => clone1 H u⟩ _ t _ (Nat.le_refl _) hw trivial (by simp)) ?_
  refine e_end (by simp only [jA, jO, jN, seval, y24, vint, TyS, TyF] <;> with_reducible rfl) (by decide) ?_
  repeat (refine awp_seq ?_)
  refine awp_ret ⟨.inr rfl, _, (ares_cell 2 24 rfl Tryti24 (by decide) (by simp only [jL, jN, seval, vint, TyS, TyF] <;> with_reducible rfl)), ?_⟩
  rw [mapT_id (fun _ => rfl)]
  exact Ty.enc_drop1 _

theorem apply1 (ps : List Int) (xs : List Ty) (H : Heap) (i1 i2 : Nat) (hx : ps.length ≤ maxLen) (hw : ∀ a ∈ xs, a.W) (h1 : H[i1]? = some (.row [.slice (ps.map vint) .none])) (h2 : H[i2]? = some (.row [.slice (xs.map Ty.enc) .none])) (u : Ty) :
    ACalls Try.prog 77 [u.enc, .optr i1 0, .optr i2 0] H fun r' H' => r' = .tup [(appG ps xs u).1.enc, .bool (appG ps xs u).2] ∧ H' = H := by
  have q1 : ∀ L, (H ++ L)[i1]? = some (.row [.slice (ps.map vint) .none]) := fun L => by rw [List.getElem?_append_left (len_of_get h1)]; exact h1
  have q2 : ∀ L, (H ++ L)[i2]? = some (.row [.slice (xs.map Ty.enc) .none]) := fun L => by rw [List.getElem?_append_left (len_of_get h2)]; exact h2
  refine keeps_of (N := 30) Try.func77 rfl rfl (by simp) (.tup _ (by simp [Ty.bel, Bel.bool])) fun hb' => ?_
  repeat (refine awp_seq ?_)
  refine e_eval (by simp only [jA, jO, jN, seval, y24, vint, TyS, TyF, q1, q2] <;> with_reducible rfl) (by decide) ?_
  repeat (refine awp_seq ?_)
  refine awp_region ?_
  refine e_take 3 (by simp only [jA, jO, jN, seval, y3, y24, y25, vint, TyS, TyF, q1, q2] <;> with_reducible rfl) (by decide) ?_
  refine aops_pure (by simp only [jC, jN, seval, vint, TyS, TyF, q1, q2] <;> with_reducible rfl) (by simp only [jC, jN, seval, vint, TyS, TyF, q1, q2]) (by decide) Trygo78 (index _ _ hx _) ?_
  refine e_end (by simp only [jA, jO, jN, seval, vint, TyS, TyF, q1, q2] <;> with_reducible rfl) (by decide) ?_
  repeat (refine awp_seq ?_)
  refine g_eval (by simp only [jG, jO, jN, seval, y3, y22, y24, vint, TyS, TyF, q1, q2] <;> with_reducible rfl) (by decide) (by repeat (first | exact Fin.base _ | with_reducible apply Fin.keep | apply Fin.drop)) ?_
  repeat (refine awp_seq ?_)
  refine awp_cond rfl (by simp only [jN, seval, vint, TyS, TyF, q1, q2] <;> with_reducible rfl) (fun b0 => ?_) (fun b0 => ?_)
  ·
    refine awp_sel [3, 4] (by simp only [jN, seval, vint, TyS, TyF, q1, q2] <;> with_reducible rfl) ?_
    repeat (refine awp_seq ?_)
    refine e_eval (by simp only [jA, jO, jN, seval, y24, vint, TyS, TyF, q1, q2] <;> with_reducible rfl) (by decide) ?_
    repeat (refine awp_seq ?_)
    refine awp_ret ⟨.inr rfl, _, _, (ares_two (.cell 4 24) (.tmp 5) rfl (ares_cell1 Tryti24 (by decide) (by simp only [jL, jN, seval, vint, TyS, TyF, q1, q2] <;> with_reducible rfl)) (ares_tmp1 (by decide))), ?_, (by first | exact (List.append_nil _).symm | rfl)⟩
    simp only [jN, seval, vint, TyS, TyF]
    simp only [appG, b0, if_true]
  ·
    have hb : 0 ≤ idxI (fun x => decide (u.id = x)) ps ∧ idxI (fun x => decide (u.id = x)) ps < xs.length := by simp at b0; omega
    have g1 : ((0 : Int) ≤ idxI (fun x => decide (u.id = x)) ps ∧ idxI (fun x => decide (u.id = x)) ps < xs.length) = True := by simp only [hb, and_self]
    have hlt : (idxI (fun x => decide (u.id = x)) ps).toNat < xs.length := by omega
    have g2 := get_enc Ty.enc hlt
    have hwa := hw _ (List.getElem_mem hlt)
    repeat (refine awp_seq ?_)
    refine awp_skip ?_
    refine awp_sel [2, 4, 6] (by simp only [jN, seval, vint, TyS, TyF, q1, q2] <;> with_reducible rfl) ?_
    repeat (refine awp_seq ?_)
    refine awp_region ?_
    refine e_take 4 (by simp only [jA, jO, jN, seval, y22, y24, vint, TyS, TyF, q1, q2, g1, g2] <;> with_reducible rfl) (by decide) ?_
    refine aops_pure (by simp only [jC, jN, seval, vint, TyS, TyF, q1, q2, g1, g2] <;> with_reducible rfl) (by simp only [jC, jN, seval, vint, TyS, TyF, q1, q2, g1, g2]) (by decide) Trygo79 (clone _ hwa _) ?_
    refine e_end (by simp only [jA, jO, jN, seval, y24, vint, TyS, TyF, q1, q2, g1, g2] <;> with_reducible rfl) (by decide) ?_
    repeat (refine awp_seq ?_)
    refine awp_ret ⟨.inr rfl, _, _, (ares_two (.cell 4 24) (.tmp 5) rfl (ares_cell1 Tryti24 (by decide) (by simp only [jL, jN, seval, vint, TyS, TyF, q1, q2] <;> with_reducible rfl)) (ares_tmp1 (by decide))), ?_, (by first | exact (List.append_nil _).symm | rfl)⟩
    simp only [jN, seval, vint, TyS, TyF]
    simp only [appG, b0, Bool.false_eq_true, if_false, List.getD_eq_getElem?_getD, List.getElem?_eq_getElem hlt, Option.getD_some]

theorem apply_c (t : Ty) (ps : List Int) (xs : List Ty) (ht : t.W) (hx : ps.length ≤ maxLen) (hw : ∀ a ∈ xs, a.W) : PC Try.prog 24 [t.enc, .slice (ps.map vint) .none, .slice (xs.map Ty.enc) .none] (mapT (appG ps xs) t).enc := by
  refine pc_of (N := 10) Try.func24 rfl rfl (by simp) (by simp [Ty.bel, bel_ints0, bel_slice_ty]) (Ty.bel _ _) ?_
  repeat (refine awp_seq ?_)
  refine e_eval (by simp only [jA, jO, jN, seval, y3, y22, y24, y25, vint, TyS, TyF] <;> with_reducible rfl) (by decide) ?_
  repeat (refine awp_seq ?_)
  refine awp_region ?_
  refine e_take 2 (by simp only [jA, jO, jN, seval, y24, vint, TyS, TyF] <;> with_reducible rfl) (by decide) ?_
  refine aops_pure (by simp only [jC, jN, seval, vint, TyS, TyF] <;> with_reducible rfl) (by simp only [jC, jN, seval, vint, TyS, TyF]) (by decide) Trygo76 (map_k (D := fun _ => True) (rd := [(1, .row [.slice (ps.map vint) .none]), (2, .row [.slice (xs.map Ty.enc) .none])]) (g := appG ps xs) ⟨Trygo77, fun H h => by have := len_of_get (h _ (.head _)); have := len_of_get (h _ (.tail _ (.head _))); simp; exact ⟨.optr _ _ (by assumption), .optr _ _ (by assumption)⟩, fun _ _ _ _ => trivial, fun H u _ h => apply1 ps xs H 1 2 hx hw (h _ (.head _)) (h _ (.tail _ (.head _))) u⟩ _ t _ (Nat.le_refl _) ht trivial (by simp)) ?_
  refine e_end (by simp only [jA, jO, jN, seval, y24, vint, TyS, TyF] <;> with_reducible rfl) (by decide) ?_
  repeat (refine awp_seq ?_)
  refine awp_ret ⟨.inr rfl, _, (ares_cell 6 24 rfl Tryti24 (by decide) (by simp only [jL, jN, seval, vint, TyS, TyF] <;> with_reducible rfl)), ?_⟩
  exact Ty.enc_drop1 _

theorem inst1 (ps : List Int) (v : Int) (H : Heap) (i1 i2 : Nat) (hx : ps.length ≤ maxLen) (h1 : H[i1]? = some (.row [.slice (ps.map vint) .none])) (h2 : H[i2]? = some (.row [.int .i64 v])) (u : Ty) :
    ACalls Try.prog 83 [u.enc, .optr i1 0, .optr i2 0] H fun r' H' => r' = .tup [(insG ps v u).1.enc, .bool (insG ps v u).2] ∧ H' = H := by
  have q1 : ∀ L, (H ++ L)[i1]? = some (.row [.slice (ps.map vint) .none]) := fun L => by rw [List.getElem?_append_left (len_of_get h1)]; exact h1
  have q2 : ∀ L, (H ++ L)[i2]? = some (.row [.int .i64 v]) := fun L => by rw [List.getElem?_append_left (len_of_get h2)]; exact h2
  refine keeps_of (N := 23) Try.func83 rfl rfl (by simp) (.tup _ (by simp [Ty.bel, Bel.bool])) fun hb' => ?_
  repeat (refine awp_seq ?_)
  refine e_eval (by simp only [jA, jO, jN, seval, y24, vint, TyS, TyF, q1, q2] <;> with_reducible rfl) (by decide) ?_
  repeat (refine awp_seq ?_)
  refine awp_region ?_
  refine e_take 3 (by simp only [jA, jO, jN, seval, y3, y24, y25, vint, TyS, TyF, q1, q2] <;> with_reducible rfl) (by decide) ?_
  refine aops_pure (by simp only [jC, jN, seval, vint, TyS, TyF, q1, q2] <;> with_reducible rfl) (by simp only [jC, jN, seval, vint, TyS, TyF, q1, q2]) (by decide) Trygo78 (index _ _ hx _) ?_
  refine e_end (by simp only [jA, jO, jN, seval, vint, TyS, TyF, q1, q2] <;> with_reducible rfl) (by decide) ?_
  repeat (refine awp_seq ?_)
  refine g_eval (by simp only [jG, jO, jN, seval, y3, y24, vint, TyS, TyF, q1, q2] <;> with_reducible rfl) (by decide) (by repeat (first | exact Fin.base _ | with_reducible apply Fin.keep | apply Fin.drop)) ?_
  repeat (refine awp_seq ?_)
  refine awp_cond rfl (by simp only [jN, seval, vint, TyS, TyF, q1, q2] <;> with_reducible rfl) (fun b0 => ?_) (fun b0 => ?_)
  ·
    refine awp_sel [3, 4] (by simp only [jN, seval, vint, TyS, TyF, q1, q2] <;> with_reducible rfl) ?_
    repeat (refine awp_seq ?_)
    refine e_eval (by simp only [jA, jO, jN, seval, y24, vint, TyS, TyF, q1, q2] <;> with_reducible rfl) (by decide) ?_
    repeat (refine awp_seq ?_)
    refine awp_ret ⟨.inr rfl, _, _, (ares_two (.cell 4 24) (.tmp 5) rfl (ares_cell1 Tryti24 (by decide) (by simp only [jL, jN, seval, vint, TyS, TyF, q1, q2] <;> with_reducible rfl)) (ares_tmp1 (by decide))), ?_, (by first | exact (List.append_nil _).symm | rfl)⟩
    simp only [jN, seval, vint, TyS, TyF]
    simp only [insG, b0, if_true]
  ·
    repeat (refine awp_seq ?_)
    refine awp_skip ?_
    refine awp_sel [2, 4, 6] (by simp only [jN, seval, vint, TyS, TyF, q1, q2] <;> with_reducible rfl) ?_
    repeat (refine awp_seq ?_)
    refine e_eval (by simp only [jA, jO, jN, seval, y3, y24, vint, TyS, TyF, q1, q2] <;> with_reducible rfl) (by decide) ?_
    repeat (refine awp_seq ?_)
    refine awp_ret ⟨.inr rfl, _, _, (ares_two (.cell 4 24) (.tmp 5) rfl (ares_cell1 Tryti24 (by decide) (by simp only [jL, jN, seval, vint, TyS, TyF, q1, q2] <;> with_reducible rfl)) (ares_tmp1 (by decide))), ?_, (by first | exact (List.append_nil _).symm | rfl)⟩
    simp only [jN, seval, vint, TyS, TyF]
    simp only [insG, b0, Bool.false_eq_true, if_false]

theorem inst_c (t : Ty) (ps : List Int) (v : Int) (ht : t.W) (hx : ps.length ≤ maxLen) : PC Try.prog 28 [t.enc, .slice (ps.map vint) .none, vint v] (mapT (insG ps v) t).enc := by
  refine pc_of (N := 10) Try.func28 rfl rfl (by simp) (by simp [Ty.bel, bel_ints0, Bel.int]) (Ty.bel _ _) ?_
  repeat (refine awp_seq ?_)
  refine e_eval (by simp only [jA, jO, jN, seval, y3, y24, y25, vint, TyS, TyF] <;> with_reducible rfl) (by decide) ?_
  repeat (refine awp_seq ?_)
  refine awp_region ?_
  refine e_take 2 (by simp only [jA, jO, jN, seval, y24, vint, TyS, TyF] <;> with_reducible rfl) (by decide) ?_
  refine aops_pure (by simp only [jC, jN, seval, vint, TyS, TyF] <;> with_reducible rfl) (by simp only [jC, jN, seval, vint, TyS, TyF]) (by decide) Trygo76 (map_k (D := fun _ => True) (rd := [(1, .row [.slice (ps.map vint) .none]), (2, .row [vint v])]) (g := insG ps v) ⟨Trygo83, fun H h => by have := len_of_get (h _ (.head _)); have := len_of_get (h _ (.tail _ (.head _))); simp; exact ⟨.optr _ _ (by assumption), .optr _ _ (by assumption)⟩, fun _ _ _ _ => trivial, fun H u _ h => inst1 ps v H 1 2 hx (h _ (.head _)) (h _ (.tail _ (.head _))) u⟩ _ t _ (Nat.le_refl _) ht trivial (by simp)) ?_
  refine e_end (by simp only [jA, jO, jN, seval, y24, vint, TyS, TyF] <;> with_reducible rfl) (by decide) ?_
  repeat (refine awp_seq ?_)
  refine awp_ret ⟨.inr rfl, _, (ares_cell 6 24 rfl Tryti24 (by decide) (by simp only [jL, jN, seval, vint, TyS, TyF] <;> with_reducible rfl)), ?_⟩
  exact Ty.enc_drop1 _

theorem cpK1 (p : Int) (H : Heap) (id : Nat) (h1 : H[id]? = some (.row [.int .i64 p])) (u : Ty) (b : Bool) (ih : PC Try.prog 27 [u.enc, vint p] (.bool b)) : ACalls Try.prog 82 [u.enc, .optr id 0] H fun r' H' => r' = .bool b ∧ H' = H := by
  have q1 : ∀ L, (H ++ L)[id]? = some (.row [.int .i64 p]) := fun L => by rw [List.getElem?_append_left (len_of_get h1)]; exact h1
  refine keeps_of (N := 7) Try.func82 rfl rfl (by simp) (.bool _) fun hb' => ?_
  repeat (refine awp_seq ?_)
  refine e_eval (by simp only [jA, jO, jN, seval, y24, vint, TyS, TyF, q1] <;> with_reducible rfl) (by decide) ?_
  repeat (refine awp_seq ?_)
  refine awp_region ?_
  refine e_take 2 (by simp only [jA, jO, jN, seval, y3, y24, vint, TyS, TyF, q1] <;> with_reducible rfl) (by decide) ?_
  refine aops_pure (by simp only [jC, jN, seval, vint, TyS, TyF, q1] <;> with_reducible rfl) (by simp only [jC, jN, seval, vint, TyS, TyF, q1]) (by decide) Trygo27 (ih _) ?_
  refine e_end (by simp only [jA, jO, jN, seval, vint, TyS, TyF, q1] <;> with_reducible rfl) (by decide) ?_
  repeat (refine awp_seq ?_)
  refine awp_ret ⟨.inr rfl, _, _, rfl, ?_, (by first | exact (List.append_nil _).symm | rfl)⟩
  simp only [jN, seval, vint, TyS, TyF]

theorem cpK_k (p : Int) : ∀ (k : Nat) (t : Ty), t.size ≤ k → t.W → PC Try.prog 27 [t.enc, vint p] (.bool (cpar p t))
  | 0, t, h, _ => by cases t; simp [Ty.size] at h
  | k + 1, t, h, hw => by
    refine pc_of (N := 20) Try.func27 rfl rfl (by simp) (by simp [Ty.bel, Bel.int]) (.bool _) ?_
    repeat (refine awp_seq ?_)
    refine e_eval (by simp only [jA, jO, jN, seval, y3, y24, vint, TyS, TyF] <;> with_reducible rfl) (by decide) ?_
    repeat (refine awp_seq ?_)
    refine awp_region ?_
    refine aops_gstart ?_
    refine g_take 13 (by simp only [jG, jO, jN, seval, y3, y22, y24, vint, TyS, TyF] <;> with_reducible rfl) (by decide) ?_
    refine aops_gpure (by simp only [jE, jN, seval, vint, TyS, TyF] <;> with_reducible rfl) (by simp only [jE, jN, seval, vint, TyS, TyF] <;> with_reducible rfl) (by simp only [jE, jN, seval, vint, TyS, TyF]) (by decide) Trygo81 (fun hc => containsFuncTy (p := cpar p) ⟨Trygo82, by simp; exact .optr _ _ (by simp), fun u hu => cpK1 p _ 1 rfl u _ (cpK_k p k u (by have := Ty.size_arg hu; omega) (hw.arg hu))⟩ hw.lenMax) ?_
    refine g_end (by simp only [jG, jO, jN, seval, vint, TyS, TyF] <;> with_reducible rfl) (by decide) (by repeat (first | exact Fin.base _ | with_reducible apply Fin.keep | apply Fin.drop)) ?_
    repeat (refine awp_seq ?_)
    refine awp_ret ⟨.inr rfl, _, rfl, ?_⟩
    simp only [jN, seval, vint, TyS, TyF]
    rw [cpar_eq]

theorem cpK (t : Ty) (p : Int) (hw : t.W) : PC Try.prog 27 [t.enc, vint p] (.bool (cpar p t)) := cpK_k p t.size t (Nat.le_refl _) hw

theorem cpT1 (p : Int) (H : Heap) (id : Nat) (h1 : H[id]? = some (.row [.int .i64 p])) (u : Ty) (b : Bool) (ih : PC Try.prog 145 [u.enc, vint p] (.bool b)) : ACalls Try.prog 162 [u.enc, .optr id 0] H fun r' H' => r' = .bool b ∧ H' = H := by
  have q1 : ∀ L, (H ++ L)[id]? = some (.row [.int .i64 p]) := fun L => by rw [List.getElem?_append_left (len_of_get h1)]; exact h1
  refine keeps_of (N := 7) Try.func162 rfl rfl (by simp) (.bool _) fun hb' => ?_
  repeat (refine awp_seq ?_)
  refine e_eval (by simp only [jA, jO, jN, seval, y24, vint, TyS, TyF, q1] <;> with_reducible rfl) (by decide) ?_
  repeat (refine awp_seq ?_)
  refine awp_region ?_
  refine e_take 2 (by simp only [jA, jO, jN, seval, y3, y24, vint, TyS, TyF, q1] <;> with_reducible rfl) (by decide) ?_
  refine aops_pure (by simp only [jC, jN, seval, vint, TyS, TyF, q1] <;> with_reducible rfl) (by simp only [jC, jN, seval, vint, TyS, TyF, q1]) (by decide) Trygo145 (ih _) ?_
  refine e_end (by simp only [jA, jO, jN, seval, vint, TyS, TyF, q1] <;> with_reducible rfl) (by decide) ?_
  repeat (refine awp_seq ?_)
  refine awp_ret ⟨.inr rfl, _, _, rfl, ?_, (by first | exact (List.append_nil _).symm | rfl)⟩
  simp only [jN, seval, vint, TyS, TyF]

theorem cpT_k (p : Int) : ∀ (k : Nat) (t : Ty), t.size ≤ k → t.W → PC Try.prog 145 [t.enc, vint p] (.bool (cpar p t))
  | 0, t, h, _ => by cases t; simp [Ty.size] at h
  | k + 1, t, h, hw => by
    refine pc_of (N := 20) Try.func145 rfl rfl (by simp) (by simp [Ty.bel, Bel.int]) (.bool _) ?_
    repeat (refine awp_seq ?_)
    refine e_eval (by simp only [jA, jO, jN, seval, y3, y24, vint, TyS, TyF] <;> with_reducible rfl) (by decide) ?_
    repeat (refine awp_seq ?_)
    refine awp_region ?_
    refine aops_gstart ?_
    refine g_take 13 (by simp only [jG, jO, jN, seval, y3, y22, y24, vint, TyS, TyF] <;> with_reducible rfl) (by decide) ?_
    refine aops_gpure (by simp only [jE, jN, seval, vint, TyS, TyF] <;> with_reducible rfl) (by simp only [jE, jN, seval, vint, TyS, TyF] <;> with_reducible rfl) (by simp only [jE, jN, seval, vint, TyS, TyF]) (by decide) Trygo81 (fun hc => containsFuncTy (p := cpar p) ⟨Trygo162, by simp; exact .optr _ _ (by simp), fun u hu => cpT1 p _ 1 rfl u _ (cpT_k p k u (by have := Ty.size_arg hu; omega) (hw.arg hu))⟩ hw.lenMax) ?_
    refine g_end (by simp only [jG, jO, jN, seval, vint, TyS, TyF] <;> with_reducible rfl) (by decide) (by repeat (first | exact Fin.base _ | with_reducible apply Fin.keep | apply Fin.drop)) ?_
    repeat (refine awp_seq ?_)
    refine awp_ret ⟨.inr rfl, _, rfl, ?_⟩
    simp only [jN, seval, vint, TyS, TyF]
    rw [cpar_eq]

theorem cpT (t : Ty) (p : Int) (hw : t.W) : PC Try.prog 145 [t.enc, vint p] (.bool (cpar p t)) := cpT_k p t.size t (Nat.le_refl _) hw

theorem signores1 (t : Ty) (ht : t.W) (H : Heap) (id : Nat) (h1 : H[id]? = some (.row t.enc.cells)) (p : Int) : ACalls Try.prog 26 [vint p, .optr id 0] H fun r' H' => r' = .bool (cpar p t) ∧ H' = H := by
  simp only [TyS] at h1
  have q1 : ∀ L, (H ++ L)[id]? = some (.row [.int .i64 t.kind, .int .i64 t.id, .slice (t.args.map Ty.enc) .none]) := fun L => by rw [List.getElem?_append_left (len_of_get h1)]; exact h1
  refine keeps_of (N := 7) Try.func26 rfl rfl (by simp) (.bool _) fun hb' => ?_
  repeat (refine awp_seq ?_)
  refine e_eval (by simp only [jA, jO, jN, seval, vint, TyS, TyF, q1, h1] <;> with_reducible rfl) (by decide) ?_
  repeat (refine awp_seq ?_)
  refine awp_region ?_
  refine e_take 2 (by simp only [jA, jO, jN, seval, y24, vint, TyS, TyF, q1, h1] <;> with_reducible rfl) (by decide) ?_
  refine aops_pure (by simp only [jC, jN, seval, vint, TyS, TyF, q1, h1] <;> with_reducible rfl) (by simp only [jC, jN, seval, vint, TyS, TyF, q1, h1]) (by decide) Trygo27 (cpK t p ht _) ?_
  refine e_end (by simp only [jA, jO, jN, seval, vint, TyS, TyF, q1, h1] <;> with_reducible rfl) (by decide) ?_
  repeat (refine awp_seq ?_)
  refine awp_ret ⟨.inr rfl, _, _, rfl, ?_, (by first | exact (List.append_nil _).symm | rfl)⟩
  simp only [jN, seval, vint, TyS, TyF]

theorem typK (k i : Int) (us : List Ty) : PC Try.prog 71 [vint k, vint i, .slice (us.map Ty.enc) .none] (Ty.mk k i us).enc := by
  refine pc_of (N := 11) Try.func71 rfl rfl (by simp) (by simp [Bel.int, bel_slice_ty]) (Ty.bel _ _) ?_
  repeat (refine awp_seq ?_)
  refine e_eval (by simp only [jA, jO, jN, seval, y24, vint, TyS, TyF] <;> with_reducible rfl) (by decide) ?_
  repeat (refine awp_seq ?_)
  refine e_eval (by simp only [jA, jO, jN, seval, y24, vint, TyS, TyF] <;> with_reducible rfl) (by decide) ?_
  repeat (refine awp_seq ?_)
  refine awp_ret ⟨.inr rfl, _, (ares_cell 6 24 rfl Tryti24 (by decide) (by simp only [jL, jN, seval, vint, TyS, TyF] <;> with_reducible rfl)), ?_⟩
  simp only [jN, seval, vint, TyS, TyF]

theorem typeParamK (i : Int) : PC Try.prog 72 [vint i] (Ty.mk 2 i []).enc := by
  refine pc_of (N := 5) Try.func72 rfl rfl (by simp) (by simp [Bel.int]) (Ty.bel _ _) ?_
  repeat (refine awp_seq ?_)
  refine e_eval (by simp only [jA, jO, jN, seval, y24, vint, TyS, TyF] <;> with_reducible rfl) (by decide) ?_
  repeat (refine awp_seq ?_)
  refine awp_region ?_
  refine e_take 1 (by simp only [jA, jO, jN, seval, vint, TyS, TyF] <;> with_reducible rfl) (by decide) ?_
  refine aops_pure (by simp only [jC, jN, seval, vint, TyS, TyF] <;> with_reducible rfl) (by simp only [jC, jN, seval, vint, TyS, TyF]) (by decide) Trygo71 (typK 2 _ [] _) ?_
  refine e_end (by simp only [jA, jO, jN, seval, y24, vint, TyS, TyF] <;> with_reducible rfl) (by decide) ?_
  repeat (refine awp_seq ?_)
  refine awp_ret ⟨.inr rfl, _, (ares_cell 2 24 rfl Tryti24 (by decide) (by simp only [jL, jN, seval, vint, TyS, TyF] <;> with_reducible rfl)), ?_⟩
  simp only [jN, seval, vint, TyS, TyF]

theorem typeVarK (i : Int) : PC Try.prog 67 [vint i] (Ty.mk 1 i []).enc := by
  refine pc_of (N := 5) Try.func67 rfl rfl (by simp) (by simp [Bel.int]) (Ty.bel _ _) ?_
  repeat (refine awp_seq ?_)
  refine e_eval (by simp only [jA, jO, jN, seval, y24, vint, TyS, TyF] <;> with_reducible rfl) (by decide) ?_
  repeat (refine awp_seq ?_)
  refine awp_region ?_
  refine e_take 1 (by simp only [jA, jO, jN, seval, vint, TyS, TyF] <;> with_reducible rfl) (by decide) ?_
  refine aops_pure (by simp only [jC, jN, seval, vint, TyS, TyF] <;> with_reducible rfl) (by simp only [jC, jN, seval, vint, TyS, TyF]) (by decide) Trygo71 (typK 1 _ [] _) ?_
  refine e_end (by simp only [jA, jO, jN, seval, y24, vint, TyS, TyF] <;> with_reducible rfl) (by decide) ?_
  repeat (refine awp_seq ?_)
  refine awp_ret ⟨.inr rfl, _, (ares_cell 2 24 rfl Tryti24 (by decide) (by simp only [jL, jN, seval, vint, TyS, TyF] <;> with_reducible rfl)), ?_⟩
  simp only [jN, seval, vint, TyS, TyF]

theorem intTypeK : PC Try.prog 73 [] (Ty.mk 3 0 []).enc := by
  refine pc_of (N := 2) Try.func73 rfl rfl (by simp) (by simp) (Ty.bel _ _) ?_
  repeat (refine awp_seq ?_)
  refine e_eval (by simp only [jA, jO, jN, seval, y24, vint, TyS, TyF] <;> with_reducible rfl) (by decide) ?_
  repeat (refine awp_seq ?_)
  refine awp_region ?_
  refine aops_pure (by simp only [jC, jN, seval, vint, TyS, TyF] <;> with_reducible rfl) (by simp only [jC, jN, seval, vint, TyS, TyF]) (by decide) Trygo71 (typK 3 0 [] _) ?_
  refine e_end (by simp only [jA, jO, jN, seval, y24, vint, TyS, TyF] <;> with_reducible rfl) (by decide) ?_
  repeat (refine awp_seq ?_)
  refine awp_ret ⟨.inr rfl, _, (ares_cell 0 24 rfl Tryti24 (by decide) (by simp only [jL, jN, seval, vint, TyS, TyF] <;> with_reducible rfl)), ?_⟩
  simp only [jN, seval, vint, TyS, TyF]

theorem typL (k i : Int) (us : List Ty) : PC Try.prog 90 [vint k, vint i, .slice (us.map Ty.enc) .none] (Ty.mk k i us).enc := by
  refine pc_of (N := 11) Try.func90 rfl rfl (by simp) (by simp [Bel.int, bel_slice_ty]) (Ty.bel _ _) ?_
  repeat (refine awp_seq ?_)
  refine e_eval (by simp only [jA, jO, jN, seval, y24, vint, TyS, TyF] <;> with_reducible rfl) (by decide) ?_
  repeat (refine awp_seq ?_)
  refine e_eval (by simp only [jA, jO, jN, seval, y24, vint, TyS, TyF] <;> with_reducible rfl) (by decide) ?_
  repeat (refine awp_seq ?_)
  refine awp_ret ⟨.inr rfl, _, (ares_cell 6 24 rfl Tryti24 (by decide) (by simp only [jL, jN, seval, vint, TyS, TyF] <;> with_reducible rfl)), ?_⟩
  simp only [jN, seval, vint, TyS, TyF]

theorem typeParamL (i : Int) : PC Try.prog 109 [vint i] (Ty.mk 2 i []).enc := by
  refine pc_of (N := 5) Try.func109 rfl rfl (by simp) (by simp [Bel.int]) (Ty.bel _ _) ?_
  repeat (refine awp_seq ?_)
  refine e_eval (by simp only [jA, jO, jN, seval, y24, vint, TyS, TyF] <;> with_reducible rfl) (by decide) ?_
  repeat (refine awp_seq ?_)
  refine awp_region ?_
  refine e_take 1 (by simp only [jA, jO, jN, seval, vint, TyS, TyF] <;> with_reducible rfl) (by decide) ?_
  refine aops_pure (by simp only [jC, jN, seval, vint, TyS, TyF] <;> with_reducible rfl) (by simp only [jC, jN, seval, vint, TyS, TyF]) (by decide) Trygo90 (typL 2 _ [] _) ?_
  refine e_end (by simp only [jA, jO, jN, seval, y24, vint, TyS, TyF] <;> with_reducible rfl) (by decide) ?_
  repeat (refine awp_seq ?_)
  refine awp_ret ⟨.inr rfl, _, (ares_cell 2 24 rfl Tryti24 (by decide) (by simp only [jL, jN, seval, vint, TyS, TyF] <;> with_reducible rfl)), ?_⟩
  simp only [jN, seval, vint, TyS, TyF]

theorem typeVarL (i : Int) : PC Try.prog 91 [vint i] (Ty.mk 1 i []).enc := by
  refine pc_of (N := 5) Try.func91 rfl rfl (by simp) (by simp [Bel.int]) (Ty.bel _ _) ?_
  repeat (refine awp_seq ?_)
  refine e_eval (by simp only [jA, jO, jN, seval, y24, vint, TyS, TyF] <;> with_reducible rfl) (by decide) ?_
  repeat (refine awp_seq ?_)
  refine awp_region ?_
  refine e_take 1 (by simp only [jA, jO, jN, seval, vint, TyS, TyF] <;> with_reducible rfl) (by decide) ?_
  refine aops_pure (by simp only [jC, jN, seval, vint, TyS, TyF] <;> with_reducible rfl) (by simp only [jC, jN, seval, vint, TyS, TyF]) (by decide) Trygo90 (typL 1 _ [] _) ?_
  refine e_end (by simp only [jA, jO, jN, seval, y24, vint, TyS, TyF] <;> with_reducible rfl) (by decide) ?_
  repeat (refine awp_seq ?_)
  refine awp_ret ⟨.inr rfl, _, (ares_cell 2 24 rfl Tryti24 (by decide) (by simp only [jL, jN, seval, vint, TyS, TyF] <;> with_reducible rfl)), ?_⟩
  simp only [jN, seval, vint, TyS, TyF]

theorem intTypeL : PC Try.prog 92 [] (Ty.mk 3 0 []).enc := by
  refine pc_of (N := 2) Try.func92 rfl rfl (by simp) (by simp) (Ty.bel _ _) ?_
  repeat (refine awp_seq ?_)
  refine e_eval (by simp only [jA, jO, jN, seval, y24, vint, TyS, TyF] <;> with_reducible rfl) (by decide) ?_
  repeat (refine awp_seq ?_)
  refine awp_region ?_
  refine aops_pure (by simp only [jC, jN, seval, vint, TyS, TyF] <;> with_reducible rfl) (by simp only [jC, jN, seval, vint, TyS, TyF]) (by decide) Trygo90 (typL 3 0 [] _) ?_
  refine e_end (by simp only [jA, jO, jN, seval, y24, vint, TyS, TyF] <;> with_reducible rfl) (by decide) ?_
  repeat (refine awp_seq ?_)
  refine awp_ret ⟨.inr rfl, _, (ares_cell 0 24 rfl Tryti24 (by decide) (by simp only [jL, jN, seval, vint, TyS, TyF] <;> with_reducible rfl)), ?_⟩
  simp only [jN, seval, vint, TyS, TyF]

end Go.Abs
set_option maxRecDepth 4000
namespace Go.Abs
open Go.Proofs
theorem matchL_nil (s : MSt) : matchL [] s = (true, s) := rfl
theorem matchL_cons (a : Ty) (f : Ty → MSt → Bool × MSt) (r : List (Ty × (Ty → MSt → Bool × MSt))) (s : MSt) : matchL ((a, f) :: r) s = if (f a s).1 then matchL r (f a s).2 else (false, (f a s).2) := rfl

theorem match_k (ps : List Int) (hx : ps.length ≤ maxLen) {im ia ib : Nat} (h1 : ia ≠ ib) (h2 : im ≠ ia) (h3 : im ≠ ib) : ∀ (k : Nat) (t p : Ty) (H : Heap) (s : MSt), p.size ≤ k → t.W → p.W → MOk ps.length s → ia < H.length → ib < H.length → H[im]? = some (.row [.slice (ps.map vint) .none, .msl ia 0 ps.length ps.length, .msl ib 0 ps.length ps.length]) →
    ACalls Try.prog 74 [.optr im 0, t.enc, p.enc] (mH H ia ib s) fun r' H' => r' = .bool (matchT ps t p s).1 ∧ H' = mH H ia ib (matchT ps t p s).2
  | 0, t, p, H, s, h, _, _, _, _, _, _ => by cases p; simp [Ty.size] at h
  | k + 1, t, p, H, s, h, ht, hp, hs, hia, hib, hR => by
    have MH := mH_rules hia hib h1 h2 h3 hR
    have heq := fun a b ha => equal_any a b ha
    have hmn := len_of_get hR
    have fa : ∀ k, (ia = H.length + k) = False := fun k => by simp; omega
    have fb : ∀ k, (ib = H.length + k) = False := fun k => by simp; omega
    refine muts_of (N := 94) Try.func74 rfl rfl (by simp) (.bool _) (by simp only [mH_len]) (fun hb => by rw [mH_len] at hb ⊢; exact mH_bel hb hia hib h1) fun hb' => ?_
    rw [mH_len]
    rw [mH_len] at hb'
    repeat (refine awp_seq ?_)
    refine e_eval (by simp only [jA, jO, jN, seval, y24, vint, TyS, TyF, MH] <;> with_reducible rfl) (by decide) ?_
    repeat (refine awp_seq ?_)
    refine awp_draw 0 (by kernel_rfl) ?_
    refine d_take (bm := [0, 1, 3, 7, 0, 16, 63, 127]) 6 (fresh := 0) (by kernel_rfl) (by simp only [jD, jO, jN, seval, y3, y24, y25, y104, vint, TyS, TyF, MH] <;> with_reducible rfl) (by decide) (by decide) ?_
    refine dops_keep (bm := [0, 1, 3, 7, 0, 16, 63, 127]) ([]) (by kernel_rfl) (by simp only [jC, jN, seval, vint, TyS, TyF, MH] <;> with_reducible rfl) (by simp only [jC, jN, seval, vint, TyS, TyF, MH]) (by decide) Trygo78 (fun H' _ => index ps p.id hx H') (by simp only [jD, jO, jN, seval, vint, TyS, TyF, MH] <;> first | done | rfl) ?_
    refine d_end (bm := [0, 1, 3, 7, 0, 16, 63, 127]) (fresh := 0) (by kernel_rfl) (by simp only [jD, jO, jN, seval, vint, TyS, TyF, MH] <;> with_reducible rfl) (by decide) ?_
    repeat (refine awp_seq ?_)
    refine g_eval (by simp only [jG, jO, jN, seval, y3, y24, vint, TyS, TyF, MH] <;> with_reducible rfl) (by decide) (by repeat (first | exact Fin.base _ | with_reducible apply Fin.keep | apply Fin.drop)) ?_
    repeat (refine awp_seq ?_)
    refine awp_cond rfl (by simp only [jN, seval, vint, TyS, TyF, MH] <;> with_reducible rfl) (fun b0 => ?_) (fun b0 => ?_)
    ·
      have b0' := b0
      rw [Bool.and_eq_true, decide_eq_true_eq, decide_eq_true_eq] at b0
      have hlt := idxI_lt b0.2
      have g1 : ((0 : Int) ≤ idxI (fun x => decide (p.id = x)) ps ∧ idxI (fun x => decide (p.id = x)) ps < (ps.length : Int)) = True := by simp only [ge_iff_le.1 b0.2, hlt, and_self]
      have hk : (idxI (fun x => decide (p.id = x)) ps).toNat < ps.length := by omega
      have hk1 : (idxI (fun x => decide (p.id = x)) ps).toNat < s.1.length := by rw [hs.l1]; exact hk
      have hk2 : (idxI (fun x => decide (p.id = x)) ps).toNat < s.2.length := by rw [hs.l2]; exact hk
      have g2 := get_enc PV.bool hk2
      have g3 : ((idxI (fun x => decide (p.id = x)) ps).toNat * 3 + 3 ≤ ps.length * 3) = True := by simp; omega
      have g4 := flat_load s.1 _ hk1
      have g5 := flat_len s.1
      rw [hs.l1] at g5
      have g6 : ((idxI (fun x => decide (p.id = x)) ps).toNat + 1 ≤ ps.length) = True := by simp; omega
      have g7 : (s.2.map PV.bool).length = ps.length := by rw [List.length_map, hs.l2]
      have g8 : ∀ b, splice (s.2.map PV.bool) (idxI (fun x => decide (p.id = x)) ps).toNat [.bool b] = (s.2.set (idxI (fun x => decide (p.id = x)) ps).toNat b).map PV.bool := fun b => by simp only [splice, List.map_set]
      have g9 := flat_set s.1 _ hk1 t
      rw [Ty.enc_cells] at g9
      rw [Ty.enc_cells] at g4
      have hwa := hs.w _ (List.getElem_mem hk1)
      have g10 := matchT_eq ps t p s
      rw [if_pos b0'] at g10
      refine awp_sel [0, 4, 7] (by simp only [jN, seval, vint, TyS, TyF, MH] <;> with_reducible rfl) ?_
      repeat (refine awp_seq ?_)
      refine e_eval (by simp only [jA, jO, jN, seval, y4, y102, y104, vint, TyS, TyF, MH, g1, g2, g3, g6, Nat.mul_one] <;> with_reducible rfl) (by decide) ?_
      repeat (refine awp_seq ?_)
      refine awp_cond rfl (by simp only [jN, seval, vint, TyS, TyF, MH] <;> with_reducible rfl) (fun b1 => ?_) (fun b1 => ?_)
      ·
        rw [if_pos (by rw [List.getD_eq_getElem?_getD, List.getElem?_eq_getElem hk2, Option.getD_some]; exact b1)] at g10
        rw [List.getD_eq_getElem?_getD, List.getElem?_eq_getElem hk1, Option.getD_some] at g10
        rw [g10]
        repeat (refine awp_seq ?_)
        refine awp_draw 0 (by kernel_rfl) ?_
        refine d_take (bm := [0, 1, 3, 7, 0, 31, 63, 0, 255, 511]) 8 (fresh := 0) (by kernel_rfl) (by simp only [jD, jO, jN, seval, y22, y24, y104, vint, TyS, TyF, MH, g1, g2, g3, g4, g5, g6, Nat.mul_one] <;> with_reducible rfl) (by decide) (by decide) ?_
        refine dops_keep (bm := [0, 1, 3, 7, 0, 31, 63, 0, 255, 511]) ([]) (by kernel_rfl) (by simp only [jC, jN, seval, vint, TyS, TyF, MH, g1, g2, g3, g4, g5, g6, Nat.mul_one] <;> with_reducible rfl) (by simp only [jC, jN, seval, vint, TyS, TyF, MH, g1, g2, g3, g4, g5, g6, Nat.mul_one]) (by decide) Trygo23 (fun H' _ => heq _ _ hwa H') (by simp only [jD, jO, jN, seval, vint, TyS, TyF, MH, g1, g2, g3, g4, g5, g6, Nat.mul_one] <;> first | done | rfl) ?_
        refine d_end (bm := [0, 1, 3, 7, 0, 31, 63, 0, 255, 511]) (fresh := 0) (by kernel_rfl) (by simp only [jD, jO, jN, seval, vint, TyS, TyF, MH, g1, g2, g3, g4, g5, g6, Nat.mul_one] <;> with_reducible rfl) (by decide) ?_
        repeat (refine awp_seq ?_)
        refine awp_ret ⟨.inr rfl, _, _, rfl, ?_, rfl⟩
        simp only [jN, seval, vint, TyS, TyF]
      ·
        rw [if_neg (by rw [List.getD_eq_getElem?_getD, List.getElem?_eq_getElem hk2, Option.getD_some, b1]; simp)] at g10
        rw [g10]
        repeat (refine awp_seq ?_)
        refine awp_skip ?_
        repeat (refine awp_seq ?_)
        refine awp_draw 0 (by kernel_rfl) ?_
        refine d_take (bm := [0, 1, 3, 7, 0, 0, 32, 96, 224, 0, 0, 1024, 3583, 7679, 16383, 32767]) 11 (fresh := (H.length + 2)) (by kernel_rfl) (by simp only [jD, jO, jN, seval, y4, y22, y24, y102, y104, vint, TyS, TyF, MH, fa, fb, g1, g2, g3, g5, g6, g7, g8, g9, Nat.mul_one] <;> with_reducible rfl) (by decide) (by decide) ?_
        refine dops_keep (bm := [0, 1, 3, 7, 0, 0, 32, 96, 224, 0, 0, 1024, 3583, 7679, 16383, 32767]) ([]) (by kernel_rfl) (by simp only [jC, jN, seval, vint, TyS, TyF, MH, fa, fb, g1, g2, g3, g5, g6, g7, g8, g9, Nat.mul_one] <;> with_reducible rfl) (by simp only [jC, jN, seval, vint, TyS, TyF, MH, fa, fb, g1, g2, g3, g5, g6, g7, g8, g9, Nat.mul_one]) (by decide) Trygo79 (fun H' _ => clone t ht H') (by simp only [jD, jO, jN, seval, vint, TyS, TyF, MH, fa, fb, g1, g2, g3, g5, g6, g7, g8, g9, Nat.mul_one] <;> first | done | rfl) ?_
        refine d_end (bm := [0, 1, 3, 7, 0, 0, 32, 96, 224, 0, 0, 1024, 3583, 7679, 16383, 32767]) (fresh := (H.length + 2)) (by kernel_rfl) (by simp only [jD, jO, jN, seval, y4, y22, y24, y102, vint, TyS, TyF, MH, fa, fb, g1, g2, g3, g5, g6, g7, g8, g9, Nat.mul_one] <;> with_reducible rfl) (by decide) ?_
        refine awp_sel [] (by simp only [jN, seval, vint, TyS, TyF, MH] <;> with_reducible rfl) ?_
        repeat (refine awp_seq ?_)
        refine e_eval (by simp only [jA, jO, jN, seval, vint, TyS, TyF, MH] <;> with_reducible rfl) (by decide) ?_
        repeat (refine awp_seq ?_)
        refine awp_ret ⟨.inr rfl, _, _, rfl, ?_, rfl⟩
        simp only [jN, seval, vint, TyS, TyF]
    ·
      have g10 := matchT_eq ps t p s
      rw [if_neg (by rw [b0]; simp)] at g10
      repeat (refine awp_seq ?_)
      refine awp_skip ?_
      refine awp_sel [0, 4, 5] (by simp only [jN, seval, vint, TyS, TyF, MH] <;> with_reducible rfl) ?_
      repeat (refine awp_seq ?_)
      refine g_eval (by simp only [jG, jO, jN, seval, y3, y22, y24, vint, TyS, TyF, MH] <;> with_reducible rfl) (by decide) (by repeat (first | exact Fin.base _ | with_reducible apply Fin.keep | apply Fin.drop)) ?_
      repeat (refine awp_seq ?_)
      refine awp_cond rfl (by simp only [jN, seval, vint, TyS, TyF, MH] <;> with_reducible rfl) (fun b2 => ?_) (fun b2 => ?_)
      ·
        rw [if_pos b2] at g10
        rw [g10]
        refine awp_sel [] (by simp only [jN, seval, vint, TyS, TyF, MH] <;> with_reducible rfl) ?_
        repeat (refine awp_seq ?_)
        refine e_eval (by simp only [jA, jO, jN, seval, vint, TyS, TyF, MH] <;> with_reducible rfl) (by decide) ?_
        repeat (refine awp_seq ?_)
        refine awp_ret ⟨.inr rfl, _, _, rfl, ?_, rfl⟩
        simp only [jN, seval, vint, TyS, TyF]
      ·
        rw [if_neg (by rw [b2]; simp)] at g10
        rw [g10]
        have hlen : t.args.length = p.args.length := by simp at b2; omega
        repeat (refine awp_seq ?_)
        refine awp_skip ?_
        refine awp_sel [0, 4, 5] (by simp only [jN, seval, vint, TyS, TyF, MH] <;> with_reducible rfl) ?_
        repeat (refine awp_seq ?_)
        refine e_eval (by simp only [jA, jO, jN, seval, y22, y24, vint, TyS, TyF, MH] <;> with_reducible rfl) (by decide) ?_
        repeat (refine awp_seq ?_)
        refine awp_forS (σ := MSt) (t.args.length) (fun (q : MSt) => [(0, .optr im 0), (4, .optr H.length 0), (5, .optr (H.length + 1) 0)]) [0, 4, 5] ([]) (fun (q : MSt) => mH H ia ib q ++ [.row t.enc.cells, .row p.enc.cells]) (fun (i : Nat) (q : MSt) => MOk ps.length q ∧ matchL ((t.args.zip (p.args.map fun u => fun a s => matchT ps a u s)).drop i) q = matchL (t.args.zip (p.args.map fun u => fun a s => matchT ps a u s)) s) (s) ([]) rfl rfl rfl rfl rfl rfl rfl rfl rfl (by decide) (by decide) (by decide) (fun _ => rfl) (ht.lenMax) ⟨(by first | rfl | (simp only [jN, seval, vint, TyS, TyF, MH] <;> first | done | with_reducible rfl)), (by first | rfl | (simp only [jN, seval, vint, TyS, TyF, MH] <;> first | done | with_reducible rfl)), (by first | rfl | (simp only [jN, seval, vint, TyS, TyF, MH] <;> first | done | with_reducible rfl)), (by first | rfl | (simp only [jN, seval, vint, TyS, TyF, MH] <;> first | done | with_reducible rfl)), (by first | rfl | (simp only [jN, seval, vint, TyS, TyF, MH] <;> first | done | with_reducible rfl)), trivial⟩ (by first | rfl | (simp only [jN, seval, vint, TyS, TyF, MH] <;> first | done | with_reducible rfl)) (⟨hs, rfl⟩) (fun i q hg => by simp only [List.nil_append, List.length_append, mH_len]; omega) ?_ ?_ ?_
        · intro i q hg
          refine ⟨?_, .cons (.optr _ _ (by simp [mH_len]; omega)) (.cons (.optr _ _ (by simp [mH_len])) (.cons (.optr _ _ (by simp [mH_len])) .nil))⟩
          simp only [List.nil_append, TyS]
          refine hbel_app' (mH_bel hb' hia hib h1) (by simp [mH_len]) ?_
          repeat (first | exact hbel_nil _ | exact trivial | exact obel_row_nil _ | (refine HBel.cons ?_ ?_) | (refine obel_row_cons (by first | exact bel_ints0 _ _ | exact bel_slice_ty _ _ | exact Ty.bel _ _ | exact bel_ty_tok _ (by simp) | exact Bel.int _ _ | exact Bel.bool _ | exact Bel.str _ | exact Bel.nilp | exact Bel.nilfn | exact Bel.optr _ _ (by simp) | exact bel_nil0 _ | exact bel_nil1 _ | exact bel_fn0 _ _ | assumption) ?_))
        · intro i q hi hg
          obtain ⟨hq, hg⟩ := hg
          have hi2 : i < p.args.length := by omega
          have g1 := ix_nat hi
          have g3 := ix_nat hi2
          have g2 := get_enc Ty.enc hi
          have g4 := get_enc Ty.enc hi2
          have hwt := ht.arg (List.getElem_mem hi)
          have hwp := hp.arg (List.getElem_mem hi2)
          have hmem := List.getElem_mem hi2
          have ih := match_k ps hx h1 h2 h3 k t.args[i] p.args[i]
          have hz : i < (t.args.zip (p.args.map fun u => fun a s => matchT ps a u s)).length := by simp; omega
          rw [List.drop_eq_getElem_cons hz, List.getElem_zip, List.getElem_map, matchL_cons] at hg
          repeat (refine awp_seq ?_)
          refine e_eval (by simp only [jA, jO, jN, seval, vint, TyS, TyF, MH, g1, Int.toNat_natCast, g2, g3, g4] <;> with_reducible rfl) (by decide) ?_
          repeat (refine awp_seq ?_)
          refine awp_draw 0 (by kernel_rfl) ?_
          refine d_take (bm := [0, 0, 2, 0, 14, 30, 0, 64, 0, 448, 960, 2047, 4095]) 11 (fresh := 0) (by kernel_rfl) (by simp only [jD, jO, jN, seval, y22, y24, vint, TyS, TyF, MH, g1, Int.toNat_natCast, g2, g3, g4] <;> with_reducible rfl) (by decide) (by decide) ?_
          refine dops_eff (bm := [0, 0, 2, 0, 14, 30, 0, 64, 0, 448, 960, 2047, 4095]) (r := .bool (matchT ps t.args[i] p.args[i] q).1) [im, ia, ib] [(ia, .row (flatE ((matchT ps t.args[i] p.args[i] q).2.1.map Ty.enc))), (ib, .row ((matchT ps t.args[i] p.args[i] q).2.2.map PV.bool))] (H1 := mH H ia ib (matchT ps t.args[i] p.args[i] q).2 ++ [.row [.int .i64 t.kind, .int .i64 t.id, .slice (t.args.map Ty.enc) .none], .row [.int .i64 p.kind, .int .i64 p.id, .slice (p.args.map Ty.enc) .none]]) (by kernel_rfl) (by simp only [jC, jN, seval, vint, TyS, TyF, MH, g1, Int.toNat_natCast, g2, g3, g4] <;> with_reducible rfl) (by simp only [jC, jN, seval, vint, TyS, TyF, MH]) (by decide) Trygo74 (by simp) ?_ (by simp only [jD, jO, jN, seval, vint, TyS, TyF, MH] <;> first | done | rfl) ?_ ?_
          · intro H' hr hl
            have r1 := hr im (by simp)
            have r2 := hr ia (by simp)
            have r3 := hr ib (by simp)
            simp only [MH] at r1 r2 r3
            have hl' : H.length ≤ H'.length := by rw [hl, List.length_append, mH_len]; omega
            have := ih H' q (by have := Ty.size_arg hmem; omega) hwt hwp hq (by omega) (by omega) r1
            rw [mH_self r2 r3] at this
            exact this
          · simp only [effs, List.foldl_cons, List.foldl_nil, MH]
          refine d_end (bm := [0, 0, 2, 0, 14, 30, 0, 64, 0, 448, 960, 2047, 4095]) (fresh := 0) (by kernel_rfl) (by simp only [jD, jO, jN, seval, vint, TyS, TyF, MH, g1, Int.toNat_natCast, g2, g3, g4] <;> with_reducible rfl) (by decide) ?_
          repeat (refine awp_seq ?_)
          refine awp_cond rfl (by simp only [jN, seval, vint, TyS, TyF, MH, g1, Int.toNat_natCast, g2, g3, g4] <;> with_reducible rfl) (fun b3 => ?_) (fun b3 => ?_)
          ·
            have b3' : (matchT ps t.args[i] p.args[i] q).1 = false := by simpa using b3
            rw [b3', if_neg (by simp)] at hg
            rw [← hg]
            refine awp_sel [0, 4, 5, 76, 77] (by simp only [jN, seval, vint, TyS, TyF, MH, g1, Int.toNat_natCast, g2, g3, g4] <;> with_reducible rfl) ?_
            repeat (refine awp_seq ?_)
            refine e_eval (by simp only [jA, jO, jN, seval, vint, TyS, TyF, MH, g1, Int.toNat_natCast, g2, g3, g4] <;> with_reducible rfl) (by decide) ?_
            repeat (refine awp_seq ?_)
            refine awp_ret ⟨.inr rfl, _, _, rfl, ?_, rfl⟩
            simp only [jN, seval, vint, TyS, TyF]
          ·
            have b3' : (matchT ps t.args[i] p.args[i] q).1 = true := by simpa using b3
            rw [b3', if_pos rfl] at hg
            repeat (refine awp_seq ?_)
            refine awp_skip ?_
            exact ⟨⟨rfl, rfl, trivial⟩, (matchT ps t.args[i] p.args[i] q).2, [], ⟨rfl, rfl, rfl, trivial⟩, by simp only [jN, seval, vint, TyS, TyF], matchT_ok ps _ _ _ hwt hq, hg⟩
        · intro q hg
          obtain ⟨hq, hg⟩ := hg
          rw [List.drop_eq_nil_of_le (by simp; omega), matchL_nil] at hg
          rw [← hg]
          repeat (refine awp_seq ?_)
          refine e_eval (by simp only [jA, jO, jN, seval, vint, TyS, TyF, MH] <;> with_reducible rfl) (by decide) ?_
          repeat (refine awp_seq ?_)
          refine awp_ret ⟨.inr rfl, _, _, rfl, ?_, rfl⟩
          simp only [jN, seval, vint, TyS, TyF]

end Go.Abs
set_option maxRecDepth 4000
namespace Go.Abs
open Go.Proofs

theorem match_c (ps : List Int) (t p : Ty) (hx : ps.length * 40 ≤ 2 ^ 47) (ht : t.W) (hp : p.W) : PC Try.prog 22 [t.enc, p.enc, .slice (ps.map vint) .none] (.tup [.slice ((matchP ps t p).1.map Ty.enc) .none, .bool (matchP ps t p).2]) := by
  have em : maxLen = 9223372036854775807 := by decide
  have hx' : ps.length ≤ maxLen := by rw [em]; omega
  have m1 : ((0 : Int) ≤ (ps.length : Int)) = True := by simp
  have m2 : ((ps.length : Int) ≤ ps.length) = True := by simp
  have m3 : ((ps.length : Int) * 40 ≤ 140737488355328) = True := by simp only [eq_iff_iff, iff_true]; omega
  have m4 : ((ps.length : Int) ≤ maxLen) = True := by simp only [eq_iff_iff, iff_true]; omega
  have m5 : ((ps.length : Int) * 1 ≤ 140737488355328) = True := by simp only [eq_iff_iff, iff_true]; omega
  have hok := matchT_ok ps p t (mS0 ps) ht (mS0_ok ps)
  have hM : ACalls Try.prog 74 [.optr 4 0, t.enc, p.enc] [.row [.int .i64 t.kind, .int .i64 t.id, .slice (t.args.map Ty.enc) .none], .row [.int .i64 p.kind, .int .i64 p.id, .slice (p.args.map Ty.enc) .none], .row (flatE ((List.replicate ps.length (Ty.mk 0 0 [])).map Ty.enc)), .row ((List.replicate ps.length false).map PV.bool), .row [.slice (ps.map vint) .none, .msl 2 0 ps.length ps.length, .msl 3 0 ps.length ps.length]]
      fun r' H' => r' = .bool (matchT ps t p (mS0 ps)).1 ∧ H' = [.row [.int .i64 t.kind, .int .i64 t.id, .slice (t.args.map Ty.enc) .none], .row [.int .i64 p.kind, .int .i64 p.id, .slice (p.args.map Ty.enc) .none], .row (flatE ((matchT ps t p (mS0 ps)).2.1.map Ty.enc)), .row ((matchT ps t p (mS0 ps)).2.2.map PV.bool), .row [.slice (ps.map vint) .none, .msl 2 0 ps.length ps.length, .msl 3 0 ps.length ps.length]] := by
    have := match_k ps hx' (im := 4) (ia := 2) (ib := 3) (by decide) (by decide) (by decide) p.size t p [.row [.int .i64 t.kind, .int .i64 t.id, .slice (t.args.map Ty.enc) .none], .row [.int .i64 p.kind, .int .i64 p.id, .slice (p.args.map Ty.enc) .none], .row (flatE ((List.replicate ps.length (Ty.mk 0 0 [])).map Ty.enc)), .row ((List.replicate ps.length false).map PV.bool), .row [.slice (ps.map vint) .none, .msl 2 0 ps.length ps.length, .msl 3 0 ps.length ps.length]] (mS0 ps) (Nat.le_refl _) ht hp (mS0_ok ps) (by simp) (by simp) rfl
    rw [mH_self rfl rfl] at this
    exact this
  refine pc_of (N := 27) Try.func22 rfl rfl (by simp) (by simp [Ty.bel, bel_ints0]) (.tup _ (by simp [bel_slice_ty, Bel.bool])) ?_
  repeat (refine awp_seq ?_)
  refine e_eval (by simp only [jA, jO, jN, seval, y24, vint, TyS, TyF] <;> with_reducible rfl) (by decide) ?_
  repeat (refine awp_seq ?_)
  refine awp_draw 3 (by kernel_rfl) ?_
  refine d_take (bm := [0, 0, 2, 6, 0, 16, 48, 127, 255, 511]) 3 (fresh := (4)) (by kernel_rfl) (by simp only [jD, jO, jN, seval, y3, y25, vint, TyS, TyF, m1, m2, m3, m4, m5] <;> with_reducible rfl) (by decide) (by decide) ?_
  refine dops_mt (bm := [0, 0, 2, 6, 0, 16, 48, 127, 255, 511]) (2) (by kernel_rfl) (by simp only [jD, jO, jN, seval, y22, y24, vint, TyS, TyF, m1, m2, m3, m4, m5, amakeSlice]) (by decide) (by simp only [jD, jO, jN, seval, y22, y24, vint, TyS, TyF, m1, m2, m3, m4, m5, amakeSlice] <;> with_reducible rfl) (by simp only [jD, jO, jN, seval, y22, y24, vint, TyS, TyF, m1, m2, m3, m4, m5, amakeSlice]) (by simp only [jD, jO, jN, seval, y22, y24, vint, TyS, TyF, m1, m2, m3, m4, m5, amakeSlice]) (by simp only [jD, jO, jN, seval, y22, y24, vint, TyS, TyF, m1, m2, m3, m4, m5, amakeSlice] <;> with_reducible rfl) (by simp only [jD, jO, jN, seval, y22, y24, vint, TyS, TyF, m1, m2, m3, m4, m5, amakeSlice] <;> with_reducible rfl) (by simp only [jD, jO, jN, seval, y22, y24, vint, TyS, TyF, m1, m2, m3, m4, m5, amakeSlice] <;> with_reducible rfl) ?_
  refine d_take (bm := [0, 0, 2, 6, 0, 16, 48, 127, 255, 511]) 2 (fresh := (4)) (by kernel_rfl) (by simp only [jD, jO, jN, seval, y3, y25, vint, TyS, TyF, m1, m2, m3, m4, m5] <;> with_reducible rfl) (by decide) (by decide) ?_
  refine dops_mt (bm := [0, 0, 2, 6, 0, 16, 48, 127, 255, 511]) (3) (by kernel_rfl) (by simp only [jD, jO, jN, seval, y4, y102, vint, TyS, TyF, m1, m2, m3, m4, m5, amakeSlice]) (by decide) (by simp only [jD, jO, jN, seval, y4, y102, vint, TyS, TyF, m1, m2, m3, m4, m5, amakeSlice] <;> with_reducible rfl) (by simp only [jD, jO, jN, seval, y4, y102, vint, TyS, TyF, m1, m2, m3, m4, m5, amakeSlice]) (by simp only [jD, jO, jN, seval, y4, y102, vint, TyS, TyF, m1, m2, m3, m4, m5, amakeSlice]) (by simp only [jD, jO, jN, seval, y4, y102, vint, TyS, TyF, m1, m2, m3, m4, m5, amakeSlice] <;> with_reducible rfl) (by simp only [jD, jO, jN, seval, y4, y102, vint, TyS, TyF, m1, m2, m3, m4, m5, amakeSlice] <;> with_reducible rfl) (by simp only [jD, jO, jN, seval, y4, y102, vint, TyS, TyF, m1, m2, m3, m4, m5, amakeSlice] <;> with_reducible rfl) ?_
  refine d_end (bm := [0, 0, 2, 6, 0, 16, 48, 127, 255, 511]) (fresh := (4)) (by kernel_rfl) (by simp only [jD, jO, jN, seval, y104, vint, TyS, TyF, m1, m2, m3, m4, m5] <;> with_reducible rfl) (by decide) ?_
  repeat (refine awp_seq ?_)
  refine awp_dropRow 2 rfl ?_
  refine awp_region ?_
  refine e_take 3 (by simp only [jA, jO, jN, seval, y24, vint, TyS, TyF, zero_row, false_row] <;> with_reducible rfl) (by decide) ?_
  refine aops_acall (by simp only [jC, jN, seval, vint, TyS, TyF, zero_row, false_row] <;> with_reducible rfl) (by simp only [jC, jN, seval, vint, TyS, TyF, zero_row, false_row]) (by decide) Trygo74 (hM) ?_
  rintro _ _ ⟨rfl, rfl⟩
  refine e_end (by simp only [jA, jO, jN, seval, vint, TyS, TyF, zero_row, false_row] <;> with_reducible rfl) (by decide) ?_
  repeat (refine awp_seq ?_)
  refine awp_cond rfl (by simp only [jN, seval, vint, TyS, TyF] <;> with_reducible rfl) (fun b0 => ?_) (fun b0 => ?_)
  ·
    refine awp_sel [] (by simp only [jN, seval, vint, TyS, TyF] <;> with_reducible rfl) ?_
    repeat (refine awp_seq ?_)
    refine e_eval (by simp only [jA, jO, jN, seval, vint, TyS, TyF] <;> with_reducible rfl) (by decide) ?_
    repeat (refine awp_seq ?_)
    refine awp_ret ⟨.inr rfl, _, (ares_two (.tmp 6) (.tmp 7) rfl (ares_tmp1 (by decide)) (ares_tmp1 (by decide))), ?_⟩
    have hb' : (matchT ps t p (mS0 ps)).1 = false := by simpa using b0
    simp only [matchP, hb', Bool.false_eq_true, if_false]
    simp only [jN, seval, vint, TyS, TyF]
  ·
    repeat (refine awp_seq ?_)
    refine awp_skip ?_
    refine awp_sel [8] (by simp only [jN, seval, vint, TyS, TyF] <;> with_reducible rfl) ?_
    repeat (refine awp_seq ?_)
    refine e_eval (by simp only [jA, jO, jN, seval, y22, y24, y104, vint, TyS, TyF] <;> with_reducible rfl) (by decide) ?_
    repeat (refine awp_seq ?_)
    have hb' : (matchT ps t p (mS0 ps)).1 = true := by simpa using b0
    have hl := hok.l1
    refine awp_freeze (H1 := []) [(6, .slice ((matchT ps t p (mS0 ps)).2.1.map Ty.enc) .none), (7, .bool true)] ⟨.inr ⟨2, ps.length, ps.length, 3, (matchT ps t p (mS0 ps)).2.1.map Ty.enc, rfl, Nat.zero_le _, rfl, by simp [hl], Nat.le_refl _, fun e he => by obtain ⟨t, _, rfl⟩ := List.mem_map.1 he; exact Ty.enc_len t, fun e he => by obtain ⟨t, _, rfl⟩ := List.mem_map.1 he; exact fun x hx => by have := Ty.bel 0 t; rw [Ty.enc_eq] at this; cases this with | agg _ h => rw [Ty.enc_cells] at hx; exact h x hx, by rw [List.take_of_length_le (by simp [hl])]⟩, .same (.bool _), trivial⟩ rfl (Nat.le_refl _) (hbel_nil _) ?_
    refine awp_ret ⟨.inr rfl, _, (ares_two (.tmp 6) (.tmp 7) rfl (ares_tmp1 (by decide)) (ares_tmp1 (by decide))), ?_⟩
    simp only [matchP, hb', if_true]
    simp only [jN, seval, vint, TyS, TyF]

end Go.Abs
set_option maxRecDepth 4000
namespace Go.Abs
/-- api.TraitBound, as data. -/
structure TB where
  t : Ty
  tr : Int
def TB.enc (t : TB) : PV := .agg [.int .i64 t.t.kind, .int .i64 t.t.id, .slice (t.t.args.map Ty.enc) .none, .int .i64 t.tr]
theorem TB.enc_eq (t : TB) : t.enc = .agg [.int .i64 t.t.kind, .int .i64 t.t.id, .slice (t.t.args.map Ty.enc) .none, .int .i64 t.tr] := rfl
theorem TB.enc_cells (t : TB) : t.enc.cells = [.int .i64 t.t.kind, .int .i64 t.t.id, .slice (t.t.args.map Ty.enc) .none, .int .i64 t.tr] := rfl
theorem TB.eta (t : TB) : TB.mk t.t t.tr = t := rfl
theorem TB.enc_drop1 (t : TB) : t.enc.drop1 = t.enc := by rw [TB.enc_eq]; rfl
theorem TB.enc_drop0 (t : TB) : t.enc.drop0 = t.enc := by rw [TB.enc_eq]; rfl
theorem TB.enc_len (t : TB) : t.enc.cells.length = 4 := by rw [TB.enc_cells]; rfl
theorem TB.enc_junk (t : TB) : t.enc.isJunk = false := by rw [TB.enc_eq]; rfl
theorem TB.enc_agg (t : TB) : PV.agg t.enc.cells = t.enc := by rw [TB.enc_cells, TB.enc_eq]
theorem TB.bel (n : Nat) (t : TB) : Bel n t.enc := .agg _ (by
  intro c hc
  simp only [List.mem_cons, List.not_mem_nil, or_false] at hc
  rcases hc with rfl | rfl | rfl | rfl
  · exact .int _ _
  · exact .int _ _
  · exact bel_slice_ty _ _
  · exact .int _ _)
theorem bel_TB (n : Nat) (us : List TB) : Bel n (.slice (us.map TB.enc) .none) := .slice _ _ (fun e he c hc => by
  obtain ⟨b, _, rfl⟩ := List.mem_map.1 he
  have := TB.bel n b
  rw [TB.enc_eq] at this hc
  cases this with | agg _ h => exact h c hc) (by simp)
theorem bel_TB_tok {n id : Nat} (us : List TB) (h : id < n) : Bel n (.slice (us.map TB.enc) (.tok id)) := by
  have := bel_TB n us
  cases this with
  | slice _ _ h1 h2 => exact .slice _ _ h1 (fun _ e => by cases e; exact h)
/-- Rules. -/
theorem TBS : (∀ t : TB, t.enc.cells = [.int .i64 t.t.kind, .int .i64 t.t.id, .slice (t.t.args.map Ty.enc) .none, .int .i64 t.tr]) ∧ (∀ t : TB, t.enc.isJunk = false) ∧ (∀ t : TB, t.enc.drop1 = t.enc) ∧ (∀ t : TB, t.enc.drop0 = t.enc) ∧ (∀ (t : TB) (b : Nat), t.enc.fits ⟨true, 4, b⟩ = true) :=
  ⟨TB.enc_cells, TB.enc_junk, TB.enc_drop1, TB.enc_drop0, fun t b => by rw [TB.enc_eq]; rfl⟩
theorem TBF : (∀ (tkind : Int) (tid : Int) (targs : List (Ty)) (tr : Int), PV.agg [.int .i64 tkind, .int .i64 tid, .slice (targs.map Ty.enc) .none, .int .i64 tr] = (TB.mk (Ty.mk tkind tid targs) tr).enc) ∧
    (∀ (tkind : Int) (tid : Int) (tr : Int), PV.agg [.int .i64 tkind, .int .i64 tid, .slice [] .none, .int .i64 tr] = (TB.mk (Ty.mk tkind tid []) tr).enc) ∧
    (∀ t : TB, TB.mk t.t t.tr = t) ∧
    (∀ (t : Ty) (tr : Int), (TB.mk t tr).t = t) ∧
    (∀ (t : Ty) (tr : Int), (TB.mk t tr).tr = tr) :=
  ⟨fun tkind tid targs tr => (TB.enc_eq (TB.mk (Ty.mk tkind tid targs) tr)).symm, fun tkind tid tr => (TB.enc_eq (TB.mk (Ty.mk tkind tid []) tr)).symm, TB.eta, fun _ _ => rfl, fun _ _ => rfl⟩
/-- No list is longer than the rows bear. -/
def TB.W (t : TB) : Prop := t.t.W
theorem TB.W.st_t {t : TB} (h : t.W) : t.t.W := h
theorem app_TB {us : List TB} {u : TB} {id : Nat} {tl : Tail} (hb : (us.length + 1) * 48 ≤ 2 ^ 47) (fresh : Nat) (H : Heap) (hH : H[id]? = some (.buf us.length 4)) :
    aappend ⟨true, 4, 48⟩ fresh H (.slice (us.map TB.enc) (.tok id)) (.slice [u.enc] tl) = some (.slice ((us ++ [u]).map TB.enc) (.tok id), some (id, .buf (us.length + 1) 4)) := by
  have hmx : maxLen = 9223372036854775807 := by decide
  rw [aappend_tok1 (n := us.length) hH (by simp) (by simpa using hb) (by simp; omega) (fun e he => by obtain ⟨v, _, rfl⟩ := List.mem_map.1 he; exact v.enc_len) u.enc_len (by rw [TB.enc_cells]; rfl) (by decide)]
  simp
/-- api.Declaration, as data. -/
structure Dc where
  ps : List (Int)
  t : Ty
  tr : Int
  bs : List (TB)
  ms : List (Int)
def Dc.enc (t : Dc) : PV := .agg [.slice (t.ps.map vint) .none, .int .i64 t.t.kind, .int .i64 t.t.id, .slice (t.t.args.map Ty.enc) .none, .int .i64 t.tr, .slice (t.bs.map TB.enc) .none, .slice (t.ms.map vint) .none]
theorem Dc.enc_eq (t : Dc) : t.enc = .agg [.slice (t.ps.map vint) .none, .int .i64 t.t.kind, .int .i64 t.t.id, .slice (t.t.args.map Ty.enc) .none, .int .i64 t.tr, .slice (t.bs.map TB.enc) .none, .slice (t.ms.map vint) .none] := rfl
theorem Dc.enc_cells (t : Dc) : t.enc.cells = [.slice (t.ps.map vint) .none, .int .i64 t.t.kind, .int .i64 t.t.id, .slice (t.t.args.map Ty.enc) .none, .int .i64 t.tr, .slice (t.bs.map TB.enc) .none, .slice (t.ms.map vint) .none] := rfl
theorem Dc.eta (t : Dc) : Dc.mk t.ps t.t t.tr t.bs t.ms = t := rfl
theorem Dc.enc_drop1 (t : Dc) : t.enc.drop1 = t.enc := by rw [Dc.enc_eq]; rfl
theorem Dc.enc_drop0 (t : Dc) : t.enc.drop0 = t.enc := by rw [Dc.enc_eq]; rfl
theorem Dc.enc_len (t : Dc) : t.enc.cells.length = 7 := by rw [Dc.enc_cells]; rfl
theorem Dc.enc_junk (t : Dc) : t.enc.isJunk = false := by rw [Dc.enc_eq]; rfl
theorem Dc.enc_agg (t : Dc) : PV.agg t.enc.cells = t.enc := by rw [Dc.enc_cells, Dc.enc_eq]
theorem Dc.bel (n : Nat) (t : Dc) : Bel n t.enc := .agg _ (by
  intro c hc
  simp only [List.mem_cons, List.not_mem_nil, or_false] at hc
  rcases hc with rfl | rfl | rfl | rfl | rfl | rfl | rfl
  · exact bel_ints0 _ _
  · exact .int _ _
  · exact .int _ _
  · exact bel_slice_ty _ _
  · exact .int _ _
  · exact bel_TB _ _
  · exact bel_ints0 _ _)
theorem bel_Dc (n : Nat) (us : List Dc) : Bel n (.slice (us.map Dc.enc) .none) := .slice _ _ (fun e he c hc => by
  obtain ⟨b, _, rfl⟩ := List.mem_map.1 he
  have := Dc.bel n b
  rw [Dc.enc_eq] at this hc
  cases this with | agg _ h => exact h c hc) (by simp)
theorem bel_Dc_tok {n id : Nat} (us : List Dc) (h : id < n) : Bel n (.slice (us.map Dc.enc) (.tok id)) := by
  have := bel_Dc n us
  cases this with
  | slice _ _ h1 h2 => exact .slice _ _ h1 (fun _ e => by cases e; exact h)
/-- Rules. -/
theorem DcS : (∀ t : Dc, t.enc.cells = [.slice (t.ps.map vint) .none, .int .i64 t.t.kind, .int .i64 t.t.id, .slice (t.t.args.map Ty.enc) .none, .int .i64 t.tr, .slice (t.bs.map TB.enc) .none, .slice (t.ms.map vint) .none]) ∧ (∀ t : Dc, t.enc.isJunk = false) ∧ (∀ t : Dc, t.enc.drop1 = t.enc) ∧ (∀ t : Dc, t.enc.drop0 = t.enc) ∧ (∀ (t : Dc) (b : Nat), t.enc.fits ⟨true, 7, b⟩ = true) :=
  ⟨Dc.enc_cells, Dc.enc_junk, Dc.enc_drop1, Dc.enc_drop0, fun t b => by rw [Dc.enc_eq]; rfl⟩
theorem DcF : (∀ (ps : List (Int)) (tkind : Int) (tid : Int) (targs : List (Ty)) (tr : Int) (bs : List (TB)) (ms : List (Int)), PV.agg [.slice (ps.map vint) .none, .int .i64 tkind, .int .i64 tid, .slice (targs.map Ty.enc) .none, .int .i64 tr, .slice (bs.map TB.enc) .none, .slice (ms.map vint) .none] = (Dc.mk ps (Ty.mk tkind tid targs) tr bs ms).enc) ∧
    (∀ (tkind : Int) (tid : Int) (targs : List (Ty)) (tr : Int) (bs : List (TB)) (ms : List (Int)), PV.agg [.slice [] .none, .int .i64 tkind, .int .i64 tid, .slice (targs.map Ty.enc) .none, .int .i64 tr, .slice (bs.map TB.enc) .none, .slice (ms.map vint) .none] = (Dc.mk [] (Ty.mk tkind tid targs) tr bs ms).enc) ∧
    (∀ (ps : List (Int)) (tkind : Int) (tid : Int) (tr : Int) (bs : List (TB)) (ms : List (Int)), PV.agg [.slice (ps.map vint) .none, .int .i64 tkind, .int .i64 tid, .slice [] .none, .int .i64 tr, .slice (bs.map TB.enc) .none, .slice (ms.map vint) .none] = (Dc.mk ps (Ty.mk tkind tid []) tr bs ms).enc) ∧
    (∀ (ps : List (Int)) (tkind : Int) (tid : Int) (targs : List (Ty)) (tr : Int) (ms : List (Int)), PV.agg [.slice (ps.map vint) .none, .int .i64 tkind, .int .i64 tid, .slice (targs.map Ty.enc) .none, .int .i64 tr, .slice [] .none, .slice (ms.map vint) .none] = (Dc.mk ps (Ty.mk tkind tid targs) tr [] ms).enc) ∧
    (∀ (ps : List (Int)) (tkind : Int) (tid : Int) (targs : List (Ty)) (tr : Int) (bs : List (TB)), PV.agg [.slice (ps.map vint) .none, .int .i64 tkind, .int .i64 tid, .slice (targs.map Ty.enc) .none, .int .i64 tr, .slice (bs.map TB.enc) .none, .slice [] .none] = (Dc.mk ps (Ty.mk tkind tid targs) tr bs []).enc) ∧
    (∀ (tkind : Int) (tid : Int) (tr : Int) (bs : List (TB)) (ms : List (Int)), PV.agg [.slice [] .none, .int .i64 tkind, .int .i64 tid, .slice [] .none, .int .i64 tr, .slice (bs.map TB.enc) .none, .slice (ms.map vint) .none] = (Dc.mk [] (Ty.mk tkind tid []) tr bs ms).enc) ∧
    (∀ (tkind : Int) (tid : Int) (targs : List (Ty)) (tr : Int) (ms : List (Int)), PV.agg [.slice [] .none, .int .i64 tkind, .int .i64 tid, .slice (targs.map Ty.enc) .none, .int .i64 tr, .slice [] .none, .slice (ms.map vint) .none] = (Dc.mk [] (Ty.mk tkind tid targs) tr [] ms).enc) ∧
    (∀ (tkind : Int) (tid : Int) (targs : List (Ty)) (tr : Int) (bs : List (TB)), PV.agg [.slice [] .none, .int .i64 tkind, .int .i64 tid, .slice (targs.map Ty.enc) .none, .int .i64 tr, .slice (bs.map TB.enc) .none, .slice [] .none] = (Dc.mk [] (Ty.mk tkind tid targs) tr bs []).enc) ∧
    (∀ (ps : List (Int)) (tkind : Int) (tid : Int) (tr : Int) (ms : List (Int)), PV.agg [.slice (ps.map vint) .none, .int .i64 tkind, .int .i64 tid, .slice [] .none, .int .i64 tr, .slice [] .none, .slice (ms.map vint) .none] = (Dc.mk ps (Ty.mk tkind tid []) tr [] ms).enc) ∧
    (∀ (ps : List (Int)) (tkind : Int) (tid : Int) (tr : Int) (bs : List (TB)), PV.agg [.slice (ps.map vint) .none, .int .i64 tkind, .int .i64 tid, .slice [] .none, .int .i64 tr, .slice (bs.map TB.enc) .none, .slice [] .none] = (Dc.mk ps (Ty.mk tkind tid []) tr bs []).enc) ∧
    (∀ (ps : List (Int)) (tkind : Int) (tid : Int) (targs : List (Ty)) (tr : Int), PV.agg [.slice (ps.map vint) .none, .int .i64 tkind, .int .i64 tid, .slice (targs.map Ty.enc) .none, .int .i64 tr, .slice [] .none, .slice [] .none] = (Dc.mk ps (Ty.mk tkind tid targs) tr [] []).enc) ∧
    (∀ (tkind : Int) (tid : Int) (tr : Int) (ms : List (Int)), PV.agg [.slice [] .none, .int .i64 tkind, .int .i64 tid, .slice [] .none, .int .i64 tr, .slice [] .none, .slice (ms.map vint) .none] = (Dc.mk [] (Ty.mk tkind tid []) tr [] ms).enc) ∧
    (∀ (tkind : Int) (tid : Int) (tr : Int) (bs : List (TB)), PV.agg [.slice [] .none, .int .i64 tkind, .int .i64 tid, .slice [] .none, .int .i64 tr, .slice (bs.map TB.enc) .none, .slice [] .none] = (Dc.mk [] (Ty.mk tkind tid []) tr bs []).enc) ∧
    (∀ (tkind : Int) (tid : Int) (targs : List (Ty)) (tr : Int), PV.agg [.slice [] .none, .int .i64 tkind, .int .i64 tid, .slice (targs.map Ty.enc) .none, .int .i64 tr, .slice [] .none, .slice [] .none] = (Dc.mk [] (Ty.mk tkind tid targs) tr [] []).enc) ∧
    (∀ (ps : List (Int)) (tkind : Int) (tid : Int) (tr : Int), PV.agg [.slice (ps.map vint) .none, .int .i64 tkind, .int .i64 tid, .slice [] .none, .int .i64 tr, .slice [] .none, .slice [] .none] = (Dc.mk ps (Ty.mk tkind tid []) tr [] []).enc) ∧
    (∀ (tkind : Int) (tid : Int) (tr : Int), PV.agg [.slice [] .none, .int .i64 tkind, .int .i64 tid, .slice [] .none, .int .i64 tr, .slice [] .none, .slice [] .none] = (Dc.mk [] (Ty.mk tkind tid []) tr [] []).enc) ∧
    (∀ t : Dc, Dc.mk t.ps t.t t.tr t.bs t.ms = t) ∧
    (∀ (ps : List (Int)) (t : Ty) (tr : Int) (bs : List (TB)) (ms : List (Int)), (Dc.mk ps t tr bs ms).ps = ps) ∧
    (∀ (ps : List (Int)) (t : Ty) (tr : Int) (bs : List (TB)) (ms : List (Int)), (Dc.mk ps t tr bs ms).t = t) ∧
    (∀ (ps : List (Int)) (t : Ty) (tr : Int) (bs : List (TB)) (ms : List (Int)), (Dc.mk ps t tr bs ms).tr = tr) ∧
    (∀ (ps : List (Int)) (t : Ty) (tr : Int) (bs : List (TB)) (ms : List (Int)), (Dc.mk ps t tr bs ms).bs = bs) ∧
    (∀ (ps : List (Int)) (t : Ty) (tr : Int) (bs : List (TB)) (ms : List (Int)), (Dc.mk ps t tr bs ms).ms = ms) :=
  ⟨fun ps tkind tid targs tr bs ms => (Dc.enc_eq (Dc.mk ps (Ty.mk tkind tid targs) tr bs ms)).symm, fun tkind tid targs tr bs ms => (Dc.enc_eq (Dc.mk [] (Ty.mk tkind tid targs) tr bs ms)).symm, fun ps tkind tid tr bs ms => (Dc.enc_eq (Dc.mk ps (Ty.mk tkind tid []) tr bs ms)).symm, fun ps tkind tid targs tr ms => (Dc.enc_eq (Dc.mk ps (Ty.mk tkind tid targs) tr [] ms)).symm, fun ps tkind tid targs tr bs => (Dc.enc_eq (Dc.mk ps (Ty.mk tkind tid targs) tr bs [])).symm, fun tkind tid tr bs ms => (Dc.enc_eq (Dc.mk [] (Ty.mk tkind tid []) tr bs ms)).symm, fun tkind tid targs tr ms => (Dc.enc_eq (Dc.mk [] (Ty.mk tkind tid targs) tr [] ms)).symm, fun tkind tid targs tr bs => (Dc.enc_eq (Dc.mk [] (Ty.mk tkind tid targs) tr bs [])).symm, fun ps tkind tid tr ms => (Dc.enc_eq (Dc.mk ps (Ty.mk tkind tid []) tr [] ms)).symm, fun ps tkind tid tr bs => (Dc.enc_eq (Dc.mk ps (Ty.mk tkind tid []) tr bs [])).symm, fun ps tkind tid targs tr => (Dc.enc_eq (Dc.mk ps (Ty.mk tkind tid targs) tr [] [])).symm, fun tkind tid tr ms => (Dc.enc_eq (Dc.mk [] (Ty.mk tkind tid []) tr [] ms)).symm, fun tkind tid tr bs => (Dc.enc_eq (Dc.mk [] (Ty.mk tkind tid []) tr bs [])).symm, fun tkind tid targs tr => (Dc.enc_eq (Dc.mk [] (Ty.mk tkind tid targs) tr [] [])).symm, fun ps tkind tid tr => (Dc.enc_eq (Dc.mk ps (Ty.mk tkind tid []) tr [] [])).symm, fun tkind tid tr => (Dc.enc_eq (Dc.mk [] (Ty.mk tkind tid []) tr [] [])).symm, Dc.eta, fun _ _ _ _ _ => rfl, fun _ _ _ _ _ => rfl, fun _ _ _ _ _ => rfl, fun _ _ _ _ _ => rfl, fun _ _ _ _ _ => rfl⟩
/-- No list is longer than the rows bear. -/
def Dc.W (t : Dc) : Prop := t.ps.length * 8 ≤ 2 ^ 47 ∧ t.t.W ∧ t.bs.length * 48 ≤ 2 ^ 47 ∧ (∀ u ∈ t.bs, u.W) ∧ t.ms.length * 8 ≤ 2 ^ 47
theorem Dc.W.len_ps {t : Dc} (h : t.W) : t.ps.length * 8 ≤ 2 ^ 47 := h.1
theorem Dc.W.max_ps {t : Dc} (h : t.W) : t.ps.length ≤ maxLen := by
  have em : maxLen = 9223372036854775807 := by decide
  have := h.len_ps; rw [em]; omega
theorem Dc.W.len_bs {t : Dc} (h : t.W) : t.bs.length * 48 ≤ 2 ^ 47 := h.2.2.1
theorem Dc.W.max_bs {t : Dc} (h : t.W) : t.bs.length ≤ maxLen := by
  have em : maxLen = 9223372036854775807 := by decide
  have := h.len_bs; rw [em]; omega
theorem Dc.W.el_bs {t : Dc} (h : t.W) : ∀ u ∈ t.bs, u.W := h.2.2.2.1
theorem Dc.W.len_ms {t : Dc} (h : t.W) : t.ms.length * 8 ≤ 2 ^ 47 := h.2.2.2.2
theorem Dc.W.max_ms {t : Dc} (h : t.W) : t.ms.length ≤ maxLen := by
  have em : maxLen = 9223372036854775807 := by decide
  have := h.len_ms; rw [em]; omega
theorem Dc.W.st_t {t : Dc} (h : t.W) : t.t.W := h.2.1
theorem app_Dc {us : List Dc} {u : Dc} {id : Nat} {tl : Tail} (hb : (us.length + 1) * 120 ≤ 2 ^ 47) (fresh : Nat) (H : Heap) (hH : H[id]? = some (.buf us.length 7)) :
    aappend ⟨true, 7, 120⟩ fresh H (.slice (us.map Dc.enc) (.tok id)) (.slice [u.enc] tl) = some (.slice ((us ++ [u]).map Dc.enc) (.tok id), some (id, .buf (us.length + 1) 7)) := by
  have hmx : maxLen = 9223372036854775807 := by decide
  rw [aappend_tok1 (n := us.length) hH (by simp) (by simpa using hb) (by simp; omega) (fun e he => by obtain ⟨v, _, rfl⟩ := List.mem_map.1 he; exact v.enc_len) u.enc_len (by rw [Dc.enc_cells]; rfl) (by decide)]
  simp
/-- traits.solver, as data. -/
structure Sv where
  ds : List (Dc)
  sas : List (TB)
def Sv.enc (t : Sv) : PV := .agg [.slice (t.ds.map Dc.enc) .none, .slice (t.sas.map TB.enc) .none]
theorem Sv.enc_eq (t : Sv) : t.enc = .agg [.slice (t.ds.map Dc.enc) .none, .slice (t.sas.map TB.enc) .none] := rfl
theorem Sv.enc_cells (t : Sv) : t.enc.cells = [.slice (t.ds.map Dc.enc) .none, .slice (t.sas.map TB.enc) .none] := rfl
theorem Sv.eta (t : Sv) : Sv.mk t.ds t.sas = t := rfl
theorem Sv.enc_drop1 (t : Sv) : t.enc.drop1 = t.enc := by rw [Sv.enc_eq]; rfl
theorem Sv.enc_drop0 (t : Sv) : t.enc.drop0 = t.enc := by rw [Sv.enc_eq]; rfl
theorem Sv.enc_len (t : Sv) : t.enc.cells.length = 2 := by rw [Sv.enc_cells]; rfl
theorem Sv.enc_junk (t : Sv) : t.enc.isJunk = false := by rw [Sv.enc_eq]; rfl
theorem Sv.enc_agg (t : Sv) : PV.agg t.enc.cells = t.enc := by rw [Sv.enc_cells, Sv.enc_eq]
theorem Sv.bel (n : Nat) (t : Sv) : Bel n t.enc := .agg _ (by
  intro c hc
  simp only [List.mem_cons, List.not_mem_nil, or_false] at hc
  rcases hc with rfl | rfl
  · exact bel_Dc _ _
  · exact bel_TB _ _)
theorem bel_Sv (n : Nat) (us : List Sv) : Bel n (.slice (us.map Sv.enc) .none) := .slice _ _ (fun e he c hc => by
  obtain ⟨b, _, rfl⟩ := List.mem_map.1 he
  have := Sv.bel n b
  rw [Sv.enc_eq] at this hc
  cases this with | agg _ h => exact h c hc) (by simp)
theorem bel_Sv_tok {n id : Nat} (us : List Sv) (h : id < n) : Bel n (.slice (us.map Sv.enc) (.tok id)) := by
  have := bel_Sv n us
  cases this with
  | slice _ _ h1 h2 => exact .slice _ _ h1 (fun _ e => by cases e; exact h)
/-- Rules. -/
theorem SvS : (∀ t : Sv, t.enc.cells = [.slice (t.ds.map Dc.enc) .none, .slice (t.sas.map TB.enc) .none]) ∧ (∀ t : Sv, t.enc.isJunk = false) ∧ (∀ t : Sv, t.enc.drop1 = t.enc) ∧ (∀ t : Sv, t.enc.drop0 = t.enc) ∧ (∀ (t : Sv) (b : Nat), t.enc.fits ⟨true, 2, b⟩ = true) :=
  ⟨Sv.enc_cells, Sv.enc_junk, Sv.enc_drop1, Sv.enc_drop0, fun t b => by rw [Sv.enc_eq]; rfl⟩
theorem SvF : (∀ (ds : List (Dc)) (sas : List (TB)), PV.agg [.slice (ds.map Dc.enc) .none, .slice (sas.map TB.enc) .none] = (Sv.mk ds sas).enc) ∧
    (∀ (sas : List (TB)), PV.agg [.slice [] .none, .slice (sas.map TB.enc) .none] = (Sv.mk [] sas).enc) ∧
    (∀ (ds : List (Dc)), PV.agg [.slice (ds.map Dc.enc) .none, .slice [] .none] = (Sv.mk ds []).enc) ∧
    (PV.agg [.slice [] .none, .slice [] .none] = (Sv.mk [] []).enc) ∧
    (∀ t : Sv, Sv.mk t.ds t.sas = t) ∧
    (∀ (ds : List (Dc)) (sas : List (TB)), (Sv.mk ds sas).ds = ds) ∧
    (∀ (ds : List (Dc)) (sas : List (TB)), (Sv.mk ds sas).sas = sas) :=
  ⟨fun ds sas => (Sv.enc_eq (Sv.mk ds sas)).symm, fun sas => (Sv.enc_eq (Sv.mk [] sas)).symm, fun ds => (Sv.enc_eq (Sv.mk ds [])).symm, (Sv.enc_eq (Sv.mk [] [])).symm, Sv.eta, fun _ _ => rfl, fun _ _ => rfl⟩
/-- No list is longer than the rows bear. -/
def Sv.W (t : Sv) : Prop := t.ds.length * 120 ≤ 2 ^ 47 ∧ (∀ u ∈ t.ds, u.W) ∧ t.sas.length * 48 ≤ 2 ^ 47 ∧ (∀ u ∈ t.sas, u.W)
theorem Sv.W.len_ds {t : Sv} (h : t.W) : t.ds.length * 120 ≤ 2 ^ 47 := h.1
theorem Sv.W.max_ds {t : Sv} (h : t.W) : t.ds.length ≤ maxLen := by
  have em : maxLen = 9223372036854775807 := by decide
  have := h.len_ds; rw [em]; omega
theorem Sv.W.el_ds {t : Sv} (h : t.W) : ∀ u ∈ t.ds, u.W := h.2.1
theorem Sv.W.len_sas {t : Sv} (h : t.W) : t.sas.length * 48 ≤ 2 ^ 47 := h.2.2.1
theorem Sv.W.max_sas {t : Sv} (h : t.W) : t.sas.length ≤ maxLen := by
  have em : maxLen = 9223372036854775807 := by decide
  have := h.len_sas; rw [em]; omega
theorem Sv.W.el_sas {t : Sv} (h : t.W) : ∀ u ∈ t.sas, u.W := h.2.2.2
theorem app_Sv {us : List Sv} {u : Sv} {id : Nat} {tl : Tail} (hb : (us.length + 1) * 48 ≤ 2 ^ 47) (fresh : Nat) (H : Heap) (hH : H[id]? = some (.buf us.length 2)) :
    aappend ⟨true, 2, 48⟩ fresh H (.slice (us.map Sv.enc) (.tok id)) (.slice [u.enc] tl) = some (.slice ((us ++ [u]).map Sv.enc) (.tok id), some (id, .buf (us.length + 1) 2)) := by
  have hmx : maxLen = 9223372036854775807 := by decide
  rw [aappend_tok1 (n := us.length) hH (by simp) (by simpa using hb) (by simp; omega) (fun e he => by obtain ⟨v, _, rfl⟩ := List.mem_map.1 he; exact v.enc_len) u.enc_len (by rw [Sv.enc_cells]; rfl) (by decide)]
  simp
/-- api.TraitProof, as data. -/
inductive Pf where
  | mk (t : Ty) (tr : Int) (im : Int) (bd : Int) (args : List (Ty)) (prems : List (Pf))
def Pf.t : Pf → Ty | .mk x0 _ _ _ _ _ => x0
def Pf.tr : Pf → Int | .mk _ x1 _ _ _ _ => x1
def Pf.im : Pf → Int | .mk _ _ x2 _ _ _ => x2
def Pf.bd : Pf → Int | .mk _ _ _ x3 _ _ => x3
def Pf.args : Pf → List (Ty) | .mk _ _ _ _ x4 _ => x4
def Pf.prems : Pf → List (Pf) | .mk _ _ _ _ _ x5 => x5
mutual
def Pf.enc : Pf → PV
  | .mk x0 x1 x2 x3 x4 x5 => .agg [.int .i64 x0.kind, .int .i64 x0.id, .slice (x0.args.map Ty.enc) .none, .int .i64 x1, .int .i64 x2, .int .i64 x3, .slice (x4.map Ty.enc) .none, .slice (pfEncs x5) .none]
def pfEncs : List Pf → List PV
  | [] => []
  | t :: ts => t.enc :: pfEncs ts
end
theorem pfEncs_eq (ts : List Pf) : pfEncs ts = ts.map Pf.enc := by
  induction ts with
  | nil => rfl
  | cons t ts ih => simp [pfEncs, ih]
theorem Pf.enc_eq (t : Pf) : t.enc = .agg [.int .i64 t.t.kind, .int .i64 t.t.id, .slice (t.t.args.map Ty.enc) .none, .int .i64 t.tr, .int .i64 t.im, .int .i64 t.bd, .slice (t.args.map Ty.enc) .none, .slice (t.prems.map Pf.enc) .none] := by
  cases t; simp [Pf.enc, pfEncs_eq, Pf.t, Pf.tr, Pf.im, Pf.bd, Pf.args, Pf.prems]
theorem Pf.enc_cells (t : Pf) : t.enc.cells = [.int .i64 t.t.kind, .int .i64 t.t.id, .slice (t.t.args.map Ty.enc) .none, .int .i64 t.tr, .int .i64 t.im, .int .i64 t.bd, .slice (t.args.map Ty.enc) .none, .slice (t.prems.map Pf.enc) .none] := by
  rw [Pf.enc_eq]; rfl
theorem Pf.eta (t : Pf) : Pf.mk t.t t.tr t.im t.bd t.args t.prems = t := by cases t; rfl
theorem Pf.enc_drop1 (t : Pf) : t.enc.drop1 = t.enc := by rw [Pf.enc_eq]; rfl
theorem Pf.enc_drop0 (t : Pf) : t.enc.drop0 = t.enc := by rw [Pf.enc_eq]; rfl
theorem Pf.enc_len (t : Pf) : t.enc.cells.length = 8 := by rw [Pf.enc_cells]; rfl
theorem Pf.enc_junk (t : Pf) : t.enc.isJunk = false := by rw [Pf.enc_eq]; rfl
theorem Pf.enc_agg (t : Pf) : PV.agg t.enc.cells = t.enc := by rw [Pf.enc_cells, Pf.enc_eq]
mutual
theorem Pf.bel (n : Nat) : ∀ t : Pf, Bel n t.enc
  | .mk x0 x1 x2 x3 x4 x5 => .agg _ (by
      intro c hc
      simp only [List.mem_cons, List.not_mem_nil, or_false] at hc
      rcases hc with rfl | rfl | rfl | rfl | rfl | rfl | rfl | rfl
      · exact .int _ _
      · exact .int _ _
      · exact bel_slice_ty _ _
      · exact .int _ _
      · exact .int _ _
      · exact .int _ _
      · exact bel_slice_ty _ _
      · exact .slice _ _ (pfEncsBel n x5) (fun id h => by cases h))
theorem pfEncsBel (n : Nat) : ∀ ts : List Pf, ∀ e ∈ pfEncs ts, ∀ c ∈ e.cells, Bel n c
  | [] => fun e he => by simp [pfEncs] at he
  | t :: ts => fun e he c hc => by
    simp only [pfEncs, List.mem_cons] at he
    rcases he with rfl | he
    · have h := Pf.bel n t
      rw [Pf.enc_eq] at h hc
      cases h with
      | agg _ q => exact q c hc
    · exact pfEncsBel n ts e he c hc
end
theorem bel_Pf (n : Nat) (ts : List Pf) : Bel n (.slice (ts.map Pf.enc) .none) := by
  rw [← pfEncs_eq]; exact .slice _ _ (pfEncsBel n ts) (fun id h => by cases h)
mutual
def Pf.size : Pf → Nat
  | .mk _ _ _ _ _ x5 => 1 + pfSizes x5
def pfSizes : List Pf → Nat
  | [] => 0
  | t :: ts => t.size + pfSizes ts
end
theorem pfSizes_mem {u : Pf} : ∀ {us : List Pf}, u ∈ us → u.size ≤ pfSizes us
  | [], h => by cases h
  | v :: us, h => by
    simp only [pfSizes]
    rcases List.mem_cons.1 h with rfl | h
    · omega
    · have := pfSizes_mem h; omega
theorem Pf.size_prems {t u : Pf} (h : u ∈ t.prems) : u.size < t.size := by
  cases t with
  | mk x0 x1 x2 x3 x4 x5 => have := pfSizes_mem (us := x5) h; simp only [Pf.size]; omega
theorem bel_Pf_tok {n id : Nat} (us : List Pf) (h : id < n) : Bel n (.slice (us.map Pf.enc) (.tok id)) := by
  have := bel_Pf n us
  cases this with
  | slice _ _ h1 h2 => exact .slice _ _ h1 (fun _ e => by cases e; exact h)
/-- Rules. -/
theorem PfS : (∀ t : Pf, t.enc.cells = [.int .i64 t.t.kind, .int .i64 t.t.id, .slice (t.t.args.map Ty.enc) .none, .int .i64 t.tr, .int .i64 t.im, .int .i64 t.bd, .slice (t.args.map Ty.enc) .none, .slice (t.prems.map Pf.enc) .none]) ∧ (∀ t : Pf, t.enc.isJunk = false) ∧ (∀ t : Pf, t.enc.drop1 = t.enc) ∧ (∀ t : Pf, t.enc.drop0 = t.enc) ∧ (∀ (t : Pf) (b : Nat), t.enc.fits ⟨true, 8, b⟩ = true) :=
  ⟨Pf.enc_cells, Pf.enc_junk, Pf.enc_drop1, Pf.enc_drop0, fun t b => by rw [Pf.enc_eq]; rfl⟩
theorem PfF : (∀ (tkind : Int) (tid : Int) (targs : List (Ty)) (tr : Int) (im : Int) (bd : Int) (args : List (Ty)) (prems : List (Pf)), PV.agg [.int .i64 tkind, .int .i64 tid, .slice (targs.map Ty.enc) .none, .int .i64 tr, .int .i64 im, .int .i64 bd, .slice (args.map Ty.enc) .none, .slice (prems.map Pf.enc) .none] = (Pf.mk (Ty.mk tkind tid targs) tr im bd args prems).enc) ∧
    (∀ (tkind : Int) (tid : Int) (tr : Int) (im : Int) (bd : Int) (args : List (Ty)) (prems : List (Pf)), PV.agg [.int .i64 tkind, .int .i64 tid, .slice [] .none, .int .i64 tr, .int .i64 im, .int .i64 bd, .slice (args.map Ty.enc) .none, .slice (prems.map Pf.enc) .none] = (Pf.mk (Ty.mk tkind tid []) tr im bd args prems).enc) ∧
    (∀ (tkind : Int) (tid : Int) (targs : List (Ty)) (tr : Int) (im : Int) (bd : Int) (prems : List (Pf)), PV.agg [.int .i64 tkind, .int .i64 tid, .slice (targs.map Ty.enc) .none, .int .i64 tr, .int .i64 im, .int .i64 bd, .slice [] .none, .slice (prems.map Pf.enc) .none] = (Pf.mk (Ty.mk tkind tid targs) tr im bd [] prems).enc) ∧
    (∀ (tkind : Int) (tid : Int) (targs : List (Ty)) (tr : Int) (im : Int) (bd : Int) (args : List (Ty)), PV.agg [.int .i64 tkind, .int .i64 tid, .slice (targs.map Ty.enc) .none, .int .i64 tr, .int .i64 im, .int .i64 bd, .slice (args.map Ty.enc) .none, .slice [] .none] = (Pf.mk (Ty.mk tkind tid targs) tr im bd args []).enc) ∧
    (∀ (tkind : Int) (tid : Int) (tr : Int) (im : Int) (bd : Int) (prems : List (Pf)), PV.agg [.int .i64 tkind, .int .i64 tid, .slice [] .none, .int .i64 tr, .int .i64 im, .int .i64 bd, .slice [] .none, .slice (prems.map Pf.enc) .none] = (Pf.mk (Ty.mk tkind tid []) tr im bd [] prems).enc) ∧
    (∀ (tkind : Int) (tid : Int) (tr : Int) (im : Int) (bd : Int) (args : List (Ty)), PV.agg [.int .i64 tkind, .int .i64 tid, .slice [] .none, .int .i64 tr, .int .i64 im, .int .i64 bd, .slice (args.map Ty.enc) .none, .slice [] .none] = (Pf.mk (Ty.mk tkind tid []) tr im bd args []).enc) ∧
    (∀ (tkind : Int) (tid : Int) (targs : List (Ty)) (tr : Int) (im : Int) (bd : Int), PV.agg [.int .i64 tkind, .int .i64 tid, .slice (targs.map Ty.enc) .none, .int .i64 tr, .int .i64 im, .int .i64 bd, .slice [] .none, .slice [] .none] = (Pf.mk (Ty.mk tkind tid targs) tr im bd [] []).enc) ∧
    (∀ (tkind : Int) (tid : Int) (tr : Int) (im : Int) (bd : Int), PV.agg [.int .i64 tkind, .int .i64 tid, .slice [] .none, .int .i64 tr, .int .i64 im, .int .i64 bd, .slice [] .none, .slice [] .none] = (Pf.mk (Ty.mk tkind tid []) tr im bd [] []).enc) ∧
    (∀ t : Pf, Pf.mk t.t t.tr t.im t.bd t.args t.prems = t) ∧
    (∀ (t : Ty) (tr : Int) (im : Int) (bd : Int) (args : List (Ty)) (prems : List (Pf)), (Pf.mk t tr im bd args prems).t = t) ∧
    (∀ (t : Ty) (tr : Int) (im : Int) (bd : Int) (args : List (Ty)) (prems : List (Pf)), (Pf.mk t tr im bd args prems).tr = tr) ∧
    (∀ (t : Ty) (tr : Int) (im : Int) (bd : Int) (args : List (Ty)) (prems : List (Pf)), (Pf.mk t tr im bd args prems).im = im) ∧
    (∀ (t : Ty) (tr : Int) (im : Int) (bd : Int) (args : List (Ty)) (prems : List (Pf)), (Pf.mk t tr im bd args prems).bd = bd) ∧
    (∀ (t : Ty) (tr : Int) (im : Int) (bd : Int) (args : List (Ty)) (prems : List (Pf)), (Pf.mk t tr im bd args prems).args = args) ∧
    (∀ (t : Ty) (tr : Int) (im : Int) (bd : Int) (args : List (Ty)) (prems : List (Pf)), (Pf.mk t tr im bd args prems).prems = prems) :=
  ⟨fun tkind tid targs tr im bd args prems => (Pf.enc_eq (Pf.mk (Ty.mk tkind tid targs) tr im bd args prems)).symm, fun tkind tid tr im bd args prems => (Pf.enc_eq (Pf.mk (Ty.mk tkind tid []) tr im bd args prems)).symm, fun tkind tid targs tr im bd prems => (Pf.enc_eq (Pf.mk (Ty.mk tkind tid targs) tr im bd [] prems)).symm, fun tkind tid targs tr im bd args => (Pf.enc_eq (Pf.mk (Ty.mk tkind tid targs) tr im bd args [])).symm, fun tkind tid tr im bd prems => (Pf.enc_eq (Pf.mk (Ty.mk tkind tid []) tr im bd [] prems)).symm, fun tkind tid tr im bd args => (Pf.enc_eq (Pf.mk (Ty.mk tkind tid []) tr im bd args [])).symm, fun tkind tid targs tr im bd => (Pf.enc_eq (Pf.mk (Ty.mk tkind tid targs) tr im bd [] [])).symm, fun tkind tid tr im bd => (Pf.enc_eq (Pf.mk (Ty.mk tkind tid []) tr im bd [] [])).symm, Pf.eta, fun _ _ _ _ _ _ => rfl, fun _ _ _ _ _ _ => rfl, fun _ _ _ _ _ _ => rfl, fun _ _ _ _ _ _ => rfl, fun _ _ _ _ _ _ => rfl, fun _ _ _ _ _ _ => rfl⟩
/-- No list is longer than the rows bear. -/
inductive Pf.W : Pf → Prop
  | mk {t : Ty} {tr : Int} {im : Int} {bd : Int} {args : List (Ty)} {prems : List (Pf)} (h0 : t.W) (h1 : args.length * 40 ≤ 2 ^ 47) (h2 : (∀ u ∈ args, u.W)) (h3 : prems.length * 112 ≤ 2 ^ 47) (kprems : ∀ u ∈ prems, Pf.W u) : Pf.W (.mk t tr im bd args prems)
theorem Pf.W.w0 {t : Pf} (h : t.W) : t.t.W := by cases h; assumption
theorem Pf.W.w1 {t : Pf} (h : t.W) : t.args.length * 40 ≤ 2 ^ 47 := by cases h; assumption
theorem Pf.W.w2 {t : Pf} (h : t.W) : (∀ u ∈ t.args, u.W) := by cases h; assumption
theorem Pf.W.w3 {t : Pf} (h : t.W) : t.prems.length * 112 ≤ 2 ^ 47 := by cases h; assumption
theorem Pf.W.prems {t u : Pf} (h : t.W) (hu : u ∈ t.prems) : u.W := by cases h with | mk => exact (by assumption : ∀ u ∈ _, Pf.W u) u hu
theorem Pf.W_iff {t : Ty} {tr : Int} {im : Int} {bd : Int} {args : List (Ty)} {prems : List (Pf)} : (Pf.mk t tr im bd args prems).W ↔ t.W ∧ args.length * 40 ≤ 2 ^ 47 ∧ (∀ u ∈ args, u.W) ∧ prems.length * 112 ≤ 2 ^ 47 ∧ (∀ u ∈ prems, u.W) := by
  constructor
  · intro h
    cases h
    simp_all
  · intro h
    constructor <;> simp_all
theorem Pf.W.len_args {t : Pf} (h : t.W) : t.args.length * 40 ≤ 2 ^ 47 := h.w1
theorem Pf.W.max_args {t : Pf} (h : t.W) : t.args.length ≤ maxLen := by
  have em : maxLen = 9223372036854775807 := by decide
  have := h.len_args; rw [em]; omega
theorem Pf.W.el_args {t : Pf} (h : t.W) : ∀ u ∈ t.args, u.W := h.w2
theorem Pf.W.len_prems {t : Pf} (h : t.W) : t.prems.length * 112 ≤ 2 ^ 47 := h.w3
theorem Pf.W.max_prems {t : Pf} (h : t.W) : t.prems.length ≤ maxLen := by
  have em : maxLen = 9223372036854775807 := by decide
  have := h.len_prems; rw [em]; omega
theorem Pf.W.st_t {t : Pf} (h : t.W) : t.t.W := h.w0
theorem app_Pf {us : List Pf} {u : Pf} {id : Nat} {tl : Tail} (hb : (us.length + 1) * 112 ≤ 2 ^ 47) (fresh : Nat) (H : Heap) (hH : H[id]? = some (.buf us.length 8)) :
    aappend ⟨true, 8, 112⟩ fresh H (.slice (us.map Pf.enc) (.tok id)) (.slice [u.enc] tl) = some (.slice ((us ++ [u]).map Pf.enc) (.tok id), some (id, .buf (us.length + 1) 8)) := by
  have hmx : maxLen = 9223372036854775807 := by decide
  rw [aappend_tok1 (n := us.length) hH (by simp) (by simpa using hb) (by simp; omega) (fun e he => by obtain ⟨v, _, rfl⟩ := List.mem_map.1 he; exact v.enc_len) u.enc_len (by rw [Pf.enc_cells]; rfl) (by decide)]
  simp
/-- Rules in one. -/
theorem qT : type_of% (And.intro @TyS (And.intro @TyF (And.intro @TBS (And.intro @TBF (And.intro @DcS (And.intro @DcF (And.intro @SvS (And.intro @SvF (And.intro @PfS (@PfF)))))))))) := And.intro @TyS (And.intro @TyF (And.intro @TBS (And.intro @TBF (And.intro @DcS (And.intro @DcF (And.intro @SvS (And.intro @SvF (And.intro @PfS (@PfF)))))))))
end Go.Abs
namespace Go.Abs
/-! The chapter 'traits': searching and checking proofs, as functions of trees. -/
def Pf.zero : Pf := .mk (.mk 0 0 []) 0 0 0 [] []
def boundP (t : Ty) (tr : Int) (b : TB) : Bool := decide (b.tr = tr) && b.t.eqb t
def implP (t : Ty) (tr : Int) (d : Dc) : Bool := decide (d.tr = tr) && !(d.ps.any fun p => !cpar p d.t) && (matchP d.ps t d.t).2
def Dc.zero : Dc := .mk [] (.mk 0 0 []) 0 [] []
def implIx (ds : List Dc) (t : Ty) (tr : Int) : Int := idxI (implP t tr) ds
def implD (ds : List Dc) (t : Ty) (tr : Int) : Dc := ds.getD (implIx ds t tr).toNat .zero
def implAs (ds : List Dc) (t : Ty) (tr : Int) : List Ty := if 0 ≤ implIx ds t tr then (matchP (implD ds t tr).ps t (implD ds t tr).t).1 else []
def solveT (ds : List Dc) (as' : List TB) : Nat → Ty → Int → Pf × Bool
  | 0, _, _ => (.zero, false)
  | n + 1, t, tr =>
    if t.kind = 0 ∨ tr < 0 then (.zero, false)
    else if 0 ≤ idxI (boundP t tr) as' then (.mk t tr (-1) (idxI (boundP t tr) as') [] [], true)
    else if implIx ds t tr < 0 ∨ 4 < (implD ds t tr).bs.length then (.zero, false)
    else if ((implD ds t tr).bs.all fun b => (solveT ds as' n (mapT (appG (implD ds t tr).ps (implAs ds t tr)) b.t) b.tr).2) = true then
      (.mk t tr (implIx ds t tr) (-1) (implAs ds t tr) ((implD ds t tr).bs.map fun b => (solveT ds as' n (mapT (appG (implD ds t tr).ps (implAs ds t tr)) b.t) b.tr).1), true)
    else (.zero, false)
def checkT (ds : List Dc) (as' : List TB) : Nat → Pf → Bool
  | 0, _ => false
  | n + 1, p =>
    if p.im = -1 then
      decide (0 ≤ p.bd ∧ p.bd < as'.length) && p.args.isEmpty && p.prems.isEmpty && (match as'[p.bd.toNat]? with | some b => decide (b.tr = p.tr) && b.t.eqb p.t | none => false)
    else if p.bd ≠ -1 ∨ p.im < 0 ∨ (ds.length : Int) ≤ p.im ∨ p.tr < 0 then false
    else match ds[p.im.toNat]? with
      | none => false
      | some d => decide (d.tr = p.tr) && decide (p.args.length = d.ps.length) && decide (p.prems.length = d.bs.length) && (mapT (appG d.ps p.args) d.t).eqb p.t &&
        ((d.bs.zip p.prems).all fun x => decide (x.2.tr = x.1.tr) && x.2.t.eqb (mapT (appG d.ps p.args) x.1.t) && checkT ds as' n x.2)
theorem idxI_get {α : Type} {p : α → Bool} {xs : List α} (h : 0 ≤ idxI p xs) : ∃ (hl : (idxI p xs).toNat < xs.length), p (xs[(idxI p xs).toNat]'hl) = true := by
  obtain ⟨i, e, hi, hp⟩ : ∃ i : Nat, idxI p xs = i ∧ ∃ hi : i < xs.length, p xs[i] = true := by
    unfold idxI at h ⊢
    cases hf : xs.findIdx? p with
    | none => rw [hf] at h; simp at h
    | some i =>
      obtain ⟨hi, hp, _⟩ := List.findIdx?_eq_some_iff_getElem.1 hf
      exact ⟨i, rfl, hi, hp⟩
  rw [e]
  exact ⟨hi, hp⟩
theorem implD_get {ds : List Dc} {t : Ty} {tr : Int} (h : 0 ≤ implIx ds t tr) : ds[(implIx ds t tr).toNat]? = some (implD ds t tr) ∧ implP t tr (implD ds t tr) = true := by
  obtain ⟨hl, hp⟩ := idxI_get h
  have hl : (implIx ds t tr).toNat < ds.length := hl
  have e : implD ds t tr = ds[(implIx ds t tr).toNat] := by unfold implD; rw [List.getD_eq_getElem?_getD, List.getElem?_eq_getElem hl]; rfl
  exact ⟨by rw [List.getElem?_eq_getElem hl, e], by rw [e]; exact hp⟩
theorem solve_ty (ds : List Dc) (as' : List TB) (n : Nat) (t : Ty) (tr : Int) (h : (solveT ds as' n t tr).2 = true) : (solveT ds as' n t tr).1.t = t ∧ (solveT ds as' n t tr).1.tr = tr := by
  cases n with
  | zero => simp [solveT] at h
  | succ n =>
    rw [solveT] at h ⊢
    split at h
    · simp at h
    · rename_i h1
      rw [if_neg h1]
      split at h
      · rename_i h2
        rw [if_pos h2]; exact ⟨rfl, rfl⟩
      · rename_i h2
        rw [if_neg h2]
        split at h
        · simp at h
        · rename_i h3
          rw [if_neg h3]
          split at h
          · rename_i h4
            rw [if_pos h4]; exact ⟨rfl, rfl⟩
          · simp at h
/-- A found proof is accepted, whatever the fuel. -/
theorem solve_check (ds : List Dc) (as' : List TB) : ∀ (n : Nat) (t : Ty) (tr : Int) (k : Nat), t.W → (∀ d ∈ ds, d.W) → (solveT ds as' n t tr).2 = true → (solveT ds as' n t tr).1.size ≤ k → checkT ds as' k (solveT ds as' n t tr).1 = true := by
  intro n
  induction n with
  | zero => intro t tr k _ _ h; simp [solveT] at h
  | succ n ih =>
    intro t tr k hw hds h hk
    rw [solveT] at h hk ⊢
    split at h
    · simp at h
    · rename_i h1
      rw [if_neg h1] at hk ⊢
      split at h
      · rename_i h2
        rw [if_pos h2] at hk ⊢
        cases k with
        | zero => simp [Pf.size] at hk
        | succ k =>
          obtain ⟨hl, hp⟩ := idxI_get h2
          have hlt := idxI_lt h2
          simp only [boundP, Bool.and_eq_true, decide_eq_true_eq] at hp
          rw [checkT, if_pos (by rfl)]
          simp only [Pf.bd, Pf.args, Pf.prems, Pf.tr, Pf.t, List.getElem?_eq_getElem hl, hp, h2, hlt]
          simp
      · rename_i h2
        rw [if_neg h2] at hk ⊢
        split at h
        · simp at h
        · rename_i h3
          rw [if_neg h3] at hk ⊢
          split at h
          · rename_i h4
            rw [if_pos h4] at hk ⊢
            have hix : 0 ≤ implIx ds t tr := by omega
            obtain ⟨hg, hp⟩ := implD_get hix
            have hlt := idxI_lt hix
            have hlt : implIx ds t tr < ds.length := hlt
            unfold implP at hp
            simp only [Bool.and_eq_true, decide_eq_true_eq] at hp
            obtain ⟨hl, he⟩ := match_apply _ _ _ hw hp.2
            have hmem : implD ds t tr ∈ ds := List.mem_of_getElem? hg
            have ha : implAs ds t tr = (matchP (implD ds t tr).ps t (implD ds t tr).t).1 := by unfold implAs; rw [if_pos hix]
            cases k with
            | zero => simp [Pf.size] at hk
            | succ k =>
              rw [checkT, if_neg (by simp only [Pf.im]; omega), if_neg (by simp only [Pf.bd, Pf.im, Pf.tr]; omega)]
              simp only [Pf.im, hg, Pf.tr, Pf.args, Pf.prems, Pf.t]
              rw [ha] at h4 hk ⊢
              simp only [hl, he, Ty.eqb_self, hp.1.1, decide_true, List.length_map, Bool.and_self, Bool.true_and]
              rw [List.all_eq_true]
              intro x hx
              obtain ⟨b, hb, rfl⟩ : ∃ b ∈ (implD ds t tr).bs, x = (b, (solveT ds as' n (mapT (appG (implD ds t tr).ps (matchP (implD ds t tr).ps t (implD ds t tr).t).1) b.t) b.tr).1) := by
                have := List.zip_map_right (l₁ := (implD ds t tr).bs) (l₂ := (implD ds t tr).bs) (f := fun b => (solveT ds as' n (mapT (appG (implD ds t tr).ps (matchP (implD ds t tr).ps t (implD ds t tr).t).1) b.t) b.tr).1)
                rw [this] at hx
                obtain ⟨⟨b, b'⟩, hb, rfl⟩ := List.mem_map.1 hx
                have hbb : b = b' ∧ b ∈ (implD ds t tr).bs := by
                  rw [List.zip_eq_zipWith] at hb
                  obtain ⟨i, hi, hie⟩ := List.mem_iff_getElem.1 hb
                  simp at hie
                  exact ⟨hie.1.symm.trans hie.2, by rw [← hie.1]; exact List.getElem_mem _⟩
                exact ⟨b, hbb.2, by simp [Prod.map, hbb.1]⟩
              have hbo := List.all_eq_true.1 h4 b hb
              have hWb : (mapT (appG (implD ds t tr).ps (matchP (implD ds t tr).ps t (implD ds t tr).t).1) b.t).W := app_W (matchP_W _ _ _ hw) ((hds _ hmem).el_bs b hb).st_t
              obtain ⟨e1, e2⟩ := solve_ty ds as' n _ _ hbo
              have hsz : (solveT ds as' n (mapT (appG (implD ds t tr).ps (matchP (implD ds t tr).ps t (implD ds t tr).t).1) b.t) b.tr).1.size ≤ k := by
                have hm : (solveT ds as' n (mapT (appG (implD ds t tr).ps (matchP (implD ds t tr).ps t (implD ds t tr).t).1) b.t) b.tr).1 ∈ ((implD ds t tr).bs.map fun b => (solveT ds as' n (mapT (appG (implD ds t tr).ps (matchP (implD ds t tr).ps t (implD ds t tr).t).1) b.t) b.tr).1) := List.mem_map.2 ⟨b, hb, rfl⟩
                have := pfSizes_mem hm
                simp only [Pf.size] at hk
                omega
              simp only [Pf.t, Pf.tr] at e1 e2
              simp only [e1, e2, decide_true, Ty.eqb_self, ih _ _ k hWb hds hbo hsz, Bool.and_self]
          · simp at h
/-- A type other than the proved one is refused. -/
theorem check_other (ds : List Dc) (as' : List TB) (n : Nat) (t o : Ty) (tr : Int) (k : Nat) (hw : t.W) (h : (solveT ds as' n t tr).2 = true) (ho : t.eqb o = false) :
    checkT ds as' k (.mk o (solveT ds as' n t tr).1.tr (solveT ds as' n t tr).1.im (solveT ds as' n t tr).1.bd (solveT ds as' n t tr).1.args (solveT ds as' n t tr).1.prems) = false := by
  cases n with
  | zero => simp [solveT] at h
  | succ n =>
    cases k with
    | zero => rfl
    | succ k =>
      rw [solveT] at h ⊢
      split at h
      · simp at h
      · rename_i h1
        rw [if_neg h1]
        split at h
        · rename_i h2
          rw [if_pos h2]
          obtain ⟨hl, hp⟩ := idxI_get h2
          simp only [boundP, Bool.and_eq_true, decide_eq_true_eq, Ty.eqb_iff] at hp
          rw [checkT, if_pos (by rfl)]
          simp only [Pf.bd, Pf.args, Pf.prems, Pf.tr, Pf.t, List.getElem?_eq_getElem hl, hp, ho]
          simp
        · rename_i h2
          rw [if_neg h2]
          split at h
          · simp at h
          · rename_i h3
            rw [if_neg h3]
            split at h
            · rename_i h4
              rw [if_pos h4]
              have hix : 0 ≤ implIx ds t tr := by omega
              obtain ⟨hg, hp⟩ := implD_get hix
              unfold implP at hp
              simp only [Bool.and_eq_true, decide_eq_true_eq] at hp
              obtain ⟨hl, he⟩ := match_apply _ _ _ hw hp.2
              have ha : implAs ds t tr = (matchP (implD ds t tr).ps t (implD ds t tr).t).1 := by unfold implAs; rw [if_pos hix]
              have hlt := idxI_lt hix
              have hlt : implIx ds t tr < ds.length := hlt
              rw [checkT, if_neg (by simp only [Pf.im]; omega), if_neg (by simp only [Pf.bd, Pf.im, Pf.tr]; omega)]
              simp only [Pf.im, hg, Pf.tr, Pf.args, Pf.prems, Pf.t]
              rw [ha, he, ho]
              simp
            · simp at h
/-- An assumption more. -/
theorem solve_more (ds : List Dc) (as' : List TB) (e : TB) : ∀ (n : Nat) (t : Ty) (tr : Int), (solveT ds as' n t tr).2 = true → (solveT ds (as' ++ [e]) n t tr).2 = true := by
  intro n
  induction n with
  | zero => intro t tr h; simp [solveT] at h
  | succ n ih =>
    intro t tr h
    rw [solveT] at h ⊢
    split at h
    · simp at h
    · rename_i h1
      rw [if_neg h1]
      by_cases h5 : 0 ≤ idxI (boundP t tr) (as' ++ [e])
      · rw [if_pos h5]
      · rw [if_neg h5]
        have h2 : ¬ 0 ≤ idxI (boundP t tr) as' := by
          rw [← ge_iff_le, ← decide_eq_true_eq (p := _ ≥ _), idxI_nonneg] at h5 ⊢
          simp only [List.any_append, Bool.or_eq_true, not_or] at h5
          exact h5.1
        rw [if_neg h2] at h
        split at h
        · simp at h
        · rename_i h3
          rw [if_neg h3]
          split at h
          · rename_i h4
            rw [if_pos]
            rw [List.all_eq_true] at h4 ⊢
            exact fun b hb => ih _ _ (h4 b hb)
          · simp at h
theorem solve_extra (ds : List Dc) (as' : List TB) (e : TB) (n : Nat) (h1 : ¬ e.t.kind = 0) (h2 : ¬ e.tr < 0) : (solveT ds (as' ++ [e]) (n + 1) e.t e.tr).2 = true := by
  rw [solveT, if_neg (by omega), if_pos]
  rw [← ge_iff_le, ← decide_eq_true_eq (p := _ ≥ _), idxI_nonneg]
  simp [boundP, Ty.eqb_self]
end Go.Abs
set_option maxRecDepth 4000
namespace Go.Abs
open Go.Proofs

theorem indexFuncTB {f : FuncId} {caps : List PV} {H : Heap} {us : List TB} {p : TB → Bool} (hc : CloB Try.prog TB.enc f caps H us p) (hl : us.length ≤ maxLen) : ACalls Try.prog 127 [.slice (us.map TB.enc) .none, .fn (.func f) [] caps] H fun r' H' => r' = vint (idxI p us) ∧ H' = H := by
  have hgo := hc.go
  refine keeps_of (N := 19) Try.func127 rfl rfl (by simp) (.int _ _) fun hb' => ?_
  repeat (refine awp_seq ?_)
  refine e_eval (by simp only [jA, jO, jN, seval, vint, qT] <;> with_reducible rfl) (by decide) ?_
  repeat (refine awp_seq ?_)
  refine e_eval (by simp only [jA, jO, jN, seval, y60, y74, vint, qT] <;> with_reducible rfl) (by decide) ?_
  repeat (refine awp_seq ?_)
  refine awp_forS (σ := Unit) (us.length) (fun (s : Unit) => [(0, .slice (us.map TB.enc) .none), (1, .fn (.func f) [] caps)]) [0, 1] (H) (fun (s : Unit) => []) (fun (i : Nat) (s : Unit) => (us.take i).any p = false) (()) ([]) rfl rfl rfl rfl rfl rfl rfl rfl rfl (by decide) (by decide) (by decide) (fun _ => rfl) (hl) ⟨(by first | rfl | (simp only [jN, seval, vint, qT] <;> first | done | with_reducible rfl)), (by first | rfl | (simp only [jN, seval, vint, qT] <;> first | done | with_reducible rfl)), (by first | rfl | (simp only [jN, seval, vint, qT] <;> first | done | with_reducible rfl)), (by first | rfl | (simp only [jN, seval, vint, qT] <;> first | done | with_reducible rfl)), trivial⟩ (by first | rfl | (simp only [jN, seval, vint, qT] <;> first | done | with_reducible rfl)) (by simp) (fun _ _ _ => by first | exact Nat.zero_le _ | (simp only [List.length_append]; omega)) ?_ ?_ ?_
  · exact fun i s hg => ⟨by simp only [List.append_nil]; exact hb', .cons (bel_TB _ _) (.cons (.fn _ _ _ (by simp) (fun c hc' => (hc.bel c hc').mono (by simp))) .nil)⟩
  · intro i s hi hg
    have g1 := ix_nat hi
    have g2 := get_enc TB.enc hi
    repeat (refine awp_seq ?_)
    refine e_eval (by simp only [jA, jO, jN, seval, vint, qT, g1, Int.toNat_natCast, g2] <;> with_reducible rfl) (by decide) ?_
    repeat (refine awp_seq ?_)
    refine awp_region ?_
    refine e_take 5 (by simp only [jA, jO, jN, seval, y60, y74, vint, qT, g1, Int.toNat_natCast, g2] <;> with_reducible rfl) (by decide) ?_
    refine aops_pure (by simp only [jC, jN, seval, vint, qT, g1, Int.toNat_natCast, g2] <;> with_reducible rfl) (by simp only [jC, jN, seval, vint, qT, g1, Int.toNat_natCast, g2]) (by decide) (by assumption) (hc.call _ (List.getElem_mem hi)) ?_
    refine aops_nil ?_
    repeat (refine awp_seq ?_)
    refine awp_cond rfl (by simp only [jN, seval, vint, qT, g1, Int.toNat_natCast, g2] <;> with_reducible rfl) (fun b0 => ?_) (fun b0 => ?_)
    ·
      repeat (refine awp_seq ?_)
      refine e_eval (by simp only [jA, jO, jN, seval, vint, qT, g1, Int.toNat_natCast, g2] <;> with_reducible rfl) (by decide) ?_
      repeat (refine awp_seq ?_)
      refine awp_ret ⟨.inr rfl, _, _, rfl, ?_, (by first | exact (List.append_nil _).symm | rfl)⟩
      rw [idxI_at hi b0 hg]; rfl
    ·
      repeat (refine awp_seq ?_)
      refine awp_skip ?_
      exact ⟨⟨rfl, rfl, trivial⟩, (), [], ⟨rfl, rfl, trivial⟩, by simp only [List.append_nil], any_take_succ hi hg b0⟩
  · intro s hg
    rw [List.take_length] at hg
    repeat (refine awp_seq ?_)
    refine e_eval (by simp only [jA, jO, jN, seval, vint, qT] <;> with_reducible rfl) (by decide) ?_
    repeat (refine awp_seq ?_)
    refine awp_ret ⟨.inr rfl, _, _, rfl, ?_, (by first | exact (List.append_nil _).symm | rfl)⟩
    rw [idxI_none hg]; rfl

theorem solve1 (t : Ty) (tr : Int) (H : Heap) (i1 i2 : Nat) (h1 : H[i1]? = some (.row [.int .i64 tr])) (h2 : H[i2]? = some (.row t.enc.cells)) (b : TB) (hb : b.t.W) :
    ACalls Try.prog 128 [b.enc, .optr i1 0, .optr i2 0] H fun r' H' => r' = .bool (boundP t tr b) ∧ H' = H := by
  simp only [TyS] at h2
  have q1 : ∀ L, (H ++ L)[i1]? = some (.row [.int .i64 tr]) := fun L => by rw [List.getElem?_append_left (len_of_get h1)]; exact h1
  have q2 : ∀ L, (H ++ L)[i2]? = some (.row [.int .i64 t.kind, .int .i64 t.id, .slice (t.args.map Ty.enc) .none]) := fun L => by rw [List.getElem?_append_left (len_of_get h2)]; exact h2
  refine keeps_of (N := 15) Try.func128 rfl rfl (by simp) (.bool _) fun hb' => ?_
  repeat (refine awp_seq ?_)
  refine e_eval (by simp only [jA, jO, jN, seval, y74, vint, qT, q1, q2] <;> with_reducible rfl) (by decide) ?_
  repeat (refine awp_seq ?_)
  refine awp_region ?_
  refine aops_gstart ?_
  refine g_take 8 (by simp only [jG, jO, jN, seval, y3, y24, y74, vint, qT, q1, q2] <;> with_reducible rfl) (by decide) ?_
  refine aops_gpure (by simp only [jE, jN, seval, vint, qT, q1, q2] <;> with_reducible rfl) (by simp only [jE, jN, seval, vint, qT, q1, q2] <;> with_reducible rfl) (by simp only [jE, jN, seval, vint, qT, q1, q2]) (by decide) Trygo23 (fun hc => equal_any b.t t hb _) ?_
  refine g_end (by simp only [jG, jO, jN, seval, vint, qT, q1, q2] <;> with_reducible rfl) (by decide) (by repeat (first | exact Fin.base _ | with_reducible apply Fin.keep | apply Fin.drop)) ?_
  repeat (refine awp_seq ?_)
  refine awp_ret ⟨.inr rfl, _, _, rfl, ?_, (by first | exact (List.append_nil _).symm | rfl)⟩
  simp only [jN, seval, vint, qT]
  rfl

theorem mi1 (d : Dc) (hd : d.t.W) (H : Heap) (id : Nat) (h1 : H[id]? = some (.row d.enc.cells)) (p : Int) : ACalls Try.prog 144 [vint p, .optr id 0] H fun r' H' => r' = .bool (!cpar p d.t) ∧ H' = H := by
  simp only [DcS] at h1
  have q1 : ∀ L, (H ++ L)[id]? = some (.row [.slice (d.ps.map vint) .none, .int .i64 d.t.kind, .int .i64 d.t.id, .slice (d.t.args.map Ty.enc) .none, .int .i64 d.tr, .slice (d.bs.map TB.enc) .none, .slice (d.ms.map vint) .none]) := fun L => by rw [List.getElem?_append_left (len_of_get h1)]; exact h1
  refine keeps_of (N := 9) Try.func144 rfl rfl (by simp) (.bool _) fun hb' => ?_
  repeat (refine awp_seq ?_)
  refine e_eval (by simp only [jA, jO, jN, seval, vint, qT, q1, h1] <;> with_reducible rfl) (by decide) ?_
  repeat (refine awp_seq ?_)
  refine awp_region ?_
  refine e_take 3 (by simp only [jA, jO, jN, seval, y24, y71, vint, qT, q1, h1] <;> with_reducible rfl) (by decide) ?_
  refine aops_pure (by simp only [jC, jN, seval, vint, qT, q1, h1] <;> with_reducible rfl) (by simp only [jC, jN, seval, vint, qT, q1, h1]) (by decide) Trygo145 (cpT d.t p hd _) ?_
  refine e_end (by simp only [jA, jO, jN, seval, vint, qT, q1, h1] <;> with_reducible rfl) (by decide) ?_
  repeat (refine awp_seq ?_)
  refine awp_ret ⟨.inr rfl, _, _, rfl, ?_, (by first | exact (List.append_nil _).symm | rfl)⟩
  simp only [jN, seval, vint, qT]

/-- What the walks ask of a declaration. -/
def Dc.B (d : Dc) : Prop := d.W ∧ d.ps.length * 40 ≤ 2 ^ 47

theorem mi_c (ds : List Dc) (sas : List TB) (t : Ty) (tr : Int) (hl : ds.length ≤ maxLen) (hd : ∀ d ∈ ds, d.B) (ht : t.W) : PC Try.prog 129 [(Sv.mk ds sas).enc, t.enc, vint tr] (.tup [vint (implIx ds t tr), .slice ((implAs ds t tr).map Ty.enc) .none]) := by
  refine pc_of (N := 43) Try.func129 rfl rfl (by simp) (by simp [Ty.bel, Sv.bel, Bel.int]) (.tup _ (by simp [bel_slice_ty, Bel.int])) ?_
  repeat (refine awp_seq ?_)
  refine e_eval (by simp only [jA, jO, jN, seval, y24, y123, vint, qT, Bool.or_assoc] <;> with_reducible rfl) (by decide) ?_
  repeat (refine awp_seq ?_)
  refine e_eval (by simp only [jA, jO, jN, seval, y59, y71, y123, vint, qT, Bool.or_assoc] <;> with_reducible rfl) (by decide) ?_
  repeat (refine awp_seq ?_)
  refine awp_forS (σ := Unit) (ds.length) (fun (s : Unit) => [(2, vint tr), (4, .optr 1 0), (13, .slice (ds.map Dc.enc) .none)]) [2, 4, 13] ([]) (fun (s : Unit) => [.row (Sv.mk ds sas).enc.cells, .row t.enc.cells]) (fun (i : Nat) (s : Unit) => (ds.take i).any (implP t tr) = false) (()) ([]) rfl rfl rfl rfl rfl rfl rfl rfl rfl (by decide) (by decide) (by decide) (fun _ => rfl) (hl) ⟨(by first | rfl | (simp only [jN, seval, vint, qT, Bool.or_assoc] <;> first | done | with_reducible rfl)), (by first | rfl | (simp only [jN, seval, vint, qT, Bool.or_assoc] <;> first | done | with_reducible rfl)), (by first | rfl | (simp only [jN, seval, vint, qT, Bool.or_assoc] <;> first | done | with_reducible rfl)), (by first | rfl | (simp only [jN, seval, vint, qT, Bool.or_assoc] <;> first | done | with_reducible rfl)), (by first | rfl | (simp only [jN, seval, vint, qT, Bool.or_assoc] <;> first | done | with_reducible rfl)), trivial⟩ (by first | rfl | (simp only [jN, seval, vint, qT, Bool.or_assoc] <;> first | done | with_reducible rfl)) (by simp) (fun _ _ _ => by first | exact Nat.zero_le _ | (simp only [List.length_append]; omega)) ?_ ?_ ?_
  · exact fun i s hg => ⟨by simp only [SvS, TyS, List.nil_append]; repeat (first | exact hbel_nil _ | exact trivial | exact obel_row_nil _ | (refine HBel.cons ?_ ?_) | (refine obel_row_cons (by first | exact bel_TB _ _ | exact TB.bel _ _ | exact bel_Dc _ _ | exact Dc.bel _ _ | exact Pf.bel _ _ | exact bel_Pf _ _ | exact Sv.bel _ _ | exact bel_Pf_tok _ (by simp) | exact bel_ints0 _ _ | exact bel_slice_ty _ _ | exact Ty.bel _ _ | exact bel_ty_tok _ (by simp) | exact Bel.int _ _ | exact Bel.bool _ | exact Bel.str _ | exact Bel.nilp | exact Bel.nilfn | exact Bel.optr _ _ (by simp) | exact bel_nil0 _ | exact bel_nil1 _ | exact bel_fn0 _ _ | assumption) ?_)), by repeat (first | exact BelL.nil | refine BelL.cons (by first | exact bel_TB _ _ | exact TB.bel _ _ | exact bel_Dc _ _ | exact Dc.bel _ _ | exact Pf.bel _ _ | exact bel_Pf _ _ | exact Sv.bel _ _ | exact bel_Pf_tok _ (by simp) | exact bel_ints0 _ _ | exact bel_slice_ty _ _ | exact Ty.bel _ _ | exact bel_ty_tok _ (by simp) | exact Bel.int _ _ | exact Bel.bool _ | exact Bel.str _ | exact Bel.nilp | exact Bel.nilfn | exact Bel.optr _ _ (by simp) | exact bel_nil0 _ | exact bel_nil1 _ | exact bel_fn0 _ _ | assumption) ?_)⟩
  · intro i s hi hg
    have g1 := ix_nat hi
    have g2 := get_enc Dc.enc hi
    obtain ⟨hW, h40⟩ := hd ds[i] (List.getElem_mem hi)
    obtain ⟨d, hde⟩ : ∃ d, ds[i] = d := ⟨_, rfl⟩
    rw [hde] at g2 hW h40
    have hmx := hW.max_ps
    repeat (refine awp_seq ?_)
    refine e_eval (by simp only [jA, jO, jN, seval, y59, y71, vint, qT, Bool.or_assoc, g1, Int.toNat_natCast, g2] <;> with_reducible rfl) (by decide) ?_
    repeat (refine awp_seq ?_)
    refine awp_region ?_
    refine aops_gstart ?_
    refine g_take 8 (by simp only [jG, jO, jN, seval, y3, y25, y71, vint, qT, Bool.or_assoc, g1, Int.toNat_natCast, g2] <;> with_reducible rfl) (by decide) ?_
    refine aops_gpure (by simp only [jE, jN, seval, vint, qT, Bool.or_assoc, g1, Int.toNat_natCast, g2] <;> with_reducible rfl) (by simp only [jE, jN, seval, vint, qT, Bool.or_assoc, g1, Int.toNat_natCast, g2] <;> with_reducible rfl) (by simp only [jE, jN, seval, vint, qT, Bool.or_assoc, g1, Int.toNat_natCast, g2]) (by decide) Trygo25 (fun hc => containsFuncInt (p := fun p => !cpar p d.t) ⟨Trygo144, by simp; exact .optr _ _ (by simp), fun u hu => mi1 d hW.st_t _ 2 rfl u⟩ hmx) ?_
    refine g_end (by simp only [jG, jO, jN, seval, vint, qT, Bool.or_assoc, g1, Int.toNat_natCast, g2] <;> with_reducible rfl) (by decide) (by repeat (first | exact Fin.base _ | with_reducible apply Fin.keep | apply Fin.drop)) ?_
    repeat (refine awp_seq ?_)
    refine awp_cond rfl (by simp only [jN, seval, vint, qT, Bool.or_assoc, g1, Int.toNat_natCast, g2] <;> with_reducible rfl) (fun b0 => ?_) (fun b0 => ?_)
    ·
      repeat (refine awp_seq ?_)
      refine awp_exit ?_
      exact ⟨⟨rfl, rfl, trivial⟩, (), _, ⟨rfl, rfl, rfl, trivial⟩, by simp only [jN, seval, vint, qT] <;> rfl, any_take_succ hi hg (by rw [hde]; unfold implP; grind)⟩
    ·
      repeat (refine awp_seq ?_)
      refine awp_skip ?_
      refine awp_sel [2, 4, 8, 9, 13, 14, 15] (by simp only [jN, seval, vint, qT, Bool.or_assoc, g1, Int.toNat_natCast, g2] <;> with_reducible rfl) ?_
      repeat (refine awp_seq ?_)
      refine awp_region ?_
      refine e_take 5 (by simp only [jA, jO, jN, seval, y3, y24, y25, y71, vint, qT, Bool.or_assoc, g1, Int.toNat_natCast, g2] <;> with_reducible rfl) (by decide) ?_
      refine aops_pure (by simp only [jC, jN, seval, vint, qT, Bool.or_assoc, g1, Int.toNat_natCast, g2] <;> with_reducible rfl) (by simp only [jC, jN, seval, vint, qT, Bool.or_assoc, g1, Int.toNat_natCast, g2]) (by decide) Trygo22 (match_c d.ps t d.t h40 ht hW.st_t _) ?_
      refine e_end (by simp only [jA, jO, jN, seval, vint, qT, Bool.or_assoc, g1, Int.toNat_natCast, g2] <;> with_reducible rfl) (by decide) ?_
      repeat (refine awp_seq ?_)
      refine e_eval (by simp only [jA, jO, jN, seval, vint, qT, Bool.or_assoc, g1, Int.toNat_natCast, g2] <;> with_reducible rfl) (by decide) ?_
      repeat (refine awp_seq ?_)
      refine awp_cond rfl (by simp only [jN, seval, vint, qT, Bool.or_assoc, g1, Int.toNat_natCast, g2] <;> with_reducible rfl) (fun b1 => ?_) (fun b1 => ?_)
      ·
        repeat (refine awp_seq ?_)
        refine e_eval (by simp only [jA, jO, jN, seval, vint, qT, Bool.or_assoc, g1, Int.toNat_natCast, g2] <;> with_reducible rfl) (by decide) ?_
        repeat (refine awp_seq ?_)
        refine awp_ret ⟨.inr rfl, _, (ares_two (.tmp 6) (.tmp 7) rfl (ares_tmp1 (by decide)) (ares_tmp1 (by decide))), ?_⟩
        have hix : implIx ds t tr = i := idxI_at hi (by rw [hde]; unfold implP; grind) hg
        have hda : implAs ds t tr = (matchP d.ps t d.t).1 := by
          unfold implAs implD
          rw [hix, if_pos (by omega), Int.toNat_natCast, List.getD_eq_getElem?_getD, List.getElem?_eq_getElem hi, hde]
          rfl
        rw [hix, hda]
        simp only [jN, seval, vint, qT]
      ·
        repeat (refine awp_seq ?_)
        refine awp_skip ?_
        exact ⟨⟨rfl, rfl, trivial⟩, (), _, ⟨rfl, rfl, rfl, trivial⟩, by simp only [jN, seval, vint, qT] <;> rfl, any_take_succ hi hg (by rw [hde]; unfold implP; grind)⟩
  · intro s hg
    rw [List.take_length] at hg
    repeat (refine awp_seq ?_)
    refine e_eval (by simp only [jA, jO, jN, seval, vint, qT, Bool.or_assoc] <;> with_reducible rfl) (by decide) ?_
    repeat (refine awp_seq ?_)
    refine awp_ret ⟨.inr rfl, _, (ares_two (.tmp 6) (.tmp 7) rfl (ares_tmp1 (by decide)) (ares_tmp1 (by decide))), ?_⟩
    have hix : implIx ds t tr = -1 := idxI_none hg
    have hda : implAs ds t tr = [] := by
      unfold implAs
      rw [hix]; rfl
    rw [hix, hda]
    simp only [jN, seval, vint, qT]

end Go.Abs
set_option maxRecDepth 4000
namespace Go.Abs
open Go.Proofs

theorem solveT_s (ds : List Dc) (sas : List TB) (n : Nat) (t : Ty) (tr : Int) : solveT ds sas (n + 1) t tr =
    if t.kind = 0 ∨ tr < 0 then (.zero, false)
    else if 0 ≤ idxI (boundP t tr) sas then (.mk t tr (-1) (idxI (boundP t tr) sas) [] [], true)
    else if implIx ds t tr < 0 ∨ 4 < (implD ds t tr).bs.length then (.zero, false)
    else if ((implD ds t tr).bs.all fun b => (solveT ds sas n (mapT (appG (implD ds t tr).ps (implAs ds t tr)) b.t) b.tr).2) = true then
      (.mk t tr (implIx ds t tr) (-1) (implAs ds t tr) ((implD ds t tr).bs.map fun b => (solveT ds sas n (mapT (appG (implD ds t tr).ps (implAs ds t tr)) b.t) b.tr).1), true)
    else (.zero, false) := rfl
theorem implAs_W {ds : List Dc} {t : Ty} {tr : Int} (ht : t.W) : ∀ a ∈ implAs ds t tr, a.W := by
  unfold implAs
  split
  · exact matchP_W _ _ _ ht
  · simp

theorem solve_0 (ds : List Dc) (sas : List TB) (t : Ty) (tr : Int) : PC Try.prog 100 [(Sv.mk ds sas).enc, t.enc, vint tr, .int .i64 0] (.tup [(solveT ds sas 0 t tr).1.enc, .bool (solveT ds sas 0 t tr).2]) := by
  refine pc_of (N := 108) Try.func100 rfl rfl (by simp) (by simp [Ty.bel, Sv.bel, Bel.int]) (.tup _ (by simp [Pf.bel, Bel.bool])) ?_
  repeat (refine awp_seq ?_)
  refine e_eval (by simp only [jA, jO, jN, seval, y3, y24, y63, y123, vint, qT, Bool.or_true, decide_true] <;> with_reducible rfl) (by decide) ?_
  repeat (refine awp_seq ?_)
  refine g_eval (by simp only [jG, jO, jN, seval, y3, y24, vint, qT, Bool.or_true, decide_true] <;> with_reducible rfl) (by decide) (by repeat (first | exact Fin.base _ | with_reducible apply Fin.keep | apply Fin.drop)) ?_
  repeat (refine awp_seq ?_)
  refine awp_cond_true rfl (by simp only [jN, seval, vint, qT, Bool.or_true, decide_true] <;> with_reducible rfl) ?_
  refine awp_sel [8] (by simp only [jN, seval, vint, qT, Bool.or_true, decide_true] <;> with_reducible rfl) ?_
  repeat (refine awp_seq ?_)
  refine e_eval (by simp only [jA, jO, jN, seval, y63, vint, qT, Bool.or_true, decide_true] <;> with_reducible rfl) (by decide) ?_
  repeat (refine awp_seq ?_)
  refine awp_ret ⟨.inr rfl, _, (ares_two (.cell 8 63) (.tmp 9) rfl (ares_cell1 Tryti63 (by decide) (by simp only [jL, jN, seval, vint, qT, Bool.or_true, decide_true] <;> with_reducible rfl)) (ares_tmp1 (by decide))), ?_⟩
  simp only [jN, seval, vint, qT]
  rfl

theorem solve_k (ds : List Dc) (sas : List TB) (hl : ds.length ≤ maxLen) (hd : ∀ d ∈ ds, d.B) (hsl : sas.length ≤ maxLen) (hs : ∀ b ∈ sas, b.W) : ∀ (n : Nat) (t : Ty) (tr : Int), n ≤ 8 → t.W → PC Try.prog 100 [(Sv.mk ds sas).enc, t.enc, vint tr, .int .i64 n] (.tup [(solveT ds sas n t tr).1.enc, .bool (solveT ds sas n t tr).2])
  | 0, t, tr, _, _ => solve_0 ds sas t tr
  | n + 1, t, tr, hn, ht => by
    have hn0 : decide (((n + 1 : Nat) : Int) = 0) = false := decide_eq_false (by omega)
    have hn1 : IntKind.i64.wrap (((n + 1 : Nat) : Int) - 1) = (n : Nat) := by rw [wrap_id (by omega) (by omega)]; omega
    rw [solveT_s]
    refine pc_of (N := 108) Try.func100 rfl rfl (by simp) (by simp [Ty.bel, Sv.bel, Bel.int]) (.tup _ (by simp [Pf.bel, Bel.bool])) ?_
    repeat (refine awp_seq ?_)
    refine e_eval (by simp only [jA, jO, jN, seval, y3, y24, y63, y123, vint, qT, hn0, hn1] <;> with_reducible rfl) (by decide) ?_
    repeat (refine awp_seq ?_)
    refine g_eval (by simp only [jG, jO, jN, seval, y3, y24, vint, qT, hn0, hn1] <;> with_reducible rfl) (by decide) (by repeat (first | exact Fin.base _ | with_reducible apply Fin.keep | apply Fin.drop)) ?_
    repeat (refine awp_seq ?_)
    refine awp_cond rfl (by simp only [jN, seval, vint, qT, hn0, hn1] <;> with_reducible rfl) (fun b0 => ?_) (fun b0 => ?_)
    ·
      have hq : t.kind = 0 ∨ tr < 0 := by simpa using b0
      refine awp_sel [8] (by simp only [jN, seval, vint, qT, hn0, hn1] <;> with_reducible rfl) ?_
      repeat (refine awp_seq ?_)
      refine e_eval (by simp only [jA, jO, jN, seval, y63, vint, qT, hn0, hn1] <;> with_reducible rfl) (by decide) ?_
      repeat (refine awp_seq ?_)
      refine awp_ret ⟨.inr rfl, _, (ares_two (.cell 8 63) (.tmp 9) rfl (ares_cell1 Tryti63 (by decide) (by simp only [jL, jN, seval, vint, qT, hn0, hn1] <;> with_reducible rfl)) (ares_tmp1 (by decide))), ?_⟩
      rw [if_pos hq]
      simp only [jN, seval, vint, qT]
      rfl
    ·
      have hq : ¬ (t.kind = 0 ∨ tr < 0) := by simpa using b0
      repeat (refine awp_seq ?_)
      refine awp_skip ?_
      refine awp_sel [3, 4, 5, 6, 8] (by simp only [jN, seval, vint, qT, hn0, hn1] <;> with_reducible rfl) ?_
      repeat (refine awp_seq ?_)
      refine awp_region ?_
      refine e_take 3 (by simp only [jA, jO, jN, seval, y60, y74, y123, vint, qT, hn0, hn1] <;> with_reducible rfl) (by decide) ?_
      refine aops_pure (by simp only [jC, jN, seval, vint, qT, hn0, hn1] <;> with_reducible rfl) (by simp only [jC, jN, seval, vint, qT, hn0, hn1]) (by decide) Trygo127 (indexFuncTB (p := boundP t tr) ⟨Trygo128, by simp; exact ⟨.optr _ _ (by simp), .optr _ _ (by simp)⟩, fun u hu => solve1 t tr _ 2 1 rfl (by simp only [TyS]; rfl) u (hs u hu).st_t⟩ hsl) ?_
      refine e_end (by simp only [jA, jO, jN, seval, vint, qT, hn0, hn1] <;> with_reducible rfl) (by decide) ?_
      repeat (refine awp_seq ?_)
      refine e_eval (by simp only [jA, jO, jN, seval, y3, vint, qT, hn0, hn1] <;> with_reducible rfl) (by decide) ?_
      repeat (refine awp_seq ?_)
      refine awp_cond rfl (by simp only [jN, seval, vint, qT, hn0, hn1] <;> with_reducible rfl) (fun b1 => ?_) (fun b1 => ?_)
      ·
        have h2 : 0 ≤ idxI (boundP t tr) sas := by simpa using b1
        repeat (refine awp_seq ?_)
        refine awp_draw 0 (by kernel_rfl) ?_
        refine d_take (bm := [0, 1, 0, 0, 15, 31, 63]) 1 (fresh := 0) (by kernel_rfl) (by simp only [jD, jO, jN, seval, y24, vint, qT, hn0, hn1] <;> with_reducible rfl) (by decide) (by decide) ?_
        refine dops_keep (bm := [0, 1, 0, 0, 15, 31, 63]) ([]) (by kernel_rfl) (by simp only [jC, jN, seval, vint, qT, hn0, hn1] <;> with_reducible rfl) (by simp only [jC, jN, seval, vint, qT, hn0, hn1]) (by decide) Trygo79 (fun H' _ => clone _ ht H') (by simp only [jD, jO, jN, seval, vint, qT, hn0, hn1] <;> first | done | rfl) ?_
        refine d_end (bm := [0, 1, 0, 0, 15, 31, 63]) (fresh := 0) (by kernel_rfl) (by simp only [jD, jO, jN, seval, y3, y63, vint, qT, hn0, hn1] <;> with_reducible rfl) (by decide) ?_
        repeat (refine awp_seq ?_)
        refine awp_ret ⟨.inr rfl, _, (ares_two (.cell 8 63) (.tmp 9) rfl (ares_cell1 Tryti63 (by decide) (by simp only [jL, jN, seval, vint, qT, hn0, hn1] <;> with_reducible rfl)) (ares_tmp1 (by decide))), ?_⟩
        rw [if_neg hq, if_pos h2]
        simp only [jN, seval, vint, qT]
      ·
        have h2 : ¬ 0 ≤ idxI (boundP t tr) sas := by simpa using b1
        repeat (refine awp_seq ?_)
        refine awp_skip ?_
        repeat (refine awp_seq ?_)
        refine awp_region ?_
        refine e_take 3 (by simp only [jA, jO, jN, seval, y3, y24, y123, vint, qT, hn0, hn1] <;> with_reducible rfl) (by decide) ?_
        refine aops_pure (by simp only [jC, jN, seval, vint, qT, hn0, hn1] <;> with_reducible rfl) (by simp only [jC, jN, seval, vint, qT, hn0, hn1]) (by decide) Trygo129 (mi_c ds sas t tr hl hd ht _) ?_
        refine e_end (by simp only [jA, jO, jN, seval, vint, qT, hn0, hn1] <;> with_reducible rfl) (by decide) ?_
        refine awp_sel [3, 4, 5, 6, 8, 11, 12] (by simp only [jN, seval, vint, qT, hn0, hn1] <;> with_reducible rfl) ?_
        by_cases hix : implIx ds t tr < 0
        ·
          have hx : decide (implIx ds t tr < 0) = true := decide_eq_true hix
          have g1 : True = True := rfl
          have g2 : True = True := rfl
          repeat (refine awp_seq ?_)
          refine awp_region ?_
          refine aops_gstart ?_
          refine g_take 6 (by simp only [jG, jO, jN, seval, y3, y59, y71, y123, vint, qT, hn0, hn1, hx, Bool.true_or] <;> with_reducible rfl) (by decide) ?_
          refine aops_gskip (r := .tup []) (by simp only [jE, jN, seval, vint, qT, hx, Bool.true_or, Bool.not_true, Bool.not_false] <;> with_reducible rfl) ?_
          refine aops_gskip (r := .tup []) (by simp only [jE, jN, seval, vint, qT, hx, Bool.true_or, Bool.not_true, Bool.not_false] <;> with_reducible rfl) ?_
          refine aops_gskip (r := .tup []) (by simp only [jE, jN, seval, vint, qT, hx, Bool.true_or, Bool.not_true, Bool.not_false] <;> with_reducible rfl) ?_
          refine aops_gskip (r := .tup []) (by simp only [jE, jN, seval, vint, qT, hx, Bool.true_or, Bool.not_true, Bool.not_false] <;> with_reducible rfl) ?_
          refine aops_gskip (r := .tup []) (by simp only [jE, jN, seval, vint, qT, hx, Bool.true_or, Bool.not_true, Bool.not_false] <;> with_reducible rfl) ?_
          refine g_end (by simp only [jG, jO, jN, seval, vint, qT, hn0, hn1, hx, Bool.true_or] <;> with_reducible rfl) (by decide) (by repeat (first | exact Fin.base _ | with_reducible apply Fin.keep | apply Fin.drop)) ?_
          repeat (refine awp_seq ?_)
          refine awp_cond_true rfl (by simp only [jN, seval, vint, qT, hn0, hn1, hx, Bool.true_or] <;> with_reducible rfl) ?_
          repeat (refine awp_seq ?_)
          refine e_eval (by simp only [jA, jO, jN, seval, y63, vint, qT, hn0, hn1, hx, Bool.true_or] <;> with_reducible rfl) (by decide) ?_
          repeat (refine awp_seq ?_)
          refine awp_ret ⟨.inr rfl, _, (ares_two (.cell 8 63) (.tmp 9) rfl (ares_cell1 Tryti63 (by decide) (by simp only [jL, jN, seval, vint, qT, hn0, hn1, hx, Bool.true_or] <;> with_reducible rfl)) (ares_tmp1 (by decide))), ?_⟩
          rw [if_neg hq, if_neg h2, if_pos (Or.inl hix)]
          simp only [jN, seval, vint, qT]
          rfl
        ·
          have hx : decide (implIx ds t tr < 0) = false := decide_eq_false hix
          have hlt : (implIx ds t tr).toNat < ds.length := by have := idxI_lt (p := implP t tr) (xs := ds) (by unfold implIx at hix; omega); unfold implIx at hix ⊢; omega
          have g1 : ((0 : Int) ≤ implIx ds t tr ∧ implIx ds t tr < ds.length) = True := by simp; omega
          obtain ⟨d, hde⟩ : ∃ d, implD ds t tr = d := ⟨_, rfl⟩
          have hgd := (implD_get (ds := ds) (t := t) (tr := tr) (by omega)).1
          rw [hde] at hgd
          have g2 : (ds.map Dc.enc)[(implIx ds t tr).toNat]? = some d.enc := by rw [List.getElem?_map, hgd]; rfl
          obtain ⟨hW, h40⟩ := hd d (List.mem_of_getElem? hgd)
          repeat (refine awp_seq ?_)
          refine g_eval (by simp only [jG, jO, jN, seval, y3, y59, y60, y71, y74, y123, vint, qT, hn0, hn1, hx, Bool.false_or, g1, g2] <;> with_reducible rfl) (by decide) (by repeat (first | exact Fin.base _ | with_reducible apply Fin.keep | apply Fin.drop)) ?_
          repeat (refine awp_seq ?_)
          refine awp_cond rfl (by simp only [jN, seval, vint, qT, hn0, hn1, hx, Bool.false_or, g1, g2] <;> with_reducible rfl) (fun b3 => ?_) (fun b3 => ?_)
          ·
            have h3 : implIx ds t tr < 0 ∨ 4 < (implD ds t tr).bs.length := by rw [hde]; right; have := b3; simp at this; omega
            repeat (refine awp_seq ?_)
            refine e_eval (by simp only [jA, jO, jN, seval, y63, vint, qT, hn0, hn1, hx, Bool.false_or, g1, g2] <;> with_reducible rfl) (by decide) ?_
            repeat (refine awp_seq ?_)
            refine awp_ret ⟨.inr rfl, _, (ares_two (.cell 8 63) (.tmp 9) rfl (ares_cell1 Tryti63 (by decide) (by simp only [jL, jN, seval, vint, qT, hn0, hn1, hx, Bool.false_or, g1, g2] <;> with_reducible rfl)) (ares_tmp1 (by decide))), ?_⟩
            rw [if_neg hq, if_neg h2, if_pos h3]
            simp only [jN, seval, vint, qT]
            rfl
          ·
            have hb4 : d.bs.length ≤ 4 := by simp at b3; omega
            have h3 : ¬ (implIx ds t tr < 0 ∨ 4 < (implD ds t tr).bs.length) := by rw [hde]; omega
            rw [if_neg hq, if_neg h2, if_neg h3, hde]
            have hmx : maxLen = 9223372036854775807 := by decide
            repeat (refine awp_seq ?_)
            refine awp_skip ?_
            repeat (refine awp_seq ?_)
            refine awp_draw 1 (by kernel_rfl) ?_
            refine d_take (bm := [0, 1, 0, 0, 0, 31, 0, 127]) 1 (fresh := (4)) (by kernel_rfl) (by simp only [jD, jO, jN, seval, y24, vint, qT, hn0, hn1, hx, Bool.false_or, g1, g2] <;> with_reducible rfl) (by decide) (by decide) ?_
            refine dops_keep (bm := [0, 1, 0, 0, 0, 31, 0, 127]) ([]) (by kernel_rfl) (by simp only [jC, jN, seval, vint, qT, hn0, hn1, hx, Bool.false_or, g1, g2] <;> with_reducible rfl) (by simp only [jC, jN, seval, vint, qT, hn0, hn1, hx, Bool.false_or, g1, g2]) (by decide) Trygo79 (fun H' _ => clone _ ht H') (by simp only [jD, jO, jN, seval, vint, qT, hn0, hn1, hx, Bool.false_or, g1, g2] <;> first | done | rfl) ?_
            refine d_end (bm := [0, 1, 0, 0, 0, 31, 0, 127]) (fresh := (4)) (by kernel_rfl) (by simp only [jD, jO, jN, seval, y3, y63, vint, qT, hn0, hn1, hx, Bool.false_or, g1, g2] <;> with_reducible rfl) (by decide) ?_
            refine awp_sel [3, 4, 8, 11, 12, 13] (by simp only [jN, seval, vint, qT, hn0, hn1, hx, Bool.false_or, g1, g2] <;> with_reducible rfl) ?_
            repeat (refine awp_seq ?_)
            refine e_eval (by simp only [jA, jO, jN, seval, y59, y60, y71, y74, y123, vint, qT, hn0, hn1, hx, Bool.false_or, g1, g2] <;> with_reducible rfl) (by decide) ?_
            repeat (refine awp_seq ?_)
            refine awp_retok_row 4 7 8 (by simp only [LS, SS, SX, HS]; rfl) rfl ?_
            refine awp_forS (σ := List Pf) (d.bs.length) (fun (s : List Pf) => [(3, .int .i64 ((n + 1 : Nat) : Int)), (4, .optr 0 0), (8, .optr 3 0), (11, .int .i64 (implIx ds t tr)), (12, .slice ((implAs ds t tr).map Ty.enc) .none), (13, .optr 4 0), (72, .slice (d.bs.map TB.enc) .none)]) [3, 4, 8, 11, 12, 13, 72] ([]) (fun (s : List Pf) => [.row (Sv.mk ds sas).enc.cells, .row t.enc.cells, .row [.int .i64 tr], .row [.int .i64 0, .int .i64 0, .slice [] .full, .int .i64 0, .int .i64 0, .int .i64 0, .slice [] .full, .slice [] .full], .row [.int .i64 t.kind, .int .i64 t.id, .slice (t.args.map Ty.enc) .none, .int .i64 tr, .int .i64 (implIx ds t tr), .int .i64 (-1), .slice ((implAs ds t tr).map Ty.enc) .none, .slice (s.map Pf.enc) (.tok 5)], .buf s.length 8]) (fun (i : Nat) (s : List Pf) => (d.bs.take i).all (fun b => (solveT ds sas n (mapT (appG d.ps (implAs ds t tr)) b.t) b.tr).2) = true ∧ s = (d.bs.take i).map (fun b => (solveT ds sas n (mapT (appG d.ps (implAs ds t tr)) b.t) b.tr).1)) ([]) ([]) rfl rfl rfl rfl rfl rfl rfl rfl rfl (by decide) (by decide) (by decide) (fun _ => rfl) (by omega) ⟨(by first | rfl | (simp only [jN, seval, vint, qT, hn0, hn1, hx, Bool.false_or, g1, g2] <;> first | done | with_reducible rfl)), (by first | rfl | (simp only [jN, seval, vint, qT, hn0, hn1, hx, Bool.false_or, g1, g2] <;> first | done | with_reducible rfl)), (by first | rfl | (simp only [jN, seval, vint, qT, hn0, hn1, hx, Bool.false_or, g1, g2] <;> first | done | with_reducible rfl)), (by first | rfl | (simp only [jN, seval, vint, qT, hn0, hn1, hx, Bool.false_or, g1, g2] <;> first | done | with_reducible rfl)), (by first | rfl | (simp only [jN, seval, vint, qT, hn0, hn1, hx, Bool.false_or, g1, g2] <;> first | done | with_reducible rfl)), (by first | rfl | (simp only [jN, seval, vint, qT, hn0, hn1, hx, Bool.false_or, g1, g2] <;> first | done | with_reducible rfl)), (by first | rfl | (simp only [jN, seval, vint, qT, hn0, hn1, hx, Bool.false_or, g1, g2] <;> first | done | with_reducible rfl)), (by first | rfl | (simp only [jN, seval, vint, qT, hn0, hn1, hx, Bool.false_or, g1, g2] <;> first | done | with_reducible rfl)), (by first | rfl | (simp only [jN, seval, vint, qT, hn0, hn1, hx, Bool.false_or, g1, g2] <;> first | done | with_reducible rfl)), trivial⟩ (by first | rfl | (simp only [jN, seval, vint, qT, hn0, hn1, hx, Bool.false_or, g1, g2] <;> first | done | with_reducible rfl)) (by simp) (fun _ _ _ => by first | exact Nat.zero_le _ | (simp only [List.length_append]; omega)) ?_ ?_ ?_
            · exact fun i s hg => ⟨by simp only [SvS, TyS, List.nil_append]; repeat (first | exact hbel_nil _ | exact trivial | exact obel_row_nil _ | (refine HBel.cons ?_ ?_) | (refine obel_row_cons (by first | exact bel_TB _ _ | exact TB.bel _ _ | exact bel_Dc _ _ | exact Dc.bel _ _ | exact Pf.bel _ _ | exact bel_Pf _ _ | exact Sv.bel _ _ | exact bel_Pf_tok _ (by simp) | exact bel_ints0 _ _ | exact bel_slice_ty _ _ | exact Ty.bel _ _ | exact bel_ty_tok _ (by simp) | exact Bel.int _ _ | exact Bel.bool _ | exact Bel.str _ | exact Bel.nilp | exact Bel.nilfn | exact Bel.optr _ _ (by simp) | exact bel_nil0 _ | exact bel_nil1 _ | exact bel_fn0 _ _ | assumption) ?_)), by repeat (first | exact BelL.nil | refine BelL.cons (by first | exact bel_TB _ _ | exact TB.bel _ _ | exact bel_Dc _ _ | exact Dc.bel _ _ | exact Pf.bel _ _ | exact bel_Pf _ _ | exact Sv.bel _ _ | exact bel_Pf_tok _ (by simp) | exact bel_ints0 _ _ | exact bel_slice_ty _ _ | exact Ty.bel _ _ | exact bel_ty_tok _ (by simp) | exact Bel.int _ _ | exact Bel.bool _ | exact Bel.str _ | exact Bel.nilp | exact Bel.nilfn | exact Bel.optr _ _ (by simp) | exact bel_nil0 _ | exact bel_nil1 _ | exact bel_fn0 _ _ | assumption) ?_)⟩
            · intro i s hi hg
              have g3 := ix_nat hi
              have g4 := get_enc TB.enc hi
              have hbw := hW.el_bs _ (List.getElem_mem hi)
              obtain ⟨b, hbe⟩ : ∃ b, d.bs[i] = b := ⟨_, rfl⟩
              rw [hbe] at g4 hbw
              have hps := hW.max_ps
              have hWa := app_W (ps := d.ps) (implAs_W (ds := ds) (tr := tr) ht) hbw.st_t
              have hsn : s.length = i := by rw [hg.2, List.length_map, List.length_take]; omega
              have happ := app_Pf (us := s) (u := (solveT ds sas n (mapT (appG d.ps (implAs ds t tr)) b.t) b.tr).1) (id := 5) (tl := .full) (by omega)
              repeat (refine awp_seq ?_)
              refine e_eval (by simp only [jA, jO, jN, seval, y60, y74, vint, qT, hn0, hn1, hx, Bool.false_or, g1, g2, g3, g4, Int.toNat_natCast] <;> with_reducible rfl) (by decide) ?_
              repeat (refine awp_seq ?_)
              refine awp_draw 1 (by kernel_rfl) ?_
              refine d_take (bm := [0, 0, 2, 0, 8, 0, 56, 120, 248, 0, 1022, 0, 2048, 0, 8192, 32767, 65535, 131071, 131071, 0, 786431, 2097151]) 10 (fresh := (7)) (by kernel_rfl) (by simp only [jD, jO, jN, seval, y3, y24, y25, y59, y71, y74, y123, vint, qT, hn0, hn1, hx, Bool.false_or, g1, g2, g3, g4, Int.toNat_natCast] <;> with_reducible rfl) (by decide) (by decide) ?_
              refine dops_keep (bm := [0, 0, 2, 0, 8, 0, 56, 120, 248, 0, 1022, 0, 2048, 0, 8192, 32767, 65535, 131071, 131071, 0, 786431, 2097151]) ([]) (by kernel_rfl) (by simp only [jC, jN, seval, vint, qT, hn0, hn1, hx, Bool.false_or, g1, g2, g3, g4, Int.toNat_natCast] <;> with_reducible rfl) (by simp only [jC, jN, seval, vint, qT, hn0, hn1, hx, Bool.false_or, g1, g2, g3, g4, Int.toNat_natCast]) (by decide) Trygo24 (fun H' _ => apply_c b.t d.ps (implAs ds t tr) hbw.st_t hps (implAs_W ht) H') (by simp only [jD, jO, jN, seval, vint, qT, hn0, hn1, hx, Bool.false_or, g1, g2, g3, g4, Int.toNat_natCast] <;> first | done | rfl) ?_
              refine d_take (bm := [0, 0, 2, 0, 8, 0, 56, 120, 248, 0, 1022, 0, 2048, 0, 8192, 32767, 65535, 131071, 131071, 0, 786431, 2097151]) 4 (fresh := (7)) (by kernel_rfl) (by simp only [jD, jO, jN, seval, y3, y74, vint, qT, hn0, hn1, hx, Bool.false_or, g1, g2, g3, g4, Int.toNat_natCast] <;> with_reducible rfl) (by decide) (by decide) ?_
              refine dops_keep (bm := [0, 0, 2, 0, 8, 0, 56, 120, 248, 0, 1022, 0, 2048, 0, 8192, 32767, 65535, 131071, 131071, 0, 786431, 2097151]) ([]) (by kernel_rfl) (by simp only [jC, jN, seval, vint, qT, hn0, hn1, hx, Bool.false_or, g1, g2, g3, g4, Int.toNat_natCast] <;> with_reducible rfl) (by simp only [jC, jN, seval, vint, qT, hn0, hn1, hx, Bool.false_or, g1, g2, g3, g4, Int.toNat_natCast]) (by decide) Trygo100 (fun H' _ => solve_k ds sas hl hd hsl hs n (mapT (appG d.ps (implAs ds t tr)) b.t) b.tr (by omega) hWa H') (by simp only [jD, jO, jN, seval, vint, qT, hn0, hn1, hx, Bool.false_or, g1, g2, g3, g4, Int.toNat_natCast] <;> first | done | rfl) ?_
              refine d_end (bm := [0, 0, 2, 0, 8, 0, 56, 120, 248, 0, 1022, 0, 2048, 0, 8192, 32767, 65535, 131071, 131071, 0, 786431, 2097151]) (fresh := (7)) (by kernel_rfl) (by simp only [jD, jO, jN, seval, y63, vint, qT, hn0, hn1, hx, Bool.false_or, g1, g2, g3, g4, Int.toNat_natCast] <;> with_reducible rfl) (by decide) ?_
              refine awp_sel [3, 4, 8, 11, 12, 13, 16, 17, 72, 73, 74] (by simp only [jN, seval, vint, qT, hn0, hn1, hx, Bool.false_or, g1, g2, g3, g4, Int.toNat_natCast] <;> with_reducible rfl) ?_
              repeat (refine awp_seq ?_)
              refine e_eval (by simp only [jA, jO, jN, seval, vint, qT, hn0, hn1, hx, Bool.false_or, g1, g2, g3, g4, Int.toNat_natCast] <;> with_reducible rfl) (by decide) ?_
              repeat (refine awp_seq ?_)
              refine awp_cond rfl (by simp only [jN, seval, vint, qT, hn0, hn1, hx, Bool.false_or, g1, g2, g3, g4, Int.toNat_natCast] <;> with_reducible rfl) (fun b4 => ?_) (fun b4 => ?_)
              ·
                repeat (refine awp_seq ?_)
                refine e_eval (by simp only [jA, jO, jN, seval, y63, vint, qT, hn0, hn1, hx, Bool.false_or, g1, g2, g3, g4, Int.toNat_natCast] <;> with_reducible rfl) (by decide) ?_
                repeat (refine awp_seq ?_)
                refine awp_ret ⟨.inr rfl, _, (ares_two (.cell 8 63) (.tmp 9) rfl (ares_cell1 Tryti63 (by decide) (by simp only [jL, jN, seval, vint, qT, hn0, hn1, hx, Bool.false_or, g1, g2, g3, g4, Int.toNat_natCast] <;> with_reducible rfl)) (ares_tmp1 (by decide))), ?_⟩
                have hbad : ¬ (d.bs.all (fun b => (solveT ds sas n (mapT (appG d.ps (implAs ds t tr)) b.t) b.tr).2)) = true := by
                  rw [List.all_eq_true]
                  intro h
                  have := h d.bs[i] (List.getElem_mem hi)
                  rw [hbe] at this
                  simp [this] at b4
                rw [if_neg hbad]
                simp only [jN, seval, vint, qT]
                rfl
              ·
                repeat (refine awp_seq ?_)
                refine awp_skip ?_
                repeat (refine awp_seq ?_)
                refine e_eval (by simp only [jA, jO, jN, seval, y61, y63, vint, qT, hn0, hn1, hx, Bool.false_or, g1, g2, g3, g4, Int.toNat_natCast, happ] <;> with_reducible rfl) (by decide) ?_
                exact ⟨⟨rfl, rfl, trivial⟩, s ++ [(solveT ds sas n (mapT (appG d.ps (implAs ds t tr)) b.t) b.tr).1], _, ⟨rfl, rfl, rfl, rfl, rfl, rfl, rfl, trivial⟩, by simp only [jN, seval, vint, qT, List.length_append, List.length_singleton] <;> rfl, all_take_succ hi hg.1 (by simp only [hbe]; simpa using b4), by rw [hg.2, map_take_succ _ hi, hbe]⟩
            · intro s hg
              rw [List.take_length] at hg
              repeat (refine awp_seq ?_)
              refine e_eval (by simp only [jA, jO, jN, seval, y63, vint, qT, hn0, hn1, hx, Bool.false_or, g1, g2] <;> with_reducible rfl) (by decide) ?_
              repeat (refine awp_seq ?_)
              refine awp_ret ⟨.inr rfl, _, (ares_two (.cell 8 63) (.tmp 9) rfl (ares_cell1 Tryti63 (by decide) (by simp only [jL, jN, seval, vint, qT, hn0, hn1, hx, Bool.false_or, g1, g2] <;> with_reducible rfl)) (ares_tmp1 (by decide))), ?_⟩
              rw [if_pos hg.1, ← hg.2]
              simp only [jN, seval, vint, qT]

end Go.Abs
