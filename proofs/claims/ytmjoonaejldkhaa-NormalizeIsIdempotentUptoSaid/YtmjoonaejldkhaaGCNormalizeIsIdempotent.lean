/- Part 3 of a proof of the law NormalizeIsIdempotent: Go data as trees, the walks of the functions that the law reaches, the plain laws. -/
import Derived.Test.YtmjoonaejldkhaaGBNormalizeIsIdempotent
import Derived.Test.YtmjoonaejldkhaaProg
import Derived.KernelRfl
set_option linter.unusedVariables false
namespace Go.Abs
open Go.Proofs
theorem Tryti2 : tinfo Try.prog 2 = some ⟨false, 1, 8⟩ := by kernel_rfl
theorem Trytz2 : tzero Try.prog 2 = some (.int .i64 0) := by kernel_rfl
theorem Trytp2 : tptr Try.prog 2 = false := by kernel_rfl
theorem Trytk2 : tint Try.prog 2 = some .i64 := by kernel_rfl
theorem Tryti3 : tinfo Try.prog 3 = some ⟨false, 1, 8⟩ := by kernel_rfl
theorem Trytz3 : tzero Try.prog 3 = some (.int .i64 0) := by kernel_rfl
theorem Trytp3 : tptr Try.prog 3 = false := by kernel_rfl
theorem Trytk3 : tint Try.prog 3 = some .i64 := by kernel_rfl
theorem Tryti4 : tinfo Try.prog 4 = some ⟨false, 1, 1⟩ := by kernel_rfl
theorem Trytz4 : tzero Try.prog 4 = some (.bool false) := by kernel_rfl
theorem Trytp4 : tptr Try.prog 4 = false := by kernel_rfl
theorem Trytb4 : tbool Try.prog 4 = true := by kernel_rfl
theorem Tryti5 : tinfo Try.prog 5 = some ⟨false, 1, 1⟩ := by kernel_rfl
theorem Trytz5 : tzero Try.prog 5 = some (.int .u8 0) := by kernel_rfl
theorem Trytp5 : tptr Try.prog 5 = false := by kernel_rfl
theorem Trytk5 : tint Try.prog 5 = some .u8 := by kernel_rfl
theorem Tryti6 : tinfo Try.prog 6 = some ⟨false, 1, 1⟩ := by kernel_rfl
theorem Trytz6 : tzero Try.prog 6 = some (.int .u8 0) := by kernel_rfl
theorem Trytp6 : tptr Try.prog 6 = false := by kernel_rfl
theorem Trytk6 : tint Try.prog 6 = some .u8 := by kernel_rfl
theorem Tryti7 : tinfo Try.prog 7 = some ⟨true, 4, 24⟩ := by kernel_rfl
theorem Trytf7 : tflds Try.prog 7 = some [(0, ⟨false, 1, 8⟩), (1, ⟨false, 1, 8⟩), (2, ⟨false, 1, 1⟩), (3, ⟨false, 1, 1⟩)] := by kernel_rfl
theorem Trytz7 : tzero Try.prog 7 = some (.agg [.int .i64 0, .int .i64 0, .bool false, .int .u8 0]) := by kernel_rfl
theorem Trytp7 : tptr Try.prog 7 = false := by kernel_rfl
theorem Tryti8 : tinfo Try.prog 8 = some ⟨true, 4, 24⟩ := by kernel_rfl
theorem Trytf8 : tflds Try.prog 8 = some [(0, ⟨false, 1, 8⟩), (1, ⟨false, 1, 8⟩), (2, ⟨false, 1, 1⟩), (3, ⟨false, 1, 1⟩)] := by kernel_rfl
theorem Trytz8 : tzero Try.prog 8 = some (.agg [.int .i64 0, .int .i64 0, .bool false, .int .u8 0]) := by kernel_rfl
theorem Trytp8 : tptr Try.prog 8 = false := by kernel_rfl
theorem Tryti9 : tinfo Try.prog 9 = some ⟨false, 1, 16⟩ := by kernel_rfl
theorem Trytz9 : tzero Try.prog 9 = some (.str []) := by kernel_rfl
theorem Trytp9 : tptr Try.prog 9 = false := by kernel_rfl
theorem Tryts9 : tstr Try.prog 9 = true := by kernel_rfl
theorem Tryti10 : tinfo Try.prog 10 = some ⟨false, 1, 16⟩ := by kernel_rfl
theorem Trytz10 : tzero Try.prog 10 = some (.str []) := by kernel_rfl
theorem Trytp10 : tptr Try.prog 10 = false := by kernel_rfl
theorem Tryts10 : tstr Try.prog 10 = true := by kernel_rfl
theorem Tryti11 : tinfo Try.prog 11 = some ⟨false, 1, 16⟩ := by kernel_rfl
theorem Trytz11 : tzero Try.prog 11 = some (.str []) := by kernel_rfl
theorem Trytp11 : tptr Try.prog 11 = false := by kernel_rfl
theorem Tryts11 : tstr Try.prog 11 = true := by kernel_rfl
theorem Tryti12 : tinfo Try.prog 12 = some ⟨false, 1, 8⟩ := by kernel_rfl
theorem Trytz12 : tzero Try.prog 12 = some (.int .u64 0) := by kernel_rfl
theorem Trytp12 : tptr Try.prog 12 = false := by kernel_rfl
theorem Trytk12 : tint Try.prog 12 = some .u64 := by kernel_rfl
theorem Tryti13 : tinfo Try.prog 13 = some ⟨true, 2, 24⟩ := by kernel_rfl
theorem Trytf13 : tflds Try.prog 13 = some [(0, ⟨false, 1, 16⟩), (1, ⟨false, 1, 8⟩)] := by kernel_rfl
theorem Trytz13 : tzero Try.prog 13 = some (.agg [.str [], .int .u64 0]) := by kernel_rfl
theorem Trytp13 : tptr Try.prog 13 = false := by kernel_rfl
theorem Tryti14 : tinfo Try.prog 14 = some ⟨true, 2, 24⟩ := by kernel_rfl
theorem Trytf14 : tflds Try.prog 14 = some [(0, ⟨false, 1, 16⟩), (1, ⟨false, 1, 8⟩)] := by kernel_rfl
theorem Trytz14 : tzero Try.prog 14 = some (.agg [.str [], .int .u64 0]) := by kernel_rfl
theorem Trytp14 : tptr Try.prog 14 = false := by kernel_rfl
theorem Tryti15 : tinfo Try.prog 15 = some ⟨false, 1, 8⟩ := by kernel_rfl
theorem Trytz15 : tzero Try.prog 15 = some (.nilp) := by kernel_rfl
theorem Trytp15 : tptr Try.prog 15 = true := by kernel_rfl
theorem Tryti16 : tinfo Try.prog 16 = some ⟨false, 1, 8⟩ := by kernel_rfl
theorem Trytz16 : tzero Try.prog 16 = some (.nilp) := by kernel_rfl
theorem Trytp16 : tptr Try.prog 16 = true := by kernel_rfl
theorem Tryti17 : tinfo Try.prog 17 = some ⟨false, 1, 8⟩ := by kernel_rfl
theorem Trytz17 : tzero Try.prog 17 = some (.nilp) := by kernel_rfl
theorem Trytp17 : tptr Try.prog 17 = true := by kernel_rfl
theorem Tryti18 : tinfo Try.prog 18 = some ⟨true, 1, 8⟩ := by kernel_rfl
theorem Trytf18 : tflds Try.prog 18 = some [(0, ⟨false, 1, 8⟩)] := by kernel_rfl
theorem Trytz18 : tzero Try.prog 18 = some (.agg [.nilp]) := by kernel_rfl
theorem Trytp18 : tptr Try.prog 18 = false := by kernel_rfl
theorem Tryti19 : tinfo Try.prog 19 = some ⟨true, 1, 8⟩ := by kernel_rfl
theorem Trytf19 : tflds Try.prog 19 = some [(0, ⟨false, 1, 8⟩)] := by kernel_rfl
theorem Trytz19 : tzero Try.prog 19 = some (.agg [.nilp]) := by kernel_rfl
theorem Trytp19 : tptr Try.prog 19 = false := by kernel_rfl
theorem Tryti21 : tinfo Try.prog 21 = some ⟨false, 1, 4⟩ := by kernel_rfl
theorem Trytz21 : tzero Try.prog 21 = some (.int .i32 0) := by kernel_rfl
theorem Trytp21 : tptr Try.prog 21 = false := by kernel_rfl
theorem Trytk21 : tint Try.prog 21 = some .i32 := by kernel_rfl
theorem Tryti22 : tinfo Try.prog 22 = some ⟨false, 1, 24⟩ := by kernel_rfl
theorem Tryte22 : telem Try.prog 22 = some (24, ⟨true, 3, 40⟩) := by kernel_rfl
theorem Trytz22 : tzero Try.prog 22 = some (.slice [] .full) := by kernel_rfl
theorem Trytp22 : tptr Try.prog 22 = false := by kernel_rfl
theorem Tryti23 : tinfo Try.prog 23 = some ⟨true, 3, 40⟩ := by kernel_rfl
theorem Trytf23 : tflds Try.prog 23 = some [(0, ⟨false, 1, 8⟩), (1, ⟨false, 1, 8⟩), (2, ⟨false, 1, 24⟩)] := by kernel_rfl
theorem Trytz23 : tzero Try.prog 23 = some (.agg [.int .i64 0, .int .i64 0, .slice [] .full]) := by kernel_rfl
theorem Trytp23 : tptr Try.prog 23 = false := by kernel_rfl
theorem Tryti24 : tinfo Try.prog 24 = some ⟨true, 3, 40⟩ := by kernel_rfl
theorem Trytf24 : tflds Try.prog 24 = some [(0, ⟨false, 1, 8⟩), (1, ⟨false, 1, 8⟩), (2, ⟨false, 1, 24⟩)] := by kernel_rfl
theorem Trytz24 : tzero Try.prog 24 = some (.agg [.int .i64 0, .int .i64 0, .slice [] .full]) := by kernel_rfl
theorem Trytp24 : tptr Try.prog 24 = false := by kernel_rfl
theorem Tryti25 : tinfo Try.prog 25 = some ⟨false, 1, 24⟩ := by kernel_rfl
theorem Tryte25 : telem Try.prog 25 = some (3, ⟨false, 1, 8⟩) := by kernel_rfl
theorem Trytz25 : tzero Try.prog 25 = some (.slice [] .full) := by kernel_rfl
theorem Trytp25 : tptr Try.prog 25 = false := by kernel_rfl
theorem Tryti38 : tinfo Try.prog 38 = some ⟨false, 1, 8⟩ := by kernel_rfl
theorem Trytz38 : tzero Try.prog 38 = some (.int .i64 0) := by kernel_rfl
theorem Trytp38 : tptr Try.prog 38 = false := by kernel_rfl
theorem Trytk38 : tint Try.prog 38 = some .i64 := by kernel_rfl
theorem Tryti41 : tinfo Try.prog 41 = some ⟨true, 4, 48⟩ := by kernel_rfl
theorem Trytf41 : tflds Try.prog 41 = some [(0, ⟨false, 1, 8⟩), (1, ⟨true, 3, 40⟩)] := by kernel_rfl
theorem Trytz41 : tzero Try.prog 41 = some (.agg [.int .i64 0, .int .i64 0, .int .i64 0, .slice [] .full]) := by kernel_rfl
theorem Trytp41 : tptr Try.prog 41 = false := by kernel_rfl
theorem Tryti42 : tinfo Try.prog 42 = some ⟨true, 4, 48⟩ := by kernel_rfl
theorem Trytf42 : tflds Try.prog 42 = some [(0, ⟨false, 1, 8⟩), (1, ⟨true, 3, 40⟩)] := by kernel_rfl
theorem Trytz42 : tzero Try.prog 42 = some (.agg [.int .i64 0, .int .i64 0, .int .i64 0, .slice [] .full]) := by kernel_rfl
theorem Trytp42 : tptr Try.prog 42 = false := by kernel_rfl
theorem Tryti43 : tinfo Try.prog 43 = some ⟨false, 1, 24⟩ := by kernel_rfl
theorem Tryte43 : telem Try.prog 43 = some (42, ⟨true, 4, 48⟩) := by kernel_rfl
theorem Trytz43 : tzero Try.prog 43 = some (.slice [] .full) := by kernel_rfl
theorem Trytp43 : tptr Try.prog 43 = false := by kernel_rfl
theorem Tryti52 : tinfo Try.prog 52 = some ⟨false, 1, 24⟩ := by kernel_rfl
theorem Tryte52 : telem Try.prog 52 = some (117, ⟨true, 6, 56⟩) := by kernel_rfl
theorem Trytz52 : tzero Try.prog 52 = some (.slice [] .full) := by kernel_rfl
theorem Trytp52 : tptr Try.prog 52 = false := by kernel_rfl
theorem Tryti53 : tinfo Try.prog 53 = some ⟨false, 1, 24⟩ := by kernel_rfl
theorem Tryte53 : telem Try.prog 53 = some (217, ⟨true, 3, 24⟩) := by kernel_rfl
theorem Trytz53 : tzero Try.prog 53 = some (.slice [] .full) := by kernel_rfl
theorem Trytp53 : tptr Try.prog 53 = false := by kernel_rfl
theorem Tryti54 : tinfo Try.prog 54 = some ⟨false, 1, 24⟩ := by kernel_rfl
theorem Tryte54 : telem Try.prog 54 = some (219, ⟨true, 5, 48⟩) := by kernel_rfl
theorem Trytz54 : tzero Try.prog 54 = some (.slice [] .full) := by kernel_rfl
theorem Trytp54 : tptr Try.prog 54 = false := by kernel_rfl
theorem Tryti55 : tinfo Try.prog 55 = some ⟨true, 3, 72⟩ := by kernel_rfl
theorem Trytf55 : tflds Try.prog 55 = some [(0, ⟨false, 1, 24⟩), (1, ⟨false, 1, 24⟩), (2, ⟨false, 1, 24⟩)] := by kernel_rfl
theorem Trytz55 : tzero Try.prog 55 = some (.agg [.slice [] .full, .slice [] .full, .slice [] .full]) := by kernel_rfl
theorem Trytp55 : tptr Try.prog 55 = false := by kernel_rfl
theorem Tryti56 : tinfo Try.prog 56 = some ⟨true, 3, 72⟩ := by kernel_rfl
theorem Trytf56 : tflds Try.prog 56 = some [(0, ⟨false, 1, 24⟩), (1, ⟨false, 1, 24⟩), (2, ⟨false, 1, 24⟩)] := by kernel_rfl
theorem Trytz56 : tzero Try.prog 56 = some (.agg [.slice [] .full, .slice [] .full, .slice [] .full]) := by kernel_rfl
theorem Trytp56 : tptr Try.prog 56 = false := by kernel_rfl
theorem Tryti59 : tinfo Try.prog 59 = some ⟨false, 1, 24⟩ := by kernel_rfl
theorem Tryte59 : telem Try.prog 59 = some (71, ⟨true, 7, 120⟩) := by kernel_rfl
theorem Trytz59 : tzero Try.prog 59 = some (.slice [] .full) := by kernel_rfl
theorem Trytp59 : tptr Try.prog 59 = false := by kernel_rfl
theorem Tryti60 : tinfo Try.prog 60 = some ⟨false, 1, 24⟩ := by kernel_rfl
theorem Tryte60 : telem Try.prog 60 = some (74, ⟨true, 4, 48⟩) := by kernel_rfl
theorem Trytz60 : tzero Try.prog 60 = some (.slice [] .full) := by kernel_rfl
theorem Trytp60 : tptr Try.prog 60 = false := by kernel_rfl
theorem Tryti61 : tinfo Try.prog 61 = some ⟨false, 1, 24⟩ := by kernel_rfl
theorem Tryte61 : telem Try.prog 61 = some (63, ⟨true, 8, 112⟩) := by kernel_rfl
theorem Trytz61 : tzero Try.prog 61 = some (.slice [] .full) := by kernel_rfl
theorem Trytp61 : tptr Try.prog 61 = false := by kernel_rfl
theorem Tryti62 : tinfo Try.prog 62 = some ⟨true, 8, 112⟩ := by kernel_rfl
theorem Trytf62 : tflds Try.prog 62 = some [(0, ⟨true, 3, 40⟩), (3, ⟨false, 1, 8⟩), (4, ⟨false, 1, 8⟩), (5, ⟨false, 1, 8⟩), (6, ⟨false, 1, 24⟩), (7, ⟨false, 1, 24⟩)] := by kernel_rfl
theorem Trytz62 : tzero Try.prog 62 = some (.agg [.int .i64 0, .int .i64 0, .slice [] .full, .int .i64 0, .int .i64 0, .int .i64 0, .slice [] .full, .slice [] .full]) := by kernel_rfl
theorem Trytp62 : tptr Try.prog 62 = false := by kernel_rfl
theorem Tryti63 : tinfo Try.prog 63 = some ⟨true, 8, 112⟩ := by kernel_rfl
theorem Trytf63 : tflds Try.prog 63 = some [(0, ⟨true, 3, 40⟩), (3, ⟨false, 1, 8⟩), (4, ⟨false, 1, 8⟩), (5, ⟨false, 1, 8⟩), (6, ⟨false, 1, 24⟩), (7, ⟨false, 1, 24⟩)] := by kernel_rfl
theorem Trytz63 : tzero Try.prog 63 = some (.agg [.int .i64 0, .int .i64 0, .slice [] .full, .int .i64 0, .int .i64 0, .int .i64 0, .slice [] .full, .slice [] .full]) := by kernel_rfl
theorem Trytp63 : tptr Try.prog 63 = false := by kernel_rfl
theorem Tryti70 : tinfo Try.prog 70 = some ⟨true, 7, 120⟩ := by kernel_rfl
theorem Trytf70 : tflds Try.prog 70 = some [(0, ⟨false, 1, 24⟩), (1, ⟨true, 3, 40⟩), (4, ⟨false, 1, 8⟩), (5, ⟨false, 1, 24⟩), (6, ⟨false, 1, 24⟩)] := by kernel_rfl
theorem Trytz70 : tzero Try.prog 70 = some (.agg [.slice [] .full, .int .i64 0, .int .i64 0, .slice [] .full, .int .i64 0, .slice [] .full, .slice [] .full]) := by kernel_rfl
theorem Trytp70 : tptr Try.prog 70 = false := by kernel_rfl
theorem Tryti71 : tinfo Try.prog 71 = some ⟨true, 7, 120⟩ := by kernel_rfl
theorem Trytf71 : tflds Try.prog 71 = some [(0, ⟨false, 1, 24⟩), (1, ⟨true, 3, 40⟩), (4, ⟨false, 1, 8⟩), (5, ⟨false, 1, 24⟩), (6, ⟨false, 1, 24⟩)] := by kernel_rfl
theorem Trytz71 : tzero Try.prog 71 = some (.agg [.slice [] .full, .int .i64 0, .int .i64 0, .slice [] .full, .int .i64 0, .slice [] .full, .slice [] .full]) := by kernel_rfl
theorem Trytp71 : tptr Try.prog 71 = false := by kernel_rfl
theorem Tryti73 : tinfo Try.prog 73 = some ⟨true, 4, 48⟩ := by kernel_rfl
theorem Trytf73 : tflds Try.prog 73 = some [(0, ⟨true, 3, 40⟩), (3, ⟨false, 1, 8⟩)] := by kernel_rfl
theorem Trytz73 : tzero Try.prog 73 = some (.agg [.int .i64 0, .int .i64 0, .slice [] .full, .int .i64 0]) := by kernel_rfl
theorem Trytp73 : tptr Try.prog 73 = false := by kernel_rfl
theorem Tryti74 : tinfo Try.prog 74 = some ⟨true, 4, 48⟩ := by kernel_rfl
theorem Trytf74 : tflds Try.prog 74 = some [(0, ⟨true, 3, 40⟩), (3, ⟨false, 1, 8⟩)] := by kernel_rfl
theorem Trytz74 : tzero Try.prog 74 = some (.agg [.int .i64 0, .int .i64 0, .slice [] .full, .int .i64 0]) := by kernel_rfl
theorem Trytp74 : tptr Try.prog 74 = false := by kernel_rfl
theorem Tryti83 : tinfo Try.prog 83 = some ⟨false, 1, 24⟩ := by kernel_rfl
theorem Tryte83 : telem Try.prog 83 = some (87, ⟨true, 6, 80⟩) := by kernel_rfl
theorem Trytz83 : tzero Try.prog 83 = some (.slice [] .full) := by kernel_rfl
theorem Trytp83 : tptr Try.prog 83 = false := by kernel_rfl
theorem Tryti86 : tinfo Try.prog 86 = some ⟨true, 6, 80⟩ := by kernel_rfl
theorem Trytf86 : tflds Try.prog 86 = some [(0, ⟨true, 3, 40⟩), (3, ⟨true, 3, 40⟩)] := by kernel_rfl
theorem Trytz86 : tzero Try.prog 86 = some (.agg [.int .i64 0, .int .i64 0, .slice [] .full, .int .i64 0, .int .i64 0, .slice [] .full]) := by kernel_rfl
theorem Trytp86 : tptr Try.prog 86 = false := by kernel_rfl
theorem Tryti87 : tinfo Try.prog 87 = some ⟨true, 6, 80⟩ := by kernel_rfl
theorem Trytf87 : tflds Try.prog 87 = some [(0, ⟨true, 3, 40⟩), (3, ⟨true, 3, 40⟩)] := by kernel_rfl
theorem Trytz87 : tzero Try.prog 87 = some (.agg [.int .i64 0, .int .i64 0, .slice [] .full, .int .i64 0, .int .i64 0, .slice [] .full]) := by kernel_rfl
theorem Trytp87 : tptr Try.prog 87 = false := by kernel_rfl
theorem Tryti101 : tinfo Try.prog 101 = some ⟨false, 1, 8⟩ := by kernel_rfl
theorem Trytz101 : tzero Try.prog 101 = some (.nilp) := by kernel_rfl
theorem Trytp101 : tptr Try.prog 101 = true := by kernel_rfl
theorem Tryti102 : tinfo Try.prog 102 = some ⟨false, 1, 24⟩ := by kernel_rfl
theorem Tryte102 : telem Try.prog 102 = some (4, ⟨false, 1, 1⟩) := by kernel_rfl
theorem Trytz102 : tzero Try.prog 102 = some (.slice [] .full) := by kernel_rfl
theorem Trytp102 : tptr Try.prog 102 = false := by kernel_rfl
theorem Tryti103 : tinfo Try.prog 103 = some ⟨true, 3, 72⟩ := by kernel_rfl
theorem Trytf103 : tflds Try.prog 103 = some [(0, ⟨false, 1, 24⟩), (1, ⟨false, 1, 24⟩), (2, ⟨false, 1, 24⟩)] := by kernel_rfl
theorem Trytz103 : tzero Try.prog 103 = some (.agg [.slice [] .full, .slice [] .full, .slice [] .full]) := by kernel_rfl
theorem Trytp103 : tptr Try.prog 103 = false := by kernel_rfl
theorem Tryti104 : tinfo Try.prog 104 = some ⟨true, 3, 72⟩ := by kernel_rfl
theorem Trytf104 : tflds Try.prog 104 = some [(0, ⟨false, 1, 24⟩), (1, ⟨false, 1, 24⟩), (2, ⟨false, 1, 24⟩)] := by kernel_rfl
theorem Trytz104 : tzero Try.prog 104 = some (.agg [.slice [] .full, .slice [] .full, .slice [] .full]) := by kernel_rfl
theorem Trytp104 : tptr Try.prog 104 = false := by kernel_rfl
theorem Tryti112 : tinfo Try.prog 112 = some ⟨false, 1, 24⟩ := by kernel_rfl
theorem Tryte112 : telem Try.prog 112 = some (38, ⟨false, 1, 8⟩) := by kernel_rfl
theorem Trytz112 : tzero Try.prog 112 = some (.slice [] .full) := by kernel_rfl
theorem Trytp112 : tptr Try.prog 112 = false := by kernel_rfl
theorem Tryti116 : tinfo Try.prog 116 = some ⟨true, 6, 56⟩ := by kernel_rfl
theorem Trytf116 : tflds Try.prog 116 = some [(0, ⟨false, 1, 8⟩), (1, ⟨false, 1, 8⟩), (2, ⟨false, 1, 8⟩), (3, ⟨false, 1, 8⟩), (4, ⟨false, 1, 16⟩), (5, ⟨false, 1, 1⟩)] := by kernel_rfl
theorem Trytz116 : tzero Try.prog 116 = some (.agg [.int .i64 0, .int .i64 0, .int .i64 0, .int .i64 0, .str [], .bool false]) := by kernel_rfl
theorem Trytp116 : tptr Try.prog 116 = false := by kernel_rfl
theorem Tryti117 : tinfo Try.prog 117 = some ⟨true, 6, 56⟩ := by kernel_rfl
theorem Trytf117 : tflds Try.prog 117 = some [(0, ⟨false, 1, 8⟩), (1, ⟨false, 1, 8⟩), (2, ⟨false, 1, 8⟩), (3, ⟨false, 1, 8⟩), (4, ⟨false, 1, 16⟩), (5, ⟨false, 1, 1⟩)] := by kernel_rfl
theorem Trytz117 : tzero Try.prog 117 = some (.agg [.int .i64 0, .int .i64 0, .int .i64 0, .int .i64 0, .str [], .bool false]) := by kernel_rfl
theorem Trytp117 : tptr Try.prog 117 = false := by kernel_rfl
theorem Tryti122 : tinfo Try.prog 122 = some ⟨true, 2, 48⟩ := by kernel_rfl
theorem Trytf122 : tflds Try.prog 122 = some [(0, ⟨false, 1, 24⟩), (1, ⟨false, 1, 24⟩)] := by kernel_rfl
theorem Trytz122 : tzero Try.prog 122 = some (.agg [.slice [] .full, .slice [] .full]) := by kernel_rfl
theorem Trytp122 : tptr Try.prog 122 = false := by kernel_rfl
theorem Tryti123 : tinfo Try.prog 123 = some ⟨true, 2, 48⟩ := by kernel_rfl
theorem Trytf123 : tflds Try.prog 123 = some [(0, ⟨false, 1, 24⟩), (1, ⟨false, 1, 24⟩)] := by kernel_rfl
theorem Trytz123 : tzero Try.prog 123 = some (.agg [.slice [] .full, .slice [] .full]) := by kernel_rfl
theorem Trytp123 : tptr Try.prog 123 = false := by kernel_rfl
theorem Tryti128 : tinfo Try.prog 128 = some ⟨false, 1, 8⟩ := by kernel_rfl
theorem Trytz128 : tzero Try.prog 128 = some (.nilp) := by kernel_rfl
theorem Trytp128 : tptr Try.prog 128 = true := by kernel_rfl
theorem Tryti129 : tinfo Try.prog 129 = some ⟨true, 6, 128⟩ := by kernel_rfl
theorem Trytf129 : tflds Try.prog 129 = some [(0, ⟨true, 3, 72⟩), (3, ⟨false, 1, 24⟩), (4, ⟨false, 1, 24⟩), (5, ⟨false, 1, 1⟩)] := by kernel_rfl
theorem Trytz129 : tzero Try.prog 129 = some (.agg [.slice [] .full, .slice [] .full, .slice [] .full, .slice [] .full, .slice [] .full, .bool false]) := by kernel_rfl
theorem Trytp129 : tptr Try.prog 129 = false := by kernel_rfl
theorem Tryti130 : tinfo Try.prog 130 = some ⟨true, 6, 128⟩ := by kernel_rfl
theorem Trytf130 : tflds Try.prog 130 = some [(0, ⟨true, 3, 72⟩), (3, ⟨false, 1, 24⟩), (4, ⟨false, 1, 24⟩), (5, ⟨false, 1, 1⟩)] := by kernel_rfl
theorem Trytz130 : tzero Try.prog 130 = some (.agg [.slice [] .full, .slice [] .full, .slice [] .full, .slice [] .full, .slice [] .full, .bool false]) := by kernel_rfl
theorem Trytp130 : tptr Try.prog 130 = false := by kernel_rfl
theorem Tryti134 : tinfo Try.prog 134 = some ⟨false, 1, 8⟩ := by kernel_rfl
theorem Trytz134 : tzero Try.prog 134 = some (.nilp) := by kernel_rfl
theorem Trytp134 : tptr Try.prog 134 = true := by kernel_rfl
theorem Tryti137 : tinfo Try.prog 137 = some ⟨true, 2, 16⟩ := by kernel_rfl
theorem Trytf137 : tflds Try.prog 137 = some [(0, ⟨false, 1, 8⟩), (1, ⟨false, 1, 8⟩)] := by kernel_rfl
theorem Trytz137 : tzero Try.prog 137 = some (.agg [.nilmap, .int .i64 0]) := by kernel_rfl
theorem Trytp137 : tptr Try.prog 137 = false := by kernel_rfl
theorem Tryti138 : tinfo Try.prog 138 = some ⟨true, 2, 16⟩ := by kernel_rfl
theorem Trytf138 : tflds Try.prog 138 = some [(0, ⟨false, 1, 8⟩), (1, ⟨false, 1, 8⟩)] := by kernel_rfl
theorem Trytz138 : tzero Try.prog 138 = some (.agg [.nilmap, .int .i64 0]) := by kernel_rfl
theorem Trytp138 : tptr Try.prog 138 = false := by kernel_rfl
theorem Tryti145 : tinfo Try.prog 145 = some ⟨false, 1, 24⟩ := by kernel_rfl
theorem Tryte145 : telem Try.prog 145 = some (9, ⟨false, 1, 16⟩) := by kernel_rfl
theorem Trytz145 : tzero Try.prog 145 = some (.slice [] .full) := by kernel_rfl
theorem Trytp145 : tptr Try.prog 145 = false := by kernel_rfl
theorem Tryti155 : tinfo Try.prog 155 = some ⟨true, 2, 16⟩ := by kernel_rfl
theorem Trytf155 : tflds Try.prog 155 = some [(0, ⟨false, 1, 8⟩), (1, ⟨false, 1, 8⟩)] := by kernel_rfl
theorem Trytz155 : tzero Try.prog 155 = some (.agg [.int .i64 0, .int .i64 0]) := by kernel_rfl
theorem Trytp155 : tptr Try.prog 155 = false := by kernel_rfl
theorem Tryti156 : tinfo Try.prog 156 = some ⟨true, 2, 16⟩ := by kernel_rfl
theorem Trytf156 : tflds Try.prog 156 = some [(0, ⟨false, 1, 8⟩), (1, ⟨false, 1, 8⟩)] := by kernel_rfl
theorem Trytz156 : tzero Try.prog 156 = some (.agg [.int .i64 0, .int .i64 0]) := by kernel_rfl
theorem Trytp156 : tptr Try.prog 156 = false := by kernel_rfl
theorem Tryti161 : tinfo Try.prog 161 = some ⟨false, 1, 8⟩ := by kernel_rfl
theorem Trytz161 : tzero Try.prog 161 = some (.int .u64 0) := by kernel_rfl
theorem Trytp161 : tptr Try.prog 161 = false := by kernel_rfl
theorem Trytk161 : tint Try.prog 161 = some .u64 := by kernel_rfl
theorem Tryti162 : tinfo Try.prog 162 = some ⟨false, 1, 8⟩ := by kernel_rfl
theorem Trytz162 : tzero Try.prog 162 = some (.nilp) := by kernel_rfl
theorem Trytp162 : tptr Try.prog 162 = true := by kernel_rfl
theorem Tryti163 : tinfo Try.prog 163 = some ⟨false, 1, 24⟩ := by kernel_rfl
theorem Tryte163 : telem Try.prog 163 = some (5, ⟨false, 1, 1⟩) := by kernel_rfl
theorem Trytz163 : tzero Try.prog 163 = some (.slice [] .full) := by kernel_rfl
theorem Trytp163 : tptr Try.prog 163 = false := by kernel_rfl
theorem Tryti164 : tinfo Try.prog 164 = some ⟨true, 2, 32⟩ := by kernel_rfl
theorem Trytf164 : tflds Try.prog 164 = some [(0, ⟨false, 1, 8⟩), (1, ⟨false, 1, 24⟩)] := by kernel_rfl
theorem Trytz164 : tzero Try.prog 164 = some (.agg [.nilp, .slice [] .full]) := by kernel_rfl
theorem Trytp164 : tptr Try.prog 164 = false := by kernel_rfl
theorem Tryti165 : tinfo Try.prog 165 = some ⟨true, 2, 32⟩ := by kernel_rfl
theorem Trytf165 : tflds Try.prog 165 = some [(0, ⟨false, 1, 8⟩), (1, ⟨false, 1, 24⟩)] := by kernel_rfl
theorem Trytz165 : tzero Try.prog 165 = some (.agg [.nilp, .slice [] .full]) := by kernel_rfl
theorem Trytp165 : tptr Try.prog 165 = false := by kernel_rfl
theorem Tryti178 : tinfo Try.prog 178 = some ⟨false, 1, 8⟩ := by kernel_rfl
theorem Trytz178 : tzero Try.prog 178 = some (.int .i64 0) := by kernel_rfl
theorem Trytp178 : tptr Try.prog 178 = false := by kernel_rfl
theorem Trytk178 : tint Try.prog 178 = some .i64 := by kernel_rfl
theorem Tryti186 : tinfo Try.prog 186 = some ⟨false, 1, 4⟩ := by kernel_rfl
theorem Trytz186 : tzero Try.prog 186 = some (.int .u32 0) := by kernel_rfl
theorem Trytp186 : tptr Try.prog 186 = false := by kernel_rfl
theorem Trytk186 : tint Try.prog 186 = some .u32 := by kernel_rfl
theorem Tryti188 : tinfo Try.prog 188 = some ⟨false, 1, 8⟩ := by kernel_rfl
theorem Trytz188 : tzero Try.prog 188 = some (.int .u64 0) := by kernel_rfl
theorem Trytp188 : tptr Try.prog 188 = false := by kernel_rfl
theorem Trytk188 : tint Try.prog 188 = some .u64 := by kernel_rfl
theorem Tryti189 : tinfo Try.prog 189 = some ⟨false, 1, 8⟩ := by kernel_rfl
theorem Trytz189 : tzero Try.prog 189 = some (.nilp) := by kernel_rfl
theorem Trytp189 : tptr Try.prog 189 = true := by kernel_rfl
theorem Tryti192 : tinfo Try.prog 192 = some ⟨false, 1, 8⟩ := by kernel_rfl
theorem Trytz192 : tzero Try.prog 192 = some (.int .u64 0) := by kernel_rfl
theorem Trytp192 : tptr Try.prog 192 = false := by kernel_rfl
theorem Trytk192 : tint Try.prog 192 = some .u64 := by kernel_rfl
theorem Tryti196 : tinfo Try.prog 196 = some ⟨false, 1, 8⟩ := by kernel_rfl
theorem Trytz196 : tzero Try.prog 196 = some (.nilp) := by kernel_rfl
theorem Trytp196 : tptr Try.prog 196 = true := by kernel_rfl
theorem Tryti201 : tinfo Try.prog 201 = some ⟨false, 1, 8⟩ := by kernel_rfl
theorem Trytz201 : tzero Try.prog 201 = some (.nilp) := by kernel_rfl
theorem Trytp201 : tptr Try.prog 201 = true := by kernel_rfl
theorem Tryti203 : tinfo Try.prog 203 = some ⟨true, 4, 40⟩ := by kernel_rfl
theorem Trytf203 : tflds Try.prog 203 = some [(0, ⟨false, 1, 8⟩), (1, ⟨false, 1, 8⟩), (2, ⟨false, 1, 8⟩), (3, ⟨false, 1, 16⟩)] := by kernel_rfl
theorem Trytz203 : tzero Try.prog 203 = some (.agg [.nilp, .nilp, .nilp, .str []]) := by kernel_rfl
theorem Trytp203 : tptr Try.prog 203 = false := by kernel_rfl
theorem Tryti204 : tinfo Try.prog 204 = some ⟨true, 4, 40⟩ := by kernel_rfl
theorem Trytf204 : tflds Try.prog 204 = some [(0, ⟨false, 1, 8⟩), (1, ⟨false, 1, 8⟩), (2, ⟨false, 1, 8⟩), (3, ⟨false, 1, 16⟩)] := by kernel_rfl
theorem Trytz204 : tzero Try.prog 204 = some (.agg [.nilp, .nilp, .nilp, .str []]) := by kernel_rfl
theorem Trytp204 : tptr Try.prog 204 = false := by kernel_rfl
theorem Tryti206 : tinfo Try.prog 206 = some ⟨true, 0, 0⟩ := by kernel_rfl
theorem Trytf206 : tflds Try.prog 206 = some [(0, ⟨true, 0, 0⟩)] := by kernel_rfl
theorem Trytz206 : tzero Try.prog 206 = some (.agg []) := by kernel_rfl
theorem Trytp206 : tptr Try.prog 206 = false := by kernel_rfl
theorem Tryti207 : tinfo Try.prog 207 = some ⟨true, 0, 0⟩ := by kernel_rfl
theorem Trytf207 : tflds Try.prog 207 = some [(0, ⟨true, 0, 0⟩)] := by kernel_rfl
theorem Trytz207 : tzero Try.prog 207 = some (.agg []) := by kernel_rfl
theorem Trytp207 : tptr Try.prog 207 = false := by kernel_rfl
theorem Tryti209 : tinfo Try.prog 209 = some ⟨false, 1, 1⟩ := by kernel_rfl
theorem Trytz209 : tzero Try.prog 209 = some (.int .u8 0) := by kernel_rfl
theorem Trytp209 : tptr Try.prog 209 = false := by kernel_rfl
theorem Trytk209 : tint Try.prog 209 = some .u8 := by kernel_rfl
theorem Tryti210 : tinfo Try.prog 210 = some ⟨false, 1, 1⟩ := by kernel_rfl
theorem Trytz210 : tzero Try.prog 210 = some (.int .u8 0) := by kernel_rfl
theorem Trytp210 : tptr Try.prog 210 = false := by kernel_rfl
theorem Trytk210 : tint Try.prog 210 = some .u8 := by kernel_rfl
theorem Tryti212 : tinfo Try.prog 212 = some ⟨false, 1, 4⟩ := by kernel_rfl
theorem Trytz212 : tzero Try.prog 212 = some (.int .i32 0) := by kernel_rfl
theorem Trytp212 : tptr Try.prog 212 = false := by kernel_rfl
theorem Trytk212 : tint Try.prog 212 = some .i32 := by kernel_rfl
theorem Tryti213 : tinfo Try.prog 213 = some ⟨false, 1, 4⟩ := by kernel_rfl
theorem Trytz213 : tzero Try.prog 213 = some (.int .i32 0) := by kernel_rfl
theorem Trytp213 : tptr Try.prog 213 = false := by kernel_rfl
theorem Trytk213 : tint Try.prog 213 = some .i32 := by kernel_rfl
theorem Tryti214 : tinfo Try.prog 214 = some ⟨true, 11, 48⟩ := by kernel_rfl
theorem Trytf214 : tflds Try.prog 214 = some [(0, ⟨false, 1, 8⟩), (1, ⟨false, 1, 8⟩), (2, ⟨false, 1, 4⟩), (3, ⟨false, 1, 1⟩), (4, ⟨false, 1, 1⟩), (5, ⟨false, 1, 1⟩), (6, ⟨false, 1, 1⟩), (7, ⟨false, 1, 8⟩), (8, ⟨false, 1, 8⟩), (9, ⟨false, 1, 4⟩), (10, ⟨false, 1, 4⟩)] := by kernel_rfl
theorem Trytz214 : tzero Try.prog 214 = some (.agg [.int .u64 0, .int .u64 0, .int .u32 0, .int .u8 0, .int .u8 0, .int .u8 0, .int .u8 0, .nilfn, .nilp, .int .i32 0, .int .i32 0]) := by kernel_rfl
theorem Trytp214 : tptr Try.prog 214 = false := by kernel_rfl
theorem Tryti215 : tinfo Try.prog 215 = some ⟨true, 11, 48⟩ := by kernel_rfl
theorem Trytf215 : tflds Try.prog 215 = some [(0, ⟨false, 1, 8⟩), (1, ⟨false, 1, 8⟩), (2, ⟨false, 1, 4⟩), (3, ⟨false, 1, 1⟩), (4, ⟨false, 1, 1⟩), (5, ⟨false, 1, 1⟩), (6, ⟨false, 1, 1⟩), (7, ⟨false, 1, 8⟩), (8, ⟨false, 1, 8⟩), (9, ⟨false, 1, 4⟩), (10, ⟨false, 1, 4⟩)] := by kernel_rfl
theorem Trytz215 : tzero Try.prog 215 = some (.agg [.int .u64 0, .int .u64 0, .int .u32 0, .int .u8 0, .int .u8 0, .int .u8 0, .int .u8 0, .nilfn, .nilp, .int .i32 0, .int .i32 0]) := by kernel_rfl
theorem Trytp215 : tptr Try.prog 215 = false := by kernel_rfl
theorem Tryti216 : tinfo Try.prog 216 = some ⟨true, 3, 24⟩ := by kernel_rfl
theorem Trytf216 : tflds Try.prog 216 = some [(0, ⟨false, 1, 8⟩), (1, ⟨false, 1, 8⟩), (2, ⟨false, 1, 8⟩)] := by kernel_rfl
theorem Trytz216 : tzero Try.prog 216 = some (.agg [.int .i64 0, .int .i64 0, .int .i64 0]) := by kernel_rfl
theorem Trytp216 : tptr Try.prog 216 = false := by kernel_rfl
theorem Tryti217 : tinfo Try.prog 217 = some ⟨true, 3, 24⟩ := by kernel_rfl
theorem Trytf217 : tflds Try.prog 217 = some [(0, ⟨false, 1, 8⟩), (1, ⟨false, 1, 8⟩), (2, ⟨false, 1, 8⟩)] := by kernel_rfl
theorem Trytz217 : tzero Try.prog 217 = some (.agg [.int .i64 0, .int .i64 0, .int .i64 0]) := by kernel_rfl
theorem Trytp217 : tptr Try.prog 217 = false := by kernel_rfl
theorem Tryti218 : tinfo Try.prog 218 = some ⟨true, 5, 48⟩ := by kernel_rfl
theorem Trytf218 : tflds Try.prog 218 = some [(0, ⟨false, 1, 8⟩), (1, ⟨false, 1, 8⟩), (2, ⟨false, 1, 8⟩), (3, ⟨false, 1, 8⟩), (4, ⟨false, 1, 16⟩)] := by kernel_rfl
theorem Trytz218 : tzero Try.prog 218 = some (.agg [.int .i64 0, .int .i64 0, .int .i64 0, .int .i64 0, .str []]) := by kernel_rfl
theorem Trytp218 : tptr Try.prog 218 = false := by kernel_rfl
theorem Tryti219 : tinfo Try.prog 219 = some ⟨true, 5, 48⟩ := by kernel_rfl
theorem Trytf219 : tflds Try.prog 219 = some [(0, ⟨false, 1, 8⟩), (1, ⟨false, 1, 8⟩), (2, ⟨false, 1, 8⟩), (3, ⟨false, 1, 8⟩), (4, ⟨false, 1, 16⟩)] := by kernel_rfl
theorem Trytz219 : tzero Try.prog 219 = some (.agg [.int .i64 0, .int .i64 0, .int .i64 0, .int .i64 0, .str []]) := by kernel_rfl
theorem Trytp219 : tptr Try.prog 219 = false := by kernel_rfl
theorem Trygo3 : goFn Try.prog 3 = true := by kernel_rfl
theorem Trygo4 : goFn Try.prog 4 = true := by kernel_rfl
theorem Trygo5 : goFn Try.prog 5 = true := by kernel_rfl
theorem Trygo6 : goFn Try.prog 6 = true := by kernel_rfl
theorem Trygo7 : goFn Try.prog 7 = true := by kernel_rfl
theorem Trygo8 : goFn Try.prog 8 = true := by kernel_rfl
theorem Trygo9 : goFn Try.prog 9 = true := by kernel_rfl
theorem Trygo10 : goFn Try.prog 10 = true := by kernel_rfl
theorem Trygo11 : goFn Try.prog 11 = true := by kernel_rfl
theorem Trygo12 : goFn Try.prog 12 = true := by kernel_rfl
theorem Trygo13 : goFn Try.prog 13 = true := by kernel_rfl
theorem Trygo14 : goFn Try.prog 14 = true := by kernel_rfl
theorem Trygo15 : goFn Try.prog 15 = true := by kernel_rfl
theorem Trygo16 : goFn Try.prog 16 = true := by kernel_rfl
theorem Trygo17 : goFn Try.prog 17 = true := by kernel_rfl
theorem Trygo18 : goFn Try.prog 18 = true := by kernel_rfl
theorem Trygo19 : goFn Try.prog 19 = true := by kernel_rfl
theorem Trygo20 : goFn Try.prog 20 = true := by kernel_rfl
theorem Trygo21 : goFn Try.prog 21 = true := by kernel_rfl
theorem Trygo22 : goFn Try.prog 22 = true := by kernel_rfl
theorem Trygo23 : goFn Try.prog 23 = true := by kernel_rfl
theorem Trygo24 : goFn Try.prog 24 = true := by kernel_rfl
theorem Trygo25 : goFn Try.prog 25 = true := by kernel_rfl
theorem Trygo26 : goFn Try.prog 26 = true := by kernel_rfl
theorem Trygo27 : goFn Try.prog 27 = true := by kernel_rfl
theorem Trygo28 : goFn Try.prog 28 = true := by kernel_rfl
theorem Trygo29 : goFn Try.prog 29 = true := by kernel_rfl
theorem Trygo30 : goFn Try.prog 30 = true := by kernel_rfl
theorem Trygo31 : goFn Try.prog 31 = true := by kernel_rfl
theorem Trygo32 : goFn Try.prog 32 = true := by kernel_rfl
theorem Trygo33 : goFn Try.prog 33 = true := by kernel_rfl
theorem Trygo34 : goFn Try.prog 34 = true := by kernel_rfl
theorem Trygo35 : goFn Try.prog 35 = true := by kernel_rfl
theorem Trygo36 : goFn Try.prog 36 = true := by kernel_rfl
theorem Trygo37 : goFn Try.prog 37 = true := by kernel_rfl
theorem Trygo38 : goFn Try.prog 38 = true := by kernel_rfl
theorem Trygo39 : goFn Try.prog 39 = true := by kernel_rfl
theorem Trygo40 : goFn Try.prog 40 = true := by kernel_rfl
theorem Trygo41 : goFn Try.prog 41 = true := by kernel_rfl
theorem Trygo42 : goFn Try.prog 42 = true := by kernel_rfl
theorem Trygo43 : goFn Try.prog 43 = true := by kernel_rfl
theorem Trygo44 : goFn Try.prog 44 = true := by kernel_rfl
theorem Trygo45 : goFn Try.prog 45 = true := by kernel_rfl
theorem Trygo46 : goFn Try.prog 46 = true := by kernel_rfl
theorem Trygo47 : goFn Try.prog 47 = true := by kernel_rfl
theorem Trygo48 : goFn Try.prog 48 = true := by kernel_rfl
theorem Trygo49 : goFn Try.prog 49 = true := by kernel_rfl
theorem Trygo50 : goFn Try.prog 50 = true := by kernel_rfl
theorem Trygo51 : goFn Try.prog 51 = true := by kernel_rfl
theorem Trygo52 : goFn Try.prog 52 = true := by kernel_rfl
theorem Trygo53 : goFn Try.prog 53 = true := by kernel_rfl
theorem Trygo54 : goFn Try.prog 54 = true := by kernel_rfl
theorem Trygo55 : goFn Try.prog 55 = true := by kernel_rfl
theorem Trygo56 : goFn Try.prog 56 = true := by kernel_rfl
theorem Trygo57 : goFn Try.prog 57 = true := by kernel_rfl
theorem Trygo58 : goFn Try.prog 58 = true := by kernel_rfl
theorem Trygo59 : goFn Try.prog 59 = true := by kernel_rfl
theorem Trygo60 : goFn Try.prog 60 = true := by kernel_rfl
theorem Trygo61 : goFn Try.prog 61 = true := by kernel_rfl
theorem Trygo62 : goFn Try.prog 62 = true := by kernel_rfl
theorem Trygo63 : goFn Try.prog 63 = true := by kernel_rfl
theorem Trygo64 : goFn Try.prog 64 = true := by kernel_rfl
theorem Trygo65 : goFn Try.prog 65 = true := by kernel_rfl
theorem Trygo66 : goFn Try.prog 66 = true := by kernel_rfl
theorem Trygo67 : goFn Try.prog 67 = true := by kernel_rfl
theorem Trygo68 : goFn Try.prog 68 = true := by kernel_rfl
theorem Trygo69 : goFn Try.prog 69 = true := by kernel_rfl
theorem Trygo70 : goFn Try.prog 70 = true := by kernel_rfl
theorem Trygo71 : goFn Try.prog 71 = true := by kernel_rfl
theorem Trygo72 : goFn Try.prog 72 = true := by kernel_rfl
theorem Trygo73 : goFn Try.prog 73 = true := by kernel_rfl
theorem Trygo74 : goFn Try.prog 74 = true := by kernel_rfl
theorem Trygo75 : goFn Try.prog 75 = true := by kernel_rfl
theorem Trygo76 : goFn Try.prog 76 = true := by kernel_rfl
theorem Trygo77 : goFn Try.prog 77 = true := by kernel_rfl
theorem Trygo78 : goFn Try.prog 78 = true := by kernel_rfl
theorem Trygo79 : goFn Try.prog 79 = true := by kernel_rfl
theorem Trygo80 : goFn Try.prog 80 = true := by kernel_rfl
theorem Trygo81 : goFn Try.prog 81 = true := by kernel_rfl
theorem Trygo82 : goFn Try.prog 82 = true := by kernel_rfl
theorem Trygo83 : goFn Try.prog 83 = true := by kernel_rfl
theorem Trygo84 : goFn Try.prog 84 = true := by kernel_rfl
theorem Trygo85 : goFn Try.prog 85 = true := by kernel_rfl
theorem Trygo86 : goFn Try.prog 86 = true := by kernel_rfl
theorem Trygo87 : goFn Try.prog 87 = true := by kernel_rfl
theorem Trygo88 : goFn Try.prog 88 = true := by kernel_rfl
theorem Trygo89 : goFn Try.prog 89 = true := by kernel_rfl
theorem Trygo90 : goFn Try.prog 90 = true := by kernel_rfl
theorem Trygo91 : goFn Try.prog 91 = true := by kernel_rfl
theorem Trygo92 : goFn Try.prog 92 = true := by kernel_rfl
theorem Trygo93 : goFn Try.prog 93 = true := by kernel_rfl
theorem Trygo94 : goFn Try.prog 94 = true := by kernel_rfl
theorem Trygo95 : goFn Try.prog 95 = true := by kernel_rfl
theorem Trygo96 : goFn Try.prog 96 = true := by kernel_rfl
theorem Trygo97 : goFn Try.prog 97 = true := by kernel_rfl
theorem Trygo98 : goFn Try.prog 98 = true := by kernel_rfl
theorem Trygo99 : goFn Try.prog 99 = true := by kernel_rfl
theorem Trygo100 : goFn Try.prog 100 = true := by kernel_rfl
theorem Trygo101 : goFn Try.prog 101 = true := by kernel_rfl
theorem Trygo102 : goFn Try.prog 102 = true := by kernel_rfl
theorem Trygo103 : goFn Try.prog 103 = true := by kernel_rfl
theorem Trygo104 : goFn Try.prog 104 = true := by kernel_rfl
theorem Trygo105 : goFn Try.prog 105 = true := by kernel_rfl
theorem Trygo106 : goFn Try.prog 106 = true := by kernel_rfl
theorem Trygo107 : goFn Try.prog 107 = true := by kernel_rfl
theorem Trygo108 : goFn Try.prog 108 = true := by kernel_rfl
theorem Trygo109 : goFn Try.prog 109 = true := by kernel_rfl
theorem Trygo110 : goFn Try.prog 110 = true := by kernel_rfl
theorem Trygo111 : goFn Try.prog 111 = true := by kernel_rfl
theorem Trygo112 : goFn Try.prog 112 = true := by kernel_rfl
theorem Trygo113 : goFn Try.prog 113 = true := by kernel_rfl
theorem Trygo114 : goFn Try.prog 114 = true := by kernel_rfl
theorem Trygo115 : goFn Try.prog 115 = true := by kernel_rfl
theorem Trygo116 : goFn Try.prog 116 = true := by kernel_rfl
theorem Trygo117 : goFn Try.prog 117 = true := by kernel_rfl
theorem Trygo118 : goFn Try.prog 118 = true := by kernel_rfl
theorem Trygo119 : goFn Try.prog 119 = true := by kernel_rfl
theorem Trygo120 : goFn Try.prog 120 = true := by kernel_rfl
theorem Trygo121 : goFn Try.prog 121 = true := by kernel_rfl
theorem Trygo122 : goFn Try.prog 122 = true := by kernel_rfl
theorem Trygo123 : goFn Try.prog 123 = true := by kernel_rfl
theorem Trygo124 : goFn Try.prog 124 = true := by kernel_rfl
theorem Trygo125 : goFn Try.prog 125 = true := by kernel_rfl
theorem Trygo126 : goFn Try.prog 126 = true := by kernel_rfl
theorem Trygo127 : goFn Try.prog 127 = true := by kernel_rfl
theorem Trygo128 : goFn Try.prog 128 = true := by kernel_rfl
theorem Trygo129 : goFn Try.prog 129 = true := by kernel_rfl
theorem Trygo130 : goFn Try.prog 130 = true := by kernel_rfl
theorem Trygo131 : goFn Try.prog 131 = true := by kernel_rfl
theorem Trygo132 : goFn Try.prog 132 = true := by kernel_rfl
theorem Trygo133 : goFn Try.prog 133 = true := by kernel_rfl
theorem Trygo134 : goFn Try.prog 134 = true := by kernel_rfl
theorem Trygo135 : goFn Try.prog 135 = true := by kernel_rfl
theorem Trygo136 : goFn Try.prog 136 = true := by kernel_rfl
theorem Trygo137 : goFn Try.prog 137 = true := by kernel_rfl
theorem Trygo138 : goFn Try.prog 138 = true := by kernel_rfl
theorem Trygo139 : goFn Try.prog 139 = true := by kernel_rfl
theorem Trygo140 : goFn Try.prog 140 = true := by kernel_rfl
theorem Trygo141 : goFn Try.prog 141 = true := by kernel_rfl
theorem Trygo142 : goFn Try.prog 142 = true := by kernel_rfl
theorem Trygo143 : goFn Try.prog 143 = true := by kernel_rfl
theorem Trygo144 : goFn Try.prog 144 = true := by kernel_rfl
theorem Trygo145 : goFn Try.prog 145 = true := by kernel_rfl
theorem Trygo146 : goFn Try.prog 146 = true := by kernel_rfl
theorem Trygo147 : goFn Try.prog 147 = true := by kernel_rfl
theorem Trygo148 : goFn Try.prog 148 = true := by kernel_rfl
theorem Trygo149 : goFn Try.prog 149 = true := by kernel_rfl
theorem Trygo150 : goFn Try.prog 150 = true := by kernel_rfl
theorem Trygo151 : goFn Try.prog 151 = true := by kernel_rfl
theorem Trygo152 : goFn Try.prog 152 = true := by kernel_rfl
theorem Trygo153 : goFn Try.prog 153 = true := by kernel_rfl
theorem Trygo154 : goFn Try.prog 154 = true := by kernel_rfl
theorem Trygo155 : goFn Try.prog 155 = true := by kernel_rfl
theorem Trygo156 : goFn Try.prog 156 = true := by kernel_rfl
theorem Trygo157 : goFn Try.prog 157 = true := by kernel_rfl
theorem Trygo158 : goFn Try.prog 158 = true := by kernel_rfl
theorem Trygo159 : goFn Try.prog 159 = true := by kernel_rfl
theorem Trygo160 : goFn Try.prog 160 = true := by kernel_rfl
theorem Trygo161 : goFn Try.prog 161 = true := by kernel_rfl
theorem Trygo162 : goFn Try.prog 162 = true := by kernel_rfl
theorem Trygo163 : goFn Try.prog 163 = true := by kernel_rfl
theorem Trygo164 : goFn Try.prog 164 = true := by kernel_rfl
theorem Trygo165 : goFn Try.prog 165 = true := by kernel_rfl
theorem Trygo166 : goFn Try.prog 166 = true := by kernel_rfl
theorem Trygo167 : goFn Try.prog 167 = true := by kernel_rfl
theorem Trygo168 : goFn Try.prog 168 = true := by kernel_rfl
theorem Trygo171 : goFn Try.prog 171 = true := by kernel_rfl
theorem Trygo172 : goFn Try.prog 172 = true := by kernel_rfl
end Go.Abs
set_option linter.unusedVariables false
set_option linter.unusedSimpArgs false
set_option maxRecDepth 4000
namespace Go.Abs
open Go.Proofs

theorem bel_Ty (n : Nat) (us : List Ty) : Bel n (.slice (us.map Ty.enc) .none) := bel_slice_ty n us
theorem bel_Int (n : Nat) (us : List Int) : Bel n (.slice (us.map vint) .none) := bel_ints0 n us

theorem index (xs : List Int) (n : Int) (hx : xs.length ≤ maxLen) : PC Try.prog 78 [.slice (xs.map vint) .none, vint n] (vint (idxI (fun x => decide (n = x)) xs)) := by
  refine pc_of (N := 19) Try.func78 rfl rfl (by simp) (by simp [bel_ints0, Bel.int]) (.int _ _) ?_
  -- region 0
  repeat (refine awp_seq ?_)
  refine e_eval (by simp only [asq, as0, as1, as2, awanted, aop, LS, SS, SX, HS, mkS_cons, mkS_nil, ↓reduceIte, eq_self', List.map_nil, beq_self_eq_true, Nat.reduceEqDiff, Nat.reduceAdd, Nat.reduceMul, Nat.reduceLT, Nat.reduceLeDiff, Nat.reducePow, Nat.reduceDiv, Nat.reduceMod, Nat.succ_ne_self, Nat.reduceBEq, Nat.reduceBNe, vint, TyS, TyF] <;> with_reducible rfl) (by decide) ?_
  -- region 1
  repeat (refine awp_seq ?_)
  refine e_eval (by simp only [asq, as0, as1, as2, awanted, aop, abuiltin, LS, SS, SX, HS, mkS_cons, mkS_nil, ↓reduceIte, eq_self', List.map_nil, beq_self_eq_true, Nat.reduceEqDiff, Nat.reduceAdd, Nat.reduceMul, Nat.reduceLT, Nat.reduceLeDiff, Nat.reducePow, Nat.reduceDiv, Nat.reduceMod, Nat.succ_ne_self, Nat.reduceBEq, Nat.reduceBNe, Tryti3, Trytz3, Trytp3, Trytk3, Tryti25, Tryte25, Trytz25, Trytp25, vint, TyS, TyF] <;> with_reducible rfl) (by decide) ?_
  repeat (refine awp_seq ?_)
  refine awp_forS (σ := Unit) (xs.length) (fun (s : Unit) => [(0, .slice (xs.map vint) .none), (1, vint n)]) [0, 1] ([]) (fun (s : Unit) => []) (fun (i : Nat) (s : Unit) => (xs.take i).any (fun x => decide (n = x)) = false) (()) ([]) rfl rfl rfl rfl rfl rfl rfl rfl rfl (by decide) (by decide) (by decide) (fun _ => rfl) (hx) ⟨(by first | rfl | (simp only [LS, SS, SX, HS, mkS_cons, mkS_nil, ↓reduceIte, eq_self', List.map_nil, beq_self_eq_true, Nat.reduceEqDiff, Nat.reduceAdd, Nat.succ_ne_self, vint, TyS, TyF] <;> first | done | with_reducible rfl)), (by first | rfl | (simp only [LS, SS, SX, HS, mkS_cons, mkS_nil, ↓reduceIte, eq_self', List.map_nil, beq_self_eq_true, Nat.reduceEqDiff, Nat.reduceAdd, Nat.succ_ne_self, vint, TyS, TyF] <;> first | done | with_reducible rfl)), (by first | rfl | (simp only [LS, SS, SX, HS, mkS_cons, mkS_nil, ↓reduceIte, eq_self', List.map_nil, beq_self_eq_true, Nat.reduceEqDiff, Nat.reduceAdd, Nat.succ_ne_self, vint, TyS, TyF] <;> first | done | with_reducible rfl)), (by first | rfl | (simp only [LS, SS, SX, HS, mkS_cons, mkS_nil, ↓reduceIte, eq_self', List.map_nil, beq_self_eq_true, Nat.reduceEqDiff, Nat.reduceAdd, Nat.succ_ne_self, vint, TyS, TyF] <;> first | done | with_reducible rfl)), trivial⟩ (by first | rfl | (simp only [LS, SS, SX, HS, mkS_cons, mkS_nil, ↓reduceIte, eq_self', List.map_nil, beq_self_eq_true, Nat.reduceEqDiff, Nat.reduceAdd, Nat.succ_ne_self, vint, TyS, TyF] <;> first | done | with_reducible rfl)) (by simp) (fun _ _ _ => by first | exact Nat.zero_le _ | (simp only [List.length_append]; omega)) ?_ ?_ ?_
  · exact fun i s hg => ⟨by first | exact hbel_nil _ | (simp only [List.append_nil]; assumption) | (refine hbel_app' hb' (by simp) ?_; repeat (first | exact hbel_nil _ | exact trivial | exact obel_row_nil _ | (refine HBel.cons ?_ ?_) | (refine obel_row_cons (by first | exact bel_ints0 _ _ | exact bel_slice_ty _ _ | exact Ty.bel _ _ | exact bel_ty_tok _ (by simp) | exact Bel.int _ _ | exact Bel.bool _ | exact Bel.str _ | exact Bel.nilp | exact Bel.nilfn | exact Bel.optr _ _ (by simp) | exact bel_nil0 _ | exact bel_nil1 _ | exact bel_fn0 _ _ | assumption) ?_))), by repeat (first | exact BelL.nil | refine BelL.cons (by first | exact bel_ints0 _ _ | exact bel_slice_ty _ _ | exact Ty.bel _ _ | exact bel_ty_tok _ (by simp) | exact Bel.int _ _ | exact Bel.bool _ | exact Bel.str _ | exact Bel.nilp | exact Bel.nilfn | exact Bel.optr _ _ (by simp) | exact bel_nil0 _ | exact bel_nil1 _ | exact bel_fn0 _ _ | assumption) ?_)⟩
  · intro i s hi hg
    have g1 := ix_nat hi
    have g2 := get_enc vint hi
    -- region 3
    repeat (refine awp_seq ?_)
    refine e_eval (by simp only [asq, as0, as1, as2, awanted, aop, LS, SS, SX, HS, mkS_cons, mkS_nil, ↓reduceIte, eq_self', List.map_nil, beq_self_eq_true, Nat.reduceEqDiff, Nat.reduceAdd, Nat.reduceMul, Nat.reduceLT, Nat.reduceLeDiff, Nat.reducePow, Nat.reduceDiv, Nat.reduceMod, Nat.succ_ne_self, Nat.reduceBEq, Nat.reduceBNe, vint, TyS, TyF, g1, Int.toNat_natCast, g2] <;> with_reducible rfl) (by decide) ?_
    -- region 4
    repeat (refine awp_seq ?_)
    refine e_eval (by simp only [asq, as0, as1, as2, awanted, aop, aidxAddr, aidx, ajust, aload, abin, LS, SS, SX, HS, mkS_cons, mkS_nil, ↓reduceIte, eq_self', List.map_nil, beq_self_eq_true, Nat.reduceEqDiff, Nat.reduceAdd, Nat.reduceMul, Nat.reduceLT, Nat.reduceLeDiff, Nat.reducePow, Nat.reduceDiv, Nat.reduceMod, Nat.succ_ne_self, Nat.reduceBEq, Nat.reduceBNe, Tryti3, Trytz3, Trytp3, Trytk3, Tryti25, Tryte25, Trytz25, Trytp25, vint, TyS, TyF, g1, Int.toNat_natCast, g2] <;> with_reducible rfl) (by decide) ?_
    repeat (refine awp_seq ?_)
    refine awp_cond rfl (by simp only [LS, SS, SX, HS, mkS_cons, mkS_nil, ↓reduceIte, eq_self', List.map_nil, beq_self_eq_true, Nat.reduceEqDiff, Nat.reduceAdd, Nat.succ_ne_self, vint, TyS, TyF, g1, Int.toNat_natCast, g2] <;> with_reducible rfl) (fun b0 => ?_) (fun b0 => ?_)
    · -- if t16
      -- region 5
      repeat (refine awp_seq ?_)
      refine e_eval (by simp only [asq, as0, as1, as2, awanted, aop, LS, SS, SX, HS, mkS_cons, mkS_nil, ↓reduceIte, eq_self', List.map_nil, beq_self_eq_true, Nat.reduceEqDiff, Nat.reduceAdd, Nat.reduceMul, Nat.reduceLT, Nat.reduceLeDiff, Nat.reducePow, Nat.reduceDiv, Nat.reduceMod, Nat.succ_ne_self, Nat.reduceBEq, Nat.reduceBNe, vint, TyS, TyF, g1, Int.toNat_natCast, g2] <;> with_reducible rfl) (by decide) ?_
      repeat (refine awp_seq ?_)
      -- leaf 0 ret
      refine awp_ret ⟨.inr rfl, _, rfl, ?_⟩
      rw [idxI_at hi b0 hg]; rfl
    · -- else t16
      repeat (refine awp_seq ?_)
      refine awp_skip ?_
      -- leaf 1 next0
      exact ⟨⟨rfl, rfl, trivial⟩, (), [], ⟨rfl, rfl, trivial⟩, rfl, any_take_succ hi hg b0⟩
  · intro s hg
    rw [List.take_length] at hg
    -- region 7
    repeat (refine awp_seq ?_)
    refine e_eval (by simp only [asq, as0, as1, as2, awanted, aop, LS, SS, SX, HS, mkS_cons, mkS_nil, ↓reduceIte, eq_self', List.map_nil, beq_self_eq_true, Nat.reduceEqDiff, Nat.reduceAdd, Nat.reduceMul, Nat.reduceLT, Nat.reduceLeDiff, Nat.reducePow, Nat.reduceDiv, Nat.reduceMod, Nat.succ_ne_self, Nat.reduceBEq, Nat.reduceBNe, vint, TyS, TyF] <;> with_reducible rfl) (by decide) ?_
    repeat (refine awp_seq ?_)
    -- leaf 2 ret
    refine awp_ret ⟨.inr rfl, _, rfl, ?_⟩
    rw [idxI_none hg]; rfl

theorem indexFuncTy {f : FuncId} {caps : List PV} {H : Heap} {us : List Ty} {p : Ty → Bool} (hc : CloB Try.prog Ty.enc f caps H us p) (hl : us.length ≤ maxLen) : ACalls Try.prog 123 [.slice (us.map Ty.enc) .none, .fn (.func f) [] caps] H fun r' H' => r' = vint (idxI p us) ∧ H' = H := by
  have hgo := hc.go
  refine keeps_of (N := 19) Try.func123 rfl rfl (by simp) (.int _ _) fun hb' => ?_
  -- region 0
  repeat (refine awp_seq ?_)
  refine e_eval (by simp only [asq, as0, as1, as2, awanted, aop, LS, SS, SX, HS, mkS_cons, mkS_nil, ↓reduceIte, eq_self', List.map_nil, beq_self_eq_true, Nat.reduceEqDiff, Nat.reduceAdd, Nat.reduceMul, Nat.reduceLT, Nat.reduceLeDiff, Nat.reducePow, Nat.reduceDiv, Nat.reduceMod, Nat.succ_ne_self, Nat.reduceBEq, Nat.reduceBNe, vint, TyS, TyF] <;> with_reducible rfl) (by decide) ?_
  -- region 1
  repeat (refine awp_seq ?_)
  refine e_eval (by simp only [asq, as0, as1, as2, awanted, aop, abuiltin, LS, SS, SX, HS, mkS_cons, mkS_nil, ↓reduceIte, eq_self', List.map_nil, beq_self_eq_true, Nat.reduceEqDiff, Nat.reduceAdd, Nat.reduceMul, Nat.reduceLT, Nat.reduceLeDiff, Nat.reducePow, Nat.reduceDiv, Nat.reduceMod, Nat.succ_ne_self, Nat.reduceBEq, Nat.reduceBNe, Tryti22, Tryte22, Trytz22, Trytp22, Tryti24, Trytf24, Trytz24, Trytp24, vint, TyS, TyF] <;> with_reducible rfl) (by decide) ?_
  repeat (refine awp_seq ?_)
  refine awp_forS (σ := Unit) (us.length) (fun (s : Unit) => [(0, .slice (us.map Ty.enc) .none), (1, .fn (.func f) [] caps)]) [0, 1] (H) (fun (s : Unit) => []) (fun (i : Nat) (s : Unit) => (us.take i).any p = false) (()) ([]) rfl rfl rfl rfl rfl rfl rfl rfl rfl (by decide) (by decide) (by decide) (fun _ => rfl) (hl) ⟨(by first | rfl | (simp only [LS, SS, SX, HS, mkS_cons, mkS_nil, ↓reduceIte, eq_self', List.map_nil, beq_self_eq_true, Nat.reduceEqDiff, Nat.reduceAdd, Nat.succ_ne_self, vint, TyS, TyF] <;> first | done | with_reducible rfl)), (by first | rfl | (simp only [LS, SS, SX, HS, mkS_cons, mkS_nil, ↓reduceIte, eq_self', List.map_nil, beq_self_eq_true, Nat.reduceEqDiff, Nat.reduceAdd, Nat.succ_ne_self, vint, TyS, TyF] <;> first | done | with_reducible rfl)), (by first | rfl | (simp only [LS, SS, SX, HS, mkS_cons, mkS_nil, ↓reduceIte, eq_self', List.map_nil, beq_self_eq_true, Nat.reduceEqDiff, Nat.reduceAdd, Nat.succ_ne_self, vint, TyS, TyF] <;> first | done | with_reducible rfl)), (by first | rfl | (simp only [LS, SS, SX, HS, mkS_cons, mkS_nil, ↓reduceIte, eq_self', List.map_nil, beq_self_eq_true, Nat.reduceEqDiff, Nat.reduceAdd, Nat.succ_ne_self, vint, TyS, TyF] <;> first | done | with_reducible rfl)), trivial⟩ (by first | rfl | (simp only [LS, SS, SX, HS, mkS_cons, mkS_nil, ↓reduceIte, eq_self', List.map_nil, beq_self_eq_true, Nat.reduceEqDiff, Nat.reduceAdd, Nat.succ_ne_self, vint, TyS, TyF] <;> first | done | with_reducible rfl)) (by simp) (fun _ _ _ => by first | exact Nat.zero_le _ | (simp only [List.length_append]; omega)) ?_ ?_ ?_
  · exact fun i s hg => ⟨by simp only [List.append_nil]; exact hb', .cons (bel_Ty _ _) (.cons (.fn _ _ _ (by simp) (fun c hc' => (hc.bel c hc').mono (by simp))) .nil)⟩
  · intro i s hi hg
    have g1 := ix_nat hi
    have g2 := get_enc Ty.enc hi
    -- region 3
    repeat (refine awp_seq ?_)
    refine e_eval (by simp only [asq, as0, as1, as2, awanted, aop, LS, SS, SX, HS, mkS_cons, mkS_nil, ↓reduceIte, eq_self', List.map_nil, beq_self_eq_true, Nat.reduceEqDiff, Nat.reduceAdd, Nat.reduceMul, Nat.reduceLT, Nat.reduceLeDiff, Nat.reducePow, Nat.reduceDiv, Nat.reduceMod, Nat.succ_ne_self, Nat.reduceBEq, Nat.reduceBNe, vint, TyS, TyF, g1, Int.toNat_natCast, g2] <;> with_reducible rfl) (by decide) ?_
    -- region 4
    repeat (refine awp_seq ?_)
    refine awp_region ?_
    refine e_take 5 (by simp only [asq, as0, as1, as2, awanted, aop, aidxAddr, aidx, ajust, aload, LS, SS, SX, HS, mkS_cons, mkS_nil, ↓reduceIte, eq_self', List.map_nil, beq_self_eq_true, Nat.reduceEqDiff, Nat.reduceAdd, Nat.reduceMul, Nat.reduceLT, Nat.reduceLeDiff, Nat.reducePow, Nat.reduceDiv, Nat.reduceMod, Nat.succ_ne_self, Nat.reduceBEq, Nat.reduceBNe, Tryti22, Tryte22, Trytz22, Trytp22, Tryti24, Trytf24, Trytz24, Trytp24, vint, TyS, TyF, g1, Int.toNat_natCast, g2] <;> with_reducible rfl) (by decide) ?_
    refine aops_pure (by simp only [acall, awanted, LS, SS, SX, HS, mkS_cons, mkS_nil, ↓reduceIte, eq_self', List.map_nil, beq_self_eq_true, Nat.reduceEqDiff, Nat.reduceAdd, Nat.reduceMul, Nat.reduceLT, Nat.reduceLeDiff, Nat.reducePow, Nat.reduceDiv, Nat.reduceMod, Nat.succ_ne_self, Nat.reduceBEq, Nat.reduceBNe, vint, TyS, TyF, g1, Int.toNat_natCast, g2] <;> with_reducible rfl) (by simp only [acall, awanted, LS, SS, SX, HS, mkS_cons, mkS_nil, ↓reduceIte, eq_self', List.map_nil, beq_self_eq_true, Nat.reduceEqDiff, Nat.reduceAdd, Nat.reduceMul, Nat.reduceLT, Nat.reduceLeDiff, Nat.reducePow, Nat.reduceDiv, Nat.reduceMod, Nat.succ_ne_self, Nat.reduceBEq, Nat.reduceBNe, vint, TyS, TyF, g1, Int.toNat_natCast, g2]) (by decide) (by assumption) (hc.call _ (List.getElem_mem hi)) ?_
    refine aops_nil ?_
    repeat (refine awp_seq ?_)
    refine awp_cond rfl (by simp only [LS, SS, SX, HS, mkS_cons, mkS_nil, ↓reduceIte, eq_self', List.map_nil, beq_self_eq_true, Nat.reduceEqDiff, Nat.reduceAdd, Nat.succ_ne_self, vint, TyS, TyF, g1, Int.toNat_natCast, g2] <;> with_reducible rfl) (fun b0 => ?_) (fun b0 => ?_)
    · -- if t16
      -- region 5
      repeat (refine awp_seq ?_)
      refine e_eval (by simp only [asq, as0, as1, as2, awanted, aop, LS, SS, SX, HS, mkS_cons, mkS_nil, ↓reduceIte, eq_self', List.map_nil, beq_self_eq_true, Nat.reduceEqDiff, Nat.reduceAdd, Nat.reduceMul, Nat.reduceLT, Nat.reduceLeDiff, Nat.reducePow, Nat.reduceDiv, Nat.reduceMod, Nat.succ_ne_self, Nat.reduceBEq, Nat.reduceBNe, vint, TyS, TyF, g1, Int.toNat_natCast, g2] <;> with_reducible rfl) (by decide) ?_
      repeat (refine awp_seq ?_)
      -- leaf 0 ret
      refine awp_ret ⟨.inr rfl, _, _, rfl, ?_, (by first | exact (List.append_nil _).symm | rfl)⟩
      rw [idxI_at hi b0 hg]; rfl
    · -- else t16
      repeat (refine awp_seq ?_)
      refine awp_skip ?_
      -- leaf 1 next0
      exact ⟨⟨rfl, rfl, trivial⟩, (), [], ⟨rfl, rfl, trivial⟩, by simp only [List.append_nil], any_take_succ hi hg b0⟩
  · intro s hg
    rw [List.take_length] at hg
    -- region 7
    repeat (refine awp_seq ?_)
    refine e_eval (by simp only [asq, as0, as1, as2, awanted, aop, LS, SS, SX, HS, mkS_cons, mkS_nil, ↓reduceIte, eq_self', List.map_nil, beq_self_eq_true, Nat.reduceEqDiff, Nat.reduceAdd, Nat.reduceMul, Nat.reduceLT, Nat.reduceLeDiff, Nat.reducePow, Nat.reduceDiv, Nat.reduceMod, Nat.succ_ne_self, Nat.reduceBEq, Nat.reduceBNe, vint, TyS, TyF] <;> with_reducible rfl) (by decide) ?_
    repeat (refine awp_seq ?_)
    -- leaf 2 ret
    refine awp_ret ⟨.inr rfl, _, _, rfl, ?_, (by first | exact (List.append_nil _).symm | rfl)⟩
    rw [idxI_none hg]; rfl

theorem containsFuncTy {f : FuncId} {caps : List PV} {H : Heap} {us : List Ty} {p : Ty → Bool} (hc : CloB Try.prog Ty.enc f caps H us p) (hl : us.length ≤ maxLen) : ACalls Try.prog 81 [.slice (us.map Ty.enc) .none, .fn (.func f) [] caps] H fun r' H' => r' = .bool (us.any p) ∧ H' = H := by
  refine keeps_of (N := 9) Try.func81 rfl rfl (by simp) (.bool _) fun hb' => ?_
  -- region 0
  repeat (refine awp_seq ?_)
  refine e_eval (by simp only [asq, as0, as1, as2, awanted, aop, LS, SS, SX, HS, mkS_cons, mkS_nil, ↓reduceIte, eq_self', List.map_nil, beq_self_eq_true, Nat.reduceEqDiff, Nat.reduceAdd, Nat.reduceMul, Nat.reduceLT, Nat.reduceLeDiff, Nat.reducePow, Nat.reduceDiv, Nat.reduceMod, Nat.succ_ne_self, Nat.reduceBEq, Nat.reduceBNe, vint, TyS, TyF] <;> with_reducible rfl) (by decide) ?_
  -- region 1
  repeat (refine awp_seq ?_)
  refine awp_region ?_
  refine e_take 2 (by simp only [asq, as0, as1, as2, awanted, aop, LS, SS, SX, HS, mkS_cons, mkS_nil, ↓reduceIte, eq_self', List.map_nil, beq_self_eq_true, Nat.reduceEqDiff, Nat.reduceAdd, Nat.reduceMul, Nat.reduceLT, Nat.reduceLeDiff, Nat.reducePow, Nat.reduceDiv, Nat.reduceMod, Nat.succ_ne_self, Nat.reduceBEq, Nat.reduceBNe, vint, TyS, TyF] <;> with_reducible rfl) (by decide) ?_
  refine aops_pure (by simp only [acall, awanted, LS, SS, SX, HS, mkS_cons, mkS_nil, ↓reduceIte, eq_self', List.map_nil, beq_self_eq_true, Nat.reduceEqDiff, Nat.reduceAdd, Nat.reduceMul, Nat.reduceLT, Nat.reduceLeDiff, Nat.reducePow, Nat.reduceDiv, Nat.reduceMod, Nat.succ_ne_self, Nat.reduceBEq, Nat.reduceBNe, vint, TyS, TyF] <;> with_reducible rfl) (by simp only [acall, awanted, LS, SS, SX, HS, mkS_cons, mkS_nil, ↓reduceIte, eq_self', List.map_nil, beq_self_eq_true, Nat.reduceEqDiff, Nat.reduceAdd, Nat.reduceMul, Nat.reduceLT, Nat.reduceLeDiff, Nat.reducePow, Nat.reduceDiv, Nat.reduceMod, Nat.succ_ne_self, Nat.reduceBEq, Nat.reduceBNe, vint, TyS, TyF]) (by decide) Trygo123 (indexFuncTy hc hl) ?_
  refine e_end (by simp only [asq, as0, as1, as2, awanted, aop, abin, ajust, LS, SS, SX, HS, mkS_cons, mkS_nil, ↓reduceIte, eq_self', List.map_nil, beq_self_eq_true, Nat.reduceEqDiff, Nat.reduceAdd, Nat.reduceMul, Nat.reduceLT, Nat.reduceLeDiff, Nat.reducePow, Nat.reduceDiv, Nat.reduceMod, Nat.succ_ne_self, Nat.reduceBEq, Nat.reduceBNe, Tryti3, Trytz3, Trytp3, Trytk3, vint, TyS, TyF] <;> with_reducible rfl) (by decide) ?_
  repeat (refine awp_seq ?_)
  -- leaf 0 ret
  refine awp_ret ⟨.inr rfl, _, _, rfl, ?_, (by first | exact (List.append_nil _).symm | rfl)⟩
  rw [← idxI_nonneg]; rfl

theorem indexFuncInt {f : FuncId} {caps : List PV} {H : Heap} {us : List Int} {p : Int → Bool} (hc : CloB Try.prog vint f caps H us p) (hl : us.length ≤ maxLen) : ACalls Try.prog 80 [.slice (us.map vint) .none, .fn (.func f) [] caps] H fun r' H' => r' = vint (idxI p us) ∧ H' = H := by
  have hgo := hc.go
  refine keeps_of (N := 19) Try.func80 rfl rfl (by simp) (.int _ _) fun hb' => ?_
  -- region 0
  repeat (refine awp_seq ?_)
  refine e_eval (by simp only [asq, as0, as1, as2, awanted, aop, LS, SS, SX, HS, mkS_cons, mkS_nil, ↓reduceIte, eq_self', List.map_nil, beq_self_eq_true, Nat.reduceEqDiff, Nat.reduceAdd, Nat.reduceMul, Nat.reduceLT, Nat.reduceLeDiff, Nat.reducePow, Nat.reduceDiv, Nat.reduceMod, Nat.succ_ne_self, Nat.reduceBEq, Nat.reduceBNe, vint, TyS, TyF] <;> with_reducible rfl) (by decide) ?_
  -- region 1
  repeat (refine awp_seq ?_)
  refine e_eval (by simp only [asq, as0, as1, as2, awanted, aop, abuiltin, LS, SS, SX, HS, mkS_cons, mkS_nil, ↓reduceIte, eq_self', List.map_nil, beq_self_eq_true, Nat.reduceEqDiff, Nat.reduceAdd, Nat.reduceMul, Nat.reduceLT, Nat.reduceLeDiff, Nat.reducePow, Nat.reduceDiv, Nat.reduceMod, Nat.succ_ne_self, Nat.reduceBEq, Nat.reduceBNe, Tryti3, Trytz3, Trytp3, Trytk3, Tryti25, Tryte25, Trytz25, Trytp25, vint, TyS, TyF] <;> with_reducible rfl) (by decide) ?_
  repeat (refine awp_seq ?_)
  refine awp_forS (σ := Unit) (us.length) (fun (s : Unit) => [(0, .slice (us.map vint) .none), (1, .fn (.func f) [] caps)]) [0, 1] (H) (fun (s : Unit) => []) (fun (i : Nat) (s : Unit) => (us.take i).any p = false) (()) ([]) rfl rfl rfl rfl rfl rfl rfl rfl rfl (by decide) (by decide) (by decide) (fun _ => rfl) (hl) ⟨(by first | rfl | (simp only [LS, SS, SX, HS, mkS_cons, mkS_nil, ↓reduceIte, eq_self', List.map_nil, beq_self_eq_true, Nat.reduceEqDiff, Nat.reduceAdd, Nat.succ_ne_self, vint, TyS, TyF] <;> first | done | with_reducible rfl)), (by first | rfl | (simp only [LS, SS, SX, HS, mkS_cons, mkS_nil, ↓reduceIte, eq_self', List.map_nil, beq_self_eq_true, Nat.reduceEqDiff, Nat.reduceAdd, Nat.succ_ne_self, vint, TyS, TyF] <;> first | done | with_reducible rfl)), (by first | rfl | (simp only [LS, SS, SX, HS, mkS_cons, mkS_nil, ↓reduceIte, eq_self', List.map_nil, beq_self_eq_true, Nat.reduceEqDiff, Nat.reduceAdd, Nat.succ_ne_self, vint, TyS, TyF] <;> first | done | with_reducible rfl)), (by first | rfl | (simp only [LS, SS, SX, HS, mkS_cons, mkS_nil, ↓reduceIte, eq_self', List.map_nil, beq_self_eq_true, Nat.reduceEqDiff, Nat.reduceAdd, Nat.succ_ne_self, vint, TyS, TyF] <;> first | done | with_reducible rfl)), trivial⟩ (by first | rfl | (simp only [LS, SS, SX, HS, mkS_cons, mkS_nil, ↓reduceIte, eq_self', List.map_nil, beq_self_eq_true, Nat.reduceEqDiff, Nat.reduceAdd, Nat.succ_ne_self, vint, TyS, TyF] <;> first | done | with_reducible rfl)) (by simp) (fun _ _ _ => by first | exact Nat.zero_le _ | (simp only [List.length_append]; omega)) ?_ ?_ ?_
  · exact fun i s hg => ⟨by simp only [List.append_nil]; exact hb', .cons (bel_Int _ _) (.cons (.fn _ _ _ (by simp) (fun c hc' => (hc.bel c hc').mono (by simp))) .nil)⟩
  · intro i s hi hg
    have g1 := ix_nat hi
    have g2 := get_enc vint hi
    -- region 3
    repeat (refine awp_seq ?_)
    refine e_eval (by simp only [asq, as0, as1, as2, awanted, aop, LS, SS, SX, HS, mkS_cons, mkS_nil, ↓reduceIte, eq_self', List.map_nil, beq_self_eq_true, Nat.reduceEqDiff, Nat.reduceAdd, Nat.reduceMul, Nat.reduceLT, Nat.reduceLeDiff, Nat.reducePow, Nat.reduceDiv, Nat.reduceMod, Nat.succ_ne_self, Nat.reduceBEq, Nat.reduceBNe, vint, TyS, TyF, g1, Int.toNat_natCast, g2] <;> with_reducible rfl) (by decide) ?_
    -- region 4
    repeat (refine awp_seq ?_)
    refine awp_region ?_
    refine e_take 5 (by simp only [asq, as0, as1, as2, awanted, aop, aidxAddr, aidx, ajust, aload, LS, SS, SX, HS, mkS_cons, mkS_nil, ↓reduceIte, eq_self', List.map_nil, beq_self_eq_true, Nat.reduceEqDiff, Nat.reduceAdd, Nat.reduceMul, Nat.reduceLT, Nat.reduceLeDiff, Nat.reducePow, Nat.reduceDiv, Nat.reduceMod, Nat.succ_ne_self, Nat.reduceBEq, Nat.reduceBNe, Tryti3, Trytz3, Trytp3, Trytk3, Tryti25, Tryte25, Trytz25, Trytp25, vint, TyS, TyF, g1, Int.toNat_natCast, g2] <;> with_reducible rfl) (by decide) ?_
    refine aops_pure (by simp only [acall, awanted, LS, SS, SX, HS, mkS_cons, mkS_nil, ↓reduceIte, eq_self', List.map_nil, beq_self_eq_true, Nat.reduceEqDiff, Nat.reduceAdd, Nat.reduceMul, Nat.reduceLT, Nat.reduceLeDiff, Nat.reducePow, Nat.reduceDiv, Nat.reduceMod, Nat.succ_ne_self, Nat.reduceBEq, Nat.reduceBNe, vint, TyS, TyF, g1, Int.toNat_natCast, g2] <;> with_reducible rfl) (by simp only [acall, awanted, LS, SS, SX, HS, mkS_cons, mkS_nil, ↓reduceIte, eq_self', List.map_nil, beq_self_eq_true, Nat.reduceEqDiff, Nat.reduceAdd, Nat.reduceMul, Nat.reduceLT, Nat.reduceLeDiff, Nat.reducePow, Nat.reduceDiv, Nat.reduceMod, Nat.succ_ne_self, Nat.reduceBEq, Nat.reduceBNe, vint, TyS, TyF, g1, Int.toNat_natCast, g2]) (by decide) (by assumption) (hc.call _ (List.getElem_mem hi)) ?_
    refine aops_nil ?_
    repeat (refine awp_seq ?_)
    refine awp_cond rfl (by simp only [LS, SS, SX, HS, mkS_cons, mkS_nil, ↓reduceIte, eq_self', List.map_nil, beq_self_eq_true, Nat.reduceEqDiff, Nat.reduceAdd, Nat.succ_ne_self, vint, TyS, TyF, g1, Int.toNat_natCast, g2] <;> with_reducible rfl) (fun b0 => ?_) (fun b0 => ?_)
    · -- if t16
      -- region 5
      repeat (refine awp_seq ?_)
      refine e_eval (by simp only [asq, as0, as1, as2, awanted, aop, LS, SS, SX, HS, mkS_cons, mkS_nil, ↓reduceIte, eq_self', List.map_nil, beq_self_eq_true, Nat.reduceEqDiff, Nat.reduceAdd, Nat.reduceMul, Nat.reduceLT, Nat.reduceLeDiff, Nat.reducePow, Nat.reduceDiv, Nat.reduceMod, Nat.succ_ne_self, Nat.reduceBEq, Nat.reduceBNe, vint, TyS, TyF, g1, Int.toNat_natCast, g2] <;> with_reducible rfl) (by decide) ?_
      repeat (refine awp_seq ?_)
      -- leaf 0 ret
      refine awp_ret ⟨.inr rfl, _, _, rfl, ?_, (by first | exact (List.append_nil _).symm | rfl)⟩
      rw [idxI_at hi b0 hg]; rfl
    · -- else t16
      repeat (refine awp_seq ?_)
      refine awp_skip ?_
      -- leaf 1 next0
      exact ⟨⟨rfl, rfl, trivial⟩, (), [], ⟨rfl, rfl, trivial⟩, by simp only [List.append_nil], any_take_succ hi hg b0⟩
  · intro s hg
    rw [List.take_length] at hg
    -- region 7
    repeat (refine awp_seq ?_)
    refine e_eval (by simp only [asq, as0, as1, as2, awanted, aop, LS, SS, SX, HS, mkS_cons, mkS_nil, ↓reduceIte, eq_self', List.map_nil, beq_self_eq_true, Nat.reduceEqDiff, Nat.reduceAdd, Nat.reduceMul, Nat.reduceLT, Nat.reduceLeDiff, Nat.reducePow, Nat.reduceDiv, Nat.reduceMod, Nat.succ_ne_self, Nat.reduceBEq, Nat.reduceBNe, vint, TyS, TyF] <;> with_reducible rfl) (by decide) ?_
    repeat (refine awp_seq ?_)
    -- leaf 2 ret
    refine awp_ret ⟨.inr rfl, _, _, rfl, ?_, (by first | exact (List.append_nil _).symm | rfl)⟩
    rw [idxI_none hg]; rfl

theorem containsFuncInt {f : FuncId} {caps : List PV} {H : Heap} {us : List Int} {p : Int → Bool} (hc : CloB Try.prog vint f caps H us p) (hl : us.length ≤ maxLen) : ACalls Try.prog 25 [.slice (us.map vint) .none, .fn (.func f) [] caps] H fun r' H' => r' = .bool (us.any p) ∧ H' = H := by
  refine keeps_of (N := 9) Try.func25 rfl rfl (by simp) (.bool _) fun hb' => ?_
  -- region 0
  repeat (refine awp_seq ?_)
  refine e_eval (by simp only [asq, as0, as1, as2, awanted, aop, LS, SS, SX, HS, mkS_cons, mkS_nil, ↓reduceIte, eq_self', List.map_nil, beq_self_eq_true, Nat.reduceEqDiff, Nat.reduceAdd, Nat.reduceMul, Nat.reduceLT, Nat.reduceLeDiff, Nat.reducePow, Nat.reduceDiv, Nat.reduceMod, Nat.succ_ne_self, Nat.reduceBEq, Nat.reduceBNe, vint, TyS, TyF] <;> with_reducible rfl) (by decide) ?_
  -- region 1
  repeat (refine awp_seq ?_)
  refine awp_region ?_
  refine e_take 2 (by simp only [asq, as0, as1, as2, awanted, aop, LS, SS, SX, HS, mkS_cons, mkS_nil, ↓reduceIte, eq_self', List.map_nil, beq_self_eq_true, Nat.reduceEqDiff, Nat.reduceAdd, Nat.reduceMul, Nat.reduceLT, Nat.reduceLeDiff, Nat.reducePow, Nat.reduceDiv, Nat.reduceMod, Nat.succ_ne_self, Nat.reduceBEq, Nat.reduceBNe, vint, TyS, TyF] <;> with_reducible rfl) (by decide) ?_
  refine aops_pure (by simp only [acall, awanted, LS, SS, SX, HS, mkS_cons, mkS_nil, ↓reduceIte, eq_self', List.map_nil, beq_self_eq_true, Nat.reduceEqDiff, Nat.reduceAdd, Nat.reduceMul, Nat.reduceLT, Nat.reduceLeDiff, Nat.reducePow, Nat.reduceDiv, Nat.reduceMod, Nat.succ_ne_self, Nat.reduceBEq, Nat.reduceBNe, vint, TyS, TyF] <;> with_reducible rfl) (by simp only [acall, awanted, LS, SS, SX, HS, mkS_cons, mkS_nil, ↓reduceIte, eq_self', List.map_nil, beq_self_eq_true, Nat.reduceEqDiff, Nat.reduceAdd, Nat.reduceMul, Nat.reduceLT, Nat.reduceLeDiff, Nat.reducePow, Nat.reduceDiv, Nat.reduceMod, Nat.succ_ne_self, Nat.reduceBEq, Nat.reduceBNe, vint, TyS, TyF]) (by decide) Trygo80 (indexFuncInt hc hl) ?_
  refine e_end (by simp only [asq, as0, as1, as2, awanted, aop, abin, ajust, LS, SS, SX, HS, mkS_cons, mkS_nil, ↓reduceIte, eq_self', List.map_nil, beq_self_eq_true, Nat.reduceEqDiff, Nat.reduceAdd, Nat.reduceMul, Nat.reduceLT, Nat.reduceLeDiff, Nat.reducePow, Nat.reduceDiv, Nat.reduceMod, Nat.succ_ne_self, Nat.reduceBEq, Nat.reduceBNe, Tryti3, Trytz3, Trytp3, Trytk3, vint, TyS, TyF] <;> with_reducible rfl) (by decide) ?_
  repeat (refine awp_seq ?_)
  -- leaf 0 ret
  refine awp_ret ⟨.inr rfl, _, _, rfl, ?_, (by first | exact (List.append_nil _).symm | rfl)⟩
  rw [← idxI_nonneg]; rfl

theorem equalFunc (us vs : List Ty) (g : Ty → Ty → Bool) (f : FuncId) (hgo : goFn Try.prog f = true) (ha : us.length ≤ maxLen) (hf : ∀ a ∈ us, ∀ b ∈ vs, PC Try.prog f [a.enc, b.enc] (.bool (g a b))) : PC Try.prog 75 [.slice (us.map Ty.enc) .none, .slice (vs.map Ty.enc) .none, .fn (.func f) [] []] (.bool (all2 g us vs)) := by
  refine pc_of (N := 32) Try.func75 rfl rfl (by simp) (by simp [bel_slice_ty, bel_fn0]) (.bool _) ?_
  -- region 0
  repeat (refine awp_seq ?_)
  refine e_eval (by simp only [asq, as0, as1, as2, awanted, aop, LS, SS, SX, HS, mkS_cons, mkS_nil, ↓reduceIte, eq_self', List.map_nil, beq_self_eq_true, Nat.reduceEqDiff, Nat.reduceAdd, Nat.reduceMul, Nat.reduceLT, Nat.reduceLeDiff, Nat.reducePow, Nat.reduceDiv, Nat.reduceMod, Nat.succ_ne_self, Nat.reduceBEq, Nat.reduceBNe, vint, TyS, TyF] <;> with_reducible rfl) (by decide) ?_
  -- region 1
  repeat (refine awp_seq ?_)
  refine e_eval (by simp only [asq, as0, as1, as2, awanted, aop, abuiltin, abin, ajust, LS, SS, SX, HS, mkS_cons, mkS_nil, ↓reduceIte, eq_self', List.map_nil, beq_self_eq_true, Nat.reduceEqDiff, Nat.reduceAdd, Nat.reduceMul, Nat.reduceLT, Nat.reduceLeDiff, Nat.reducePow, Nat.reduceDiv, Nat.reduceMod, Nat.succ_ne_self, Nat.reduceBEq, Nat.reduceBNe, Tryti3, Trytz3, Trytp3, Trytk3, Tryti22, Tryte22, Trytz22, Trytp22, Tryti24, Trytf24, Trytz24, Trytp24, vint, TyS, TyF] <;> with_reducible rfl) (by decide) ?_
  repeat (refine awp_seq ?_)
  refine awp_cond rfl (by simp only [LS, SS, SX, HS, mkS_cons, mkS_nil, ↓reduceIte, eq_self', List.map_nil, beq_self_eq_true, Nat.reduceEqDiff, Nat.reduceAdd, Nat.succ_ne_self, vint, TyS, TyF] <;> with_reducible rfl) (fun b0 => ?_) (fun b0 => ?_)
  · -- if t14
    -- region 2
    repeat (refine awp_seq ?_)
    refine e_eval (by simp only [asq, as0, as1, as2, awanted, aop, LS, SS, SX, HS, mkS_cons, mkS_nil, ↓reduceIte, eq_self', List.map_nil, beq_self_eq_true, Nat.reduceEqDiff, Nat.reduceAdd, Nat.reduceMul, Nat.reduceLT, Nat.reduceLeDiff, Nat.reducePow, Nat.reduceDiv, Nat.reduceMod, Nat.succ_ne_self, Nat.reduceBEq, Nat.reduceBNe, vint, TyS, TyF] <;> with_reducible rfl) (by decide) ?_
    repeat (refine awp_seq ?_)
    -- leaf 0 ret
    refine awp_ret ⟨.inr rfl, _, rfl, ?_⟩
    have : us.length ≠ vs.length := by simp at b0; omega
    simp [all2, this, upd_apply, PV.drop1]
  · -- else t14
    have hlen : us.length = vs.length := by simp at b0; omega
    repeat (refine awp_seq ?_)
    refine awp_skip ?_
    -- region 3
    repeat (refine awp_seq ?_)
    refine e_eval (by simp only [asq, as0, as1, as2, awanted, aop, abuiltin, LS, SS, SX, HS, mkS_cons, mkS_nil, ↓reduceIte, eq_self', List.map_nil, beq_self_eq_true, Nat.reduceEqDiff, Nat.reduceAdd, Nat.reduceMul, Nat.reduceLT, Nat.reduceLeDiff, Nat.reducePow, Nat.reduceDiv, Nat.reduceMod, Nat.succ_ne_self, Nat.reduceBEq, Nat.reduceBNe, Tryti22, Tryte22, Trytz22, Trytp22, Tryti24, Trytf24, Trytz24, Trytp24, vint, TyS, TyF] <;> with_reducible rfl) (by decide) ?_
    repeat (refine awp_seq ?_)
    refine awp_forS (σ := Unit) (us.length) (fun (s : Unit) => [(1, .slice (vs.map Ty.enc) .none), (2, .fn (.func f) [] []), (15, .slice (us.map Ty.enc) .none)]) [1, 2, 15] ([]) (fun (s : Unit) => []) (fun (i : Nat) (s : Unit) => ((us.zip vs).take i).all (fun p => g p.1 p.2) = true) (()) ([]) rfl rfl rfl rfl rfl rfl rfl rfl rfl (by decide) (by decide) (by decide) (fun _ => rfl) (ha) ⟨(by first | rfl | (simp only [LS, SS, SX, HS, mkS_cons, mkS_nil, ↓reduceIte, eq_self', List.map_nil, beq_self_eq_true, Nat.reduceEqDiff, Nat.reduceAdd, Nat.succ_ne_self, vint, TyS, TyF] <;> first | done | with_reducible rfl)), (by first | rfl | (simp only [LS, SS, SX, HS, mkS_cons, mkS_nil, ↓reduceIte, eq_self', List.map_nil, beq_self_eq_true, Nat.reduceEqDiff, Nat.reduceAdd, Nat.succ_ne_self, vint, TyS, TyF] <;> first | done | with_reducible rfl)), (by first | rfl | (simp only [LS, SS, SX, HS, mkS_cons, mkS_nil, ↓reduceIte, eq_self', List.map_nil, beq_self_eq_true, Nat.reduceEqDiff, Nat.reduceAdd, Nat.succ_ne_self, vint, TyS, TyF] <;> first | done | with_reducible rfl)), (by first | rfl | (simp only [LS, SS, SX, HS, mkS_cons, mkS_nil, ↓reduceIte, eq_self', List.map_nil, beq_self_eq_true, Nat.reduceEqDiff, Nat.reduceAdd, Nat.succ_ne_self, vint, TyS, TyF] <;> first | done | with_reducible rfl)), (by first | rfl | (simp only [LS, SS, SX, HS, mkS_cons, mkS_nil, ↓reduceIte, eq_self', List.map_nil, beq_self_eq_true, Nat.reduceEqDiff, Nat.reduceAdd, Nat.succ_ne_self, vint, TyS, TyF] <;> first | done | with_reducible rfl)), trivial⟩ (by first | rfl | (simp only [LS, SS, SX, HS, mkS_cons, mkS_nil, ↓reduceIte, eq_self', List.map_nil, beq_self_eq_true, Nat.reduceEqDiff, Nat.reduceAdd, Nat.succ_ne_self, vint, TyS, TyF] <;> first | done | with_reducible rfl)) (by simp) (fun _ _ _ => by first | exact Nat.zero_le _ | (simp only [List.length_append]; omega)) ?_ ?_ ?_
    · exact fun i s hg => ⟨by first | exact hbel_nil _ | (simp only [List.append_nil]; assumption) | (refine hbel_app' hb' (by simp) ?_; repeat (first | exact hbel_nil _ | exact trivial | exact obel_row_nil _ | (refine HBel.cons ?_ ?_) | (refine obel_row_cons (by first | exact bel_ints0 _ _ | exact bel_slice_ty _ _ | exact Ty.bel _ _ | exact bel_ty_tok _ (by simp) | exact Bel.int _ _ | exact Bel.bool _ | exact Bel.str _ | exact Bel.nilp | exact Bel.nilfn | exact Bel.optr _ _ (by simp) | exact bel_nil0 _ | exact bel_nil1 _ | exact bel_fn0 _ _ | assumption) ?_))), by repeat (first | exact BelL.nil | refine BelL.cons (by first | exact bel_ints0 _ _ | exact bel_slice_ty _ _ | exact Ty.bel _ _ | exact bel_ty_tok _ (by simp) | exact Bel.int _ _ | exact Bel.bool _ | exact Bel.str _ | exact Bel.nilp | exact Bel.nilfn | exact Bel.optr _ _ (by simp) | exact bel_nil0 _ | exact bel_nil1 _ | exact bel_fn0 _ _ | assumption) ?_)⟩
    · intro i s hi hg
      have g1 := ix_nat hi
      have hi2 : i < vs.length := by omega
      have g3 := ix_nat hi2
      have g2 := get_enc Ty.enc hi
      have g4 := get_enc Ty.enc hi2
      -- region 5
      repeat (refine awp_seq ?_)
      refine e_eval (by simp only [asq, as0, as1, as2, awanted, aop, aidxAddr, aidx, ajust, aload, astore, splice, LS, SS, SX, HS, mkS_cons, mkS_nil, ↓reduceIte, eq_self', List.map_nil, beq_self_eq_true, Nat.reduceEqDiff, Nat.reduceAdd, Nat.reduceMul, Nat.reduceLT, Nat.reduceLeDiff, Nat.reducePow, Nat.reduceDiv, Nat.reduceMod, Nat.succ_ne_self, Nat.reduceBEq, Nat.reduceBNe, Tryti22, Tryte22, Trytz22, Trytp22, Tryti24, Trytf24, Trytz24, Trytp24, vint, TyS, TyF, g1, Int.toNat_natCast, g2, g3, g4] <;> with_reducible rfl) (by decide) ?_
      -- region 6
      repeat (refine awp_seq ?_)
      refine e_eval (by simp only [asq, as0, as1, as2, awanted, aop, aidxAddr, aidx, ajust, aload, astore, splice, LS, SS, SX, HS, mkS_cons, mkS_nil, ↓reduceIte, eq_self', List.map_nil, beq_self_eq_true, Nat.reduceEqDiff, Nat.reduceAdd, Nat.reduceMul, Nat.reduceLT, Nat.reduceLeDiff, Nat.reducePow, Nat.reduceDiv, Nat.reduceMod, Nat.succ_ne_self, Nat.reduceBEq, Nat.reduceBNe, Tryti22, Tryte22, Trytz22, Trytp22, Tryti24, Trytf24, Trytz24, Trytp24, vint, TyS, TyF, g1, Int.toNat_natCast, g2, g3, g4] <;> with_reducible rfl) (by decide) ?_
      -- region 7
      repeat (refine awp_seq ?_)
      refine awp_region ?_
      refine e_take 3 (by simp only [asq, as0, as1, as2, awanted, aop, aload, ajust, LS, SS, SX, HS, mkS_cons, mkS_nil, ↓reduceIte, eq_self', List.map_nil, beq_self_eq_true, Nat.reduceEqDiff, Nat.reduceAdd, Nat.reduceMul, Nat.reduceLT, Nat.reduceLeDiff, Nat.reducePow, Nat.reduceDiv, Nat.reduceMod, Nat.succ_ne_self, Nat.reduceBEq, Nat.reduceBNe, Tryti24, Trytf24, Trytz24, Trytp24, vint, TyS, TyF, g1, Int.toNat_natCast, g2, g3, g4] <;> with_reducible rfl) (by decide) ?_
      refine aops_pure (by simp only [acall, awanted, LS, SS, SX, HS, mkS_cons, mkS_nil, ↓reduceIte, eq_self', List.map_nil, beq_self_eq_true, Nat.reduceEqDiff, Nat.reduceAdd, Nat.reduceMul, Nat.reduceLT, Nat.reduceLeDiff, Nat.reducePow, Nat.reduceDiv, Nat.reduceMod, Nat.succ_ne_self, Nat.reduceBEq, Nat.reduceBNe, vint, TyS, TyF, g1, Int.toNat_natCast, g2, g3, g4] <;> with_reducible rfl) (by simp only [acall, awanted, LS, SS, SX, HS, mkS_cons, mkS_nil, ↓reduceIte, eq_self', List.map_nil, beq_self_eq_true, Nat.reduceEqDiff, Nat.reduceAdd, Nat.reduceMul, Nat.reduceLT, Nat.reduceLeDiff, Nat.reducePow, Nat.reduceDiv, Nat.reduceMod, Nat.succ_ne_self, Nat.reduceBEq, Nat.reduceBNe, vint, TyS, TyF, g1, Int.toNat_natCast, g2, g3, g4]) (by decide) (by assumption) (hf us[i] (List.getElem_mem hi) vs[i] (List.getElem_mem hi2) _) ?_
      refine e_end (by simp only [asq, as0, as1, as2, awanted, aop, aun, ajust, LS, SS, SX, HS, mkS_cons, mkS_nil, ↓reduceIte, eq_self', List.map_nil, beq_self_eq_true, Nat.reduceEqDiff, Nat.reduceAdd, Nat.reduceMul, Nat.reduceLT, Nat.reduceLeDiff, Nat.reducePow, Nat.reduceDiv, Nat.reduceMod, Nat.succ_ne_self, Nat.reduceBEq, Nat.reduceBNe, vint, TyS, TyF, g1, Int.toNat_natCast, g2, g3, g4] <;> with_reducible rfl) (by decide) ?_
      repeat (refine awp_seq ?_)
      refine awp_cond rfl (by simp only [LS, SS, SX, HS, mkS_cons, mkS_nil, ↓reduceIte, eq_self', List.map_nil, beq_self_eq_true, Nat.reduceEqDiff, Nat.reduceAdd, Nat.succ_ne_self, vint, TyS, TyF, g1, Int.toNat_natCast, g2, g3, g4] <;> with_reducible rfl) (fun b1 => ?_) (fun b1 => ?_)
      · -- if t30
        refine awp_sel [1, 2, 15, 16, 17] (by simp only [LS, SS, SX, HS, mkS_cons, mkS_nil, ↓reduceIte, eq_self', List.map_nil, beq_self_eq_true, Nat.reduceEqDiff, Nat.reduceAdd, Nat.succ_ne_self, vint, TyS, TyF, g1, Int.toNat_natCast, g2, g3, g4] <;> with_reducible rfl) ?_
        -- region 8
        repeat (refine awp_seq ?_)
        refine e_eval (by simp only [asq, as0, as1, as2, awanted, aop, LS, SS, SX, HS, mkS_cons, mkS_nil, ↓reduceIte, eq_self', List.map_nil, beq_self_eq_true, Nat.reduceEqDiff, Nat.reduceAdd, Nat.reduceMul, Nat.reduceLT, Nat.reduceLeDiff, Nat.reducePow, Nat.reduceDiv, Nat.reduceMod, Nat.succ_ne_self, Nat.reduceBEq, Nat.reduceBNe, vint, TyS, TyF, g1, Int.toNat_natCast, g2, g3, g4] <;> with_reducible rfl) (by decide) ?_
        repeat (refine awp_seq ?_)
        -- leaf 1 ret
        refine awp_ret ⟨.inr rfl, _, rfl, ?_⟩
        have hgf : g us[i] vs[i] = false := by simpa using b1
        have hmem : (us[i], vs[i]) ∈ us.zip vs := by
          rw [List.mem_iff_getElem]; exact ⟨i, by simp; omega, by simp⟩
        have : ((us.zip vs).all fun p => g p.1 p.2) = false := by
          rw [List.all_eq_false]; exact ⟨_, hmem, by simp [hgf]⟩
        simp [all2, this, upd_apply, PV.drop1]
      · -- else t30
        repeat (refine awp_seq ?_)
        refine awp_skip ?_
        -- leaf 2 next0
        have hgt : g us[i] vs[i] = true := by simpa using b1
        exact ⟨⟨rfl, rfl, trivial⟩, (), _, ⟨rfl, rfl, rfl, trivial⟩, rfl, all_take_succ (by simp; omega) hg (by simpa using hgt)⟩
    · intro s hg
      -- region 10
      repeat (refine awp_seq ?_)
      refine e_eval (by simp only [asq, as0, as1, as2, awanted, aop, LS, SS, SX, HS, mkS_cons, mkS_nil, ↓reduceIte, eq_self', List.map_nil, beq_self_eq_true, Nat.reduceEqDiff, Nat.reduceAdd, Nat.reduceMul, Nat.reduceLT, Nat.reduceLeDiff, Nat.reducePow, Nat.reduceDiv, Nat.reduceMod, Nat.succ_ne_self, Nat.reduceBEq, Nat.reduceBNe, vint, TyS, TyF] <;> with_reducible rfl) (by decide) ?_
      repeat (refine awp_seq ?_)
      -- leaf 3 ret
      refine awp_ret ⟨.inr rfl, _, rfl, ?_⟩
      rw [List.take_of_length_le (by simp; omega)] at hg
      simp [all2, hlen, hg, upd_apply, PV.drop1]

theorem equal_k : ∀ (k : Nat) (a b : Ty), a.size ≤ k → a.W → PC Try.prog 23 [a.enc, b.enc] (.bool (a.eqb b))
  | 0, a, b, h, _ => by cases a; simp [Ty.size] at h
  | k + 1, a, b, h, hw => by
    have ih := equalFunc a.args b.args Ty.eqb 23 Trygo23 hw.lenMax (fun u hu v _ => equal_k k u v (by have := Ty.size_arg hu; omega) (hw.arg hu))
    refine pc_of (N := 24) Try.func23 rfl rfl (by simp) (by simp [Ty.bel]) (.bool _) ?_
    -- region 0
    repeat (refine awp_seq ?_)
    refine e_eval (by simp only [asq, as0, as1, as2, awanted, aop, LS, SS, SX, HS, mkS_cons, mkS_nil, ↓reduceIte, eq_self', List.map_nil, beq_self_eq_true, Nat.reduceEqDiff, Nat.reduceAdd, Nat.reduceMul, Nat.reduceLT, Nat.reduceLeDiff, Nat.reducePow, Nat.reduceDiv, Nat.reduceMod, Nat.succ_ne_self, Nat.reduceBEq, Nat.reduceBNe, Tryti24, Trytf24, Trytz24, Trytp24, vint, TyS, TyF] <;> with_reducible rfl) (by decide) ?_
    -- region 1
    repeat (refine awp_seq ?_)
    refine awp_region ?_
    refine aops_gstart ?_
    refine g_take 17 (by simp only [gsq, gs0, gs1, gs2, gcond, gop, SG, Op.operands, Call.operands, Array.toList_append, aop, afldAddr, ajust, aload, abin, LS, SS, SX, HS, mkS_cons, mkS_nil, ↓reduceIte, eq_self', List.map_nil, beq_self_eq_true, Nat.reduceEqDiff, Nat.reduceAdd, Nat.reduceMul, Nat.reduceLT, Nat.reduceLeDiff, Nat.reducePow, Nat.reduceDiv, Nat.reduceMod, Nat.succ_ne_self, Nat.reduceBEq, Nat.reduceBNe, Tryti3, Trytz3, Trytp3, Trytk3, Tryti22, Tryte22, Trytz22, Trytp22, Tryti24, Trytf24, Trytz24, Trytp24, vint, TyS, TyF] <;> with_reducible rfl) (by decide) ?_
    refine aops_gpure (by simp only [acall, gcond, SG, Op.operands, Call.operands, Array.toList_append, LS, SS, SX, HS, mkS_cons, mkS_nil, ↓reduceIte, eq_self', List.map_nil, beq_self_eq_true, Nat.reduceEqDiff, Nat.reduceAdd, Nat.reduceMul, Nat.reduceLT, Nat.reduceLeDiff, Nat.reducePow, Nat.reduceDiv, Nat.reduceMod, Nat.succ_ne_self, Nat.reduceBEq, Nat.reduceBNe, vint, TyS, TyF] <;> with_reducible rfl) (by simp only [acall, gcond, SG, Op.operands, Call.operands, Array.toList_append, LS, SS, SX, HS, mkS_cons, mkS_nil, ↓reduceIte, eq_self', List.map_nil, beq_self_eq_true, Nat.reduceEqDiff, Nat.reduceAdd, Nat.reduceMul, Nat.reduceLT, Nat.reduceLeDiff, Nat.reducePow, Nat.reduceDiv, Nat.reduceMod, Nat.succ_ne_self, Nat.reduceBEq, Nat.reduceBNe, vint, TyS, TyF] <;> with_reducible rfl) (by simp only [acall, gcond, SG, Op.operands, Call.operands, Array.toList_append, LS, SS, SX, HS, mkS_cons, mkS_nil, ↓reduceIte, eq_self', List.map_nil, beq_self_eq_true, Nat.reduceEqDiff, Nat.reduceAdd, Nat.reduceMul, Nat.reduceLT, Nat.reduceLeDiff, Nat.reducePow, Nat.reduceDiv, Nat.reduceMod, Nat.succ_ne_self, Nat.reduceBEq, Nat.reduceBNe, vint, TyS, TyF]) (by decide) Trygo75 (fun hc => ih _) ?_
    refine g_end (by simp only [gsq, gs0, gs1, gs2, gcond, gop, SG, Op.operands, Call.operands, Array.toList_append, aop, LS, SS, SX, HS, mkS_cons, mkS_nil, ↓reduceIte, eq_self', List.map_nil, beq_self_eq_true, Nat.reduceEqDiff, Nat.reduceAdd, Nat.reduceMul, Nat.reduceLT, Nat.reduceLeDiff, Nat.reducePow, Nat.reduceDiv, Nat.reduceMod, Nat.succ_ne_self, Nat.reduceBEq, Nat.reduceBNe, vint, TyS, TyF] <;> with_reducible rfl) (by decide) (by repeat (first | exact Fin.base _ | with_reducible apply Fin.keep | apply Fin.drop)) ?_
    repeat (refine awp_seq ?_)
    -- leaf 0 ret
    refine awp_ret ⟨.inr rfl, _, rfl, ?_⟩
    simp [upd_apply, PV.drop1, Ty.eqb_eq, eqbs_all2, Bool.and_assoc]

theorem equal_any (a b : Ty) (hw : a.W) : PC Try.prog 23 [a.enc, b.enc] (.bool (a.eqb b)) := equal_k a.size a b (Nat.le_refl _) hw

/-- A function value over a heap: what it reads, what it answers. -/
structure Clo (P : Program) (f : FuncId) (caps : List PV) (rd : List (Nat × AObj)) (D : Ty → Prop) (g : Ty → Ty × Bool) : Prop where
  go : goFn P f = true
  bel : ∀ H : Heap, (∀ x ∈ rd, H[x.1]? = some x.2) → ∀ c ∈ caps, Bel H.length c
  sub : ∀ t, D t → ∀ u ∈ t.args, D u
  call : ∀ (H : Heap) (u : Ty), D u → (∀ x ∈ rd, H[x.1]? = some x.2) → ACalls P f (u.enc :: caps) H fun r' H' => r' = .tup [(g u).1.enc, .bool (g u).2] ∧ H' = H

theorem reads_app {rd : List (Nat × AObj)} {H : Heap} (h : ∀ x ∈ rd, H[x.1]? = some x.2) (L : Heap) : ∀ x ∈ rd, (H ++ L)[x.1]? = some x.2 := fun x hx => by
  have := h x hx
  rw [List.getElem?_append_left (len_of_get this)]; exact this

theorem map_k {f : FuncId} {caps : List PV} {rd : List (Nat × AObj)} {D : Ty → Prop} {g : Ty → Ty × Bool} (hc : Clo Try.prog f caps rd D g) :
    ∀ (k : Nat) (t : Ty) (H : Heap), t.size ≤ k → t.W → D t → (∀ x ∈ rd, H[x.1]? = some x.2) → ACalls Try.prog 76 [t.enc, .fn (.func f) [] caps] H fun r' H' => r' = (mapT g t).enc ∧ H' = H
  | 0, t, H, h, _, _, _ => by cases t; simp [Ty.size] at h
  | k + 1, t, H, h, hw, hd, hrd => by
    have hgo := hc.go
    refine keeps_of (N := 40) Try.func76 rfl rfl (by simp) (Ty.bel _ _) fun hb' => ?_
    -- region 0
    repeat (refine awp_seq ?_)
    refine e_eval (by simp only [asq, as0, as1, as2, awanted, aop, LS, SS, SX, HS, mkS_cons, mkS_nil, ↓reduceIte, eq_self', List.map_nil, beq_self_eq_true, Nat.reduceEqDiff, Nat.reduceAdd, Nat.reduceMul, Nat.reduceLT, Nat.reduceLeDiff, Nat.reducePow, Nat.reduceDiv, Nat.reduceMod, Nat.succ_ne_self, Nat.reduceBEq, Nat.reduceBNe, Tryti24, Trytf24, Trytz24, Trytp24, vint, TyS, TyF] <;> with_reducible rfl) (by decide) ?_
    -- region 1
    repeat (refine awp_seq ?_)
    refine awp_region ?_
    refine e_take 2 (by simp only [asq, as0, as1, as2, awanted, aop, aload, ajust, LS, SS, SX, HS, mkS_cons, mkS_nil, ↓reduceIte, eq_self', List.map_nil, beq_self_eq_true, Nat.reduceEqDiff, Nat.reduceAdd, Nat.reduceMul, Nat.reduceLT, Nat.reduceLeDiff, Nat.reducePow, Nat.reduceDiv, Nat.reduceMod, Nat.succ_ne_self, Nat.reduceBEq, Nat.reduceBNe, Tryti24, Trytf24, Trytz24, Trytp24, vint, TyS, TyF] <;> with_reducible rfl) (by decide) ?_
    refine aops_pure (by simp only [acall, awanted, LS, SS, SX, HS, mkS_cons, mkS_nil, ↓reduceIte, eq_self', List.map_nil, beq_self_eq_true, Nat.reduceEqDiff, Nat.reduceAdd, Nat.reduceMul, Nat.reduceLT, Nat.reduceLeDiff, Nat.reducePow, Nat.reduceDiv, Nat.reduceMod, Nat.succ_ne_self, Nat.reduceBEq, Nat.reduceBNe, vint, TyS, TyF] <;> with_reducible rfl) (by simp only [acall, awanted, LS, SS, SX, HS, mkS_cons, mkS_nil, ↓reduceIte, eq_self', List.map_nil, beq_self_eq_true, Nat.reduceEqDiff, Nat.reduceAdd, Nat.reduceMul, Nat.reduceLT, Nat.reduceLeDiff, Nat.reducePow, Nat.reduceDiv, Nat.reduceMod, Nat.succ_ne_self, Nat.reduceBEq, Nat.reduceBNe, vint, TyS, TyF]) (by decide) (by assumption) (hc.call _ t hd (reads_app hrd _)) ?_
    refine e_end (by simp only [asq, as0, as1, as2, awanted, aop, ajust, astore, splice, LS, SS, SX, HS, mkS_cons, mkS_nil, ↓reduceIte, eq_self', List.map_nil, beq_self_eq_true, Nat.reduceEqDiff, Nat.reduceAdd, Nat.reduceMul, Nat.reduceLT, Nat.reduceLeDiff, Nat.reducePow, Nat.reduceDiv, Nat.reduceMod, Nat.succ_ne_self, Nat.reduceBEq, Nat.reduceBNe, Tryti24, Trytf24, Trytz24, Trytp24, vint, TyS, TyF] <;> with_reducible rfl) (by decide) ?_
    -- region 2
    repeat (refine awp_seq ?_)
    refine e_eval (by simp only [asq, as0, as1, as2, awanted, aop, LS, SS, SX, HS, mkS_cons, mkS_nil, ↓reduceIte, eq_self', List.map_nil, beq_self_eq_true, Nat.reduceEqDiff, Nat.reduceAdd, Nat.reduceMul, Nat.reduceLT, Nat.reduceLeDiff, Nat.reducePow, Nat.reduceDiv, Nat.reduceMod, Nat.succ_ne_self, Nat.reduceBEq, Nat.reduceBNe, vint, TyS, TyF] <;> with_reducible rfl) (by decide) ?_
    repeat (refine awp_seq ?_)
    refine awp_cond rfl (by simp only [LS, SS, SX, HS, mkS_cons, mkS_nil, ↓reduceIte, eq_self', List.map_nil, beq_self_eq_true, Nat.reduceEqDiff, Nat.reduceAdd, Nat.succ_ne_self, vint, TyS, TyF] <;> with_reducible rfl) (fun b0 => ?_) (fun b0 => ?_)
    · -- if t16
      -- region 3
      repeat (refine awp_seq ?_)
      refine e_eval (by simp only [asq, as0, as1, as2, awanted, aop, aload, ajust, astore, splice, LS, SS, SX, HS, mkS_cons, mkS_nil, ↓reduceIte, eq_self', List.map_nil, beq_self_eq_true, Nat.reduceEqDiff, Nat.reduceAdd, Nat.reduceMul, Nat.reduceLT, Nat.reduceLeDiff, Nat.reducePow, Nat.reduceDiv, Nat.reduceMod, Nat.succ_ne_self, Nat.reduceBEq, Nat.reduceBNe, Tryti24, Trytf24, Trytz24, Trytp24, vint, TyS, TyF] <;> with_reducible rfl) (by decide) ?_
      repeat (refine awp_seq ?_)
      -- leaf 0 ret
      refine awp_ret ⟨.inr rfl, _, _, (ares_cell 4 24 rfl Tryti24 (by decide) (by simp only [aload, LS, SS, SX, HS, mkS_cons, mkS_nil, ↓reduceIte, eq_self', List.map_nil, beq_self_eq_true, Nat.reduceEqDiff, Nat.reduceAdd, Nat.reduceMul, Nat.reduceLT, Nat.reduceLeDiff, Nat.reducePow, Nat.reduceDiv, Nat.reduceMod, Nat.succ_ne_self, Nat.reduceBEq, Nat.reduceBNe, vint, TyS, TyF] <;> with_reducible rfl)), ?_, (by first | exact (List.append_nil _).symm | rfl)⟩
      simp only [TyF, mapT_eq g t, b0, if_true, d1_agg, LS]
      exact Ty.enc_drop1 _
    · -- else t16
      repeat (refine awp_seq ?_)
      refine awp_skip ?_
      -- region 4
      repeat (refine awp_seq ?_)
      refine e_eval (by simp only [asq, as0, as1, as2, awanted, aop, afldAddr, ajust, aload, abuild, splice, astore, LS, SS, SX, HS, mkS_cons, mkS_nil, ↓reduceIte, eq_self', List.map_nil, beq_self_eq_true, Nat.reduceEqDiff, Nat.reduceAdd, Nat.reduceMul, Nat.reduceLT, Nat.reduceLeDiff, Nat.reducePow, Nat.reduceDiv, Nat.reduceMod, Nat.succ_ne_self, Nat.reduceBEq, Nat.reduceBNe, Tryti3, Trytz3, Trytp3, Trytk3, Tryti24, Trytf24, Trytz24, Trytp24, vint, TyS, TyF] <;> with_reducible rfl) (by decide) ?_
      refine awp_sel [1, 2, 4, 7] (by simp only [LS, SS, SX, HS, mkS_cons, mkS_nil, ↓reduceIte, eq_self', List.map_nil, beq_self_eq_true, Nat.reduceEqDiff, Nat.reduceAdd, Nat.succ_ne_self, vint, TyS, TyF] <;> with_reducible rfl) ?_
      -- region 5
      repeat (refine awp_seq ?_)
      refine e_eval (by simp only [asq, as0, as1, as2, awanted, aop, afldAddr, ajust, aload, abuiltin, LS, SS, SX, HS, mkS_cons, mkS_nil, ↓reduceIte, eq_self', List.map_nil, beq_self_eq_true, Nat.reduceEqDiff, Nat.reduceAdd, Nat.reduceMul, Nat.reduceLT, Nat.reduceLeDiff, Nat.reducePow, Nat.reduceDiv, Nat.reduceMod, Nat.succ_ne_self, Nat.reduceBEq, Nat.reduceBNe, Tryti22, Tryte22, Trytz22, Trytp22, Tryti24, Trytf24, Trytz24, Trytp24, vint, TyS, TyF] <;> with_reducible rfl) (by decide) ?_
      repeat (refine awp_seq ?_)
      refine awp_retok_row (H.length + 3) 2 3 (by simp only [dsq, ds0, ds1, ds2, ds3, awanted, hapB, effIds, effSet, nextFresh, ard, freshOk, isUnborn, aop, LS, SS, SX, HS, mkS_cons, mkS_nil, ↓reduceIte, eq_self', List.map_nil, beq_self_eq_true, Nat.reduceEqDiff, Nat.reduceAdd, Nat.reduceMul, Nat.reduceLT, Nat.reduceLeDiff, Nat.reducePow, Nat.reduceDiv, Nat.reduceMod, Nat.succ_ne_self, Nat.reduceBEq, Nat.reduceBNe, vint, TyS, TyF] <;> with_reducible rfl) rfl ?_
      refine awp_forS (σ := List Ty) (t.args.length) (fun (s : List Ty) => [(1, .fn (.func f) [] caps), (4, .optr (H.length + 1) 0), (7, .optr (H.length + 3) 0), (24, .slice (t.args.map Ty.enc) .none)]) [1, 4, 7, 24] (H) (fun (s : List Ty) => [.row t.enc.cells, .row [.int .i64 0, .int .i64 0, .slice [] .full], .row (g t).1.enc.cells, .row [.int .i64 t.kind, .int .i64 t.id, .slice (s.map Ty.enc) (.tok (H.length + 4))], .buf s.length 3]) (fun (i : Nat) (s : List Ty) => s = (t.args.take i).map (mapT g)) ([]) ([]) rfl rfl rfl rfl rfl rfl rfl rfl rfl (by decide) (by decide) (by decide) (fun _ => rfl) (hw.lenMax) ⟨(by first | rfl | (simp only [LS, SS, SX, HS, mkS_cons, mkS_nil, ↓reduceIte, eq_self', List.map_nil, beq_self_eq_true, Nat.reduceEqDiff, Nat.reduceAdd, Nat.succ_ne_self, vint, TyS, TyF] <;> first | done | with_reducible rfl)), (by first | rfl | (simp only [LS, SS, SX, HS, mkS_cons, mkS_nil, ↓reduceIte, eq_self', List.map_nil, beq_self_eq_true, Nat.reduceEqDiff, Nat.reduceAdd, Nat.succ_ne_self, vint, TyS, TyF] <;> first | done | with_reducible rfl)), (by first | rfl | (simp only [LS, SS, SX, HS, mkS_cons, mkS_nil, ↓reduceIte, eq_self', List.map_nil, beq_self_eq_true, Nat.reduceEqDiff, Nat.reduceAdd, Nat.succ_ne_self, vint, TyS, TyF] <;> first | done | with_reducible rfl)), (by first | rfl | (simp only [LS, SS, SX, HS, mkS_cons, mkS_nil, ↓reduceIte, eq_self', List.map_nil, beq_self_eq_true, Nat.reduceEqDiff, Nat.reduceAdd, Nat.succ_ne_self, vint, TyS, TyF] <;> first | done | with_reducible rfl)), (by first | rfl | (simp only [LS, SS, SX, HS, mkS_cons, mkS_nil, ↓reduceIte, eq_self', List.map_nil, beq_self_eq_true, Nat.reduceEqDiff, Nat.reduceAdd, Nat.succ_ne_self, vint, TyS, TyF] <;> first | done | with_reducible rfl)), (by first | rfl | (simp only [LS, SS, SX, HS, mkS_cons, mkS_nil, ↓reduceIte, eq_self', List.map_nil, beq_self_eq_true, Nat.reduceEqDiff, Nat.reduceAdd, Nat.succ_ne_self, vint, TyS, TyF] <;> first | done | with_reducible rfl)), trivial⟩ (by first | rfl | (simp only [LS, SS, SX, HS, mkS_cons, mkS_nil, ↓reduceIte, eq_self', List.map_nil, beq_self_eq_true, Nat.reduceEqDiff, Nat.reduceAdd, Nat.succ_ne_self, vint, TyS, TyF] <;> first | done | with_reducible rfl)) (by simp) (fun _ _ _ => by first | exact Nat.zero_le _ | (simp only [List.length_append]; omega)) ?_ ?_ ?_
      · intro i s hg
        simp only [TyS]
        refine ⟨by first | exact hbel_nil _ | (simp only [List.append_nil]; assumption) | (refine hbel_app' hb' (by simp) ?_; repeat (first | exact hbel_nil _ | exact trivial | exact obel_row_nil _ | (refine HBel.cons ?_ ?_) | (refine obel_row_cons (by first | exact bel_ints0 _ _ | exact bel_slice_ty _ _ | exact Ty.bel _ _ | exact bel_ty_tok _ (by simp) | exact Bel.int _ _ | exact Bel.bool _ | exact Bel.str _ | exact Bel.nilp | exact Bel.nilfn | exact Bel.optr _ _ (by simp) | exact bel_nil0 _ | exact bel_nil1 _ | exact bel_fn0 _ _ | assumption) ?_))), .cons (.fn _ _ _ (by simp) (fun c hc' => (hc.bel H hrd c hc').mono (by simp))) (by repeat (first | exact BelL.nil | refine BelL.cons (by first | exact bel_ints0 _ _ | exact bel_slice_ty _ _ | exact Ty.bel _ _ | exact bel_ty_tok _ (by simp) | exact Bel.int _ _ | exact Bel.bool _ | exact Bel.str _ | exact Bel.nilp | exact Bel.nilfn | exact Bel.optr _ _ (by simp) | exact bel_nil0 _ | exact bel_nil1 _ | exact bel_fn0 _ _ | assumption) ?_))⟩
      · intro i s hi hg
        have g1 := ix_nat hi
        have g2 := get_enc Ty.enc hi
        have hmem : t.args[i] ∈ t.args := List.getElem_mem hi
        have hlen := hw.len
        have hsl : s.length < t.args.length := by rw [hg, List.length_map, List.length_take]; omega
        have happ := app_ty (us := s) (u := mapT g t.args[i]) (id := H.length + 4) (tl := .full) (by omega)
        -- region 7
        repeat (refine awp_seq ?_)
        refine e_eval (by simp only [asq, as0, as1, as2, awanted, aop, aidxAddr, aidx, ajust, aload, astore, splice, LS, SS, SX, HS, mkS_cons, mkS_nil, ↓reduceIte, eq_self', List.map_nil, beq_self_eq_true, Nat.reduceEqDiff, Nat.reduceAdd, Nat.reduceMul, Nat.reduceLT, Nat.reduceLeDiff, Nat.reducePow, Nat.reduceDiv, Nat.reduceMod, Nat.succ_ne_self, Nat.reduceBEq, Nat.reduceBNe, Tryti22, Tryte22, Trytz22, Trytp22, Tryti24, Trytf24, Trytz24, Trytp24, vint, TyS, TyF, g1, Int.toNat_natCast, g2] <;> with_reducible rfl) (by decide) ?_
        -- region 8
        repeat (refine awp_seq ?_)
        refine awp_draw 0 (by kernel_rfl) ?_
        refine d_take (bm := [0, 1, 0, 0, 12, 28, 63, 127, 255]) 4 (fresh := (H.length + 6)) (by kernel_rfl) (by simp only [dsq, ds0, ds1, ds2, ds3, awanted, hapB, effIds, effSet, nextFresh, ard, freshOk, isUnborn, aop, afldAddr, ajust, aload, LS, SS, SX, HS, mkS_cons, mkS_nil, ↓reduceIte, eq_self', List.map_nil, beq_self_eq_true, Nat.reduceEqDiff, Nat.reduceAdd, Nat.reduceMul, Nat.reduceLT, Nat.reduceLeDiff, Nat.reducePow, Nat.reduceDiv, Nat.reduceMod, Nat.succ_ne_self, Nat.reduceBEq, Nat.reduceBNe, Tryti22, Tryte22, Trytz22, Trytp22, Tryti24, Trytf24, Trytz24, Trytp24, vint, TyS, TyF, g1, Int.toNat_natCast, g2, happ] <;> with_reducible rfl) (by decide) (by decide) ?_
        refine dops_keep (bm := [0, 1, 0, 0, 12, 28, 63, 127, 255]) (rd.map Prod.fst) (by kernel_rfl) (by simp only [acall, awanted, LS, SS, SX, HS, mkS_cons, mkS_nil, ↓reduceIte, eq_self', List.map_nil, beq_self_eq_true, Nat.reduceEqDiff, Nat.reduceAdd, Nat.reduceMul, Nat.reduceLT, Nat.reduceLeDiff, Nat.reducePow, Nat.reduceDiv, Nat.reduceMod, Nat.succ_ne_self, Nat.reduceBEq, Nat.reduceBNe, vint, TyS, TyF, g1, Int.toNat_natCast, g2, happ] <;> with_reducible rfl) (by simp only [acall, awanted, LS, SS, SX, HS, mkS_cons, mkS_nil, ↓reduceIte, eq_self', List.map_nil, beq_self_eq_true, Nat.reduceEqDiff, Nat.reduceAdd, Nat.reduceMul, Nat.reduceLT, Nat.reduceLeDiff, Nat.reducePow, Nat.reduceDiv, Nat.reduceMod, Nat.succ_ne_self, Nat.reduceBEq, Nat.reduceBNe, vint, TyS, TyF, g1, Int.toNat_natCast, g2, happ]) (by decide) Trygo76 (fun H' hH' => map_k hc k t.args[i] H' (by have := Ty.size_arg hmem; omega) (hw.arg hmem) (hc.sub t hd _ hmem) (fun x hx => by rw [hH' x.1 (List.mem_map.2 ⟨x, hx, rfl⟩)]; exact reads_app hrd _ x hx)) (by simp only [dsq, ds0, ds1, ds2, ds3, awanted, hapB, effIds, effSet, nextFresh, ard, freshOk, isUnborn, aop, LS, SS, SX, HS, mkS_cons, mkS_nil, ↓reduceIte, eq_self', List.map_nil, beq_self_eq_true, Nat.reduceEqDiff, Nat.reduceAdd, Nat.reduceMul, Nat.reduceLT, Nat.reduceLeDiff, Nat.reducePow, Nat.reduceDiv, Nat.reduceMod, Nat.succ_ne_self, Nat.reduceBEq, Nat.reduceBNe, vint, TyS, TyF, g1, Int.toNat_natCast, g2, happ] <;> first | done | rfl) ?_
        refine d_end (bm := [0, 1, 0, 0, 12, 28, 63, 127, 255]) (fresh := (H.length + 6)) (by kernel_rfl) (by simp only [dsq, ds0, ds1, ds2, ds3, awanted, hapB, effIds, effSet, nextFresh, ard, freshOk, isUnborn, aop, abuildS, abuiltin, afldAddr, ajust, astore, splice, LS, SS, SX, HS, mkS_cons, mkS_nil, ↓reduceIte, eq_self', List.map_nil, beq_self_eq_true, Nat.reduceEqDiff, Nat.reduceAdd, Nat.reduceMul, Nat.reduceLT, Nat.reduceLeDiff, Nat.reducePow, Nat.reduceDiv, Nat.reduceMod, Nat.succ_ne_self, Nat.reduceBEq, Nat.reduceBNe, Tryti22, Tryte22, Trytz22, Trytp22, Tryti24, Trytf24, Trytz24, Trytp24, vint, TyS, TyF, g1, Int.toNat_natCast, g2, happ] <;> with_reducible rfl) (by decide) ?_
        -- leaf 1 next0
        exact ⟨⟨rfl, rfl, trivial⟩, s ++ [mapT g t.args[i]], _, ⟨rfl, rfl, rfl, rfl, trivial⟩, by simp only [LS, SS, SX, HS, mkS_cons, mkS_nil, ↓reduceIte, eq_self', List.map_nil, beq_self_eq_true, Nat.reduceEqDiff, Nat.reduceAdd, Nat.succ_ne_self, vint, TyS, TyF] <;> rfl, by rw [hg, map_take_succ _ hi]⟩
      · intro s hg
        rw [List.take_length] at hg
        -- region 10
        repeat (refine awp_seq ?_)
        refine e_eval (by simp only [asq, as0, as1, as2, awanted, aop, aload, ajust, astore, splice, LS, SS, SX, HS, mkS_cons, mkS_nil, ↓reduceIte, eq_self', List.map_nil, beq_self_eq_true, Nat.reduceEqDiff, Nat.reduceAdd, Nat.reduceMul, Nat.reduceLT, Nat.reduceLeDiff, Nat.reducePow, Nat.reduceDiv, Nat.reduceMod, Nat.succ_ne_self, Nat.reduceBEq, Nat.reduceBNe, Tryti24, Trytf24, Trytz24, Trytp24, vint, TyS, TyF] <;> with_reducible rfl) (by decide) ?_
        repeat (refine awp_seq ?_)
        -- leaf 2 ret
        refine awp_ret ⟨.inr rfl, _, _, (ares_cell 4 24 rfl Tryti24 (by decide) (by simp only [aload, LS, SS, SX, HS, mkS_cons, mkS_nil, ↓reduceIte, eq_self', List.map_nil, beq_self_eq_true, Nat.reduceEqDiff, Nat.reduceAdd, Nat.reduceMul, Nat.reduceLT, Nat.reduceLeDiff, Nat.reducePow, Nat.reduceDiv, Nat.reduceMod, Nat.succ_ne_self, Nat.reduceBEq, Nat.reduceBNe, vint, TyS, TyF] <;> with_reducible rfl)), ?_, (by first | exact (List.append_nil _).symm | rfl)⟩
        simp only [TyF, mapT_eq g t, b0, Bool.false_eq_true, if_false, d1_agg, LS, hg]
        exact Ty.enc_drop1 _

end Go.Abs
set_option linter.unusedVariables false
set_option linter.unusedSimpArgs false
set_option maxRecDepth 4000
namespace Go.Abs
open Go.Proofs
theorem mapT_id {g : Ty → Ty × Bool} (hg : ∀ u, (g u).2 = false) : ∀ t, mapT g t = t
  | .mk k i us => by
    rw [mapT, if_neg (by rw [hg]; simp)]
    congr 1
    have : ∀ u ∈ us, mapT g u = u := fun u hu => mapT_id hg u
    rw [List.map_congr_left this, List.map_id'']
    intro x; rfl

theorem clone1 (H : Heap) (u : Ty) : ACalls Try.prog 122 [u.enc] H fun r' H' => r' = .tup [(Ty.mk 0 0 []).enc, .bool false] ∧ H' = H := by
  refine keeps_of (N := 5) Try.func122 rfl rfl (by simp) (.tup _ (by simp [Ty.bel, Bel.bool])) fun hb' => ?_
  -- region 0
  repeat (refine awp_seq ?_)
  refine e_eval (by simp only [asq, as0, as1, as2, awanted, aop, LS, SS, SX, HS, mkS_cons, mkS_nil, ↓reduceIte, eq_self', List.map_nil, beq_self_eq_true, Nat.reduceEqDiff, Nat.reduceAdd, Nat.reduceMul, Nat.reduceLT, Nat.reduceLeDiff, Nat.reducePow, Nat.reduceDiv, Nat.reduceMod, Nat.succ_ne_self, Nat.reduceBEq, Nat.reduceBNe, Tryti24, Trytf24, Trytz24, Trytp24, vint, TyS, TyF] <;> with_reducible rfl) (by decide) ?_
  -- region 1
  repeat (refine awp_seq ?_)
  refine e_eval (by simp only [asq, as0, as1, as2, awanted, aop, abuild, splice, astore, LS, SS, SX, HS, mkS_cons, mkS_nil, ↓reduceIte, eq_self', List.map_nil, beq_self_eq_true, Nat.reduceEqDiff, Nat.reduceAdd, Nat.reduceMul, Nat.reduceLT, Nat.reduceLeDiff, Nat.reducePow, Nat.reduceDiv, Nat.reduceMod, Nat.succ_ne_self, Nat.reduceBEq, Nat.reduceBNe, Tryti24, Trytf24, Trytz24, Trytp24, vint, TyS, TyF] <;> with_reducible rfl) (by decide) ?_
  repeat (refine awp_seq ?_)
  -- leaf 0 ret
  refine awp_ret ⟨.inr rfl, _, _, (ares_two (.cell 2 24) (.tmp 3) rfl (ares_cell1 Tryti24 (by decide) (by simp only [aload, LS, SS, SX, HS, mkS_cons, mkS_nil, ↓reduceIte, eq_self', List.map_nil, beq_self_eq_true, Nat.reduceEqDiff, Nat.reduceAdd, Nat.reduceMul, Nat.reduceLT, Nat.reduceLeDiff, Nat.reducePow, Nat.reduceDiv, Nat.reduceMod, Nat.succ_ne_self, Nat.reduceBEq, Nat.reduceBNe, vint, TyS, TyF] <;> with_reducible rfl)) (ares_tmp1 (by decide))), ?_, (by first | exact (List.append_nil _).symm | rfl)⟩
  simp only [LS, SS, SX, HS, mkS_cons, mkS_nil, ↓reduceIte, eq_self', List.map_nil, beq_self_eq_true, Nat.reduceEqDiff, Nat.reduceAdd, Nat.succ_ne_self, vint, TyS, TyF]

theorem clone (t : Ty) (hw : t.W) : PC Try.prog 79 [t.enc] t.enc := by
  refine pc_of (N := 5) Try.func79 rfl rfl (by simp) (by simp [Ty.bel]) (Ty.bel _ _) ?_
  -- region 0
  repeat (refine awp_seq ?_)
  refine e_eval (by simp only [asq, as0, as1, as2, awanted, aop, LS, SS, SX, HS, mkS_cons, mkS_nil, ↓reduceIte, eq_self', List.map_nil, beq_self_eq_true, Nat.reduceEqDiff, Nat.reduceAdd, Nat.reduceMul, Nat.reduceLT, Nat.reduceLeDiff, Nat.reducePow, Nat.reduceDiv, Nat.reduceMod, Nat.succ_ne_self, Nat.reduceBEq, Nat.reduceBNe, Tryti24, Trytf24, Trytz24, Trytp24, vint, TyS, TyF] <;> with_reducible rfl) (by decide) ?_
  -- region 1
  repeat (refine awp_seq ?_)
  refine awp_region ?_
  refine e_take 1 (by simp only [asq, as0, as1, as2, awanted, aop, aload, ajust, LS, SS, SX, HS, mkS_cons, mkS_nil, ↓reduceIte, eq_self', List.map_nil, beq_self_eq_true, Nat.reduceEqDiff, Nat.reduceAdd, Nat.reduceMul, Nat.reduceLT, Nat.reduceLeDiff, Nat.reducePow, Nat.reduceDiv, Nat.reduceMod, Nat.succ_ne_self, Nat.reduceBEq, Nat.reduceBNe, Tryti24, Trytf24, Trytz24, Trytp24, vint, TyS, TyF] <;> with_reducible rfl) (by decide) ?_
  refine aops_pure (by simp only [acall, awanted, LS, SS, SX, HS, mkS_cons, mkS_nil, ↓reduceIte, eq_self', List.map_nil, beq_self_eq_true, Nat.reduceEqDiff, Nat.reduceAdd, Nat.reduceMul, Nat.reduceLT, Nat.reduceLeDiff, Nat.reducePow, Nat.reduceDiv, Nat.reduceMod, Nat.succ_ne_self, Nat.reduceBEq, Nat.reduceBNe, vint, TyS, TyF] <;> with_reducible rfl) (by simp only [acall, awanted, LS, SS, SX, HS, mkS_cons, mkS_nil, ↓reduceIte, eq_self', List.map_nil, beq_self_eq_true, Nat.reduceEqDiff, Nat.reduceAdd, Nat.reduceMul, Nat.reduceLT, Nat.reduceLeDiff, Nat.reducePow, Nat.reduceDiv, Nat.reduceMod, Nat.succ_ne_self, Nat.reduceBEq, Nat.reduceBNe, vint, TyS, TyF]) (by decide) Trygo76 (map_k (D := fun _ => True) (rd := []) (g := fun _ => (Ty.mk 0 0 [], false)) ⟨Trygo122, by simp, by simp, fun H u _ _ => clone1 H u⟩ _ t _ (Nat.le_refl _) hw trivial (by simp)) ?_
  refine e_end (by simp only [asq, as0, as1, as2, awanted, aop, astore, splice, LS, SS, SX, HS, mkS_cons, mkS_nil, ↓reduceIte, eq_self', List.map_nil, beq_self_eq_true, Nat.reduceEqDiff, Nat.reduceAdd, Nat.reduceMul, Nat.reduceLT, Nat.reduceLeDiff, Nat.reducePow, Nat.reduceDiv, Nat.reduceMod, Nat.succ_ne_self, Nat.reduceBEq, Nat.reduceBNe, Tryti24, Trytf24, Trytz24, Trytp24, vint, TyS, TyF] <;> with_reducible rfl) (by decide) ?_
  repeat (refine awp_seq ?_)
  -- leaf 0 ret
  refine awp_ret ⟨.inr rfl, _, (ares_cell 2 24 rfl Tryti24 (by decide) (by simp only [aload, LS, SS, SX, HS, mkS_cons, mkS_nil, ↓reduceIte, eq_self', List.map_nil, beq_self_eq_true, Nat.reduceEqDiff, Nat.reduceAdd, Nat.reduceMul, Nat.reduceLT, Nat.reduceLeDiff, Nat.reducePow, Nat.reduceDiv, Nat.reduceMod, Nat.succ_ne_self, Nat.reduceBEq, Nat.reduceBNe, vint, TyS, TyF] <;> with_reducible rfl)), ?_⟩
  rw [mapT_id (fun _ => rfl)]
  exact Ty.enc_drop1 _

theorem apply1 (ps : List Int) (xs : List Ty) (H : Heap) (i1 i2 : Nat) (hx : ps.length ≤ maxLen) (hw : ∀ a ∈ xs, a.W) (h1 : H[i1]? = some (.row [.slice (ps.map vint) .none])) (h2 : H[i2]? = some (.row [.slice (xs.map Ty.enc) .none])) (u : Ty) :
    ACalls Try.prog 77 [u.enc, .optr i1 0, .optr i2 0] H fun r' H' => r' = .tup [(appG ps xs u).1.enc, .bool (appG ps xs u).2] ∧ H' = H := by
  have q1 : ∀ L, (H ++ L)[i1]? = some (.row [.slice (ps.map vint) .none]) := fun L => by rw [List.getElem?_append_left (len_of_get h1)]; exact h1
  have q2 : ∀ L, (H ++ L)[i2]? = some (.row [.slice (xs.map Ty.enc) .none]) := fun L => by rw [List.getElem?_append_left (len_of_get h2)]; exact h2
  refine keeps_of (N := 30) Try.func77 rfl rfl (by simp) (.tup _ (by simp [Ty.bel, Bel.bool])) fun hb' => ?_
  -- region 0
  repeat (refine awp_seq ?_)
  refine e_eval (by simp only [asq, as0, as1, as2, awanted, aop, LS, SS, SX, HS, mkS_cons, mkS_nil, ↓reduceIte, eq_self', List.map_nil, beq_self_eq_true, Nat.reduceEqDiff, Nat.reduceAdd, Nat.reduceMul, Nat.reduceLT, Nat.reduceLeDiff, Nat.reducePow, Nat.reduceDiv, Nat.reduceMod, Nat.succ_ne_self, Nat.reduceBEq, Nat.reduceBNe, Tryti24, Trytf24, Trytz24, Trytp24, vint, TyS, TyF, q1, q2] <;> with_reducible rfl) (by decide) ?_
  -- region 1
  repeat (refine awp_seq ?_)
  refine awp_region ?_
  refine e_take 3 (by simp only [asq, as0, as1, as2, awanted, aop, aload, ajust, afldAddr, LS, SS, SX, HS, mkS_cons, mkS_nil, ↓reduceIte, eq_self', List.map_nil, beq_self_eq_true, Nat.reduceEqDiff, Nat.reduceAdd, Nat.reduceMul, Nat.reduceLT, Nat.reduceLeDiff, Nat.reducePow, Nat.reduceDiv, Nat.reduceMod, Nat.succ_ne_self, Nat.reduceBEq, Nat.reduceBNe, Tryti3, Trytz3, Trytp3, Trytk3, Tryti24, Trytf24, Trytz24, Trytp24, Tryti25, Tryte25, Trytz25, Trytp25, vint, TyS, TyF, q1, q2] <;> with_reducible rfl) (by decide) ?_
  refine aops_pure (by simp only [acall, awanted, LS, SS, SX, HS, mkS_cons, mkS_nil, ↓reduceIte, eq_self', List.map_nil, beq_self_eq_true, Nat.reduceEqDiff, Nat.reduceAdd, Nat.reduceMul, Nat.reduceLT, Nat.reduceLeDiff, Nat.reducePow, Nat.reduceDiv, Nat.reduceMod, Nat.succ_ne_self, Nat.reduceBEq, Nat.reduceBNe, vint, TyS, TyF, q1, q2] <;> with_reducible rfl) (by simp only [acall, awanted, LS, SS, SX, HS, mkS_cons, mkS_nil, ↓reduceIte, eq_self', List.map_nil, beq_self_eq_true, Nat.reduceEqDiff, Nat.reduceAdd, Nat.reduceMul, Nat.reduceLT, Nat.reduceLeDiff, Nat.reducePow, Nat.reduceDiv, Nat.reduceMod, Nat.succ_ne_self, Nat.reduceBEq, Nat.reduceBNe, vint, TyS, TyF, q1, q2]) (by decide) Trygo78 (index _ _ hx _) ?_
  refine e_end (by simp only [asq, as0, as1, as2, awanted, aop, LS, SS, SX, HS, mkS_cons, mkS_nil, ↓reduceIte, eq_self', List.map_nil, beq_self_eq_true, Nat.reduceEqDiff, Nat.reduceAdd, Nat.reduceMul, Nat.reduceLT, Nat.reduceLeDiff, Nat.reducePow, Nat.reduceDiv, Nat.reduceMod, Nat.succ_ne_self, Nat.reduceBEq, Nat.reduceBNe, vint, TyS, TyF, q1, q2] <;> with_reducible rfl) (by decide) ?_
  -- region 2
  repeat (refine awp_seq ?_)
  refine g_eval (by simp only [gsq, gs0, gs1, gs2, gcond, gop, SG, Op.operands, Call.operands, Array.toList_append, aop, afldAddr, ajust, aload, abin, abuiltin, LS, SS, SX, HS, mkS_cons, mkS_nil, ↓reduceIte, eq_self', List.map_nil, beq_self_eq_true, Nat.reduceEqDiff, Nat.reduceAdd, Nat.reduceMul, Nat.reduceLT, Nat.reduceLeDiff, Nat.reducePow, Nat.reduceDiv, Nat.reduceMod, Nat.succ_ne_self, Nat.reduceBEq, Nat.reduceBNe, Tryti3, Trytz3, Trytp3, Trytk3, Tryti22, Tryte22, Trytz22, Trytp22, Tryti24, Trytf24, Trytz24, Trytp24, vint, TyS, TyF, q1, q2] <;> with_reducible rfl) (by decide) (by repeat (first | exact Fin.base _ | with_reducible apply Fin.keep | apply Fin.drop)) ?_
  repeat (refine awp_seq ?_)
  refine awp_cond rfl (by simp only [LS, SS, SX, HS, mkS_cons, mkS_nil, ↓reduceIte, eq_self', List.map_nil, beq_self_eq_true, Nat.reduceEqDiff, Nat.reduceAdd, Nat.succ_ne_self, vint, TyS, TyF, q1, q2] <;> with_reducible rfl) (fun b0 => ?_) (fun b0 => ?_)
  · -- if t23
    refine awp_sel [3, 4] (by simp only [LS, SS, SX, HS, mkS_cons, mkS_nil, ↓reduceIte, eq_self', List.map_nil, beq_self_eq_true, Nat.reduceEqDiff, Nat.reduceAdd, Nat.succ_ne_self, vint, TyS, TyF, q1, q2] <;> with_reducible rfl) ?_
    -- region 3
    repeat (refine awp_seq ?_)
    refine e_eval (by simp only [asq, as0, as1, as2, awanted, aop, aload, ajust, astore, splice, LS, SS, SX, HS, mkS_cons, mkS_nil, ↓reduceIte, eq_self', List.map_nil, beq_self_eq_true, Nat.reduceEqDiff, Nat.reduceAdd, Nat.reduceMul, Nat.reduceLT, Nat.reduceLeDiff, Nat.reducePow, Nat.reduceDiv, Nat.reduceMod, Nat.succ_ne_self, Nat.reduceBEq, Nat.reduceBNe, Tryti24, Trytf24, Trytz24, Trytp24, vint, TyS, TyF, q1, q2] <;> with_reducible rfl) (by decide) ?_
    repeat (refine awp_seq ?_)
    -- leaf 0 ret
    refine awp_ret ⟨.inr rfl, _, _, (ares_two (.cell 4 24) (.tmp 5) rfl (ares_cell1 Tryti24 (by decide) (by simp only [aload, LS, SS, SX, HS, mkS_cons, mkS_nil, ↓reduceIte, eq_self', List.map_nil, beq_self_eq_true, Nat.reduceEqDiff, Nat.reduceAdd, Nat.reduceMul, Nat.reduceLT, Nat.reduceLeDiff, Nat.reducePow, Nat.reduceDiv, Nat.reduceMod, Nat.succ_ne_self, Nat.reduceBEq, Nat.reduceBNe, vint, TyS, TyF, q1, q2] <;> with_reducible rfl)) (ares_tmp1 (by decide))), ?_, (by first | exact (List.append_nil _).symm | rfl)⟩
    simp only [LS, SS, SX, HS, mkS_cons, mkS_nil, ↓reduceIte, eq_self', List.map_nil, beq_self_eq_true, Nat.reduceEqDiff, Nat.reduceAdd, Nat.succ_ne_self, vint, TyS, TyF]
    simp only [appG, b0, if_true]
  · -- else t23
    have hb : 0 ≤ idxI (fun x => decide (u.id = x)) ps ∧ idxI (fun x => decide (u.id = x)) ps < xs.length := by simp at b0; omega
    have g1 : ((0 : Int) ≤ idxI (fun x => decide (u.id = x)) ps ∧ idxI (fun x => decide (u.id = x)) ps < xs.length) = True := by simp only [hb, and_self]
    have hlt : (idxI (fun x => decide (u.id = x)) ps).toNat < xs.length := by omega
    have g2 := get_enc Ty.enc hlt
    have hwa := hw _ (List.getElem_mem hlt)
    repeat (refine awp_seq ?_)
    refine awp_skip ?_
    refine awp_sel [2, 4, 6] (by simp only [LS, SS, SX, HS, mkS_cons, mkS_nil, ↓reduceIte, eq_self', List.map_nil, beq_self_eq_true, Nat.reduceEqDiff, Nat.reduceAdd, Nat.succ_ne_self, vint, TyS, TyF, q1, q2] <;> with_reducible rfl) ?_
    -- region 4
    repeat (refine awp_seq ?_)
    refine awp_region ?_
    refine e_take 4 (by simp only [asq, as0, as1, as2, awanted, aop, aload, ajust, aidxAddr, aidx, LS, SS, SX, HS, mkS_cons, mkS_nil, ↓reduceIte, eq_self', List.map_nil, beq_self_eq_true, Nat.reduceEqDiff, Nat.reduceAdd, Nat.reduceMul, Nat.reduceLT, Nat.reduceLeDiff, Nat.reducePow, Nat.reduceDiv, Nat.reduceMod, Nat.succ_ne_self, Nat.reduceBEq, Nat.reduceBNe, Tryti22, Tryte22, Trytz22, Trytp22, Tryti24, Trytf24, Trytz24, Trytp24, vint, TyS, TyF, q1, q2, g1, g2] <;> with_reducible rfl) (by decide) ?_
    refine aops_pure (by simp only [acall, awanted, LS, SS, SX, HS, mkS_cons, mkS_nil, ↓reduceIte, eq_self', List.map_nil, beq_self_eq_true, Nat.reduceEqDiff, Nat.reduceAdd, Nat.reduceMul, Nat.reduceLT, Nat.reduceLeDiff, Nat.reducePow, Nat.reduceDiv, Nat.reduceMod, Nat.succ_ne_self, Nat.reduceBEq, Nat.reduceBNe, vint, TyS, TyF, q1, q2, g1, g2] <;> with_reducible rfl) (by simp only [acall, awanted, LS, SS, SX, HS, mkS_cons, mkS_nil, ↓reduceIte, eq_self', List.map_nil, beq_self_eq_true, Nat.reduceEqDiff, Nat.reduceAdd, Nat.reduceMul, Nat.reduceLT, Nat.reduceLeDiff, Nat.reducePow, Nat.reduceDiv, Nat.reduceMod, Nat.succ_ne_self, Nat.reduceBEq, Nat.reduceBNe, vint, TyS, TyF, q1, q2, g1, g2]) (by decide) Trygo79 (clone _ hwa _) ?_
    refine e_end (by simp only [asq, as0, as1, as2, awanted, aop, astore, splice, LS, SS, SX, HS, mkS_cons, mkS_nil, ↓reduceIte, eq_self', List.map_nil, beq_self_eq_true, Nat.reduceEqDiff, Nat.reduceAdd, Nat.reduceMul, Nat.reduceLT, Nat.reduceLeDiff, Nat.reducePow, Nat.reduceDiv, Nat.reduceMod, Nat.succ_ne_self, Nat.reduceBEq, Nat.reduceBNe, Tryti24, Trytf24, Trytz24, Trytp24, vint, TyS, TyF, q1, q2, g1, g2] <;> with_reducible rfl) (by decide) ?_
    repeat (refine awp_seq ?_)
    -- leaf 1 ret
    refine awp_ret ⟨.inr rfl, _, _, (ares_two (.cell 4 24) (.tmp 5) rfl (ares_cell1 Tryti24 (by decide) (by simp only [aload, LS, SS, SX, HS, mkS_cons, mkS_nil, ↓reduceIte, eq_self', List.map_nil, beq_self_eq_true, Nat.reduceEqDiff, Nat.reduceAdd, Nat.reduceMul, Nat.reduceLT, Nat.reduceLeDiff, Nat.reducePow, Nat.reduceDiv, Nat.reduceMod, Nat.succ_ne_self, Nat.reduceBEq, Nat.reduceBNe, vint, TyS, TyF, q1, q2] <;> with_reducible rfl)) (ares_tmp1 (by decide))), ?_, (by first | exact (List.append_nil _).symm | rfl)⟩
    simp only [LS, SS, SX, HS, mkS_cons, mkS_nil, ↓reduceIte, eq_self', List.map_nil, beq_self_eq_true, Nat.reduceEqDiff, Nat.reduceAdd, Nat.succ_ne_self, vint, TyS, TyF]
    simp only [appG, b0, Bool.false_eq_true, if_false, List.getD_eq_getElem?_getD, List.getElem?_eq_getElem hlt, Option.getD_some]

theorem apply_c (t : Ty) (ps : List Int) (xs : List Ty) (ht : t.W) (hx : ps.length ≤ maxLen) (hw : ∀ a ∈ xs, a.W) : PC Try.prog 24 [t.enc, .slice (ps.map vint) .none, .slice (xs.map Ty.enc) .none] (mapT (appG ps xs) t).enc := by
  refine pc_of (N := 10) Try.func24 rfl rfl (by simp) (by simp [Ty.bel, bel_ints0, bel_slice_ty]) (Ty.bel _ _) ?_
  -- region 0
  repeat (refine awp_seq ?_)
  refine e_eval (by simp only [asq, as0, as1, as2, awanted, aop, LS, SS, SX, HS, mkS_cons, mkS_nil, ↓reduceIte, eq_self', List.map_nil, beq_self_eq_true, Nat.reduceEqDiff, Nat.reduceAdd, Nat.reduceMul, Nat.reduceLT, Nat.reduceLeDiff, Nat.reducePow, Nat.reduceDiv, Nat.reduceMod, Nat.succ_ne_self, Nat.reduceBEq, Nat.reduceBNe, Tryti3, Trytz3, Trytp3, Trytk3, Tryti22, Tryte22, Trytz22, Trytp22, Tryti24, Trytf24, Trytz24, Trytp24, Tryti25, Tryte25, Trytz25, Trytp25, vint, TyS, TyF] <;> with_reducible rfl) (by decide) ?_
  -- region 1
  repeat (refine awp_seq ?_)
  refine awp_region ?_
  refine e_take 2 (by simp only [asq, as0, as1, as2, awanted, aop, aload, ajust, LS, SS, SX, HS, mkS_cons, mkS_nil, ↓reduceIte, eq_self', List.map_nil, beq_self_eq_true, Nat.reduceEqDiff, Nat.reduceAdd, Nat.reduceMul, Nat.reduceLT, Nat.reduceLeDiff, Nat.reducePow, Nat.reduceDiv, Nat.reduceMod, Nat.succ_ne_self, Nat.reduceBEq, Nat.reduceBNe, Tryti24, Trytf24, Trytz24, Trytp24, vint, TyS, TyF] <;> with_reducible rfl) (by decide) ?_
  refine aops_pure (by simp only [acall, awanted, LS, SS, SX, HS, mkS_cons, mkS_nil, ↓reduceIte, eq_self', List.map_nil, beq_self_eq_true, Nat.reduceEqDiff, Nat.reduceAdd, Nat.reduceMul, Nat.reduceLT, Nat.reduceLeDiff, Nat.reducePow, Nat.reduceDiv, Nat.reduceMod, Nat.succ_ne_self, Nat.reduceBEq, Nat.reduceBNe, vint, TyS, TyF] <;> with_reducible rfl) (by simp only [acall, awanted, LS, SS, SX, HS, mkS_cons, mkS_nil, ↓reduceIte, eq_self', List.map_nil, beq_self_eq_true, Nat.reduceEqDiff, Nat.reduceAdd, Nat.reduceMul, Nat.reduceLT, Nat.reduceLeDiff, Nat.reducePow, Nat.reduceDiv, Nat.reduceMod, Nat.succ_ne_self, Nat.reduceBEq, Nat.reduceBNe, vint, TyS, TyF]) (by decide) Trygo76 (map_k (D := fun _ => True) (rd := [(1, .row [.slice (ps.map vint) .none]), (2, .row [.slice (xs.map Ty.enc) .none])]) (g := appG ps xs) ⟨Trygo77, fun H h => by have := len_of_get (h _ (.head _)); have := len_of_get (h _ (.tail _ (.head _))); simp; exact ⟨.optr _ _ (by assumption), .optr _ _ (by assumption)⟩, fun _ _ _ _ => trivial, fun H u _ h => apply1 ps xs H 1 2 hx hw (h _ (.head _)) (h _ (.tail _ (.head _))) u⟩ _ t _ (Nat.le_refl _) ht trivial (by simp)) ?_
  refine e_end (by simp only [asq, as0, as1, as2, awanted, aop, astore, splice, LS, SS, SX, HS, mkS_cons, mkS_nil, ↓reduceIte, eq_self', List.map_nil, beq_self_eq_true, Nat.reduceEqDiff, Nat.reduceAdd, Nat.reduceMul, Nat.reduceLT, Nat.reduceLeDiff, Nat.reducePow, Nat.reduceDiv, Nat.reduceMod, Nat.succ_ne_self, Nat.reduceBEq, Nat.reduceBNe, Tryti24, Trytf24, Trytz24, Trytp24, vint, TyS, TyF] <;> with_reducible rfl) (by decide) ?_
  repeat (refine awp_seq ?_)
  -- leaf 0 ret
  refine awp_ret ⟨.inr rfl, _, (ares_cell 6 24 rfl Tryti24 (by decide) (by simp only [aload, LS, SS, SX, HS, mkS_cons, mkS_nil, ↓reduceIte, eq_self', List.map_nil, beq_self_eq_true, Nat.reduceEqDiff, Nat.reduceAdd, Nat.reduceMul, Nat.reduceLT, Nat.reduceLeDiff, Nat.reducePow, Nat.reduceDiv, Nat.reduceMod, Nat.succ_ne_self, Nat.reduceBEq, Nat.reduceBNe, vint, TyS, TyF] <;> with_reducible rfl)), ?_⟩
  exact Ty.enc_drop1 _

theorem inst1 (ps : List Int) (v : Int) (H : Heap) (i1 i2 : Nat) (hx : ps.length ≤ maxLen) (h1 : H[i1]? = some (.row [.slice (ps.map vint) .none])) (h2 : H[i2]? = some (.row [.int .i64 v])) (u : Ty) :
    ACalls Try.prog 83 [u.enc, .optr i1 0, .optr i2 0] H fun r' H' => r' = .tup [(insG ps v u).1.enc, .bool (insG ps v u).2] ∧ H' = H := by
  have q1 : ∀ L, (H ++ L)[i1]? = some (.row [.slice (ps.map vint) .none]) := fun L => by rw [List.getElem?_append_left (len_of_get h1)]; exact h1
  have q2 : ∀ L, (H ++ L)[i2]? = some (.row [.int .i64 v]) := fun L => by rw [List.getElem?_append_left (len_of_get h2)]; exact h2
  refine keeps_of (N := 23) Try.func83 rfl rfl (by simp) (.tup _ (by simp [Ty.bel, Bel.bool])) fun hb' => ?_
  -- region 0
  repeat (refine awp_seq ?_)
  refine e_eval (by simp only [asq, as0, as1, as2, awanted, aop, LS, SS, SX, HS, mkS_cons, mkS_nil, ↓reduceIte, eq_self', List.map_nil, beq_self_eq_true, Nat.reduceEqDiff, Nat.reduceAdd, Nat.reduceMul, Nat.reduceLT, Nat.reduceLeDiff, Nat.reducePow, Nat.reduceDiv, Nat.reduceMod, Nat.succ_ne_self, Nat.reduceBEq, Nat.reduceBNe, Tryti24, Trytf24, Trytz24, Trytp24, vint, TyS, TyF, q1, q2] <;> with_reducible rfl) (by decide) ?_
  -- region 1
  repeat (refine awp_seq ?_)
  refine awp_region ?_
  refine e_take 3 (by simp only [asq, as0, as1, as2, awanted, aop, aload, ajust, afldAddr, LS, SS, SX, HS, mkS_cons, mkS_nil, ↓reduceIte, eq_self', List.map_nil, beq_self_eq_true, Nat.reduceEqDiff, Nat.reduceAdd, Nat.reduceMul, Nat.reduceLT, Nat.reduceLeDiff, Nat.reducePow, Nat.reduceDiv, Nat.reduceMod, Nat.succ_ne_self, Nat.reduceBEq, Nat.reduceBNe, Tryti3, Trytz3, Trytp3, Trytk3, Tryti24, Trytf24, Trytz24, Trytp24, Tryti25, Tryte25, Trytz25, Trytp25, vint, TyS, TyF, q1, q2] <;> with_reducible rfl) (by decide) ?_
  refine aops_pure (by simp only [acall, awanted, LS, SS, SX, HS, mkS_cons, mkS_nil, ↓reduceIte, eq_self', List.map_nil, beq_self_eq_true, Nat.reduceEqDiff, Nat.reduceAdd, Nat.reduceMul, Nat.reduceLT, Nat.reduceLeDiff, Nat.reducePow, Nat.reduceDiv, Nat.reduceMod, Nat.succ_ne_self, Nat.reduceBEq, Nat.reduceBNe, vint, TyS, TyF, q1, q2] <;> with_reducible rfl) (by simp only [acall, awanted, LS, SS, SX, HS, mkS_cons, mkS_nil, ↓reduceIte, eq_self', List.map_nil, beq_self_eq_true, Nat.reduceEqDiff, Nat.reduceAdd, Nat.reduceMul, Nat.reduceLT, Nat.reduceLeDiff, Nat.reducePow, Nat.reduceDiv, Nat.reduceMod, Nat.succ_ne_self, Nat.reduceBEq, Nat.reduceBNe, vint, TyS, TyF, q1, q2]) (by decide) Trygo78 (index _ _ hx _) ?_
  refine e_end (by simp only [asq, as0, as1, as2, awanted, aop, LS, SS, SX, HS, mkS_cons, mkS_nil, ↓reduceIte, eq_self', List.map_nil, beq_self_eq_true, Nat.reduceEqDiff, Nat.reduceAdd, Nat.reduceMul, Nat.reduceLT, Nat.reduceLeDiff, Nat.reducePow, Nat.reduceDiv, Nat.reduceMod, Nat.succ_ne_self, Nat.reduceBEq, Nat.reduceBNe, vint, TyS, TyF, q1, q2] <;> with_reducible rfl) (by decide) ?_
  -- region 2
  repeat (refine awp_seq ?_)
  refine g_eval (by simp only [gsq, gs0, gs1, gs2, gcond, gop, SG, Op.operands, Call.operands, Array.toList_append, aop, afldAddr, ajust, aload, abin, LS, SS, SX, HS, mkS_cons, mkS_nil, ↓reduceIte, eq_self', List.map_nil, beq_self_eq_true, Nat.reduceEqDiff, Nat.reduceAdd, Nat.reduceMul, Nat.reduceLT, Nat.reduceLeDiff, Nat.reducePow, Nat.reduceDiv, Nat.reduceMod, Nat.succ_ne_self, Nat.reduceBEq, Nat.reduceBNe, Tryti3, Trytz3, Trytp3, Trytk3, Tryti24, Trytf24, Trytz24, Trytp24, vint, TyS, TyF, q1, q2] <;> with_reducible rfl) (by decide) (by repeat (first | exact Fin.base _ | with_reducible apply Fin.keep | apply Fin.drop)) ?_
  repeat (refine awp_seq ?_)
  refine awp_cond rfl (by simp only [LS, SS, SX, HS, mkS_cons, mkS_nil, ↓reduceIte, eq_self', List.map_nil, beq_self_eq_true, Nat.reduceEqDiff, Nat.reduceAdd, Nat.succ_ne_self, vint, TyS, TyF, q1, q2] <;> with_reducible rfl) (fun b0 => ?_) (fun b0 => ?_)
  · -- if t17
    refine awp_sel [3, 4] (by simp only [LS, SS, SX, HS, mkS_cons, mkS_nil, ↓reduceIte, eq_self', List.map_nil, beq_self_eq_true, Nat.reduceEqDiff, Nat.reduceAdd, Nat.succ_ne_self, vint, TyS, TyF, q1, q2] <;> with_reducible rfl) ?_
    -- region 3
    repeat (refine awp_seq ?_)
    refine e_eval (by simp only [asq, as0, as1, as2, awanted, aop, aload, ajust, astore, splice, LS, SS, SX, HS, mkS_cons, mkS_nil, ↓reduceIte, eq_self', List.map_nil, beq_self_eq_true, Nat.reduceEqDiff, Nat.reduceAdd, Nat.reduceMul, Nat.reduceLT, Nat.reduceLeDiff, Nat.reducePow, Nat.reduceDiv, Nat.reduceMod, Nat.succ_ne_self, Nat.reduceBEq, Nat.reduceBNe, Tryti24, Trytf24, Trytz24, Trytp24, vint, TyS, TyF, q1, q2] <;> with_reducible rfl) (by decide) ?_
    repeat (refine awp_seq ?_)
    -- leaf 0 ret
    refine awp_ret ⟨.inr rfl, _, _, (ares_two (.cell 4 24) (.tmp 5) rfl (ares_cell1 Tryti24 (by decide) (by simp only [aload, LS, SS, SX, HS, mkS_cons, mkS_nil, ↓reduceIte, eq_self', List.map_nil, beq_self_eq_true, Nat.reduceEqDiff, Nat.reduceAdd, Nat.reduceMul, Nat.reduceLT, Nat.reduceLeDiff, Nat.reducePow, Nat.reduceDiv, Nat.reduceMod, Nat.succ_ne_self, Nat.reduceBEq, Nat.reduceBNe, vint, TyS, TyF, q1, q2] <;> with_reducible rfl)) (ares_tmp1 (by decide))), ?_, (by first | exact (List.append_nil _).symm | rfl)⟩
    simp only [LS, SS, SX, HS, mkS_cons, mkS_nil, ↓reduceIte, eq_self', List.map_nil, beq_self_eq_true, Nat.reduceEqDiff, Nat.reduceAdd, Nat.succ_ne_self, vint, TyS, TyF]
    simp only [insG, b0, if_true]
  · -- else t17
    repeat (refine awp_seq ?_)
    refine awp_skip ?_
    refine awp_sel [2, 4, 6] (by simp only [LS, SS, SX, HS, mkS_cons, mkS_nil, ↓reduceIte, eq_self', List.map_nil, beq_self_eq_true, Nat.reduceEqDiff, Nat.reduceAdd, Nat.succ_ne_self, vint, TyS, TyF, q1, q2] <;> with_reducible rfl) ?_
    -- region 4
    repeat (refine awp_seq ?_)
    refine e_eval (by simp only [asq, as0, as1, as2, awanted, aop, aload, ajust, abin, abuild, splice, astore, LS, SS, SX, HS, mkS_cons, mkS_nil, ↓reduceIte, eq_self', List.map_nil, beq_self_eq_true, Nat.reduceEqDiff, Nat.reduceAdd, Nat.reduceMul, Nat.reduceLT, Nat.reduceLeDiff, Nat.reducePow, Nat.reduceDiv, Nat.reduceMod, Nat.succ_ne_self, Nat.reduceBEq, Nat.reduceBNe, Tryti3, Trytz3, Trytp3, Trytk3, Tryti24, Trytf24, Trytz24, Trytp24, vint, TyS, TyF, q1, q2] <;> with_reducible rfl) (by decide) ?_
    repeat (refine awp_seq ?_)
    -- leaf 1 ret
    refine awp_ret ⟨.inr rfl, _, _, (ares_two (.cell 4 24) (.tmp 5) rfl (ares_cell1 Tryti24 (by decide) (by simp only [aload, LS, SS, SX, HS, mkS_cons, mkS_nil, ↓reduceIte, eq_self', List.map_nil, beq_self_eq_true, Nat.reduceEqDiff, Nat.reduceAdd, Nat.reduceMul, Nat.reduceLT, Nat.reduceLeDiff, Nat.reducePow, Nat.reduceDiv, Nat.reduceMod, Nat.succ_ne_self, Nat.reduceBEq, Nat.reduceBNe, vint, TyS, TyF, q1, q2] <;> with_reducible rfl)) (ares_tmp1 (by decide))), ?_, (by first | exact (List.append_nil _).symm | rfl)⟩
    simp only [LS, SS, SX, HS, mkS_cons, mkS_nil, ↓reduceIte, eq_self', List.map_nil, beq_self_eq_true, Nat.reduceEqDiff, Nat.reduceAdd, Nat.succ_ne_self, vint, TyS, TyF]
    simp only [insG, b0, Bool.false_eq_true, if_false]

theorem inst_c (t : Ty) (ps : List Int) (v : Int) (ht : t.W) (hx : ps.length ≤ maxLen) : PC Try.prog 28 [t.enc, .slice (ps.map vint) .none, vint v] (mapT (insG ps v) t).enc := by
  refine pc_of (N := 10) Try.func28 rfl rfl (by simp) (by simp [Ty.bel, bel_ints0, Bel.int]) (Ty.bel _ _) ?_
  -- region 0
  repeat (refine awp_seq ?_)
  refine e_eval (by simp only [asq, as0, as1, as2, awanted, aop, LS, SS, SX, HS, mkS_cons, mkS_nil, ↓reduceIte, eq_self', List.map_nil, beq_self_eq_true, Nat.reduceEqDiff, Nat.reduceAdd, Nat.reduceMul, Nat.reduceLT, Nat.reduceLeDiff, Nat.reducePow, Nat.reduceDiv, Nat.reduceMod, Nat.succ_ne_self, Nat.reduceBEq, Nat.reduceBNe, Tryti3, Trytz3, Trytp3, Trytk3, Tryti24, Trytf24, Trytz24, Trytp24, Tryti25, Tryte25, Trytz25, Trytp25, vint, TyS, TyF] <;> with_reducible rfl) (by decide) ?_
  -- region 1
  repeat (refine awp_seq ?_)
  refine awp_region ?_
  refine e_take 2 (by simp only [asq, as0, as1, as2, awanted, aop, aload, ajust, LS, SS, SX, HS, mkS_cons, mkS_nil, ↓reduceIte, eq_self', List.map_nil, beq_self_eq_true, Nat.reduceEqDiff, Nat.reduceAdd, Nat.reduceMul, Nat.reduceLT, Nat.reduceLeDiff, Nat.reducePow, Nat.reduceDiv, Nat.reduceMod, Nat.succ_ne_self, Nat.reduceBEq, Nat.reduceBNe, Tryti24, Trytf24, Trytz24, Trytp24, vint, TyS, TyF] <;> with_reducible rfl) (by decide) ?_
  refine aops_pure (by simp only [acall, awanted, LS, SS, SX, HS, mkS_cons, mkS_nil, ↓reduceIte, eq_self', List.map_nil, beq_self_eq_true, Nat.reduceEqDiff, Nat.reduceAdd, Nat.reduceMul, Nat.reduceLT, Nat.reduceLeDiff, Nat.reducePow, Nat.reduceDiv, Nat.reduceMod, Nat.succ_ne_self, Nat.reduceBEq, Nat.reduceBNe, vint, TyS, TyF] <;> with_reducible rfl) (by simp only [acall, awanted, LS, SS, SX, HS, mkS_cons, mkS_nil, ↓reduceIte, eq_self', List.map_nil, beq_self_eq_true, Nat.reduceEqDiff, Nat.reduceAdd, Nat.reduceMul, Nat.reduceLT, Nat.reduceLeDiff, Nat.reducePow, Nat.reduceDiv, Nat.reduceMod, Nat.succ_ne_self, Nat.reduceBEq, Nat.reduceBNe, vint, TyS, TyF]) (by decide) Trygo76 (map_k (D := fun _ => True) (rd := [(1, .row [.slice (ps.map vint) .none]), (2, .row [vint v])]) (g := insG ps v) ⟨Trygo83, fun H h => by have := len_of_get (h _ (.head _)); have := len_of_get (h _ (.tail _ (.head _))); simp; exact ⟨.optr _ _ (by assumption), .optr _ _ (by assumption)⟩, fun _ _ _ _ => trivial, fun H u _ h => inst1 ps v H 1 2 hx (h _ (.head _)) (h _ (.tail _ (.head _))) u⟩ _ t _ (Nat.le_refl _) ht trivial (by simp)) ?_
  refine e_end (by simp only [asq, as0, as1, as2, awanted, aop, astore, splice, LS, SS, SX, HS, mkS_cons, mkS_nil, ↓reduceIte, eq_self', List.map_nil, beq_self_eq_true, Nat.reduceEqDiff, Nat.reduceAdd, Nat.reduceMul, Nat.reduceLT, Nat.reduceLeDiff, Nat.reducePow, Nat.reduceDiv, Nat.reduceMod, Nat.succ_ne_self, Nat.reduceBEq, Nat.reduceBNe, Tryti24, Trytf24, Trytz24, Trytp24, vint, TyS, TyF] <;> with_reducible rfl) (by decide) ?_
  repeat (refine awp_seq ?_)
  -- leaf 0 ret
  refine awp_ret ⟨.inr rfl, _, (ares_cell 6 24 rfl Tryti24 (by decide) (by simp only [aload, LS, SS, SX, HS, mkS_cons, mkS_nil, ↓reduceIte, eq_self', List.map_nil, beq_self_eq_true, Nat.reduceEqDiff, Nat.reduceAdd, Nat.reduceMul, Nat.reduceLT, Nat.reduceLeDiff, Nat.reducePow, Nat.reduceDiv, Nat.reduceMod, Nat.succ_ne_self, Nat.reduceBEq, Nat.reduceBNe, vint, TyS, TyF] <;> with_reducible rfl)), ?_⟩
  exact Ty.enc_drop1 _

theorem cpK1 (p : Int) (H : Heap) (id : Nat) (h1 : H[id]? = some (.row [.int .i64 p])) (u : Ty) (b : Bool) (ih : PC Try.prog 27 [u.enc, vint p] (.bool b)) : ACalls Try.prog 82 [u.enc, .optr id 0] H fun r' H' => r' = .bool b ∧ H' = H := by
  have q1 : ∀ L, (H ++ L)[id]? = some (.row [.int .i64 p]) := fun L => by rw [List.getElem?_append_left (len_of_get h1)]; exact h1
  refine keeps_of (N := 7) Try.func82 rfl rfl (by simp) (.bool _) fun hb' => ?_
  -- region 0
  repeat (refine awp_seq ?_)
  refine e_eval (by simp only [asq, as0, as1, as2, awanted, aop, LS, SS, SX, HS, mkS_cons, mkS_nil, ↓reduceIte, eq_self', List.map_nil, beq_self_eq_true, Nat.reduceEqDiff, Nat.reduceAdd, Nat.reduceMul, Nat.reduceLT, Nat.reduceLeDiff, Nat.reducePow, Nat.reduceDiv, Nat.reduceMod, Nat.succ_ne_self, Nat.reduceBEq, Nat.reduceBNe, Tryti24, Trytf24, Trytz24, Trytp24, vint, TyS, TyF, q1] <;> with_reducible rfl) (by decide) ?_
  -- region 1
  repeat (refine awp_seq ?_)
  refine awp_region ?_
  refine e_take 2 (by simp only [asq, as0, as1, as2, awanted, aop, aload, ajust, LS, SS, SX, HS, mkS_cons, mkS_nil, ↓reduceIte, eq_self', List.map_nil, beq_self_eq_true, Nat.reduceEqDiff, Nat.reduceAdd, Nat.reduceMul, Nat.reduceLT, Nat.reduceLeDiff, Nat.reducePow, Nat.reduceDiv, Nat.reduceMod, Nat.succ_ne_self, Nat.reduceBEq, Nat.reduceBNe, Tryti3, Trytz3, Trytp3, Trytk3, Tryti24, Trytf24, Trytz24, Trytp24, vint, TyS, TyF, q1] <;> with_reducible rfl) (by decide) ?_
  refine aops_pure (by simp only [acall, awanted, LS, SS, SX, HS, mkS_cons, mkS_nil, ↓reduceIte, eq_self', List.map_nil, beq_self_eq_true, Nat.reduceEqDiff, Nat.reduceAdd, Nat.reduceMul, Nat.reduceLT, Nat.reduceLeDiff, Nat.reducePow, Nat.reduceDiv, Nat.reduceMod, Nat.succ_ne_self, Nat.reduceBEq, Nat.reduceBNe, vint, TyS, TyF, q1] <;> with_reducible rfl) (by simp only [acall, awanted, LS, SS, SX, HS, mkS_cons, mkS_nil, ↓reduceIte, eq_self', List.map_nil, beq_self_eq_true, Nat.reduceEqDiff, Nat.reduceAdd, Nat.reduceMul, Nat.reduceLT, Nat.reduceLeDiff, Nat.reducePow, Nat.reduceDiv, Nat.reduceMod, Nat.succ_ne_self, Nat.reduceBEq, Nat.reduceBNe, vint, TyS, TyF, q1]) (by decide) Trygo27 (ih _) ?_
  refine e_end (by simp only [asq, as0, as1, as2, awanted, aop, LS, SS, SX, HS, mkS_cons, mkS_nil, ↓reduceIte, eq_self', List.map_nil, beq_self_eq_true, Nat.reduceEqDiff, Nat.reduceAdd, Nat.reduceMul, Nat.reduceLT, Nat.reduceLeDiff, Nat.reducePow, Nat.reduceDiv, Nat.reduceMod, Nat.succ_ne_self, Nat.reduceBEq, Nat.reduceBNe, vint, TyS, TyF, q1] <;> with_reducible rfl) (by decide) ?_
  repeat (refine awp_seq ?_)
  -- leaf 0 ret
  refine awp_ret ⟨.inr rfl, _, _, rfl, ?_, (by first | exact (List.append_nil _).symm | rfl)⟩
  simp only [LS, SS, SX, HS, mkS_cons, mkS_nil, ↓reduceIte, eq_self', List.map_nil, beq_self_eq_true, Nat.reduceEqDiff, Nat.reduceAdd, Nat.succ_ne_self, vint, TyS, TyF]

theorem cpK_k (p : Int) : ∀ (k : Nat) (t : Ty), t.size ≤ k → t.W → PC Try.prog 27 [t.enc, vint p] (.bool (cpar p t))
  | 0, t, h, _ => by cases t; simp [Ty.size] at h
  | k + 1, t, h, hw => by
    refine pc_of (N := 20) Try.func27 rfl rfl (by simp) (by simp [Ty.bel, Bel.int]) (.bool _) ?_
    -- region 0
    repeat (refine awp_seq ?_)
    refine e_eval (by simp only [asq, as0, as1, as2, awanted, aop, LS, SS, SX, HS, mkS_cons, mkS_nil, ↓reduceIte, eq_self', List.map_nil, beq_self_eq_true, Nat.reduceEqDiff, Nat.reduceAdd, Nat.reduceMul, Nat.reduceLT, Nat.reduceLeDiff, Nat.reducePow, Nat.reduceDiv, Nat.reduceMod, Nat.succ_ne_self, Nat.reduceBEq, Nat.reduceBNe, Tryti3, Trytz3, Trytp3, Trytk3, Tryti24, Trytf24, Trytz24, Trytp24, vint, TyS, TyF] <;> with_reducible rfl) (by decide) ?_
    -- region 1
    repeat (refine awp_seq ?_)
    refine awp_region ?_
    refine aops_gstart ?_
    refine g_take 13 (by simp only [gsq, gs0, gs1, gs2, gcond, gop, SG, Op.operands, Call.operands, Array.toList_append, aop, afldAddr, ajust, aload, abin, LS, SS, SX, HS, mkS_cons, mkS_nil, ↓reduceIte, eq_self', List.map_nil, beq_self_eq_true, Nat.reduceEqDiff, Nat.reduceAdd, Nat.reduceMul, Nat.reduceLT, Nat.reduceLeDiff, Nat.reducePow, Nat.reduceDiv, Nat.reduceMod, Nat.succ_ne_self, Nat.reduceBEq, Nat.reduceBNe, Tryti3, Trytz3, Trytp3, Trytk3, Tryti22, Tryte22, Trytz22, Trytp22, Tryti24, Trytf24, Trytz24, Trytp24, vint, TyS, TyF] <;> with_reducible rfl) (by decide) ?_
    refine aops_gpure (by simp only [acall, gcond, SG, Op.operands, Call.operands, Array.toList_append, LS, SS, SX, HS, mkS_cons, mkS_nil, ↓reduceIte, eq_self', List.map_nil, beq_self_eq_true, Nat.reduceEqDiff, Nat.reduceAdd, Nat.reduceMul, Nat.reduceLT, Nat.reduceLeDiff, Nat.reducePow, Nat.reduceDiv, Nat.reduceMod, Nat.succ_ne_self, Nat.reduceBEq, Nat.reduceBNe, vint, TyS, TyF] <;> with_reducible rfl) (by simp only [acall, gcond, SG, Op.operands, Call.operands, Array.toList_append, LS, SS, SX, HS, mkS_cons, mkS_nil, ↓reduceIte, eq_self', List.map_nil, beq_self_eq_true, Nat.reduceEqDiff, Nat.reduceAdd, Nat.reduceMul, Nat.reduceLT, Nat.reduceLeDiff, Nat.reducePow, Nat.reduceDiv, Nat.reduceMod, Nat.succ_ne_self, Nat.reduceBEq, Nat.reduceBNe, vint, TyS, TyF] <;> with_reducible rfl) (by simp only [acall, gcond, SG, Op.operands, Call.operands, Array.toList_append, LS, SS, SX, HS, mkS_cons, mkS_nil, ↓reduceIte, eq_self', List.map_nil, beq_self_eq_true, Nat.reduceEqDiff, Nat.reduceAdd, Nat.reduceMul, Nat.reduceLT, Nat.reduceLeDiff, Nat.reducePow, Nat.reduceDiv, Nat.reduceMod, Nat.succ_ne_self, Nat.reduceBEq, Nat.reduceBNe, vint, TyS, TyF]) (by decide) Trygo81 (fun hc => containsFuncTy (p := cpar p) ⟨Trygo82, by simp; exact .optr _ _ (by simp), fun u hu => cpK1 p _ 1 rfl u _ (cpK_k p k u (by have := Ty.size_arg hu; omega) (hw.arg hu))⟩ hw.lenMax) ?_
    refine g_end (by simp only [gsq, gs0, gs1, gs2, gcond, gop, SG, Op.operands, Call.operands, Array.toList_append, aop, LS, SS, SX, HS, mkS_cons, mkS_nil, ↓reduceIte, eq_self', List.map_nil, beq_self_eq_true, Nat.reduceEqDiff, Nat.reduceAdd, Nat.reduceMul, Nat.reduceLT, Nat.reduceLeDiff, Nat.reducePow, Nat.reduceDiv, Nat.reduceMod, Nat.succ_ne_self, Nat.reduceBEq, Nat.reduceBNe, vint, TyS, TyF] <;> with_reducible rfl) (by decide) (by repeat (first | exact Fin.base _ | with_reducible apply Fin.keep | apply Fin.drop)) ?_
    repeat (refine awp_seq ?_)
    -- leaf 0 ret
    refine awp_ret ⟨.inr rfl, _, rfl, ?_⟩
    simp only [LS, SS, SX, HS, mkS_cons, mkS_nil, ↓reduceIte, eq_self', List.map_nil, beq_self_eq_true, Nat.reduceEqDiff, Nat.reduceAdd, Nat.succ_ne_self, vint, TyS, TyF]
    rw [cpar_eq]

theorem cpK (t : Ty) (p : Int) (hw : t.W) : PC Try.prog 27 [t.enc, vint p] (.bool (cpar p t)) := cpK_k p t.size t (Nat.le_refl _) hw

theorem cpT1 (p : Int) (H : Heap) (id : Nat) (h1 : H[id]? = some (.row [.int .i64 p])) (u : Ty) (b : Bool) (ih : PC Try.prog 145 [u.enc, vint p] (.bool b)) : ACalls Try.prog 162 [u.enc, .optr id 0] H fun r' H' => r' = .bool b ∧ H' = H := by
  have q1 : ∀ L, (H ++ L)[id]? = some (.row [.int .i64 p]) := fun L => by rw [List.getElem?_append_left (len_of_get h1)]; exact h1
  refine keeps_of (N := 7) Try.func162 rfl rfl (by simp) (.bool _) fun hb' => ?_
  -- region 0
  repeat (refine awp_seq ?_)
  refine e_eval (by simp only [asq, as0, as1, as2, awanted, aop, LS, SS, SX, HS, mkS_cons, mkS_nil, ↓reduceIte, eq_self', List.map_nil, beq_self_eq_true, Nat.reduceEqDiff, Nat.reduceAdd, Nat.reduceMul, Nat.reduceLT, Nat.reduceLeDiff, Nat.reducePow, Nat.reduceDiv, Nat.reduceMod, Nat.succ_ne_self, Nat.reduceBEq, Nat.reduceBNe, Tryti24, Trytf24, Trytz24, Trytp24, vint, TyS, TyF, q1] <;> with_reducible rfl) (by decide) ?_
  -- region 1
  repeat (refine awp_seq ?_)
  refine awp_region ?_
  refine e_take 2 (by simp only [asq, as0, as1, as2, awanted, aop, aload, ajust, LS, SS, SX, HS, mkS_cons, mkS_nil, ↓reduceIte, eq_self', List.map_nil, beq_self_eq_true, Nat.reduceEqDiff, Nat.reduceAdd, Nat.reduceMul, Nat.reduceLT, Nat.reduceLeDiff, Nat.reducePow, Nat.reduceDiv, Nat.reduceMod, Nat.succ_ne_self, Nat.reduceBEq, Nat.reduceBNe, Tryti3, Trytz3, Trytp3, Trytk3, Tryti24, Trytf24, Trytz24, Trytp24, vint, TyS, TyF, q1] <;> with_reducible rfl) (by decide) ?_
  refine aops_pure (by simp only [acall, awanted, LS, SS, SX, HS, mkS_cons, mkS_nil, ↓reduceIte, eq_self', List.map_nil, beq_self_eq_true, Nat.reduceEqDiff, Nat.reduceAdd, Nat.reduceMul, Nat.reduceLT, Nat.reduceLeDiff, Nat.reducePow, Nat.reduceDiv, Nat.reduceMod, Nat.succ_ne_self, Nat.reduceBEq, Nat.reduceBNe, vint, TyS, TyF, q1] <;> with_reducible rfl) (by simp only [acall, awanted, LS, SS, SX, HS, mkS_cons, mkS_nil, ↓reduceIte, eq_self', List.map_nil, beq_self_eq_true, Nat.reduceEqDiff, Nat.reduceAdd, Nat.reduceMul, Nat.reduceLT, Nat.reduceLeDiff, Nat.reducePow, Nat.reduceDiv, Nat.reduceMod, Nat.succ_ne_self, Nat.reduceBEq, Nat.reduceBNe, vint, TyS, TyF, q1]) (by decide) Trygo145 (ih _) ?_
  refine e_end (by simp only [asq, as0, as1, as2, awanted, aop, LS, SS, SX, HS, mkS_cons, mkS_nil, ↓reduceIte, eq_self', List.map_nil, beq_self_eq_true, Nat.reduceEqDiff, Nat.reduceAdd, Nat.reduceMul, Nat.reduceLT, Nat.reduceLeDiff, Nat.reducePow, Nat.reduceDiv, Nat.reduceMod, Nat.succ_ne_self, Nat.reduceBEq, Nat.reduceBNe, vint, TyS, TyF, q1] <;> with_reducible rfl) (by decide) ?_
  repeat (refine awp_seq ?_)
  -- leaf 0 ret
  refine awp_ret ⟨.inr rfl, _, _, rfl, ?_, (by first | exact (List.append_nil _).symm | rfl)⟩
  simp only [LS, SS, SX, HS, mkS_cons, mkS_nil, ↓reduceIte, eq_self', List.map_nil, beq_self_eq_true, Nat.reduceEqDiff, Nat.reduceAdd, Nat.succ_ne_self, vint, TyS, TyF]

theorem cpT_k (p : Int) : ∀ (k : Nat) (t : Ty), t.size ≤ k → t.W → PC Try.prog 145 [t.enc, vint p] (.bool (cpar p t))
  | 0, t, h, _ => by cases t; simp [Ty.size] at h
  | k + 1, t, h, hw => by
    refine pc_of (N := 20) Try.func145 rfl rfl (by simp) (by simp [Ty.bel, Bel.int]) (.bool _) ?_
    -- region 0
    repeat (refine awp_seq ?_)
    refine e_eval (by simp only [asq, as0, as1, as2, awanted, aop, LS, SS, SX, HS, mkS_cons, mkS_nil, ↓reduceIte, eq_self', List.map_nil, beq_self_eq_true, Nat.reduceEqDiff, Nat.reduceAdd, Nat.reduceMul, Nat.reduceLT, Nat.reduceLeDiff, Nat.reducePow, Nat.reduceDiv, Nat.reduceMod, Nat.succ_ne_self, Nat.reduceBEq, Nat.reduceBNe, Tryti3, Trytz3, Trytp3, Trytk3, Tryti24, Trytf24, Trytz24, Trytp24, vint, TyS, TyF] <;> with_reducible rfl) (by decide) ?_
    -- region 1
    repeat (refine awp_seq ?_)
    refine awp_region ?_
    refine aops_gstart ?_
    refine g_take 13 (by simp only [gsq, gs0, gs1, gs2, gcond, gop, SG, Op.operands, Call.operands, Array.toList_append, aop, afldAddr, ajust, aload, abin, LS, SS, SX, HS, mkS_cons, mkS_nil, ↓reduceIte, eq_self', List.map_nil, beq_self_eq_true, Nat.reduceEqDiff, Nat.reduceAdd, Nat.reduceMul, Nat.reduceLT, Nat.reduceLeDiff, Nat.reducePow, Nat.reduceDiv, Nat.reduceMod, Nat.succ_ne_self, Nat.reduceBEq, Nat.reduceBNe, Tryti3, Trytz3, Trytp3, Trytk3, Tryti22, Tryte22, Trytz22, Trytp22, Tryti24, Trytf24, Trytz24, Trytp24, vint, TyS, TyF] <;> with_reducible rfl) (by decide) ?_
    refine aops_gpure (by simp only [acall, gcond, SG, Op.operands, Call.operands, Array.toList_append, LS, SS, SX, HS, mkS_cons, mkS_nil, ↓reduceIte, eq_self', List.map_nil, beq_self_eq_true, Nat.reduceEqDiff, Nat.reduceAdd, Nat.reduceMul, Nat.reduceLT, Nat.reduceLeDiff, Nat.reducePow, Nat.reduceDiv, Nat.reduceMod, Nat.succ_ne_self, Nat.reduceBEq, Nat.reduceBNe, vint, TyS, TyF] <;> with_reducible rfl) (by simp only [acall, gcond, SG, Op.operands, Call.operands, Array.toList_append, LS, SS, SX, HS, mkS_cons, mkS_nil, ↓reduceIte, eq_self', List.map_nil, beq_self_eq_true, Nat.reduceEqDiff, Nat.reduceAdd, Nat.reduceMul, Nat.reduceLT, Nat.reduceLeDiff, Nat.reducePow, Nat.reduceDiv, Nat.reduceMod, Nat.succ_ne_self, Nat.reduceBEq, Nat.reduceBNe, vint, TyS, TyF] <;> with_reducible rfl) (by simp only [acall, gcond, SG, Op.operands, Call.operands, Array.toList_append, LS, SS, SX, HS, mkS_cons, mkS_nil, ↓reduceIte, eq_self', List.map_nil, beq_self_eq_true, Nat.reduceEqDiff, Nat.reduceAdd, Nat.reduceMul, Nat.reduceLT, Nat.reduceLeDiff, Nat.reducePow, Nat.reduceDiv, Nat.reduceMod, Nat.succ_ne_self, Nat.reduceBEq, Nat.reduceBNe, vint, TyS, TyF]) (by decide) Trygo81 (fun hc => containsFuncTy (p := cpar p) ⟨Trygo162, by simp; exact .optr _ _ (by simp), fun u hu => cpT1 p _ 1 rfl u _ (cpT_k p k u (by have := Ty.size_arg hu; omega) (hw.arg hu))⟩ hw.lenMax) ?_
    refine g_end (by simp only [gsq, gs0, gs1, gs2, gcond, gop, SG, Op.operands, Call.operands, Array.toList_append, aop, LS, SS, SX, HS, mkS_cons, mkS_nil, ↓reduceIte, eq_self', List.map_nil, beq_self_eq_true, Nat.reduceEqDiff, Nat.reduceAdd, Nat.reduceMul, Nat.reduceLT, Nat.reduceLeDiff, Nat.reducePow, Nat.reduceDiv, Nat.reduceMod, Nat.succ_ne_self, Nat.reduceBEq, Nat.reduceBNe, vint, TyS, TyF] <;> with_reducible rfl) (by decide) (by repeat (first | exact Fin.base _ | with_reducible apply Fin.keep | apply Fin.drop)) ?_
    repeat (refine awp_seq ?_)
    -- leaf 0 ret
    refine awp_ret ⟨.inr rfl, _, rfl, ?_⟩
    simp only [LS, SS, SX, HS, mkS_cons, mkS_nil, ↓reduceIte, eq_self', List.map_nil, beq_self_eq_true, Nat.reduceEqDiff, Nat.reduceAdd, Nat.succ_ne_self, vint, TyS, TyF]
    rw [cpar_eq]

theorem cpT (t : Ty) (p : Int) (hw : t.W) : PC Try.prog 145 [t.enc, vint p] (.bool (cpar p t)) := cpT_k p t.size t (Nat.le_refl _) hw

theorem signores1 (t : Ty) (ht : t.W) (H : Heap) (id : Nat) (h1 : H[id]? = some (.row t.enc.cells)) (p : Int) : ACalls Try.prog 26 [vint p, .optr id 0] H fun r' H' => r' = .bool (cpar p t) ∧ H' = H := by
  simp only [TyS] at h1
  have q1 : ∀ L, (H ++ L)[id]? = some (.row [.int .i64 t.kind, .int .i64 t.id, .slice (t.args.map Ty.enc) .none]) := fun L => by rw [List.getElem?_append_left (len_of_get h1)]; exact h1
  refine keeps_of (N := 7) Try.func26 rfl rfl (by simp) (.bool _) fun hb' => ?_
  -- region 0
  repeat (refine awp_seq ?_)
  refine e_eval (by simp only [asq, as0, as1, as2, awanted, aop, LS, SS, SX, HS, mkS_cons, mkS_nil, ↓reduceIte, eq_self', List.map_nil, beq_self_eq_true, Nat.reduceEqDiff, Nat.reduceAdd, Nat.reduceMul, Nat.reduceLT, Nat.reduceLeDiff, Nat.reducePow, Nat.reduceDiv, Nat.reduceMod, Nat.succ_ne_self, Nat.reduceBEq, Nat.reduceBNe, vint, TyS, TyF, q1, h1] <;> with_reducible rfl) (by decide) ?_
  -- region 1
  repeat (refine awp_seq ?_)
  refine awp_region ?_
  refine e_take 2 (by simp only [asq, as0, as1, as2, awanted, aop, aload, ajust, LS, SS, SX, HS, mkS_cons, mkS_nil, ↓reduceIte, eq_self', List.map_nil, beq_self_eq_true, Nat.reduceEqDiff, Nat.reduceAdd, Nat.reduceMul, Nat.reduceLT, Nat.reduceLeDiff, Nat.reducePow, Nat.reduceDiv, Nat.reduceMod, Nat.succ_ne_self, Nat.reduceBEq, Nat.reduceBNe, Tryti24, Trytf24, Trytz24, Trytp24, vint, TyS, TyF, q1, h1] <;> with_reducible rfl) (by decide) ?_
  refine aops_pure (by simp only [acall, awanted, LS, SS, SX, HS, mkS_cons, mkS_nil, ↓reduceIte, eq_self', List.map_nil, beq_self_eq_true, Nat.reduceEqDiff, Nat.reduceAdd, Nat.reduceMul, Nat.reduceLT, Nat.reduceLeDiff, Nat.reducePow, Nat.reduceDiv, Nat.reduceMod, Nat.succ_ne_self, Nat.reduceBEq, Nat.reduceBNe, vint, TyS, TyF, q1, h1] <;> with_reducible rfl) (by simp only [acall, awanted, LS, SS, SX, HS, mkS_cons, mkS_nil, ↓reduceIte, eq_self', List.map_nil, beq_self_eq_true, Nat.reduceEqDiff, Nat.reduceAdd, Nat.reduceMul, Nat.reduceLT, Nat.reduceLeDiff, Nat.reducePow, Nat.reduceDiv, Nat.reduceMod, Nat.succ_ne_self, Nat.reduceBEq, Nat.reduceBNe, vint, TyS, TyF, q1, h1]) (by decide) Trygo27 (cpK t p ht _) ?_
  refine e_end (by simp only [asq, as0, as1, as2, awanted, aop, LS, SS, SX, HS, mkS_cons, mkS_nil, ↓reduceIte, eq_self', List.map_nil, beq_self_eq_true, Nat.reduceEqDiff, Nat.reduceAdd, Nat.reduceMul, Nat.reduceLT, Nat.reduceLeDiff, Nat.reducePow, Nat.reduceDiv, Nat.reduceMod, Nat.succ_ne_self, Nat.reduceBEq, Nat.reduceBNe, vint, TyS, TyF, q1, h1] <;> with_reducible rfl) (by decide) ?_
  repeat (refine awp_seq ?_)
  -- leaf 0 ret
  refine awp_ret ⟨.inr rfl, _, _, rfl, ?_, (by first | exact (List.append_nil _).symm | rfl)⟩
  simp only [LS, SS, SX, HS, mkS_cons, mkS_nil, ↓reduceIte, eq_self', List.map_nil, beq_self_eq_true, Nat.reduceEqDiff, Nat.reduceAdd, Nat.succ_ne_self, vint, TyS, TyF]

theorem typK (k i : Int) (us : List Ty) : PC Try.prog 71 [vint k, vint i, .slice (us.map Ty.enc) .none] (Ty.mk k i us).enc := by
  refine pc_of (N := 11) Try.func71 rfl rfl (by simp) (by simp [Bel.int, bel_slice_ty]) (Ty.bel _ _) ?_
  -- region 0
  repeat (refine awp_seq ?_)
  refine e_eval (by simp only [asq, as0, as1, as2, awanted, aop, LS, SS, SX, HS, mkS_cons, mkS_nil, ↓reduceIte, eq_self', List.map_nil, beq_self_eq_true, Nat.reduceEqDiff, Nat.reduceAdd, Nat.reduceMul, Nat.reduceLT, Nat.reduceLeDiff, Nat.reducePow, Nat.reduceDiv, Nat.reduceMod, Nat.succ_ne_self, Nat.reduceBEq, Nat.reduceBNe, Tryti24, Trytf24, Trytz24, Trytp24, vint, TyS, TyF] <;> with_reducible rfl) (by decide) ?_
  -- region 1
  repeat (refine awp_seq ?_)
  refine e_eval (by simp only [asq, as0, as1, as2, awanted, aop, abuild, splice, astore, LS, SS, SX, HS, mkS_cons, mkS_nil, ↓reduceIte, eq_self', List.map_nil, beq_self_eq_true, Nat.reduceEqDiff, Nat.reduceAdd, Nat.reduceMul, Nat.reduceLT, Nat.reduceLeDiff, Nat.reducePow, Nat.reduceDiv, Nat.reduceMod, Nat.succ_ne_self, Nat.reduceBEq, Nat.reduceBNe, Tryti24, Trytf24, Trytz24, Trytp24, vint, TyS, TyF] <;> with_reducible rfl) (by decide) ?_
  repeat (refine awp_seq ?_)
  -- leaf 0 ret
  refine awp_ret ⟨.inr rfl, _, (ares_cell 6 24 rfl Tryti24 (by decide) (by simp only [aload, LS, SS, SX, HS, mkS_cons, mkS_nil, ↓reduceIte, eq_self', List.map_nil, beq_self_eq_true, Nat.reduceEqDiff, Nat.reduceAdd, Nat.reduceMul, Nat.reduceLT, Nat.reduceLeDiff, Nat.reducePow, Nat.reduceDiv, Nat.reduceMod, Nat.succ_ne_self, Nat.reduceBEq, Nat.reduceBNe, vint, TyS, TyF] <;> with_reducible rfl)), ?_⟩
  simp only [LS, SS, SX, HS, mkS_cons, mkS_nil, ↓reduceIte, eq_self', List.map_nil, beq_self_eq_true, Nat.reduceEqDiff, Nat.reduceAdd, Nat.succ_ne_self, vint, TyS, TyF]

theorem typeParamK (i : Int) : PC Try.prog 72 [vint i] (Ty.mk 2 i []).enc := by
  refine pc_of (N := 5) Try.func72 rfl rfl (by simp) (by simp [Bel.int]) (Ty.bel _ _) ?_
  -- region 0
  repeat (refine awp_seq ?_)
  refine e_eval (by simp only [asq, as0, as1, as2, awanted, aop, LS, SS, SX, HS, mkS_cons, mkS_nil, ↓reduceIte, eq_self', List.map_nil, beq_self_eq_true, Nat.reduceEqDiff, Nat.reduceAdd, Nat.reduceMul, Nat.reduceLT, Nat.reduceLeDiff, Nat.reducePow, Nat.reduceDiv, Nat.reduceMod, Nat.succ_ne_self, Nat.reduceBEq, Nat.reduceBNe, Tryti24, Trytf24, Trytz24, Trytp24, vint, TyS, TyF] <;> with_reducible rfl) (by decide) ?_
  -- region 1
  repeat (refine awp_seq ?_)
  refine awp_region ?_
  refine e_take 1 (by simp only [asq, as0, as1, as2, awanted, aop, LS, SS, SX, HS, mkS_cons, mkS_nil, ↓reduceIte, eq_self', List.map_nil, beq_self_eq_true, Nat.reduceEqDiff, Nat.reduceAdd, Nat.reduceMul, Nat.reduceLT, Nat.reduceLeDiff, Nat.reducePow, Nat.reduceDiv, Nat.reduceMod, Nat.succ_ne_self, Nat.reduceBEq, Nat.reduceBNe, vint, TyS, TyF] <;> with_reducible rfl) (by decide) ?_
  refine aops_pure (by simp only [acall, awanted, LS, SS, SX, HS, mkS_cons, mkS_nil, ↓reduceIte, eq_self', List.map_nil, beq_self_eq_true, Nat.reduceEqDiff, Nat.reduceAdd, Nat.reduceMul, Nat.reduceLT, Nat.reduceLeDiff, Nat.reducePow, Nat.reduceDiv, Nat.reduceMod, Nat.succ_ne_self, Nat.reduceBEq, Nat.reduceBNe, vint, TyS, TyF] <;> with_reducible rfl) (by simp only [acall, awanted, LS, SS, SX, HS, mkS_cons, mkS_nil, ↓reduceIte, eq_self', List.map_nil, beq_self_eq_true, Nat.reduceEqDiff, Nat.reduceAdd, Nat.reduceMul, Nat.reduceLT, Nat.reduceLeDiff, Nat.reducePow, Nat.reduceDiv, Nat.reduceMod, Nat.succ_ne_self, Nat.reduceBEq, Nat.reduceBNe, vint, TyS, TyF]) (by decide) Trygo71 (typK 2 _ [] _) ?_
  refine e_end (by simp only [asq, as0, as1, as2, awanted, aop, astore, splice, LS, SS, SX, HS, mkS_cons, mkS_nil, ↓reduceIte, eq_self', List.map_nil, beq_self_eq_true, Nat.reduceEqDiff, Nat.reduceAdd, Nat.reduceMul, Nat.reduceLT, Nat.reduceLeDiff, Nat.reducePow, Nat.reduceDiv, Nat.reduceMod, Nat.succ_ne_self, Nat.reduceBEq, Nat.reduceBNe, Tryti24, Trytf24, Trytz24, Trytp24, vint, TyS, TyF] <;> with_reducible rfl) (by decide) ?_
  repeat (refine awp_seq ?_)
  -- leaf 0 ret
  refine awp_ret ⟨.inr rfl, _, (ares_cell 2 24 rfl Tryti24 (by decide) (by simp only [aload, LS, SS, SX, HS, mkS_cons, mkS_nil, ↓reduceIte, eq_self', List.map_nil, beq_self_eq_true, Nat.reduceEqDiff, Nat.reduceAdd, Nat.reduceMul, Nat.reduceLT, Nat.reduceLeDiff, Nat.reducePow, Nat.reduceDiv, Nat.reduceMod, Nat.succ_ne_self, Nat.reduceBEq, Nat.reduceBNe, vint, TyS, TyF] <;> with_reducible rfl)), ?_⟩
  simp only [LS, SS, SX, HS, mkS_cons, mkS_nil, ↓reduceIte, eq_self', List.map_nil, beq_self_eq_true, Nat.reduceEqDiff, Nat.reduceAdd, Nat.succ_ne_self, vint, TyS, TyF]

theorem typeVarK (i : Int) : PC Try.prog 67 [vint i] (Ty.mk 1 i []).enc := by
  refine pc_of (N := 5) Try.func67 rfl rfl (by simp) (by simp [Bel.int]) (Ty.bel _ _) ?_
  -- region 0
  repeat (refine awp_seq ?_)
  refine e_eval (by simp only [asq, as0, as1, as2, awanted, aop, LS, SS, SX, HS, mkS_cons, mkS_nil, ↓reduceIte, eq_self', List.map_nil, beq_self_eq_true, Nat.reduceEqDiff, Nat.reduceAdd, Nat.reduceMul, Nat.reduceLT, Nat.reduceLeDiff, Nat.reducePow, Nat.reduceDiv, Nat.reduceMod, Nat.succ_ne_self, Nat.reduceBEq, Nat.reduceBNe, Tryti24, Trytf24, Trytz24, Trytp24, vint, TyS, TyF] <;> with_reducible rfl) (by decide) ?_
  -- region 1
  repeat (refine awp_seq ?_)
  refine awp_region ?_
  refine e_take 1 (by simp only [asq, as0, as1, as2, awanted, aop, LS, SS, SX, HS, mkS_cons, mkS_nil, ↓reduceIte, eq_self', List.map_nil, beq_self_eq_true, Nat.reduceEqDiff, Nat.reduceAdd, Nat.reduceMul, Nat.reduceLT, Nat.reduceLeDiff, Nat.reducePow, Nat.reduceDiv, Nat.reduceMod, Nat.succ_ne_self, Nat.reduceBEq, Nat.reduceBNe, vint, TyS, TyF] <;> with_reducible rfl) (by decide) ?_
  refine aops_pure (by simp only [acall, awanted, LS, SS, SX, HS, mkS_cons, mkS_nil, ↓reduceIte, eq_self', List.map_nil, beq_self_eq_true, Nat.reduceEqDiff, Nat.reduceAdd, Nat.reduceMul, Nat.reduceLT, Nat.reduceLeDiff, Nat.reducePow, Nat.reduceDiv, Nat.reduceMod, Nat.succ_ne_self, Nat.reduceBEq, Nat.reduceBNe, vint, TyS, TyF] <;> with_reducible rfl) (by simp only [acall, awanted, LS, SS, SX, HS, mkS_cons, mkS_nil, ↓reduceIte, eq_self', List.map_nil, beq_self_eq_true, Nat.reduceEqDiff, Nat.reduceAdd, Nat.reduceMul, Nat.reduceLT, Nat.reduceLeDiff, Nat.reducePow, Nat.reduceDiv, Nat.reduceMod, Nat.succ_ne_self, Nat.reduceBEq, Nat.reduceBNe, vint, TyS, TyF]) (by decide) Trygo71 (typK 1 _ [] _) ?_
  refine e_end (by simp only [asq, as0, as1, as2, awanted, aop, astore, splice, LS, SS, SX, HS, mkS_cons, mkS_nil, ↓reduceIte, eq_self', List.map_nil, beq_self_eq_true, Nat.reduceEqDiff, Nat.reduceAdd, Nat.reduceMul, Nat.reduceLT, Nat.reduceLeDiff, Nat.reducePow, Nat.reduceDiv, Nat.reduceMod, Nat.succ_ne_self, Nat.reduceBEq, Nat.reduceBNe, Tryti24, Trytf24, Trytz24, Trytp24, vint, TyS, TyF] <;> with_reducible rfl) (by decide) ?_
  repeat (refine awp_seq ?_)
  -- leaf 0 ret
  refine awp_ret ⟨.inr rfl, _, (ares_cell 2 24 rfl Tryti24 (by decide) (by simp only [aload, LS, SS, SX, HS, mkS_cons, mkS_nil, ↓reduceIte, eq_self', List.map_nil, beq_self_eq_true, Nat.reduceEqDiff, Nat.reduceAdd, Nat.reduceMul, Nat.reduceLT, Nat.reduceLeDiff, Nat.reducePow, Nat.reduceDiv, Nat.reduceMod, Nat.succ_ne_self, Nat.reduceBEq, Nat.reduceBNe, vint, TyS, TyF] <;> with_reducible rfl)), ?_⟩
  simp only [LS, SS, SX, HS, mkS_cons, mkS_nil, ↓reduceIte, eq_self', List.map_nil, beq_self_eq_true, Nat.reduceEqDiff, Nat.reduceAdd, Nat.succ_ne_self, vint, TyS, TyF]

theorem intTypeK : PC Try.prog 73 [] (Ty.mk 3 0 []).enc := by
  refine pc_of (N := 2) Try.func73 rfl rfl (by simp) (by simp) (Ty.bel _ _) ?_
  -- region 0
  repeat (refine awp_seq ?_)
  refine e_eval (by simp only [asq, as0, as1, as2, awanted, aop, LS, SS, SX, HS, mkS_cons, mkS_nil, ↓reduceIte, eq_self', List.map_nil, beq_self_eq_true, Nat.reduceEqDiff, Nat.reduceAdd, Nat.reduceMul, Nat.reduceLT, Nat.reduceLeDiff, Nat.reducePow, Nat.reduceDiv, Nat.reduceMod, Nat.succ_ne_self, Nat.reduceBEq, Nat.reduceBNe, Tryti24, Trytf24, Trytz24, Trytp24, vint, TyS, TyF] <;> with_reducible rfl) (by decide) ?_
  -- region 1
  repeat (refine awp_seq ?_)
  refine awp_region ?_
  refine aops_pure (by simp only [acall, awanted, LS, SS, SX, HS, mkS_cons, mkS_nil, ↓reduceIte, eq_self', List.map_nil, beq_self_eq_true, Nat.reduceEqDiff, Nat.reduceAdd, Nat.reduceMul, Nat.reduceLT, Nat.reduceLeDiff, Nat.reducePow, Nat.reduceDiv, Nat.reduceMod, Nat.succ_ne_self, Nat.reduceBEq, Nat.reduceBNe, vint, TyS, TyF] <;> with_reducible rfl) (by simp only [acall, awanted, LS, SS, SX, HS, mkS_cons, mkS_nil, ↓reduceIte, eq_self', List.map_nil, beq_self_eq_true, Nat.reduceEqDiff, Nat.reduceAdd, Nat.reduceMul, Nat.reduceLT, Nat.reduceLeDiff, Nat.reducePow, Nat.reduceDiv, Nat.reduceMod, Nat.succ_ne_self, Nat.reduceBEq, Nat.reduceBNe, vint, TyS, TyF]) (by decide) Trygo71 (typK 3 0 [] _) ?_
  refine e_end (by simp only [asq, as0, as1, as2, awanted, aop, astore, splice, LS, SS, SX, HS, mkS_cons, mkS_nil, ↓reduceIte, eq_self', List.map_nil, beq_self_eq_true, Nat.reduceEqDiff, Nat.reduceAdd, Nat.reduceMul, Nat.reduceLT, Nat.reduceLeDiff, Nat.reducePow, Nat.reduceDiv, Nat.reduceMod, Nat.succ_ne_self, Nat.reduceBEq, Nat.reduceBNe, Tryti24, Trytf24, Trytz24, Trytp24, vint, TyS, TyF] <;> with_reducible rfl) (by decide) ?_
  repeat (refine awp_seq ?_)
  -- leaf 0 ret
  refine awp_ret ⟨.inr rfl, _, (ares_cell 0 24 rfl Tryti24 (by decide) (by simp only [aload, LS, SS, SX, HS, mkS_cons, mkS_nil, ↓reduceIte, eq_self', List.map_nil, beq_self_eq_true, Nat.reduceEqDiff, Nat.reduceAdd, Nat.reduceMul, Nat.reduceLT, Nat.reduceLeDiff, Nat.reducePow, Nat.reduceDiv, Nat.reduceMod, Nat.succ_ne_self, Nat.reduceBEq, Nat.reduceBNe, vint, TyS, TyF] <;> with_reducible rfl)), ?_⟩
  simp only [LS, SS, SX, HS, mkS_cons, mkS_nil, ↓reduceIte, eq_self', List.map_nil, beq_self_eq_true, Nat.reduceEqDiff, Nat.reduceAdd, Nat.succ_ne_self, vint, TyS, TyF]

theorem typL (k i : Int) (us : List Ty) : PC Try.prog 90 [vint k, vint i, .slice (us.map Ty.enc) .none] (Ty.mk k i us).enc := by
  refine pc_of (N := 11) Try.func90 rfl rfl (by simp) (by simp [Bel.int, bel_slice_ty]) (Ty.bel _ _) ?_
  -- region 0
  repeat (refine awp_seq ?_)
  refine e_eval (by simp only [asq, as0, as1, as2, awanted, aop, LS, SS, SX, HS, mkS_cons, mkS_nil, ↓reduceIte, eq_self', List.map_nil, beq_self_eq_true, Nat.reduceEqDiff, Nat.reduceAdd, Nat.reduceMul, Nat.reduceLT, Nat.reduceLeDiff, Nat.reducePow, Nat.reduceDiv, Nat.reduceMod, Nat.succ_ne_self, Nat.reduceBEq, Nat.reduceBNe, Tryti24, Trytf24, Trytz24, Trytp24, vint, TyS, TyF] <;> with_reducible rfl) (by decide) ?_
  -- region 1
  repeat (refine awp_seq ?_)
  refine e_eval (by simp only [asq, as0, as1, as2, awanted, aop, abuild, splice, astore, LS, SS, SX, HS, mkS_cons, mkS_nil, ↓reduceIte, eq_self', List.map_nil, beq_self_eq_true, Nat.reduceEqDiff, Nat.reduceAdd, Nat.reduceMul, Nat.reduceLT, Nat.reduceLeDiff, Nat.reducePow, Nat.reduceDiv, Nat.reduceMod, Nat.succ_ne_self, Nat.reduceBEq, Nat.reduceBNe, Tryti24, Trytf24, Trytz24, Trytp24, vint, TyS, TyF] <;> with_reducible rfl) (by decide) ?_
  repeat (refine awp_seq ?_)
  -- leaf 0 ret
  refine awp_ret ⟨.inr rfl, _, (ares_cell 6 24 rfl Tryti24 (by decide) (by simp only [aload, LS, SS, SX, HS, mkS_cons, mkS_nil, ↓reduceIte, eq_self', List.map_nil, beq_self_eq_true, Nat.reduceEqDiff, Nat.reduceAdd, Nat.reduceMul, Nat.reduceLT, Nat.reduceLeDiff, Nat.reducePow, Nat.reduceDiv, Nat.reduceMod, Nat.succ_ne_self, Nat.reduceBEq, Nat.reduceBNe, vint, TyS, TyF] <;> with_reducible rfl)), ?_⟩
  simp only [LS, SS, SX, HS, mkS_cons, mkS_nil, ↓reduceIte, eq_self', List.map_nil, beq_self_eq_true, Nat.reduceEqDiff, Nat.reduceAdd, Nat.succ_ne_self, vint, TyS, TyF]

theorem typeParamL (i : Int) : PC Try.prog 109 [vint i] (Ty.mk 2 i []).enc := by
  refine pc_of (N := 5) Try.func109 rfl rfl (by simp) (by simp [Bel.int]) (Ty.bel _ _) ?_
  -- region 0
  repeat (refine awp_seq ?_)
  refine e_eval (by simp only [asq, as0, as1, as2, awanted, aop, LS, SS, SX, HS, mkS_cons, mkS_nil, ↓reduceIte, eq_self', List.map_nil, beq_self_eq_true, Nat.reduceEqDiff, Nat.reduceAdd, Nat.reduceMul, Nat.reduceLT, Nat.reduceLeDiff, Nat.reducePow, Nat.reduceDiv, Nat.reduceMod, Nat.succ_ne_self, Nat.reduceBEq, Nat.reduceBNe, Tryti24, Trytf24, Trytz24, Trytp24, vint, TyS, TyF] <;> with_reducible rfl) (by decide) ?_
  -- region 1
  repeat (refine awp_seq ?_)
  refine awp_region ?_
  refine e_take 1 (by simp only [asq, as0, as1, as2, awanted, aop, LS, SS, SX, HS, mkS_cons, mkS_nil, ↓reduceIte, eq_self', List.map_nil, beq_self_eq_true, Nat.reduceEqDiff, Nat.reduceAdd, Nat.reduceMul, Nat.reduceLT, Nat.reduceLeDiff, Nat.reducePow, Nat.reduceDiv, Nat.reduceMod, Nat.succ_ne_self, Nat.reduceBEq, Nat.reduceBNe, vint, TyS, TyF] <;> with_reducible rfl) (by decide) ?_
  refine aops_pure (by simp only [acall, awanted, LS, SS, SX, HS, mkS_cons, mkS_nil, ↓reduceIte, eq_self', List.map_nil, beq_self_eq_true, Nat.reduceEqDiff, Nat.reduceAdd, Nat.reduceMul, Nat.reduceLT, Nat.reduceLeDiff, Nat.reducePow, Nat.reduceDiv, Nat.reduceMod, Nat.succ_ne_self, Nat.reduceBEq, Nat.reduceBNe, vint, TyS, TyF] <;> with_reducible rfl) (by simp only [acall, awanted, LS, SS, SX, HS, mkS_cons, mkS_nil, ↓reduceIte, eq_self', List.map_nil, beq_self_eq_true, Nat.reduceEqDiff, Nat.reduceAdd, Nat.reduceMul, Nat.reduceLT, Nat.reduceLeDiff, Nat.reducePow, Nat.reduceDiv, Nat.reduceMod, Nat.succ_ne_self, Nat.reduceBEq, Nat.reduceBNe, vint, TyS, TyF]) (by decide) Trygo90 (typL 2 _ [] _) ?_
  refine e_end (by simp only [asq, as0, as1, as2, awanted, aop, astore, splice, LS, SS, SX, HS, mkS_cons, mkS_nil, ↓reduceIte, eq_self', List.map_nil, beq_self_eq_true, Nat.reduceEqDiff, Nat.reduceAdd, Nat.reduceMul, Nat.reduceLT, Nat.reduceLeDiff, Nat.reducePow, Nat.reduceDiv, Nat.reduceMod, Nat.succ_ne_self, Nat.reduceBEq, Nat.reduceBNe, Tryti24, Trytf24, Trytz24, Trytp24, vint, TyS, TyF] <;> with_reducible rfl) (by decide) ?_
  repeat (refine awp_seq ?_)
  -- leaf 0 ret
  refine awp_ret ⟨.inr rfl, _, (ares_cell 2 24 rfl Tryti24 (by decide) (by simp only [aload, LS, SS, SX, HS, mkS_cons, mkS_nil, ↓reduceIte, eq_self', List.map_nil, beq_self_eq_true, Nat.reduceEqDiff, Nat.reduceAdd, Nat.reduceMul, Nat.reduceLT, Nat.reduceLeDiff, Nat.reducePow, Nat.reduceDiv, Nat.reduceMod, Nat.succ_ne_self, Nat.reduceBEq, Nat.reduceBNe, vint, TyS, TyF] <;> with_reducible rfl)), ?_⟩
  simp only [LS, SS, SX, HS, mkS_cons, mkS_nil, ↓reduceIte, eq_self', List.map_nil, beq_self_eq_true, Nat.reduceEqDiff, Nat.reduceAdd, Nat.succ_ne_self, vint, TyS, TyF]

theorem typeVarL (i : Int) : PC Try.prog 91 [vint i] (Ty.mk 1 i []).enc := by
  refine pc_of (N := 5) Try.func91 rfl rfl (by simp) (by simp [Bel.int]) (Ty.bel _ _) ?_
  -- region 0
  repeat (refine awp_seq ?_)
  refine e_eval (by simp only [asq, as0, as1, as2, awanted, aop, LS, SS, SX, HS, mkS_cons, mkS_nil, ↓reduceIte, eq_self', List.map_nil, beq_self_eq_true, Nat.reduceEqDiff, Nat.reduceAdd, Nat.reduceMul, Nat.reduceLT, Nat.reduceLeDiff, Nat.reducePow, Nat.reduceDiv, Nat.reduceMod, Nat.succ_ne_self, Nat.reduceBEq, Nat.reduceBNe, Tryti24, Trytf24, Trytz24, Trytp24, vint, TyS, TyF] <;> with_reducible rfl) (by decide) ?_
  -- region 1
  repeat (refine awp_seq ?_)
  refine awp_region ?_
  refine e_take 1 (by simp only [asq, as0, as1, as2, awanted, aop, LS, SS, SX, HS, mkS_cons, mkS_nil, ↓reduceIte, eq_self', List.map_nil, beq_self_eq_true, Nat.reduceEqDiff, Nat.reduceAdd, Nat.reduceMul, Nat.reduceLT, Nat.reduceLeDiff, Nat.reducePow, Nat.reduceDiv, Nat.reduceMod, Nat.succ_ne_self, Nat.reduceBEq, Nat.reduceBNe, vint, TyS, TyF] <;> with_reducible rfl) (by decide) ?_
  refine aops_pure (by simp only [acall, awanted, LS, SS, SX, HS, mkS_cons, mkS_nil, ↓reduceIte, eq_self', List.map_nil, beq_self_eq_true, Nat.reduceEqDiff, Nat.reduceAdd, Nat.reduceMul, Nat.reduceLT, Nat.reduceLeDiff, Nat.reducePow, Nat.reduceDiv, Nat.reduceMod, Nat.succ_ne_self, Nat.reduceBEq, Nat.reduceBNe, vint, TyS, TyF] <;> with_reducible rfl) (by simp only [acall, awanted, LS, SS, SX, HS, mkS_cons, mkS_nil, ↓reduceIte, eq_self', List.map_nil, beq_self_eq_true, Nat.reduceEqDiff, Nat.reduceAdd, Nat.reduceMul, Nat.reduceLT, Nat.reduceLeDiff, Nat.reducePow, Nat.reduceDiv, Nat.reduceMod, Nat.succ_ne_self, Nat.reduceBEq, Nat.reduceBNe, vint, TyS, TyF]) (by decide) Trygo90 (typL 1 _ [] _) ?_
  refine e_end (by simp only [asq, as0, as1, as2, awanted, aop, astore, splice, LS, SS, SX, HS, mkS_cons, mkS_nil, ↓reduceIte, eq_self', List.map_nil, beq_self_eq_true, Nat.reduceEqDiff, Nat.reduceAdd, Nat.reduceMul, Nat.reduceLT, Nat.reduceLeDiff, Nat.reducePow, Nat.reduceDiv, Nat.reduceMod, Nat.succ_ne_self, Nat.reduceBEq, Nat.reduceBNe, Tryti24, Trytf24, Trytz24, Trytp24, vint, TyS, TyF] <;> with_reducible rfl) (by decide) ?_
  repeat (refine awp_seq ?_)
  -- leaf 0 ret
  refine awp_ret ⟨.inr rfl, _, (ares_cell 2 24 rfl Tryti24 (by decide) (by simp only [aload, LS, SS, SX, HS, mkS_cons, mkS_nil, ↓reduceIte, eq_self', List.map_nil, beq_self_eq_true, Nat.reduceEqDiff, Nat.reduceAdd, Nat.reduceMul, Nat.reduceLT, Nat.reduceLeDiff, Nat.reducePow, Nat.reduceDiv, Nat.reduceMod, Nat.succ_ne_self, Nat.reduceBEq, Nat.reduceBNe, vint, TyS, TyF] <;> with_reducible rfl)), ?_⟩
  simp only [LS, SS, SX, HS, mkS_cons, mkS_nil, ↓reduceIte, eq_self', List.map_nil, beq_self_eq_true, Nat.reduceEqDiff, Nat.reduceAdd, Nat.succ_ne_self, vint, TyS, TyF]

theorem intTypeL : PC Try.prog 92 [] (Ty.mk 3 0 []).enc := by
  refine pc_of (N := 2) Try.func92 rfl rfl (by simp) (by simp) (Ty.bel _ _) ?_
  -- region 0
  repeat (refine awp_seq ?_)
  refine e_eval (by simp only [asq, as0, as1, as2, awanted, aop, LS, SS, SX, HS, mkS_cons, mkS_nil, ↓reduceIte, eq_self', List.map_nil, beq_self_eq_true, Nat.reduceEqDiff, Nat.reduceAdd, Nat.reduceMul, Nat.reduceLT, Nat.reduceLeDiff, Nat.reducePow, Nat.reduceDiv, Nat.reduceMod, Nat.succ_ne_self, Nat.reduceBEq, Nat.reduceBNe, Tryti24, Trytf24, Trytz24, Trytp24, vint, TyS, TyF] <;> with_reducible rfl) (by decide) ?_
  -- region 1
  repeat (refine awp_seq ?_)
  refine awp_region ?_
  refine aops_pure (by simp only [acall, awanted, LS, SS, SX, HS, mkS_cons, mkS_nil, ↓reduceIte, eq_self', List.map_nil, beq_self_eq_true, Nat.reduceEqDiff, Nat.reduceAdd, Nat.reduceMul, Nat.reduceLT, Nat.reduceLeDiff, Nat.reducePow, Nat.reduceDiv, Nat.reduceMod, Nat.succ_ne_self, Nat.reduceBEq, Nat.reduceBNe, vint, TyS, TyF] <;> with_reducible rfl) (by simp only [acall, awanted, LS, SS, SX, HS, mkS_cons, mkS_nil, ↓reduceIte, eq_self', List.map_nil, beq_self_eq_true, Nat.reduceEqDiff, Nat.reduceAdd, Nat.reduceMul, Nat.reduceLT, Nat.reduceLeDiff, Nat.reducePow, Nat.reduceDiv, Nat.reduceMod, Nat.succ_ne_self, Nat.reduceBEq, Nat.reduceBNe, vint, TyS, TyF]) (by decide) Trygo90 (typL 3 0 [] _) ?_
  refine e_end (by simp only [asq, as0, as1, as2, awanted, aop, astore, splice, LS, SS, SX, HS, mkS_cons, mkS_nil, ↓reduceIte, eq_self', List.map_nil, beq_self_eq_true, Nat.reduceEqDiff, Nat.reduceAdd, Nat.reduceMul, Nat.reduceLT, Nat.reduceLeDiff, Nat.reducePow, Nat.reduceDiv, Nat.reduceMod, Nat.succ_ne_self, Nat.reduceBEq, Nat.reduceBNe, Tryti24, Trytf24, Trytz24, Trytp24, vint, TyS, TyF] <;> with_reducible rfl) (by decide) ?_
  repeat (refine awp_seq ?_)
  -- leaf 0 ret
  refine awp_ret ⟨.inr rfl, _, (ares_cell 0 24 rfl Tryti24 (by decide) (by simp only [aload, LS, SS, SX, HS, mkS_cons, mkS_nil, ↓reduceIte, eq_self', List.map_nil, beq_self_eq_true, Nat.reduceEqDiff, Nat.reduceAdd, Nat.reduceMul, Nat.reduceLT, Nat.reduceLeDiff, Nat.reducePow, Nat.reduceDiv, Nat.reduceMod, Nat.succ_ne_self, Nat.reduceBEq, Nat.reduceBNe, vint, TyS, TyF] <;> with_reducible rfl)), ?_⟩
  simp only [LS, SS, SX, HS, mkS_cons, mkS_nil, ↓reduceIte, eq_self', List.map_nil, beq_self_eq_true, Nat.reduceEqDiff, Nat.reduceAdd, Nat.succ_ne_self, vint, TyS, TyF]

end Go.Abs
set_option linter.unusedVariables false
set_option linter.unusedSimpArgs false
set_option maxRecDepth 4000
namespace Go.Abs
open Go.Proofs
theorem matchL_nil (s : MSt) : matchL [] s = (true, s) := rfl
theorem matchL_cons (a : Ty) (f : Ty → MSt → Bool × MSt) (r : List (Ty × (Ty → MSt → Bool × MSt))) (s : MSt) : matchL ((a, f) :: r) s = if (f a s).1 then matchL r (f a s).2 else (false, (f a s).2) := rfl

theorem match_k (ps : List Int) (hx : ps.length ≤ maxLen) {im ia ib : Nat} (h1 : ia ≠ ib) (h2 : im ≠ ia) (h3 : im ≠ ib) : ∀ (k : Nat) (t p : Ty) (H : Heap) (s : MSt), p.size ≤ k → t.W → p.W → MOk ps.length s → ia < H.length → ib < H.length → H[im]? = some (.row [.slice (ps.map vint) .none, .msl ia 0 ps.length ps.length, .msl ib 0 ps.length ps.length]) →
    ACalls Try.prog 74 [.optr im 0, t.enc, p.enc] (mH H ia ib s) fun r' H' => r' = .bool (matchT ps t p s).1 ∧ H' = mH H ia ib (matchT ps t p s).2
  | 0, t, p, H, s, h, _, _, _, _, _, _ => by cases p; simp [Ty.size] at h
  | k + 1, t, p, H, s, h, ht, hp, hs, hia, hib, hR => by
    have MH := mH_rules hia hib h1 h2 h3 hR
    have heq := fun a b ha => equal_any a b ha
    have hmn := len_of_get hR
    have fa : ∀ k, (ia = H.length + k) = False := fun k => by simp; omega
    have fb : ∀ k, (ib = H.length + k) = False := fun k => by simp; omega
    refine muts_of (N := 94) Try.func74 rfl rfl (by simp) (.bool _) (by simp only [mH_len]) (fun hb => by rw [mH_len] at hb ⊢; exact mH_bel hb hia hib h1) fun hb' => ?_
    rw [mH_len]
    rw [mH_len] at hb'
    -- region 0
    repeat (refine awp_seq ?_)
    refine e_eval (by simp only [asq, as0, as1, as2, awanted, aop, LS, SS, SX, HS, mkS_cons, mkS_nil, ↓reduceIte, eq_self', List.map_nil, beq_self_eq_true, Nat.reduceEqDiff, Nat.reduceAdd, Nat.reduceMul, Nat.reduceLT, Nat.reduceLeDiff, Nat.reducePow, Nat.reduceDiv, Nat.reduceMod, Nat.succ_ne_self, Nat.reduceBEq, Nat.reduceBNe, Tryti24, Trytf24, Trytz24, Trytp24, vint, TyS, TyF, MH] <;> with_reducible rfl) (by decide) ?_
    -- region 1
    repeat (refine awp_seq ?_)
    refine awp_draw 0 (by kernel_rfl) ?_
    refine d_take (bm := [0, 1, 3, 7, 0, 16, 63, 127]) 6 (fresh := 0) (by kernel_rfl) (by simp only [dsq, ds0, ds1, ds2, ds3, awanted, hapB, effIds, effSet, nextFresh, ard, freshOk, isUnborn, aop, afldAddr, ajust, aload, LS, SS, SX, HS, mkS_cons, mkS_nil, ↓reduceIte, eq_self', List.map_nil, beq_self_eq_true, Nat.reduceEqDiff, Nat.reduceAdd, Nat.reduceMul, Nat.reduceLT, Nat.reduceLeDiff, Nat.reducePow, Nat.reduceDiv, Nat.reduceMod, Nat.succ_ne_self, Nat.reduceBEq, Nat.reduceBNe, Tryti3, Trytz3, Trytp3, Trytk3, Tryti24, Trytf24, Trytz24, Trytp24, Tryti25, Tryte25, Trytz25, Trytp25, Tryti104, Trytf104, Trytz104, Trytp104, vint, TyS, TyF, MH] <;> with_reducible rfl) (by decide) (by decide) ?_
    refine dops_keep (bm := [0, 1, 3, 7, 0, 16, 63, 127]) ([]) (by kernel_rfl) (by simp only [acall, awanted, LS, SS, SX, HS, mkS_cons, mkS_nil, ↓reduceIte, eq_self', List.map_nil, beq_self_eq_true, Nat.reduceEqDiff, Nat.reduceAdd, Nat.reduceMul, Nat.reduceLT, Nat.reduceLeDiff, Nat.reducePow, Nat.reduceDiv, Nat.reduceMod, Nat.succ_ne_self, Nat.reduceBEq, Nat.reduceBNe, vint, TyS, TyF, MH] <;> with_reducible rfl) (by simp only [acall, awanted, LS, SS, SX, HS, mkS_cons, mkS_nil, ↓reduceIte, eq_self', List.map_nil, beq_self_eq_true, Nat.reduceEqDiff, Nat.reduceAdd, Nat.reduceMul, Nat.reduceLT, Nat.reduceLeDiff, Nat.reducePow, Nat.reduceDiv, Nat.reduceMod, Nat.succ_ne_self, Nat.reduceBEq, Nat.reduceBNe, vint, TyS, TyF, MH]) (by decide) Trygo78 (fun H' _ => index ps p.id hx H') (by simp only [dsq, ds0, ds1, ds2, ds3, awanted, hapB, effIds, effSet, nextFresh, ard, freshOk, isUnborn, aop, LS, SS, SX, HS, mkS_cons, mkS_nil, ↓reduceIte, eq_self', List.map_nil, beq_self_eq_true, Nat.reduceEqDiff, Nat.reduceAdd, Nat.reduceMul, Nat.reduceLT, Nat.reduceLeDiff, Nat.reducePow, Nat.reduceDiv, Nat.reduceMod, Nat.succ_ne_self, Nat.reduceBEq, Nat.reduceBNe, vint, TyS, TyF, MH] <;> first | done | rfl) ?_
    refine d_end (bm := [0, 1, 3, 7, 0, 16, 63, 127]) (fresh := 0) (by kernel_rfl) (by simp only [dsq, ds0, ds1, ds2, ds3, awanted, hapB, effIds, effSet, nextFresh, ard, freshOk, isUnborn, aop, LS, SS, SX, HS, mkS_cons, mkS_nil, ↓reduceIte, eq_self', List.map_nil, beq_self_eq_true, Nat.reduceEqDiff, Nat.reduceAdd, Nat.reduceMul, Nat.reduceLT, Nat.reduceLeDiff, Nat.reducePow, Nat.reduceDiv, Nat.reduceMod, Nat.succ_ne_self, Nat.reduceBEq, Nat.reduceBNe, vint, TyS, TyF, MH] <;> with_reducible rfl) (by decide) ?_
    -- region 2
    repeat (refine awp_seq ?_)
    refine g_eval (by simp only [gsq, gs0, gs1, gs2, gcond, gop, SG, Op.operands, Call.operands, Array.toList_append, aop, afldAddr, ajust, aload, abin, LS, SS, SX, HS, mkS_cons, mkS_nil, ↓reduceIte, eq_self', List.map_nil, beq_self_eq_true, Nat.reduceEqDiff, Nat.reduceAdd, Nat.reduceMul, Nat.reduceLT, Nat.reduceLeDiff, Nat.reducePow, Nat.reduceDiv, Nat.reduceMod, Nat.succ_ne_self, Nat.reduceBEq, Nat.reduceBNe, Tryti3, Trytz3, Trytp3, Trytk3, Tryti24, Trytf24, Trytz24, Trytp24, vint, TyS, TyF, MH] <;> with_reducible rfl) (by decide) (by repeat (first | exact Fin.base _ | with_reducible apply Fin.keep | apply Fin.drop)) ?_
    repeat (refine awp_seq ?_)
    refine awp_cond rfl (by simp only [LS, SS, SX, HS, mkS_cons, mkS_nil, ↓reduceIte, eq_self', List.map_nil, beq_self_eq_true, Nat.reduceEqDiff, Nat.reduceAdd, Nat.succ_ne_self, vint, TyS, TyF, MH] <;> with_reducible rfl) (fun b0 => ?_) (fun b0 => ?_)
    · -- if t22
      have b0' := b0
      rw [Bool.and_eq_true, decide_eq_true_eq, decide_eq_true_eq] at b0
      have hlt := idxI_lt b0.2
      have g1 : ((0 : Int) ≤ idxI (fun x => decide (p.id = x)) ps ∧ idxI (fun x => decide (p.id = x)) ps < (ps.length : Int)) = True := by simp only [ge_iff_le.1 b0.2, hlt, and_self]
      have hk : (idxI (fun x => decide (p.id = x)) ps).toNat < ps.length := by omega
      have hk1 : (idxI (fun x => decide (p.id = x)) ps).toNat < s.1.length := by rw [hs.l1]; exact hk
      have hk2 : (idxI (fun x => decide (p.id = x)) ps).toNat < s.2.length := by rw [hs.l2]; exact hk
      have g2 := get_enc PV.bool hk2
      have g3 : ((idxI (fun x => decide (p.id = x)) ps).toNat * 3 + 3 ≤ ps.length * 3) = True := by simp; omega
      have g4 := flat_load s.1 _ hk1
      have g5 := flat_len s.1
      rw [hs.l1] at g5
      have g6 : ((idxI (fun x => decide (p.id = x)) ps).toNat + 1 ≤ ps.length) = True := by simp; omega
      have g7 : (s.2.map PV.bool).length = ps.length := by rw [List.length_map, hs.l2]
      have g8 : ∀ b, splice (s.2.map PV.bool) (idxI (fun x => decide (p.id = x)) ps).toNat [.bool b] = (s.2.set (idxI (fun x => decide (p.id = x)) ps).toNat b).map PV.bool := fun b => by simp only [splice, List.map_set]
      have g9 := flat_set s.1 _ hk1 t
      rw [Ty.enc_cells] at g9
      rw [Ty.enc_cells] at g4
      have hwa := hs.w _ (List.getElem_mem hk1)
      have g10 := matchT_eq ps t p s
      rw [if_pos b0'] at g10
      refine awp_sel [0, 4, 7] (by simp only [LS, SS, SX, HS, mkS_cons, mkS_nil, ↓reduceIte, eq_self', List.map_nil, beq_self_eq_true, Nat.reduceEqDiff, Nat.reduceAdd, Nat.succ_ne_self, vint, TyS, TyF, MH] <;> with_reducible rfl) ?_
      -- region 3
      repeat (refine awp_seq ?_)
      refine e_eval (by simp only [asq, as0, as1, as2, awanted, aop, afldAddr, ajust, aload, aidxAddr, aidx, LS, SS, SX, HS, mkS_cons, mkS_nil, ↓reduceIte, eq_self', List.map_nil, beq_self_eq_true, Nat.reduceEqDiff, Nat.reduceAdd, Nat.reduceMul, Nat.reduceLT, Nat.reduceLeDiff, Nat.reducePow, Nat.reduceDiv, Nat.reduceMod, Nat.succ_ne_self, Nat.reduceBEq, Nat.reduceBNe, Tryti4, Trytz4, Trytp4, Trytb4, Tryti102, Tryte102, Trytz102, Trytp102, Tryti104, Trytf104, Trytz104, Trytp104, vint, TyS, TyF, MH, g1, g2, g3, g6, Nat.mul_one] <;> with_reducible rfl) (by decide) ?_
      repeat (refine awp_seq ?_)
      refine awp_cond rfl (by simp only [LS, SS, SX, HS, mkS_cons, mkS_nil, ↓reduceIte, eq_self', List.map_nil, beq_self_eq_true, Nat.reduceEqDiff, Nat.reduceAdd, Nat.succ_ne_self, vint, TyS, TyF, MH] <;> with_reducible rfl) (fun b1 => ?_) (fun b1 => ?_)
      · -- if t29
        rw [if_pos (by rw [List.getD_eq_getElem?_getD, List.getElem?_eq_getElem hk2, Option.getD_some]; exact b1)] at g10
        rw [List.getD_eq_getElem?_getD, List.getElem?_eq_getElem hk1, Option.getD_some] at g10
        rw [g10]
        -- region 4
        repeat (refine awp_seq ?_)
        refine awp_draw 0 (by kernel_rfl) ?_
        refine d_take (bm := [0, 1, 3, 7, 0, 31, 63, 0, 255, 511]) 8 (fresh := 0) (by kernel_rfl) (by simp only [dsq, ds0, ds1, ds2, ds3, awanted, hapB, effIds, effSet, nextFresh, ard, freshOk, isUnborn, aop, afldAddr, ajust, aload, aidxAddr, aidx, LS, SS, SX, HS, mkS_cons, mkS_nil, ↓reduceIte, eq_self', List.map_nil, beq_self_eq_true, Nat.reduceEqDiff, Nat.reduceAdd, Nat.reduceMul, Nat.reduceLT, Nat.reduceLeDiff, Nat.reducePow, Nat.reduceDiv, Nat.reduceMod, Nat.succ_ne_self, Nat.reduceBEq, Nat.reduceBNe, Tryti22, Tryte22, Trytz22, Trytp22, Tryti24, Trytf24, Trytz24, Trytp24, Tryti104, Trytf104, Trytz104, Trytp104, vint, TyS, TyF, MH, g1, g2, g3, g4, g5, g6, Nat.mul_one] <;> with_reducible rfl) (by decide) (by decide) ?_
        refine dops_keep (bm := [0, 1, 3, 7, 0, 31, 63, 0, 255, 511]) ([]) (by kernel_rfl) (by simp only [acall, awanted, LS, SS, SX, HS, mkS_cons, mkS_nil, ↓reduceIte, eq_self', List.map_nil, beq_self_eq_true, Nat.reduceEqDiff, Nat.reduceAdd, Nat.reduceMul, Nat.reduceLT, Nat.reduceLeDiff, Nat.reducePow, Nat.reduceDiv, Nat.reduceMod, Nat.succ_ne_self, Nat.reduceBEq, Nat.reduceBNe, vint, TyS, TyF, MH, g1, g2, g3, g4, g5, g6, Nat.mul_one] <;> with_reducible rfl) (by simp only [acall, awanted, LS, SS, SX, HS, mkS_cons, mkS_nil, ↓reduceIte, eq_self', List.map_nil, beq_self_eq_true, Nat.reduceEqDiff, Nat.reduceAdd, Nat.reduceMul, Nat.reduceLT, Nat.reduceLeDiff, Nat.reducePow, Nat.reduceDiv, Nat.reduceMod, Nat.succ_ne_self, Nat.reduceBEq, Nat.reduceBNe, vint, TyS, TyF, MH, g1, g2, g3, g4, g5, g6, Nat.mul_one]) (by decide) Trygo23 (fun H' _ => heq _ _ hwa H') (by simp only [dsq, ds0, ds1, ds2, ds3, awanted, hapB, effIds, effSet, nextFresh, ard, freshOk, isUnborn, aop, LS, SS, SX, HS, mkS_cons, mkS_nil, ↓reduceIte, eq_self', List.map_nil, beq_self_eq_true, Nat.reduceEqDiff, Nat.reduceAdd, Nat.reduceMul, Nat.reduceLT, Nat.reduceLeDiff, Nat.reducePow, Nat.reduceDiv, Nat.reduceMod, Nat.succ_ne_self, Nat.reduceBEq, Nat.reduceBNe, vint, TyS, TyF, MH, g1, g2, g3, g4, g5, g6, Nat.mul_one] <;> first | done | rfl) ?_
        refine d_end (bm := [0, 1, 3, 7, 0, 31, 63, 0, 255, 511]) (fresh := 0) (by kernel_rfl) (by simp only [dsq, ds0, ds1, ds2, ds3, awanted, hapB, effIds, effSet, nextFresh, ard, freshOk, isUnborn, aop, LS, SS, SX, HS, mkS_cons, mkS_nil, ↓reduceIte, eq_self', List.map_nil, beq_self_eq_true, Nat.reduceEqDiff, Nat.reduceAdd, Nat.reduceMul, Nat.reduceLT, Nat.reduceLeDiff, Nat.reducePow, Nat.reduceDiv, Nat.reduceMod, Nat.succ_ne_self, Nat.reduceBEq, Nat.reduceBNe, vint, TyS, TyF, MH, g1, g2, g3, g4, g5, g6, Nat.mul_one] <;> with_reducible rfl) (by decide) ?_
        repeat (refine awp_seq ?_)
        -- leaf 0 ret
        refine awp_ret ⟨.inr rfl, _, _, rfl, ?_, rfl⟩
        simp only [LS, SS, SX, HS, mkS_cons, mkS_nil, ↓reduceIte, eq_self', List.map_nil, beq_self_eq_true, Nat.reduceEqDiff, Nat.reduceAdd, Nat.succ_ne_self, vint, TyS, TyF]
      · -- else t29
        rw [if_neg (by rw [List.getD_eq_getElem?_getD, List.getElem?_eq_getElem hk2, Option.getD_some, b1]; simp)] at g10
        rw [g10]
        repeat (refine awp_seq ?_)
        refine awp_skip ?_
        -- region 5
        repeat (refine awp_seq ?_)
        refine awp_draw 0 (by kernel_rfl) ?_
        refine d_take (bm := [0, 1, 3, 7, 0, 0, 32, 96, 224, 0, 0, 1024, 3583, 7679, 16383, 32767]) 11 (fresh := (H.length + 2)) (by kernel_rfl) (by simp only [dsq, ds0, ds1, ds2, ds3, awanted, hapB, effIds, effSet, nextFresh, ard, freshOk, isUnborn, aop, afldAddr, ajust, aload, LS, SS, SX, HS, mkS_cons, mkS_nil, ↓reduceIte, eq_self', List.map_nil, beq_self_eq_true, Nat.reduceEqDiff, Nat.reduceAdd, Nat.reduceMul, Nat.reduceLT, Nat.reduceLeDiff, Nat.reducePow, Nat.reduceDiv, Nat.reduceMod, Nat.succ_ne_self, Nat.reduceBEq, Nat.reduceBNe, Tryti4, Trytz4, Trytp4, Trytb4, Tryti22, Tryte22, Trytz22, Trytp22, Tryti24, Trytf24, Trytz24, Trytp24, Tryti102, Tryte102, Trytz102, Trytp102, Tryti104, Trytf104, Trytz104, Trytp104, vint, TyS, TyF, MH, fa, fb, g1, g2, g3, g5, g6, g7, g8, g9, Nat.mul_one] <;> with_reducible rfl) (by decide) (by decide) ?_
        refine dops_keep (bm := [0, 1, 3, 7, 0, 0, 32, 96, 224, 0, 0, 1024, 3583, 7679, 16383, 32767]) ([]) (by kernel_rfl) (by simp only [acall, awanted, LS, SS, SX, HS, mkS_cons, mkS_nil, ↓reduceIte, eq_self', List.map_nil, beq_self_eq_true, Nat.reduceEqDiff, Nat.reduceAdd, Nat.reduceMul, Nat.reduceLT, Nat.reduceLeDiff, Nat.reducePow, Nat.reduceDiv, Nat.reduceMod, Nat.succ_ne_self, Nat.reduceBEq, Nat.reduceBNe, vint, TyS, TyF, MH, fa, fb, g1, g2, g3, g5, g6, g7, g8, g9, Nat.mul_one] <;> with_reducible rfl) (by simp only [acall, awanted, LS, SS, SX, HS, mkS_cons, mkS_nil, ↓reduceIte, eq_self', List.map_nil, beq_self_eq_true, Nat.reduceEqDiff, Nat.reduceAdd, Nat.reduceMul, Nat.reduceLT, Nat.reduceLeDiff, Nat.reducePow, Nat.reduceDiv, Nat.reduceMod, Nat.succ_ne_self, Nat.reduceBEq, Nat.reduceBNe, vint, TyS, TyF, MH, fa, fb, g1, g2, g3, g5, g6, g7, g8, g9, Nat.mul_one]) (by decide) Trygo79 (fun H' _ => clone t ht H') (by simp only [dsq, ds0, ds1, ds2, ds3, awanted, hapB, effIds, effSet, nextFresh, ard, freshOk, isUnborn, aop, LS, SS, SX, HS, mkS_cons, mkS_nil, ↓reduceIte, eq_self', List.map_nil, beq_self_eq_true, Nat.reduceEqDiff, Nat.reduceAdd, Nat.reduceMul, Nat.reduceLT, Nat.reduceLeDiff, Nat.reducePow, Nat.reduceDiv, Nat.reduceMod, Nat.succ_ne_self, Nat.reduceBEq, Nat.reduceBNe, vint, TyS, TyF, MH, fa, fb, g1, g2, g3, g5, g6, g7, g8, g9, Nat.mul_one] <;> first | done | rfl) ?_
        refine d_end (bm := [0, 1, 3, 7, 0, 0, 32, 96, 224, 0, 0, 1024, 3583, 7679, 16383, 32767]) (fresh := (H.length + 2)) (by kernel_rfl) (by simp only [dsq, ds0, ds1, ds2, ds3, awanted, hapB, effIds, effSet, nextFresh, ard, freshOk, isUnborn, aop, aidxAddr, aidx, ajust, astore, LS, SS, SX, HS, mkS_cons, mkS_nil, ↓reduceIte, eq_self', List.map_nil, beq_self_eq_true, Nat.reduceEqDiff, Nat.reduceAdd, Nat.reduceMul, Nat.reduceLT, Nat.reduceLeDiff, Nat.reducePow, Nat.reduceDiv, Nat.reduceMod, Nat.succ_ne_self, Nat.reduceBEq, Nat.reduceBNe, Tryti4, Trytz4, Trytp4, Trytb4, Tryti22, Tryte22, Trytz22, Trytp22, Tryti24, Trytf24, Trytz24, Trytp24, Tryti102, Tryte102, Trytz102, Trytp102, vint, TyS, TyF, MH, fa, fb, g1, g2, g3, g5, g6, g7, g8, g9, Nat.mul_one] <;> with_reducible rfl) (by decide) ?_
        refine awp_sel [] (by simp only [LS, SS, SX, HS, mkS_cons, mkS_nil, ↓reduceIte, eq_self', List.map_nil, beq_self_eq_true, Nat.reduceEqDiff, Nat.reduceAdd, Nat.succ_ne_self, vint, TyS, TyF, MH] <;> with_reducible rfl) ?_
        -- region 6
        repeat (refine awp_seq ?_)
        refine e_eval (by simp only [asq, as0, as1, as2, awanted, aop, LS, SS, SX, HS, mkS_cons, mkS_nil, ↓reduceIte, eq_self', List.map_nil, beq_self_eq_true, Nat.reduceEqDiff, Nat.reduceAdd, Nat.reduceMul, Nat.reduceLT, Nat.reduceLeDiff, Nat.reducePow, Nat.reduceDiv, Nat.reduceMod, Nat.succ_ne_self, Nat.reduceBEq, Nat.reduceBNe, vint, TyS, TyF, MH] <;> with_reducible rfl) (by decide) ?_
        repeat (refine awp_seq ?_)
        -- leaf 1 ret
        refine awp_ret ⟨.inr rfl, _, _, rfl, ?_, rfl⟩
        simp only [LS, SS, SX, HS, mkS_cons, mkS_nil, ↓reduceIte, eq_self', List.map_nil, beq_self_eq_true, Nat.reduceEqDiff, Nat.reduceAdd, Nat.succ_ne_self, vint, TyS, TyF]
    · -- else t22
      have g10 := matchT_eq ps t p s
      rw [if_neg (by rw [b0]; simp)] at g10
      repeat (refine awp_seq ?_)
      refine awp_skip ?_
      refine awp_sel [0, 4, 5] (by simp only [LS, SS, SX, HS, mkS_cons, mkS_nil, ↓reduceIte, eq_self', List.map_nil, beq_self_eq_true, Nat.reduceEqDiff, Nat.reduceAdd, Nat.succ_ne_self, vint, TyS, TyF, MH] <;> with_reducible rfl) ?_
      -- region 7
      repeat (refine awp_seq ?_)
      refine g_eval (by simp only [gsq, gs0, gs1, gs2, gcond, gop, SG, Op.operands, Call.operands, Array.toList_append, aop, afldAddr, ajust, aload, abin, abuiltin, LS, SS, SX, HS, mkS_cons, mkS_nil, ↓reduceIte, eq_self', List.map_nil, beq_self_eq_true, Nat.reduceEqDiff, Nat.reduceAdd, Nat.reduceMul, Nat.reduceLT, Nat.reduceLeDiff, Nat.reducePow, Nat.reduceDiv, Nat.reduceMod, Nat.succ_ne_self, Nat.reduceBEq, Nat.reduceBNe, Tryti3, Trytz3, Trytp3, Trytk3, Tryti22, Tryte22, Trytz22, Trytp22, Tryti24, Trytf24, Trytz24, Trytp24, vint, TyS, TyF, MH] <;> with_reducible rfl) (by decide) (by repeat (first | exact Fin.base _ | with_reducible apply Fin.keep | apply Fin.drop)) ?_
      repeat (refine awp_seq ?_)
      refine awp_cond rfl (by simp only [LS, SS, SX, HS, mkS_cons, mkS_nil, ↓reduceIte, eq_self', List.map_nil, beq_self_eq_true, Nat.reduceEqDiff, Nat.reduceAdd, Nat.succ_ne_self, vint, TyS, TyF, MH] <;> with_reducible rfl) (fun b2 => ?_) (fun b2 => ?_)
      · -- if t73
        rw [if_pos b2] at g10
        rw [g10]
        refine awp_sel [] (by simp only [LS, SS, SX, HS, mkS_cons, mkS_nil, ↓reduceIte, eq_self', List.map_nil, beq_self_eq_true, Nat.reduceEqDiff, Nat.reduceAdd, Nat.succ_ne_self, vint, TyS, TyF, MH] <;> with_reducible rfl) ?_
        -- region 8
        repeat (refine awp_seq ?_)
        refine e_eval (by simp only [asq, as0, as1, as2, awanted, aop, LS, SS, SX, HS, mkS_cons, mkS_nil, ↓reduceIte, eq_self', List.map_nil, beq_self_eq_true, Nat.reduceEqDiff, Nat.reduceAdd, Nat.reduceMul, Nat.reduceLT, Nat.reduceLeDiff, Nat.reducePow, Nat.reduceDiv, Nat.reduceMod, Nat.succ_ne_self, Nat.reduceBEq, Nat.reduceBNe, vint, TyS, TyF, MH] <;> with_reducible rfl) (by decide) ?_
        repeat (refine awp_seq ?_)
        -- leaf 2 ret
        refine awp_ret ⟨.inr rfl, _, _, rfl, ?_, rfl⟩
        simp only [LS, SS, SX, HS, mkS_cons, mkS_nil, ↓reduceIte, eq_self', List.map_nil, beq_self_eq_true, Nat.reduceEqDiff, Nat.reduceAdd, Nat.succ_ne_self, vint, TyS, TyF]
      · -- else t73
        rw [if_neg (by rw [b2]; simp)] at g10
        rw [g10]
        have hlen : t.args.length = p.args.length := by simp at b2; omega
        repeat (refine awp_seq ?_)
        refine awp_skip ?_
        refine awp_sel [0, 4, 5] (by simp only [LS, SS, SX, HS, mkS_cons, mkS_nil, ↓reduceIte, eq_self', List.map_nil, beq_self_eq_true, Nat.reduceEqDiff, Nat.reduceAdd, Nat.succ_ne_self, vint, TyS, TyF, MH] <;> with_reducible rfl) ?_
        -- region 9
        repeat (refine awp_seq ?_)
        refine e_eval (by simp only [asq, as0, as1, as2, awanted, aop, afldAddr, ajust, aload, abuiltin, LS, SS, SX, HS, mkS_cons, mkS_nil, ↓reduceIte, eq_self', List.map_nil, beq_self_eq_true, Nat.reduceEqDiff, Nat.reduceAdd, Nat.reduceMul, Nat.reduceLT, Nat.reduceLeDiff, Nat.reducePow, Nat.reduceDiv, Nat.reduceMod, Nat.succ_ne_self, Nat.reduceBEq, Nat.reduceBNe, Tryti22, Tryte22, Trytz22, Trytp22, Tryti24, Trytf24, Trytz24, Trytp24, vint, TyS, TyF, MH] <;> with_reducible rfl) (by decide) ?_
        repeat (refine awp_seq ?_)
        refine awp_forS (σ := MSt) (t.args.length) (fun (q : MSt) => [(0, .optr im 0), (4, .optr H.length 0), (5, .optr (H.length + 1) 0)]) [0, 4, 5] ([]) (fun (q : MSt) => mH H ia ib q ++ [.row t.enc.cells, .row p.enc.cells]) (fun (i : Nat) (q : MSt) => MOk ps.length q ∧ matchL ((t.args.zip (p.args.map fun u => fun a s => matchT ps a u s)).drop i) q = matchL (t.args.zip (p.args.map fun u => fun a s => matchT ps a u s)) s) (s) ([]) rfl rfl rfl rfl rfl rfl rfl rfl rfl (by decide) (by decide) (by decide) (fun _ => rfl) (ht.lenMax) ⟨(by first | rfl | (simp only [LS, SS, SX, HS, mkS_cons, mkS_nil, ↓reduceIte, eq_self', List.map_nil, beq_self_eq_true, Nat.reduceEqDiff, Nat.reduceAdd, Nat.succ_ne_self, vint, TyS, TyF, MH] <;> first | done | with_reducible rfl)), (by first | rfl | (simp only [LS, SS, SX, HS, mkS_cons, mkS_nil, ↓reduceIte, eq_self', List.map_nil, beq_self_eq_true, Nat.reduceEqDiff, Nat.reduceAdd, Nat.succ_ne_self, vint, TyS, TyF, MH] <;> first | done | with_reducible rfl)), (by first | rfl | (simp only [LS, SS, SX, HS, mkS_cons, mkS_nil, ↓reduceIte, eq_self', List.map_nil, beq_self_eq_true, Nat.reduceEqDiff, Nat.reduceAdd, Nat.succ_ne_self, vint, TyS, TyF, MH] <;> first | done | with_reducible rfl)), (by first | rfl | (simp only [LS, SS, SX, HS, mkS_cons, mkS_nil, ↓reduceIte, eq_self', List.map_nil, beq_self_eq_true, Nat.reduceEqDiff, Nat.reduceAdd, Nat.succ_ne_self, vint, TyS, TyF, MH] <;> first | done | with_reducible rfl)), (by first | rfl | (simp only [LS, SS, SX, HS, mkS_cons, mkS_nil, ↓reduceIte, eq_self', List.map_nil, beq_self_eq_true, Nat.reduceEqDiff, Nat.reduceAdd, Nat.succ_ne_self, vint, TyS, TyF, MH] <;> first | done | with_reducible rfl)), trivial⟩ (by first | rfl | (simp only [LS, SS, SX, HS, mkS_cons, mkS_nil, ↓reduceIte, eq_self', List.map_nil, beq_self_eq_true, Nat.reduceEqDiff, Nat.reduceAdd, Nat.succ_ne_self, vint, TyS, TyF, MH] <;> first | done | with_reducible rfl)) (⟨hs, rfl⟩) (fun i q hg => by simp only [List.nil_append, List.length_append, mH_len]; omega) ?_ ?_ ?_
        · intro i q hg
          refine ⟨?_, .cons (.optr _ _ (by simp [mH_len]; omega)) (.cons (.optr _ _ (by simp [mH_len])) (.cons (.optr _ _ (by simp [mH_len])) .nil))⟩
          simp only [List.nil_append, TyS]
          refine hbel_app' (mH_bel hb' hia hib h1) (by simp [mH_len]) ?_
          repeat (first | exact hbel_nil _ | exact trivial | exact obel_row_nil _ | (refine HBel.cons ?_ ?_) | (refine obel_row_cons (by first | exact bel_ints0 _ _ | exact bel_slice_ty _ _ | exact Ty.bel _ _ | exact bel_ty_tok _ (by simp) | exact Bel.int _ _ | exact Bel.bool _ | exact Bel.str _ | exact Bel.nilp | exact Bel.nilfn | exact Bel.optr _ _ (by simp) | exact bel_nil0 _ | exact bel_nil1 _ | exact bel_fn0 _ _ | assumption) ?_))
        · intro i q hi hg
          obtain ⟨hq, hg⟩ := hg
          have hi2 : i < p.args.length := by omega
          have g1 := ix_nat hi
          have g3 := ix_nat hi2
          have g2 := get_enc Ty.enc hi
          have g4 := get_enc Ty.enc hi2
          have hwt := ht.arg (List.getElem_mem hi)
          have hwp := hp.arg (List.getElem_mem hi2)
          have hmem := List.getElem_mem hi2
          have ih := match_k ps hx h1 h2 h3 k t.args[i] p.args[i]
          have hz : i < (t.args.zip (p.args.map fun u => fun a s => matchT ps a u s)).length := by simp; omega
          rw [List.drop_eq_getElem_cons hz, List.getElem_zip, List.getElem_map, matchL_cons] at hg
          -- region 11
          repeat (refine awp_seq ?_)
          refine e_eval (by simp only [asq, as0, as1, as2, awanted, aop, LS, SS, SX, HS, mkS_cons, mkS_nil, ↓reduceIte, eq_self', List.map_nil, beq_self_eq_true, Nat.reduceEqDiff, Nat.reduceAdd, Nat.reduceMul, Nat.reduceLT, Nat.reduceLeDiff, Nat.reducePow, Nat.reduceDiv, Nat.reduceMod, Nat.succ_ne_self, Nat.reduceBEq, Nat.reduceBNe, vint, TyS, TyF, MH, g1, Int.toNat_natCast, g2, g3, g4] <;> with_reducible rfl) (by decide) ?_
          -- region 12
          repeat (refine awp_seq ?_)
          refine awp_draw 0 (by kernel_rfl) ?_
          refine d_take (bm := [0, 0, 2, 0, 14, 30, 0, 64, 0, 448, 960, 2047, 4095]) 11 (fresh := 0) (by kernel_rfl) (by simp only [dsq, ds0, ds1, ds2, ds3, awanted, hapB, effIds, effSet, nextFresh, ard, freshOk, isUnborn, aop, afldAddr, ajust, aload, aidxAddr, aidx, LS, SS, SX, HS, mkS_cons, mkS_nil, ↓reduceIte, eq_self', List.map_nil, beq_self_eq_true, Nat.reduceEqDiff, Nat.reduceAdd, Nat.reduceMul, Nat.reduceLT, Nat.reduceLeDiff, Nat.reducePow, Nat.reduceDiv, Nat.reduceMod, Nat.succ_ne_self, Nat.reduceBEq, Nat.reduceBNe, Tryti22, Tryte22, Trytz22, Trytp22, Tryti24, Trytf24, Trytz24, Trytp24, vint, TyS, TyF, MH, g1, Int.toNat_natCast, g2, g3, g4] <;> with_reducible rfl) (by decide) (by decide) ?_
          refine dops_eff (bm := [0, 0, 2, 0, 14, 30, 0, 64, 0, 448, 960, 2047, 4095]) (r := .bool (matchT ps t.args[i] p.args[i] q).1) [im, ia, ib] [(ia, .row (flatE ((matchT ps t.args[i] p.args[i] q).2.1.map Ty.enc))), (ib, .row ((matchT ps t.args[i] p.args[i] q).2.2.map PV.bool))] (H1 := mH H ia ib (matchT ps t.args[i] p.args[i] q).2 ++ [.row [.int .i64 t.kind, .int .i64 t.id, .slice (t.args.map Ty.enc) .none], .row [.int .i64 p.kind, .int .i64 p.id, .slice (p.args.map Ty.enc) .none]]) (by kernel_rfl) (by simp only [acall, awanted, LS, SS, SX, HS, mkS_cons, mkS_nil, ↓reduceIte, eq_self', List.map_nil, beq_self_eq_true, Nat.reduceEqDiff, Nat.reduceAdd, Nat.reduceMul, Nat.reduceLT, Nat.reduceLeDiff, Nat.reducePow, Nat.reduceDiv, Nat.reduceMod, Nat.succ_ne_self, Nat.reduceBEq, Nat.reduceBNe, vint, TyS, TyF, MH, g1, Int.toNat_natCast, g2, g3, g4] <;> with_reducible rfl) (by simp only [acall, awanted, LS, SS, SX, HS, mkS_cons, mkS_nil, ↓reduceIte, eq_self', List.map_nil, beq_self_eq_true, Nat.reduceEqDiff, Nat.reduceAdd, Nat.reduceMul, Nat.reduceLT, Nat.reduceLeDiff, Nat.reducePow, Nat.reduceDiv, Nat.reduceMod, Nat.succ_ne_self, Nat.reduceBEq, Nat.reduceBNe, vint, TyS, TyF, MH]) (by decide) Trygo74 (by simp) ?_ (by simp only [dsq, ds0, ds1, ds2, ds3, awanted, hapB, effIds, effSet, nextFresh, ard, freshOk, isUnborn, aop, LS, SS, SX, HS, mkS_cons, mkS_nil, ↓reduceIte, eq_self', List.map_nil, beq_self_eq_true, Nat.reduceEqDiff, Nat.reduceAdd, Nat.reduceMul, Nat.reduceLT, Nat.reduceLeDiff, Nat.reducePow, Nat.reduceDiv, Nat.reduceMod, Nat.succ_ne_self, Nat.reduceBEq, Nat.reduceBNe, vint, TyS, TyF, MH] <;> first | done | rfl) ?_ ?_
          · intro H' hr hl
            have r1 := hr im (by simp)
            have r2 := hr ia (by simp)
            have r3 := hr ib (by simp)
            simp only [MH] at r1 r2 r3
            have hl' : H.length ≤ H'.length := by rw [hl, List.length_append, mH_len]; omega
            have := ih H' q (by have := Ty.size_arg hmem; omega) hwt hwp hq (by omega) (by omega) r1
            rw [mH_self r2 r3] at this
            exact this
          · simp only [effs, List.foldl_cons, List.foldl_nil, MH]
          refine d_end (bm := [0, 0, 2, 0, 14, 30, 0, 64, 0, 448, 960, 2047, 4095]) (fresh := 0) (by kernel_rfl) (by simp only [dsq, ds0, ds1, ds2, ds3, awanted, hapB, effIds, effSet, nextFresh, ard, freshOk, isUnborn, aop, aun, ajust, LS, SS, SX, HS, mkS_cons, mkS_nil, ↓reduceIte, eq_self', List.map_nil, beq_self_eq_true, Nat.reduceEqDiff, Nat.reduceAdd, Nat.reduceMul, Nat.reduceLT, Nat.reduceLeDiff, Nat.reducePow, Nat.reduceDiv, Nat.reduceMod, Nat.succ_ne_self, Nat.reduceBEq, Nat.reduceBNe, vint, TyS, TyF, MH, g1, Int.toNat_natCast, g2, g3, g4] <;> with_reducible rfl) (by decide) ?_
          repeat (refine awp_seq ?_)
          refine awp_cond rfl (by simp only [LS, SS, SX, HS, mkS_cons, mkS_nil, ↓reduceIte, eq_self', List.map_nil, beq_self_eq_true, Nat.reduceEqDiff, Nat.reduceAdd, Nat.succ_ne_self, vint, TyS, TyF, MH, g1, Int.toNat_natCast, g2, g3, g4] <;> with_reducible rfl) (fun b3 => ?_) (fun b3 => ?_)
          · -- if t92
            have b3' : (matchT ps t.args[i] p.args[i] q).1 = false := by simpa using b3
            rw [b3', if_neg (by simp)] at hg
            rw [← hg]
            refine awp_sel [0, 4, 5, 76, 77] (by simp only [LS, SS, SX, HS, mkS_cons, mkS_nil, ↓reduceIte, eq_self', List.map_nil, beq_self_eq_true, Nat.reduceEqDiff, Nat.reduceAdd, Nat.succ_ne_self, vint, TyS, TyF, MH, g1, Int.toNat_natCast, g2, g3, g4] <;> with_reducible rfl) ?_
            -- region 13
            repeat (refine awp_seq ?_)
            refine e_eval (by simp only [asq, as0, as1, as2, awanted, aop, LS, SS, SX, HS, mkS_cons, mkS_nil, ↓reduceIte, eq_self', List.map_nil, beq_self_eq_true, Nat.reduceEqDiff, Nat.reduceAdd, Nat.reduceMul, Nat.reduceLT, Nat.reduceLeDiff, Nat.reducePow, Nat.reduceDiv, Nat.reduceMod, Nat.succ_ne_self, Nat.reduceBEq, Nat.reduceBNe, vint, TyS, TyF, MH, g1, Int.toNat_natCast, g2, g3, g4] <;> with_reducible rfl) (by decide) ?_
            repeat (refine awp_seq ?_)
            -- leaf 3 ret
            refine awp_ret ⟨.inr rfl, _, _, rfl, ?_, rfl⟩
            simp only [LS, SS, SX, HS, mkS_cons, mkS_nil, ↓reduceIte, eq_self', List.map_nil, beq_self_eq_true, Nat.reduceEqDiff, Nat.reduceAdd, Nat.succ_ne_self, vint, TyS, TyF]
          · -- else t92
            have b3' : (matchT ps t.args[i] p.args[i] q).1 = true := by simpa using b3
            rw [b3', if_pos rfl] at hg
            repeat (refine awp_seq ?_)
            refine awp_skip ?_
            -- leaf 4 next0
            exact ⟨⟨rfl, rfl, trivial⟩, (matchT ps t.args[i] p.args[i] q).2, [], ⟨rfl, rfl, rfl, trivial⟩, by simp only [LS, SS, SX, HS, mkS_cons, mkS_nil, ↓reduceIte, eq_self', List.map_nil, beq_self_eq_true, Nat.reduceEqDiff, Nat.reduceAdd, Nat.succ_ne_self, vint, TyS, TyF], matchT_ok ps _ _ _ hwt hq, hg⟩
        · intro q hg
          obtain ⟨hq, hg⟩ := hg
          rw [List.drop_eq_nil_of_le (by simp; omega), matchL_nil] at hg
          rw [← hg]
          -- region 15
          repeat (refine awp_seq ?_)
          refine e_eval (by simp only [asq, as0, as1, as2, awanted, aop, LS, SS, SX, HS, mkS_cons, mkS_nil, ↓reduceIte, eq_self', List.map_nil, beq_self_eq_true, Nat.reduceEqDiff, Nat.reduceAdd, Nat.reduceMul, Nat.reduceLT, Nat.reduceLeDiff, Nat.reducePow, Nat.reduceDiv, Nat.reduceMod, Nat.succ_ne_self, Nat.reduceBEq, Nat.reduceBNe, vint, TyS, TyF, MH] <;> with_reducible rfl) (by decide) ?_
          repeat (refine awp_seq ?_)
          -- leaf 5 ret
          refine awp_ret ⟨.inr rfl, _, _, rfl, ?_, rfl⟩
          simp only [LS, SS, SX, HS, mkS_cons, mkS_nil, ↓reduceIte, eq_self', List.map_nil, beq_self_eq_true, Nat.reduceEqDiff, Nat.reduceAdd, Nat.succ_ne_self, vint, TyS, TyF]

end Go.Abs
set_option linter.unusedVariables false
set_option linter.unusedSimpArgs false
set_option maxRecDepth 4000
namespace Go.Abs
open Go.Proofs

theorem match_c (ps : List Int) (t p : Ty) (hx : ps.length * 40 ≤ 2 ^ 47) (ht : t.W) (hp : p.W) : PC Try.prog 22 [t.enc, p.enc, .slice (ps.map vint) .none] (.tup [.slice ((matchP ps t p).1.map Ty.enc) .none, .bool (matchP ps t p).2]) := by
  have em : maxLen = 9223372036854775807 := by decide
  have hx' : ps.length ≤ maxLen := by rw [em]; omega
  have m1 : ((0 : Int) ≤ (ps.length : Int)) = True := by simp
  have m2 : ((ps.length : Int) ≤ ps.length) = True := by simp
  have m3 : ((ps.length : Int) * (40 : Nat) ≤ 2 ^ 47) = True := by simp only [eq_iff_iff, iff_true]; omega
  have m4 : ((ps.length : Int) ≤ maxLen) = True := by simp only [eq_iff_iff, iff_true]; omega
  have m5 : ((ps.length : Int) * (1 : Nat) ≤ 2 ^ 47) = True := by simp only [eq_iff_iff, iff_true]; omega
  have hok := matchT_ok ps p t (mS0 ps) ht (mS0_ok ps)
  have hM : ACalls Try.prog 74 [.optr 4 0, t.enc, p.enc] [.row [.int .i64 t.kind, .int .i64 t.id, .slice (t.args.map Ty.enc) .none], .row [.int .i64 p.kind, .int .i64 p.id, .slice (p.args.map Ty.enc) .none], .row (flatE ((List.replicate ps.length (Ty.mk 0 0 [])).map Ty.enc)), .row ((List.replicate ps.length false).map PV.bool), .row [.slice (ps.map vint) .none, .msl 2 0 ps.length ps.length, .msl 3 0 ps.length ps.length]]
      fun r' H' => r' = .bool (matchT ps t p (mS0 ps)).1 ∧ H' = [.row [.int .i64 t.kind, .int .i64 t.id, .slice (t.args.map Ty.enc) .none], .row [.int .i64 p.kind, .int .i64 p.id, .slice (p.args.map Ty.enc) .none], .row (flatE ((matchT ps t p (mS0 ps)).2.1.map Ty.enc)), .row ((matchT ps t p (mS0 ps)).2.2.map PV.bool), .row [.slice (ps.map vint) .none, .msl 2 0 ps.length ps.length, .msl 3 0 ps.length ps.length]] := by
    have := match_k ps hx' (im := 4) (ia := 2) (ib := 3) (by decide) (by decide) (by decide) p.size t p [.row [.int .i64 t.kind, .int .i64 t.id, .slice (t.args.map Ty.enc) .none], .row [.int .i64 p.kind, .int .i64 p.id, .slice (p.args.map Ty.enc) .none], .row (flatE ((List.replicate ps.length (Ty.mk 0 0 [])).map Ty.enc)), .row ((List.replicate ps.length false).map PV.bool), .row [.slice (ps.map vint) .none, .msl 2 0 ps.length ps.length, .msl 3 0 ps.length ps.length]] (mS0 ps) (Nat.le_refl _) ht hp (mS0_ok ps) (by simp) (by simp) rfl
    rw [mH_self rfl rfl] at this
    exact this
  refine pc_of (N := 27) Try.func22 rfl rfl (by simp) (by simp [Ty.bel, bel_ints0]) (.tup _ (by simp [bel_slice_ty, Bel.bool])) ?_
  -- region 0
  repeat (refine awp_seq ?_)
  refine e_eval (by simp only [asq, as0, as1, as2, awanted, aop, LS, SS, SX, HS, mkS_cons, mkS_nil, ↓reduceIte, eq_self', List.map_nil, beq_self_eq_true, Nat.reduceEqDiff, Nat.reduceAdd, Nat.reduceMul, Nat.reduceLT, Nat.reduceLeDiff, Nat.reducePow, Nat.reduceDiv, Nat.reduceMod, Nat.succ_ne_self, Nat.reduceBEq, Nat.reduceBNe, Tryti24, Trytf24, Trytz24, Trytp24, vint, TyS, TyF] <;> with_reducible rfl) (by decide) ?_
  -- region 1
  repeat (refine awp_seq ?_)
  refine awp_draw 3 (by kernel_rfl) ?_
  refine d_take (bm := [0, 0, 2, 6, 0, 16, 48, 127, 255, 511]) 3 (fresh := (4)) (by kernel_rfl) (by simp only [dsq, ds0, ds1, ds2, ds3, awanted, hapB, effIds, effSet, nextFresh, ard, freshOk, isUnborn, aop, abuiltin, LS, SS, SX, HS, mkS_cons, mkS_nil, ↓reduceIte, eq_self', List.map_nil, beq_self_eq_true, Nat.reduceEqDiff, Nat.reduceAdd, Nat.reduceMul, Nat.reduceLT, Nat.reduceLeDiff, Nat.reducePow, Nat.reduceDiv, Nat.reduceMod, Nat.succ_ne_self, Nat.reduceBEq, Nat.reduceBNe, Tryti3, Trytz3, Trytp3, Trytk3, Tryti25, Tryte25, Trytz25, Trytp25, vint, TyS, TyF, m1, m2, m3, m4, m5] <;> with_reducible rfl) (by decide) (by decide) ?_
  refine dops_mt (bm := [0, 0, 2, 6, 0, 16, 48, 127, 255, 511]) (2) (by kernel_rfl) (by simp only [dsq, ds0, ds1, ds2, ds3, awanted, hapB, effIds, effSet, nextFresh, ard, freshOk, isUnborn, aop, amakeSlice, LS, SS, SX, HS, mkS_cons, mkS_nil, ↓reduceIte, eq_self', List.map_nil, beq_self_eq_true, Nat.reduceEqDiff, Nat.reduceAdd, Nat.reduceMul, Nat.reduceLT, Nat.reduceLeDiff, Nat.reducePow, Nat.reduceDiv, Nat.reduceMod, Nat.succ_ne_self, Nat.reduceBEq, Nat.reduceBNe, Tryti22, Tryte22, Trytz22, Trytp22, Tryti24, Trytf24, Trytz24, Trytp24, vint, TyS, TyF, m1, m2, m3, m4, m5, amakeSlice]) (by decide) (by simp only [dsq, ds0, ds1, ds2, ds3, awanted, hapB, effIds, effSet, nextFresh, ard, freshOk, isUnborn, aop, amakeSlice, LS, SS, SX, HS, mkS_cons, mkS_nil, ↓reduceIte, eq_self', List.map_nil, beq_self_eq_true, Nat.reduceEqDiff, Nat.reduceAdd, Nat.reduceMul, Nat.reduceLT, Nat.reduceLeDiff, Nat.reducePow, Nat.reduceDiv, Nat.reduceMod, Nat.succ_ne_self, Nat.reduceBEq, Nat.reduceBNe, Tryti22, Tryte22, Trytz22, Trytp22, Tryti24, Trytf24, Trytz24, Trytp24, vint, TyS, TyF, m1, m2, m3, m4, m5, amakeSlice] <;> with_reducible rfl) (by simp only [dsq, ds0, ds1, ds2, ds3, awanted, hapB, effIds, effSet, nextFresh, ard, freshOk, isUnborn, aop, amakeSlice, LS, SS, SX, HS, mkS_cons, mkS_nil, ↓reduceIte, eq_self', List.map_nil, beq_self_eq_true, Nat.reduceEqDiff, Nat.reduceAdd, Nat.reduceMul, Nat.reduceLT, Nat.reduceLeDiff, Nat.reducePow, Nat.reduceDiv, Nat.reduceMod, Nat.succ_ne_self, Nat.reduceBEq, Nat.reduceBNe, Tryti22, Tryte22, Trytz22, Trytp22, Tryti24, Trytf24, Trytz24, Trytp24, vint, TyS, TyF, m1, m2, m3, m4, m5, amakeSlice]) (by simp only [dsq, ds0, ds1, ds2, ds3, awanted, hapB, effIds, effSet, nextFresh, ard, freshOk, isUnborn, aop, amakeSlice, LS, SS, SX, HS, mkS_cons, mkS_nil, ↓reduceIte, eq_self', List.map_nil, beq_self_eq_true, Nat.reduceEqDiff, Nat.reduceAdd, Nat.reduceMul, Nat.reduceLT, Nat.reduceLeDiff, Nat.reducePow, Nat.reduceDiv, Nat.reduceMod, Nat.succ_ne_self, Nat.reduceBEq, Nat.reduceBNe, Tryti22, Tryte22, Trytz22, Trytp22, Tryti24, Trytf24, Trytz24, Trytp24, vint, TyS, TyF, m1, m2, m3, m4, m5, amakeSlice]) (by simp only [dsq, ds0, ds1, ds2, ds3, awanted, hapB, effIds, effSet, nextFresh, ard, freshOk, isUnborn, aop, amakeSlice, LS, SS, SX, HS, mkS_cons, mkS_nil, ↓reduceIte, eq_self', List.map_nil, beq_self_eq_true, Nat.reduceEqDiff, Nat.reduceAdd, Nat.reduceMul, Nat.reduceLT, Nat.reduceLeDiff, Nat.reducePow, Nat.reduceDiv, Nat.reduceMod, Nat.succ_ne_self, Nat.reduceBEq, Nat.reduceBNe, Tryti22, Tryte22, Trytz22, Trytp22, Tryti24, Trytf24, Trytz24, Trytp24, vint, TyS, TyF, m1, m2, m3, m4, m5, amakeSlice] <;> with_reducible rfl) (by simp only [dsq, ds0, ds1, ds2, ds3, awanted, hapB, effIds, effSet, nextFresh, ard, freshOk, isUnborn, aop, amakeSlice, LS, SS, SX, HS, mkS_cons, mkS_nil, ↓reduceIte, eq_self', List.map_nil, beq_self_eq_true, Nat.reduceEqDiff, Nat.reduceAdd, Nat.reduceMul, Nat.reduceLT, Nat.reduceLeDiff, Nat.reducePow, Nat.reduceDiv, Nat.reduceMod, Nat.succ_ne_self, Nat.reduceBEq, Nat.reduceBNe, Tryti22, Tryte22, Trytz22, Trytp22, Tryti24, Trytf24, Trytz24, Trytp24, vint, TyS, TyF, m1, m2, m3, m4, m5, amakeSlice] <;> with_reducible rfl) (by simp only [dsq, ds0, ds1, ds2, ds3, awanted, hapB, effIds, effSet, nextFresh, ard, freshOk, isUnborn, aop, amakeSlice, LS, SS, SX, HS, mkS_cons, mkS_nil, ↓reduceIte, eq_self', List.map_nil, beq_self_eq_true, Nat.reduceEqDiff, Nat.reduceAdd, Nat.reduceMul, Nat.reduceLT, Nat.reduceLeDiff, Nat.reducePow, Nat.reduceDiv, Nat.reduceMod, Nat.succ_ne_self, Nat.reduceBEq, Nat.reduceBNe, Tryti22, Tryte22, Trytz22, Trytp22, Tryti24, Trytf24, Trytz24, Trytp24, vint, TyS, TyF, m1, m2, m3, m4, m5, amakeSlice] <;> with_reducible rfl) ?_
  refine d_take (bm := [0, 0, 2, 6, 0, 16, 48, 127, 255, 511]) 2 (fresh := (4)) (by kernel_rfl) (by simp only [dsq, ds0, ds1, ds2, ds3, awanted, hapB, effIds, effSet, nextFresh, ard, freshOk, isUnborn, aop, abuiltin, LS, SS, SX, HS, mkS_cons, mkS_nil, ↓reduceIte, eq_self', List.map_nil, beq_self_eq_true, Nat.reduceEqDiff, Nat.reduceAdd, Nat.reduceMul, Nat.reduceLT, Nat.reduceLeDiff, Nat.reducePow, Nat.reduceDiv, Nat.reduceMod, Nat.succ_ne_self, Nat.reduceBEq, Nat.reduceBNe, Tryti3, Trytz3, Trytp3, Trytk3, Tryti25, Tryte25, Trytz25, Trytp25, vint, TyS, TyF, m1, m2, m3, m4, m5] <;> with_reducible rfl) (by decide) (by decide) ?_
  refine dops_mt (bm := [0, 0, 2, 6, 0, 16, 48, 127, 255, 511]) (3) (by kernel_rfl) (by simp only [dsq, ds0, ds1, ds2, ds3, awanted, hapB, effIds, effSet, nextFresh, ard, freshOk, isUnborn, aop, amakeSlice, LS, SS, SX, HS, mkS_cons, mkS_nil, ↓reduceIte, eq_self', List.map_nil, beq_self_eq_true, Nat.reduceEqDiff, Nat.reduceAdd, Nat.reduceMul, Nat.reduceLT, Nat.reduceLeDiff, Nat.reducePow, Nat.reduceDiv, Nat.reduceMod, Nat.succ_ne_self, Nat.reduceBEq, Nat.reduceBNe, Tryti4, Trytz4, Trytp4, Trytb4, Tryti102, Tryte102, Trytz102, Trytp102, vint, TyS, TyF, m1, m2, m3, m4, m5, amakeSlice]) (by decide) (by simp only [dsq, ds0, ds1, ds2, ds3, awanted, hapB, effIds, effSet, nextFresh, ard, freshOk, isUnborn, aop, amakeSlice, LS, SS, SX, HS, mkS_cons, mkS_nil, ↓reduceIte, eq_self', List.map_nil, beq_self_eq_true, Nat.reduceEqDiff, Nat.reduceAdd, Nat.reduceMul, Nat.reduceLT, Nat.reduceLeDiff, Nat.reducePow, Nat.reduceDiv, Nat.reduceMod, Nat.succ_ne_self, Nat.reduceBEq, Nat.reduceBNe, Tryti4, Trytz4, Trytp4, Trytb4, Tryti102, Tryte102, Trytz102, Trytp102, vint, TyS, TyF, m1, m2, m3, m4, m5, amakeSlice] <;> with_reducible rfl) (by simp only [dsq, ds0, ds1, ds2, ds3, awanted, hapB, effIds, effSet, nextFresh, ard, freshOk, isUnborn, aop, amakeSlice, LS, SS, SX, HS, mkS_cons, mkS_nil, ↓reduceIte, eq_self', List.map_nil, beq_self_eq_true, Nat.reduceEqDiff, Nat.reduceAdd, Nat.reduceMul, Nat.reduceLT, Nat.reduceLeDiff, Nat.reducePow, Nat.reduceDiv, Nat.reduceMod, Nat.succ_ne_self, Nat.reduceBEq, Nat.reduceBNe, Tryti4, Trytz4, Trytp4, Trytb4, Tryti102, Tryte102, Trytz102, Trytp102, vint, TyS, TyF, m1, m2, m3, m4, m5, amakeSlice]) (by simp only [dsq, ds0, ds1, ds2, ds3, awanted, hapB, effIds, effSet, nextFresh, ard, freshOk, isUnborn, aop, amakeSlice, LS, SS, SX, HS, mkS_cons, mkS_nil, ↓reduceIte, eq_self', List.map_nil, beq_self_eq_true, Nat.reduceEqDiff, Nat.reduceAdd, Nat.reduceMul, Nat.reduceLT, Nat.reduceLeDiff, Nat.reducePow, Nat.reduceDiv, Nat.reduceMod, Nat.succ_ne_self, Nat.reduceBEq, Nat.reduceBNe, Tryti4, Trytz4, Trytp4, Trytb4, Tryti102, Tryte102, Trytz102, Trytp102, vint, TyS, TyF, m1, m2, m3, m4, m5, amakeSlice]) (by simp only [dsq, ds0, ds1, ds2, ds3, awanted, hapB, effIds, effSet, nextFresh, ard, freshOk, isUnborn, aop, amakeSlice, LS, SS, SX, HS, mkS_cons, mkS_nil, ↓reduceIte, eq_self', List.map_nil, beq_self_eq_true, Nat.reduceEqDiff, Nat.reduceAdd, Nat.reduceMul, Nat.reduceLT, Nat.reduceLeDiff, Nat.reducePow, Nat.reduceDiv, Nat.reduceMod, Nat.succ_ne_self, Nat.reduceBEq, Nat.reduceBNe, Tryti4, Trytz4, Trytp4, Trytb4, Tryti102, Tryte102, Trytz102, Trytp102, vint, TyS, TyF, m1, m2, m3, m4, m5, amakeSlice] <;> with_reducible rfl) (by simp only [dsq, ds0, ds1, ds2, ds3, awanted, hapB, effIds, effSet, nextFresh, ard, freshOk, isUnborn, aop, amakeSlice, LS, SS, SX, HS, mkS_cons, mkS_nil, ↓reduceIte, eq_self', List.map_nil, beq_self_eq_true, Nat.reduceEqDiff, Nat.reduceAdd, Nat.reduceMul, Nat.reduceLT, Nat.reduceLeDiff, Nat.reducePow, Nat.reduceDiv, Nat.reduceMod, Nat.succ_ne_self, Nat.reduceBEq, Nat.reduceBNe, Tryti4, Trytz4, Trytp4, Trytb4, Tryti102, Tryte102, Trytz102, Trytp102, vint, TyS, TyF, m1, m2, m3, m4, m5, amakeSlice] <;> with_reducible rfl) (by simp only [dsq, ds0, ds1, ds2, ds3, awanted, hapB, effIds, effSet, nextFresh, ard, freshOk, isUnborn, aop, amakeSlice, LS, SS, SX, HS, mkS_cons, mkS_nil, ↓reduceIte, eq_self', List.map_nil, beq_self_eq_true, Nat.reduceEqDiff, Nat.reduceAdd, Nat.reduceMul, Nat.reduceLT, Nat.reduceLeDiff, Nat.reducePow, Nat.reduceDiv, Nat.reduceMod, Nat.succ_ne_self, Nat.reduceBEq, Nat.reduceBNe, Tryti4, Trytz4, Trytp4, Trytb4, Tryti102, Tryte102, Trytz102, Trytp102, vint, TyS, TyF, m1, m2, m3, m4, m5, amakeSlice] <;> with_reducible rfl) ?_
  refine d_end (bm := [0, 0, 2, 6, 0, 16, 48, 127, 255, 511]) (fresh := (4)) (by kernel_rfl) (by simp only [dsq, ds0, ds1, ds2, ds3, awanted, hapB, effIds, effSet, nextFresh, ard, freshOk, isUnborn, aop, abuild, splice, LS, SS, SX, HS, mkS_cons, mkS_nil, ↓reduceIte, eq_self', List.map_nil, beq_self_eq_true, Nat.reduceEqDiff, Nat.reduceAdd, Nat.reduceMul, Nat.reduceLT, Nat.reduceLeDiff, Nat.reducePow, Nat.reduceDiv, Nat.reduceMod, Nat.succ_ne_self, Nat.reduceBEq, Nat.reduceBNe, Tryti104, Trytf104, Trytz104, Trytp104, vint, TyS, TyF, m1, m2, m3, m4, m5] <;> with_reducible rfl) (by decide) ?_
  -- region 2
  repeat (refine awp_seq ?_)
  refine awp_dropRow 2 rfl ?_
  refine awp_region ?_
  refine e_take 3 (by simp only [asq, as0, as1, as2, awanted, aop, aload, ajust, LS, SS, SX, HS, mkS_cons, mkS_nil, ↓reduceIte, eq_self', List.map_nil, beq_self_eq_true, Nat.reduceEqDiff, Nat.reduceAdd, Nat.reduceMul, Nat.reduceLT, Nat.reduceLeDiff, Nat.reducePow, Nat.reduceDiv, Nat.reduceMod, Nat.succ_ne_self, Nat.reduceBEq, Nat.reduceBNe, Tryti24, Trytf24, Trytz24, Trytp24, vint, TyS, TyF, zero_row, false_row] <;> with_reducible rfl) (by decide) ?_
  refine aops_acall (by simp only [acall, awanted, LS, SS, SX, HS, mkS_cons, mkS_nil, ↓reduceIte, eq_self', List.map_nil, beq_self_eq_true, Nat.reduceEqDiff, Nat.reduceAdd, Nat.reduceMul, Nat.reduceLT, Nat.reduceLeDiff, Nat.reducePow, Nat.reduceDiv, Nat.reduceMod, Nat.succ_ne_self, Nat.reduceBEq, Nat.reduceBNe, vint, TyS, TyF, zero_row, false_row] <;> with_reducible rfl) (by simp only [acall, awanted, LS, SS, SX, HS, mkS_cons, mkS_nil, ↓reduceIte, eq_self', List.map_nil, beq_self_eq_true, Nat.reduceEqDiff, Nat.reduceAdd, Nat.reduceMul, Nat.reduceLT, Nat.reduceLeDiff, Nat.reducePow, Nat.reduceDiv, Nat.reduceMod, Nat.succ_ne_self, Nat.reduceBEq, Nat.reduceBNe, vint, TyS, TyF, zero_row, false_row]) (by decide) Trygo74 (hM) ?_
  rintro _ _ ⟨rfl, rfl⟩
  refine e_end (by simp only [asq, as0, as1, as2, awanted, aop, aun, ajust, LS, SS, SX, HS, mkS_cons, mkS_nil, ↓reduceIte, eq_self', List.map_nil, beq_self_eq_true, Nat.reduceEqDiff, Nat.reduceAdd, Nat.reduceMul, Nat.reduceLT, Nat.reduceLeDiff, Nat.reducePow, Nat.reduceDiv, Nat.reduceMod, Nat.succ_ne_self, Nat.reduceBEq, Nat.reduceBNe, vint, TyS, TyF, zero_row, false_row] <;> with_reducible rfl) (by decide) ?_
  repeat (refine awp_seq ?_)
  refine awp_cond rfl (by simp only [LS, SS, SX, HS, mkS_cons, mkS_nil, ↓reduceIte, eq_self', List.map_nil, beq_self_eq_true, Nat.reduceEqDiff, Nat.reduceAdd, Nat.succ_ne_self, vint, TyS, TyF] <;> with_reducible rfl) (fun b0 => ?_) (fun b0 => ?_)
  · -- if t22
    refine awp_sel [] (by simp only [LS, SS, SX, HS, mkS_cons, mkS_nil, ↓reduceIte, eq_self', List.map_nil, beq_self_eq_true, Nat.reduceEqDiff, Nat.reduceAdd, Nat.succ_ne_self, vint, TyS, TyF] <;> with_reducible rfl) ?_
    -- region 3
    repeat (refine awp_seq ?_)
    refine e_eval (by simp only [asq, as0, as1, as2, awanted, aop, LS, SS, SX, HS, mkS_cons, mkS_nil, ↓reduceIte, eq_self', List.map_nil, beq_self_eq_true, Nat.reduceEqDiff, Nat.reduceAdd, Nat.reduceMul, Nat.reduceLT, Nat.reduceLeDiff, Nat.reducePow, Nat.reduceDiv, Nat.reduceMod, Nat.succ_ne_self, Nat.reduceBEq, Nat.reduceBNe, vint, TyS, TyF] <;> with_reducible rfl) (by decide) ?_
    repeat (refine awp_seq ?_)
    -- leaf 0 ret
    refine awp_ret ⟨.inr rfl, _, (ares_two (.tmp 6) (.tmp 7) rfl (ares_tmp1 (by decide)) (ares_tmp1 (by decide))), ?_⟩
    have hb' : (matchT ps t p (mS0 ps)).1 = false := by simpa using b0
    simp only [matchP, hb', Bool.false_eq_true, if_false]
    simp only [LS, SS, SX, HS, mkS_cons, mkS_nil, ↓reduceIte, eq_self', List.map_nil, beq_self_eq_true, Nat.reduceEqDiff, Nat.reduceAdd, Nat.succ_ne_self, vint, TyS, TyF]
  · -- else t22
    repeat (refine awp_seq ?_)
    refine awp_skip ?_
    refine awp_sel [8] (by simp only [LS, SS, SX, HS, mkS_cons, mkS_nil, ↓reduceIte, eq_self', List.map_nil, beq_self_eq_true, Nat.reduceEqDiff, Nat.reduceAdd, Nat.succ_ne_self, vint, TyS, TyF] <;> with_reducible rfl) ?_
    -- region 4
    repeat (refine awp_seq ?_)
    refine e_eval (by simp only [asq, as0, as1, as2, awanted, aop, afldAddr, ajust, aload, LS, SS, SX, HS, mkS_cons, mkS_nil, ↓reduceIte, eq_self', List.map_nil, beq_self_eq_true, Nat.reduceEqDiff, Nat.reduceAdd, Nat.reduceMul, Nat.reduceLT, Nat.reduceLeDiff, Nat.reducePow, Nat.reduceDiv, Nat.reduceMod, Nat.succ_ne_self, Nat.reduceBEq, Nat.reduceBNe, Tryti22, Tryte22, Trytz22, Trytp22, Tryti24, Trytf24, Trytz24, Trytp24, Tryti104, Trytf104, Trytz104, Trytp104, vint, TyS, TyF] <;> with_reducible rfl) (by decide) ?_
    repeat (refine awp_seq ?_)
    -- leaf 1 ret
    have hb' : (matchT ps t p (mS0 ps)).1 = true := by simpa using b0
    have hl := hok.l1
    refine awp_freeze (H1 := []) [(6, .slice ((matchT ps t p (mS0 ps)).2.1.map Ty.enc) .none), (7, .bool true)] ⟨.inr ⟨2, ps.length, ps.length, 3, (matchT ps t p (mS0 ps)).2.1.map Ty.enc, rfl, Nat.zero_le _, rfl, by simp [hl], Nat.le_refl _, fun e he => by obtain ⟨t, _, rfl⟩ := List.mem_map.1 he; exact Ty.enc_len t, fun e he => by obtain ⟨t, _, rfl⟩ := List.mem_map.1 he; exact fun x hx => by have := Ty.bel 0 t; rw [Ty.enc_eq] at this; cases this with | agg _ h => rw [Ty.enc_cells] at hx; exact h x hx, by rw [List.take_of_length_le (by simp [hl])]⟩, .same (.bool _), trivial⟩ rfl (Nat.le_refl _) (hbel_nil _) ?_
    refine awp_ret ⟨.inr rfl, _, (ares_two (.tmp 6) (.tmp 7) rfl (ares_tmp1 (by decide)) (ares_tmp1 (by decide))), ?_⟩
    simp only [matchP, hb', if_true]
    simp only [LS, SS, SX, HS, mkS_cons, mkS_nil, ↓reduceIte, eq_self', List.map_nil, beq_self_eq_true, Nat.reduceEqDiff, Nat.reduceAdd, Nat.succ_ne_self, vint, TyS, TyF]

end Go.Abs
