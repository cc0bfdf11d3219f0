/- Part 4 of a proof of the law FormatMatchesReference: Go data as trees, the walks of the functions that the law reaches, the plain laws. -/
import Derived.Test.YtgbbhabddjejcaaGCFormatMatchesReference
import Derived.Test.YtgbbhabddjejcaaProg
import Derived.KernelRfl
import Derived.Shelf.Strings.OnBuilder
import GoSem.ClaimJoined
import Derived.ChangeArms
import Derived.Carry
import Derived.SizedLaws
import Derived.JoinedCond
import Derived.Deep.CondSized
import Derived.Test.YtgbbhabddjejcaaRows
set_option linter.unusedVariables false
set_option linter.unusedSimpArgs false
namespace Go.Abs
open Go.Proofs
theorem Tryti2 : tinfo Try.prog 2 = some ⟨false, 1, 8⟩ := by kernel_rfl
theorem Trytz2 : tzero Try.prog 2 = some (.int .i64 0) := by kernel_rfl
theorem Trytp2 : tptr Try.prog 2 = false := by kernel_rfl
theorem Trytk2 : tint Try.prog 2 = some .i64 := by kernel_rfl
theorem Tryti3 : tinfo Try.prog 3 = some ⟨false, 1, 8⟩ := by kernel_rfl
theorem Trytz3 : tzero Try.prog 3 = some (.int .i64 0) := by kernel_rfl
theorem Trytp3 : tptr Try.prog 3 = false := by kernel_rfl
theorem Trytk3 : tint Try.prog 3 = some .i64 := by kernel_rfl
theorem Tryti4 : tinfo Try.prog 4 = some ⟨false, 1, 1⟩ := by kernel_rfl
theorem Trytz4 : tzero Try.prog 4 = some (.bool false) := by kernel_rfl
theorem Trytp4 : tptr Try.prog 4 = false := by kernel_rfl
theorem Trytb4 : tbool Try.prog 4 = true := by kernel_rfl
theorem Tryti5 : tinfo Try.prog 5 = some ⟨false, 1, 1⟩ := by kernel_rfl
theorem Trytz5 : tzero Try.prog 5 = some (.int .u8 0) := by kernel_rfl
theorem Trytp5 : tptr Try.prog 5 = false := by kernel_rfl
theorem Trytk5 : tint Try.prog 5 = some .u8 := by kernel_rfl
theorem Tryti6 : tinfo Try.prog 6 = some ⟨false, 1, 1⟩ := by kernel_rfl
theorem Trytz6 : tzero Try.prog 6 = some (.int .u8 0) := by kernel_rfl
theorem Trytp6 : tptr Try.prog 6 = false := by kernel_rfl
theorem Trytk6 : tint Try.prog 6 = some .u8 := by kernel_rfl
theorem Tryti7 : tinfo Try.prog 7 = some ⟨true, 4, 24⟩ := by kernel_rfl
theorem Trytf7 : tflds Try.prog 7 = some [(0, ⟨false, 1, 8⟩), (1, ⟨false, 1, 8⟩), (2, ⟨false, 1, 1⟩), (3, ⟨false, 1, 1⟩)] := by kernel_rfl
theorem Trytz7 : tzero Try.prog 7 = some (.agg [.int .i64 0, .int .i64 0, .bool false, .int .u8 0]) := by kernel_rfl
theorem Trytp7 : tptr Try.prog 7 = false := by kernel_rfl
theorem Tryti8 : tinfo Try.prog 8 = some ⟨true, 4, 24⟩ := by kernel_rfl
theorem Trytf8 : tflds Try.prog 8 = some [(0, ⟨false, 1, 8⟩), (1, ⟨false, 1, 8⟩), (2, ⟨false, 1, 1⟩), (3, ⟨false, 1, 1⟩)] := by kernel_rfl
theorem Trytz8 : tzero Try.prog 8 = some (.agg [.int .i64 0, .int .i64 0, .bool false, .int .u8 0]) := by kernel_rfl
theorem Trytp8 : tptr Try.prog 8 = false := by kernel_rfl
theorem Tryti9 : tinfo Try.prog 9 = some ⟨false, 1, 16⟩ := by kernel_rfl
theorem Trytz9 : tzero Try.prog 9 = some (.str []) := by kernel_rfl
theorem Trytp9 : tptr Try.prog 9 = false := by kernel_rfl
theorem Tryts9 : tstr Try.prog 9 = true := by kernel_rfl
theorem Tryti10 : tinfo Try.prog 10 = some ⟨false, 1, 16⟩ := by kernel_rfl
theorem Trytz10 : tzero Try.prog 10 = some (.str []) := by kernel_rfl
theorem Trytp10 : tptr Try.prog 10 = false := by kernel_rfl
theorem Tryts10 : tstr Try.prog 10 = true := by kernel_rfl
theorem Tryti11 : tinfo Try.prog 11 = some ⟨false, 1, 16⟩ := by kernel_rfl
theorem Trytz11 : tzero Try.prog 11 = some (.str []) := by kernel_rfl
theorem Trytp11 : tptr Try.prog 11 = false := by kernel_rfl
theorem Tryts11 : tstr Try.prog 11 = true := by kernel_rfl
theorem Tryti12 : tinfo Try.prog 12 = some ⟨false, 1, 8⟩ := by kernel_rfl
theorem Trytz12 : tzero Try.prog 12 = some (.int .u64 0) := by kernel_rfl
theorem Trytp12 : tptr Try.prog 12 = false := by kernel_rfl
theorem Trytk12 : tint Try.prog 12 = some .u64 := by kernel_rfl
theorem Tryti13 : tinfo Try.prog 13 = some ⟨true, 2, 24⟩ := by kernel_rfl
theorem Trytf13 : tflds Try.prog 13 = some [(0, ⟨false, 1, 16⟩), (1, ⟨false, 1, 8⟩)] := by kernel_rfl
theorem Trytz13 : tzero Try.prog 13 = some (.agg [.str [], .int .u64 0]) := by kernel_rfl
theorem Trytp13 : tptr Try.prog 13 = false := by kernel_rfl
theorem Tryti14 : tinfo Try.prog 14 = some ⟨true, 2, 24⟩ := by kernel_rfl
theorem Trytf14 : tflds Try.prog 14 = some [(0, ⟨false, 1, 16⟩), (1, ⟨false, 1, 8⟩)] := by kernel_rfl
theorem Trytz14 : tzero Try.prog 14 = some (.agg [.str [], .int .u64 0]) := by kernel_rfl
theorem Trytp14 : tptr Try.prog 14 = false := by kernel_rfl
theorem Tryti15 : tinfo Try.prog 15 = some ⟨false, 1, 8⟩ := by kernel_rfl
theorem Trytz15 : tzero Try.prog 15 = some (.nilp) := by kernel_rfl
theorem Trytp15 : tptr Try.prog 15 = true := by kernel_rfl
theorem Tryti16 : tinfo Try.prog 16 = some ⟨false, 1, 8⟩ := by kernel_rfl
theorem Trytz16 : tzero Try.prog 16 = some (.nilp) := by kernel_rfl
theorem Trytp16 : tptr Try.prog 16 = true := by kernel_rfl
theorem Tryti17 : tinfo Try.prog 17 = some ⟨false, 1, 8⟩ := by kernel_rfl
theorem Trytz17 : tzero Try.prog 17 = some (.nilp) := by kernel_rfl
theorem Trytp17 : tptr Try.prog 17 = true := by kernel_rfl
theorem Tryti18 : tinfo Try.prog 18 = some ⟨true, 1, 8⟩ := by kernel_rfl
theorem Trytf18 : tflds Try.prog 18 = some [(0, ⟨false, 1, 8⟩)] := by kernel_rfl
theorem Trytz18 : tzero Try.prog 18 = some (.agg [.nilp]) := by kernel_rfl
theorem Trytp18 : tptr Try.prog 18 = false := by kernel_rfl
theorem Tryti19 : tinfo Try.prog 19 = some ⟨true, 1, 8⟩ := by kernel_rfl
theorem Trytf19 : tflds Try.prog 19 = some [(0, ⟨false, 1, 8⟩)] := by kernel_rfl
theorem Trytz19 : tzero Try.prog 19 = some (.agg [.nilp]) := by kernel_rfl
theorem Trytp19 : tptr Try.prog 19 = false := by kernel_rfl
theorem Tryti21 : tinfo Try.prog 21 = some ⟨false, 1, 4⟩ := by kernel_rfl
theorem Trytz21 : tzero Try.prog 21 = some (.int .i32 0) := by kernel_rfl
theorem Trytp21 : tptr Try.prog 21 = false := by kernel_rfl
theorem Trytk21 : tint Try.prog 21 = some .i32 := by kernel_rfl
theorem Tryti22 : tinfo Try.prog 22 = some ⟨false, 1, 24⟩ := by kernel_rfl
theorem Tryte22 : telem Try.prog 22 = some (34, ⟨true, 6, 56⟩) := by kernel_rfl
theorem Trytz22 : tzero Try.prog 22 = some (.slice [] .full) := by kernel_rfl
theorem Trytp22 : tptr Try.prog 22 = false := by kernel_rfl
theorem Tryti23 : tinfo Try.prog 23 = some ⟨false, 1, 24⟩ := by kernel_rfl
theorem Tryte23 : telem Try.prog 23 = some (72, ⟨true, 3, 24⟩) := by kernel_rfl
theorem Trytz23 : tzero Try.prog 23 = some (.slice [] .full) := by kernel_rfl
theorem Trytp23 : tptr Try.prog 23 = false := by kernel_rfl
theorem Tryti24 : tinfo Try.prog 24 = some ⟨false, 1, 24⟩ := by kernel_rfl
theorem Tryte24 : telem Try.prog 24 = some (74, ⟨true, 5, 48⟩) := by kernel_rfl
theorem Trytz24 : tzero Try.prog 24 = some (.slice [] .full) := by kernel_rfl
theorem Trytp24 : tptr Try.prog 24 = false := by kernel_rfl
theorem Tryti25 : tinfo Try.prog 25 = some ⟨true, 3, 72⟩ := by kernel_rfl
theorem Trytf25 : tflds Try.prog 25 = some [(0, ⟨false, 1, 24⟩), (1, ⟨false, 1, 24⟩), (2, ⟨false, 1, 24⟩)] := by kernel_rfl
theorem Trytz25 : tzero Try.prog 25 = some (.agg [.slice [] .full, .slice [] .full, .slice [] .full]) := by kernel_rfl
theorem Trytp25 : tptr Try.prog 25 = false := by kernel_rfl
theorem Tryti26 : tinfo Try.prog 26 = some ⟨true, 3, 72⟩ := by kernel_rfl
theorem Trytf26 : tflds Try.prog 26 = some [(0, ⟨false, 1, 24⟩), (1, ⟨false, 1, 24⟩), (2, ⟨false, 1, 24⟩)] := by kernel_rfl
theorem Trytz26 : tzero Try.prog 26 = some (.agg [.slice [] .full, .slice [] .full, .slice [] .full]) := by kernel_rfl
theorem Trytp26 : tptr Try.prog 26 = false := by kernel_rfl
theorem Tryti27 : tinfo Try.prog 27 = some ⟨false, 1, 24⟩ := by kernel_rfl
theorem Tryte27 : telem Try.prog 27 = some (29, ⟨true, 3, 40⟩) := by kernel_rfl
theorem Trytz27 : tzero Try.prog 27 = some (.slice [] .full) := by kernel_rfl
theorem Trytp27 : tptr Try.prog 27 = false := by kernel_rfl
theorem Tryti28 : tinfo Try.prog 28 = some ⟨true, 3, 40⟩ := by kernel_rfl
theorem Trytf28 : tflds Try.prog 28 = some [(0, ⟨false, 1, 8⟩), (1, ⟨false, 1, 8⟩), (2, ⟨false, 1, 24⟩)] := by kernel_rfl
theorem Trytz28 : tzero Try.prog 28 = some (.agg [.int .i64 0, .int .i64 0, .slice [] .full]) := by kernel_rfl
theorem Trytp28 : tptr Try.prog 28 = false := by kernel_rfl
theorem Tryti29 : tinfo Try.prog 29 = some ⟨true, 3, 40⟩ := by kernel_rfl
theorem Trytf29 : tflds Try.prog 29 = some [(0, ⟨false, 1, 8⟩), (1, ⟨false, 1, 8⟩), (2, ⟨false, 1, 24⟩)] := by kernel_rfl
theorem Trytz29 : tzero Try.prog 29 = some (.agg [.int .i64 0, .int .i64 0, .slice [] .full]) := by kernel_rfl
theorem Trytp29 : tptr Try.prog 29 = false := by kernel_rfl
theorem Tryti33 : tinfo Try.prog 33 = some ⟨true, 6, 56⟩ := by kernel_rfl
theorem Trytf33 : tflds Try.prog 33 = some [(0, ⟨false, 1, 8⟩), (1, ⟨false, 1, 8⟩), (2, ⟨false, 1, 8⟩), (3, ⟨false, 1, 8⟩), (4, ⟨false, 1, 16⟩), (5, ⟨false, 1, 1⟩)] := by kernel_rfl
theorem Trytz33 : tzero Try.prog 33 = some (.agg [.int .i64 0, .int .i64 0, .int .i64 0, .int .i64 0, .str [], .bool false]) := by kernel_rfl
theorem Trytp33 : tptr Try.prog 33 = false := by kernel_rfl
theorem Tryti34 : tinfo Try.prog 34 = some ⟨true, 6, 56⟩ := by kernel_rfl
theorem Trytf34 : tflds Try.prog 34 = some [(0, ⟨false, 1, 8⟩), (1, ⟨false, 1, 8⟩), (2, ⟨false, 1, 8⟩), (3, ⟨false, 1, 8⟩), (4, ⟨false, 1, 16⟩), (5, ⟨false, 1, 1⟩)] := by kernel_rfl
theorem Trytz34 : tzero Try.prog 34 = some (.agg [.int .i64 0, .int .i64 0, .int .i64 0, .int .i64 0, .str [], .bool false]) := by kernel_rfl
theorem Trytp34 : tptr Try.prog 34 = false := by kernel_rfl
theorem Tryti41 : tinfo Try.prog 41 = some ⟨false, 1, 24⟩ := by kernel_rfl
theorem Tryte41 : telem Try.prog 41 = some (9, ⟨false, 1, 16⟩) := by kernel_rfl
theorem Trytz41 : tzero Try.prog 41 = some (.slice [] .full) := by kernel_rfl
theorem Trytp41 : tptr Try.prog 41 = false := by kernel_rfl
theorem Tryti43 : tinfo Try.prog 43 = some ⟨false, 1, 8⟩ := by kernel_rfl
theorem Trytz43 : tzero Try.prog 43 = some (.nilp) := by kernel_rfl
theorem Trytp43 : tptr Try.prog 43 = true := by kernel_rfl
theorem Tryti44 : tinfo Try.prog 44 = some ⟨false, 1, 24⟩ := by kernel_rfl
theorem Tryte44 : telem Try.prog 44 = some (5, ⟨false, 1, 1⟩) := by kernel_rfl
theorem Trytz44 : tzero Try.prog 44 = some (.slice [] .full) := by kernel_rfl
theorem Trytp44 : tptr Try.prog 44 = false := by kernel_rfl
theorem Tryti45 : tinfo Try.prog 45 = some ⟨true, 2, 32⟩ := by kernel_rfl
theorem Trytf45 : tflds Try.prog 45 = some [(0, ⟨false, 1, 8⟩), (1, ⟨false, 1, 24⟩)] := by kernel_rfl
theorem Trytz45 : tzero Try.prog 45 = some (.agg [.nilp, .slice [] .full]) := by kernel_rfl
theorem Trytp45 : tptr Try.prog 45 = false := by kernel_rfl
theorem Tryti46 : tinfo Try.prog 46 = some ⟨true, 2, 32⟩ := by kernel_rfl
theorem Trytf46 : tflds Try.prog 46 = some [(0, ⟨false, 1, 8⟩), (1, ⟨false, 1, 24⟩)] := by kernel_rfl
theorem Trytz46 : tzero Try.prog 46 = some (.agg [.nilp, .slice [] .full]) := by kernel_rfl
theorem Trytp46 : tptr Try.prog 46 = false := by kernel_rfl
theorem Tryti53 : tinfo Try.prog 53 = some ⟨false, 1, 8⟩ := by kernel_rfl
theorem Trytz53 : tzero Try.prog 53 = some (.nilp) := by kernel_rfl
theorem Trytp53 : tptr Try.prog 53 = true := by kernel_rfl
theorem Tryti57 : tinfo Try.prog 57 = some ⟨true, 4, 40⟩ := by kernel_rfl
theorem Trytf57 : tflds Try.prog 57 = some [(0, ⟨false, 1, 8⟩), (1, ⟨false, 1, 8⟩), (2, ⟨false, 1, 8⟩), (3, ⟨false, 1, 16⟩)] := by kernel_rfl
theorem Trytz57 : tzero Try.prog 57 = some (.agg [.nilp, .nilp, .nilp, .str []]) := by kernel_rfl
theorem Trytp57 : tptr Try.prog 57 = false := by kernel_rfl
theorem Tryti58 : tinfo Try.prog 58 = some ⟨true, 4, 40⟩ := by kernel_rfl
theorem Trytf58 : tflds Try.prog 58 = some [(0, ⟨false, 1, 8⟩), (1, ⟨false, 1, 8⟩), (2, ⟨false, 1, 8⟩), (3, ⟨false, 1, 16⟩)] := by kernel_rfl
theorem Trytz58 : tzero Try.prog 58 = some (.agg [.nilp, .nilp, .nilp, .str []]) := by kernel_rfl
theorem Trytp58 : tptr Try.prog 58 = false := by kernel_rfl
theorem Tryti60 : tinfo Try.prog 60 = some ⟨true, 0, 0⟩ := by kernel_rfl
theorem Trytf60 : tflds Try.prog 60 = some [(0, ⟨true, 0, 0⟩)] := by kernel_rfl
theorem Trytz60 : tzero Try.prog 60 = some (.agg []) := by kernel_rfl
theorem Trytp60 : tptr Try.prog 60 = false := by kernel_rfl
theorem Tryti61 : tinfo Try.prog 61 = some ⟨true, 0, 0⟩ := by kernel_rfl
theorem Trytf61 : tflds Try.prog 61 = some [(0, ⟨true, 0, 0⟩)] := by kernel_rfl
theorem Trytz61 : tzero Try.prog 61 = some (.agg []) := by kernel_rfl
theorem Trytp61 : tptr Try.prog 61 = false := by kernel_rfl
theorem Tryti63 : tinfo Try.prog 63 = some ⟨false, 1, 4⟩ := by kernel_rfl
theorem Trytz63 : tzero Try.prog 63 = some (.int .u32 0) := by kernel_rfl
theorem Trytp63 : tptr Try.prog 63 = false := by kernel_rfl
theorem Trytk63 : tint Try.prog 63 = some .u32 := by kernel_rfl
theorem Tryti64 : tinfo Try.prog 64 = some ⟨false, 1, 1⟩ := by kernel_rfl
theorem Trytz64 : tzero Try.prog 64 = some (.int .u8 0) := by kernel_rfl
theorem Trytp64 : tptr Try.prog 64 = false := by kernel_rfl
theorem Trytk64 : tint Try.prog 64 = some .u8 := by kernel_rfl
theorem Tryti65 : tinfo Try.prog 65 = some ⟨false, 1, 1⟩ := by kernel_rfl
theorem Trytz65 : tzero Try.prog 65 = some (.int .u8 0) := by kernel_rfl
theorem Trytp65 : tptr Try.prog 65 = false := by kernel_rfl
theorem Trytk65 : tint Try.prog 65 = some .u8 := by kernel_rfl
theorem Tryti67 : tinfo Try.prog 67 = some ⟨false, 1, 4⟩ := by kernel_rfl
theorem Trytz67 : tzero Try.prog 67 = some (.int .i32 0) := by kernel_rfl
theorem Trytp67 : tptr Try.prog 67 = false := by kernel_rfl
theorem Trytk67 : tint Try.prog 67 = some .i32 := by kernel_rfl
theorem Tryti68 : tinfo Try.prog 68 = some ⟨false, 1, 4⟩ := by kernel_rfl
theorem Trytz68 : tzero Try.prog 68 = some (.int .i32 0) := by kernel_rfl
theorem Trytp68 : tptr Try.prog 68 = false := by kernel_rfl
theorem Trytk68 : tint Try.prog 68 = some .i32 := by kernel_rfl
theorem Tryti69 : tinfo Try.prog 69 = some ⟨true, 11, 48⟩ := by kernel_rfl
theorem Trytf69 : tflds Try.prog 69 = some [(0, ⟨false, 1, 8⟩), (1, ⟨false, 1, 8⟩), (2, ⟨false, 1, 4⟩), (3, ⟨false, 1, 1⟩), (4, ⟨false, 1, 1⟩), (5, ⟨false, 1, 1⟩), (6, ⟨false, 1, 1⟩), (7, ⟨false, 1, 8⟩), (8, ⟨false, 1, 8⟩), (9, ⟨false, 1, 4⟩), (10, ⟨false, 1, 4⟩)] := by kernel_rfl
theorem Trytz69 : tzero Try.prog 69 = some (.agg [.int .u64 0, .int .u64 0, .int .u32 0, .int .u8 0, .int .u8 0, .int .u8 0, .int .u8 0, .nilfn, .nilp, .int .i32 0, .int .i32 0]) := by kernel_rfl
theorem Trytp69 : tptr Try.prog 69 = false := by kernel_rfl
theorem Tryti70 : tinfo Try.prog 70 = some ⟨true, 11, 48⟩ := by kernel_rfl
theorem Trytf70 : tflds Try.prog 70 = some [(0, ⟨false, 1, 8⟩), (1, ⟨false, 1, 8⟩), (2, ⟨false, 1, 4⟩), (3, ⟨false, 1, 1⟩), (4, ⟨false, 1, 1⟩), (5, ⟨false, 1, 1⟩), (6, ⟨false, 1, 1⟩), (7, ⟨false, 1, 8⟩), (8, ⟨false, 1, 8⟩), (9, ⟨false, 1, 4⟩), (10, ⟨false, 1, 4⟩)] := by kernel_rfl
theorem Trytz70 : tzero Try.prog 70 = some (.agg [.int .u64 0, .int .u64 0, .int .u32 0, .int .u8 0, .int .u8 0, .int .u8 0, .int .u8 0, .nilfn, .nilp, .int .i32 0, .int .i32 0]) := by kernel_rfl
theorem Trytp70 : tptr Try.prog 70 = false := by kernel_rfl
theorem Tryti71 : tinfo Try.prog 71 = some ⟨true, 3, 24⟩ := by kernel_rfl
theorem Trytf71 : tflds Try.prog 71 = some [(0, ⟨false, 1, 8⟩), (1, ⟨false, 1, 8⟩), (2, ⟨false, 1, 8⟩)] := by kernel_rfl
theorem Trytz71 : tzero Try.prog 71 = some (.agg [.int .i64 0, .int .i64 0, .int .i64 0]) := by kernel_rfl
theorem Trytp71 : tptr Try.prog 71 = false := by kernel_rfl
theorem Tryti72 : tinfo Try.prog 72 = some ⟨true, 3, 24⟩ := by kernel_rfl
theorem Trytf72 : tflds Try.prog 72 = some [(0, ⟨false, 1, 8⟩), (1, ⟨false, 1, 8⟩), (2, ⟨false, 1, 8⟩)] := by kernel_rfl
theorem Trytz72 : tzero Try.prog 72 = some (.agg [.int .i64 0, .int .i64 0, .int .i64 0]) := by kernel_rfl
theorem Trytp72 : tptr Try.prog 72 = false := by kernel_rfl
theorem Tryti73 : tinfo Try.prog 73 = some ⟨true, 5, 48⟩ := by kernel_rfl
theorem Trytf73 : tflds Try.prog 73 = some [(0, ⟨false, 1, 8⟩), (1, ⟨false, 1, 8⟩), (2, ⟨false, 1, 8⟩), (3, ⟨false, 1, 8⟩), (4, ⟨false, 1, 16⟩)] := by kernel_rfl
theorem Trytz73 : tzero Try.prog 73 = some (.agg [.int .i64 0, .int .i64 0, .int .i64 0, .int .i64 0, .str []]) := by kernel_rfl
theorem Trytp73 : tptr Try.prog 73 = false := by kernel_rfl
theorem Tryti74 : tinfo Try.prog 74 = some ⟨true, 5, 48⟩ := by kernel_rfl
theorem Trytf74 : tflds Try.prog 74 = some [(0, ⟨false, 1, 8⟩), (1, ⟨false, 1, 8⟩), (2, ⟨false, 1, 8⟩), (3, ⟨false, 1, 8⟩), (4, ⟨false, 1, 16⟩)] := by kernel_rfl
theorem Trytz74 : tzero Try.prog 74 = some (.agg [.int .i64 0, .int .i64 0, .int .i64 0, .int .i64 0, .str []]) := by kernel_rfl
theorem Trytp74 : tptr Try.prog 74 = false := by kernel_rfl
theorem Trygo3 : goFn Try.prog 3 = true := by kernel_rfl
theorem Trygo4 : goFn Try.prog 4 = true := by kernel_rfl
theorem Trygo5 : goFn Try.prog 5 = true := by kernel_rfl
theorem Trygo6 : goFn Try.prog 6 = true := by kernel_rfl
theorem Trygo7 : goFn Try.prog 7 = true := by kernel_rfl
theorem Trygo8 : goFn Try.prog 8 = true := by kernel_rfl
theorem Trygo9 : goFn Try.prog 9 = true := by kernel_rfl
theorem Trygo10 : goFn Try.prog 10 = true := by kernel_rfl
theorem Trygo11 : goFn Try.prog 11 = true := by kernel_rfl
theorem Trygo12 : goFn Try.prog 12 = true := by kernel_rfl
theorem Trygo13 : goFn Try.prog 13 = true := by kernel_rfl
theorem Trygo14 : goFn Try.prog 14 = true := by kernel_rfl
theorem Trygo15 : goFn Try.prog 15 = true := by kernel_rfl
theorem Trygo16 : goFn Try.prog 16 = true := by kernel_rfl
theorem Trygo17 : goFn Try.prog 17 = true := by kernel_rfl
theorem Trygo18 : goFn Try.prog 18 = true := by kernel_rfl
theorem Trygo19 : goFn Try.prog 19 = true := by kernel_rfl
theorem y2 : type_of% (And.intro @Tryti2 (And.intro @Trytz2 (And.intro @Trytp2 (@Trytk2)))) := And.intro @Tryti2 (And.intro @Trytz2 (And.intro @Trytp2 (@Trytk2)))
theorem y3 : type_of% (And.intro @Tryti3 (And.intro @Trytz3 (And.intro @Trytp3 (@Trytk3)))) := And.intro @Tryti3 (And.intro @Trytz3 (And.intro @Trytp3 (@Trytk3)))
theorem y4 : type_of% (And.intro @Tryti4 (And.intro @Trytz4 (And.intro @Trytp4 (@Trytb4)))) := And.intro @Tryti4 (And.intro @Trytz4 (And.intro @Trytp4 (@Trytb4)))
theorem y5 : type_of% (And.intro @Tryti5 (And.intro @Trytz5 (And.intro @Trytp5 (@Trytk5)))) := And.intro @Tryti5 (And.intro @Trytz5 (And.intro @Trytp5 (@Trytk5)))
theorem y6 : type_of% (And.intro @Tryti6 (And.intro @Trytz6 (And.intro @Trytp6 (@Trytk6)))) := And.intro @Tryti6 (And.intro @Trytz6 (And.intro @Trytp6 (@Trytk6)))
theorem y7 : type_of% (And.intro @Tryti7 (And.intro @Trytf7 (And.intro @Trytz7 (@Trytp7)))) := And.intro @Tryti7 (And.intro @Trytf7 (And.intro @Trytz7 (@Trytp7)))
theorem y8 : type_of% (And.intro @Tryti8 (And.intro @Trytf8 (And.intro @Trytz8 (@Trytp8)))) := And.intro @Tryti8 (And.intro @Trytf8 (And.intro @Trytz8 (@Trytp8)))
theorem y9 : type_of% (And.intro @Tryti9 (And.intro @Trytz9 (And.intro @Trytp9 (@Tryts9)))) := And.intro @Tryti9 (And.intro @Trytz9 (And.intro @Trytp9 (@Tryts9)))
theorem y10 : type_of% (And.intro @Tryti10 (And.intro @Trytz10 (And.intro @Trytp10 (@Tryts10)))) := And.intro @Tryti10 (And.intro @Trytz10 (And.intro @Trytp10 (@Tryts10)))
theorem y11 : type_of% (And.intro @Tryti11 (And.intro @Trytz11 (And.intro @Trytp11 (@Tryts11)))) := And.intro @Tryti11 (And.intro @Trytz11 (And.intro @Trytp11 (@Tryts11)))
theorem y12 : type_of% (And.intro @Tryti12 (And.intro @Trytz12 (And.intro @Trytp12 (@Trytk12)))) := And.intro @Tryti12 (And.intro @Trytz12 (And.intro @Trytp12 (@Trytk12)))
theorem y13 : type_of% (And.intro @Tryti13 (And.intro @Trytf13 (And.intro @Trytz13 (@Trytp13)))) := And.intro @Tryti13 (And.intro @Trytf13 (And.intro @Trytz13 (@Trytp13)))
theorem y14 : type_of% (And.intro @Tryti14 (And.intro @Trytf14 (And.intro @Trytz14 (@Trytp14)))) := And.intro @Tryti14 (And.intro @Trytf14 (And.intro @Trytz14 (@Trytp14)))
theorem y15 : type_of% (And.intro @Tryti15 (And.intro @Trytz15 (@Trytp15))) := And.intro @Tryti15 (And.intro @Trytz15 (@Trytp15))
theorem y16 : type_of% (And.intro @Tryti16 (And.intro @Trytz16 (@Trytp16))) := And.intro @Tryti16 (And.intro @Trytz16 (@Trytp16))
theorem y17 : type_of% (And.intro @Tryti17 (And.intro @Trytz17 (@Trytp17))) := And.intro @Tryti17 (And.intro @Trytz17 (@Trytp17))
theorem y18 : type_of% (And.intro @Tryti18 (And.intro @Trytf18 (And.intro @Trytz18 (@Trytp18)))) := And.intro @Tryti18 (And.intro @Trytf18 (And.intro @Trytz18 (@Trytp18)))
theorem y19 : type_of% (And.intro @Tryti19 (And.intro @Trytf19 (And.intro @Trytz19 (@Trytp19)))) := And.intro @Tryti19 (And.intro @Trytf19 (And.intro @Trytz19 (@Trytp19)))
theorem y21 : type_of% (And.intro @Tryti21 (And.intro @Trytz21 (And.intro @Trytp21 (@Trytk21)))) := And.intro @Tryti21 (And.intro @Trytz21 (And.intro @Trytp21 (@Trytk21)))
theorem y22 : type_of% (And.intro @Tryti22 (And.intro @Tryte22 (And.intro @Trytz22 (@Trytp22)))) := And.intro @Tryti22 (And.intro @Tryte22 (And.intro @Trytz22 (@Trytp22)))
theorem y23 : type_of% (And.intro @Tryti23 (And.intro @Tryte23 (And.intro @Trytz23 (@Trytp23)))) := And.intro @Tryti23 (And.intro @Tryte23 (And.intro @Trytz23 (@Trytp23)))
theorem y24 : type_of% (And.intro @Tryti24 (And.intro @Tryte24 (And.intro @Trytz24 (@Trytp24)))) := And.intro @Tryti24 (And.intro @Tryte24 (And.intro @Trytz24 (@Trytp24)))
theorem y25 : type_of% (And.intro @Tryti25 (And.intro @Trytf25 (And.intro @Trytz25 (@Trytp25)))) := And.intro @Tryti25 (And.intro @Trytf25 (And.intro @Trytz25 (@Trytp25)))
theorem y26 : type_of% (And.intro @Tryti26 (And.intro @Trytf26 (And.intro @Trytz26 (@Trytp26)))) := And.intro @Tryti26 (And.intro @Trytf26 (And.intro @Trytz26 (@Trytp26)))
theorem y27 : type_of% (And.intro @Tryti27 (And.intro @Tryte27 (And.intro @Trytz27 (@Trytp27)))) := And.intro @Tryti27 (And.intro @Tryte27 (And.intro @Trytz27 (@Trytp27)))
theorem y28 : type_of% (And.intro @Tryti28 (And.intro @Trytf28 (And.intro @Trytz28 (@Trytp28)))) := And.intro @Tryti28 (And.intro @Trytf28 (And.intro @Trytz28 (@Trytp28)))
theorem y29 : type_of% (And.intro @Tryti29 (And.intro @Trytf29 (And.intro @Trytz29 (@Trytp29)))) := And.intro @Tryti29 (And.intro @Trytf29 (And.intro @Trytz29 (@Trytp29)))
theorem y33 : type_of% (And.intro @Tryti33 (And.intro @Trytf33 (And.intro @Trytz33 (@Trytp33)))) := And.intro @Tryti33 (And.intro @Trytf33 (And.intro @Trytz33 (@Trytp33)))
theorem y34 : type_of% (And.intro @Tryti34 (And.intro @Trytf34 (And.intro @Trytz34 (@Trytp34)))) := And.intro @Tryti34 (And.intro @Trytf34 (And.intro @Trytz34 (@Trytp34)))
theorem y41 : type_of% (And.intro @Tryti41 (And.intro @Tryte41 (And.intro @Trytz41 (@Trytp41)))) := And.intro @Tryti41 (And.intro @Tryte41 (And.intro @Trytz41 (@Trytp41)))
theorem y43 : type_of% (And.intro @Tryti43 (And.intro @Trytz43 (@Trytp43))) := And.intro @Tryti43 (And.intro @Trytz43 (@Trytp43))
theorem y44 : type_of% (And.intro @Tryti44 (And.intro @Tryte44 (And.intro @Trytz44 (@Trytp44)))) := And.intro @Tryti44 (And.intro @Tryte44 (And.intro @Trytz44 (@Trytp44)))
theorem y45 : type_of% (And.intro @Tryti45 (And.intro @Trytf45 (And.intro @Trytz45 (@Trytp45)))) := And.intro @Tryti45 (And.intro @Trytf45 (And.intro @Trytz45 (@Trytp45)))
theorem y46 : type_of% (And.intro @Tryti46 (And.intro @Trytf46 (And.intro @Trytz46 (@Trytp46)))) := And.intro @Tryti46 (And.intro @Trytf46 (And.intro @Trytz46 (@Trytp46)))
theorem y53 : type_of% (And.intro @Tryti53 (And.intro @Trytz53 (@Trytp53))) := And.intro @Tryti53 (And.intro @Trytz53 (@Trytp53))
theorem y57 : type_of% (And.intro @Tryti57 (And.intro @Trytf57 (And.intro @Trytz57 (@Trytp57)))) := And.intro @Tryti57 (And.intro @Trytf57 (And.intro @Trytz57 (@Trytp57)))
theorem y58 : type_of% (And.intro @Tryti58 (And.intro @Trytf58 (And.intro @Trytz58 (@Trytp58)))) := And.intro @Tryti58 (And.intro @Trytf58 (And.intro @Trytz58 (@Trytp58)))
theorem y60 : type_of% (And.intro @Tryti60 (And.intro @Trytf60 (And.intro @Trytz60 (@Trytp60)))) := And.intro @Tryti60 (And.intro @Trytf60 (And.intro @Trytz60 (@Trytp60)))
theorem y61 : type_of% (And.intro @Tryti61 (And.intro @Trytf61 (And.intro @Trytz61 (@Trytp61)))) := And.intro @Tryti61 (And.intro @Trytf61 (And.intro @Trytz61 (@Trytp61)))
theorem y63 : type_of% (And.intro @Tryti63 (And.intro @Trytz63 (And.intro @Trytp63 (@Trytk63)))) := And.intro @Tryti63 (And.intro @Trytz63 (And.intro @Trytp63 (@Trytk63)))
theorem y64 : type_of% (And.intro @Tryti64 (And.intro @Trytz64 (And.intro @Trytp64 (@Trytk64)))) := And.intro @Tryti64 (And.intro @Trytz64 (And.intro @Trytp64 (@Trytk64)))
theorem y65 : type_of% (And.intro @Tryti65 (And.intro @Trytz65 (And.intro @Trytp65 (@Trytk65)))) := And.intro @Tryti65 (And.intro @Trytz65 (And.intro @Trytp65 (@Trytk65)))
theorem y67 : type_of% (And.intro @Tryti67 (And.intro @Trytz67 (And.intro @Trytp67 (@Trytk67)))) := And.intro @Tryti67 (And.intro @Trytz67 (And.intro @Trytp67 (@Trytk67)))
theorem y68 : type_of% (And.intro @Tryti68 (And.intro @Trytz68 (And.intro @Trytp68 (@Trytk68)))) := And.intro @Tryti68 (And.intro @Trytz68 (And.intro @Trytp68 (@Trytk68)))
theorem y69 : type_of% (And.intro @Tryti69 (And.intro @Trytf69 (And.intro @Trytz69 (@Trytp69)))) := And.intro @Tryti69 (And.intro @Trytf69 (And.intro @Trytz69 (@Trytp69)))
theorem y70 : type_of% (And.intro @Tryti70 (And.intro @Trytf70 (And.intro @Trytz70 (@Trytp70)))) := And.intro @Tryti70 (And.intro @Trytf70 (And.intro @Trytz70 (@Trytp70)))
theorem y71 : type_of% (And.intro @Tryti71 (And.intro @Trytf71 (And.intro @Trytz71 (@Trytp71)))) := And.intro @Tryti71 (And.intro @Trytf71 (And.intro @Trytz71 (@Trytp71)))
theorem y72 : type_of% (And.intro @Tryti72 (And.intro @Trytf72 (And.intro @Trytz72 (@Trytp72)))) := And.intro @Tryti72 (And.intro @Trytf72 (And.intro @Trytz72 (@Trytp72)))
theorem y73 : type_of% (And.intro @Tryti73 (And.intro @Trytf73 (And.intro @Trytz73 (@Trytp73)))) := And.intro @Tryti73 (And.intro @Trytf73 (And.intro @Trytz73 (@Trytp73)))
theorem y74 : type_of% (And.intro @Tryti74 (And.intro @Trytf74 (And.intro @Trytz74 (@Trytp74)))) := And.intro @Tryti74 (And.intro @Trytf74 (And.intro @Trytz74 (@Trytp74)))
end Go.Abs
namespace Go.Proofs
open Go.Shelf
def Try.lays156_ren : Go.Shelf.Ren := ⟨fun | 156 => 14 | 165 => 15 | 166 => 16 | 169 => 17 | 240 => 18 | 241 => 19 | 276 => 20 | 277 => 21 | n => n, fun | 31 => 41 | 9 => 9 | 3 => 3 | 4 => 4 | 0 => 0 | 20 => 20 | 72 => 46 | 76 => 50 | 70 => 43 | 37 => 44 | 75 => 49 | 127 => 53 | 164 => 54 | 5 => 5 | 80 => 52 | n => n, fun | n => n⟩
theorem Try.lays156 : Go.Proofs.Lays.n156 Try.prog Try.lays156_ren := {
  mixed := by kernel_rfl
  f156 := Try.func14.trans (congrArg some (by kernel_rfl))
  f165 := Try.func15.trans (congrArg some (by kernel_rfl))
  f166 := Try.func16.trans (congrArg some (by kernel_rfl))
  f169 := Try.func17.trans (congrArg some (by kernel_rfl))
  f240 := Try.func18.trans (congrArg some (by kernel_rfl))
  f241 := Try.func19.trans (congrArg some (by kernel_rfl))
  f276 := Try.func20.trans (congrArg some (by kernel_rfl))
  f277 := Try.func21.trans (congrArg some (by kernel_rfl))
  t0 := Try.underlying0
  a0 := Try.isAgg0
  z0 := Try.sizeOf0
  v0 := Try.zeroValue0
  t3 := Try.underlying3
  a3 := Try.isAgg3
  z3 := Try.sizeOf3
  v3 := Try.zeroValue3
  t4 := Try.underlying4
  a4 := Try.isAgg4
  z4 := Try.sizeOf4
  v4 := Try.zeroValue4
  t9 := Try.underlying9
  a9 := Try.isAgg9
  z9 := Try.sizeOf9
  v9 := Try.zeroValue9
  t20 := Try.underlying20
  a20 := Try.isAgg20
  z20 := Try.sizeOf20
  v20 := Try.zeroValue20
  t31 := Try.underlying41
  a31 := Try.isAgg41
  z31 := Try.sizeOf41
  v31 := Try.zeroValue41
  t37 := Try.underlying44
  a37 := Try.isAgg44
  z37 := Try.sizeOf44
  v37 := Try.zeroValue44
  t70 := Try.underlying43
  a70 := Try.isAgg43
  z70 := Try.sizeOf43
  v70 := Try.zeroValue43
  t72 := Try.underlying46
  a72 := Try.isAgg46
  z72 := Try.sizeOf46
  v72 := Try.zeroValue46
  t75 := Try.underlying49
  a75 := Try.isAgg49
  z75 := Try.sizeOf49
  v75 := Try.zeroValue49
  t76 := Try.underlying50
  a76 := Try.isAgg50
  z76 := Try.sizeOf50
  v76 := Try.zeroValue50
  t127 := Try.underlying53
  a127 := Try.isAgg53
  z127 := Try.sizeOf53
  v127 := Try.zeroValue53
  t164 := Try.underlying54
  a164 := Try.isAgg54
  z164 := Try.sizeOf54
  v164 := Try.zeroValue54 }
theorem Try.Builder_Extra_156 : Builder.Extra Try.prog Try.lays156_ren := {
  sizeBuilder := by kernel_rfl
  liesBuilder := by kernel_rfl
  t5 := Try.underlying5
  a5 := Try.isAgg5
  z5 := Try.sizeOf5
  v5 := Try.zeroValue5
  infoByte := by kernel_rfl
  cellsByte := by kernel_rfl
  sizeByte := by kernel_rfl
  neB5 := by decide }
open Go.RowKit in
/-- No element: the empty string; the world is as it was. (Whatever the slice's address and capacity: a nil slice too.) (LAID: no walk: one application.) -/
theorem Try.strings_Join_none (a : Option Addr) (c : Nat) (sep : ByteArray) (w : World) :
    Calls Try.prog 14 #[.slice a 0 c, .string sep] w fun e w' => e = .returned (.string ⟨#[]⟩) ∧ w' = w := Any.strings_Join_none Try.lays156 Try.Builder_Extra_156 a c sep w
open Go.RowKit in
/-- strings.Join: "Join concatenates the elements of its first argument to create a single string. The separator string sep is placed between elements in the resulting string.": HOWEVER MANY ELEMENTS. Below the heap's end the world is as it was. (LAID: no walk: one application.) -/
theorem Try.strings_Join (bk o c : Nat) (xs : List ByteArray) (sep : ByteArray) (w : World) (hcells : ∀ (j : Nat) x, xs[j]? = some x → w.cell? ⟨bk, o + j, none⟩ = some (.string x)) (hbk : bk < w.heap.size) (hN : xs.length ≤ 140737488355328) (hcap : xs.length ≤ c) (hlen : (Lib.join (xs.map (·.data.toList)) sep.data.toList).length ≤ 140737488355328) :
    Calls Try.prog 14 #[.slice (some ⟨bk, o, none⟩) xs.length c, .string sep] w fun e w' => e = .returned (.string ⟨(Lib.join (xs.map (·.data.toList)) sep.data.toList).toArray⟩) ∧ Below w.heap.size w w' := Any.strings_Join Try.lays156 Try.Builder_Extra_156 bk o c xs sep w hcells hbk hN hcap hlen
end Go.Proofs
set_option maxRecDepth 4000
namespace Go.Abs
open Go.Proofs

theorem bel_strs {n id : Nat} (l : List (List UInt8)) (h : id < n) : Bel n (.slice (l.map PV.str) (.tok id)) := .slice _ _ (fun e he c hc => by
  obtain ⟨s, _, rfl⟩ := List.mem_map.1 he
  have hc : c ∈ [PV.str s] := hc
  rw [List.mem_singleton.1 hc]; exact .str _) (fun i e => by cases e; exact h)
theorem app_str {us : List (List UInt8)} {u : List UInt8} {id : Nat} {tl : Tail} (hb : (us.length + 1) * 16 ≤ 2 ^ 47) (fresh : Nat) (H : Heap) (hH : H[id]? = some (.buf us.length 1)) :
    aappend ⟨false, 1, 16⟩ fresh H (.slice (us.map PV.str) (.tok id)) (.slice [.str u] tl) = some (.slice ((us ++ [u]).map PV.str) (.tok id), some (id, .buf (us.length + 1) 1)) := by
  have hmx : maxLen = 9223372036854775807 := by decide
  rw [aappend_tok1 (n := us.length) hH (by simp) (by simpa using hb) (by simp; omega) (fun e he => by obtain ⟨v, _, rfl⟩ := List.mem_map.1 he; rfl) rfl rfl (by decide)]
  simp
theorem all3 (l : List Ty) : (∀ e ∈ l.map Ty.enc, e.cells.length = 3) = True := eq_true fun e he => by obtain ⟨u, _, rfl⟩ := List.mem_map.1 he; exact u.enc_len
theorem tk_map {α : Type} (f : α → PV) (n : Nat) (l : List α) : List.take n (l.map f) = (l.take n).map f := (List.map_take ..).symm

theorem symName (r : Rs) (i : Int) : PC Try.prog 10 [r.enc, vint i] (.str (symN r.syms i)) := by
  refine pc_of (N := 20) Try.func10 rfl rfl (by simp) (by simp [Ty.bel, Rs.bel, bel_slice_ty, Bel.int]) (.str _) ?_
  repeat (refine awp_seq ?_)
  refine e_eval (by simp only [jA, jO, jN, seval, y26, vint, qM] <;> with_reducible rfl) (by decide) ?_
  repeat (refine awp_seq ?_)
  refine g_eval (by simp only [jG, jO, jN, seval, y3, y22, y26, y34, vint, qM] <;> with_reducible rfl) (by decide) (by repeat (first | exact Fin.base _ | with_reducible apply Fin.keep | apply Fin.drop)) ?_
  repeat (refine awp_seq ?_)
  refine awp_cond rfl (by simp only [jN, seval, vint, qM] <;> with_reducible rfl) (fun bt13 => ?_) (fun bt13 => ?_)
  ·
    have hv : symN r.syms i = [95] := by unfold symN; rw [if_pos (by simp only [Bool.or_eq_true, decide_eq_true_eq] at bt13; omega)]
    repeat (refine awp_seq ?_)
    refine e_eval (by simp only [jA, jO, jN, seval, vint, qM] <;> with_reducible rfl) (by decide) ?_
    repeat (refine awp_seq ?_)
    refine awp_ret ⟨.inr rfl, _, rfl, ?_⟩
    simp only [jN, seval, vint, qM, hv]
    try rfl
  ·
    have hi : ¬ (i < 0 ∨ i ≥ r.syms.length) := by simp only [Bool.or_eq_false_iff, decide_eq_false_iff_not] at bt13; omega
    have hv : symN r.syms i = (r.syms.getD i.toNat ⟨0, 0, 0, 0, [], false⟩).name := by unfold symN; rw [if_neg hi]
    have hl : i.toNat < r.syms.length := by omega
    have g7 : ((0 : Int) ≤ i ∧ i < r.syms.length) = True := by simp; omega
    have g2 : (r.syms.map Sy.enc)[i.toNat]? = some (r.syms.getD i.toNat ⟨0, 0, 0, 0, [], false⟩).enc := by rw [List.getElem?_map, List.getD_eq_getElem?_getD, List.getElem?_eq_getElem hl]; rfl
    repeat (refine awp_seq ?_)
    refine awp_skip ?_
    repeat (refine awp_seq ?_)
    refine e_eval (by simp only [jA, jO, jN, seval, y9, y22, y26, y34, vint, qM, g7, g2] <;> with_reducible rfl) (by decide) ?_
    repeat (refine awp_seq ?_)
    refine awp_ret ⟨.inr rfl, _, rfl, ?_⟩
    simp only [jN, seval, vint, qM, hv]

theorem flist (r : Rs) (ts : List Ty) (hlen : ts.length ≤ 1048576) (hF : ∀ a ∈ ts, PC Try.prog 5 [r.enc, a.enc] (.str (fmtT r.syms a))) (hj : (joinC (ts.map (fmtT r.syms))).length ≤ 140737488355328) : PC Try.prog 11 [r.enc, .slice (ts.map Ty.enc) .none] (.str (joinC (ts.map (fmtT r.syms)))) := by
  have em : maxLen = 9223372036854775807 := by decide
  refine pc_of (N := 23) Try.func11 rfl rfl (by simp) (by simp [Ty.bel, Rs.bel, bel_slice_ty, Bel.int]) (.str _) ?_
  repeat (refine awp_seq ?_)
  refine e_eval (by simp only [jA, jO, jN, seval, y26, vint, qM] <;> with_reducible rfl) (by decide) ?_
  repeat (refine awp_seq ?_)
  refine e_eval (by simp only [jA, jO, jN, seval, vint, qM] <;> with_reducible rfl) (by decide) ?_
  repeat (refine awp_seq ?_)
  refine e_eval (by simp only [jA, jO, jN, seval, y27, y29, vint, qM] <;> with_reducible rfl) (by decide) ?_
  repeat (refine awp_seq ?_)
  refine awp_retok 5 1 (es := []) (by simp only [jC, jN, seval, vint, qM] <;> rfl) ?_
  refine awp_forS (σ := List (List UInt8)) (ts.length) (fun (s : List (List UInt8)) => [(2, .optr 0 0), (5, .slice (s.map PV.str) (.tok 1)), (8, .slice (ts.map Ty.enc) .none)]) [2, 5, 8] ([]) (fun (s : List (List UInt8)) => [.row r.enc.cells, .buf s.length 1]) (fun (i : Nat) (s : List (List UInt8)) => s = (ts.take i).map (fmtT r.syms)) ([]) ([]) rfl rfl rfl rfl rfl rfl rfl rfl rfl (by decide) (by decide) (by decide) (fun _ => rfl) (by omega) ⟨(by first | rfl | (simp only [jN, seval, vint, qM] <;> first | done | with_reducible rfl)), (by first | rfl | (simp only [jN, seval, vint, qM] <;> first | done | with_reducible rfl)), (by first | rfl | (simp only [jN, seval, vint, qM] <;> first | done | with_reducible rfl)), (by first | rfl | (simp only [jN, seval, vint, qM] <;> first | done | with_reducible rfl)), (by first | rfl | (simp only [jN, seval, vint, qM] <;> first | done | with_reducible rfl)), trivial⟩ (by first | rfl | (simp only [jN, seval, vint, qM] <;> first | done | with_reducible rfl)) (by simp) (fun _ _ _ => by first | exact Nat.zero_le _ | (simp only [List.length_append]; omega)) ?_ ?_ ?_
  · intro i s hg
    refine ⟨?_, by repeat (first | exact BelL.nil | refine BelL.cons (by first | exact bel_strs _ (by simp) | exact Rs.bel _ _ | exact Ty.bel _ _ | exact bel_slice_ty _ _ | exact bel_ty_tok _ (by simp) | exact bel_Sy _ _ | exact bel_Rf _ _ | exact bel_Dg _ _ | exact bel_nil0 _ | exact bel_nil1 _ | exact Bel.int _ _ | exact Bel.bool _ | exact Bel.str _ | exact Bel.nilp | exact Bel.nilfn | exact Bel.optr _ _ (by simp) | exact bel_nil0 _ | exact bel_nil1 _ | exact bel_fn0 _ _ | assumption) ?_)⟩
    simp only [List.nil_append, RsS]
    repeat (first | exact hbel_nil _ | exact trivial | exact obel_row_nil _ | (refine HBel.cons ?_ ?_) | (refine obel_row_cons (by first | exact bel_strs _ (by simp) | exact Rs.bel _ _ | exact Ty.bel _ _ | exact bel_slice_ty _ _ | exact bel_ty_tok _ (by simp) | exact bel_Sy _ _ | exact bel_Rf _ _ | exact bel_Dg _ _ | exact bel_nil0 _ | exact bel_nil1 _ | exact Bel.int _ _ | exact Bel.bool _ | exact Bel.str _ | exact Bel.nilp | exact Bel.nilfn | exact Bel.optr _ _ (by simp) | exact bel_nil0 _ | exact bel_nil1 _ | exact bel_fn0 _ _ | assumption) ?_))
  · intro i s hi hg
    have g1 := ix_nat hi
    have g2 := get_enc Ty.enc hi
    have htk := map_take_succ (fmtT r.syms) hi
    rw [← hg] at htk
    have hql : s.length ≤ ts.length := by rw [hg, List.length_map, List.length_take]; omega
    have hFa := hF ts[i] (List.getElem_mem hi)
    obtain ⟨a, hae⟩ : ∃ a, ts[i] = a := ⟨_, rfl⟩
    rw [hae] at g2 htk hFa
    have hap := app_str (us := s) (u := fmtT r.syms a) (id := 1) (tl := .full) (by omega)
    repeat (refine awp_seq ?_)
    refine e_eval (by simp only [jA, jO, jN, seval, y27, y29, vint, qM, g1, g2, Int.toNat_natCast] <;> with_reducible rfl) (by decide) ?_
    repeat (refine awp_seq ?_)
    refine awp_region ?_
    refine e_take 3 (by simp only [jA, jO, jN, seval, y26, y29, vint, qM, g1, g2, Int.toNat_natCast, hap] <;> with_reducible rfl) (by decide) ?_
    refine aops_pure (by simp only [jC, jN, seval, vint, qM, g1, g2, Int.toNat_natCast, hap] <;> with_reducible rfl) (by simp only [jC, jN, seval, vint, qM, g1, g2, Int.toNat_natCast, hap]) (by decide) Trygo5 (hFa _) ?_
    refine e_end (by simp only [jA, jO, jN, seval, y9, y41, vint, qM, g1, g2, Int.toNat_natCast, hap] <;> with_reducible rfl) (by decide) ?_
    exact ⟨⟨rfl, rfl, trivial⟩, s ++ [fmtT r.syms a], _, ⟨rfl, rfl, rfl, trivial⟩, by simp only [jN, seval, vint, qM, List.length_append, List.length_singleton] <;> rfl, htk.symm⟩
  · intro s hg
    rw [List.take_length] at hg
    have hsl : s.length = ts.length := by rw [hg, List.length_map]
    rw [← hg] at hj
    rw [← hg]
    repeat (refine awp_seq ?_)
    refine awp_region ?_
    refine e_take 1 (by simp only [jA, jO, jN, seval, vint, qM] <;> with_reducible rfl) (by decide) ?_
    refine aops_callR (by simp only [jC, jN, seval, vint, qM] <;> with_reducible rfl) (by simp only [jC, jN, seval, vint, qM]) (by decide) Trygo14 (acalls_join Try.strings_Join_none Try.strings_Join (xs := s) (sep := [44, 32]) (id := 1) (sz := 1) rfl (by omega) hj) ?_
    rintro _ _ ⟨rfl, rfl⟩
    refine e_end (by simp only [jA, jO, jN, seval, vint, qM] <;> with_reducible rfl) (by decide) ?_
    repeat (refine awp_seq ?_)
    refine awp_ret ⟨.inr rfl, _, rfl, ?_⟩
    simp only [jN, seval, vint, qM]
    try rfl

theorem ffunc (r : Rs) (t : Ty) (hne : t.args ≠ []) (hlen : t.args.length ≤ 1048576) (hF : ∀ a ∈ t.args, PC Try.prog 5 [r.enc, a.enc] (.str (fmtT r.syms a))) (hj : ∀ n, (joinC ((t.args.take n).map (fmtT r.syms))).length ≤ 70368744177664) (hs : ∀ a ∈ t.args, (fmtT r.syms a).length ≤ 70368744177664) : PC Try.prog 12 [r.enc, t.enc] (.str (fmtF t.args (t.args.map (fmtT r.syms)))) := by
  have em : maxLen = 9223372036854775807 := by decide
  obtain ⟨m, hm⟩ : ∃ m, t.args.length = m + 1 := ⟨t.args.length - 1, by have := List.length_pos_iff.2 hne; omega⟩
  have hml : m < t.args.length := by omega
  have w1 : IntKind.i64.wrap ((t.args.length : Int) - 1) = (m : Int) := by rw [wrap_id (by omega) (by omega)]; omega
  have h3 : ((0 : Int) ≤ m ∧ (m : Int) ≤ t.args.length) = True := by simp; omega
  have hnl : (m = t.args.length) = False := by simp; omega
  have g1 := ix_nat hml
  have g2 := get_enc Ty.enc hml
  have hFl := flist r (t.args.take m) (by rw [List.length_take]; omega) (fun a ha => hF a (List.mem_of_mem_take ha)) (by have := hj m; omega)
  have hFu := hF t.args[m] (List.getElem_mem hml)
  have hus := hs t.args[m] (List.getElem_mem hml)
  have hjm := hj m
  have hfv : fmtF t.args (t.args.map (fmtT r.syms)) = if t.args[m].kind = 6 then [102, 110, 40] ++ joinC ((t.args.take m).map (fmtT r.syms)) ++ [41] else [102, 110, 40] ++ joinC ((t.args.take m).map (fmtT r.syms)) ++ [41] ++ ([32, 45, 62, 32] ++ fmtT r.syms t.args[m]) := by
    have e1 : t.args.length - 1 = m := by omega
    unfold fmtF lastK
    rw [e1, List.getD_eq_getElem?_getD, List.getElem?_eq_getElem hml, List.getD_eq_getElem?_getD, List.getElem?_map, List.getElem?_eq_getElem hml, ← List.map_take]
    rfl
  rw [hfv]
  obtain ⟨u, hue⟩ : ∃ u, t.args[m] = u := ⟨_, rfl⟩
  rw [hue] at g2 hFu hus ⊢
  obtain ⟨l, hle⟩ : ∃ l, joinC ((t.args.take m).map (fmtT r.syms)) = l := ⟨_, rfl⟩
  rw [hle] at hFl hjm ⊢
  obtain ⟨v, hve⟩ : ∃ v, fmtT r.syms u = v := ⟨_, rfl⟩
  rw [hve] at hFu hus ⊢
  have a1 : (3 + l.length ≤ maxLen) = True := eq_true (by omega)
  have a2 : (l.length + 1 + 1 + 1 + 1 ≤ maxLen) = True := eq_true (by omega)
  have a3 : (4 + v.length ≤ maxLen) = True := eq_true (by omega)
  have a4 : (l.length + 1 + 1 + 1 + 1 + (v.length + 1 + 1 + 1 + 1) ≤ maxLen) = True := eq_true (by omega)
  refine pc_of (N := 37) Try.func12 rfl rfl (by simp) (by simp [Ty.bel, Rs.bel, bel_slice_ty, Bel.int]) (.str _) ?_
  repeat (refine awp_seq ?_)
  refine e_eval (by simp only [jA, jO, jN, seval, y26, y29, vint, qM] <;> with_reducible rfl) (by decide) ?_
  repeat (refine awp_seq ?_)
  refine e_eval (by simp only [jA, jO, jN, seval, y3, y27, y29, vint, qM, w1] <;> with_reducible rfl) (by decide) ?_
  repeat (refine awp_seq ?_)
  refine dp_draw (by kernel_rfl) ?_
  refine dp_take 5 (by simp only [jP, jO, jN, seval, y26, y27, y29, jS, vint, qM, h3, hnl, all3, tk_map, false_and, ite_false, List.drop_zero, Int.toNat_natCast, a1, a2, List.length_append, List.length_cons, List.length_nil, Nat.zero_add, Nat.reduceAdd] <;> with_reducible rfl) (by decide) ?_
  refine dp_keep (by simp only [jE, jN, seval, vint, qM, h3, hnl, all3, tk_map, false_and, ite_false, List.drop_zero, Int.toNat_natCast, a1, a2, List.length_append, List.length_cons, List.length_nil, Nat.zero_add, Nat.reduceAdd] <;> with_reducible rfl) (by simp only [jE, jN, seval, vint, qM, h3, hnl, all3, tk_map, false_and, ite_false, List.drop_zero, Int.toNat_natCast, a1, a2, List.length_append, List.length_cons, List.length_nil, Nat.zero_add, Nat.reduceAdd] <;> with_reducible rfl) (by simp only [jE, jN, seval, vint, qM, h3, hnl, all3, tk_map, false_and, ite_false, List.drop_zero, Int.toNat_natCast, a1, a2, List.length_append, List.length_cons, List.length_nil, Nat.zero_add, Nat.reduceAdd]) (by decide) Trygo11 (fun hc => hFl _) ?_
  refine dp_end (by simp only [jP, jO, jN, seval, y9, vint, qM, h3, hnl, all3, tk_map, false_and, ite_false, List.drop_zero, Int.toNat_natCast, a1, a2, List.length_append, List.length_cons, List.length_nil, Nat.zero_add, Nat.reduceAdd] <;> with_reducible rfl) (by decide) (by repeat (first | exact Fin.base _ | with_reducible apply Fin.keep | apply Fin.drop)) ?_
  refine awp_sel [2, 3, 5, 6] (by simp only [jN, seval, vint, qM] <;> with_reducible rfl) ?_
  repeat (refine awp_seq ?_)
  refine e_eval (by simp only [jA, jO, jN, seval, y3, y27, y29, vint, qM, g1, g2, Int.toNat_natCast] <;> with_reducible rfl) (by decide) ?_
  repeat (refine awp_seq ?_)
  refine awp_cond rfl (by simp only [jN, seval, vint, qM] <;> with_reducible rfl) (fun bt25 => ?_) (fun bt25 => ?_)
  ·
    rw [if_neg (by simpa using bt25)]
    repeat (refine awp_seq ?_)
    refine dp_draw (by kernel_rfl) ?_
    refine dp_take 7 (by simp only [jP, jO, jN, seval, y26, y27, y29, vint, qM, g1, g2, Int.toNat_natCast, a3, a4, List.length_append, List.length_cons, List.length_nil, Nat.zero_add, Nat.reduceAdd] <;> with_reducible rfl) (by decide) ?_
    refine dp_keep (by simp only [jE, jN, seval, vint, qM, g1, g2, Int.toNat_natCast, a3, a4, List.length_append, List.length_cons, List.length_nil, Nat.zero_add, Nat.reduceAdd] <;> with_reducible rfl) (by simp only [jE, jN, seval, vint, qM, g1, g2, Int.toNat_natCast, a3, a4, List.length_append, List.length_cons, List.length_nil, Nat.zero_add, Nat.reduceAdd] <;> with_reducible rfl) (by simp only [jE, jN, seval, vint, qM, g1, g2, Int.toNat_natCast, a3, a4, List.length_append, List.length_cons, List.length_nil, Nat.zero_add, Nat.reduceAdd]) (by decide) Trygo5 (fun hc => hFu _) ?_
    refine dp_end (by simp only [jP, jO, jN, seval, y9, vint, qM, g1, g2, Int.toNat_natCast, a3, a4, List.length_append, List.length_cons, List.length_nil, Nat.zero_add, Nat.reduceAdd] <;> with_reducible rfl) (by decide) (by repeat (first | exact Fin.base _ | with_reducible apply Fin.keep | apply Fin.drop)) ?_
    refine awp_sel [6] (by simp only [jN, seval, vint, qM] <;> with_reducible rfl) ?_
    repeat (refine awp_seq ?_)
    refine e_eval (by simp only [jA, jO, jN, seval, vint, qM] <;> with_reducible rfl) (by decide) ?_
    repeat (refine awp_seq ?_)
    refine awp_ret ⟨.inr rfl, _, rfl, ?_⟩
    simp only [jN, seval, vint, qM]
    try rfl
  ·
    rw [if_pos (by simpa using bt25)]
    repeat (refine awp_seq ?_)
    refine awp_skip ?_
    repeat (refine awp_seq ?_)
    refine e_eval (by simp only [jA, jO, jN, seval, vint, qM] <;> with_reducible rfl) (by decide) ?_
    repeat (refine awp_seq ?_)
    refine awp_ret ⟨.inr rfl, _, rfl, ?_⟩
    simp only [jN, seval, vint, qM]
    try rfl

end Go.Abs
set_option maxRecDepth 4000
namespace Go.Abs
open Go.Proofs

theorem fm_bnd {r : Rs} (hL : ∀ s ∈ r.syms, s.name.length ≤ 1048576) {t : Ty} (ht : t.size ≤ 1048576) : (fmtT r.syms t).length ≤ 2199023255552 := by
  have h := fmtT_len hL (by omega) t
  have h2 : t.size * (1048576 + 10) ≤ 1048576 * (1048576 + 10) := Nat.mul_le_mul_right _ ht
  omega
theorem fm_join {r : Rs} (hL : ∀ s ∈ r.syms, s.name.length ≤ 1048576) {t : Ty} (ht : t.size ≤ 1048576) (n : Nat) : (joinC ((t.args.take n).map (fmtT r.syms))).length ≤ 2199023255552 := by
  have h1 := joinC_len ((t.args.take n).map (fmtT r.syms))
  rw [List.map_take] at h1
  have h2 := sum_take_le (fun s => s.length + 2) (t.args.map (fmtT r.syms)) n
  rw [List.map_map] at h2
  have h3 := sizes_mul (1048576 + 10) (fun a => (fmtT r.syms a).length + 2) t.args (fun a ha => fmtT_len hL (by omega) a)
  have h4 : (t.args.map ((fun s : List UInt8 => s.length + 2) ∘ fmtT r.syms)).sum = (t.args.map fun a => (fmtT r.syms a).length + 2).sum := rfl
  have h5 : t.size = 1 + Ty.sizes t.args := by cases t; simp [Ty.size, Ty.args]
  have h6 : Ty.sizes t.args * (1048576 + 10) ≤ 1048576 * (1048576 + 10) := Nat.mul_le_mul_right _ (by omega)
  rw [List.map_take]
  omega
theorem args_le (t : Ty) : t.args.length < t.size := by
  have key : ∀ l : List Ty, l.length ≤ Ty.sizes l := by
    intro l
    induction l with
    | nil => simp
    | cons a l ih => have : 1 ≤ a.size := by cases a; simp only [Ty.size]; omega
                     simp only [List.length_cons, Ty.sizes]; omega
  cases t with
  | mk k i l => have := key l; simp only [Ty.size, Ty.args]; omega

theorem fmt_k (r : Rs) (hL : ∀ s ∈ r.syms, s.name.length ≤ 1048576) : ∀ (k : Nat) (t : Ty), t.size ≤ k → k ≤ 1048576 → PC Try.prog 5 [r.enc, t.enc] (.str (fmtT r.syms t))
  | 0, t, h, _ => by cases t; simp [Ty.size] at h
  | k + 1, t, h, hk => by
    have em : maxLen = 9223372036854775807 := by decide
    have hal := args_le t
    have ih : ∀ a ∈ t.args, PC Try.prog 5 [r.enc, a.enc] (.str (fmtT r.syms a)) := fun a ha => fmt_k r hL k a (by have := Ty.size_arg ha; omega) (by omega)
    have hbs : ∀ a ∈ t.args, (fmtT r.syms a).length ≤ 70368744177664 := fun a ha => by have := fm_bnd hL (t := a) (by have := Ty.size_arg ha; omega); omega
    have hbj : ∀ n, (joinC ((t.args.take n).map (fmtT r.syms))).length ≤ 70368744177664 := fun n => by have := fm_join hL (t := t) (by omega) n; omega
    have hsy := symName r t.id
    have hnl := symN_len hL (by omega) t.id
    have htri : t.id < 0 ∨ t.id ≥ r.syms.length ∨ (0 ≤ t.id ∧ t.id < r.syms.length) := by omega
    refine pc_of (N := 106) Try.func5 rfl rfl (by simp) (by simp [Ty.bel, Rs.bel, bel_slice_ty, Bel.int]) (.str _) ?_
    repeat (refine awp_seq ?_)
    refine e_eval (by simp only [jA, jO, jN, seval, y26, y29, vint, qM] <;> with_reducible rfl) (by decide) ?_
    repeat (refine awp_seq ?_)
    refine e_eval (by simp only [jA, jO, jN, seval, y3, y29, vint, qM] <;> with_reducible rfl) (by decide) ?_
    repeat (refine awp_seq ?_)
    refine awp_block ?_
    repeat (refine awp_seq ?_)
    refine e_eval (by simp only [jA, jO, jN, seval, y3, vint, qM] <;> with_reducible rfl) (by decide) ?_
    repeat (refine awp_seq ?_)
    refine awp_cond rfl (by simp only [jN, seval, vint, qM] <;> with_reducible rfl) (fun bt8 => ?_) (fun bt8 => ?_)
    ·
      have k3 : t.kind = 3 := by simpa using bt8
      have hv : fmtT r.syms t = [105, 110, 116] := by rw [fmtT_eq]; unfold fmtK; rw [if_pos k3]
      repeat (refine awp_seq ?_)
      refine e_eval (by simp only [jA, jO, jN, seval, vint, qM] <;> with_reducible rfl) (by decide) ?_
      repeat (refine awp_seq ?_)
      refine awp_ret ⟨.inr rfl, _, rfl, ?_⟩
      simp only [jN, seval, vint, qM, hv]
      try rfl
    ·
      have n3 : ¬ t.kind = 3 := by simpa using bt8
      repeat (refine awp_seq ?_)
      refine e_eval (by simp only [jA, jO, jN, seval, y3, vint, qM] <;> with_reducible rfl) (by decide) ?_
      repeat (refine awp_seq ?_)
      refine awp_cond rfl (by simp only [jN, seval, vint, qM] <;> with_reducible rfl) (fun bt10 => ?_) (fun bt10 => ?_)
      ·
        have k3 : t.kind = 4 := by simpa using bt10
        have hv : fmtT r.syms t = [98, 111, 111, 108] := by rw [fmtT_eq]; unfold fmtK; rw [if_neg n3, if_pos k3]
        repeat (refine awp_seq ?_)
        refine e_eval (by simp only [jA, jO, jN, seval, vint, qM] <;> with_reducible rfl) (by decide) ?_
        repeat (refine awp_seq ?_)
        refine awp_ret ⟨.inr rfl, _, rfl, ?_⟩
        simp only [jN, seval, vint, qM, hv]
        try rfl
      ·
        have n4 : ¬ t.kind = 4 := by simpa using bt10
        repeat (refine awp_seq ?_)
        refine e_eval (by simp only [jA, jO, jN, seval, y3, vint, qM] <;> with_reducible rfl) (by decide) ?_
        repeat (refine awp_seq ?_)
        refine awp_cond rfl (by simp only [jN, seval, vint, qM] <;> with_reducible rfl) (fun bt12 => ?_) (fun bt12 => ?_)
        ·
          have k3 : t.kind = 5 := by simpa using bt12
          have hv : fmtT r.syms t = [115, 116, 114, 105, 110, 103] := by rw [fmtT_eq]; unfold fmtK; rw [if_neg n3, if_neg n4, if_pos k3]
          repeat (refine awp_seq ?_)
          refine e_eval (by simp only [jA, jO, jN, seval, vint, qM] <;> with_reducible rfl) (by decide) ?_
          repeat (refine awp_seq ?_)
          refine awp_ret ⟨.inr rfl, _, rfl, ?_⟩
          simp only [jN, seval, vint, qM, hv]
          try rfl
        ·
          have n5 : ¬ t.kind = 5 := by simpa using bt12
          repeat (refine awp_seq ?_)
          refine e_eval (by simp only [jA, jO, jN, seval, y3, vint, qM] <;> with_reducible rfl) (by decide) ?_
          repeat (refine awp_seq ?_)
          refine awp_cond rfl (by simp only [jN, seval, vint, qM] <;> with_reducible rfl) (fun bt14 => ?_) (fun bt14 => ?_)
          ·
            have k3 : t.kind = 6 := by simpa using bt14
            have hv : fmtT r.syms t = [40, 41] := by rw [fmtT_eq]; unfold fmtK; rw [if_neg n3, if_neg n4, if_neg n5, if_pos k3]
            repeat (refine awp_seq ?_)
            refine e_eval (by simp only [jA, jO, jN, seval, vint, qM] <;> with_reducible rfl) (by decide) ?_
            repeat (refine awp_seq ?_)
            refine awp_ret ⟨.inr rfl, _, rfl, ?_⟩
            simp only [jN, seval, vint, qM, hv]
            try rfl
          ·
            have n6 : ¬ t.kind = 6 := by simpa using bt14
            repeat (refine awp_seq ?_)
            refine e_eval (by simp only [jA, jO, jN, seval, y3, vint, qM] <;> with_reducible rfl) (by decide) ?_
            repeat (refine awp_seq ?_)
            refine awp_cond rfl (by simp only [jN, seval, vint, qM] <;> with_reducible rfl) (fun bt16 => ?_) (fun bt16 => ?_)
            ·
              have k3 : t.kind = 2 := by simpa using bt16
              refine awp_sel [2, 3] (by simp only [jN, seval, vint, qM] <;> with_reducible rfl) ?_
              rcases htri with hc | hc | hc
              ·
                have f1 : (0 ≤ t.id) = False := by simp; omega
                have hs : ¬ symK r.syms t.id = true := by unfold symK; simp only [f1, decide_false, Bool.false_and]; simp
                repeat (refine awp_seq ?_)
                refine awp_region ?_
                refine aops_gstart ?_
                refine g_take 12 (by simp only [jG, jO, jN, seval, y3, y22, y26, y29, y34, vint, qM, f1, decide_false] <;> with_reducible rfl) (by decide) ?_
                refine aops_gskip (r := .tup []) (by simp only [jE, jN, seval, vint, qM, f1, decide_false] <;> with_reducible rfl) ?_
                refine aops_gskip (r := .tup []) (by simp only [jE, jN, seval, vint, qM, f1, decide_false] <;> with_reducible rfl) ?_
                refine aops_gskip (r := .tup []) (by simp only [jE, jN, seval, vint, qM, f1, decide_false] <;> with_reducible rfl) ?_
                refine aops_gskip (r := .tup []) (by simp only [jE, jN, seval, vint, qM, f1, decide_false] <;> with_reducible rfl) ?_
                refine aops_gskip (r := .tup []) (by simp only [jE, jN, seval, vint, qM, f1, decide_false] <;> with_reducible rfl) ?_
                refine aops_gskip (r := .tup []) (by simp only [jE, jN, seval, vint, qM, f1, decide_false] <;> with_reducible rfl) ?_
                refine aops_gskip (r := .tup []) (by simp only [jE, jN, seval, vint, qM, f1, decide_false] <;> with_reducible rfl) ?_
                refine aops_gskip (r := .tup []) (by simp only [jE, jN, seval, vint, qM, f1, decide_false] <;> with_reducible rfl) ?_
                refine g_end (by simp only [jG, jO, jN, seval, vint, qM, f1, decide_false] <;> with_reducible rfl) (by decide) (by repeat (first | exact Fin.base _ | with_reducible apply Fin.keep | apply Fin.drop)) ?_
                repeat (refine awp_seq ?_)
                refine awp_cond_false rfl (by simp only [jN, seval, vint, qM, f1, decide_false] <;> with_reducible rfl) ?_
                repeat (refine awp_seq ?_)
                refine awp_skip ?_
                refine awp_sel [2, 3] (by simp only [jN, seval, vint, qM, f1, decide_false] <;> with_reducible rfl) ?_
                repeat (refine awp_seq ?_)
                have hv : fmtT r.syms t = symN r.syms t.id := by rw [fmtT_eq]; unfold fmtK; rw [if_neg n3, if_neg n4, if_neg n5, if_neg n6, if_pos k3, if_neg hs]
                refine awp_region ?_
                refine e_take 3 (by simp only [jA, jO, jN, seval, y3, y26, y29, vint, qM, f1, decide_false] <;> with_reducible rfl) (by decide) ?_
                refine aops_pure (by simp only [jC, jN, seval, vint, qM, f1, decide_false] <;> with_reducible rfl) (by simp only [jC, jN, seval, vint, qM, f1, decide_false]) (by decide) Trygo10 (hsy _) ?_
                refine e_end (by simp only [jA, jO, jN, seval, vint, qM, f1, decide_false] <;> with_reducible rfl) (by decide) ?_
                repeat (refine awp_seq ?_)
                refine awp_ret ⟨.inr rfl, _, rfl, ?_⟩
                simp only [jN, seval, vint, qM, hv]
                try rfl
              ·
                have f1 : (0 ≤ t.id) = True := by simp; omega
                have f2 : (t.id < r.syms.length) = False := by simp; omega
                have hs : ¬ symK r.syms t.id = true := by unfold symK; simp only [f1, f2, decide_true, decide_false, Bool.false_and, Bool.and_false]; simp
                repeat (refine awp_seq ?_)
                refine awp_region ?_
                refine aops_gstart ?_
                refine g_take 12 (by simp only [jG, jO, jN, seval, y3, y22, y26, y29, y34, vint, qM, f1, f2, decide_true, decide_false] <;> with_reducible rfl) (by decide) ?_
                refine aops_gskip (r := .tup []) (by simp only [jE, jN, seval, vint, qM, f1, f2, decide_true, decide_false] <;> with_reducible rfl) ?_
                refine aops_gskip (r := .tup []) (by simp only [jE, jN, seval, vint, qM, f1, f2, decide_true, decide_false] <;> with_reducible rfl) ?_
                refine aops_gskip (r := .tup []) (by simp only [jE, jN, seval, vint, qM, f1, f2, decide_true, decide_false] <;> with_reducible rfl) ?_
                refine aops_gskip (r := .tup []) (by simp only [jE, jN, seval, vint, qM, f1, f2, decide_true, decide_false] <;> with_reducible rfl) ?_
                refine aops_gskip (r := .tup []) (by simp only [jE, jN, seval, vint, qM, f1, f2, decide_true, decide_false] <;> with_reducible rfl) ?_
                refine aops_gskip (r := .tup []) (by simp only [jE, jN, seval, vint, qM, f1, f2, decide_true, decide_false] <;> with_reducible rfl) ?_
                refine aops_gskip (r := .tup []) (by simp only [jE, jN, seval, vint, qM, f1, f2, decide_true, decide_false] <;> with_reducible rfl) ?_
                refine aops_gskip (r := .tup []) (by simp only [jE, jN, seval, vint, qM, f1, f2, decide_true, decide_false] <;> with_reducible rfl) ?_
                refine g_end (by simp only [jG, jO, jN, seval, vint, qM, f1, f2, decide_true, decide_false] <;> with_reducible rfl) (by decide) (by repeat (first | exact Fin.base _ | with_reducible apply Fin.keep | apply Fin.drop)) ?_
                repeat (refine awp_seq ?_)
                refine awp_cond_false rfl (by simp only [jN, seval, vint, qM, f1, f2, decide_true, decide_false] <;> with_reducible rfl) ?_
                repeat (refine awp_seq ?_)
                refine awp_skip ?_
                refine awp_sel [2, 3] (by simp only [jN, seval, vint, qM, f1, f2, decide_true, decide_false] <;> with_reducible rfl) ?_
                repeat (refine awp_seq ?_)
                have hv : fmtT r.syms t = symN r.syms t.id := by rw [fmtT_eq]; unfold fmtK; rw [if_neg n3, if_neg n4, if_neg n5, if_neg n6, if_pos k3, if_neg hs]
                refine awp_region ?_
                refine e_take 3 (by simp only [jA, jO, jN, seval, y3, y26, y29, vint, qM, f1, f2, decide_true, decide_false] <;> with_reducible rfl) (by decide) ?_
                refine aops_pure (by simp only [jC, jN, seval, vint, qM, f1, f2, decide_true, decide_false] <;> with_reducible rfl) (by simp only [jC, jN, seval, vint, qM, f1, f2, decide_true, decide_false]) (by decide) Trygo10 (hsy _) ?_
                refine e_end (by simp only [jA, jO, jN, seval, vint, qM, f1, f2, decide_true, decide_false] <;> with_reducible rfl) (by decide) ?_
                repeat (refine awp_seq ?_)
                refine awp_ret ⟨.inr rfl, _, rfl, ?_⟩
                simp only [jN, seval, vint, qM, hv]
                try rfl
              ·
                have hl : t.id.toNat < r.syms.length := by omega
                have f1 : (0 ≤ t.id) = True := by simp; omega
                have f2 : (t.id < r.syms.length) = True := by simp; omega
                have g7 : ((0 : Int) ≤ t.id ∧ t.id < r.syms.length) = True := by simp; omega
                have g2 : (r.syms.map Sy.enc)[t.id.toNat]? = some (r.syms.getD t.id.toNat ⟨0, 0, 0, 0, [], false⟩).enc := by rw [List.getElem?_map, List.getD_eq_getElem?_getD, List.getElem?_eq_getElem hl]; rfl
                have hK : symK r.syms t.id = decide ((r.syms.getD t.id.toNat ⟨0, 0, 0, 0, [], false⟩).kind = 5) := by unfold symK; simp only [f1, f2, decide_true, Bool.true_and]
                repeat (refine awp_seq ?_)
                refine g_eval (by simp only [jG, jO, jN, seval, y3, y22, y26, y29, y34, vint, qM, f1, f2, decide_true, g7, g2] <;> with_reducible rfl) (by decide) (by repeat (first | exact Fin.base _ | with_reducible apply Fin.keep | apply Fin.drop)) ?_
                repeat (refine awp_seq ?_)
                refine awp_cond rfl (by simp only [jN, seval, vint, qM, f1, f2, decide_true, g7, g2] <;> with_reducible rfl) (fun bt38 => ?_) (fun bt38 => ?_)
                ·
                  have hs : symK r.syms t.id = true := by rw [hK]; exact bt38
                  have hv : fmtT r.syms t = [83, 101, 108, 102] := by rw [fmtT_eq]; unfold fmtK; rw [if_neg n3, if_neg n4, if_neg n5, if_neg n6, if_pos k3, if_pos hs]
                  refine awp_sel [] (by simp only [jN, seval, vint, qM, f1, f2, decide_true, g7, g2] <;> with_reducible rfl) ?_
                  repeat (refine awp_seq ?_)
                  refine e_eval (by simp only [jA, jO, jN, seval, vint, qM, f1, f2, decide_true, g7, g2] <;> with_reducible rfl) (by decide) ?_
                  repeat (refine awp_seq ?_)
                  refine awp_ret ⟨.inr rfl, _, rfl, ?_⟩
                  simp only [jN, seval, vint, qM, hv]
                  try rfl
                ·
                  have hs : ¬ symK r.syms t.id = true := by rw [hK, bt38]; simp
                  repeat (refine awp_seq ?_)
                  refine awp_skip ?_
                  refine awp_sel [2, 3] (by simp only [jN, seval, vint, qM, f1, f2, decide_true, g7, g2] <;> with_reducible rfl) ?_
                  repeat (refine awp_seq ?_)
                  have hv : fmtT r.syms t = symN r.syms t.id := by rw [fmtT_eq]; unfold fmtK; rw [if_neg n3, if_neg n4, if_neg n5, if_neg n6, if_pos k3, if_neg hs]
                  refine awp_region ?_
                  refine e_take 3 (by simp only [jA, jO, jN, seval, y3, y26, y29, vint, qM, f1, f2, decide_true, g7, g2] <;> with_reducible rfl) (by decide) ?_
                  refine aops_pure (by simp only [jC, jN, seval, vint, qM, f1, f2, decide_true, g7, g2] <;> with_reducible rfl) (by simp only [jC, jN, seval, vint, qM, f1, f2, decide_true, g7, g2]) (by decide) Trygo10 (hsy _) ?_
                  refine e_end (by simp only [jA, jO, jN, seval, vint, qM, f1, f2, decide_true, g7, g2] <;> with_reducible rfl) (by decide) ?_
                  repeat (refine awp_seq ?_)
                  refine awp_ret ⟨.inr rfl, _, rfl, ?_⟩
                  simp only [jN, seval, vint, qM, hv]
                  try rfl
            ·
              have n2 : ¬ t.kind = 2 := by simpa using bt16
              refine awp_sel [2, 3, 7] (by simp only [jN, seval, vint, qM] <;> with_reducible rfl) ?_
              repeat (refine awp_seq ?_)
              refine e_eval (by simp only [jA, jO, jN, seval, y3, vint, qM] <;> with_reducible rfl) (by decide) ?_
              repeat (refine awp_seq ?_)
              refine awp_cond rfl (by simp only [jN, seval, vint, qM] <;> with_reducible rfl) (fun bt43 => ?_) (fun bt43 => ?_)
              ·
                have k3 : t.kind = 7 := by simpa using bt43
                obtain ⟨nm, hnm⟩ : ∃ nm, symN r.syms t.id = nm := ⟨_, rfl⟩
                rw [hnm] at hsy hnl
                repeat (refine awp_seq ?_)
                refine awp_region ?_
                refine e_take 3 (by simp only [jA, jO, jN, seval, y3, y26, y29, vint, qM] <;> with_reducible rfl) (by decide) ?_
                refine aops_pure (by simp only [jC, jN, seval, vint, qM] <;> with_reducible rfl) (by simp only [jC, jN, seval, vint, qM]) (by decide) Trygo10 (hsy _) ?_
                refine e_end (by simp only [jA, jO, jN, seval, vint, qM] <;> with_reducible rfl) (by decide) ?_
                repeat (refine awp_seq ?_)
                refine e_eval (by simp only [jA, jO, jN, seval, y3, y27, y29, vint, qM] <;> with_reducible rfl) (by decide) ?_
                repeat (refine awp_seq ?_)
                refine awp_cond rfl (by simp only [jN, seval, vint, qM] <;> with_reducible rfl) (fun bt52 => ?_) (fun bt52 => ?_)
                ·
                  have hfl := flist r t.args (by omega) ih (by have := hbj t.args.length; rw [List.take_length] at this; omega)
                  have hbl := hbj t.args.length
                  rw [List.take_length] at hbl
                  have hne : ¬ t.args.length = 0 := by have := of_decide_eq_true bt52; omega
                  have hv : fmtT r.syms t = nm ++ ([60] ++ joinC (t.args.map (fmtT r.syms)) ++ [62]) := by rw [fmtT_eq]; unfold fmtK; rw [if_neg n3, if_neg n4, if_neg n5, if_neg n6, if_neg n2, if_pos k3, if_neg hne, hnm]
                  obtain ⟨l, hle⟩ : ∃ l, joinC (t.args.map (fmtT r.syms)) = l := ⟨_, rfl⟩
                  rw [hle] at hfl hbl hv
                  have a1 : (1 + l.length ≤ maxLen) = True := eq_true (by omega)
                  have a2 : (l.length + 1 + 1 ≤ maxLen) = True := eq_true (by omega)
                  have a3 : (nm.length + (l.length + 1 + 1) ≤ maxLen) = True := eq_true (by omega)
                  repeat (refine awp_seq ?_)
                  refine awp_region ?_
                  refine e_take 4 (by simp only [jA, jO, jN, seval, y26, y27, y29, vint, qM, a1, a2, a3, List.length_append, List.length_cons, List.length_nil, Nat.zero_add, Nat.reduceAdd] <;> with_reducible rfl) (by decide) ?_
                  refine aops_pure (by simp only [jC, jN, seval, vint, qM, a1, a2, a3, List.length_append, List.length_cons, List.length_nil, Nat.zero_add, Nat.reduceAdd] <;> with_reducible rfl) (by simp only [jC, jN, seval, vint, qM, a1, a2, a3, List.length_append, List.length_cons, List.length_nil, Nat.zero_add, Nat.reduceAdd]) (by decide) Trygo11 (hfl _) ?_
                  refine e_end (by simp only [jA, jO, jN, seval, y9, vint, qM, a1, a2, a3, List.length_append, List.length_cons, List.length_nil, Nat.zero_add, Nat.reduceAdd] <;> with_reducible rfl) (by decide) ?_
                  refine awp_sel [5] (by simp only [jN, seval, vint, qM] <;> with_reducible rfl) ?_
                  repeat (refine awp_seq ?_)
                  refine e_eval (by simp only [jA, jO, jN, seval, vint, qM] <;> with_reducible rfl) (by decide) ?_
                  repeat (refine awp_seq ?_)
                  refine awp_ret ⟨.inr rfl, _, rfl, ?_⟩
                  simp only [jN, seval, vint, qM, hv]
                  try rfl
                ·
                  have hne : t.args.length = 0 := by simpa using bt52
                  have hv : fmtT r.syms t = nm := by rw [fmtT_eq]; unfold fmtK; rw [if_neg n3, if_neg n4, if_neg n5, if_neg n6, if_neg n2, if_pos k3, if_pos hne, hnm]
                  repeat (refine awp_seq ?_)
                  refine awp_skip ?_
                  repeat (refine awp_seq ?_)
                  refine e_eval (by simp only [jA, jO, jN, seval, vint, qM] <;> with_reducible rfl) (by decide) ?_
                  repeat (refine awp_seq ?_)
                  refine awp_ret ⟨.inr rfl, _, rfl, ?_⟩
                  simp only [jN, seval, vint, qM, hv]
                  try rfl
              ·
                have n7 : ¬ t.kind = 7 := by simpa using bt43
                repeat (refine awp_seq ?_)
                refine awp_skip ?_
                repeat (refine awp_seq ?_)
                refine e_eval (by simp only [jA, jO, jN, seval, y3, y27, y29, vint, qM] <;> with_reducible rfl) (by decide) ?_
                repeat (refine awp_seq ?_)
                refine awp_cond rfl (by simp only [jN, seval, vint, qM] <;> with_reducible rfl) (fun bt65 => ?_) (fun bt65 => ?_)
                ·
                  have n0 : t.args.length = 0 := by simpa using bt65
                  have hv : fmtT r.syms t = [95] := by rw [fmtT_eq]; unfold fmtK; rw [if_neg n3, if_neg n4, if_neg n5, if_neg n6, if_neg n2, if_neg n7, if_pos n0]
                  repeat (refine awp_seq ?_)
                  refine e_eval (by simp only [jA, jO, jN, seval, vint, qM] <;> with_reducible rfl) (by decide) ?_
                  repeat (refine awp_seq ?_)
                  refine awp_ret ⟨.inr rfl, _, rfl, ?_⟩
                  simp only [jN, seval, vint, qM, hv]
                  try rfl
                ·
                  have n0 : ¬ t.args.length = 0 := by simpa using bt65
                  obtain ⟨nm, hnm⟩ : ∃ nm, symN r.syms t.id = nm := ⟨_, rfl⟩
                  rw [hnm] at hsy hnl
                  obtain ⟨a, rest, hargs⟩ : ∃ a l, t.args = a :: l := by
                    cases hq : t.args with
                    | nil => rw [hq] at n0; exact absurd rfl n0
                    | cons a l => exact ⟨a, l, rfl⟩
                  have ham : a ∈ t.args := by rw [hargs]; simp
                  have iha := ih a ham
                  have hba := hbs a ham
                  have g1 : (0 < (t.args.length : Int)) = True := by simp; omega
                  have g2 : (t.args.map Ty.enc)[0]? = some a.enc := by rw [hargs]; rfl
                  have hv0 : (t.args.map (fmtT r.syms)).getD 0 [] = fmtT r.syms a := by rw [hargs]; rfl
                  obtain ⟨v, hve⟩ : ∃ v, fmtT r.syms a = v := ⟨_, rfl⟩
                  rw [hve] at iha hba hv0
                  have a1 : (1 + v.length ≤ maxLen) = True := eq_true (by omega)
                  have a5 : (5 + v.length ≤ maxLen) = True := eq_true (by omega)
                  have a2 : (v.length + 2 ≤ maxLen) = True := eq_true (by omega)
                  have a3 : (v.length + 2 + nm.length ≤ maxLen) = True := eq_true (by omega)
                  repeat (refine awp_seq ?_)
                  refine awp_skip ?_
                  repeat (refine awp_seq ?_)
                  refine e_eval (by simp only [jA, jO, jN, seval, y3, y29, vint, qM] <;> with_reducible rfl) (by decide) ?_
                  repeat (refine awp_seq ?_)
                  refine awp_block ?_
                  repeat (refine awp_seq ?_)
                  refine e_eval (by simp only [jA, jO, jN, seval, y3, vint, qM] <;> with_reducible rfl) (by decide) ?_
                  repeat (refine awp_seq ?_)
                  refine awp_cond rfl (by simp only [jN, seval, vint, qM] <;> with_reducible rfl) (fun bt68 => ?_) (fun bt68 => ?_)
                  ·
                    have k8 : t.kind = 8 := by simpa using bt68
                    repeat (refine awp_seq ?_)
                    refine e_eval (by simp only [jA, jO, jN, seval, y3, y29, vint, qM] <;> with_reducible rfl) (by decide) ?_
                    repeat (refine awp_seq ?_)
                    refine awp_cond rfl (by simp only [jN, seval, vint, qM] <;> with_reducible rfl) (fun bt72 => ?_) (fun bt72 => ?_)
                    ·
                      have ki : t.id = 0 := by simpa using bt72
                      have hv : fmtT r.syms t = [38] ++ v := by rw [fmtT_eq]; unfold fmtK; rw [if_neg n3, if_neg n4, if_neg n5, if_neg n6, if_neg n2, if_neg n7, if_neg n0, if_pos k8, if_pos ki, hv0]
                      repeat (refine awp_seq ?_)
                      refine dp_draw (by kernel_rfl) ?_
                      refine dp_take 5 (by simp only [jP, jO, jN, seval, y26, y27, y29, vint, qM, g1, g2, a1, List.length_append, List.length_cons, List.length_nil, Nat.zero_add, Nat.reduceAdd] <;> with_reducible rfl) (by decide) ?_
                      refine dp_keep (by simp only [jE, jN, seval, vint, qM, g1, g2, a1, List.length_append, List.length_cons, List.length_nil, Nat.zero_add, Nat.reduceAdd] <;> with_reducible rfl) (by simp only [jE, jN, seval, vint, qM, g1, g2, a1, List.length_append, List.length_cons, List.length_nil, Nat.zero_add, Nat.reduceAdd] <;> with_reducible rfl) (by simp only [jE, jN, seval, vint, qM, g1, g2, a1, List.length_append, List.length_cons, List.length_nil, Nat.zero_add, Nat.reduceAdd]) (by decide) Trygo5 (fun hc => iha _) ?_
                      refine dp_end (by simp only [jP, jO, jN, seval, y9, vint, qM, g1, g2, a1, List.length_append, List.length_cons, List.length_nil, Nat.zero_add, Nat.reduceAdd] <;> with_reducible rfl) (by decide) (by repeat (first | exact Fin.base _ | with_reducible apply Fin.keep | apply Fin.drop)) ?_
                      repeat (refine awp_seq ?_)
                      refine awp_ret ⟨.inr rfl, _, rfl, ?_⟩
                      simp only [jN, seval, vint, qM, hv]
                      try rfl
                    ·
                      have ki : ¬ t.id = 0 := by simpa using bt72
                      have hv : fmtT r.syms t = [38, 109, 117, 116, 32] ++ v := by rw [fmtT_eq]; unfold fmtK; rw [if_neg n3, if_neg n4, if_neg n5, if_neg n6, if_neg n2, if_neg n7, if_neg n0, if_pos k8, if_neg ki, hv0]
                      repeat (refine awp_seq ?_)
                      refine awp_skip ?_
                      repeat (refine awp_seq ?_)
                      refine dp_draw (by kernel_rfl) ?_
                      refine dp_take 5 (by simp only [jP, jO, jN, seval, y26, y27, y29, vint, qM, g1, g2, a5, List.length_append, List.length_cons, List.length_nil, Nat.zero_add, Nat.reduceAdd] <;> with_reducible rfl) (by decide) ?_
                      refine dp_keep (by simp only [jE, jN, seval, vint, qM, g1, g2, a5, List.length_append, List.length_cons, List.length_nil, Nat.zero_add, Nat.reduceAdd] <;> with_reducible rfl) (by simp only [jE, jN, seval, vint, qM, g1, g2, a5, List.length_append, List.length_cons, List.length_nil, Nat.zero_add, Nat.reduceAdd] <;> with_reducible rfl) (by simp only [jE, jN, seval, vint, qM, g1, g2, a5, List.length_append, List.length_cons, List.length_nil, Nat.zero_add, Nat.reduceAdd]) (by decide) Trygo5 (fun hc => iha _) ?_
                      refine dp_end (by simp only [jP, jO, jN, seval, y9, vint, qM, g1, g2, a5, List.length_append, List.length_cons, List.length_nil, Nat.zero_add, Nat.reduceAdd] <;> with_reducible rfl) (by decide) (by repeat (first | exact Fin.base _ | with_reducible apply Fin.keep | apply Fin.drop)) ?_
                      repeat (refine awp_seq ?_)
                      refine awp_ret ⟨.inr rfl, _, rfl, ?_⟩
                      simp only [jN, seval, vint, qM, hv]
                      try rfl
                  ·
                    have n8 : ¬ t.kind = 8 := by simpa using bt68
                    repeat (refine awp_seq ?_)
                    refine e_eval (by simp only [jA, jO, jN, seval, y3, vint, qM] <;> with_reducible rfl) (by decide) ?_
                    repeat (refine awp_seq ?_)
                    refine awp_cond rfl (by simp only [jN, seval, vint, qM] <;> with_reducible rfl) (fun bt87 => ?_) (fun bt87 => ?_)
                    ·
                      have k9 : t.kind = 9 := by simpa using bt87
                      have hv : fmtT r.syms t = fmtF t.args (t.args.map (fmtT r.syms)) := by rw [fmtT_eq]; unfold fmtK; rw [if_neg n3, if_neg n4, if_neg n5, if_neg n6, if_neg n2, if_neg n7, if_neg n0, if_neg n8, if_pos k9]
                      repeat (refine awp_seq ?_)
                      refine awp_region ?_
                      refine e_take 2 (by simp only [jA, jO, jN, seval, y26, y29, vint, qM] <;> with_reducible rfl) (by decide) ?_
                      refine aops_pure (by simp only [jC, jN, seval, vint, qM] <;> with_reducible rfl) (by simp only [jC, jN, seval, vint, qM]) (by decide) Trygo12 (ffunc r t (by rw [hargs]; simp) (by omega) ih hbj hbs _) ?_
                      refine e_end (by simp only [jA, jO, jN, seval, vint, qM] <;> with_reducible rfl) (by decide) ?_
                      repeat (refine awp_seq ?_)
                      refine awp_ret ⟨.inr rfl, _, rfl, ?_⟩
                      simp only [jN, seval, vint, qM, hv]
                      try rfl
                    ·
                      have n9 : ¬ t.kind = 9 := by simpa using bt87
                      repeat (refine awp_seq ?_)
                      refine e_eval (by simp only [jA, jO, jN, seval, y3, vint, qM] <;> with_reducible rfl) (by decide) ?_
                      repeat (refine awp_seq ?_)
                      refine awp_cond rfl (by simp only [jN, seval, vint, qM] <;> with_reducible rfl) (fun bt92 => ?_) (fun bt92 => ?_)
                      ·
                        have k10 : t.kind = 10 := by simpa using bt92
                        have hv : fmtT r.syms t = v ++ [58, 58] ++ nm := by rw [fmtT_eq]; unfold fmtK; rw [if_neg n3, if_neg n4, if_neg n5, if_neg n6, if_neg n2, if_neg n7, if_neg n0, if_neg n8, if_neg n9, if_pos k10, hv0, hnm]
                        repeat (refine awp_seq ?_)
                        refine dp_draw (by kernel_rfl) ?_
                        refine dp_take 5 (by simp only [jP, jO, jN, seval, y26, y27, y29, vint, qM, g1, g2, a2, a3, List.length_append, List.length_cons, List.length_nil, Nat.zero_add, Nat.reduceAdd] <;> with_reducible rfl) (by decide) ?_
                        refine dp_keep (by simp only [jE, jN, seval, vint, qM, g1, g2, a2, a3, List.length_append, List.length_cons, List.length_nil, Nat.zero_add, Nat.reduceAdd] <;> with_reducible rfl) (by simp only [jE, jN, seval, vint, qM, g1, g2, a2, a3, List.length_append, List.length_cons, List.length_nil, Nat.zero_add, Nat.reduceAdd] <;> with_reducible rfl) (by simp only [jE, jN, seval, vint, qM, g1, g2, a2, a3, List.length_append, List.length_cons, List.length_nil, Nat.zero_add, Nat.reduceAdd]) (by decide) Trygo5 (fun hc => iha _) ?_
                        refine dp_take 4 (by simp only [jP, jO, jN, seval, y3, y9, y26, y29, vint, qM, g1, g2, a2, a3, List.length_append, List.length_cons, List.length_nil, Nat.zero_add, Nat.reduceAdd] <;> with_reducible rfl) (by decide) ?_
                        refine dp_keep (by simp only [jE, jN, seval, vint, qM, g1, g2, a2, a3, List.length_append, List.length_cons, List.length_nil, Nat.zero_add, Nat.reduceAdd] <;> with_reducible rfl) (by simp only [jE, jN, seval, vint, qM, g1, g2, a2, a3, List.length_append, List.length_cons, List.length_nil, Nat.zero_add, Nat.reduceAdd] <;> with_reducible rfl) (by simp only [jE, jN, seval, vint, qM, g1, g2, a2, a3, List.length_append, List.length_cons, List.length_nil, Nat.zero_add, Nat.reduceAdd]) (by decide) Trygo10 (fun hc => hsy _) ?_
                        refine dp_end (by simp only [jP, jO, jN, seval, y9, vint, qM, g1, g2, a2, a3, List.length_append, List.length_cons, List.length_nil, Nat.zero_add, Nat.reduceAdd] <;> with_reducible rfl) (by decide) (by repeat (first | exact Fin.base _ | with_reducible apply Fin.keep | apply Fin.drop)) ?_
                        repeat (refine awp_seq ?_)
                        refine awp_ret ⟨.inr rfl, _, rfl, ?_⟩
                        simp only [jN, seval, vint, qM, hv]
                        try rfl
                      ·
                        have n10 : ¬ t.kind = 10 := by simpa using bt92
                        have hv : fmtT r.syms t = [95] := by rw [fmtT_eq]; unfold fmtK; rw [if_neg n3, if_neg n4, if_neg n5, if_neg n6, if_neg n2, if_neg n7, if_neg n0, if_neg n8, if_neg n9, if_neg n10]
                        repeat (refine awp_seq ?_)
                        refine awp_skip ?_
                        repeat (refine awp_seq ?_)
                        refine e_eval (by simp only [jA, jO, jN, seval, vint, qM] <;> with_reducible rfl) (by decide) ?_
                        repeat (refine awp_seq ?_)
                        refine awp_ret ⟨.inr rfl, _, rfl, ?_⟩
                        simp only [jN, seval, vint, qM, hv]
                        try rfl

end Go.Abs
set_option maxRecDepth 4000
set_option maxHeartbeats 400000
namespace Go.Abs
open Go.Proofs

theorem inRange (n lo hi : Int) : PC Try.prog 13 [vint n, vint lo, vint hi] (.bool (decide (lo ≤ n) && decide (n ≤ hi))) := by
  refine pc_of (N := 15) Try.func13 rfl rfl (by simp) (by simp [Ty.bel, Rs.bel, bel_slice_ty, Bel.int]) (.bool _) ?_
  repeat (refine awp_seq ?_)
  refine e_eval (by simp only [jA, jO, jN, seval, vint, qM] <;> with_reducible rfl) (by decide) ?_
  repeat (refine awp_seq ?_)
  refine g_eval (by simp only [jG, jO, jN, seval, y3, vint, qM] <;> with_reducible rfl) (by decide) (by repeat (first | exact Fin.base _ | with_reducible apply Fin.keep | apply Fin.drop)) ?_
  repeat (refine awp_seq ?_)
  refine awp_ret ⟨.inr rfl, _, rfl, ?_⟩
  simp only [jN, seval, vint, qM]
  try rfl

theorem fmtR_k (r : Rs) (hsl0 : r.syms.length ≤ 1048576) (hL : ∀ s ∈ r.syms, s.name.length ≤ 1048576) : ∀ (k : Nat) (t : Ty), t.size ≤ k → k ≤ 1048576 → PC Try.prog 6 [r.enc, t.enc] (.str (fmtT r.syms t))
  | 0, t, h, _ => by cases t; simp [Ty.size] at h
  | k + 1, t, h, hk => by
    have em : maxLen = 9223372036854775807 := by decide
    obtain ⟨m, hm⟩ : ∃ m, t.args.length - 1 = m := ⟨_, rfl⟩
    have hal := args_le t
    have ih : ∀ a ∈ t.args, PC Try.prog 6 [r.enc, a.enc] (.str (fmtT r.syms a)) := fun a ha => fmtR_k r hsl0 hL k a (by have := Ty.size_arg ha; omega) (by omega)
    have hbs : ∀ a ∈ t.args, (fmtT r.syms a).length ≤ 70368744177664 := fun a ha => by have := fm_bnd hL (t := a) (by have := Ty.size_arg ha; omega); omega
    have hnl := symN_len hL (by omega) t.id
    have w1 : IntKind.i64.wrap ((r.syms.length : Int) - 1) = (r.syms.length : Int) - 1 := wrap_id (by omega) (by omega)
    have hIR := inRange t.id 0 ((r.syms.length : Int) - 1)
    obtain ⟨kn, hkn⟩ : ∃ kn, (decide (0 ≤ t.id) && decide (t.id ≤ (r.syms.length : Int) - 1)) = kn := ⟨_, rfl⟩
    rw [hkn] at hIR
    have hcs : ¬ t.kind = 2 ∨ (t.kind = 2 ∧ kn = false) ∨ (t.kind = 2 ∧ kn = true) := by cases kn <;> simp <;> omega
    refine pc_of (N := 201) Try.func6 rfl rfl (by simp) (by simp [Ty.bel, Rs.bel, bel_slice_ty, Bel.int]) (.str _) ?_
    repeat (refine awp_seq ?_)
    refine e_eval (by simp only [jA, jO, jN, seval, y26, y29, vint, qM] <;> with_reducible rfl) (by decide) ?_
    repeat (refine awp_seq ?_)
    refine e_eval (by simp only [jA, jO, jN, seval, vint, qM] <;> with_reducible rfl) (by decide) ?_
    repeat (refine awp_seq ?_)
    refine awp_region ?_
    refine e_take 6 (by simp only [jA, jO, jN, seval, y3, y22, y26, y29, y34, vint, qM, w1] <;> with_reducible rfl) (by decide) ?_
    refine aops_pure (by simp only [jC, jN, seval, vint, qM, w1] <;> with_reducible rfl) (by simp only [jC, jN, seval, vint, qM, w1]) (by decide) Trygo13 (hIR _) ?_
    refine e_end (by simp only [jA, jO, jN, seval, vint, qM, w1] <;> with_reducible rfl) (by decide) ?_
    repeat (refine awp_seq ?_)
    refine e_eval (by simp only [jA, jO, jN, seval, vint, qM] <;> with_reducible rfl) (by decide) ?_
    repeat (refine awp_seq ?_)
    refine awp_joinT (σ := List UInt8) (fun (nm : List UInt8) => [(2, .optr 0 0), (3, .optr 1 0), (5, .str nm), (6, .bool kn)]) (fun (nm : List UInt8) => [.row r.enc.cells, .row t.enc.cells]) (fun (nm : List UInt8) => symN r.syms t.id = nm) ?_ ?_ ?_
    · intro nm hg
      exact ⟨by simp, by simp only [RsS, TyS, List.nil_append]; repeat (first | exact hbel_nil _ | exact trivial | exact obel_row_nil _ | (refine HBel.cons ?_ ?_) | (refine obel_row_cons (by first | exact bel_strs _ (by simp) | exact Rs.bel _ _ | exact Ty.bel _ _ | exact bel_slice_ty _ _ | exact bel_ty_tok _ (by simp) | exact bel_Sy _ _ | exact bel_Rf _ _ | exact bel_Dg _ _ | exact bel_nil0 _ | exact bel_nil1 _ | exact Bel.int _ _ | exact Bel.bool _ | exact Bel.str _ | exact Bel.nilp | exact Bel.nilfn | exact Bel.optr _ _ (by simp) | exact bel_nil0 _ | exact bel_nil1 _ | exact bel_fn0 _ _ | assumption) ?_)), by repeat (first | exact BelL.nil | refine BelL.cons (by first | exact bel_strs _ (by simp) | exact Rs.bel _ _ | exact Ty.bel _ _ | exact bel_slice_ty _ _ | exact bel_ty_tok _ (by simp) | exact bel_Sy _ _ | exact bel_Rf _ _ | exact bel_Dg _ _ | exact bel_nil0 _ | exact bel_nil1 _ | exact Bel.int _ _ | exact Bel.bool _ | exact Bel.str _ | exact Bel.nilp | exact Bel.nilfn | exact Bel.optr _ _ (by simp) | exact bel_nil0 _ | exact bel_nil1 _ | exact bel_fn0 _ _ | assumption) ?_)⟩
    · -- to the meeting
      repeat (refine awp_seq ?_)
      refine awp_cond rfl (by simp only [jN, seval, vint, qM] <;> with_reducible rfl) (fun bt18 => ?_) (fun bt18 => ?_)
      ·
        have hin : 0 ≤ t.id ∧ t.id < r.syms.length := by rw [bt18] at hkn; simp at hkn; omega
        have hl : t.id.toNat < r.syms.length := by omega
        have g7 : ((0 : Int) ≤ t.id ∧ t.id < r.syms.length) = True := by simp; omega
        have g2 : (r.syms.map Sy.enc)[t.id.toNat]? = some (r.syms.getD t.id.toNat ⟨0, 0, 0, 0, [], false⟩).enc := by rw [List.getElem?_map, List.getD_eq_getElem?_getD, List.getElem?_eq_getElem hl]; rfl
        repeat (refine awp_seq ?_)
        refine e_eval (by simp only [jA, jO, jN, seval, y3, y9, y22, y26, y29, y34, vint, qM, g7, g2] <;> with_reducible rfl) (by decide) ?_
        exact ⟨(r.syms.getD t.id.toNat ⟨0, 0, 0, 0, [], false⟩).name, [], ⟨(by first | rfl | (simp only [jN, seval, vint, qM] <;> first | done | with_reducible rfl)), (by first | rfl | (simp only [jN, seval, vint, qM] <;> first | done | with_reducible rfl)), (by first | rfl | (simp only [jN, seval, vint, qM] <;> first | done | with_reducible rfl)), (by first | rfl | (simp only [jN, seval, vint, qM] <;> first | done | with_reducible rfl)), trivial⟩, (by first | rfl | (simp only [jN, seval, vint, qM] <;> first | done | with_reducible rfl)), by unfold symN; rw [if_neg (by omega)]⟩
      ·
        have hout : t.id < 0 ∨ t.id ≥ r.syms.length := by rw [bt18] at hkn; simp at hkn; omega
        repeat (refine awp_seq ?_)
        refine awp_skip ?_
        exact ⟨[95], [], ⟨(by first | rfl | (simp only [jN, seval, vint, qM] <;> first | done | with_reducible rfl)), (by first | rfl | (simp only [jN, seval, vint, qM] <;> first | done | with_reducible rfl)), (by first | rfl | (simp only [jN, seval, vint, qM] <;> first | done | with_reducible rfl)), (by first | rfl | (simp only [jN, seval, vint, qM] <;> first | done | with_reducible rfl)), trivial⟩, (by first | rfl | (simp only [jN, seval, vint, qM] <;> first | done | with_reducible rfl)), by unfold symN; rw [if_pos hout]⟩
    · intro nm hg
      have hnm := hg
      rw [hnm] at hnl
      repeat (refine awp_seq ?_)
      refine e_eval (by simp only [jA, jO, jN, seval, vint, qM] <;> with_reducible rfl) (by decide) ?_
      repeat (refine awp_seq ?_)
      refine e_eval (by simp only [jA, jO, jN, seval, y27, y29, vint, qM] <;> with_reducible rfl) (by decide) ?_
      repeat (refine awp_seq ?_)
      refine awp_joinT (σ := List UInt8) (fun (s : List UInt8) => [(2, .optr 0 0), (3, .optr 1 0), (5, .str nm), (6, .bool kn), (7, .str s)]) (fun (s : List UInt8) => [.row r.enc.cells, .row t.enc.cells]) (fun (s : List UInt8) => (t.kind = 7 → s = joinC (t.args.map (fmtT r.syms))) ∧ (t.kind = 9 → s = joinC ((t.args.take (t.args.length - 1)).map (fmtT r.syms))) ∧ s.length ≤ 2199023255552) ?_ ?_ ?_
      · intro s hg
        exact ⟨by simp, by simp only [RsS, TyS, List.nil_append]; repeat (first | exact hbel_nil _ | exact trivial | exact obel_row_nil _ | (refine HBel.cons ?_ ?_) | (refine obel_row_cons (by first | exact bel_strs _ (by simp) | exact Rs.bel _ _ | exact Ty.bel _ _ | exact bel_slice_ty _ _ | exact bel_ty_tok _ (by simp) | exact bel_Sy _ _ | exact bel_Rf _ _ | exact bel_Dg _ _ | exact bel_nil0 _ | exact bel_nil1 _ | exact Bel.int _ _ | exact Bel.bool _ | exact Bel.str _ | exact Bel.nilp | exact Bel.nilfn | exact Bel.optr _ _ (by simp) | exact bel_nil0 _ | exact bel_nil1 _ | exact bel_fn0 _ _ | assumption) ?_)), by repeat (first | exact BelL.nil | refine BelL.cons (by first | exact bel_strs _ (by simp) | exact Rs.bel _ _ | exact Ty.bel _ _ | exact bel_slice_ty _ _ | exact bel_ty_tok _ (by simp) | exact bel_Sy _ _ | exact bel_Rf _ _ | exact bel_Dg _ _ | exact bel_nil0 _ | exact bel_nil1 _ | exact Bel.int _ _ | exact Bel.bool _ | exact Bel.str _ | exact Bel.nilp | exact Bel.nilfn | exact Bel.optr _ _ (by simp) | exact bel_nil0 _ | exact bel_nil1 _ | exact bel_fn0 _ _ | assumption) ?_)⟩
      · -- to the meeting
        repeat (refine awp_seq ?_)
        refine awp_forS (σ := List UInt8) (t.args.length) (fun (s : List UInt8) => [(2, .optr 0 0), (3, .optr 1 0), (5, .str nm), (6, .bool kn), (7, .str s), (27, .slice (t.args.map Ty.enc) .none)]) [2, 3, 5, 6, 7, 27] ([]) (fun (s : List UInt8) => [.row r.enc.cells, .row t.enc.cells]) (fun (i : Nat) (s : List UInt8) => s = joinC ((t.args.take i).map (fmtT r.syms)) ∧ (0 < i → t.kind = 7 ∨ (t.kind = 9 ∧ i < t.args.length))) ([]) (_) rfl rfl rfl rfl rfl rfl rfl rfl rfl (by decide) (by decide) (by decide) (fun _ => rfl) (by omega) ⟨(by first | rfl | (simp only [jN, seval, vint, qM] <;> first | done | with_reducible rfl)), (by first | rfl | (simp only [jN, seval, vint, qM] <;> first | done | with_reducible rfl)), (by first | rfl | (simp only [jN, seval, vint, qM] <;> first | done | with_reducible rfl)), (by first | rfl | (simp only [jN, seval, vint, qM] <;> first | done | with_reducible rfl)), (by first | rfl | (simp only [jN, seval, vint, qM] <;> first | done | with_reducible rfl)), (by first | rfl | (simp only [jN, seval, vint, qM] <;> first | done | with_reducible rfl)), (by first | rfl | (simp only [jN, seval, vint, qM] <;> first | done | with_reducible rfl)), (by first | rfl | (simp only [jN, seval, vint, qM] <;> first | done | with_reducible rfl)), trivial⟩ (by first | rfl | (simp only [jN, seval, vint, qM] <;> first | done | with_reducible rfl)) (⟨by simp [joinC_nil], by simp⟩) (fun _ _ _ => by first | exact Nat.zero_le _ | (simp only [List.length_append]; omega)) ?_ ?_ ?_
        · intro i s hg
          refine ⟨?_, by repeat (first | exact BelL.nil | refine BelL.cons (by first | exact bel_strs _ (by simp) | exact Rs.bel _ _ | exact Ty.bel _ _ | exact bel_slice_ty _ _ | exact bel_ty_tok _ (by simp) | exact bel_Sy _ _ | exact bel_Rf _ _ | exact bel_Dg _ _ | exact bel_nil0 _ | exact bel_nil1 _ | exact Bel.int _ _ | exact Bel.bool _ | exact Bel.str _ | exact Bel.nilp | exact Bel.nilfn | exact Bel.optr _ _ (by simp) | exact bel_nil0 _ | exact bel_nil1 _ | exact bel_fn0 _ _ | assumption) ?_)⟩
          simp only [List.nil_append, RsS, TyS]
          repeat (first | exact hbel_nil _ | exact trivial | exact obel_row_nil _ | (refine HBel.cons ?_ ?_) | (refine obel_row_cons (by first | exact bel_strs _ (by simp) | exact Rs.bel _ _ | exact Ty.bel _ _ | exact bel_slice_ty _ _ | exact bel_ty_tok _ (by simp) | exact bel_Sy _ _ | exact bel_Rf _ _ | exact bel_Dg _ _ | exact bel_nil0 _ | exact bel_nil1 _ | exact Bel.int _ _ | exact Bel.bool _ | exact Bel.str _ | exact Bel.nilp | exact Bel.nilfn | exact Bel.optr _ _ (by simp) | exact bel_nil0 _ | exact bel_nil1 _ | exact bel_fn0 _ _ | assumption) ?_))
        · intro i s hi hg
          have g1 := ix_nat hi
          have g2 := get_enc Ty.enc hi
          have htk := joinC_take (ss := t.args.map (fmtT r.syms)) (i := i) (by simpa using hi)
          rw [← List.map_take, ← List.map_take, ← hg.1, List.getElem_map] at htk
          have hsl : s.length ≤ 2199023255552 := by rw [hg.1]; exact fm_join hL (by omega) i
          have hci := ih t.args[i] (List.getElem_mem hi)
          have hcl := hbs t.args[i] (List.getElem_mem hi)
          obtain ⟨c, hce⟩ : ∃ c, t.args[i] = c := ⟨_, rfl⟩
          rw [hce] at g2 htk hci hcl
          obtain ⟨v, hve⟩ : ∃ v, fmtT r.syms c = v := ⟨_, rfl⟩
          rw [hve] at htk hci hcl
          have hml : m < t.args.length := by omega
          have w2 : IntKind.i64.wrap ((t.args.length : Int) - 1) = (m : Int) := by rw [wrap_id (by omega) (by omega)]; omega
          have b1 : (s.length + 2 ≤ maxLen) = True := eq_true (by omega)
          have b2 : (s.length + 2 + v.length ≤ maxLen) = True := eq_true (by omega)
          have b3 : (s.length + v.length ≤ maxLen) = True := eq_true (by omega)
          have b4 : (s.length + 1 + 1 + v.length ≤ maxLen) = True := eq_true (by omega)
          repeat (refine awp_seq ?_)
          refine e_eval (by simp only [jA, jO, jN, seval, y27, y29, vint, qM, g1, g2, Int.toNat_natCast, w2] <;> with_reducible rfl) (by decide) ?_
          repeat (refine awp_seq ?_)
          refine g_eval (by simp only [jG, jO, jN, seval, y3, y27, y29, vint, qM, g1, g2, Int.toNat_natCast, w2] <;> with_reducible rfl) (by decide) (by repeat (first | exact Fin.base _ | with_reducible apply Fin.keep | apply Fin.drop)) ?_
          repeat (refine awp_seq ?_)
          refine awp_cond rfl (by simp only [jN, seval, vint, qM, g1, g2, Int.toNat_natCast, w2] <;> with_reducible rfl) (fun bt54 => ?_) (fun bt54 => ?_)
          ·
            have hL7 : t.kind = 7 → s = joinC (t.args.map (fmtT r.syms)) := fun k => by exfalso; simp [k] at bt54
            have hL9 : t.kind = 9 → s = joinC ((t.args.take (t.args.length - 1)).map (fmtT r.syms)) := fun k => by
              have : (i : Int) = m := by simpa [k] using bt54
              rw [hg.1, hm, show m = i by omega]
            repeat (refine awp_seq ?_)
            refine awp_exit ?_
            simp only [thenQ, blockQ, reduceIte, Nat.reduceEqDiff, Nat.succ_ne_self, if_true, if_false]
            exact ⟨s, _, ⟨(by first | rfl | (simp only [jN, seval, vint, qM, g1, g2, Int.toNat_natCast, w2] <;> first | done | with_reducible rfl)), (by first | rfl | (simp only [jN, seval, vint, qM, g1, g2, Int.toNat_natCast, w2] <;> first | done | with_reducible rfl)), (by first | rfl | (simp only [jN, seval, vint, qM, g1, g2, Int.toNat_natCast, w2] <;> first | done | with_reducible rfl)), (by first | rfl | (simp only [jN, seval, vint, qM, g1, g2, Int.toNat_natCast, w2] <;> first | done | with_reducible rfl)), (by first | rfl | (simp only [jN, seval, vint, qM, g1, g2, Int.toNat_natCast, w2] <;> first | done | with_reducible rfl)), trivial⟩, (by first | rfl | (simp only [jN, seval, vint, qM, g1, g2, Int.toNat_natCast, w2] <;> first | done | with_reducible rfl)), by exact ⟨hL7, hL9, hsl⟩⟩
          ·
            have hc7 : t.kind = 7 ∨ (t.kind = 9 ∧ i + 1 < t.args.length) := by
              by_cases k7 : t.kind = 7
              · exact .inl k7
              · by_cases k9 : t.kind = 9
                · have : ¬ (i : Int) = m := by simpa [k7, k9] using bt54
                  exact .inr ⟨k9, by omega⟩
                · exfalso; simp [k7, k9] at bt54
            repeat (refine awp_seq ?_)
            refine awp_skip ?_
            refine awp_sel [2, 3, 5, 6, 7, 8, 9, 27, 28, 29] (by simp only [jN, seval, vint, qM, g1, g2, Int.toNat_natCast, w2] <;> with_reducible rfl) ?_
            repeat (refine awp_seq ?_)
            refine e_eval (by simp only [jA, jO, jN, seval, y3, vint, qM, g1, g2, Int.toNat_natCast, w2] <;> with_reducible rfl) (by decide) ?_
            repeat (refine awp_seq ?_)
            refine awp_cond rfl (by simp only [jN, seval, vint, qM, g1, g2, Int.toNat_natCast, w2] <;> with_reducible rfl) (fun bt56 => ?_) (fun bt56 => ?_)
            ·
              rw [if_pos (of_decide_eq_true bt56)] at htk
              repeat (refine awp_seq ?_)
              refine e_eval (by simp only [jA, jO, jN, seval, y9, vint, qM, g1, g2, Int.toNat_natCast, w2, b1, List.length_append, List.length_cons, List.length_nil, Nat.zero_add, Nat.reduceAdd] <;> with_reducible rfl) (by decide) ?_
              repeat (refine awp_seq ?_)
              refine awp_region ?_
              refine e_take 3 (by simp only [jA, jO, jN, seval, y26, y29, vint, qM, g1, g2, Int.toNat_natCast, w2, b2, b3, b4, List.length_append, List.length_cons, List.length_nil, Nat.zero_add, Nat.reduceAdd] <;> with_reducible rfl) (by decide) ?_
              refine aops_pure (by simp only [jC, jN, seval, vint, qM, g1, g2, Int.toNat_natCast, w2, b2, b3, b4, List.length_append, List.length_cons, List.length_nil, Nat.zero_add, Nat.reduceAdd] <;> with_reducible rfl) (by simp only [jC, jN, seval, vint, qM, g1, g2, Int.toNat_natCast, w2, b2, b3, b4, List.length_append, List.length_cons, List.length_nil, Nat.zero_add, Nat.reduceAdd]) (by decide) Trygo6 (hci _) ?_
              refine e_end (by simp only [jA, jO, jN, seval, y9, vint, qM, g1, g2, Int.toNat_natCast, w2, b2, b3, b4, List.length_append, List.length_cons, List.length_nil, Nat.zero_add, Nat.reduceAdd] <;> with_reducible rfl) (by decide) ?_
              exact ⟨⟨rfl, rfl, trivial⟩, s ++ 44 :: 32 :: v, _, ⟨rfl, rfl, rfl, rfl, rfl, rfl, trivial⟩, by simp only [jN, seval, vint, qM] <;> rfl, by rw [htk]; simp, fun _ => hc7⟩
            ·
              have hi0 : ¬ (i : Int) > 0 := of_decide_eq_false bt56
              rw [if_neg hi0] at htk
              have hs0 : s = [] := by rw [hg.1, show i = 0 by omega]; rfl
              repeat (refine awp_seq ?_)
              refine awp_skip ?_
              repeat (refine awp_seq ?_)
              refine awp_region ?_
              refine e_take 3 (by simp only [jA, jO, jN, seval, y26, y29, vint, qM, g1, g2, Int.toNat_natCast, w2, b2, b3, b4, List.length_append, List.length_cons, List.length_nil, Nat.zero_add, Nat.reduceAdd] <;> with_reducible rfl) (by decide) ?_
              refine aops_pure (by simp only [jC, jN, seval, vint, qM, g1, g2, Int.toNat_natCast, w2, b2, b3, b4, List.length_append, List.length_cons, List.length_nil, Nat.zero_add, Nat.reduceAdd] <;> with_reducible rfl) (by simp only [jC, jN, seval, vint, qM, g1, g2, Int.toNat_natCast, w2, b2, b3, b4, List.length_append, List.length_cons, List.length_nil, Nat.zero_add, Nat.reduceAdd]) (by decide) Trygo6 (hci _) ?_
              refine e_end (by simp only [jA, jO, jN, seval, y9, vint, qM, g1, g2, Int.toNat_natCast, w2, b2, b3, b4, List.length_append, List.length_cons, List.length_nil, Nat.zero_add, Nat.reduceAdd] <;> with_reducible rfl) (by decide) ?_
              exact ⟨⟨rfl, rfl, trivial⟩, s ++ v, _, ⟨rfl, rfl, rfl, rfl, rfl, rfl, trivial⟩, by simp only [jN, seval, vint, qM] <;> rfl, by rw [hs0]; exact htk.symm, fun _ => hc7⟩
        · intro s hg
          have hsl : s.length ≤ 2199023255552 := by rw [hg.1]; exact fm_join hL (by omega) _
          have hL7 : t.kind = 7 → s = joinC (t.args.map (fmtT r.syms)) := fun _ => by rw [hg.1, List.take_length]
          have hL9 : t.kind = 9 → s = joinC ((t.args.take (t.args.length - 1)).map (fmtT r.syms)) := fun k => by
            by_cases h0 : t.args.length = 0
            · rw [hg.1, List.length_eq_zero_iff.1 h0]; rfl
            · rcases hg.2 (by omega) with q | q
              · omega
              · omega
          exact ⟨s, _, ⟨(by first | rfl | (simp only [jN, seval, vint, qM] <;> first | done | with_reducible rfl)), (by first | rfl | (simp only [jN, seval, vint, qM] <;> first | done | with_reducible rfl)), (by first | rfl | (simp only [jN, seval, vint, qM] <;> first | done | with_reducible rfl)), (by first | rfl | (simp only [jN, seval, vint, qM] <;> first | done | with_reducible rfl)), (by first | rfl | (simp only [jN, seval, vint, qM] <;> first | done | with_reducible rfl)), trivial⟩, (by first | rfl | (simp only [jN, seval, vint, qM] <;> first | done | with_reducible rfl)), by exact ⟨hL7, hL9, hsl⟩⟩
      · intro s hg
        obtain ⟨hL7, hL9, hsl⟩ := hg
        repeat (refine awp_seq ?_)
        refine e_eval (by simp only [jA, jO, jN, seval, y27, y29, vint, qM] <;> with_reducible rfl) (by decide) ?_
        repeat (refine awp_seq ?_)
        refine awp_block ?_
        repeat (refine awp_seq ?_)
        refine e_eval (by simp only [jA, jO, jN, seval, y3, y29, vint, qM] <;> with_reducible rfl) (by decide) ?_
        repeat (refine awp_seq ?_)
        refine awp_cond rfl (by simp only [jN, seval, vint, qM] <;> with_reducible rfl) (fun bt68 => ?_) (fun bt68 => ?_)
        ·
          have k3 : t.kind = 3 := by simpa using bt68
          have hv : fmtT r.syms t = [105, 110, 116] := by rw [fmtT_eq]; unfold fmtK; rw [if_pos k3]
          repeat (refine awp_seq ?_)
          refine e_eval (by simp only [jA, jO, jN, seval, vint, qM] <;> with_reducible rfl) (by decide) ?_
          repeat (refine awp_seq ?_)
          refine awp_ret ⟨.inr rfl, _, rfl, ?_⟩
          simp only [jN, seval, vint, qM, hv]
          try rfl
          try simp [List.append_assoc]
        ·
          have n3 : ¬ t.kind = 3 := by simpa using bt68
          repeat (refine awp_seq ?_)
          refine e_eval (by simp only [jA, jO, jN, seval, y3, y29, vint, qM] <;> with_reducible rfl) (by decide) ?_
          repeat (refine awp_seq ?_)
          refine awp_cond rfl (by simp only [jN, seval, vint, qM] <;> with_reducible rfl) (fun bt72 => ?_) (fun bt72 => ?_)
          ·
            have k3 : t.kind = 4 := by simpa using bt72
            have hv : fmtT r.syms t = [98, 111, 111, 108] := by rw [fmtT_eq]; unfold fmtK; rw [if_neg n3, if_pos k3]
            repeat (refine awp_seq ?_)
            refine e_eval (by simp only [jA, jO, jN, seval, vint, qM] <;> with_reducible rfl) (by decide) ?_
            repeat (refine awp_seq ?_)
            refine awp_ret ⟨.inr rfl, _, rfl, ?_⟩
            simp only [jN, seval, vint, qM, hv]
            try rfl
            try simp [List.append_assoc]
          ·
            have n4 : ¬ t.kind = 4 := by simpa using bt72
            repeat (refine awp_seq ?_)
            refine e_eval (by simp only [jA, jO, jN, seval, y3, y29, vint, qM] <;> with_reducible rfl) (by decide) ?_
            repeat (refine awp_seq ?_)
            refine awp_cond rfl (by simp only [jN, seval, vint, qM] <;> with_reducible rfl) (fun bt76 => ?_) (fun bt76 => ?_)
            ·
              have k3 : t.kind = 5 := by simpa using bt76
              have hv : fmtT r.syms t = [115, 116, 114, 105, 110, 103] := by rw [fmtT_eq]; unfold fmtK; rw [if_neg n3, if_neg n4, if_pos k3]
              refine awp_sel [] (by simp only [jN, seval, vint, qM] <;> with_reducible rfl) ?_
              repeat (refine awp_seq ?_)
              refine e_eval (by simp only [jA, jO, jN, seval, vint, qM] <;> with_reducible rfl) (by decide) ?_
              repeat (refine awp_seq ?_)
              refine awp_ret ⟨.inr rfl, _, rfl, ?_⟩
              simp only [jN, seval, vint, qM, hv]
              try rfl
              try simp [List.append_assoc]
            ·
              have n5 : ¬ t.kind = 5 := by simpa using bt76
              refine awp_sel [2, 3, 5, 6, 7, 10] (by simp only [jN, seval, vint, qM] <;> with_reducible rfl) ?_
              repeat (refine awp_seq ?_)
              refine e_eval (by simp only [jA, jO, jN, seval, y3, y29, vint, qM] <;> with_reducible rfl) (by decide) ?_
              repeat (refine awp_seq ?_)
              refine awp_cond rfl (by simp only [jN, seval, vint, qM] <;> with_reducible rfl) (fun bt80 => ?_) (fun bt80 => ?_)
              ·
                have k3 : t.kind = 6 := by simpa using bt80
                have hv : fmtT r.syms t = [40, 41] := by rw [fmtT_eq]; unfold fmtK; rw [if_neg n3, if_neg n4, if_neg n5, if_pos k3]
                repeat (refine awp_seq ?_)
                refine e_eval (by simp only [jA, jO, jN, seval, vint, qM] <;> with_reducible rfl) (by decide) ?_
                repeat (refine awp_seq ?_)
                refine awp_ret ⟨.inr rfl, _, rfl, ?_⟩
                simp only [jN, seval, vint, qM, hv]
                try rfl
                try simp [List.append_assoc]
              ·
                have n6 : ¬ t.kind = 6 := by simpa using bt80
                rcases hcs with hc | hc | hc
                ·
                  have k2f : (t.kind = 2) = False := eq_false hc
                  have hs : t.kind = 2 → ¬ symK r.syms t.id = true := fun q => absurd q hc
                  repeat (refine awp_seq ?_)
                  refine awp_region ?_
                  refine aops_gstart ?_
                  refine g_take 7 (by simp only [jG, jO, jN, seval, y3, y29, vint, qM, k2f, decide_false] <;> with_reducible rfl) (by decide) ?_
                  refine aops_gskip (r := .tup []) (by simp only [jE, jN, seval, vint, qM, k2f, decide_false] <;> with_reducible rfl) ?_
                  refine aops_gskip (r := .tup []) (by simp only [jE, jN, seval, vint, qM, k2f, decide_false] <;> with_reducible rfl) ?_
                  refine aops_gskip (r := .tup []) (by simp only [jE, jN, seval, vint, qM, k2f, decide_false] <;> with_reducible rfl) ?_
                  refine aops_gskip (r := .tup []) (by simp only [jE, jN, seval, vint, qM, k2f, decide_false] <;> with_reducible rfl) ?_
                  refine aops_gskip (r := .tup []) (by simp only [jE, jN, seval, vint, qM, k2f, decide_false] <;> with_reducible rfl) ?_
                  refine aops_gskip (r := .tup []) (by simp only [jE, jN, seval, vint, qM, k2f, decide_false] <;> with_reducible rfl) ?_
                  refine aops_gskip (r := .tup []) (by simp only [jE, jN, seval, vint, qM, k2f, decide_false] <;> with_reducible rfl) ?_
                  refine aops_gskip (r := .tup []) (by simp only [jE, jN, seval, vint, qM, k2f, decide_false] <;> with_reducible rfl) ?_
                  refine g_end (by simp only [jG, jO, jN, seval, vint, qM, k2f, decide_false] <;> with_reducible rfl) (by decide) (by repeat (first | exact Fin.base _ | with_reducible apply Fin.keep | apply Fin.drop)) ?_
                  repeat (refine awp_seq ?_)
                  refine awp_cond_false rfl (by simp only [jN, seval, vint, qM, k2f, decide_false] <;> with_reducible rfl) ?_
                  refine awp_sel [2, 3, 5, 7, 10] (by simp only [jN, seval, vint, qM, k2f, decide_false] <;> with_reducible rfl) ?_
                  repeat (refine awp_seq ?_)
                  refine g_eval (by simp only [jG, jO, jN, seval, y3, y29, vint, qM, k2f, decide_false] <;> with_reducible rfl) (by decide) (by repeat (first | exact Fin.base _ | with_reducible apply Fin.keep | apply Fin.drop)) ?_
                  repeat (refine awp_seq ?_)
                  refine awp_cond rfl (by simp only [jN, seval, vint, qM, k2f, decide_false] <;> with_reducible rfl) (fun bt101 => ?_) (fun bt101 => ?_)
                  ·
                    have hv : fmtT r.syms t = nm := by
                      by_cases k2 : t.kind = 2
                      · rw [fmtT_eq]; unfold fmtK; rw [if_neg n3, if_neg n4, if_neg n5, if_neg n6, if_pos k2, if_neg (hs k2), hnm]
                      · have k7 : t.kind = 7 ∧ t.args.length = 0 := by
                          first
                            | exact absurd hc2 k2
                            | (simp [k2] at bt101; exact ⟨bt101.1, by rw [bt101.2]; rfl⟩)
                            | (simp [k2] at bt101; exact bt101)
                        rw [fmtT_eq]; unfold fmtK; rw [if_neg n3, if_neg n4, if_neg n5, if_neg n6, if_neg k2, if_pos k7.1, if_pos k7.2, hnm]
                    repeat (refine awp_seq ?_)
                    refine e_eval (by simp only [jA, jO, jN, seval, vint, qM, k2f, decide_false] <;> with_reducible rfl) (by decide) ?_
                    repeat (refine awp_seq ?_)
                    refine awp_ret ⟨.inr rfl, _, rfl, ?_⟩
                    simp only [jN, seval, vint, qM, hv]
                    try rfl
                    try simp [List.append_assoc]
                  ·
                    have n2 : ¬ t.kind = 2 := by first | exact hc | exact fun q => by simp [q] at bt101
                    have n70 : ¬ (t.kind = 7 ∧ t.args.length = 0) := fun q => by simp [q.1, q.2] at bt101
                    repeat (refine awp_seq ?_)
                    refine e_eval (by simp only [jA, jO, jN, seval, y3, y29, vint, qM, k2f, decide_false] <;> with_reducible rfl) (by decide) ?_
                    repeat (refine awp_seq ?_)
                    refine awp_cond rfl (by simp only [jN, seval, vint, qM, k2f, decide_false] <;> with_reducible rfl) (fun bt115 => ?_) (fun bt115 => ?_)
                    ·
                      have k7 : t.kind = 7 := by simpa using bt115
                      have n0 : ¬ t.args.length = 0 := fun q => n70 ⟨k7, q⟩
                      have hv : fmtT r.syms t = nm ++ [60] ++ s ++ [62] := by rw [fmtT_eq]; unfold fmtK; rw [if_neg n3, if_neg n4, if_neg n5, if_neg n6, if_neg n2, if_pos k7, if_neg n0, hnm, ← hL7 k7]; simp [List.append_assoc]
                      have d1 : (nm.length + 1 ≤ maxLen) = True := eq_true (by omega)
                      have d2 : (nm.length + 1 + s.length ≤ maxLen) = True := eq_true (by omega)
                      have d3 : (nm.length + (s.length + 1) + 1 ≤ maxLen) = True := eq_true (by omega)
                      have d4 : (nm.length + (s.length + 1) ≤ maxLen) = True := eq_true (by omega)
                      refine awp_sel [5, 7] (by simp only [jN, seval, vint, qM, k2f, decide_false] <;> with_reducible rfl) ?_
                      repeat (refine awp_seq ?_)
                      refine e_eval (by simp only [jA, jO, jN, seval, y9, vint, qM, k2f, decide_false, d1, d2, d3, d4, List.length_append, List.length_cons, List.length_nil, Nat.zero_add, Nat.reduceAdd] <;> with_reducible rfl) (by decide) ?_
                      repeat (refine awp_seq ?_)
                      refine awp_ret ⟨.inr rfl, _, rfl, ?_⟩
                      simp only [jN, seval, vint, qM, hv]
                      try rfl
                      try simp [List.append_assoc]
                    ·
                      have n7 : ¬ t.kind = 7 := by simpa using bt115
                      refine awp_sel [2, 3, 5, 7, 10] (by simp only [jN, seval, vint, qM, k2f, decide_false] <;> with_reducible rfl) ?_
                      repeat (refine awp_seq ?_)
                      refine g_eval (by simp only [jG, jO, jN, seval, y3, y29, vint, qM, k2f, decide_false] <;> with_reducible rfl) (by decide) (by repeat (first | exact Fin.base _ | with_reducible apply Fin.keep | apply Fin.drop)) ?_
                      repeat (refine awp_seq ?_)
                      refine awp_cond rfl (by simp only [jN, seval, vint, qM, k2f, decide_false] <;> with_reducible rfl) (fun bt124 => ?_) (fun bt124 => ?_)
                      ·
                        have hv : fmtT r.syms t = [95] := by
                          by_cases n0 : t.args.length = 0
                          · rw [fmtT_eq]; unfold fmtK; rw [if_neg n3, if_neg n4, if_neg n5, if_neg n6, if_neg n2, if_neg n7, if_pos n0]
                          · have hk : t.kind < 8 ∨ t.kind > 10 := by
                              have n0' : ¬ t.args = [] := fun q => n0 (by rw [q]; rfl)
                              simp [n0, n0'] at bt124; omega
                            rw [fmtT_eq]; unfold fmtK; rw [if_neg n3, if_neg n4, if_neg n5, if_neg n6, if_neg n2, if_neg n7, if_neg n0, if_neg (by omega), if_neg (by omega), if_neg (by omega)]
                        repeat (refine awp_seq ?_)
                        refine e_eval (by simp only [jA, jO, jN, seval, vint, qM, k2f, decide_false] <;> with_reducible rfl) (by decide) ?_
                        repeat (refine awp_seq ?_)
                        refine awp_ret ⟨.inr rfl, _, rfl, ?_⟩
                        simp only [jN, seval, vint, qM, hv]
                        try rfl
                        try simp [List.append_assoc]
                      ·
                        have hk8 : ¬ t.args.length = 0 ∧ 8 ≤ t.kind ∧ t.kind ≤ 10 := by
                          simp only [Bool.or_eq_false_iff, decide_eq_false_iff_not] at bt124; omega
                        have n0 := hk8.1
                        obtain ⟨a, rest, hargs⟩ : ∃ a l, t.args = a :: l := by
                          cases hq : t.args with
                          | nil => rw [hq] at n0; exact absurd rfl n0
                          | cons a l => exact ⟨a, l, rfl⟩
                        have ham : a ∈ t.args := by rw [hargs]; simp
                        have iha := ih a ham
                        have hba := hbs a ham
                        have g1 : (0 < (t.args.length : Int)) = True := by simp; omega
                        have g2 : (t.args.map Ty.enc)[0]? = some a.enc := by rw [hargs]; rfl
                        have hv0 : (t.args.map (fmtT r.syms)).getD 0 [] = fmtT r.syms a := by rw [hargs]; rfl
                        obtain ⟨va, hve⟩ : ∃ v, fmtT r.syms a = v := ⟨_, rfl⟩
                        rw [hve] at iha hba hv0
                        have a1 : (1 + va.length ≤ maxLen) = True := eq_true (by omega)
                        have a5 : (5 + va.length ≤ maxLen) = True := eq_true (by omega)
                        have a2 : (va.length + 2 ≤ maxLen) = True := eq_true (by omega)
                        have a3 : (va.length + 2 + nm.length ≤ maxLen) = True := eq_true (by omega)
                        have hpl : m < t.args.length := by omega
                        have w3 : IntKind.i64.wrap ((t.args.length : Int) - 1) = (m : Int) := by rw [wrap_id (by omega) (by omega)]; omega
                        have g3 := ix_nat hpl
                        have g4 := get_enc Ty.enc hpl
                        have ihu := ih t.args[m] (List.getElem_mem hpl)
                        have hbu := hbs t.args[m] (List.getElem_mem hpl)
                        have hlk : lastK t.args = t.args[m].kind := by unfold lastK; rw [hm, List.getD_eq_getElem?_getD, List.getElem?_eq_getElem hpl]; rfl
                        have hgd : (t.args.map (fmtT r.syms)).getD m [] = fmtT r.syms t.args[m] := by rw [List.getD_eq_getElem?_getD, List.getElem?_map, List.getElem?_eq_getElem hpl]; rfl
                        obtain ⟨u, hue⟩ : ∃ u, t.args[m] = u := ⟨_, rfl⟩
                        rw [hue] at g4 ihu hbu hlk hgd
                        obtain ⟨vu, hvu⟩ : ∃ v, fmtT r.syms u = v := ⟨_, rfl⟩
                        rw [hvu] at ihu hbu hgd
                        have e1 : (3 + s.length ≤ maxLen) = True := eq_true (by omega)
                        have e2 : (s.length + 1 + 1 + 1 + 1 ≤ maxLen) = True := eq_true (by omega)
                        have e3 : (s.length + 1 + 1 + 1 + 5 ≤ maxLen) = True := eq_true (by omega)
                        have e4 : (s.length + 5 + 1 + 1 + 1 + vu.length ≤ maxLen) = True := eq_true (by omega)
                        repeat (refine awp_seq ?_)
                        refine g_eval (by simp only [jG, jO, jN, seval, y3, y29, vint, qM, k2f, decide_false] <;> with_reducible rfl) (by decide) (by repeat (first | exact Fin.base _ | with_reducible apply Fin.keep | apply Fin.drop)) ?_
                        repeat (refine awp_seq ?_)
                        refine awp_cond rfl (by simp only [jN, seval, vint, qM, k2f, decide_false] <;> with_reducible rfl) (fun bt137 => ?_) (fun bt137 => ?_)
                        ·
                          have k8 : t.kind = 8 ∧ t.id = 0 := by simpa using bt137
                          have hv : fmtT r.syms t = [38] ++ va := by rw [fmtT_eq]; unfold fmtK; rw [if_neg n3, if_neg n4, if_neg n5, if_neg n6, if_neg n2, if_neg n7, if_neg n0, if_pos k8.1, if_pos k8.2, hv0]
                          refine awp_sel [2, 3] (by simp only [jN, seval, vint, qM, k2f, decide_false] <;> with_reducible rfl) ?_
                          repeat (refine awp_seq ?_)
                          refine dp_draw (by kernel_rfl) ?_
                          refine dp_take 5 (by simp only [jP, jO, jN, seval, y26, y27, y29, vint, qM, k2f, decide_false, g1, g2, a1, List.length_append, List.length_cons, List.length_nil, Nat.zero_add, Nat.reduceAdd] <;> with_reducible rfl) (by decide) ?_
                          refine dp_keep (by simp only [jE, jN, seval, vint, qM, k2f, decide_false, g1, g2, a1, List.length_append, List.length_cons, List.length_nil, Nat.zero_add, Nat.reduceAdd] <;> with_reducible rfl) (by simp only [jE, jN, seval, vint, qM, k2f, decide_false, g1, g2, a1, List.length_append, List.length_cons, List.length_nil, Nat.zero_add, Nat.reduceAdd] <;> with_reducible rfl) (by simp only [jE, jN, seval, vint, qM, k2f, decide_false, g1, g2, a1, List.length_append, List.length_cons, List.length_nil, Nat.zero_add, Nat.reduceAdd]) (by decide) Trygo6 (fun hc => iha _) ?_
                          refine dp_end (by simp only [jP, jO, jN, seval, y9, vint, qM, k2f, decide_false, g1, g2, a1, List.length_append, List.length_cons, List.length_nil, Nat.zero_add, Nat.reduceAdd] <;> with_reducible rfl) (by decide) (by repeat (first | exact Fin.base _ | with_reducible apply Fin.keep | apply Fin.drop)) ?_
                          repeat (refine awp_seq ?_)
                          refine awp_ret ⟨.inr rfl, _, rfl, ?_⟩
                          simp only [jN, seval, vint, qM, hv]
                          try rfl
                          try simp [List.append_assoc]
                        ·
                          have n80 : ¬ (t.kind = 8 ∧ t.id = 0) := fun q => by simp [q.1, q.2] at bt137
                          refine awp_sel [2, 3, 5, 7, 10] (by simp only [jN, seval, vint, qM, k2f, decide_false] <;> with_reducible rfl) ?_
                          repeat (refine awp_seq ?_)
                          refine e_eval (by simp only [jA, jO, jN, seval, y3, y29, vint, qM, k2f, decide_false] <;> with_reducible rfl) (by decide) ?_
                          repeat (refine awp_seq ?_)
                          refine awp_cond rfl (by simp only [jN, seval, vint, qM, k2f, decide_false] <;> with_reducible rfl) (fun bt153 => ?_) (fun bt153 => ?_)
                          ·
                            have k8 : t.kind = 8 := by simpa using bt153
                            have hv : fmtT r.syms t = [38, 109, 117, 116, 32] ++ va := by rw [fmtT_eq]; unfold fmtK; rw [if_neg n3, if_neg n4, if_neg n5, if_neg n6, if_neg n2, if_neg n7, if_neg n0, if_pos k8, if_neg (fun q => n80 ⟨k8, q⟩), hv0]
                            repeat (refine awp_seq ?_)
                            refine dp_draw (by kernel_rfl) ?_
                            refine dp_take 5 (by simp only [jP, jO, jN, seval, y26, y27, y29, vint, qM, k2f, decide_false, g1, g2, a5, List.length_append, List.length_cons, List.length_nil, Nat.zero_add, Nat.reduceAdd] <;> with_reducible rfl) (by decide) ?_
                            refine dp_keep (by simp only [jE, jN, seval, vint, qM, k2f, decide_false, g1, g2, a5, List.length_append, List.length_cons, List.length_nil, Nat.zero_add, Nat.reduceAdd] <;> with_reducible rfl) (by simp only [jE, jN, seval, vint, qM, k2f, decide_false, g1, g2, a5, List.length_append, List.length_cons, List.length_nil, Nat.zero_add, Nat.reduceAdd] <;> with_reducible rfl) (by simp only [jE, jN, seval, vint, qM, k2f, decide_false, g1, g2, a5, List.length_append, List.length_cons, List.length_nil, Nat.zero_add, Nat.reduceAdd]) (by decide) Trygo6 (fun hc => iha _) ?_
                            refine dp_end (by simp only [jP, jO, jN, seval, y9, vint, qM, k2f, decide_false, g1, g2, a5, List.length_append, List.length_cons, List.length_nil, Nat.zero_add, Nat.reduceAdd] <;> with_reducible rfl) (by decide) (by repeat (first | exact Fin.base _ | with_reducible apply Fin.keep | apply Fin.drop)) ?_
                            repeat (refine awp_seq ?_)
                            refine awp_ret ⟨.inr rfl, _, rfl, ?_⟩
                            simp only [jN, seval, vint, qM, hv]
                            try rfl
                            try simp [List.append_assoc]
                          ·
                            have n8 : ¬ t.kind = 8 := by simpa using bt153
                            repeat (refine awp_seq ?_)
                            refine e_eval (by simp only [jA, jO, jN, seval, y3, y29, vint, qM, k2f, decide_false] <;> with_reducible rfl) (by decide) ?_
                            repeat (refine awp_seq ?_)
                            refine awp_cond rfl (by simp only [jN, seval, vint, qM, k2f, decide_false] <;> with_reducible rfl) (fun bt164 => ?_) (fun bt164 => ?_)
                            ·
                              have k10 : t.kind = 10 := by simpa using bt164
                              have hv : fmtT r.syms t = va ++ [58, 58] ++ nm := by rw [fmtT_eq]; unfold fmtK; rw [if_neg n3, if_neg n4, if_neg n5, if_neg n6, if_neg n2, if_neg n7, if_neg n0, if_neg n8, if_neg (by omega), if_pos k10, hv0, hnm]
                              repeat (refine awp_seq ?_)
                              refine dp_draw (by kernel_rfl) ?_
                              refine dp_take 5 (by simp only [jP, jO, jN, seval, y26, y27, y29, vint, qM, k2f, decide_false, g1, g2, a2, a3, List.length_append, List.length_cons, List.length_nil, Nat.zero_add, Nat.reduceAdd] <;> with_reducible rfl) (by decide) ?_
                              refine dp_keep (by simp only [jE, jN, seval, vint, qM, k2f, decide_false, g1, g2, a2, a3, List.length_append, List.length_cons, List.length_nil, Nat.zero_add, Nat.reduceAdd] <;> with_reducible rfl) (by simp only [jE, jN, seval, vint, qM, k2f, decide_false, g1, g2, a2, a3, List.length_append, List.length_cons, List.length_nil, Nat.zero_add, Nat.reduceAdd] <;> with_reducible rfl) (by simp only [jE, jN, seval, vint, qM, k2f, decide_false, g1, g2, a2, a3, List.length_append, List.length_cons, List.length_nil, Nat.zero_add, Nat.reduceAdd]) (by decide) Trygo6 (fun hc => iha _) ?_
                              refine dp_end (by simp only [jP, jO, jN, seval, y9, vint, qM, k2f, decide_false, g1, g2, a2, a3, List.length_append, List.length_cons, List.length_nil, Nat.zero_add, Nat.reduceAdd] <;> with_reducible rfl) (by decide) (by repeat (first | exact Fin.base _ | with_reducible apply Fin.keep | apply Fin.drop)) ?_
                              repeat (refine awp_seq ?_)
                              refine awp_ret ⟨.inr rfl, _, rfl, ?_⟩
                              simp only [jN, seval, vint, qM, hv]
                              try rfl
                              try simp [List.append_assoc]
                            ·
                              have n10 : ¬ t.kind = 10 := by simpa using bt164
                              have k9 : t.kind = 9 := by omega
                              have hfv : fmtT r.syms t = if u.kind = 6 then [102, 110, 40] ++ s ++ [41] else [102, 110, 40] ++ s ++ [41] ++ ([32, 45, 62, 32] ++ vu) := by
                                rw [fmtT_eq]; unfold fmtK; rw [if_neg n3, if_neg n4, if_neg n5, if_neg n6, if_neg n2, if_neg n7, if_neg n0, if_neg n8, if_pos k9]
                                unfold fmtF
                                rw [hlk, ← List.map_take, ← hL9 k9, hm, hgd]
                              repeat (refine awp_seq ?_)
                              refine e_eval (by simp only [jA, jO, jN, seval, y3, y27, y29, vint, qM, k2f, decide_false, w3, g3, g4, Int.toNat_natCast] <;> with_reducible rfl) (by decide) ?_
                              repeat (refine awp_seq ?_)
                              refine awp_cond rfl (by simp only [jN, seval, vint, qM, k2f, decide_false] <;> with_reducible rfl) (fun bt177 => ?_) (fun bt177 => ?_)
                              ·
                                have hv := hfv
                                rw [if_pos (by simpa using bt177)] at hv
                                refine awp_sel [7] (by simp only [jN, seval, vint, qM, k2f, decide_false] <;> with_reducible rfl) ?_
                                repeat (refine awp_seq ?_)
                                refine e_eval (by simp only [jA, jO, jN, seval, y9, vint, qM, k2f, decide_false, e1, e2, List.length_append, List.length_cons, List.length_nil, Nat.zero_add, Nat.reduceAdd] <;> with_reducible rfl) (by decide) ?_
                                repeat (refine awp_seq ?_)
                                refine awp_ret ⟨.inr rfl, _, rfl, ?_⟩
                                simp only [jN, seval, vint, qM, hv]
                                try rfl
                                try simp [List.append_assoc]
                              ·
                                have hv := hfv
                                rw [if_neg (by simpa using bt177)] at hv
                                repeat (refine awp_seq ?_)
                                refine awp_skip ?_
                                refine awp_sel [2, 3, 7, 10] (by simp only [jN, seval, vint, qM, k2f, decide_false] <;> with_reducible rfl) ?_
                                repeat (refine awp_seq ?_)
                                refine dp_draw (by kernel_rfl) ?_
                                refine dp_take 10 (by simp only [jP, jO, jN, seval, y3, y9, y26, y27, y29, vint, qM, k2f, decide_false, w3, g3, g4, Int.toNat_natCast, e1, e3, e4, List.length_append, List.length_cons, List.length_nil, Nat.zero_add, Nat.reduceAdd] <;> with_reducible rfl) (by decide) ?_
                                refine dp_keep (by simp only [jE, jN, seval, vint, qM, k2f, decide_false, w3, g3, g4, Int.toNat_natCast, e1, e3, e4, List.length_append, List.length_cons, List.length_nil, Nat.zero_add, Nat.reduceAdd] <;> with_reducible rfl) (by simp only [jE, jN, seval, vint, qM, k2f, decide_false, w3, g3, g4, Int.toNat_natCast, e1, e3, e4, List.length_append, List.length_cons, List.length_nil, Nat.zero_add, Nat.reduceAdd] <;> with_reducible rfl) (by simp only [jE, jN, seval, vint, qM, k2f, decide_false, w3, g3, g4, Int.toNat_natCast, e1, e3, e4, List.length_append, List.length_cons, List.length_nil, Nat.zero_add, Nat.reduceAdd]) (by decide) Trygo6 (fun hc => ihu _) ?_
                                refine dp_end (by simp only [jP, jO, jN, seval, y9, vint, qM, k2f, decide_false, w3, g3, g4, Int.toNat_natCast, e1, e3, e4, List.length_append, List.length_cons, List.length_nil, Nat.zero_add, Nat.reduceAdd] <;> with_reducible rfl) (by decide) (by repeat (first | exact Fin.base _ | with_reducible apply Fin.keep | apply Fin.drop)) ?_
                                repeat (refine awp_seq ?_)
                                refine awp_ret ⟨.inr rfl, _, rfl, ?_⟩
                                simp only [jN, seval, vint, qM, hv]
                                try rfl
                                try simp [List.append_assoc]
                ·
                  obtain ⟨hc2, hkf⟩ := hc
                  have k2t : (t.kind = 2) = True := eq_true hc2
                  have hs : t.kind = 2 → ¬ symK r.syms t.id = true := fun _ => by
                    rw [hkf] at hkn
                    simp at hkn
                    unfold symK
                    simp
                    omega
                  repeat (refine awp_seq ?_)
                  refine awp_region ?_
                  refine aops_gstart ?_
                  refine g_take 7 (by simp only [jG, jO, jN, seval, y3, y29, vint, qM, k2t, decide_true, hkf] <;> with_reducible rfl) (by decide) ?_
                  refine aops_gskip (r := .tup []) (by simp only [jE, jN, seval, vint, qM, k2t, decide_true, hkf] <;> with_reducible rfl) ?_
                  refine aops_gskip (r := .tup []) (by simp only [jE, jN, seval, vint, qM, k2t, decide_true, hkf] <;> with_reducible rfl) ?_
                  refine aops_gskip (r := .tup []) (by simp only [jE, jN, seval, vint, qM, k2t, decide_true, hkf] <;> with_reducible rfl) ?_
                  refine aops_gskip (r := .tup []) (by simp only [jE, jN, seval, vint, qM, k2t, decide_true, hkf] <;> with_reducible rfl) ?_
                  refine aops_gskip (r := .tup []) (by simp only [jE, jN, seval, vint, qM, k2t, decide_true, hkf] <;> with_reducible rfl) ?_
                  refine aops_gskip (r := .tup []) (by simp only [jE, jN, seval, vint, qM, k2t, decide_true, hkf] <;> with_reducible rfl) ?_
                  refine aops_gskip (r := .tup []) (by simp only [jE, jN, seval, vint, qM, k2t, decide_true, hkf] <;> with_reducible rfl) ?_
                  refine aops_gskip (r := .tup []) (by simp only [jE, jN, seval, vint, qM, k2t, decide_true, hkf] <;> with_reducible rfl) ?_
                  refine g_end (by simp only [jG, jO, jN, seval, vint, qM, k2t, decide_true, hkf] <;> with_reducible rfl) (by decide) (by repeat (first | exact Fin.base _ | with_reducible apply Fin.keep | apply Fin.drop)) ?_
                  repeat (refine awp_seq ?_)
                  refine awp_cond_false rfl (by simp only [jN, seval, vint, qM, k2t, decide_true, hkf] <;> with_reducible rfl) ?_
                  refine awp_sel [2, 3, 5, 7, 10] (by simp only [jN, seval, vint, qM, k2t, decide_true, hkf] <;> with_reducible rfl) ?_
                  repeat (refine awp_seq ?_)
                  refine g_eval (by simp only [jG, jO, jN, seval, y3, y29, vint, qM, k2t, decide_true, hkf] <;> with_reducible rfl) (by decide) (by repeat (first | exact Fin.base _ | with_reducible apply Fin.keep | apply Fin.drop)) ?_
                  repeat (refine awp_seq ?_)
                  refine awp_cond rfl (by simp only [jN, seval, vint, qM, k2t, decide_true, hkf] <;> with_reducible rfl) (fun bt101 => ?_) (fun bt101 => ?_)
                  ·
                    have hv : fmtT r.syms t = nm := by
                      by_cases k2 : t.kind = 2
                      · rw [fmtT_eq]; unfold fmtK; rw [if_neg n3, if_neg n4, if_neg n5, if_neg n6, if_pos k2, if_neg (hs k2), hnm]
                      · have k7 : t.kind = 7 ∧ t.args.length = 0 := by
                          first
                            | exact absurd hc2 k2
                            | (simp [k2] at bt101; exact ⟨bt101.1, by rw [bt101.2]; rfl⟩)
                            | (simp [k2] at bt101; exact bt101)
                        rw [fmtT_eq]; unfold fmtK; rw [if_neg n3, if_neg n4, if_neg n5, if_neg n6, if_neg k2, if_pos k7.1, if_pos k7.2, hnm]
                    repeat (refine awp_seq ?_)
                    refine e_eval (by simp only [jA, jO, jN, seval, vint, qM, k2t, decide_true, hkf] <;> with_reducible rfl) (by decide) ?_
                    repeat (refine awp_seq ?_)
                    refine awp_ret ⟨.inr rfl, _, rfl, ?_⟩
                    simp only [jN, seval, vint, qM, hv]
                    try rfl
                    try simp [List.append_assoc]
                  ·
                    have n2 : ¬ t.kind = 2 := by first | exact hc | exact fun q => by simp [q] at bt101
                    have n70 : ¬ (t.kind = 7 ∧ t.args.length = 0) := fun q => by simp [q.1, q.2] at bt101
                    repeat (refine awp_seq ?_)
                    refine e_eval (by simp only [jA, jO, jN, seval, y3, y29, vint, qM, k2t, decide_true, hkf] <;> with_reducible rfl) (by decide) ?_
                    repeat (refine awp_seq ?_)
                    refine awp_cond rfl (by simp only [jN, seval, vint, qM, k2t, decide_true, hkf] <;> with_reducible rfl) (fun bt115 => ?_) (fun bt115 => ?_)
                    ·
                      have k7 : t.kind = 7 := by simpa using bt115
                      have n0 : ¬ t.args.length = 0 := fun q => n70 ⟨k7, q⟩
                      have hv : fmtT r.syms t = nm ++ [60] ++ s ++ [62] := by rw [fmtT_eq]; unfold fmtK; rw [if_neg n3, if_neg n4, if_neg n5, if_neg n6, if_neg n2, if_pos k7, if_neg n0, hnm, ← hL7 k7]; simp [List.append_assoc]
                      have d1 : (nm.length + 1 ≤ maxLen) = True := eq_true (by omega)
                      have d2 : (nm.length + 1 + s.length ≤ maxLen) = True := eq_true (by omega)
                      have d3 : (nm.length + (s.length + 1) + 1 ≤ maxLen) = True := eq_true (by omega)
                      have d4 : (nm.length + (s.length + 1) ≤ maxLen) = True := eq_true (by omega)
                      refine awp_sel [5, 7] (by simp only [jN, seval, vint, qM, k2t, decide_true, hkf] <;> with_reducible rfl) ?_
                      repeat (refine awp_seq ?_)
                      refine e_eval (by simp only [jA, jO, jN, seval, y9, vint, qM, k2t, decide_true, hkf, d1, d2, d3, d4, List.length_append, List.length_cons, List.length_nil, Nat.zero_add, Nat.reduceAdd] <;> with_reducible rfl) (by decide) ?_
                      repeat (refine awp_seq ?_)
                      refine awp_ret ⟨.inr rfl, _, rfl, ?_⟩
                      simp only [jN, seval, vint, qM, hv]
                      try rfl
                      try simp [List.append_assoc]
                    ·
                      have n7 : ¬ t.kind = 7 := by simpa using bt115
                      refine awp_sel [2, 3, 5, 7, 10] (by simp only [jN, seval, vint, qM, k2t, decide_true, hkf] <;> with_reducible rfl) ?_
                      repeat (refine awp_seq ?_)
                      refine g_eval (by simp only [jG, jO, jN, seval, y3, y29, vint, qM, k2t, decide_true, hkf] <;> with_reducible rfl) (by decide) (by repeat (first | exact Fin.base _ | with_reducible apply Fin.keep | apply Fin.drop)) ?_
                      repeat (refine awp_seq ?_)
                      refine awp_cond rfl (by simp only [jN, seval, vint, qM, k2t, decide_true, hkf] <;> with_reducible rfl) (fun bt124 => ?_) (fun bt124 => ?_)
                      ·
                        have hv : fmtT r.syms t = [95] := by
                          by_cases n0 : t.args.length = 0
                          · rw [fmtT_eq]; unfold fmtK; rw [if_neg n3, if_neg n4, if_neg n5, if_neg n6, if_neg n2, if_neg n7, if_pos n0]
                          · have hk : t.kind < 8 ∨ t.kind > 10 := by
                              have n0' : ¬ t.args = [] := fun q => n0 (by rw [q]; rfl)
                              simp [n0, n0'] at bt124; omega
                            rw [fmtT_eq]; unfold fmtK; rw [if_neg n3, if_neg n4, if_neg n5, if_neg n6, if_neg n2, if_neg n7, if_neg n0, if_neg (by omega), if_neg (by omega), if_neg (by omega)]
                        repeat (refine awp_seq ?_)
                        refine e_eval (by simp only [jA, jO, jN, seval, vint, qM, k2t, decide_true, hkf] <;> with_reducible rfl) (by decide) ?_
                        repeat (refine awp_seq ?_)
                        refine awp_ret ⟨.inr rfl, _, rfl, ?_⟩
                        simp only [jN, seval, vint, qM, hv]
                        try rfl
                        try simp [List.append_assoc]
                      ·
                        have hk8 : ¬ t.args.length = 0 ∧ 8 ≤ t.kind ∧ t.kind ≤ 10 := by
                          simp only [Bool.or_eq_false_iff, decide_eq_false_iff_not] at bt124; omega
                        have n0 := hk8.1
                        obtain ⟨a, rest, hargs⟩ : ∃ a l, t.args = a :: l := by
                          cases hq : t.args with
                          | nil => rw [hq] at n0; exact absurd rfl n0
                          | cons a l => exact ⟨a, l, rfl⟩
                        have ham : a ∈ t.args := by rw [hargs]; simp
                        have iha := ih a ham
                        have hba := hbs a ham
                        have g1 : (0 < (t.args.length : Int)) = True := by simp; omega
                        have g2 : (t.args.map Ty.enc)[0]? = some a.enc := by rw [hargs]; rfl
                        have hv0 : (t.args.map (fmtT r.syms)).getD 0 [] = fmtT r.syms a := by rw [hargs]; rfl
                        obtain ⟨va, hve⟩ : ∃ v, fmtT r.syms a = v := ⟨_, rfl⟩
                        rw [hve] at iha hba hv0
                        have a1 : (1 + va.length ≤ maxLen) = True := eq_true (by omega)
                        have a5 : (5 + va.length ≤ maxLen) = True := eq_true (by omega)
                        have a2 : (va.length + 2 ≤ maxLen) = True := eq_true (by omega)
                        have a3 : (va.length + 2 + nm.length ≤ maxLen) = True := eq_true (by omega)
                        have hpl : m < t.args.length := by omega
                        have w3 : IntKind.i64.wrap ((t.args.length : Int) - 1) = (m : Int) := by rw [wrap_id (by omega) (by omega)]; omega
                        have g3 := ix_nat hpl
                        have g4 := get_enc Ty.enc hpl
                        have ihu := ih t.args[m] (List.getElem_mem hpl)
                        have hbu := hbs t.args[m] (List.getElem_mem hpl)
                        have hlk : lastK t.args = t.args[m].kind := by unfold lastK; rw [hm, List.getD_eq_getElem?_getD, List.getElem?_eq_getElem hpl]; rfl
                        have hgd : (t.args.map (fmtT r.syms)).getD m [] = fmtT r.syms t.args[m] := by rw [List.getD_eq_getElem?_getD, List.getElem?_map, List.getElem?_eq_getElem hpl]; rfl
                        obtain ⟨u, hue⟩ : ∃ u, t.args[m] = u := ⟨_, rfl⟩
                        rw [hue] at g4 ihu hbu hlk hgd
                        obtain ⟨vu, hvu⟩ : ∃ v, fmtT r.syms u = v := ⟨_, rfl⟩
                        rw [hvu] at ihu hbu hgd
                        have e1 : (3 + s.length ≤ maxLen) = True := eq_true (by omega)
                        have e2 : (s.length + 1 + 1 + 1 + 1 ≤ maxLen) = True := eq_true (by omega)
                        have e3 : (s.length + 1 + 1 + 1 + 5 ≤ maxLen) = True := eq_true (by omega)
                        have e4 : (s.length + 5 + 1 + 1 + 1 + vu.length ≤ maxLen) = True := eq_true (by omega)
                        repeat (refine awp_seq ?_)
                        refine g_eval (by simp only [jG, jO, jN, seval, y3, y29, vint, qM, k2t, decide_true, hkf] <;> with_reducible rfl) (by decide) (by repeat (first | exact Fin.base _ | with_reducible apply Fin.keep | apply Fin.drop)) ?_
                        repeat (refine awp_seq ?_)
                        refine awp_cond rfl (by simp only [jN, seval, vint, qM, k2t, decide_true, hkf] <;> with_reducible rfl) (fun bt137 => ?_) (fun bt137 => ?_)
                        ·
                          have k8 : t.kind = 8 ∧ t.id = 0 := by simpa using bt137
                          have hv : fmtT r.syms t = [38] ++ va := by rw [fmtT_eq]; unfold fmtK; rw [if_neg n3, if_neg n4, if_neg n5, if_neg n6, if_neg n2, if_neg n7, if_neg n0, if_pos k8.1, if_pos k8.2, hv0]
                          refine awp_sel [2, 3] (by simp only [jN, seval, vint, qM, k2t, decide_true, hkf] <;> with_reducible rfl) ?_
                          repeat (refine awp_seq ?_)
                          refine dp_draw (by kernel_rfl) ?_
                          refine dp_take 5 (by simp only [jP, jO, jN, seval, y26, y27, y29, vint, qM, k2t, decide_true, hkf, g1, g2, a1, List.length_append, List.length_cons, List.length_nil, Nat.zero_add, Nat.reduceAdd] <;> with_reducible rfl) (by decide) ?_
                          refine dp_keep (by simp only [jE, jN, seval, vint, qM, k2t, decide_true, hkf, g1, g2, a1, List.length_append, List.length_cons, List.length_nil, Nat.zero_add, Nat.reduceAdd] <;> with_reducible rfl) (by simp only [jE, jN, seval, vint, qM, k2t, decide_true, hkf, g1, g2, a1, List.length_append, List.length_cons, List.length_nil, Nat.zero_add, Nat.reduceAdd] <;> with_reducible rfl) (by simp only [jE, jN, seval, vint, qM, k2t, decide_true, hkf, g1, g2, a1, List.length_append, List.length_cons, List.length_nil, Nat.zero_add, Nat.reduceAdd]) (by decide) Trygo6 (fun hc => iha _) ?_
                          refine dp_end (by simp only [jP, jO, jN, seval, y9, vint, qM, k2t, decide_true, hkf, g1, g2, a1, List.length_append, List.length_cons, List.length_nil, Nat.zero_add, Nat.reduceAdd] <;> with_reducible rfl) (by decide) (by repeat (first | exact Fin.base _ | with_reducible apply Fin.keep | apply Fin.drop)) ?_
                          repeat (refine awp_seq ?_)
                          refine awp_ret ⟨.inr rfl, _, rfl, ?_⟩
                          simp only [jN, seval, vint, qM, hv]
                          try rfl
                          try simp [List.append_assoc]
                        ·
                          have n80 : ¬ (t.kind = 8 ∧ t.id = 0) := fun q => by simp [q.1, q.2] at bt137
                          refine awp_sel [2, 3, 5, 7, 10] (by simp only [jN, seval, vint, qM, k2t, decide_true, hkf] <;> with_reducible rfl) ?_
                          repeat (refine awp_seq ?_)
                          refine e_eval (by simp only [jA, jO, jN, seval, y3, y29, vint, qM, k2t, decide_true, hkf] <;> with_reducible rfl) (by decide) ?_
                          repeat (refine awp_seq ?_)
                          refine awp_cond rfl (by simp only [jN, seval, vint, qM, k2t, decide_true, hkf] <;> with_reducible rfl) (fun bt153 => ?_) (fun bt153 => ?_)
                          ·
                            have k8 : t.kind = 8 := by simpa using bt153
                            have hv : fmtT r.syms t = [38, 109, 117, 116, 32] ++ va := by rw [fmtT_eq]; unfold fmtK; rw [if_neg n3, if_neg n4, if_neg n5, if_neg n6, if_neg n2, if_neg n7, if_neg n0, if_pos k8, if_neg (fun q => n80 ⟨k8, q⟩), hv0]
                            repeat (refine awp_seq ?_)
                            refine dp_draw (by kernel_rfl) ?_
                            refine dp_take 5 (by simp only [jP, jO, jN, seval, y26, y27, y29, vint, qM, k2t, decide_true, hkf, g1, g2, a5, List.length_append, List.length_cons, List.length_nil, Nat.zero_add, Nat.reduceAdd] <;> with_reducible rfl) (by decide) ?_
                            refine dp_keep (by simp only [jE, jN, seval, vint, qM, k2t, decide_true, hkf, g1, g2, a5, List.length_append, List.length_cons, List.length_nil, Nat.zero_add, Nat.reduceAdd] <;> with_reducible rfl) (by simp only [jE, jN, seval, vint, qM, k2t, decide_true, hkf, g1, g2, a5, List.length_append, List.length_cons, List.length_nil, Nat.zero_add, Nat.reduceAdd] <;> with_reducible rfl) (by simp only [jE, jN, seval, vint, qM, k2t, decide_true, hkf, g1, g2, a5, List.length_append, List.length_cons, List.length_nil, Nat.zero_add, Nat.reduceAdd]) (by decide) Trygo6 (fun hc => iha _) ?_
                            refine dp_end (by simp only [jP, jO, jN, seval, y9, vint, qM, k2t, decide_true, hkf, g1, g2, a5, List.length_append, List.length_cons, List.length_nil, Nat.zero_add, Nat.reduceAdd] <;> with_reducible rfl) (by decide) (by repeat (first | exact Fin.base _ | with_reducible apply Fin.keep | apply Fin.drop)) ?_
                            repeat (refine awp_seq ?_)
                            refine awp_ret ⟨.inr rfl, _, rfl, ?_⟩
                            simp only [jN, seval, vint, qM, hv]
                            try rfl
                            try simp [List.append_assoc]
                          ·
                            have n8 : ¬ t.kind = 8 := by simpa using bt153
                            repeat (refine awp_seq ?_)
                            refine e_eval (by simp only [jA, jO, jN, seval, y3, y29, vint, qM, k2t, decide_true, hkf] <;> with_reducible rfl) (by decide) ?_
                            repeat (refine awp_seq ?_)
                            refine awp_cond rfl (by simp only [jN, seval, vint, qM, k2t, decide_true, hkf] <;> with_reducible rfl) (fun bt164 => ?_) (fun bt164 => ?_)
                            ·
                              have k10 : t.kind = 10 := by simpa using bt164
                              have hv : fmtT r.syms t = va ++ [58, 58] ++ nm := by rw [fmtT_eq]; unfold fmtK; rw [if_neg n3, if_neg n4, if_neg n5, if_neg n6, if_neg n2, if_neg n7, if_neg n0, if_neg n8, if_neg (by omega), if_pos k10, hv0, hnm]
                              repeat (refine awp_seq ?_)
                              refine dp_draw (by kernel_rfl) ?_
                              refine dp_take 5 (by simp only [jP, jO, jN, seval, y26, y27, y29, vint, qM, k2t, decide_true, hkf, g1, g2, a2, a3, List.length_append, List.length_cons, List.length_nil, Nat.zero_add, Nat.reduceAdd] <;> with_reducible rfl) (by decide) ?_
                              refine dp_keep (by simp only [jE, jN, seval, vint, qM, k2t, decide_true, hkf, g1, g2, a2, a3, List.length_append, List.length_cons, List.length_nil, Nat.zero_add, Nat.reduceAdd] <;> with_reducible rfl) (by simp only [jE, jN, seval, vint, qM, k2t, decide_true, hkf, g1, g2, a2, a3, List.length_append, List.length_cons, List.length_nil, Nat.zero_add, Nat.reduceAdd] <;> with_reducible rfl) (by simp only [jE, jN, seval, vint, qM, k2t, decide_true, hkf, g1, g2, a2, a3, List.length_append, List.length_cons, List.length_nil, Nat.zero_add, Nat.reduceAdd]) (by decide) Trygo6 (fun hc => iha _) ?_
                              refine dp_end (by simp only [jP, jO, jN, seval, y9, vint, qM, k2t, decide_true, hkf, g1, g2, a2, a3, List.length_append, List.length_cons, List.length_nil, Nat.zero_add, Nat.reduceAdd] <;> with_reducible rfl) (by decide) (by repeat (first | exact Fin.base _ | with_reducible apply Fin.keep | apply Fin.drop)) ?_
                              repeat (refine awp_seq ?_)
                              refine awp_ret ⟨.inr rfl, _, rfl, ?_⟩
                              simp only [jN, seval, vint, qM, hv]
                              try rfl
                              try simp [List.append_assoc]
                            ·
                              have n10 : ¬ t.kind = 10 := by simpa using bt164
                              have k9 : t.kind = 9 := by omega
                              have hfv : fmtT r.syms t = if u.kind = 6 then [102, 110, 40] ++ s ++ [41] else [102, 110, 40] ++ s ++ [41] ++ ([32, 45, 62, 32] ++ vu) := by
                                rw [fmtT_eq]; unfold fmtK; rw [if_neg n3, if_neg n4, if_neg n5, if_neg n6, if_neg n2, if_neg n7, if_neg n0, if_neg n8, if_pos k9]
                                unfold fmtF
                                rw [hlk, ← List.map_take, ← hL9 k9, hm, hgd]
                              repeat (refine awp_seq ?_)
                              refine e_eval (by simp only [jA, jO, jN, seval, y3, y27, y29, vint, qM, k2t, decide_true, hkf, w3, g3, g4, Int.toNat_natCast] <;> with_reducible rfl) (by decide) ?_
                              repeat (refine awp_seq ?_)
                              refine awp_cond rfl (by simp only [jN, seval, vint, qM, k2t, decide_true, hkf] <;> with_reducible rfl) (fun bt177 => ?_) (fun bt177 => ?_)
                              ·
                                have hv := hfv
                                rw [if_pos (by simpa using bt177)] at hv
                                refine awp_sel [7] (by simp only [jN, seval, vint, qM, k2t, decide_true, hkf] <;> with_reducible rfl) ?_
                                repeat (refine awp_seq ?_)
                                refine e_eval (by simp only [jA, jO, jN, seval, y9, vint, qM, k2t, decide_true, hkf, e1, e2, List.length_append, List.length_cons, List.length_nil, Nat.zero_add, Nat.reduceAdd] <;> with_reducible rfl) (by decide) ?_
                                repeat (refine awp_seq ?_)
                                refine awp_ret ⟨.inr rfl, _, rfl, ?_⟩
                                simp only [jN, seval, vint, qM, hv]
                                try rfl
                                try simp [List.append_assoc]
                              ·
                                have hv := hfv
                                rw [if_neg (by simpa using bt177)] at hv
                                repeat (refine awp_seq ?_)
                                refine awp_skip ?_
                                refine awp_sel [2, 3, 7, 10] (by simp only [jN, seval, vint, qM, k2t, decide_true, hkf] <;> with_reducible rfl) ?_
                                repeat (refine awp_seq ?_)
                                refine dp_draw (by kernel_rfl) ?_
                                refine dp_take 10 (by simp only [jP, jO, jN, seval, y3, y9, y26, y27, y29, vint, qM, k2t, decide_true, hkf, w3, g3, g4, Int.toNat_natCast, e1, e3, e4, List.length_append, List.length_cons, List.length_nil, Nat.zero_add, Nat.reduceAdd] <;> with_reducible rfl) (by decide) ?_
                                refine dp_keep (by simp only [jE, jN, seval, vint, qM, k2t, decide_true, hkf, w3, g3, g4, Int.toNat_natCast, e1, e3, e4, List.length_append, List.length_cons, List.length_nil, Nat.zero_add, Nat.reduceAdd] <;> with_reducible rfl) (by simp only [jE, jN, seval, vint, qM, k2t, decide_true, hkf, w3, g3, g4, Int.toNat_natCast, e1, e3, e4, List.length_append, List.length_cons, List.length_nil, Nat.zero_add, Nat.reduceAdd] <;> with_reducible rfl) (by simp only [jE, jN, seval, vint, qM, k2t, decide_true, hkf, w3, g3, g4, Int.toNat_natCast, e1, e3, e4, List.length_append, List.length_cons, List.length_nil, Nat.zero_add, Nat.reduceAdd]) (by decide) Trygo6 (fun hc => ihu _) ?_
                                refine dp_end (by simp only [jP, jO, jN, seval, y9, vint, qM, k2t, decide_true, hkf, w3, g3, g4, Int.toNat_natCast, e1, e3, e4, List.length_append, List.length_cons, List.length_nil, Nat.zero_add, Nat.reduceAdd] <;> with_reducible rfl) (by decide) (by repeat (first | exact Fin.base _ | with_reducible apply Fin.keep | apply Fin.drop)) ?_
                                repeat (refine awp_seq ?_)
                                refine awp_ret ⟨.inr rfl, _, rfl, ?_⟩
                                simp only [jN, seval, vint, qM, hv]
                                try rfl
                                try simp [List.append_assoc]
                ·
                  obtain ⟨hc2, hkt⟩ := hc
                  have k2t : (t.kind = 2) = True := eq_true hc2
                  have hin : 0 ≤ t.id ∧ t.id < r.syms.length := by rw [hkt] at hkn; simp at hkn; omega
                  have hl : t.id.toNat < r.syms.length := by omega
                  have g7 : ((0 : Int) ≤ t.id ∧ t.id < r.syms.length) = True := by simp; omega
                  have g2 : (r.syms.map Sy.enc)[t.id.toNat]? = some (r.syms.getD t.id.toNat ⟨0, 0, 0, 0, [], false⟩).enc := by rw [List.getElem?_map, List.getD_eq_getElem?_getD, List.getElem?_eq_getElem hl]; rfl
                  have hK : symK r.syms t.id = decide ((r.syms.getD t.id.toNat ⟨0, 0, 0, 0, [], false⟩).kind = 5) := by unfold symK; simp [hin.1, hin.2]
                  repeat (refine awp_seq ?_)
                  refine g_eval (by simp only [jG, jO, jN, seval, y3, y22, y26, y29, y34, vint, qM, k2t, decide_true, hkt, g7, g2] <;> with_reducible rfl) (by decide) (by repeat (first | exact Fin.base _ | with_reducible apply Fin.keep | apply Fin.drop)) ?_
                  repeat (refine awp_seq ?_)
                  refine awp_cond rfl (by simp only [jN, seval, vint, qM, k2t, decide_true, hkt, g7, g2] <;> with_reducible rfl) (fun bt84 => ?_) (fun bt84 => ?_)
                  ·
                    have hsT : symK r.syms t.id = true := by rw [hK]; exact bt84
                    have hv : fmtT r.syms t = [83, 101, 108, 102] := by rw [fmtT_eq]; unfold fmtK; rw [if_neg n3, if_neg n4, if_neg n5, if_neg n6, if_pos hc2, if_pos hsT]
                    refine awp_sel [] (by simp only [jN, seval, vint, qM, k2t, decide_true, hkt, g7, g2] <;> with_reducible rfl) ?_
                    repeat (refine awp_seq ?_)
                    refine e_eval (by simp only [jA, jO, jN, seval, vint, qM, k2t, decide_true, hkt, g7, g2] <;> with_reducible rfl) (by decide) ?_
                    repeat (refine awp_seq ?_)
                    refine awp_ret ⟨.inr rfl, _, rfl, ?_⟩
                    simp only [jN, seval, vint, qM, hv]
                    try rfl
                    try simp [List.append_assoc]
                  ·
                    have hs : t.kind = 2 → ¬ symK r.syms t.id = true := fun _ => by rw [hK, bt84]; simp
                    refine awp_sel [2, 3, 5, 7, 10] (by simp only [jN, seval, vint, qM, k2t, decide_true, hkt, g7, g2] <;> with_reducible rfl) ?_
                    repeat (refine awp_seq ?_)
                    refine g_eval (by simp only [jG, jO, jN, seval, y3, y29, vint, qM, k2t, decide_true, hkt, g7, g2] <;> with_reducible rfl) (by decide) (by repeat (first | exact Fin.base _ | with_reducible apply Fin.keep | apply Fin.drop)) ?_
                    repeat (refine awp_seq ?_)
                    refine awp_cond rfl (by simp only [jN, seval, vint, qM, k2t, decide_true, hkt, g7, g2] <;> with_reducible rfl) (fun bt101 => ?_) (fun bt101 => ?_)
                    ·
                      have hv : fmtT r.syms t = nm := by
                        by_cases k2 : t.kind = 2
                        · rw [fmtT_eq]; unfold fmtK; rw [if_neg n3, if_neg n4, if_neg n5, if_neg n6, if_pos k2, if_neg (hs k2), hnm]
                        · have k7 : t.kind = 7 ∧ t.args.length = 0 := by
                            first
                              | exact absurd hc2 k2
                              | (simp [k2] at bt101; exact ⟨bt101.1, by rw [bt101.2]; rfl⟩)
                              | (simp [k2] at bt101; exact bt101)
                          rw [fmtT_eq]; unfold fmtK; rw [if_neg n3, if_neg n4, if_neg n5, if_neg n6, if_neg k2, if_pos k7.1, if_pos k7.2, hnm]
                      repeat (refine awp_seq ?_)
                      refine e_eval (by simp only [jA, jO, jN, seval, vint, qM, k2t, decide_true, hkt, g7, g2] <;> with_reducible rfl) (by decide) ?_
                      repeat (refine awp_seq ?_)
                      refine awp_ret ⟨.inr rfl, _, rfl, ?_⟩
                      simp only [jN, seval, vint, qM, hv]
                      try rfl
                      try simp [List.append_assoc]
                    ·
                      have n2 : ¬ t.kind = 2 := by first | exact hc | exact fun q => by simp [q] at bt101
                      have n70 : ¬ (t.kind = 7 ∧ t.args.length = 0) := fun q => by simp [q.1, q.2] at bt101
                      repeat (refine awp_seq ?_)
                      refine e_eval (by simp only [jA, jO, jN, seval, y3, y29, vint, qM, k2t, decide_true, hkt, g7, g2] <;> with_reducible rfl) (by decide) ?_
                      repeat (refine awp_seq ?_)
                      refine awp_cond rfl (by simp only [jN, seval, vint, qM, k2t, decide_true, hkt, g7, g2] <;> with_reducible rfl) (fun bt115 => ?_) (fun bt115 => ?_)
                      ·
                        have k7 : t.kind = 7 := by simpa using bt115
                        have n0 : ¬ t.args.length = 0 := fun q => n70 ⟨k7, q⟩
                        have hv : fmtT r.syms t = nm ++ [60] ++ s ++ [62] := by rw [fmtT_eq]; unfold fmtK; rw [if_neg n3, if_neg n4, if_neg n5, if_neg n6, if_neg n2, if_pos k7, if_neg n0, hnm, ← hL7 k7]; simp [List.append_assoc]
                        have d1 : (nm.length + 1 ≤ maxLen) = True := eq_true (by omega)
                        have d2 : (nm.length + 1 + s.length ≤ maxLen) = True := eq_true (by omega)
                        have d3 : (nm.length + (s.length + 1) + 1 ≤ maxLen) = True := eq_true (by omega)
                        have d4 : (nm.length + (s.length + 1) ≤ maxLen) = True := eq_true (by omega)
                        refine awp_sel [5, 7] (by simp only [jN, seval, vint, qM, k2t, decide_true, hkt, g7, g2] <;> with_reducible rfl) ?_
                        repeat (refine awp_seq ?_)
                        refine e_eval (by simp only [jA, jO, jN, seval, y9, vint, qM, k2t, decide_true, hkt, g7, g2, d1, d2, d3, d4, List.length_append, List.length_cons, List.length_nil, Nat.zero_add, Nat.reduceAdd] <;> with_reducible rfl) (by decide) ?_
                        repeat (refine awp_seq ?_)
                        refine awp_ret ⟨.inr rfl, _, rfl, ?_⟩
                        simp only [jN, seval, vint, qM, hv]
                        try rfl
                        try simp [List.append_assoc]
                      ·
                        have n7 : ¬ t.kind = 7 := by simpa using bt115
                        refine awp_sel [2, 3, 5, 7, 10] (by simp only [jN, seval, vint, qM, k2t, decide_true, hkt, g7, g2] <;> with_reducible rfl) ?_
                        repeat (refine awp_seq ?_)
                        refine g_eval (by simp only [jG, jO, jN, seval, y3, y29, vint, qM, k2t, decide_true, hkt, g7, g2] <;> with_reducible rfl) (by decide) (by repeat (first | exact Fin.base _ | with_reducible apply Fin.keep | apply Fin.drop)) ?_
                        repeat (refine awp_seq ?_)
                        refine awp_cond rfl (by simp only [jN, seval, vint, qM, k2t, decide_true, hkt, g7, g2] <;> with_reducible rfl) (fun bt124 => ?_) (fun bt124 => ?_)
                        ·
                          have hv : fmtT r.syms t = [95] := by
                            by_cases n0 : t.args.length = 0
                            · rw [fmtT_eq]; unfold fmtK; rw [if_neg n3, if_neg n4, if_neg n5, if_neg n6, if_neg n2, if_neg n7, if_pos n0]
                            · have hk : t.kind < 8 ∨ t.kind > 10 := by
                                have n0' : ¬ t.args = [] := fun q => n0 (by rw [q]; rfl)
                                simp [n0, n0'] at bt124; omega
                              rw [fmtT_eq]; unfold fmtK; rw [if_neg n3, if_neg n4, if_neg n5, if_neg n6, if_neg n2, if_neg n7, if_neg n0, if_neg (by omega), if_neg (by omega), if_neg (by omega)]
                          repeat (refine awp_seq ?_)
                          refine e_eval (by simp only [jA, jO, jN, seval, vint, qM, k2t, decide_true, hkt, g7, g2] <;> with_reducible rfl) (by decide) ?_
                          repeat (refine awp_seq ?_)
                          refine awp_ret ⟨.inr rfl, _, rfl, ?_⟩
                          simp only [jN, seval, vint, qM, hv]
                          try rfl
                          try simp [List.append_assoc]
                        ·
                          have hk8 : ¬ t.args.length = 0 ∧ 8 ≤ t.kind ∧ t.kind ≤ 10 := by
                            simp only [Bool.or_eq_false_iff, decide_eq_false_iff_not] at bt124; omega
                          have n0 := hk8.1
                          obtain ⟨a, rest, hargs⟩ : ∃ a l, t.args = a :: l := by
                            cases hq : t.args with
                            | nil => rw [hq] at n0; exact absurd rfl n0
                            | cons a l => exact ⟨a, l, rfl⟩
                          have ham : a ∈ t.args := by rw [hargs]; simp
                          have iha := ih a ham
                          have hba := hbs a ham
                          have g1 : (0 < (t.args.length : Int)) = True := by simp; omega
                          have g2 : (t.args.map Ty.enc)[0]? = some a.enc := by rw [hargs]; rfl
                          have hv0 : (t.args.map (fmtT r.syms)).getD 0 [] = fmtT r.syms a := by rw [hargs]; rfl
                          obtain ⟨va, hve⟩ : ∃ v, fmtT r.syms a = v := ⟨_, rfl⟩
                          rw [hve] at iha hba hv0
                          have a1 : (1 + va.length ≤ maxLen) = True := eq_true (by omega)
                          have a5 : (5 + va.length ≤ maxLen) = True := eq_true (by omega)
                          have a2 : (va.length + 2 ≤ maxLen) = True := eq_true (by omega)
                          have a3 : (va.length + 2 + nm.length ≤ maxLen) = True := eq_true (by omega)
                          have hpl : m < t.args.length := by omega
                          have w3 : IntKind.i64.wrap ((t.args.length : Int) - 1) = (m : Int) := by rw [wrap_id (by omega) (by omega)]; omega
                          have g3 := ix_nat hpl
                          have g4 := get_enc Ty.enc hpl
                          have ihu := ih t.args[m] (List.getElem_mem hpl)
                          have hbu := hbs t.args[m] (List.getElem_mem hpl)
                          have hlk : lastK t.args = t.args[m].kind := by unfold lastK; rw [hm, List.getD_eq_getElem?_getD, List.getElem?_eq_getElem hpl]; rfl
                          have hgd : (t.args.map (fmtT r.syms)).getD m [] = fmtT r.syms t.args[m] := by rw [List.getD_eq_getElem?_getD, List.getElem?_map, List.getElem?_eq_getElem hpl]; rfl
                          obtain ⟨u, hue⟩ : ∃ u, t.args[m] = u := ⟨_, rfl⟩
                          rw [hue] at g4 ihu hbu hlk hgd
                          obtain ⟨vu, hvu⟩ : ∃ v, fmtT r.syms u = v := ⟨_, rfl⟩
                          rw [hvu] at ihu hbu hgd
                          have e1 : (3 + s.length ≤ maxLen) = True := eq_true (by omega)
                          have e2 : (s.length + 1 + 1 + 1 + 1 ≤ maxLen) = True := eq_true (by omega)
                          have e3 : (s.length + 1 + 1 + 1 + 5 ≤ maxLen) = True := eq_true (by omega)
                          have e4 : (s.length + 5 + 1 + 1 + 1 + vu.length ≤ maxLen) = True := eq_true (by omega)
                          repeat (refine awp_seq ?_)
                          refine g_eval (by simp only [jG, jO, jN, seval, y3, y29, vint, qM, k2t, decide_true, hkt, g7, g2] <;> with_reducible rfl) (by decide) (by repeat (first | exact Fin.base _ | with_reducible apply Fin.keep | apply Fin.drop)) ?_
                          repeat (refine awp_seq ?_)
                          refine awp_cond rfl (by simp only [jN, seval, vint, qM, k2t, decide_true, hkt, g7, g2] <;> with_reducible rfl) (fun bt137 => ?_) (fun bt137 => ?_)
                          ·
                            have k8 : t.kind = 8 ∧ t.id = 0 := by simpa using bt137
                            have hv : fmtT r.syms t = [38] ++ va := by rw [fmtT_eq]; unfold fmtK; rw [if_neg n3, if_neg n4, if_neg n5, if_neg n6, if_neg n2, if_neg n7, if_neg n0, if_pos k8.1, if_pos k8.2, hv0]
                            refine awp_sel [2, 3] (by simp only [jN, seval, vint, qM, k2t, decide_true, hkt, g7, g2] <;> with_reducible rfl) ?_
                            repeat (refine awp_seq ?_)
                            refine dp_draw (by kernel_rfl) ?_
                            refine dp_take 5 (by simp only [jP, jO, jN, seval, y26, y27, y29, vint, qM, k2t, decide_true, hkt, g7, g2, g1, g2, a1, List.length_append, List.length_cons, List.length_nil, Nat.zero_add, Nat.reduceAdd] <;> with_reducible rfl) (by decide) ?_
                            refine dp_keep (by simp only [jE, jN, seval, vint, qM, k2t, decide_true, hkt, g7, g2, g1, g2, a1, List.length_append, List.length_cons, List.length_nil, Nat.zero_add, Nat.reduceAdd] <;> with_reducible rfl) (by simp only [jE, jN, seval, vint, qM, k2t, decide_true, hkt, g7, g2, g1, g2, a1, List.length_append, List.length_cons, List.length_nil, Nat.zero_add, Nat.reduceAdd] <;> with_reducible rfl) (by simp only [jE, jN, seval, vint, qM, k2t, decide_true, hkt, g7, g2, g1, g2, a1, List.length_append, List.length_cons, List.length_nil, Nat.zero_add, Nat.reduceAdd]) (by decide) Trygo6 (fun hc => iha _) ?_
                            refine dp_end (by simp only [jP, jO, jN, seval, y9, vint, qM, k2t, decide_true, hkt, g7, g2, g1, g2, a1, List.length_append, List.length_cons, List.length_nil, Nat.zero_add, Nat.reduceAdd] <;> with_reducible rfl) (by decide) (by repeat (first | exact Fin.base _ | with_reducible apply Fin.keep | apply Fin.drop)) ?_
                            repeat (refine awp_seq ?_)
                            refine awp_ret ⟨.inr rfl, _, rfl, ?_⟩
                            simp only [jN, seval, vint, qM, hv]
                            try rfl
                            try simp [List.append_assoc]
                          ·
                            have n80 : ¬ (t.kind = 8 ∧ t.id = 0) := fun q => by simp [q.1, q.2] at bt137
                            refine awp_sel [2, 3, 5, 7, 10] (by simp only [jN, seval, vint, qM, k2t, decide_true, hkt, g7, g2] <;> with_reducible rfl) ?_
                            repeat (refine awp_seq ?_)
                            refine e_eval (by simp only [jA, jO, jN, seval, y3, y29, vint, qM, k2t, decide_true, hkt, g7, g2] <;> with_reducible rfl) (by decide) ?_
                            repeat (refine awp_seq ?_)
                            refine awp_cond rfl (by simp only [jN, seval, vint, qM, k2t, decide_true, hkt, g7, g2] <;> with_reducible rfl) (fun bt153 => ?_) (fun bt153 => ?_)
                            ·
                              have k8 : t.kind = 8 := by simpa using bt153
                              have hv : fmtT r.syms t = [38, 109, 117, 116, 32] ++ va := by rw [fmtT_eq]; unfold fmtK; rw [if_neg n3, if_neg n4, if_neg n5, if_neg n6, if_neg n2, if_neg n7, if_neg n0, if_pos k8, if_neg (fun q => n80 ⟨k8, q⟩), hv0]
                              repeat (refine awp_seq ?_)
                              refine dp_draw (by kernel_rfl) ?_
                              refine dp_take 5 (by simp only [jP, jO, jN, seval, y26, y27, y29, vint, qM, k2t, decide_true, hkt, g7, g2, g1, g2, a5, List.length_append, List.length_cons, List.length_nil, Nat.zero_add, Nat.reduceAdd] <;> with_reducible rfl) (by decide) ?_
                              refine dp_keep (by simp only [jE, jN, seval, vint, qM, k2t, decide_true, hkt, g7, g2, g1, g2, a5, List.length_append, List.length_cons, List.length_nil, Nat.zero_add, Nat.reduceAdd] <;> with_reducible rfl) (by simp only [jE, jN, seval, vint, qM, k2t, decide_true, hkt, g7, g2, g1, g2, a5, List.length_append, List.length_cons, List.length_nil, Nat.zero_add, Nat.reduceAdd] <;> with_reducible rfl) (by simp only [jE, jN, seval, vint, qM, k2t, decide_true, hkt, g7, g2, g1, g2, a5, List.length_append, List.length_cons, List.length_nil, Nat.zero_add, Nat.reduceAdd]) (by decide) Trygo6 (fun hc => iha _) ?_
                              refine dp_end (by simp only [jP, jO, jN, seval, y9, vint, qM, k2t, decide_true, hkt, g7, g2, g1, g2, a5, List.length_append, List.length_cons, List.length_nil, Nat.zero_add, Nat.reduceAdd] <;> with_reducible rfl) (by decide) (by repeat (first | exact Fin.base _ | with_reducible apply Fin.keep | apply Fin.drop)) ?_
                              repeat (refine awp_seq ?_)
                              refine awp_ret ⟨.inr rfl, _, rfl, ?_⟩
                              simp only [jN, seval, vint, qM, hv]
                              try rfl
                              try simp [List.append_assoc]
                            ·
                              have n8 : ¬ t.kind = 8 := by simpa using bt153
                              repeat (refine awp_seq ?_)
                              refine e_eval (by simp only [jA, jO, jN, seval, y3, y29, vint, qM, k2t, decide_true, hkt, g7, g2] <;> with_reducible rfl) (by decide) ?_
                              repeat (refine awp_seq ?_)
                              refine awp_cond rfl (by simp only [jN, seval, vint, qM, k2t, decide_true, hkt, g7, g2] <;> with_reducible rfl) (fun bt164 => ?_) (fun bt164 => ?_)
                              ·
                                have k10 : t.kind = 10 := by simpa using bt164
                                have hv : fmtT r.syms t = va ++ [58, 58] ++ nm := by rw [fmtT_eq]; unfold fmtK; rw [if_neg n3, if_neg n4, if_neg n5, if_neg n6, if_neg n2, if_neg n7, if_neg n0, if_neg n8, if_neg (by omega), if_pos k10, hv0, hnm]
                                repeat (refine awp_seq ?_)
                                refine dp_draw (by kernel_rfl) ?_
                                refine dp_take 5 (by simp only [jP, jO, jN, seval, y26, y27, y29, vint, qM, k2t, decide_true, hkt, g7, g2, g1, g2, a2, a3, List.length_append, List.length_cons, List.length_nil, Nat.zero_add, Nat.reduceAdd] <;> with_reducible rfl) (by decide) ?_
                                refine dp_keep (by simp only [jE, jN, seval, vint, qM, k2t, decide_true, hkt, g7, g2, g1, g2, a2, a3, List.length_append, List.length_cons, List.length_nil, Nat.zero_add, Nat.reduceAdd] <;> with_reducible rfl) (by simp only [jE, jN, seval, vint, qM, k2t, decide_true, hkt, g7, g2, g1, g2, a2, a3, List.length_append, List.length_cons, List.length_nil, Nat.zero_add, Nat.reduceAdd] <;> with_reducible rfl) (by simp only [jE, jN, seval, vint, qM, k2t, decide_true, hkt, g7, g2, g1, g2, a2, a3, List.length_append, List.length_cons, List.length_nil, Nat.zero_add, Nat.reduceAdd]) (by decide) Trygo6 (fun hc => iha _) ?_
                                refine dp_end (by simp only [jP, jO, jN, seval, y9, vint, qM, k2t, decide_true, hkt, g7, g2, g1, g2, a2, a3, List.length_append, List.length_cons, List.length_nil, Nat.zero_add, Nat.reduceAdd] <;> with_reducible rfl) (by decide) (by repeat (first | exact Fin.base _ | with_reducible apply Fin.keep | apply Fin.drop)) ?_
                                repeat (refine awp_seq ?_)
                                refine awp_ret ⟨.inr rfl, _, rfl, ?_⟩
                                simp only [jN, seval, vint, qM, hv]
                                try rfl
                                try simp [List.append_assoc]
                              ·
                                have n10 : ¬ t.kind = 10 := by simpa using bt164
                                have k9 : t.kind = 9 := by omega
                                have hfv : fmtT r.syms t = if u.kind = 6 then [102, 110, 40] ++ s ++ [41] else [102, 110, 40] ++ s ++ [41] ++ ([32, 45, 62, 32] ++ vu) := by
                                  rw [fmtT_eq]; unfold fmtK; rw [if_neg n3, if_neg n4, if_neg n5, if_neg n6, if_neg n2, if_neg n7, if_neg n0, if_neg n8, if_pos k9]
                                  unfold fmtF
                                  rw [hlk, ← List.map_take, ← hL9 k9, hm, hgd]
                                repeat (refine awp_seq ?_)
                                refine e_eval (by simp only [jA, jO, jN, seval, y3, y27, y29, vint, qM, k2t, decide_true, hkt, g7, g2, w3, g3, g4, Int.toNat_natCast] <;> with_reducible rfl) (by decide) ?_
                                repeat (refine awp_seq ?_)
                                refine awp_cond rfl (by simp only [jN, seval, vint, qM, k2t, decide_true, hkt, g7, g2] <;> with_reducible rfl) (fun bt177 => ?_) (fun bt177 => ?_)
                                ·
                                  have hv := hfv
                                  rw [if_pos (by simpa using bt177)] at hv
                                  refine awp_sel [7] (by simp only [jN, seval, vint, qM, k2t, decide_true, hkt, g7, g2] <;> with_reducible rfl) ?_
                                  repeat (refine awp_seq ?_)
                                  refine e_eval (by simp only [jA, jO, jN, seval, y9, vint, qM, k2t, decide_true, hkt, g7, g2, e1, e2, List.length_append, List.length_cons, List.length_nil, Nat.zero_add, Nat.reduceAdd] <;> with_reducible rfl) (by decide) ?_
                                  repeat (refine awp_seq ?_)
                                  refine awp_ret ⟨.inr rfl, _, rfl, ?_⟩
                                  simp only [jN, seval, vint, qM, hv]
                                  try rfl
                                  try simp [List.append_assoc]
                                ·
                                  have hv := hfv
                                  rw [if_neg (by simpa using bt177)] at hv
                                  repeat (refine awp_seq ?_)
                                  refine awp_skip ?_
                                  refine awp_sel [2, 3, 7, 10] (by simp only [jN, seval, vint, qM, k2t, decide_true, hkt, g7, g2] <;> with_reducible rfl) ?_
                                  repeat (refine awp_seq ?_)
                                  refine dp_draw (by kernel_rfl) ?_
                                  refine dp_take 10 (by simp only [jP, jO, jN, seval, y3, y9, y26, y27, y29, vint, qM, k2t, decide_true, hkt, g7, g2, w3, g3, g4, Int.toNat_natCast, e1, e3, e4, List.length_append, List.length_cons, List.length_nil, Nat.zero_add, Nat.reduceAdd] <;> with_reducible rfl) (by decide) ?_
                                  refine dp_keep (by simp only [jE, jN, seval, vint, qM, k2t, decide_true, hkt, g7, g2, w3, g3, g4, Int.toNat_natCast, e1, e3, e4, List.length_append, List.length_cons, List.length_nil, Nat.zero_add, Nat.reduceAdd] <;> with_reducible rfl) (by simp only [jE, jN, seval, vint, qM, k2t, decide_true, hkt, g7, g2, w3, g3, g4, Int.toNat_natCast, e1, e3, e4, List.length_append, List.length_cons, List.length_nil, Nat.zero_add, Nat.reduceAdd] <;> with_reducible rfl) (by simp only [jE, jN, seval, vint, qM, k2t, decide_true, hkt, g7, g2, w3, g3, g4, Int.toNat_natCast, e1, e3, e4, List.length_append, List.length_cons, List.length_nil, Nat.zero_add, Nat.reduceAdd]) (by decide) Trygo6 (fun hc => ihu _) ?_
                                  refine dp_end (by simp only [jP, jO, jN, seval, y9, vint, qM, k2t, decide_true, hkt, g7, g2, w3, g3, g4, Int.toNat_natCast, e1, e3, e4, List.length_append, List.length_cons, List.length_nil, Nat.zero_add, Nat.reduceAdd] <;> with_reducible rfl) (by decide) (by repeat (first | exact Fin.base _ | with_reducible apply Fin.keep | apply Fin.drop)) ?_
                                  repeat (refine awp_seq ?_)
                                  refine awp_ret ⟨.inr rfl, _, rfl, ?_⟩
                                  simp only [jN, seval, vint, qM, hv]
                                  try rfl
                                  try simp [List.append_assoc]

end Go.Abs
set_option maxRecDepth 4000
namespace Go.Abs
open Go.Proofs

def exRs : Rs := ⟨[⟨3, 0, 0, 0, [80, 97, 105, 114], false⟩], [], []⟩
def exTy : Ty := .mk 9 0 [.mk 8 1 [.mk 7 0 [.mk 3 0 [], .mk 1 3 []]], .mk 4 0 []]
theorem exFmt : fmtT exRs.syms exTy = [102, 110, 40, 38, 109, 117, 116, 32, 80, 97, 105, 114, 60, 105, 110, 116, 44, 32, 95, 62, 41, 32, 45, 62, 32, 98, 111, 111, 108] := by
  simp only [exTy, fmtT_eq, Ty.kind, Ty.id, Ty.args, List.map_cons, List.map_nil]
  decide
theorem exRs_L : ∀ s ∈ exRs.syms, s.name.length ≤ 1048576 := by simp [exRs]

theorem typ_c (k i : Int) (ts : List Ty) : PC Try.prog 7 [vint k, vint i, .slice (ts.map Ty.enc) .none] (Ty.mk k i ts).enc := by
  refine pc_of (N := 11) Try.func7 rfl rfl (by simp) (by simp [Ty.bel, Rs.bel, bel_slice_ty, Bel.int]) (Ty.bel _ _) ?_
  repeat (refine awp_seq ?_)
  refine e_eval (by simp only [jA, jO, jN, seval, y29, vint, qM] <;> with_reducible rfl) (by decide) ?_
  repeat (refine awp_seq ?_)
  refine e_eval (by simp only [jA, jO, jN, seval, y29, vint, qM] <;> with_reducible rfl) (by decide) ?_
  repeat (refine awp_seq ?_)
  refine awp_ret ⟨.inr rfl, _, (ares_cell 6 29 rfl Tryti29 (by decide) (by simp only [jL, jN, seval, vint, qM] <;> with_reducible rfl)), ?_⟩
  simp only [jN, seval, vint, qM]
  try exact Ty.enc_drop1 _
  try rfl

theorem intType_c : PC Try.prog 8 [] (Ty.mk 3 0 []).enc := by
  refine pc_of (N := 2) Try.func8 rfl rfl (by simp) (by simp [Ty.bel, Rs.bel, bel_slice_ty, Bel.int]) (Ty.bel _ _) ?_
  repeat (refine awp_seq ?_)
  refine e_eval (by simp only [jA, jO, jN, seval, y29, vint, qM] <;> with_reducible rfl) (by decide) ?_
  repeat (refine awp_seq ?_)
  refine awp_region ?_
  refine aops_pure (by simp only [jC, jN, seval, vint, qM] <;> with_reducible rfl) (by simp only [jC, jN, seval, vint, qM]) (by decide) Trygo7 (typ_c 3 0 [] _) ?_
  refine e_end (by simp only [jA, jO, jN, seval, y29, vint, qM] <;> with_reducible rfl) (by decide) ?_
  repeat (refine awp_seq ?_)
  refine awp_ret ⟨.inr rfl, _, (ares_cell 0 29 rfl Tryti29 (by decide) (by simp only [jL, jN, seval, vint, qM] <;> with_reducible rfl)), ?_⟩
  simp only [jN, seval, vint, qM]
  try exact Ty.enc_drop1 _
  try rfl

theorem typeVar_c (n : Int) : PC Try.prog 9 [vint n] (Ty.mk 1 n []).enc := by
  refine pc_of (N := 5) Try.func9 rfl rfl (by simp) (by simp [Ty.bel, Rs.bel, bel_slice_ty, Bel.int]) (Ty.bel _ _) ?_
  repeat (refine awp_seq ?_)
  refine e_eval (by simp only [jA, jO, jN, seval, y29, vint, qM] <;> with_reducible rfl) (by decide) ?_
  repeat (refine awp_seq ?_)
  refine awp_region ?_
  refine e_take 1 (by simp only [jA, jO, jN, seval, vint, qM] <;> with_reducible rfl) (by decide) ?_
  refine aops_pure (by simp only [jC, jN, seval, vint, qM] <;> with_reducible rfl) (by simp only [jC, jN, seval, vint, qM]) (by decide) Trygo7 (typ_c 1 n [] _) ?_
  refine e_end (by simp only [jA, jO, jN, seval, y29, vint, qM] <;> with_reducible rfl) (by decide) ?_
  repeat (refine awp_seq ?_)
  refine awp_ret ⟨.inr rfl, _, (ares_cell 2 29 rfl Tryti29 (by decide) (by simp only [jL, jN, seval, vint, qM] <;> with_reducible rfl)), ?_⟩
  simp only [jN, seval, vint, qM]
  try exact Ty.enc_drop1 _
  try rfl

theorem fmtWorks : PC Try.prog 4 [] (.bool true) := by
  have hf := fmt_k exRs exRs_L 20 exTy (by decide) (by decide)
  rw [exFmt] at hf
  have hf2 : PC Try.prog 5 [.agg [.slice [Sy.enc ⟨3, 0, 0, 0, [80, 97, 105, 114], false⟩] .none, .slice [] .none, .slice [] .none], (Ty.mk 9 0 [Ty.mk 8 1 [Ty.mk 7 0 [Ty.mk 3 0 [], Ty.mk 1 3 []]], Ty.mk 4 0 []]).enc] (.str [102, 110, 40, 38, 109, 117, 116, 32, 80, 97, 105, 114, 60, 105, 110, 116, 44, 32, 95, 62, 41, 32, 45, 62, 32, 98, 111, 111, 108]) := hf
  refine pc_of (N := 19) Try.func4 rfl rfl (by simp) (by simp [Ty.bel, Rs.bel, bel_slice_ty, Bel.int]) (.bool _) ?_
  repeat (refine awp_seq ?_)
  refine e_eval (by simp only [jA, jO, jN, seval, vint, qM] <;> with_reducible rfl) (by decide) ?_
  repeat (refine awp_seq ?_)
  refine e_eval (by simp only [jA, jO, jN, seval, y22, y26, y34, vint, qM] <;> with_reducible rfl) (by decide) ?_
  repeat (refine awp_seq ?_)
  refine awp_region ?_
  refine aops_pure (by simp only [jC, jN, seval, vint, qM] <;> with_reducible rfl) (by simp only [jC, jN, seval, vint, qM]) (by decide) Trygo8 (intType_c _) ?_
  refine aops_pure (by simp only [jC, jN, seval, vint, qM] <;> with_reducible rfl) (by simp only [jC, jN, seval, vint, qM]) (by decide) Trygo9 (typeVar_c 3 _) ?_
  refine e_take 1 (by simp only [jA, jO, jN, seval, y27, y29, vint, qM] <;> with_reducible rfl) (by decide) ?_
  refine aops_pure (by simp only [jC, jN, seval, vint, qM] <;> with_reducible rfl) (by simp only [jC, jN, seval, vint, qM]) (by decide) Trygo7 (typ_c 7 0 [.mk 3 0 [], .mk 1 3 []] _) ?_
  refine e_take 1 (by simp only [jA, jO, jN, seval, y27, y29, vint, qM] <;> with_reducible rfl) (by decide) ?_
  refine aops_pure (by simp only [jC, jN, seval, vint, qM] <;> with_reducible rfl) (by simp only [jC, jN, seval, vint, qM]) (by decide) Trygo7 (typ_c 8 1 [.mk 7 0 [.mk 3 0 [], .mk 1 3 []]] _) ?_
  refine aops_pure (by simp only [jC, jN, seval, vint, qM] <;> with_reducible rfl) (by simp only [jC, jN, seval, vint, qM]) (by decide) Trygo7 (typ_c 4 0 [] _) ?_
  refine e_take 1 (by simp only [jA, jO, jN, seval, y27, y29, vint, qM] <;> with_reducible rfl) (by decide) ?_
  refine aops_pure (by simp only [jC, jN, seval, vint, qM] <;> with_reducible rfl) (by simp only [jC, jN, seval, vint, qM]) (by decide) Trygo7 (typ_c 9 0 [.mk 8 1 [.mk 7 0 [.mk 3 0 [], .mk 1 3 []]], .mk 4 0 []] _) ?_
  refine e_end (by simp only [jA, jO, jN, seval, y29, vint, qM] <;> with_reducible rfl) (by decide) ?_
  refine awp_sel [1, 2] (by simp only [jN, seval, vint, qM] <;> with_reducible rfl) ?_
  repeat (refine awp_seq ?_)
  refine awp_region ?_
  refine e_take 2 (by simp only [jA, jO, jN, seval, y26, y29, vint, qM] <;> with_reducible rfl) (by decide) ?_
  refine aops_pure (by simp only [jC, jN, seval, vint, qM] <;> with_reducible rfl) (by simp only [jC, jN, seval, vint, qM]) (by decide) Trygo5 (hf2 _) ?_
  refine e_end (by simp only [jA, jO, jN, seval, y9, vint, qM] <;> with_reducible rfl) (by decide) ?_
  repeat (refine awp_seq ?_)
  refine awp_ret ⟨.inr rfl, _, rfl, ?_⟩
  simp only [jN, seval, vint, qM]
  try rfl

theorem law_format (r : Rs) (t : Ty) (hsl0 : r.syms.length ≤ 1048576) (hL : ∀ s ∈ r.syms, s.name.length ≤ 1048576) (ht : t.size ≤ 1048576) : PC Try.prog 3 [r.enc, t.enc] (.bool true) := by
  have hf := fmt_k r hL _ t (Nat.le_refl _) ht
  have hr := fmtR_k r hsl0 hL _ t (Nat.le_refl _) ht
  refine pc_of (N := 14) Try.func3 rfl rfl (by simp) (by simp [Ty.bel, Rs.bel, bel_slice_ty, Bel.int]) (.bool _) ?_
  repeat (refine awp_seq ?_)
  refine e_eval (by simp only [jA, jO, jN, seval, y26, y29, vint, qM, decide_true] <;> with_reducible rfl) (by decide) ?_
  repeat (refine awp_seq ?_)
  refine awp_region ?_
  refine aops_pure (by simp only [jC, jN, seval, vint, qM, decide_true] <;> with_reducible rfl) (by simp only [jC, jN, seval, vint, qM, decide_true]) (by decide) Trygo4 (fmtWorks _) ?_
  refine e_end (by simp only [jA, jO, jN, seval, vint, qM, decide_true] <;> with_reducible rfl) (by decide) ?_
  repeat (refine awp_seq ?_)
  refine awp_cond_false rfl (by simp only [jN, seval, vint, qM, decide_true] <;> with_reducible rfl) ?_
  repeat (refine awp_seq ?_)
  refine awp_skip ?_
  repeat (refine awp_seq ?_)
  refine dp_draw (by kernel_rfl) ?_
  refine dp_take 2 (by simp only [jP, jO, jN, seval, y26, y29, vint, qM, decide_true] <;> with_reducible rfl) (by decide) ?_
  refine dp_keep (by simp only [jE, jN, seval, vint, qM, decide_true] <;> with_reducible rfl) (by simp only [jE, jN, seval, vint, qM, decide_true] <;> with_reducible rfl) (by simp only [jE, jN, seval, vint, qM, decide_true]) (by decide) Trygo5 (fun hc => hf _) ?_
  refine dp_take 2 (by simp only [jP, jO, jN, seval, y26, y29, vint, qM, decide_true] <;> with_reducible rfl) (by decide) ?_
  refine dp_keep (by simp only [jE, jN, seval, vint, qM, decide_true] <;> with_reducible rfl) (by simp only [jE, jN, seval, vint, qM, decide_true] <;> with_reducible rfl) (by simp only [jE, jN, seval, vint, qM, decide_true]) (by decide) Trygo6 (fun hc => hr _) ?_
  refine dp_end (by simp only [jP, jO, jN, seval, y9, vint, qM, decide_true] <;> with_reducible rfl) (by decide) (by repeat (first | exact Fin.base _ | with_reducible apply Fin.keep | apply Fin.drop)) ?_
  repeat (refine awp_seq ?_)
  refine awp_ret ⟨.inr rfl, _, rfl, ?_⟩
  simp only [jN, seval, vint, qM]
  try rfl

end Go.Abs
namespace Go.Abs

/-! From a reading of the arguments to the trees, and back. -/

/-- A world as it is handed to a call: all that lies in it stays. -/
def env0 (W : World) : Env := { w := W, κ := fun _ => .fixed, ρ := fun _ => 0, tb := fun _ => none, H := [] }
theorem env0_ok (W : World) : (env0 W).Ok := by
  constructor
  · intro id cs h; simp [env0] at h
  · intro id n sz b h; simp [env0] at h
  · intro id id' cs cs' h; simp [env0] at h
  · intro id id' n sz n' sz' b h; simp [env0] at h
theorem env0_cell (W : World) (a : Addr) : (env0 W).view.cell a = W.cell? a := rfl

theorem calls_of_pc {P : Program} {f : FuncId} {args : List PV} {b : Bool} (h : PC P f args (.bool b)) (W : World) (vargs : Array Value) (hr : RL (env0 W).view vargs args) :
    Calls P f vargs W fun e w' => e = .returned (.bool b) ∧ Go.RowKit.Below W.heap.size W w' := by
  refine (h [] (env0 W) vargs (env0_ok W) rfl hr).mono ?_
  rintro e w' ⟨E', v, r, rfl, rfl, hle, hok, hv, rfl, _⟩
  refine ⟨by rw [hv.bool_inv], hle.os, hle.tape, hle.output, hle.size, fun k hk => (hle.other k hk ?_ ?_).2⟩
  · rintro ⟨id, cs, h, _⟩; simp [env0] at h
  · rintro ⟨id, n, sz, h, _⟩; simp [env0] at h

def RLl (V : View) (cs : List Value) (ps : List PV) : Prop := cs.length = ps.length ∧ ∀ i (h : i < ps.length), VRel V (cs.getD i undef) ps[i]

theorem RLl.nil {V : View} : RLl V [] [] := ⟨rfl, fun i h => by cases h⟩
theorem RLl.cons {V : View} {c : Value} {cs : List Value} {p : PV} {ps : List PV} (h : VRel V c p) (hs : RLl V cs ps) : RLl V (c :: cs) (p :: ps) := by
  refine ⟨by simp [hs.1], fun i hi => ?_⟩
  cases i with
  | zero => exact h
  | succ i => exact hs.2 i (by simpa using hi)
theorem RLl.app {V : View} {c1 c2 : List Value} {p1 p2 : List PV} (h1 : RLl V c1 p1) (h2 : RLl V c2 p2) : RLl V (c1 ++ c2) (p1 ++ p2) := by
  refine ⟨by simp [h1.1, h2.1], fun i hi => ?_⟩
  by_cases h : i < p1.length
  · have := h1.2 i h
    simp only [List.getD_eq_getElem?_getD] at this ⊢
    rw [List.getElem?_append_left (by rw [h1.1]; exact h), List.getElem_append_left h]; exact this
  · have := h2.2 (i - p1.length) (by simp at hi; omega)
    simp only [List.getD_eq_getElem?_getD] at this ⊢
    rw [List.getElem?_append_right (by rw [h1.1]; omega), List.getElem_append_right (by omega), h1.1]; exact this
theorem RLl.agg {V : View} {arr : Array Value} {ps : List PV} (h : RLl V arr.toList ps) : VRel V (.agg arr) (.agg ps) := by
  refine .agg _ _ (by have := h.1; simpa using this) fun i hi => ?_
  have := h.2 i hi
  rw [List.getD_eq_getElem?_getD, Array.getElem?_toList] at this
  rw [Array.getD_eq_getD_getElem?]; exact this
theorem RLl.one {V : View} {v : Value} {p : PV} (h : RLl V [v] [p]) : VRel V v p := h.2 0 (by simp)

theorem exists_list {α : Type} {n : Nat} {p : Nat → α → Prop} (h : ∀ i, i < n → ∃ a, p i a) : ∃ xs : List α, xs.length = n ∧ ∀ i (hi : i < xs.length), p i xs[i] := by
  induction n with
  | zero => exact ⟨[], rfl, fun i hi => by cases hi⟩
  | succ n ih =>
    obtain ⟨xs, h1, h2⟩ := ih fun i hi => h i (by omega)
    obtain ⟨a, ha⟩ := h n (by omega)
    refine ⟨xs ++ [a], by simp [h1], fun i hi => ?_⟩
    by_cases hlt : i < xs.length
    · rw [List.getElem_append_left hlt]; exact h2 i hlt
    · rw [List.getElem_append_right (by omega)]
      simp at hi
      obtain rfl : i = n := by omega
      simpa using ha

/-- A list and the data of a slice. -/
def SlD {α : Type} {H : Type} (D : α → DataW H → Prop) (xs : List α) (d : DataW H) : Prop :=
  (xs = [] ∧ d = .nil) ∨ ∃ els sp, d = .slice els sp ∧ xs.length = els.length ∧ ∀ i (h1 : i < xs.length) (h2 : i < els.length), D xs[i] els[i]

section
variable {H : Type} {enc : TypeId × Value → H} {P : Program} {W : World} {spare : Nat → Bool} {held : Bool}

theorem rd_slice {α : Type} (en : α → PV) (D : α → DataW H → Prop) {t e : TypeId} {fuel : Nat} {cs : List Value} {x : DataW H × List MemPlace} (ht : P.underlying t = some (.slice e)) (hsz : ∀ a, (en a).cells.length = P.cellsOf e)
    (h : DataW.trod enc P W 0 spare held fuel t cs = some x) (ih : ∀ n cs' x', n < fuel → DataW.trod enc P W 0 spare held n e cs' = some x' → ∃ a, RLl (env0 W).view cs' (en a).cells ∧ D a x'.1) :
    ∃ (xs : List α) (v : Value), cs = [v] ∧ VRel (env0 W).view v (.slice (xs.map en) .none) ∧ SlD D xs x.1 := by
  rcases DataW.trod_slice ht h with ⟨rfl, rfl⟩ | ⟨a, len, cap, elems, rest, n, rfl, rfl, rfl, hb, hl, hm, hlen, hel, _, _⟩
  · exact ⟨[], _, rfl, .nils .none trivial, .inl ⟨rfl, rfl⟩⟩
  · obtain ⟨ys, hys, hp⟩ := exists_list (α := α × List Value) (n := len) (p := fun i y => W.cells? 0 (a.add (i * P.cellsOf e)) (P.cellsOf e) = some y.2 ∧ RLl (env0 W).view y.2 (en y.1).cells ∧ ∀ h : i < elems.length, D y.1 elems[i].1) (fun i hi => by
      have := hel i hi
      rw [List.getElem?_eq_getElem (by omega)] at this
      obtain ⟨cs', h1, h2⟩ := Option.bind_eq_some_iff.1 this
      obtain ⟨y, h3, h4⟩ := ih n cs' _ (by omega) h2
      exact ⟨(y, cs'), h1, h3, fun _ => h4⟩)
    refine ⟨ys.map (·.1), _, rfl, ?_, .inr ⟨_, _, rfl, by simp [hys, hlen], fun i h1 h2 => ?_⟩⟩
    · have hget : ∀ i (hi : i < ys.length), ys[i]? = some ys[i] := fun i hi => List.getElem?_eq_getElem hi
      refine .slice a len cap (P.cellsOf e) _ .none (fun i j => match ys[i]? with | some y => y.2.getD j undef | none => undef) (by simp [hys]) hl hm ?_ ?_ ?_ trivial
      · intro i hi; simp only [List.getElem_map]; exact hsz _
      · intro i j hi hj
        have hi' : i < ys.length := by omega
        obtain ⟨h1, h2, _⟩ := hp i hi'
        obtain ⟨_, h4, h5⟩ := World.cells?_some h1
        have := h5 j hj
        rw [hget i hi']
        simp only
        rw [env0_cell, ← add_add, this, List.getD_eq_getElem?_getD, List.getElem?_eq_getElem (by omega)]; rfl
      · intro i j hi hj
        have hi' : i < ys.length := by simpa using hi
        simp only [List.getElem_map] at hj ⊢
        rw [hget i hi']
        exact (hp i hi').2.1.2 j hj
    · simp only [List.getElem_map]
      exact (hp i (by simpa using h1)).2.2 _

/-- The field of a structure. -/
theorem rd_fields {t : TypeId} {fs : Array Field} {fuel : Nat} {cs : List Value} {x : DataW H × List MemPlace} (ht : P.underlying t = some (.struct fs)) (h : DataW.trod enc P W 0 spare held fuel t cs = some x) :
    ∃ (ds : List (DataW H)) (n : Nat), fuel = n + 1 ∧ x.1 = .agg ds ∧ cs.length = P.cellsOf t ∧ ds.length = fs.size ∧ ∀ (i : Nat) (f : Field), fs[i]? = some f → ∃ d ps, ds[i]? = some d ∧ DataW.trod enc P W 0 spare held n f.type ((cs.drop f.offset).take (P.cellsOf f.type)) = some (d, ps) := by
  obtain ⟨xs, n, h1, rfl, h3, h4, h5⟩ := DataW.trod_struct ht h
  refine ⟨xs.map (·.1), n, h1, rfl, h3, by simpa using h4, fun i f hf => ?_⟩
  have hi : i < xs.length := by
    rw [h4]
    rcases Nat.lt_or_ge i fs.size with hl | hl
    · exact hl
    · rw [Array.getElem?_eq_none hl] at hf; cases hf
  have := h5 i f hf
  rw [List.getElem?_eq_getElem hi] at this
  exact ⟨xs[i].1, xs[i].2, by simp [hi], this⟩

theorem rd_int {t : TypeId} {k : IntKind} {fuel : Nat} {cs : List Value} {x : DataW H × List MemPlace} (ht : P.underlying t = some (.int k)) (h : DataW.trod enc P W 0 spare held fuel t cs = some x) : ∃ n, RLl (env0 W).view cs [.int k n] ∧ x.1 = .lit (.int k n) ∧ (Lit.int k n).wf = true ∧ cs = [.int k n] := by
  obtain ⟨n, rfl, rfl, h3⟩ := DataW.trod_int ht h
  exact ⟨n, .cons (.int _ _) .nil, rfl, h3, rfl⟩
theorem rd_bool {t : TypeId} {fuel : Nat} {cs : List Value} {x : DataW H × List MemPlace} (ht : P.underlying t = some .bool) (h : DataW.trod enc P W 0 spare held fuel t cs = some x) : ∃ b, RLl (env0 W).view cs [.bool b] ∧ x.1 = .lit (.bool b) := by
  obtain ⟨n, rfl, rfl⟩ := DataW.trod_bool ht h
  exact ⟨n, .cons (.bool _) .nil, rfl⟩
theorem rd_string {t : TypeId} {fuel : Nat} {cs : List Value} {x : DataW H × List MemPlace} (ht : P.underlying t = some .string) (h : DataW.trod enc P W 0 spare held fuel t cs = some x) : ∃ s : List UInt8, RLl (env0 W).view cs [.str s] ∧ x.1 = .lit (.string s) ∧ s.length ≤ maxLen := by
  obtain ⟨s, rfl, rfl, h3⟩ := DataW.trod_string ht h
  exact ⟨s.data.toList, .cons (.str _) .nil, rfl, by simpa using h3⟩
end

/-- The data of a type. -/
inductive TyD {H : Type} : Ty → DataW H → Prop
  | nil (k i : Int) : TyD (.mk k i []) (.agg [.lit (.int .i64 k), .lit (.int .i64 i), .nil])
  | slice (k i : Int) (xs : List Ty) (es sp : List (DataW H)) (hl : xs.length = es.length) (h : ∀ j (h1 : j < xs.length) (h2 : j < es.length), TyD xs[j] es[j]) : TyD (.mk k i xs) (.agg [.lit (.int .i64 k), .lit (.int .i64 i), .slice es sp])
theorem TyD.of {H : Type} {k i : Int} {xs : List Ty} {d : DataW H} (h : SlD TyD xs d) : TyD (.mk k i xs) (.agg [.lit (.int .i64 k), .lit (.int .i64 i), d]) := by
  rcases h with ⟨rfl, rfl⟩ | ⟨es, sp, rfl, h1, h2⟩
  · exact .nil k i
  · exact .slice k i xs es sp h1 h2

/-- The facts on a program's type 'api.Type' that a reading looks at. -/
structure TyAt (P : Program) (T S : TypeId) : Prop where
  st : ∃ f0 f1 f2 : Field, P.underlying T = some (.struct #[f0, f1, f2]) ∧ P.underlying f0.type = some (.int .i64) ∧ P.underlying f1.type = some (.int .i64) ∧ f2.type = S ∧ f0.offset = 0 ∧ f1.offset = 1 ∧ f2.offset = 2 ∧ P.cellsOf f0.type = 1 ∧ P.cellsOf f1.type = 1
  sl : P.underlying S = some (.slice T)
  c : P.cellsOf T = 3
  cs : P.cellsOf S = 1
  by40 : P.bytesOf T = 40

section
variable {H : Type} {enc : TypeId × Value → H} {P : Program} {W : World} {spare : Nat → Bool} {held : Bool} {T S : TypeId}

theorem rd_ty (F : TyAt P T S) : ∀ (fuel : Nat) (cs : List Value) (x : DataW H × List MemPlace), DataW.trod enc P W 0 spare held fuel T cs = some x → ∃ t : Ty, RLl (env0 W).view cs t.enc.cells ∧ TyD t x.1 := by
  intro fuel
  induction fuel using Nat.strongRecOn with
  | _ fuel ih =>
  intro cs x h
  obtain ⟨f0, f1, f2, hst, u0, u1, e2, o0, o1, o2, c0, c1⟩ := F.st
  obtain ⟨ds, n, rfl, hx, hlen, hdl, hf⟩ := rd_fields hst h
  rw [F.c] at hlen
  match cs, hlen with
  | [v0, v1, v2], _ =>
  obtain ⟨d0, p0, g0, r0⟩ := hf 0 f0 rfl
  obtain ⟨d1, p1, g1, r1⟩ := hf 1 f1 rfl
  obtain ⟨d2, p2, g2, r2⟩ := hf 2 f2 rfl
  rw [o0, c0] at r0
  rw [o1, c1] at r1
  rw [o2, e2, F.cs] at r2
  obtain ⟨k, q0, rfl, w0, _⟩ := rd_int u0 r0
  obtain ⟨i, q1, rfl, w1, _⟩ := rd_int u1 r1
  obtain ⟨xs, v, hv, hr, hd⟩ := rd_slice Ty.enc TyD F.sl (fun a => by rw [F.c, Ty.enc_len]) r2 (fun m cs' x' hm h' => ih m (by omega) cs' x' h')
  simp only [List.drop_succ_cons, List.drop_zero, List.take_succ_cons, List.take_zero, List.cons.injEq, and_true] at hv
  subst hv
  refine ⟨.mk k i xs, ?_, ?_⟩
  · rw [Ty.enc_cells]
    exact .cons q0.one (.cons q1.one (.cons hr .nil))
  · rw [hx]
    have : ds = [.lit (.int .i64 k), .lit (.int .i64 i), d2] := by
      match ds, hdl with
      | [a, b, c], _ =>
        simp at g0 g1 g2
        rw [g0, g1, g2]
    rw [this]
    exact .of hd

/-- No list of arguments is longer than the row's own bound bears. -/
theorem ty_weights (F : TyAt P T S) {t : Ty} {d : DataW H} (h : TyD t d) (hw : (d.weights P T).all (· ≤ reachBytes) = true) : t.W := by
  obtain ⟨f0, f1, f2, hst, u0, u1, e2, _⟩ := F.st
  induction h with
  | nil k i => exact .mk (by simp) (by simp)
  | slice k i xs es sp hl h ih =>
    simp only [DataW.weights, hst, DataW.weightsEach, List.map_cons, List.map_nil, e2, F.sl, F.by40, List.nil_append, List.append_nil, List.all_cons, List.all_append, Bool.and_eq_true, decide_eq_true_eq] at hw
    have hb : reachBytes = 140737488351232 := rfl
    refine .mk (by rw [hl]; have := hw.1; omega) fun u hu => ?_
    obtain ⟨j, hj, rfl⟩ := List.mem_iff_getElem.1 hu
    refine ih j hj (by omega) ?_
    have h2 := hw.2.1
    rw [List.all_eq_true] at h2 ⊢
    intro x hx
    refine h2 x ?_
    have hmem : ∀ (l : List (DataW H)) (e : DataW H), e ∈ l → x ∈ e.weights P T → x ∈ DataW.weightsAll P T l := by
      intro l
      induction l with
      | nil => intro e he; cases he
      | cons a l ihl =>
        intro e he hx
        simp only [DataW.weightsAll, List.mem_append]
        rcases List.mem_cons.1 he with rfl | he
        · exact .inl hx
        · exact .inr (ihl e he hx)
    exact hmem es _ (List.getElem_mem _) hx

theorem weights_mem {l : List (DataW H)} {e : TypeId} {d : DataW H} (hd : d ∈ l) (h : (DataW.weightsAll P e l).all (· ≤ reachBytes) = true) : (d.weights P e).all (· ≤ reachBytes) = true := by
  rw [List.all_eq_true] at h ⊢
  intro x hx
  refine h x ?_
  clear h
  induction l with
  | nil => cases hd
  | cons a l ih =>
    simp only [DataW.weightsAll, List.mem_append]
    rcases List.mem_cons.1 hd with rfl | hd
    · exact .inl hx
    · exact .inr (ih hd)

/-- A slice's elements and its length. -/
theorem sl_weights {α : Type} {D : α → DataW H → Prop} {Sl E : TypeId} (hs : P.underlying Sl = some (.slice E)) {xs : List α} {d : DataW H} (h : SlD D xs d) (hw : (d.weights P Sl).all (· ≤ reachBytes) = true) :
    xs.length * P.bytesOf E ≤ reachBytes ∧ ∀ a ∈ xs, ∃ d', D a d' ∧ (d'.weights P E).all (· ≤ reachBytes) = true := by
  rcases h with ⟨rfl, rfl⟩ | ⟨els, sp, rfl, h1, h2⟩
  · simp
  · simp only [DataW.weights, hs, List.all_cons, List.all_append, Bool.and_eq_true, decide_eq_true_eq] at hw
    refine ⟨?_, fun a ha => ?_⟩
    · rw [h1]
      refine Nat.le_trans (Nat.mul_le_mul_right _ (Nat.le_add_right _ _)) hw.1
    · obtain ⟨j, hj, rfl⟩ := List.mem_iff_getElem.1 ha
      exact ⟨_, h2 j hj (by omega), weights_mem (List.getElem_mem _) hw.2.1⟩
end
end Go.Abs
namespace Go.Abs
theorem RLl.rl {V : View} {arr : Array Value} {ps : List PV} (h : RLl V arr.toList ps) : RL V arr ps := by
  refine ⟨by have := h.1; simpa using this, fun i hi => ?_⟩
  have := h.2 i hi
  rw [List.getD_eq_getElem?_getD, Array.getElem?_toList] at this
  rw [Array.getD_eq_getD_getElem?]; exact this
theorem Ty.enc_agg (t : Ty) : PV.agg t.enc.cells = t.enc := by rw [Ty.enc_cells, Ty.enc_eq]
end Go.Abs
namespace Go.Proofs.Ytgbbhabddjejcaa.bulks
theorem one_le {H : Type} (d : DataW H) : 1 ≤ Rows.uptoBulk d := by
  cases d with
  | lit l => cases l <;> simp [Rows.uptoBulk]
  | nil => simp [Rows.uptoBulk]
  | ptr d => simp [Rows.uptoBulk]
  | slice elems spare => simp [Rows.uptoBulk]
  | agg parts => simp [Rows.uptoBulk]
  | iface t d => simp [Rows.uptoBulk]
  | map entries => simp [Rows.uptoBulk]
  | held h => simp [Rows.uptoBulk]
theorem length_le {H : Type} (l : List (DataW H)) : l.length ≤ Rows.uptoBulkAll l := by
  induction l with
  | nil => simp [Rows.uptoBulkAll]
  | cons x r ih => have := one_le x; simp only [Rows.uptoBulkAll, List.length_cons]; omega
theorem mem_le {H : Type} {l : List (DataW H)} {d : DataW H} (h : d ∈ l) : Rows.uptoBulk d ≤ Rows.uptoBulkAll l := by
  induction l with
  | nil => cases h
  | cons x r ih =>
    simp only [Rows.uptoBulkAll]
    rcases List.mem_cons.1 h with rfl | h
    · omega
    · have := ih h; omega
theorem sl_len {α H : Type} {D : α → DataW H → Prop} {xs : List α} {d : DataW H} (h : Go.Abs.SlD D xs d) : xs.length + 1 ≤ Rows.uptoBulk d := by
  rcases h with ⟨rfl, rfl⟩ | ⟨els, sp, rfl, h1, _⟩
  · simp [Rows.uptoBulk]
  · have := length_le els
    simp only [Rows.uptoBulk]; omega
/-- A sum over a slice's elements. -/
theorem sl_sum {α H : Type} {D : α → DataW H → Prop} {xs : List α} {d : DataW H} (h : Go.Abs.SlD D xs d) (sz : α → Nat) (hs : ∀ a d, D a d → sz a ≤ Rows.uptoBulk d) : (xs.map sz).sum + 1 ≤ Rows.uptoBulk d := by
  rcases h with ⟨rfl, rfl⟩ | ⟨els, sp, rfl, h1, h2⟩
  · simp [Rows.uptoBulk]
  · have key : ∀ (xs : List α) (els : List (DataW H)), xs.length = els.length → (∀ i (h1 : i < xs.length) (h2 : i < els.length), D xs[i] els[i]) → (xs.map sz).sum ≤ Rows.uptoBulkAll els := by
      intro xs
      induction xs with
      | nil => intro els _ _; simp
      | cons x xs ih =>
        intro els h1 h2
        match els, h1 with
        | e :: els, h1 =>
          have := hs x e (h2 0 (by simp) (by simp))
          have := ih els (by simpa using h1) (fun i h3 h4 => h2 (i + 1) (by simpa using h3) (by simpa using h4))
          simp only [List.map_cons, List.sum_cons, Rows.uptoBulkAll]; omega
    have := key xs els h1 h2
    simp only [Rows.uptoBulk]; omega
theorem bound {H : Type} {l : List (DataW H)} (hk : Rows.uptoSmall H l = true) : Rows.uptoBulkAll l ≤ 1048576 := of_decide_eq_true hk
end Go.Proofs.Ytgbbhabddjejcaa.bulks
namespace Go.Proofs.Ytgbbhabddjejcaa.bulks
open Go.Abs
theorem ty_sizes {H : Type} : ∀ (xs : List Ty) (es : List (DataW H)), xs.length = es.length → (∀ j (h1 : j < xs.length) (h2 : j < es.length), xs[j].size ≤ Rows.uptoBulk es[j]) → Ty.sizes xs ≤ Rows.uptoBulkAll es
  | [], es, _, _ => by simp [Ty.sizes]
  | x :: xs, [], h, _ => by cases h
  | x :: xs, e :: es, h, hs => by
    have h1 := hs 0 (by simp) (by simp)
    have h2 := ty_sizes xs es (by simpa using h) fun j a b => hs (j + 1) (by simpa using a) (by simpa using b)
    simp only [List.getElem_cons_zero] at h1
    simp only [Ty.sizes, Rows.uptoBulkAll]; omega
theorem ty_size {H : Type} {t : Ty} {d : DataW H} (h : TyD t d) : t.size ≤ Rows.uptoBulk d := by
  induction h with
  | nil k i => simp [Ty.size, Ty.sizes, Rows.uptoBulk, Rows.uptoBulkAll]
  | slice k i xs es sp hl h ih =>
    have := ty_sizes xs es hl ih
    simp only [Ty.size, Rows.uptoBulk, Rows.uptoBulkAll]
    omega
end Go.Proofs.Ytgbbhabddjejcaa.bulks
namespace Go.Abs
/-! The plain laws of chapter 'scheme'. -/
def mapT (g : Ty → Ty × Bool) : Ty → Ty
  | .mk k i us => if (g (.mk k i us)).2 then (g (.mk k i us)).1 else .mk k i (us.map fun u => mapT g u)
theorem mapT_eq (g : Ty → Ty × Bool) (t : Ty) : mapT g t = if (g t).2 then (g t).1 else .mk t.kind t.id (t.args.map (mapT g)) := by
  cases t; rw [mapT]; rfl
/-- What Apply's function value answers. -/
def appG (ps : List Int) (xs : List Ty) (u : Ty) : Ty × Bool :=
  if (!decide (u.kind = 2) || decide (idxI (fun x => decide (u.id = x)) ps < 0) || decide (idxI (fun x => decide (u.id = x)) ps ≥ xs.length)) = true then (u, false) else (xs.getD (idxI (fun x => decide (u.id = x)) ps).toNat (.mk 0 0 []), true)
def insG (ps : List Int) (v : Int) (u : Ty) : Ty × Bool :=
  if (!decide (u.kind = 2) || decide (idxI (fun x => decide (u.id = x)) ps < 0)) = true then (u, false) else (.mk 1 (IntKind.i64.wrap (v + idxI (fun x => decide (u.id = x)) ps)) [], true)
def cpar (p : Int) : Ty → Bool
  | .mk k i xs => (decide (k = 2) && decide (i = p)) || (xs.map fun a => cpar p a).any id
theorem cpar_eq (p : Int) (t : Ty) : cpar p t = ((decide (t.kind = 2) && decide (t.id = p)) || t.args.any (cpar p)) := by
  cases t; rw [cpar, List.any_map]; rfl
def mS0 (ps : List Int) : MSt := (List.replicate ps.length (.mk 0 0 []), List.replicate ps.length false)
theorem mS0_ok (ps : List Int) : MOk ps.length (mS0 ps) := ⟨by simp [mS0], by simp [mS0], fun a ha => by rw [List.eq_of_mem_replicate ha]; exact .mk (by simp) (by simp)⟩
/-- What Match answers. -/
def matchP (ps : List Int) (t p : Ty) : List Ty × Bool := if (matchT ps t p (mS0 ps)).1 = true then ((matchT ps t p (mS0 ps)).2.1, true) else ([], false)

theorem idxI_neg {ps : List Int} {n : Int} (h : n ∉ ps) : idxI (fun x => decide (n = x)) ps = -1 :=
  idxI_none (by rw [List.any_eq_false]; intro x hx; simp; rintro rfl; exact h hx)
theorem abs_map (ps : List Int) (g : Ty → Ty × Bool) (hg : ∀ u, ¬ (u.kind = 2 ∧ u.id ∈ ps) → (g u).2 = false) : ∀ t, (∀ p ∈ ps, cpar p t = false) → mapT g t = t
  | .mk k i us, h => by
    have h0 : ¬ (k = 2 ∧ i ∈ ps) := by
      rintro ⟨rfl, hi⟩
      have := h i hi
      rw [cpar_eq] at this
      simp [Ty.kind, Ty.id] at this
    rw [mapT, if_neg (by rw [hg (.mk k i us) h0]; simp)]
    congr 1
    have : ∀ u ∈ us, mapT g u = u := fun u hu => abs_map ps g hg u fun p hp => by
      have := h p hp
      rw [cpar_eq, Bool.or_eq_false_iff, List.any_eq_false] at this
      simpa using this.2 u hu
    rw [List.map_congr_left this, List.map_id'']
    intro x; rfl
theorem app_abs (ps : List Int) (xs : List Ty) (t : Ty) (h : (ps.any fun p => cpar p t) = false) : mapT (appG ps xs) t = t :=
  abs_map ps _ (fun u hu => by
    unfold appG
    rw [if_pos]
    by_cases hk : u.kind = 2
    · rw [idxI_neg fun hi => hu ⟨hk, hi⟩]; simp
    · simp [hk]) t (fun p hp => by rw [List.any_eq_false] at h; simpa using h p hp)
theorem ins_abs (ps : List Int) (v : Int) (t : Ty) (h : (ps.any fun p => cpar p t) = false) : mapT (insG ps v) t = t :=
  abs_map ps _ (fun u hu => by
    unfold insG
    rw [if_pos]
    by_cases hk : u.kind = 2
    · rw [idxI_neg fun hi => hu ⟨hk, hi⟩]; simp
    · simp [hk]) t (fun p hp => by rw [List.any_eq_false] at h; simpa using h p hp)

/-- The bound places of a state are those of a list. -/
def Agr (s : MSt) (xs : List Ty) : Prop := ∀ i, s.2.getD i false = true → xs.getD i .zero = s.1.getD i .zero

theorem getD_set {α : Type} (l : List α) (i j : Nat) (a d : α) (hi : i < l.length) : (l.set i a).getD j d = if j = i then a else l.getD j d := by
  simp only [List.getD_eq_getElem?_getD]
  by_cases h : j = i
  · subst h; rw [if_pos rfl, List.getElem?_set_self hi]; rfl
  · rw [if_neg h, List.getElem?_set_ne (Ne.symm h)]

/-- One state after another. -/
def MLe (s s' : MSt) : Prop := ∀ i, s.2.getD i false = true → s'.2.getD i false = true ∧ s'.1.getD i .zero = s.1.getD i .zero
theorem MLe.refl (s : MSt) : MLe s s := fun i h => ⟨h, rfl⟩
theorem MLe.trans {a b c : MSt} (h : MLe a b) (k : MLe b c) : MLe a c := fun i hi => ⟨(k i (h i hi).1).1, (k i (h i hi).1).2.trans (h i hi).2⟩
theorem Agr.mono {s s' : MSt} {xs : List Ty} (h : MLe s s') (k : Agr s' xs) : Agr s xs := fun i hi => (k i (h i hi).1).trans (h i hi).2

theorem matchL_le : ∀ (l : List (Ty × (Ty → MSt → Bool × MSt))) (s : MSt) {n : Nat}, MOk n s → (∀ x ∈ l, ∀ s, MOk n s → MOk n (x.2 x.1 s).2 ∧ MLe s (x.2 x.1 s).2) → MLe s (matchL l s).2
  | [], s, n, _, _ => .refl _
  | (a, f) :: r, s, n, hs, hl => by
    have h1 := hl _ (List.mem_cons_self ..) s hs
    unfold matchL
    split
    · exact h1.2.trans (matchL_le r _ h1.1 fun x hx => hl x (List.mem_cons_of_mem _ hx))
    · exact h1.2

theorem matchT_le (ps : List Int) : ∀ (p t : Ty) (s : MSt), t.W → MOk ps.length s → MLe s (matchT ps t p s).2
  | .mk pk pi us, t, s, hw, hs => by
    rw [matchT]
    split
    · rename_i hc
      rw [Bool.and_eq_true, decide_eq_true_eq, decide_eq_true_eq] at hc
      have hlt := idxI_lt hc.2
      have hk : (idxI (fun x => decide (pi = x)) ps).toNat < ps.length := by omega
      split
      · exact .refl _
      · rename_i hb
        intro i hi
        simp only [getD_set _ _ _ _ _ (show (idxI (fun x => decide (pi = x)) ps).toNat < s.1.length by rw [hs.l1]; exact hk), getD_set _ _ _ _ _ (show (idxI (fun x => decide (pi = x)) ps).toNat < s.2.length by rw [hs.l2]; exact hk)]
        have hne : i ≠ (idxI (fun x => decide (pi = x)) ps).toNat := by rintro rfl; exact hb hi
        rw [if_neg hne, if_neg hne]
        exact ⟨hi, rfl⟩
    · split
      · exact .refl _
      · refine matchL_le _ _ hs ?_
        rintro ⟨a, f⟩ hx s hs
        have hx1 := List.of_mem_zip hx
        obtain ⟨u, hu, rfl⟩ := List.mem_map.1 hx1.2
        exact ⟨matchT_ok ps u a s (hw.arg hx1.1) hs, matchT_le ps u a s (hw.arg hx1.1) hs⟩

/-- What a list of arguments that agrees with the state makes of the pattern. -/
theorem matchL_apply (ps : List Int) (xs : List Ty) (hn : xs.length = ps.length) : ∀ (ts us : List Ty) (s : MSt), ts.length = us.length → MOk ps.length s → (∀ t ∈ ts, t.W) →
    (∀ u ∈ us, ∀ (t : Ty) (s : MSt), t.W → MOk ps.length s → (matchT ps t u s).1 = true → Agr (matchT ps t u s).2 xs → mapT (appG ps xs) u = t) →
    (matchL (ts.zip (us.map fun u => fun a s => matchT ps a u s)) s).1 = true → Agr (matchL (ts.zip (us.map fun u => fun a s => matchT ps a u s)) s).2 xs → us.map (mapT (appG ps xs)) = ts
  | [], [], s, _, _, _, _, _, _ => rfl
  | t :: ts, u :: us, s, hl, hs, hw, ih, h1, h2 => by
    simp only [List.map_cons, List.zip_cons_cons, matchL] at h1 h2
    split at h1
    · rename_i hm
      rw [if_pos hm] at h2
      have hw1 := hw t (List.mem_cons_self ..)
      have hok := matchT_ok ps u t s hw1 hs
      have hle : MLe (matchT ps t u s).2 (matchL (ts.zip (us.map fun u => fun a s => matchT ps a u s)) (matchT ps t u s).2).2 := by
        refine matchL_le _ _ hok ?_
        rintro ⟨a, f⟩ hx s hs
        have hx1 := List.of_mem_zip hx
        obtain ⟨u, hu, rfl⟩ := List.mem_map.1 hx1.2
        have hwa := hw a (List.mem_cons_of_mem _ hx1.1)
        exact ⟨matchT_ok ps u a s hwa hs, matchT_le ps u a s hwa hs⟩
      rw [List.map_cons, ih u (List.mem_cons_self ..) t s hw1 hs hm (h2.mono hle),
        matchL_apply ps xs hn ts us _ (by simpa using hl) hok (fun t ht => hw t (List.mem_cons_of_mem _ ht)) (fun u hu => ih u (List.mem_cons_of_mem _ hu)) h1 h2]
    · cases h1

theorem matchT_apply (ps : List Int) (xs : List Ty) (hn : xs.length = ps.length) : ∀ (p t : Ty) (s : MSt), t.W → MOk ps.length s → (matchT ps t p s).1 = true → Agr (matchT ps t p s).2 xs → mapT (appG ps xs) p = t
  | .mk pk pi us, t, s, hw, hs, h1, h2 => by
    rw [matchT] at h1 h2
    rw [mapT]
    by_cases hc : (decide (pk = 2) && decide (idxI (fun x => decide (pi = x)) ps ≥ 0)) = true
    · rw [if_pos hc] at h1 h2
      rw [Bool.and_eq_true, decide_eq_true_eq, decide_eq_true_eq] at hc
      have hlt := idxI_lt hc.2
      have hk : (idxI (fun x => decide (pi = x)) ps).toNat < ps.length := by omega
      have hg : appG ps xs (.mk pk pi us) = (xs.getD (idxI (fun x => decide (pi = x)) ps).toNat .zero, true) := by
        unfold appG
        rw [if_neg]
        · rfl
        · intro hh
          rw [Bool.or_eq_true, Bool.or_eq_true] at hh
          rcases hh with (hh | hh) | hh
          · simp [Ty.kind, hc.1] at hh
          · have : idxI (fun x => decide (pi = x)) ps < 0 := of_decide_eq_true hh
            omega
          · have : idxI (fun x => decide (pi = x)) ps ≥ xs.length := of_decide_eq_true hh
            omega
      rw [hg, if_pos rfl]
      split at h1
      · rename_i hb
        rw [if_pos hb] at h2
        rw [h2 _ hb]
        exact (Ty.eqb_iff _ _).1 h1
      · rename_i hb
        rw [if_neg hb] at h2
        have := h2 (idxI (fun x => decide (pi = x)) ps).toNat (by rw [getD_set _ _ _ _ _ (by rw [hs.l2]; exact hk), if_pos rfl])
        rw [this, getD_set _ _ _ _ _ (by rw [hs.l1]; exact hk), if_pos rfl]
    · rw [if_neg hc] at h1 h2
      have hg : (appG ps xs (.mk pk pi us)).2 = false := by
        unfold appG
        rw [if_pos]
        simp only [Ty.kind, Ty.id]
        rw [Bool.or_eq_true, Bool.or_eq_true]
        by_cases hk : pk = 2
        · exact .inl (.inr (decide_eq_true (Int.not_le.1 fun q => hc (by rw [Bool.and_eq_true, decide_eq_true_eq, decide_eq_true_eq]; exact ⟨hk, q⟩))))
        · exact .inl (.inl (by simp [hk]))
      rw [hg, if_neg (by simp)]
      split at h1
      · cases h1
      · rename_i hd
        rw [if_neg hd] at h2
        simp at hd
        obtain ⟨⟨e1, e2⟩, e3⟩ := hd
        have := matchL_apply ps xs hn t.args us s (by omega) hs (fun t ht => hw.arg ht) (fun u hu t s => matchT_apply ps xs hn u t s) h1 h2
        rw [this, ← e1, ← e2]
        exact Ty.eta t

/-- Matching what Apply made. -/
structure MRt (ps : List Int) (xs : List Ty) (s : MSt) : Prop where
  agr : Agr s xs
  zero : ∀ i, s.2.getD i false = false → s.1.getD i .zero = .zero

theorem matchL_round (ps : List Int) (xs : List Ty) (hn : ps.length ≤ xs.length) (hW : ∀ x ∈ xs, x.W) : ∀ (us : List Ty) (s : MSt), MOk ps.length s → MRt ps xs s → (∀ t ∈ us.map (mapT (appG ps xs)), t.W) →
    (∀ u ∈ us, ∀ (s : MSt), (mapT (appG ps xs) u).W → MOk ps.length s → MRt ps xs s → (matchT ps (mapT (appG ps xs) u) u s).1 = true ∧ MRt ps xs (matchT ps (mapT (appG ps xs) u) u s).2) →
    (matchL ((us.map (mapT (appG ps xs))).zip (us.map fun u => fun a s => matchT ps a u s)) s).1 = true ∧ MRt ps xs (matchL ((us.map (mapT (appG ps xs))).zip (us.map fun u => fun a s => matchT ps a u s)) s).2
  | [], s, _, h, _, _ => ⟨rfl, h⟩
  | u :: us, s, hs, h, hw, ih => by
    have hw1 := hw _ (by simp : mapT (appG ps xs) u ∈ (u :: us).map (mapT (appG ps xs)))
    obtain ⟨h1, h2⟩ := ih u (List.mem_cons_self ..) s hw1 hs h
    simp only [List.map_cons, List.zip_cons_cons, matchL, h1, if_true]
    exact matchL_round ps xs hn hW us _ (matchT_ok ps u _ s hw1 hs) h2 (fun t ht => hw t (by rw [List.map_cons]; exact List.mem_cons_of_mem _ ht)) fun u hu => ih u (List.mem_cons_of_mem _ hu)

theorem matchT_round (ps : List Int) (xs : List Ty) (hn : ps.length ≤ xs.length) (hW : ∀ x ∈ xs, x.W) : ∀ (p : Ty) (s : MSt), (mapT (appG ps xs) p).W → MOk ps.length s → MRt ps xs s →
    (matchT ps (mapT (appG ps xs) p) p s).1 = true ∧ MRt ps xs (matchT ps (mapT (appG ps xs) p) p s).2
  | .mk pk pi us, s, hw, hs, h => by
    by_cases hc : (decide (pk = 2) && decide (idxI (fun x => decide (pi = x)) ps ≥ 0)) = true
    · have hc' := hc
      rw [Bool.and_eq_true, decide_eq_true_eq, decide_eq_true_eq] at hc
      have hlt := idxI_lt hc.2
      have hk : (idxI (fun x => decide (pi = x)) ps).toNat < ps.length := by omega
      have hg : appG ps xs (.mk pk pi us) = (xs.getD (idxI (fun x => decide (pi = x)) ps).toNat .zero, true) := by
        unfold appG
        rw [if_neg]
        · rfl
        · intro hh
          rw [Bool.or_eq_true, Bool.or_eq_true] at hh
          rcases hh with (hh | hh) | hh
          · simp [Ty.kind, hc.1] at hh
          · have : idxI (fun x => decide (pi = x)) ps < 0 := of_decide_eq_true hh
            omega
          · have : idxI (fun x => decide (pi = x)) ps ≥ xs.length := of_decide_eq_true hh
            omega
      have hmap : mapT (appG ps xs) (.mk pk pi us) = xs.getD (idxI (fun x => decide (pi = x)) ps).toNat .zero := by rw [mapT, hg, if_pos rfl]
      rw [hmap, matchT, if_pos hc']
      split
      · rename_i hb
        exact ⟨(Ty.eqb_iff _ _).2 (h.agr _ hb).symm, h⟩
      · rename_i hb
        refine ⟨rfl, ?_, ?_⟩
        · intro i hi
          simp only [getD_set _ _ _ _ _ (show (idxI (fun x => decide (pi = x)) ps).toNat < s.1.length by rw [hs.l1]; exact hk)]
          rw [getD_set _ _ _ _ _ (by rw [hs.l2]; exact hk)] at hi
          split
          · rename_i e; rw [e]
          · rename_i e; rw [if_neg e] at hi; exact h.agr i hi
        · intro i hi
          simp only [getD_set _ _ _ _ _ (show (idxI (fun x => decide (pi = x)) ps).toNat < s.1.length by rw [hs.l1]; exact hk)]
          rw [getD_set _ _ _ _ _ (by rw [hs.l2]; exact hk)] at hi
          split
          · rename_i e; rw [if_pos e] at hi; cases hi
          · rename_i e; rw [if_neg e] at hi; exact h.zero i hi
    · have hg : (appG ps xs (.mk pk pi us)).2 = false := by
        unfold appG
        rw [if_pos]
        simp only [Ty.kind, Ty.id]
        rw [Bool.or_eq_true, Bool.or_eq_true]
        by_cases hk : pk = 2
        · exact .inl (.inr (decide_eq_true (Int.not_le.1 fun q => hc (by rw [Bool.and_eq_true, decide_eq_true_eq, decide_eq_true_eq]; exact ⟨hk, q⟩))))
        · exact .inl (.inl (by simp [hk]))
      have hmap : mapT (appG ps xs) (.mk pk pi us) = .mk pk pi (us.map (mapT (appG ps xs))) := by rw [mapT, hg, if_neg (by simp)]
      rw [hmap] at hw ⊢
      rw [matchT, if_neg hc, if_neg (by simp [Ty.kind, Ty.id, Ty.args])]
      exact matchL_round ps xs hn hW us s hs h (fun t ht => hw.arg ht) fun u hu s => matchT_round ps xs hn hW u s

theorem mapT_W {g : Ty → Ty × Bool} (hg : ∀ u, (g u).2 = true → (g u).1.W) : ∀ t, t.W → (mapT g t).W
  | .mk k i us, h => by
    rw [mapT]
    split
    · rename_i hb; exact hg _ hb
    · refine .mk (by rw [List.length_map]; exact h.len) fun v hv => ?_
      obtain ⟨u, hu, rfl⟩ := List.mem_map.1 hv
      exact mapT_W hg u (h.arg hu)
theorem app_W {ps : List Int} {xs : List Ty} (hw : ∀ x ∈ xs, x.W) {t : Ty} (ht : t.W) : (mapT (appG ps xs) t).W :=
  mapT_W (fun u hu => by
    unfold appG at hu ⊢
    split at hu
    · cases hu
    · rename_i hc
      rw [if_neg hc]
      simp only
      rw [List.getD_eq_getElem?_getD]
      cases hq : xs[(idxI (fun x => decide (u.id = x)) ps).toNat]? with
      | none => exact .mk (by simp) (by simp)
      | some a => exact hw a (List.mem_of_getElem? hq)) t ht

theorem ins_W {ps : List Int} {v : Int} {t : Ty} (ht : t.W) : (mapT (insG ps v) t).W :=
  mapT_W (fun u hu => by
    unfold insG at hu ⊢
    split at hu
    · cases hu
    · rename_i hc
      rw [if_neg hc]
      exact .mk (by simp) (by simp)) t ht

/-- Match, then Apply. -/
theorem match_apply (ps : List Int) (t p : Ty) (hw : t.W) (h : (matchP ps t p).2 = true) : (matchP ps t p).1.length = ps.length ∧ mapT (appG ps (matchP ps t p).1) p = t := by
  unfold matchP at h ⊢
  split at h
  · rename_i hm
    rw [if_pos hm]
    have hok := matchT_ok ps p t (mS0 ps) hw (mS0_ok ps)
    exact ⟨hok.l1, matchT_apply ps _ hok.l1 p t (mS0 ps) hw (mS0_ok ps) hm fun i _ => rfl⟩
  · cases h
theorem match_none (ps : List Int) (t p : Ty) (h : (matchP ps t p).2 = false) : (matchP ps t p).1 = [] := by
  unfold matchP at h ⊢
  split at h
  · cases h
  · rename_i hm; rw [if_neg hm]
theorem matchP_W (ps : List Int) (t p : Ty) (hw : t.W) : ∀ a ∈ (matchP ps t p).1, a.W := by
  unfold matchP
  split
  · exact (matchT_ok ps p t (mS0 ps) hw (mS0_ok ps)).w
  · simp
/-- Apply, then Match. -/
theorem apply_match (ps : List Int) (xs : List Ty) (p : Ty) (hn : ps.length ≤ xs.length) (hW : ∀ x ∈ xs, x.W) (hp : p.W) :
    (matchP ps (mapT (appG ps xs) p) p).2 = true ∧ (matchP ps (mapT (appG ps xs) p) p).1.length = ps.length ∧
    ∀ i (h : i < (matchP ps (mapT (appG ps xs) p) p).1.length), ((matchP ps (mapT (appG ps xs) p) p).1[i]).kind ≠ 0 → (matchP ps (mapT (appG ps xs) p) p).1[i] = xs.getD i .zero := by
  have hw := app_W (ps := ps) hW hp
  have h0 : MRt ps xs (mS0 ps) := by
    refine ⟨fun i hi => ?_, fun i _ => ?_⟩
    · simp only [mS0, List.getD_eq_getElem?_getD] at hi
      rw [List.getElem?_replicate] at hi
      split at hi <;> cases hi
    · simp only [mS0, List.getD_eq_getElem?_getD]
      rw [List.getElem?_replicate]
      split <;> rfl
  obtain ⟨h1, h2⟩ := matchT_round ps xs hn hW p (mS0 ps) hw (mS0_ok ps) h0
  have hok := matchT_ok ps p _ (mS0 ps) hw (mS0_ok ps)
  simp only [matchP, h1, if_true]
  refine ⟨trivial, hok.l1, fun i hi hne => ?_⟩
  have hget : (matchT ps (mapT (appG ps xs) p) p (mS0 ps)).2.1.getD i .zero = (matchT ps (mapT (appG ps xs) p) p (mS0 ps)).2.1[i] := by
    rw [List.getD_eq_getElem?_getD, List.getElem?_eq_getElem hi, Option.getD_some]
  cases hb : (matchT ps (mapT (appG ps xs) p) p (mS0 ps)).2.2.getD i false with
  | true => rw [← hget]; exact (h2.agr i hb).symm
  | false => rw [← hget, h2.zero i hb] at hne; exact (hne rfl).elim
end Go.Abs
