/- Part 4 of a proof of the law LexerReference: Go data as trees, the walks of the functions that the law reaches, the plain laws. -/
import Derived.Test.YtcdpgegppjmdjaaDoorGCLexerReference
import Derived.Test.YtcdpgegppjmdjaaDoorProg
import Derived.KernelRfl
import Derived.Shelf.Small.Strs
import Derived.Shelf.Strings.Prefix
import Derived.Shelf.Strings.Fields
set_option linter.unusedVariables false
set_option linter.unusedSimpArgs false
namespace Go.Abs
open Go.Proofs
theorem Trydti2 : tinfo Tryd.prog 2 = some ⟨false, 1, 8⟩ := by kernel_rfl
theorem Trydtz2 : tzero Tryd.prog 2 = some (.int .i64 0) := by kernel_rfl
theorem Trydtp2 : tptr Tryd.prog 2 = false := by kernel_rfl
theorem Trydtk2 : tint Tryd.prog 2 = some .i64 := by kernel_rfl
theorem Trydti3 : tinfo Tryd.prog 3 = some ⟨false, 1, 8⟩ := by kernel_rfl
theorem Trydtz3 : tzero Tryd.prog 3 = some (.int .i64 0) := by kernel_rfl
theorem Trydtp3 : tptr Tryd.prog 3 = false := by kernel_rfl
theorem Trydtk3 : tint Tryd.prog 3 = some .i64 := by kernel_rfl
theorem Trydti4 : tinfo Tryd.prog 4 = some ⟨false, 1, 1⟩ := by kernel_rfl
theorem Trydtz4 : tzero Tryd.prog 4 = some (.bool false) := by kernel_rfl
theorem Trydtp4 : tptr Tryd.prog 4 = false := by kernel_rfl
theorem Trydtb4 : tbool Tryd.prog 4 = true := by kernel_rfl
theorem Trydti5 : tinfo Tryd.prog 5 = some ⟨false, 1, 1⟩ := by kernel_rfl
theorem Trydtz5 : tzero Tryd.prog 5 = some (.int .u8 0) := by kernel_rfl
theorem Trydtp5 : tptr Tryd.prog 5 = false := by kernel_rfl
theorem Trydtk5 : tint Tryd.prog 5 = some .u8 := by kernel_rfl
theorem Trydti6 : tinfo Tryd.prog 6 = some ⟨false, 1, 1⟩ := by kernel_rfl
theorem Trydtz6 : tzero Tryd.prog 6 = some (.int .u8 0) := by kernel_rfl
theorem Trydtp6 : tptr Tryd.prog 6 = false := by kernel_rfl
theorem Trydtk6 : tint Tryd.prog 6 = some .u8 := by kernel_rfl
theorem Trydti7 : tinfo Tryd.prog 7 = some ⟨true, 4, 24⟩ := by kernel_rfl
theorem Trydtf7 : tflds Tryd.prog 7 = some [(0, ⟨false, 1, 8⟩), (1, ⟨false, 1, 8⟩), (2, ⟨false, 1, 1⟩), (3, ⟨false, 1, 1⟩)] := by kernel_rfl
theorem Trydtz7 : tzero Tryd.prog 7 = some (.agg [.int .i64 0, .int .i64 0, .bool false, .int .u8 0]) := by kernel_rfl
theorem Trydtp7 : tptr Tryd.prog 7 = false := by kernel_rfl
theorem Trydti8 : tinfo Tryd.prog 8 = some ⟨true, 4, 24⟩ := by kernel_rfl
theorem Trydtf8 : tflds Tryd.prog 8 = some [(0, ⟨false, 1, 8⟩), (1, ⟨false, 1, 8⟩), (2, ⟨false, 1, 1⟩), (3, ⟨false, 1, 1⟩)] := by kernel_rfl
theorem Trydtz8 : tzero Tryd.prog 8 = some (.agg [.int .i64 0, .int .i64 0, .bool false, .int .u8 0]) := by kernel_rfl
theorem Trydtp8 : tptr Tryd.prog 8 = false := by kernel_rfl
theorem Trydti9 : tinfo Tryd.prog 9 = some ⟨false, 1, 16⟩ := by kernel_rfl
theorem Trydtz9 : tzero Tryd.prog 9 = some (.str []) := by kernel_rfl
theorem Trydtp9 : tptr Tryd.prog 9 = false := by kernel_rfl
theorem Trydts9 : tstr Tryd.prog 9 = true := by kernel_rfl
theorem Trydti10 : tinfo Tryd.prog 10 = some ⟨false, 1, 16⟩ := by kernel_rfl
theorem Trydtz10 : tzero Tryd.prog 10 = some (.str []) := by kernel_rfl
theorem Trydtp10 : tptr Tryd.prog 10 = false := by kernel_rfl
theorem Trydts10 : tstr Tryd.prog 10 = true := by kernel_rfl
theorem Trydti11 : tinfo Tryd.prog 11 = some ⟨false, 1, 16⟩ := by kernel_rfl
theorem Trydtz11 : tzero Tryd.prog 11 = some (.str []) := by kernel_rfl
theorem Trydtp11 : tptr Tryd.prog 11 = false := by kernel_rfl
theorem Trydts11 : tstr Tryd.prog 11 = true := by kernel_rfl
theorem Trydti12 : tinfo Tryd.prog 12 = some ⟨false, 1, 8⟩ := by kernel_rfl
theorem Trydtz12 : tzero Tryd.prog 12 = some (.int .u64 0) := by kernel_rfl
theorem Trydtp12 : tptr Tryd.prog 12 = false := by kernel_rfl
theorem Trydtk12 : tint Tryd.prog 12 = some .u64 := by kernel_rfl
theorem Trydti13 : tinfo Tryd.prog 13 = some ⟨true, 2, 24⟩ := by kernel_rfl
theorem Trydtf13 : tflds Tryd.prog 13 = some [(0, ⟨false, 1, 16⟩), (1, ⟨false, 1, 8⟩)] := by kernel_rfl
theorem Trydtz13 : tzero Tryd.prog 13 = some (.agg [.str [], .int .u64 0]) := by kernel_rfl
theorem Trydtp13 : tptr Tryd.prog 13 = false := by kernel_rfl
theorem Trydti14 : tinfo Tryd.prog 14 = some ⟨true, 2, 24⟩ := by kernel_rfl
theorem Trydtf14 : tflds Tryd.prog 14 = some [(0, ⟨false, 1, 16⟩), (1, ⟨false, 1, 8⟩)] := by kernel_rfl
theorem Trydtz14 : tzero Tryd.prog 14 = some (.agg [.str [], .int .u64 0]) := by kernel_rfl
theorem Trydtp14 : tptr Tryd.prog 14 = false := by kernel_rfl
theorem Trydti15 : tinfo Tryd.prog 15 = some ⟨false, 1, 8⟩ := by kernel_rfl
theorem Trydtz15 : tzero Tryd.prog 15 = some (.nilp) := by kernel_rfl
theorem Trydtp15 : tptr Tryd.prog 15 = true := by kernel_rfl
theorem Trydti16 : tinfo Tryd.prog 16 = some ⟨false, 1, 8⟩ := by kernel_rfl
theorem Trydtz16 : tzero Tryd.prog 16 = some (.nilp) := by kernel_rfl
theorem Trydtp16 : tptr Tryd.prog 16 = true := by kernel_rfl
theorem Trydti17 : tinfo Tryd.prog 17 = some ⟨false, 1, 8⟩ := by kernel_rfl
theorem Trydtz17 : tzero Tryd.prog 17 = some (.nilp) := by kernel_rfl
theorem Trydtp17 : tptr Tryd.prog 17 = true := by kernel_rfl
theorem Trydti18 : tinfo Tryd.prog 18 = some ⟨true, 1, 8⟩ := by kernel_rfl
theorem Trydtf18 : tflds Tryd.prog 18 = some [(0, ⟨false, 1, 8⟩)] := by kernel_rfl
theorem Trydtz18 : tzero Tryd.prog 18 = some (.agg [.nilp]) := by kernel_rfl
theorem Trydtp18 : tptr Tryd.prog 18 = false := by kernel_rfl
theorem Trydti19 : tinfo Tryd.prog 19 = some ⟨true, 1, 8⟩ := by kernel_rfl
theorem Trydtf19 : tflds Tryd.prog 19 = some [(0, ⟨false, 1, 8⟩)] := by kernel_rfl
theorem Trydtz19 : tzero Tryd.prog 19 = some (.agg [.nilp]) := by kernel_rfl
theorem Trydtp19 : tptr Tryd.prog 19 = false := by kernel_rfl
theorem Trydti21 : tinfo Tryd.prog 21 = some ⟨false, 1, 4⟩ := by kernel_rfl
theorem Trydtz21 : tzero Tryd.prog 21 = some (.int .i32 0) := by kernel_rfl
theorem Trydtp21 : tptr Tryd.prog 21 = false := by kernel_rfl
theorem Trydtk21 : tint Tryd.prog 21 = some .i32 := by kernel_rfl
theorem Trydti23 : tinfo Tryd.prog 23 = some ⟨false, 1, 24⟩ := by kernel_rfl
theorem Trydte23 : telem Tryd.prog 23 = some (30, ⟨true, 2, 24⟩) := by kernel_rfl
theorem Trydtz23 : tzero Tryd.prog 23 = some (.slice [] .full) := by kernel_rfl
theorem Trydtp23 : tptr Tryd.prog 23 = false := by kernel_rfl
theorem Trydti24 : tinfo Tryd.prog 24 = some ⟨false, 1, 8⟩ := by kernel_rfl
theorem Trydtz24 : tzero Tryd.prog 24 = some (.int .i64 0) := by kernel_rfl
theorem Trydtp24 : tptr Tryd.prog 24 = false := by kernel_rfl
theorem Trydtk24 : tint Tryd.prog 24 = some .i64 := by kernel_rfl
theorem Trydti29 : tinfo Tryd.prog 29 = some ⟨true, 2, 24⟩ := by kernel_rfl
theorem Trydtf29 : tflds Tryd.prog 29 = some [(0, ⟨false, 1, 8⟩), (1, ⟨false, 1, 16⟩)] := by kernel_rfl
theorem Trydtz29 : tzero Tryd.prog 29 = some (.agg [.int .i64 0, .str []]) := by kernel_rfl
theorem Trydtp29 : tptr Tryd.prog 29 = false := by kernel_rfl
theorem Trydti30 : tinfo Tryd.prog 30 = some ⟨true, 2, 24⟩ := by kernel_rfl
theorem Trydtf30 : tflds Tryd.prog 30 = some [(0, ⟨false, 1, 8⟩), (1, ⟨false, 1, 16⟩)] := by kernel_rfl
theorem Trydtz30 : tzero Tryd.prog 30 = some (.agg [.int .i64 0, .str []]) := by kernel_rfl
theorem Trydtp30 : tptr Tryd.prog 30 = false := by kernel_rfl
theorem Trydti33 : tinfo Tryd.prog 33 = some ⟨false, 1, 24⟩ := by kernel_rfl
theorem Trydte33 : telem Tryd.prog 33 = some (9, ⟨false, 1, 16⟩) := by kernel_rfl
theorem Trydtz33 : tzero Tryd.prog 33 = some (.slice [] .full) := by kernel_rfl
theorem Trydtp33 : tptr Tryd.prog 33 = false := by kernel_rfl
theorem Trydti51 : tinfo Tryd.prog 51 = some ⟨false, 1, 24⟩ := by kernel_rfl
theorem Trydte51 : telem Tryd.prog 51 = some (53, ⟨true, 2, 16⟩) := by kernel_rfl
theorem Trydtz51 : tzero Tryd.prog 51 = some (.slice [] .full) := by kernel_rfl
theorem Trydtp51 : tptr Tryd.prog 51 = false := by kernel_rfl
theorem Trydti52 : tinfo Tryd.prog 52 = some ⟨true, 2, 16⟩ := by kernel_rfl
theorem Trydtf52 : tflds Tryd.prog 52 = some [(0, ⟨false, 1, 8⟩), (1, ⟨false, 1, 8⟩)] := by kernel_rfl
theorem Trydtz52 : tzero Tryd.prog 52 = some (.agg [.int .i64 0, .int .i64 0]) := by kernel_rfl
theorem Trydtp52 : tptr Tryd.prog 52 = false := by kernel_rfl
theorem Trydti53 : tinfo Tryd.prog 53 = some ⟨true, 2, 16⟩ := by kernel_rfl
theorem Trydtf53 : tflds Tryd.prog 53 = some [(0, ⟨false, 1, 8⟩), (1, ⟨false, 1, 8⟩)] := by kernel_rfl
theorem Trydtz53 : tzero Tryd.prog 53 = some (.agg [.int .i64 0, .int .i64 0]) := by kernel_rfl
theorem Trydtp53 : tptr Tryd.prog 53 = false := by kernel_rfl
theorem Trydti54 : tinfo Tryd.prog 54 = some ⟨false, 1, 4⟩ := by kernel_rfl
theorem Trydtz54 : tzero Tryd.prog 54 = some (.int .u32 0) := by kernel_rfl
theorem Trydtp54 : tptr Tryd.prog 54 = false := by kernel_rfl
theorem Trydtk54 : tint Tryd.prog 54 = some .u32 := by kernel_rfl
theorem Trydti56 : tinfo Tryd.prog 56 = some ⟨false, 1, 8⟩ := by kernel_rfl
theorem Trydtz56 : tzero Tryd.prog 56 = some (.nilp) := by kernel_rfl
theorem Trydtp56 : tptr Tryd.prog 56 = true := by kernel_rfl
theorem Trydti57 : tinfo Tryd.prog 57 = some ⟨false, 1, 24⟩ := by kernel_rfl
theorem Trydte57 : telem Tryd.prog 57 = some (63, ⟨true, 3, 6⟩) := by kernel_rfl
theorem Trydtz57 : tzero Tryd.prog 57 = some (.slice [] .full) := by kernel_rfl
theorem Trydtp57 : tptr Tryd.prog 57 = false := by kernel_rfl
theorem Trydti58 : tinfo Tryd.prog 58 = some ⟨false, 1, 24⟩ := by kernel_rfl
theorem Trydte58 : telem Tryd.prog 58 = some (66, ⟨true, 3, 12⟩) := by kernel_rfl
theorem Trydtz58 : tzero Tryd.prog 58 = some (.slice [] .full) := by kernel_rfl
theorem Trydtp58 : tptr Tryd.prog 58 = false := by kernel_rfl
theorem Trydti59 : tinfo Tryd.prog 59 = some ⟨true, 3, 56⟩ := by kernel_rfl
theorem Trydtf59 : tflds Tryd.prog 59 = some [(0, ⟨false, 1, 24⟩), (1, ⟨false, 1, 24⟩), (2, ⟨false, 1, 8⟩)] := by kernel_rfl
theorem Trydtz59 : tzero Tryd.prog 59 = some (.agg [.slice [] .full, .slice [] .full, .int .i64 0]) := by kernel_rfl
theorem Trydtp59 : tptr Tryd.prog 59 = false := by kernel_rfl
theorem Trydti60 : tinfo Tryd.prog 60 = some ⟨true, 3, 56⟩ := by kernel_rfl
theorem Trydtf60 : tflds Tryd.prog 60 = some [(0, ⟨false, 1, 24⟩), (1, ⟨false, 1, 24⟩), (2, ⟨false, 1, 8⟩)] := by kernel_rfl
theorem Trydtz60 : tzero Tryd.prog 60 = some (.agg [.slice [] .full, .slice [] .full, .int .i64 0]) := by kernel_rfl
theorem Trydtp60 : tptr Tryd.prog 60 = false := by kernel_rfl
theorem Trydti61 : tinfo Tryd.prog 61 = some ⟨false, 1, 2⟩ := by kernel_rfl
theorem Trydtz61 : tzero Tryd.prog 61 = some (.int .u16 0) := by kernel_rfl
theorem Trydtp61 : tptr Tryd.prog 61 = false := by kernel_rfl
theorem Trydtk61 : tint Tryd.prog 61 = some .u16 := by kernel_rfl
theorem Trydti62 : tinfo Tryd.prog 62 = some ⟨true, 3, 6⟩ := by kernel_rfl
theorem Trydtf62 : tflds Tryd.prog 62 = some [(0, ⟨false, 1, 2⟩), (1, ⟨false, 1, 2⟩), (2, ⟨false, 1, 2⟩)] := by kernel_rfl
theorem Trydtz62 : tzero Tryd.prog 62 = some (.agg [.int .u16 0, .int .u16 0, .int .u16 0]) := by kernel_rfl
theorem Trydtp62 : tptr Tryd.prog 62 = false := by kernel_rfl
theorem Trydti63 : tinfo Tryd.prog 63 = some ⟨true, 3, 6⟩ := by kernel_rfl
theorem Trydtf63 : tflds Tryd.prog 63 = some [(0, ⟨false, 1, 2⟩), (1, ⟨false, 1, 2⟩), (2, ⟨false, 1, 2⟩)] := by kernel_rfl
theorem Trydtz63 : tzero Tryd.prog 63 = some (.agg [.int .u16 0, .int .u16 0, .int .u16 0]) := by kernel_rfl
theorem Trydtp63 : tptr Tryd.prog 63 = false := by kernel_rfl
theorem Trydti65 : tinfo Tryd.prog 65 = some ⟨true, 3, 12⟩ := by kernel_rfl
theorem Trydtf65 : tflds Tryd.prog 65 = some [(0, ⟨false, 1, 4⟩), (1, ⟨false, 1, 4⟩), (2, ⟨false, 1, 4⟩)] := by kernel_rfl
theorem Trydtz65 : tzero Tryd.prog 65 = some (.agg [.int .u32 0, .int .u32 0, .int .u32 0]) := by kernel_rfl
theorem Trydtp65 : tptr Tryd.prog 65 = false := by kernel_rfl
theorem Trydti66 : tinfo Tryd.prog 66 = some ⟨true, 3, 12⟩ := by kernel_rfl
theorem Trydtf66 : tflds Tryd.prog 66 = some [(0, ⟨false, 1, 4⟩), (1, ⟨false, 1, 4⟩), (2, ⟨false, 1, 4⟩)] := by kernel_rfl
theorem Trydtz66 : tzero Tryd.prog 66 = some (.agg [.int .u32 0, .int .u32 0, .int .u32 0]) := by kernel_rfl
theorem Trydtp66 : tptr Tryd.prog 66 = false := by kernel_rfl
theorem Trydti68 : tinfo Tryd.prog 68 = some ⟨false, 1, 8⟩ := by kernel_rfl
theorem Trydtz68 : tzero Tryd.prog 68 = some (.nilp) := by kernel_rfl
theorem Trydtp68 : tptr Tryd.prog 68 = true := by kernel_rfl
theorem Trydti69 : tinfo Tryd.prog 69 = some ⟨false, 1, 8⟩ := by kernel_rfl
theorem Trydtz69 : tzero Tryd.prog 69 = some (.int .u64 0) := by kernel_rfl
theorem Trydtp69 : tptr Tryd.prog 69 = false := by kernel_rfl
theorem Trydtk69 : tint Tryd.prog 69 = some .u64 := by kernel_rfl
theorem Trydti70 : tinfo Tryd.prog 70 = some ⟨false, 1, 8⟩ := by kernel_rfl
theorem Trydtz70 : tzero Tryd.prog 70 = some (.nilp) := by kernel_rfl
theorem Trydtp70 : tptr Tryd.prog 70 = true := by kernel_rfl
theorem Trydti72 : tinfo Tryd.prog 72 = some ⟨true, 4, 40⟩ := by kernel_rfl
theorem Trydtf72 : tflds Tryd.prog 72 = some [(0, ⟨false, 1, 8⟩), (1, ⟨false, 1, 8⟩), (2, ⟨false, 1, 8⟩), (3, ⟨false, 1, 16⟩)] := by kernel_rfl
theorem Trydtz72 : tzero Tryd.prog 72 = some (.agg [.nilp, .nilp, .nilp, .str []]) := by kernel_rfl
theorem Trydtp72 : tptr Tryd.prog 72 = false := by kernel_rfl
theorem Trydti73 : tinfo Tryd.prog 73 = some ⟨true, 4, 40⟩ := by kernel_rfl
theorem Trydtf73 : tflds Tryd.prog 73 = some [(0, ⟨false, 1, 8⟩), (1, ⟨false, 1, 8⟩), (2, ⟨false, 1, 8⟩), (3, ⟨false, 1, 16⟩)] := by kernel_rfl
theorem Trydtz73 : tzero Tryd.prog 73 = some (.agg [.nilp, .nilp, .nilp, .str []]) := by kernel_rfl
theorem Trydtp73 : tptr Tryd.prog 73 = false := by kernel_rfl
theorem Trydti75 : tinfo Tryd.prog 75 = some ⟨true, 0, 0⟩ := by kernel_rfl
theorem Trydtf75 : tflds Tryd.prog 75 = some [(0, ⟨true, 0, 0⟩)] := by kernel_rfl
theorem Trydtz75 : tzero Tryd.prog 75 = some (.agg []) := by kernel_rfl
theorem Trydtp75 : tptr Tryd.prog 75 = false := by kernel_rfl
theorem Trydti76 : tinfo Tryd.prog 76 = some ⟨true, 0, 0⟩ := by kernel_rfl
theorem Trydtf76 : tflds Tryd.prog 76 = some [(0, ⟨true, 0, 0⟩)] := by kernel_rfl
theorem Trydtz76 : tzero Tryd.prog 76 = some (.agg []) := by kernel_rfl
theorem Trydtp76 : tptr Tryd.prog 76 = false := by kernel_rfl
theorem Trydti78 : tinfo Tryd.prog 78 = some ⟨false, 1, 1⟩ := by kernel_rfl
theorem Trydtz78 : tzero Tryd.prog 78 = some (.int .u8 0) := by kernel_rfl
theorem Trydtp78 : tptr Tryd.prog 78 = false := by kernel_rfl
theorem Trydtk78 : tint Tryd.prog 78 = some .u8 := by kernel_rfl
theorem Trydti79 : tinfo Tryd.prog 79 = some ⟨false, 1, 1⟩ := by kernel_rfl
theorem Trydtz79 : tzero Tryd.prog 79 = some (.int .u8 0) := by kernel_rfl
theorem Trydtp79 : tptr Tryd.prog 79 = false := by kernel_rfl
theorem Trydtk79 : tint Tryd.prog 79 = some .u8 := by kernel_rfl
theorem Trydti81 : tinfo Tryd.prog 81 = some ⟨false, 1, 8⟩ := by kernel_rfl
theorem Trydtz81 : tzero Tryd.prog 81 = some (.nilp) := by kernel_rfl
theorem Trydtp81 : tptr Tryd.prog 81 = true := by kernel_rfl
theorem Trydti82 : tinfo Tryd.prog 82 = some ⟨false, 1, 4⟩ := by kernel_rfl
theorem Trydtz82 : tzero Tryd.prog 82 = some (.int .i32 0) := by kernel_rfl
theorem Trydtp82 : tptr Tryd.prog 82 = false := by kernel_rfl
theorem Trydtk82 : tint Tryd.prog 82 = some .i32 := by kernel_rfl
theorem Trydti83 : tinfo Tryd.prog 83 = some ⟨false, 1, 4⟩ := by kernel_rfl
theorem Trydtz83 : tzero Tryd.prog 83 = some (.int .i32 0) := by kernel_rfl
theorem Trydtp83 : tptr Tryd.prog 83 = false := by kernel_rfl
theorem Trydtk83 : tint Tryd.prog 83 = some .i32 := by kernel_rfl
theorem Trydti84 : tinfo Tryd.prog 84 = some ⟨true, 11, 48⟩ := by kernel_rfl
theorem Trydtf84 : tflds Tryd.prog 84 = some [(0, ⟨false, 1, 8⟩), (1, ⟨false, 1, 8⟩), (2, ⟨false, 1, 4⟩), (3, ⟨false, 1, 1⟩), (4, ⟨false, 1, 1⟩), (5, ⟨false, 1, 1⟩), (6, ⟨false, 1, 1⟩), (7, ⟨false, 1, 8⟩), (8, ⟨false, 1, 8⟩), (9, ⟨false, 1, 4⟩), (10, ⟨false, 1, 4⟩)] := by kernel_rfl
theorem Trydtz84 : tzero Tryd.prog 84 = some (.agg [.int .u64 0, .int .u64 0, .int .u32 0, .int .u8 0, .int .u8 0, .int .u8 0, .int .u8 0, .nilfn, .nilp, .int .i32 0, .int .i32 0]) := by kernel_rfl
theorem Trydtp84 : tptr Tryd.prog 84 = false := by kernel_rfl
theorem Trydti85 : tinfo Tryd.prog 85 = some ⟨true, 11, 48⟩ := by kernel_rfl
theorem Trydtf85 : tflds Tryd.prog 85 = some [(0, ⟨false, 1, 8⟩), (1, ⟨false, 1, 8⟩), (2, ⟨false, 1, 4⟩), (3, ⟨false, 1, 1⟩), (4, ⟨false, 1, 1⟩), (5, ⟨false, 1, 1⟩), (6, ⟨false, 1, 1⟩), (7, ⟨false, 1, 8⟩), (8, ⟨false, 1, 8⟩), (9, ⟨false, 1, 4⟩), (10, ⟨false, 1, 4⟩)] := by kernel_rfl
theorem Trydtz85 : tzero Tryd.prog 85 = some (.agg [.int .u64 0, .int .u64 0, .int .u32 0, .int .u8 0, .int .u8 0, .int .u8 0, .int .u8 0, .nilfn, .nilp, .int .i32 0, .int .i32 0]) := by kernel_rfl
theorem Trydtp85 : tptr Tryd.prog 85 = false := by kernel_rfl
theorem Trydgo3 : goFn Tryd.prog 3 = true := by kernel_rfl
theorem Trydgo4 : goFn Tryd.prog 4 = true := by kernel_rfl
theorem Trydgo5 : goFn Tryd.prog 5 = true := by kernel_rfl
theorem Trydgo6 : goFn Tryd.prog 6 = true := by kernel_rfl
theorem Trydgo7 : goFn Tryd.prog 7 = true := by kernel_rfl
theorem Trydgo8 : goFn Tryd.prog 8 = true := by kernel_rfl
theorem Trydgo9 : goFn Tryd.prog 9 = true := by kernel_rfl
theorem Trydgo10 : goFn Tryd.prog 10 = true := by kernel_rfl
theorem Trydgo11 : goFn Tryd.prog 11 = true := by kernel_rfl
theorem Trydgo12 : goFn Tryd.prog 12 = true := by kernel_rfl
theorem Trydgo13 : goFn Tryd.prog 13 = true := by kernel_rfl
theorem Trydgo14 : goFn Tryd.prog 14 = true := by kernel_rfl
theorem Trydgo15 : goFn Tryd.prog 15 = true := by kernel_rfl
theorem Trydgo16 : goFn Tryd.prog 16 = true := by kernel_rfl
theorem Trydgo17 : goFn Tryd.prog 17 = true := by kernel_rfl
theorem Trydgo18 : goFn Tryd.prog 18 = true := by kernel_rfl
theorem Trydgo19 : goFn Tryd.prog 19 = true := by kernel_rfl
theorem Trydgo20 : goFn Tryd.prog 20 = true := by kernel_rfl
theorem Trydgo21 : goFn Tryd.prog 21 = true := by kernel_rfl
theorem Trydgo22 : goFn Tryd.prog 22 = true := by kernel_rfl
theorem Trydgo23 : goFn Tryd.prog 23 = true := by kernel_rfl
theorem Trydgo24 : goFn Tryd.prog 24 = true := by kernel_rfl
theorem Trydgo25 : goFn Tryd.prog 25 = true := by kernel_rfl
theorem Trydgo26 : goFn Tryd.prog 26 = true := by kernel_rfl
theorem Trydgo27 : goFn Tryd.prog 27 = true := by kernel_rfl
theorem Trydgo28 : goFn Tryd.prog 28 = true := by kernel_rfl
theorem Trydgo29 : goFn Tryd.prog 29 = true := by kernel_rfl
theorem Trydgo30 : goFn Tryd.prog 30 = true := by kernel_rfl
theorem Trydgo31 : goFn Tryd.prog 31 = true := by kernel_rfl
theorem Trydgo32 : goFn Tryd.prog 32 = true := by kernel_rfl
theorem Trydgo33 : goFn Tryd.prog 33 = true := by kernel_rfl
theorem Trydgo34 : goFn Tryd.prog 34 = true := by kernel_rfl
theorem Trydgo35 : goFn Tryd.prog 35 = true := by kernel_rfl
theorem Trydgo36 : goFn Tryd.prog 36 = true := by kernel_rfl
theorem Trydgo37 : goFn Tryd.prog 37 = true := by kernel_rfl
theorem Trydgo38 : goFn Tryd.prog 38 = true := by kernel_rfl
theorem Trydgo40 : goFn Tryd.prog 40 = true := by kernel_rfl
theorem Trydgo41 : goFn Tryd.prog 41 = true := by kernel_rfl
theorem Trydgo65 : goFn Tryd.prog 65 = true := by kernel_rfl
theorem y2 : type_of% (And.intro @Trydti2 (And.intro @Trydtz2 (And.intro @Trydtp2 (@Trydtk2)))) := And.intro @Trydti2 (And.intro @Trydtz2 (And.intro @Trydtp2 (@Trydtk2)))
theorem y3 : type_of% (And.intro @Trydti3 (And.intro @Trydtz3 (And.intro @Trydtp3 (@Trydtk3)))) := And.intro @Trydti3 (And.intro @Trydtz3 (And.intro @Trydtp3 (@Trydtk3)))
theorem y4 : type_of% (And.intro @Trydti4 (And.intro @Trydtz4 (And.intro @Trydtp4 (@Trydtb4)))) := And.intro @Trydti4 (And.intro @Trydtz4 (And.intro @Trydtp4 (@Trydtb4)))
theorem y5 : type_of% (And.intro @Trydti5 (And.intro @Trydtz5 (And.intro @Trydtp5 (@Trydtk5)))) := And.intro @Trydti5 (And.intro @Trydtz5 (And.intro @Trydtp5 (@Trydtk5)))
theorem y6 : type_of% (And.intro @Trydti6 (And.intro @Trydtz6 (And.intro @Trydtp6 (@Trydtk6)))) := And.intro @Trydti6 (And.intro @Trydtz6 (And.intro @Trydtp6 (@Trydtk6)))
theorem y7 : type_of% (And.intro @Trydti7 (And.intro @Trydtf7 (And.intro @Trydtz7 (@Trydtp7)))) := And.intro @Trydti7 (And.intro @Trydtf7 (And.intro @Trydtz7 (@Trydtp7)))
theorem y8 : type_of% (And.intro @Trydti8 (And.intro @Trydtf8 (And.intro @Trydtz8 (@Trydtp8)))) := And.intro @Trydti8 (And.intro @Trydtf8 (And.intro @Trydtz8 (@Trydtp8)))
theorem y9 : type_of% (And.intro @Trydti9 (And.intro @Trydtz9 (And.intro @Trydtp9 (@Trydts9)))) := And.intro @Trydti9 (And.intro @Trydtz9 (And.intro @Trydtp9 (@Trydts9)))
theorem y10 : type_of% (And.intro @Trydti10 (And.intro @Trydtz10 (And.intro @Trydtp10 (@Trydts10)))) := And.intro @Trydti10 (And.intro @Trydtz10 (And.intro @Trydtp10 (@Trydts10)))
theorem y11 : type_of% (And.intro @Trydti11 (And.intro @Trydtz11 (And.intro @Trydtp11 (@Trydts11)))) := And.intro @Trydti11 (And.intro @Trydtz11 (And.intro @Trydtp11 (@Trydts11)))
theorem y12 : type_of% (And.intro @Trydti12 (And.intro @Trydtz12 (And.intro @Trydtp12 (@Trydtk12)))) := And.intro @Trydti12 (And.intro @Trydtz12 (And.intro @Trydtp12 (@Trydtk12)))
theorem y13 : type_of% (And.intro @Trydti13 (And.intro @Trydtf13 (And.intro @Trydtz13 (@Trydtp13)))) := And.intro @Trydti13 (And.intro @Trydtf13 (And.intro @Trydtz13 (@Trydtp13)))
theorem y14 : type_of% (And.intro @Trydti14 (And.intro @Trydtf14 (And.intro @Trydtz14 (@Trydtp14)))) := And.intro @Trydti14 (And.intro @Trydtf14 (And.intro @Trydtz14 (@Trydtp14)))
theorem y15 : type_of% (And.intro @Trydti15 (And.intro @Trydtz15 (@Trydtp15))) := And.intro @Trydti15 (And.intro @Trydtz15 (@Trydtp15))
theorem y16 : type_of% (And.intro @Trydti16 (And.intro @Trydtz16 (@Trydtp16))) := And.intro @Trydti16 (And.intro @Trydtz16 (@Trydtp16))
theorem y17 : type_of% (And.intro @Trydti17 (And.intro @Trydtz17 (@Trydtp17))) := And.intro @Trydti17 (And.intro @Trydtz17 (@Trydtp17))
theorem y18 : type_of% (And.intro @Trydti18 (And.intro @Trydtf18 (And.intro @Trydtz18 (@Trydtp18)))) := And.intro @Trydti18 (And.intro @Trydtf18 (And.intro @Trydtz18 (@Trydtp18)))
theorem y19 : type_of% (And.intro @Trydti19 (And.intro @Trydtf19 (And.intro @Trydtz19 (@Trydtp19)))) := And.intro @Trydti19 (And.intro @Trydtf19 (And.intro @Trydtz19 (@Trydtp19)))
theorem y21 : type_of% (And.intro @Trydti21 (And.intro @Trydtz21 (And.intro @Trydtp21 (@Trydtk21)))) := And.intro @Trydti21 (And.intro @Trydtz21 (And.intro @Trydtp21 (@Trydtk21)))
theorem y23 : type_of% (And.intro @Trydti23 (And.intro @Trydte23 (And.intro @Trydtz23 (@Trydtp23)))) := And.intro @Trydti23 (And.intro @Trydte23 (And.intro @Trydtz23 (@Trydtp23)))
theorem y24 : type_of% (And.intro @Trydti24 (And.intro @Trydtz24 (And.intro @Trydtp24 (@Trydtk24)))) := And.intro @Trydti24 (And.intro @Trydtz24 (And.intro @Trydtp24 (@Trydtk24)))
theorem y29 : type_of% (And.intro @Trydti29 (And.intro @Trydtf29 (And.intro @Trydtz29 (@Trydtp29)))) := And.intro @Trydti29 (And.intro @Trydtf29 (And.intro @Trydtz29 (@Trydtp29)))
theorem y30 : type_of% (And.intro @Trydti30 (And.intro @Trydtf30 (And.intro @Trydtz30 (@Trydtp30)))) := And.intro @Trydti30 (And.intro @Trydtf30 (And.intro @Trydtz30 (@Trydtp30)))
theorem y33 : type_of% (And.intro @Trydti33 (And.intro @Trydte33 (And.intro @Trydtz33 (@Trydtp33)))) := And.intro @Trydti33 (And.intro @Trydte33 (And.intro @Trydtz33 (@Trydtp33)))
theorem y51 : type_of% (And.intro @Trydti51 (And.intro @Trydte51 (And.intro @Trydtz51 (@Trydtp51)))) := And.intro @Trydti51 (And.intro @Trydte51 (And.intro @Trydtz51 (@Trydtp51)))
theorem y52 : type_of% (And.intro @Trydti52 (And.intro @Trydtf52 (And.intro @Trydtz52 (@Trydtp52)))) := And.intro @Trydti52 (And.intro @Trydtf52 (And.intro @Trydtz52 (@Trydtp52)))
theorem y53 : type_of% (And.intro @Trydti53 (And.intro @Trydtf53 (And.intro @Trydtz53 (@Trydtp53)))) := And.intro @Trydti53 (And.intro @Trydtf53 (And.intro @Trydtz53 (@Trydtp53)))
theorem y54 : type_of% (And.intro @Trydti54 (And.intro @Trydtz54 (And.intro @Trydtp54 (@Trydtk54)))) := And.intro @Trydti54 (And.intro @Trydtz54 (And.intro @Trydtp54 (@Trydtk54)))
theorem y56 : type_of% (And.intro @Trydti56 (And.intro @Trydtz56 (@Trydtp56))) := And.intro @Trydti56 (And.intro @Trydtz56 (@Trydtp56))
theorem y57 : type_of% (And.intro @Trydti57 (And.intro @Trydte57 (And.intro @Trydtz57 (@Trydtp57)))) := And.intro @Trydti57 (And.intro @Trydte57 (And.intro @Trydtz57 (@Trydtp57)))
theorem y58 : type_of% (And.intro @Trydti58 (And.intro @Trydte58 (And.intro @Trydtz58 (@Trydtp58)))) := And.intro @Trydti58 (And.intro @Trydte58 (And.intro @Trydtz58 (@Trydtp58)))
theorem y59 : type_of% (And.intro @Trydti59 (And.intro @Trydtf59 (And.intro @Trydtz59 (@Trydtp59)))) := And.intro @Trydti59 (And.intro @Trydtf59 (And.intro @Trydtz59 (@Trydtp59)))
theorem y60 : type_of% (And.intro @Trydti60 (And.intro @Trydtf60 (And.intro @Trydtz60 (@Trydtp60)))) := And.intro @Trydti60 (And.intro @Trydtf60 (And.intro @Trydtz60 (@Trydtp60)))
theorem y61 : type_of% (And.intro @Trydti61 (And.intro @Trydtz61 (And.intro @Trydtp61 (@Trydtk61)))) := And.intro @Trydti61 (And.intro @Trydtz61 (And.intro @Trydtp61 (@Trydtk61)))
theorem y62 : type_of% (And.intro @Trydti62 (And.intro @Trydtf62 (And.intro @Trydtz62 (@Trydtp62)))) := And.intro @Trydti62 (And.intro @Trydtf62 (And.intro @Trydtz62 (@Trydtp62)))
theorem y63 : type_of% (And.intro @Trydti63 (And.intro @Trydtf63 (And.intro @Trydtz63 (@Trydtp63)))) := And.intro @Trydti63 (And.intro @Trydtf63 (And.intro @Trydtz63 (@Trydtp63)))
theorem y65 : type_of% (And.intro @Trydti65 (And.intro @Trydtf65 (And.intro @Trydtz65 (@Trydtp65)))) := And.intro @Trydti65 (And.intro @Trydtf65 (And.intro @Trydtz65 (@Trydtp65)))
theorem y66 : type_of% (And.intro @Trydti66 (And.intro @Trydtf66 (And.intro @Trydtz66 (@Trydtp66)))) := And.intro @Trydti66 (And.intro @Trydtf66 (And.intro @Trydtz66 (@Trydtp66)))
theorem y68 : type_of% (And.intro @Trydti68 (And.intro @Trydtz68 (@Trydtp68))) := And.intro @Trydti68 (And.intro @Trydtz68 (@Trydtp68))
theorem y69 : type_of% (And.intro @Trydti69 (And.intro @Trydtz69 (And.intro @Trydtp69 (@Trydtk69)))) := And.intro @Trydti69 (And.intro @Trydtz69 (And.intro @Trydtp69 (@Trydtk69)))
theorem y70 : type_of% (And.intro @Trydti70 (And.intro @Trydtz70 (@Trydtp70))) := And.intro @Trydti70 (And.intro @Trydtz70 (@Trydtp70))
theorem y72 : type_of% (And.intro @Trydti72 (And.intro @Trydtf72 (And.intro @Trydtz72 (@Trydtp72)))) := And.intro @Trydti72 (And.intro @Trydtf72 (And.intro @Trydtz72 (@Trydtp72)))
theorem y73 : type_of% (And.intro @Trydti73 (And.intro @Trydtf73 (And.intro @Trydtz73 (@Trydtp73)))) := And.intro @Trydti73 (And.intro @Trydtf73 (And.intro @Trydtz73 (@Trydtp73)))
theorem y75 : type_of% (And.intro @Trydti75 (And.intro @Trydtf75 (And.intro @Trydtz75 (@Trydtp75)))) := And.intro @Trydti75 (And.intro @Trydtf75 (And.intro @Trydtz75 (@Trydtp75)))
theorem y76 : type_of% (And.intro @Trydti76 (And.intro @Trydtf76 (And.intro @Trydtz76 (@Trydtp76)))) := And.intro @Trydti76 (And.intro @Trydtf76 (And.intro @Trydtz76 (@Trydtp76)))
theorem y78 : type_of% (And.intro @Trydti78 (And.intro @Trydtz78 (And.intro @Trydtp78 (@Trydtk78)))) := And.intro @Trydti78 (And.intro @Trydtz78 (And.intro @Trydtp78 (@Trydtk78)))
theorem y79 : type_of% (And.intro @Trydti79 (And.intro @Trydtz79 (And.intro @Trydtp79 (@Trydtk79)))) := And.intro @Trydti79 (And.intro @Trydtz79 (And.intro @Trydtp79 (@Trydtk79)))
theorem y81 : type_of% (And.intro @Trydti81 (And.intro @Trydtz81 (@Trydtp81))) := And.intro @Trydti81 (And.intro @Trydtz81 (@Trydtp81))
theorem y82 : type_of% (And.intro @Trydti82 (And.intro @Trydtz82 (And.intro @Trydtp82 (@Trydtk82)))) := And.intro @Trydti82 (And.intro @Trydtz82 (And.intro @Trydtp82 (@Trydtk82)))
theorem y83 : type_of% (And.intro @Trydti83 (And.intro @Trydtz83 (And.intro @Trydtp83 (@Trydtk83)))) := And.intro @Trydti83 (And.intro @Trydtz83 (And.intro @Trydtp83 (@Trydtk83)))
theorem y84 : type_of% (And.intro @Trydti84 (And.intro @Trydtf84 (And.intro @Trydtz84 (@Trydtp84)))) := And.intro @Trydti84 (And.intro @Trydtf84 (And.intro @Trydtz84 (@Trydtp84)))
theorem y85 : type_of% (And.intro @Trydti85 (And.intro @Trydtf85 (And.intro @Trydtz85 (@Trydtp85)))) := And.intro @Trydti85 (And.intro @Trydtf85 (And.intro @Trydtz85 (@Trydtp85)))
end Go.Abs
set_option maxRecDepth 4000
namespace Go.Abs
open Go.Proofs

theorem u8_nat (n : Nat) (h : n < 256) : (UInt8.ofNat n).toNat = n := by rw [UInt8.toNat_ofNat']; exact Nat.mod_eq_of_lt h
theorem u8_ge (c : UInt8) (n : Nat) (h : n < 256) : decide ((c.toNat : Int) ≥ n) = decide (UInt8.ofNat n ≤ c) := by
  rw [decide_eq_decide, UInt8.le_iff_toNat_le, u8_nat n h]; omega
theorem u8_le (c : UInt8) (n : Nat) (h : n < 256) : decide ((c.toNat : Int) ≤ n) = decide (c ≤ UInt8.ofNat n) := by
  rw [decide_eq_decide, UInt8.le_iff_toNat_le, u8_nat n h]; omega
theorem u8_eq (c : UInt8) (n : Nat) (h : n < 256) : decide ((c.toNat : Int) = n) = (c == UInt8.ofNat n) := by
  have e : (c == UInt8.ofNat n) = decide (c = UInt8.ofNat n) := by rw [Bool.eq_iff_iff]; simp
  rw [e, decide_eq_decide, ← UInt8.toNat_inj, u8_nat n h]; omega

theorem isLetter_c (c : UInt8) : PC Tryd.prog 19 [.int .u8 c.toNat] (.bool (isLetB c)) := by
  have g97 : decide ((c.toNat : Int) ≥ 97) = decide ((97 : UInt8) ≤ c) := u8_ge c 97 (by decide)
  have l122 : decide ((c.toNat : Int) ≤ 122) = decide (c ≤ (122 : UInt8)) := u8_le c 122 (by decide)
  have g65 : decide ((c.toNat : Int) ≥ 65) = decide ((65 : UInt8) ≤ c) := u8_ge c 65 (by decide)
  have l90 : decide ((c.toNat : Int) ≤ 90) = decide (c ≤ (90 : UInt8)) := u8_le c 90 (by decide)
  have e95 : decide ((c.toNat : Int) = 95) = (c == 95) := u8_eq c 95 (by decide)
  have g48 : decide ((c.toNat : Int) ≥ 48) = decide ((48 : UInt8) ≤ c) := u8_ge c 48 (by decide)
  have l57 : decide ((c.toNat : Int) ≤ 57) = decide (c ≤ (57 : UInt8)) := u8_le c 57 (by decide)
  refine pc_of (N := 21) Tryd.func19 rfl rfl (by simp) (by simp [Bel.int, Bel.str]) (.bool _) ?_
  repeat (refine awp_seq ?_)
  refine e_eval (by simp only [jA, jO, jN, seval, vint, qX] <;> with_reducible rfl) (by decide) ?_
  repeat (refine awp_seq ?_)
  refine g_eval (by simp only [jG, jO, jN, seval, y5, vint, qX] <;> with_reducible rfl) (by decide) (by repeat (first | exact Fin.base _ | with_reducible apply Fin.keep | apply Fin.drop)) ?_
  repeat (refine awp_seq ?_)
  refine awp_ret ⟨.inr rfl, _, rfl, ?_⟩
  simp only [jN, seval, vint, qX, g97, l122, g65, l90, e95, g48, l57]
  try rfl

theorem isDigit_c (c : UInt8) : PC Tryd.prog 21 [.int .u8 c.toNat] (.bool (isDigB c)) := by
  have g97 : decide ((c.toNat : Int) ≥ 97) = decide ((97 : UInt8) ≤ c) := u8_ge c 97 (by decide)
  have l122 : decide ((c.toNat : Int) ≤ 122) = decide (c ≤ (122 : UInt8)) := u8_le c 122 (by decide)
  have g65 : decide ((c.toNat : Int) ≥ 65) = decide ((65 : UInt8) ≤ c) := u8_ge c 65 (by decide)
  have l90 : decide ((c.toNat : Int) ≤ 90) = decide (c ≤ (90 : UInt8)) := u8_le c 90 (by decide)
  have e95 : decide ((c.toNat : Int) = 95) = (c == 95) := u8_eq c 95 (by decide)
  have g48 : decide ((c.toNat : Int) ≥ 48) = decide ((48 : UInt8) ≤ c) := u8_ge c 48 (by decide)
  have l57 : decide ((c.toNat : Int) ≤ 57) = decide (c ≤ (57 : UInt8)) := u8_le c 57 (by decide)
  refine pc_of (N := 9) Tryd.func21 rfl rfl (by simp) (by simp [Bel.int, Bel.str]) (.bool _) ?_
  repeat (refine awp_seq ?_)
  refine e_eval (by simp only [jA, jO, jN, seval, vint, qX] <;> with_reducible rfl) (by decide) ?_
  repeat (refine awp_seq ?_)
  refine g_eval (by simp only [jG, jO, jN, seval, y5, vint, qX] <;> with_reducible rfl) (by decide) (by repeat (first | exact Fin.base _ | with_reducible apply Fin.keep | apply Fin.drop)) ?_
  repeat (refine awp_seq ?_)
  refine awp_ret ⟨.inr rfl, _, rfl, ?_⟩
  simp only [jN, seval, vint, qX, g97, l122, g65, l90, e95, g48, l57]
  try rfl

theorem isWord_c (c : UInt8) : PC Tryd.prog 37 [.int .u8 c.toNat] (.bool (wordB c)) := by
  have g97 : decide ((c.toNat : Int) ≥ 97) = decide ((97 : UInt8) ≤ c) := u8_ge c 97 (by decide)
  have l122 : decide ((c.toNat : Int) ≤ 122) = decide (c ≤ (122 : UInt8)) := u8_le c 122 (by decide)
  have g65 : decide ((c.toNat : Int) ≥ 65) = decide ((65 : UInt8) ≤ c) := u8_ge c 65 (by decide)
  have l90 : decide ((c.toNat : Int) ≤ 90) = decide (c ≤ (90 : UInt8)) := u8_le c 90 (by decide)
  have e95 : decide ((c.toNat : Int) = 95) = (c == 95) := u8_eq c 95 (by decide)
  have g48 : decide ((c.toNat : Int) ≥ 48) = decide ((48 : UInt8) ≤ c) := u8_ge c 48 (by decide)
  have l57 : decide ((c.toNat : Int) ≤ 57) = decide (c ≤ (57 : UInt8)) := u8_le c 57 (by decide)
  refine pc_of (N := 29) Tryd.func37 rfl rfl (by simp) (by simp [Bel.int, Bel.str]) (.bool _) ?_
  repeat (refine awp_seq ?_)
  refine e_eval (by simp only [jA, jO, jN, seval, vint, qX] <;> with_reducible rfl) (by decide) ?_
  repeat (refine awp_seq ?_)
  refine g_eval (by simp only [jG, jO, jN, seval, y5, vint, qX] <;> with_reducible rfl) (by decide) (by repeat (first | exact Fin.base _ | with_reducible apply Fin.keep | apply Fin.drop)) ?_
  repeat (refine awp_seq ?_)
  refine awp_ret ⟨.inr rfl, _, rfl, ?_⟩
  simp only [jN, seval, vint, qX, g97, l122, g65, l90, e95, g48, l57]
  try rfl

end Go.Abs
set_option maxRecDepth 4000
namespace Go.Abs
open Go.Proofs

def clsP (cl : Int) (c : UInt8) : Bool := if cl = 0 then isSpB c else if cl = 2 then wordB c else if cl = 3 then isDigB c else notNl c

theorem run_c (s : List UInt8) (hs : s.length ≤ maxLen) (cl : Int) : PC Tryd.prog 27 [.str s, vint cl] (vint (runL (clsP cl) s)) := by
  have em : maxLen = 9223372036854775807 := by decide
  refine pc_of (N := 53) Tryd.func27 rfl rfl (by simp) (by simp [Bel.int, Bel.str]) (.int _ _) ?_
  repeat (refine awp_seq ?_)
  refine e_eval (by simp only [jA, jO, jN, seval, vint, qX] <;> with_reducible rfl) (by decide) ?_
  repeat (refine awp_seq ?_)
  refine e_eval (by simp only [jA, jO, jN, seval, vint, qX] <;> with_reducible rfl) (by decide) ?_
  repeat (refine awp_seq ?_)
  refine awp_block ?_
  refine awp_loopS (σ := Nat) (fun (i : Nat) => [(0, .str s), (1, vint cl), (5, vint (i : Int))]) ([]) (fun (i : Nat) => []) (fun (i : Nat) => s.length - i) (fun (i : Nat) => i ≤ s.length ∧ runL (clsP cl) s = i + runL (clsP cl) (s.drop i)) (0) ([]) ⟨(by first | rfl | (simp only [jN, seval, vint, qX] <;> first | done | with_reducible rfl)), (by first | rfl | (simp only [jN, seval, vint, qX] <;> first | done | with_reducible rfl)), (by first | rfl | (simp only [jN, seval, vint, qX] <;> first | done | with_reducible rfl)), trivial⟩ (by first | rfl | (simp only [jN, seval, vint, qX] <;> first | done | with_reducible rfl)) (⟨by omega, by simp⟩) (fun _ _ => by first | exact Nat.zero_le _ | (simp only [List.length_append]; omega)) ?_ ?_
  · exact fun i hg => ⟨by simp only [List.nil_append]; exact hbel_nil _, by repeat (first | exact BelL.nil | refine BelL.cons (by first | exact Tk.bel _ _ | exact bel_nil0 _ | exact bel_nil1 _ | exact Bel.int _ _ | exact Bel.bool _ | exact Bel.str _ | exact Bel.nilp | exact Bel.nilfn | exact Bel.optr _ _ (by simp) | exact bel_nil0 _ | exact bel_nil1 _ | exact bel_fn0 _ _ | assumption) ?_)⟩
  · intro i hg
    repeat (refine awp_seq ?_)
    refine e_eval (by simp only [jA, jO, jN, seval, y3, y9, vint, qX] <;> with_reducible rfl) (by decide) ?_
    repeat (refine awp_seq ?_)
    refine awp_cond rfl (by simp only [jN, seval, vint, qX] <;> with_reducible rfl) (fun bt11 => ?_) (fun bt11 => ?_)
    ·
      have hi : i < s.length := by have := of_decide_eq_true bt11; omega
      have g1 := ix_nat hi
      have hd := runL_drop (p := clsP cl) hi
      obtain ⟨c, hc⟩ : ∃ c, s[i] = c := ⟨_, rfl⟩
      rw [hc] at hd
      have g2 : s[i]? = some c := by rw [List.getElem?_eq_getElem hi, hc]
      have w1 : IntKind.i64.wrap ((i : Int) + 1) = ((i + 1 : Nat) : Int) := by rw [wrap_id (by omega) (by omega)]; omega
      have e32 : decide ((c.toNat : Int) = 32) = (c == 32) := u8_eq c 32 (by decide)
      have e9 : decide ((c.toNat : Int) = 9) = (c == 9) := u8_eq c 9 (by decide)
      have e10 : decide ((c.toNat : Int) = 10) = (c == 10) := u8_eq c 10 (by decide)
      have e13 : decide ((c.toNat : Int) = 13) = (c == 13) := u8_eq c 13 (by decide)
      have g48 : decide ((c.toNat : Int) ≥ 48) = decide ((48 : UInt8) ≤ c) := u8_ge c 48 (by decide)
      have l57 : decide ((c.toNat : Int) ≤ 57) = decide (c ≤ (57 : UInt8)) := u8_le c 57 (by decide)
      repeat (refine awp_seq ?_)
      refine awp_skip ?_
      repeat (refine awp_seq ?_)
      refine awp_block ?_
      repeat (refine awp_seq ?_)
      refine e_eval (by simp only [jA, jO, jN, seval, y9, vint, qX, g1, g2, Int.toNat_natCast] <;> with_reducible rfl) (by decide) ?_
      repeat (refine awp_seq ?_)
      refine e_eval (by simp only [jA, jO, jN, seval, y5, vint, qX, e10] <;> with_reducible rfl) (by decide) ?_
      repeat (refine awp_seq ?_)
      refine e_eval (by simp only [jA, jO, jN, seval, vint, qX] <;> with_reducible rfl) (by decide) ?_
      repeat (refine awp_seq ?_)
      refine awp_block ?_
      repeat (refine awp_seq ?_)
      refine e_eval (by simp only [jA, jO, jN, seval, y3, vint, qX] <;> with_reducible rfl) (by decide) ?_
      repeat (refine awp_seq ?_)
      refine awp_cond rfl (by simp only [jN, seval, vint, qX] <;> with_reducible rfl) (fun bt20 => ?_) (fun bt20 => ?_)
      ·
        have hcl : cl = 0 := of_decide_eq_true bt20
        have hp : clsP cl c = isSpB c := by unfold clsP; rw [if_pos hcl]
        repeat (refine awp_seq ?_)
        refine g_eval (by simp only [jG, jO, jN, seval, y5, vint, qX, e32, e9, e10, e13] <;> with_reducible rfl) (by decide) (by repeat (first | exact Fin.base _ | with_reducible apply Fin.keep | apply Fin.drop)) ?_
        refine awp_sel [0, 1, 5, 7] (by simp only [jN, seval, vint, qX] <;> with_reducible rfl) ?_
        repeat (refine awp_seq ?_)
        refine e_eval (by simp only [jA, jO, jN, seval, vint, qX] <;> with_reducible rfl) (by decide) ?_
        repeat (refine awp_seq ?_)
        refine awp_cond rfl (by simp only [jN, seval, vint, qX] <;> with_reducible rfl) (fun bt49 => ?_) (fun bt49 => ?_)
        ·
          have hf : clsP cl c = false := by rw [hp]; have h := bt49; first | (rw [Bool.not_eq_true'] at h; exact h) | (unfold notNl; rw [h]; rfl)
          have hv : (runL (clsP cl) s : Int) = i := by rw [hg.2, hd, hf]; simp
          repeat (refine awp_seq ?_)
          refine e_eval (by simp only [jA, jO, jN, seval, vint, qX] <;> with_reducible rfl) (by decide) ?_
          repeat (refine awp_seq ?_)
          refine awp_ret ⟨.inr rfl, _, rfl, ?_⟩
          simp only [jN, seval, vint, qX, hv]
          try rfl
        ·
          have hf : clsP cl c = true := by rw [hp]; have h := bt49; first | (rw [Bool.not_eq_false'] at h; exact h) | (unfold notNl; rw [h]; rfl)
          have hv1 : runL (clsP cl) s = (i + 1) + runL (clsP cl) (s.drop (i + 1)) := by rw [hg.2, hd, hf]; simp; omega
          repeat (refine awp_seq ?_)
          refine awp_skip ?_
          repeat (refine awp_seq ?_)
          refine e_eval (by simp only [jA, jO, jN, seval, y3, vint, qX, w1] <;> with_reducible rfl) (by decide) ?_
          try simp only [thenQ, blockQ]
          exact ⟨i + 1, _, by show s.length - (i + 1) < s.length - i; omega, ⟨rfl, rfl, rfl, trivial⟩, by simp only [jN, seval, vint, qX] <;> rfl, by omega, hv1⟩
      ·
        have hcl0 : ¬ cl = 0 := of_decide_eq_false bt20
        repeat (refine awp_seq ?_)
        refine e_eval (by simp only [jA, jO, jN, seval, y3, vint, qX] <;> with_reducible rfl) (by decide) ?_
        repeat (refine awp_seq ?_)
        refine awp_cond rfl (by simp only [jN, seval, vint, qX] <;> with_reducible rfl) (fun bt36 => ?_) (fun bt36 => ?_)
        ·
          have hcl : cl = 2 := of_decide_eq_true bt36
          have hp : clsP cl c = wordB c := by unfold clsP; rw [if_neg hcl0, if_pos hcl]
          refine awp_sel [0, 1, 5, 6] (by simp only [jN, seval, vint, qX] <;> with_reducible rfl) ?_
          repeat (refine awp_seq ?_)
          refine awp_region ?_
          refine e_take 1 (by simp only [jA, jO, jN, seval, vint, qX] <;> with_reducible rfl) (by decide) ?_
          refine aops_pure (by simp only [jC, jN, seval, vint, qX] <;> with_reducible rfl) (by simp only [jC, jN, seval, vint, qX]) (by decide) Trydgo37 (isWord_c c _) ?_
          refine e_end (by simp only [jA, jO, jN, seval, vint, qX] <;> with_reducible rfl) (by decide) ?_
          repeat (refine awp_seq ?_)
          refine e_eval (by simp only [jA, jO, jN, seval, vint, qX] <;> with_reducible rfl) (by decide) ?_
          repeat (refine awp_seq ?_)
          refine awp_cond rfl (by simp only [jN, seval, vint, qX] <;> with_reducible rfl) (fun bt49 => ?_) (fun bt49 => ?_)
          ·
            have hf : clsP cl c = false := by rw [hp]; have h := bt49; first | (rw [Bool.not_eq_true'] at h; exact h) | (unfold notNl; rw [h]; rfl)
            have hv : (runL (clsP cl) s : Int) = i := by rw [hg.2, hd, hf]; simp
            repeat (refine awp_seq ?_)
            refine e_eval (by simp only [jA, jO, jN, seval, vint, qX] <;> with_reducible rfl) (by decide) ?_
            repeat (refine awp_seq ?_)
            refine awp_ret ⟨.inr rfl, _, rfl, ?_⟩
            simp only [jN, seval, vint, qX, hv]
            try rfl
          ·
            have hf : clsP cl c = true := by rw [hp]; have h := bt49; first | (rw [Bool.not_eq_false'] at h; exact h) | (unfold notNl; rw [h]; rfl)
            have hv1 : runL (clsP cl) s = (i + 1) + runL (clsP cl) (s.drop (i + 1)) := by rw [hg.2, hd, hf]; simp; omega
            repeat (refine awp_seq ?_)
            refine awp_skip ?_
            repeat (refine awp_seq ?_)
            refine e_eval (by simp only [jA, jO, jN, seval, y3, vint, qX, w1] <;> with_reducible rfl) (by decide) ?_
            try simp only [thenQ, blockQ]
            exact ⟨i + 1, _, by show s.length - (i + 1) < s.length - i; omega, ⟨rfl, rfl, rfl, trivial⟩, by simp only [jN, seval, vint, qX] <;> rfl, by omega, hv1⟩
        ·
          have hcl2 : ¬ cl = 2 := of_decide_eq_false bt36
          refine awp_sel [0, 1, 5, 6, 7, 19] (by simp only [jN, seval, vint, qX] <;> with_reducible rfl) ?_
          repeat (refine awp_seq ?_)
          refine e_eval (by simp only [jA, jO, jN, seval, y3, vint, qX] <;> with_reducible rfl) (by decide) ?_
          repeat (refine awp_seq ?_)
          refine awp_cond rfl (by simp only [jN, seval, vint, qX] <;> with_reducible rfl) (fun bt40 => ?_) (fun bt40 => ?_)
          ·
            have hcl : cl = 3 := of_decide_eq_true bt40
            have hp : clsP cl c = isDigB c := by unfold clsP; rw [if_neg hcl0, if_neg hcl2, if_pos hcl]
            repeat (refine awp_seq ?_)
            refine g_eval (by simp only [jG, jO, jN, seval, y5, vint, qX, g48, l57] <;> with_reducible rfl) (by decide) (by repeat (first | exact Fin.base _ | with_reducible apply Fin.keep | apply Fin.drop)) ?_
            repeat (refine awp_seq ?_)
            refine e_eval (by simp only [jA, jO, jN, seval, vint, qX] <;> with_reducible rfl) (by decide) ?_
            repeat (refine awp_seq ?_)
            refine awp_cond rfl (by simp only [jN, seval, vint, qX] <;> with_reducible rfl) (fun bt49 => ?_) (fun bt49 => ?_)
            ·
              have hf : clsP cl c = false := by rw [hp]; have h := bt49; first | (rw [Bool.not_eq_true'] at h; exact h) | (unfold notNl; rw [h]; rfl)
              have hv : (runL (clsP cl) s : Int) = i := by rw [hg.2, hd, hf]; simp
              repeat (refine awp_seq ?_)
              refine e_eval (by simp only [jA, jO, jN, seval, vint, qX] <;> with_reducible rfl) (by decide) ?_
              repeat (refine awp_seq ?_)
              refine awp_ret ⟨.inr rfl, _, rfl, ?_⟩
              simp only [jN, seval, vint, qX, hv]
              try rfl
            ·
              have hf : clsP cl c = true := by rw [hp]; have h := bt49; first | (rw [Bool.not_eq_false'] at h; exact h) | (unfold notNl; rw [h]; rfl)
              have hv1 : runL (clsP cl) s = (i + 1) + runL (clsP cl) (s.drop (i + 1)) := by rw [hg.2, hd, hf]; simp; omega
              repeat (refine awp_seq ?_)
              refine awp_skip ?_
              repeat (refine awp_seq ?_)
              refine e_eval (by simp only [jA, jO, jN, seval, y3, vint, qX, w1] <;> with_reducible rfl) (by decide) ?_
              try simp only [thenQ, blockQ]
              exact ⟨i + 1, _, by show s.length - (i + 1) < s.length - i; omega, ⟨rfl, rfl, rfl, trivial⟩, by simp only [jN, seval, vint, qX] <;> rfl, by omega, hv1⟩
          ·
            have hcl3 : ¬ cl = 3 := of_decide_eq_false bt40
            have hp : clsP cl c = notNl c := by unfold clsP; rw [if_neg hcl0, if_neg hcl2, if_neg hcl3]
            repeat (refine awp_seq ?_)
            refine awp_skip ?_
            repeat (refine awp_seq ?_)
            refine e_eval (by simp only [jA, jO, jN, seval, vint, qX] <;> with_reducible rfl) (by decide) ?_
            repeat (refine awp_seq ?_)
            refine awp_cond rfl (by simp only [jN, seval, vint, qX] <;> with_reducible rfl) (fun bt49 => ?_) (fun bt49 => ?_)
            ·
              have hf : clsP cl c = false := by rw [hp]; have h := bt49; first | (rw [Bool.not_eq_true'] at h; exact h) | (unfold notNl; rw [h]; rfl)
              have hv : (runL (clsP cl) s : Int) = i := by rw [hg.2, hd, hf]; simp
              repeat (refine awp_seq ?_)
              refine e_eval (by simp only [jA, jO, jN, seval, vint, qX] <;> with_reducible rfl) (by decide) ?_
              repeat (refine awp_seq ?_)
              refine awp_ret ⟨.inr rfl, _, rfl, ?_⟩
              simp only [jN, seval, vint, qX, hv]
              try rfl
            ·
              have hf : clsP cl c = true := by rw [hp]; have h := bt49; first | (rw [Bool.not_eq_false'] at h; exact h) | (unfold notNl; rw [h]; rfl)
              have hv1 : runL (clsP cl) s = (i + 1) + runL (clsP cl) (s.drop (i + 1)) := by rw [hg.2, hd, hf]; simp; omega
              repeat (refine awp_seq ?_)
              refine awp_skip ?_
              repeat (refine awp_seq ?_)
              refine e_eval (by simp only [jA, jO, jN, seval, y3, vint, qX, w1] <;> with_reducible rfl) (by decide) ?_
              try simp only [thenQ, blockQ]
              exact ⟨i + 1, _, by show s.length - (i + 1) < s.length - i; omega, ⟨rfl, rfl, rfl, trivial⟩, by simp only [jN, seval, vint, qX] <;> rfl, by omega, hv1⟩
    ·
      have hi : i = s.length := by have := of_decide_eq_false bt11; omega
      have hv : (runL (clsP cl) s : Int) = s.length := by rw [hg.2, hi, List.drop_length]; simp [runL]
      repeat (refine awp_seq ?_)
      refine awp_exit ?_
      simp only [thenQ, blockQ, reduceIte, Nat.reduceEqDiff, Nat.succ_ne_self, if_true, if_false]
      repeat (refine awp_seq ?_)
      refine e_eval (by simp only [jA, jO, jN, seval, y9, vint, qX] <;> with_reducible rfl) (by decide) ?_
      repeat (refine awp_seq ?_)
      refine awp_ret ⟨.inr rfl, _, rfl, ?_⟩
      simp only [jN, seval, vint, qX, hv]
      try rfl

end Go.Abs
set_option maxRecDepth 4000
namespace Go.Abs
open Go.Proofs

def litV (s : List UInt8) : Nat := match litG false (s.drop 1) with | some k => k + 1 | none => 0

theorem scan_c (s : List UInt8) (hs : s.length ≤ maxLen) (p : UInt8 → Bool) (f : FuncId) (hgo : goFn Tryd.prog f = true) (hp : ∀ c : UInt8, PC Tryd.prog f [.int .u8 c.toNat] (.bool (p c))) (st : Nat) (hst : st ≤ s.length) : PC Tryd.prog 16 [.str s, vint (st : Int), .fn (.func f) [] []] (vint ((st + runL p (s.drop st) : Nat) : Int)) := by
  have em : maxLen = 9223372036854775807 := by decide
  refine pc_of (N := 21) Tryd.func16 rfl rfl (by simp) (by simp [Bel.int, Bel.str, bel_fn0]) (.int _ _) ?_
  repeat (refine awp_seq ?_)
  refine e_eval (by simp only [jA, jO, jN, seval, vint, qX] <;> with_reducible rfl) (by decide) ?_
  repeat (refine awp_seq ?_)
  refine awp_block ?_
  refine awp_loopS (σ := Nat) (fun (i : Nat) => [(0, .str s), (1, vint (i : Int)), (2, .fn (.func f) [] [])]) ([]) (fun (i : Nat) => []) (fun (i : Nat) => s.length - i) (fun (i : Nat) => i ≤ s.length ∧ st + runL p (s.drop st) = i + runL p (s.drop i)) (st) ([]) ⟨(by first | rfl | (simp only [jN, seval, vint, qX] <;> first | done | with_reducible rfl)), (by first | rfl | (simp only [jN, seval, vint, qX] <;> first | done | with_reducible rfl)), (by first | rfl | (simp only [jN, seval, vint, qX] <;> first | done | with_reducible rfl)), trivial⟩ (by first | rfl | (simp only [jN, seval, vint, qX] <;> first | done | with_reducible rfl)) (⟨by omega, rfl⟩) (fun _ _ => by first | exact Nat.zero_le _ | (simp only [List.length_append]; omega)) ?_ ?_
  · exact fun i hg => ⟨by simp only [List.nil_append]; exact hbel_nil _, by repeat (first | exact BelL.nil | refine BelL.cons (by first | exact Tk.bel _ _ | exact bel_nil0 _ | exact bel_nil1 _ | exact Bel.int _ _ | exact Bel.bool _ | exact Bel.str _ | exact Bel.nilp | exact Bel.nilfn | exact Bel.optr _ _ (by simp) | exact bel_nil0 _ | exact bel_nil1 _ | exact bel_fn0 _ _ | assumption) ?_)⟩
  · intro i hg
    have hcs : i < s.length ∨ i = s.length := by omega
    rcases hcs with hi | hi
    ·
      have g1 := ix_nat hi
      obtain ⟨c, hc⟩ : ∃ c, s[i] = c := ⟨_, rfl⟩
      have g2 : s[i]? = some c := by rw [List.getElem?_eq_getElem hi, hc]
      have w1 : IntKind.i64.wrap ((i : Int) + 1) = ((i + 1 : Nat) : Int) := by rw [wrap_id (by omega) (by omega)]; omega
      have f1 : ((i : Int) < s.length) = True := by simp; omega
      have f0 : ((0 : Int) ≤ (i : Int)) = True := by simp
      have hd := runL_drop (p := p) hi
      rw [hc] at hd
      repeat (refine awp_seq ?_)
      refine awp_region ?_
      refine aops_gstart ?_
      refine g_take 9 (by simp only [jG, jO, jN, seval, y3, y9, vint, qX, f1, f0, g1, g2, w1, decide_true, Int.toNat_natCast] <;> with_reducible rfl) (by decide) ?_
      refine aops_gpure (by simp only [jE, jN, seval, vint, qX, f1, f0, g1, g2, w1, decide_true, Int.toNat_natCast] <;> with_reducible rfl) (by simp only [jE, jN, seval, vint, qX, f1, f0, g1, g2, w1, decide_true, Int.toNat_natCast] <;> with_reducible rfl) (by simp only [jE, jN, seval, vint, qX, f1, f0, g1, g2, w1, decide_true, Int.toNat_natCast]) (by decide) (by assumption) (fun hc => hp c _) ?_
      refine g_end (by simp only [jG, jO, jN, seval, vint, qX, f1, f0, g1, g2, w1, decide_true, Int.toNat_natCast] <;> with_reducible rfl) (by decide) (by repeat (first | exact Fin.base _ | with_reducible apply Fin.keep | apply Fin.drop)) ?_
      repeat (refine awp_seq ?_)
      refine awp_cond rfl (by simp only [jN, seval, vint, qX, f1, f0, g1, g2, w1, decide_true, Int.toNat_natCast] <;> with_reducible rfl) (fun bt17 => ?_) (fun bt17 => ?_)
      ·
        have hv1 : st + runL p (s.drop st) = (i + 1) + runL p (s.drop (i + 1)) := by rw [hg.2, hd, if_pos bt17]; omega
        repeat (refine awp_seq ?_)
        refine awp_skip ?_
        repeat (refine awp_seq ?_)
        refine awp_block ?_
        repeat (refine awp_seq ?_)
        refine e_eval (by simp only [jA, jO, jN, seval, y3, vint, qX, f1, f0, g1, g2, w1, decide_true, Int.toNat_natCast] <;> with_reducible rfl) (by decide) ?_
        try simp only [thenQ, blockQ]
        exact ⟨i + 1, _, by show s.length - (i + 1) < s.length - i; omega, ⟨rfl, rfl, rfl, trivial⟩, by simp only [jN, seval, vint, qX] <;> rfl, by omega, hv1⟩
      ·
        have hv : st + runL p (s.drop st) = i := by rw [hg.2, hd, bt17]; simp
        repeat (refine awp_seq ?_)
        refine awp_exit ?_
        simp only [thenQ, blockQ, reduceIte, Nat.reduceEqDiff, Nat.succ_ne_self, if_true, if_false]
        repeat (refine awp_seq ?_)
        refine e_eval (by simp only [jA, jO, jN, seval, vint, qX, f1, f0, g1, g2, w1, decide_true, Int.toNat_natCast] <;> with_reducible rfl) (by decide) ?_
        repeat (refine awp_seq ?_)
        refine awp_ret ⟨.inr rfl, _, rfl, ?_⟩
        simp only [jN, seval, vint, qX, hv]
        try rfl
    ·
      have f1 : ((i : Int) < s.length) = False := by simp; omega
      have hv : st + runL p (s.drop st) = i := by rw [hg.2, hi, List.drop_length]; simp [runL]
      repeat (refine awp_seq ?_)
      refine awp_region ?_
      refine aops_gstart ?_
      refine g_take 8 (by simp only [jG, jO, jN, seval, y3, y9, vint, qX, f1, decide_false] <;> with_reducible rfl) (by decide) ?_
      refine aops_gskip (r := .tup []) (by simp only [jE, jN, seval, vint, qX, f1, decide_false] <;> with_reducible rfl) ?_
      refine aops_gskip (r := .tup []) (by simp only [jE, jN, seval, vint, qX, f1, decide_false] <;> with_reducible rfl) ?_
      refine g_end (by simp only [jG, jO, jN, seval, vint, qX, f1, decide_false] <;> with_reducible rfl) (by decide) (by repeat (first | exact Fin.base _ | with_reducible apply Fin.keep | apply Fin.drop)) ?_
      repeat (refine awp_seq ?_)
      refine awp_cond_false rfl (by simp only [jN, seval, vint, qX, f1, decide_false] <;> with_reducible rfl) ?_
      repeat (refine awp_seq ?_)
      refine awp_exit ?_
      simp only [thenQ, blockQ, reduceIte, Nat.reduceEqDiff, Nat.succ_ne_self, if_true, if_false]
      repeat (refine awp_seq ?_)
      refine e_eval (by simp only [jA, jO, jN, seval, vint, qX, f1, decide_false] <;> with_reducible rfl) (by decide) ?_
      repeat (refine awp_seq ?_)
      refine awp_ret ⟨.inr rfl, _, rfl, ?_⟩
      simp only [jN, seval, vint, qX, hv]
      try rfl

theorem literal_c (s : List UInt8) (hs : s.length ≤ maxLen) (h1 : 1 ≤ s.length) : PC Tryd.prog 29 [.str s] (vint (litV s : Int)) := by
  have em : maxLen = 9223372036854775807 := by decide
  refine pc_of (N := 35) Tryd.func29 rfl rfl (by simp) (by simp [Bel.int, Bel.str]) (.int _ _) ?_
  repeat (refine awp_seq ?_)
  refine e_eval (by simp only [jA, jO, jN, seval, vint, qX] <;> with_reducible rfl) (by decide) ?_
  repeat (refine awp_seq ?_)
  refine e_eval (by simp only [jA, jO, jN, seval, vint, qX] <;> with_reducible rfl) (by decide) ?_
  repeat (refine awp_seq ?_)
  refine e_eval (by simp only [jA, jO, jN, seval, vint, qX] <;> with_reducible rfl) (by decide) ?_
  repeat (refine awp_seq ?_)
  refine awp_block ?_
  refine awp_loopS (σ := Nat × Bool) (fun (q : Nat × Bool) => [(0, .str s), (3, .bool q.2), (4, vint (q.1 : Int))]) ([]) (fun (q : Nat × Bool) => []) (fun (q : Nat × Bool) => s.length - q.1) (fun (q : Nat × Bool) => 1 ≤ q.1 ∧ q.1 ≤ s.length ∧ litG false (s.drop 1) = (litG q.2 (s.drop q.1)).map (· + (q.1 - 1))) ((1, false)) ([]) ⟨(by first | rfl | (simp only [jN, seval, vint, qX] <;> first | done | with_reducible rfl)), (by first | rfl | (simp only [jN, seval, vint, qX] <;> first | done | with_reducible rfl)), (by first | rfl | (simp only [jN, seval, vint, qX] <;> first | done | with_reducible rfl)), trivial⟩ (by first | rfl | (simp only [jN, seval, vint, qX] <;> first | done | with_reducible rfl)) (⟨by simp, by simpa using h1, by simp⟩) (fun _ _ => by first | exact Nat.zero_le _ | (simp only [List.length_append]; omega)) ?_ ?_
  · exact fun q hg => ⟨by simp only [List.nil_append]; exact hbel_nil _, by repeat (first | exact BelL.nil | refine BelL.cons (by first | exact Tk.bel _ _ | exact bel_nil0 _ | exact bel_nil1 _ | exact Bel.int _ _ | exact Bel.bool _ | exact Bel.str _ | exact Bel.nilp | exact Bel.nilfn | exact Bel.optr _ _ (by simp) | exact bel_nil0 _ | exact bel_nil1 _ | exact bel_fn0 _ _ | assumption) ?_)⟩
  · intro q hg
    obtain ⟨i, e⟩ := q
    obtain ⟨hq1, hq2, hq3⟩ := hg
    simp only at hq1 hq2 hq3
    have hcs : i < s.length ∨ i = s.length := by omega
    rcases hcs with hi | hi
    ·
      have g1 := ix_nat hi
      obtain ⟨c, hc⟩ : ∃ c, s[i] = c := ⟨_, rfl⟩
      have g2 : s[i]? = some c := by rw [List.getElem?_eq_getElem hi, hc]
      have w1 : IntKind.i64.wrap ((i : Int) + 1) = ((i + 1 : Nat) : Int) := by rw [wrap_id (by omega) (by omega)]; omega
      have f1 : ((i : Int) < s.length) = True := by simp; omega
      have f0 : ((0 : Int) ≤ (i : Int)) = True := by simp
      have e10 : decide ((c.toNat : Int) = 10) = (c == 10) := u8_eq c 10 (by decide)
      have e34 : decide ((c.toNat : Int) = 34) = (c == 34) := u8_eq c 34 (by decide)
      have e92 : decide ((c.toNat : Int) = 92) = (c == 92) := u8_eq c 92 (by decide)
      have hd : s.drop i = c :: s.drop (i + 1) := by rw [List.drop_eq_getElem_cons hi, hc]
      rw [hd, litG] at hq3
      repeat (refine awp_seq ?_)
      refine g_eval (by simp only [jG, jO, jN, seval, y3, y5, y9, vint, qX, f1, f0, g1, g2, w1, e10, e34, e92, decide_true, Int.toNat_natCast] <;> with_reducible rfl) (by decide) (by repeat (first | exact Fin.base _ | with_reducible apply Fin.keep | apply Fin.drop)) ?_
      repeat (refine awp_seq ?_)
      refine awp_cond rfl (by simp only [jN, seval, vint, qX, f1, f0, g1, g2, w1, e10, e34, e92, decide_true, Int.toNat_natCast] <;> with_reducible rfl) (fun bt14 => ?_) (fun bt14 => ?_)
      ·
        have h10 : ¬ c = 10 := by simpa using bt14
        rw [if_neg h10] at hq3
        repeat (refine awp_seq ?_)
        refine awp_skip ?_
        repeat (refine awp_seq ?_)
        refine awp_block ?_
        repeat (refine awp_seq ?_)
        refine g_eval (by simp only [jG, jO, jN, seval, y5, y9, vint, qX, f1, f0, g1, g2, w1, e10, e34, e92, decide_true, Int.toNat_natCast] <;> with_reducible rfl) (by decide) (by repeat (first | exact Fin.base _ | with_reducible apply Fin.keep | apply Fin.drop)) ?_
        repeat (refine awp_seq ?_)
        refine awp_cond rfl (by simp only [jN, seval, vint, qX, f1, f0, g1, g2, w1, e10, e34, e92, decide_true, Int.toNat_natCast] <;> with_reducible rfl) (fun bt24 => ?_) (fun bt24 => ?_)
        ·
          have h34 : c = 34 ∧ e = false := by simpa using bt24
          have hv : litV s = i + 1 := by unfold litV; rw [hq3, if_pos h34]; simp; omega
          refine awp_sel [0, 3, 4] (by simp only [jN, seval, vint, qX, f1, f0, g1, g2, w1, e10, e34, e92, decide_true, Int.toNat_natCast] <;> with_reducible rfl) ?_
          repeat (refine awp_seq ?_)
          refine e_eval (by simp only [jA, jO, jN, seval, y3, vint, qX, f1, f0, g1, g2, w1, e10, e34, e92, decide_true, Int.toNat_natCast] <;> with_reducible rfl) (by decide) ?_
          repeat (refine awp_seq ?_)
          refine awp_ret ⟨.inr rfl, _, rfl, ?_⟩
          simp only [jN, seval, vint, qX, hv]
          try rfl
        ·
          have h34 : ¬ (c = 34 ∧ e = false) := by simpa using bt24
          rw [if_neg h34] at hq3
          repeat (refine awp_seq ?_)
          refine awp_skip ?_
          refine awp_sel [0, 3, 4] (by simp only [jN, seval, vint, qX, f1, f0, g1, g2, w1, e10, e34, e92, decide_true, Int.toNat_natCast] <;> with_reducible rfl) ?_
          repeat (refine awp_seq ?_)
          refine g_eval (by simp only [jG, jO, jN, seval, y5, y9, vint, qX, f1, f0, g1, g2, w1, e10, e34, e92, decide_true, Int.toNat_natCast] <;> with_reducible rfl) (by decide) (by repeat (first | exact Fin.base _ | with_reducible apply Fin.keep | apply Fin.drop)) ?_
          repeat (refine awp_seq ?_)
          refine e_eval (by simp only [jA, jO, jN, seval, y3, vint, qX, f1, f0, g1, g2, w1, e10, e34, e92, decide_true, Int.toNat_natCast] <;> with_reducible rfl) (by decide) ?_
          try simp only [thenQ, blockQ]
          exact ⟨(i + 1, (c == 92) && !e), _, by show s.length - (i + 1) < s.length - i; omega, ⟨rfl, rfl, rfl, trivial⟩, by simp only [jN, seval, vint, qX] <;> rfl, by show 1 ≤ i + 1; omega, by show i + 1 ≤ s.length; omega, by rw [hq3, Option.map_map, show (decide (c = 92) && !e) = ((c == 92) && !e) from rfl]; congr 1; funext x; simp; omega⟩
      ·
        have h10 : c = 10 := by simpa using bt14
        have hv : litV s = 0 := by unfold litV; rw [hq3, if_pos h10]; rfl
        repeat (refine awp_seq ?_)
        refine awp_exit ?_
        simp only [thenQ, blockQ, reduceIte, Nat.reduceEqDiff, Nat.succ_ne_self, if_true, if_false]
        repeat (refine awp_seq ?_)
        refine e_eval (by simp only [jA, jO, jN, seval, vint, qX, f1, f0, g1, g2, w1, e10, e34, e92, decide_true, Int.toNat_natCast] <;> with_reducible rfl) (by decide) ?_
        repeat (refine awp_seq ?_)
        refine awp_ret ⟨.inr rfl, _, rfl, ?_⟩
        simp only [jN, seval, vint, qX, hv]
        try rfl
    ·
      have f1 : ((i : Int) < s.length) = False := by simp; omega
      have hv : litV s = 0 := by unfold litV; rw [hq3, hi, List.drop_length]; rfl
      repeat (refine awp_seq ?_)
      refine awp_region ?_
      refine aops_gstart ?_
      refine g_take 7 (by simp only [jG, jO, jN, seval, y3, y9, vint, qX, f1, decide_false] <;> with_reducible rfl) (by decide) ?_
      refine aops_gskip (r := .tup []) (by simp only [jE, jN, seval, vint, qX, f1, decide_false] <;> with_reducible rfl) ?_
      refine aops_gskip (r := .tup []) (by simp only [jE, jN, seval, vint, qX, f1, decide_false] <;> with_reducible rfl) ?_
      refine g_end (by simp only [jG, jO, jN, seval, vint, qX, f1, decide_false] <;> with_reducible rfl) (by decide) (by repeat (first | exact Fin.base _ | with_reducible apply Fin.keep | apply Fin.drop)) ?_
      repeat (refine awp_seq ?_)
      refine awp_cond_false rfl (by simp only [jN, seval, vint, qX, f1, decide_false] <;> with_reducible rfl) ?_
      repeat (refine awp_seq ?_)
      refine awp_exit ?_
      simp only [thenQ, blockQ, reduceIte, Nat.reduceEqDiff, Nat.succ_ne_self, if_true, if_false]
      repeat (refine awp_seq ?_)
      refine e_eval (by simp only [jA, jO, jN, seval, vint, qX, f1, decide_false] <;> with_reducible rfl) (by decide) ?_
      repeat (refine awp_seq ?_)
      refine awp_ret ⟨.inr rfl, _, rfl, ?_⟩
      simp only [jN, seval, vint, qX, hv]
      try rfl

end Go.Abs
set_option maxRecDepth 4000
namespace Go.Abs
open Go.Proofs

theorem bel_strs0 (n : Nat) (l : List (List UInt8)) : Bel n (.slice (l.map PV.str) .none) := .slice _ _ (fun e he c hc => by
  obtain ⟨s, _, rfl⟩ := List.mem_map.1 he
  have hc : c ∈ [PV.str s] := hc
  rw [List.mem_singleton.1 hc]; exact .str _) (fun i e => by cases e)
theorem any_contains (us : List (List UInt8)) (v : List UInt8) : (us.any fun x => decide (v = x)) = us.contains v := by
  induction us with
  | nil => rfl
  | cons a l ih => rw [List.any_cons, List.contains_cons, ih, show decide (v = a) = (v == a) from by rw [Bool.eq_iff_iff]; simp]

theorem first1 (c : UInt8) : PC Tryd.prog 18 [.int .u8 c.toNat] (.bool (notNl c)) := by
  have e10 : decide ((c.toNat : Int) = 10) = (c == 10) := u8_eq c 10 (by decide)
  refine pc_of (N := 5) Tryd.func18 rfl rfl (by simp) (by simp [Bel.int, Bel.str]) (.bool _) ?_
  repeat (refine awp_seq ?_)
  refine e_eval (by simp only [jA, jO, jN, seval, vint, qX] <;> with_reducible rfl) (by decide) ?_
  repeat (refine awp_seq ?_)
  refine e_eval (by simp only [jA, jO, jN, seval, y5, vint, qX] <;> with_reducible rfl) (by decide) ?_
  repeat (refine awp_seq ?_)
  refine awp_ret ⟨.inr rfl, _, rfl, ?_⟩
  simp only [jN, seval, vint, qX, e10]
  try rfl

theorem scan1 (c : UInt8) : PC Tryd.prog 35 [.int .u8 c.toNat] (.bool (notNl c)) := by
  have e10 : decide ((c.toNat : Int) = 10) = (c == 10) := u8_eq c 10 (by decide)
  refine pc_of (N := 5) Tryd.func35 rfl rfl (by simp) (by simp [Bel.int, Bel.str]) (.bool _) ?_
  repeat (refine awp_seq ?_)
  refine e_eval (by simp only [jA, jO, jN, seval, vint, qX] <;> with_reducible rfl) (by decide) ?_
  repeat (refine awp_seq ?_)
  refine e_eval (by simp only [jA, jO, jN, seval, y5, vint, qX] <;> with_reducible rfl) (by decide) ?_
  repeat (refine awp_seq ?_)
  refine awp_ret ⟨.inr rfl, _, rfl, ?_⟩
  simp only [jN, seval, vint, qX, e10]
  try rfl

theorem first2 (c : UInt8) : PC Tryd.prog 20 [.int .u8 c.toNat] (.bool (wordB c)) := by
  refine pc_of (N := 9) Tryd.func20 rfl rfl (by simp) (by simp [Bel.int, Bel.str]) (.bool _) ?_
  repeat (refine awp_seq ?_)
  refine e_eval (by simp only [jA, jO, jN, seval, vint, qX] <;> with_reducible rfl) (by decide) ?_
  repeat (refine awp_seq ?_)
  refine awp_region ?_
  refine aops_gstart ?_
  refine g_take 1 (by simp only [jG, jO, jN, seval, vint, qX] <;> with_reducible rfl) (by decide) ?_
  refine aops_gpure (by simp only [jE, jN, seval, vint, qX] <;> with_reducible rfl) (by simp only [jE, jN, seval, vint, qX] <;> with_reducible rfl) (by simp only [jE, jN, seval, vint, qX]) (by decide) Trydgo19 (fun hc => isLetter_c c _) ?_
  refine g_take 2 (by simp only [jG, jO, jN, seval, vint, qX] <;> with_reducible rfl) (by decide) ?_
  refine aops_gpure (by simp only [jE, jN, seval, vint, qX] <;> with_reducible rfl) (by simp only [jE, jN, seval, vint, qX] <;> with_reducible rfl) (by simp only [jE, jN, seval, vint, qX]) (by decide) Trydgo21 (fun hc => isDigit_c c _) ?_
  refine g_end (by simp only [jG, jO, jN, seval, vint, qX] <;> with_reducible rfl) (by decide) (by repeat (first | exact Fin.base _ | with_reducible apply Fin.keep | apply Fin.drop)) ?_
  repeat (refine awp_seq ?_)
  refine awp_ret ⟨.inr rfl, _, rfl, ?_⟩
  simp only [jN, seval, vint, qX]
  try rfl

theorem idxStr (us : List (List UInt8)) (v : List UInt8) (hx : us.length ≤ maxLen) : PC Tryd.prog 34 [.slice (us.map PV.str) .none, .str v] (vint (idxI (fun x => decide (v = x)) us)) := by
  refine pc_of (N := 19) Tryd.func34 rfl rfl (by simp) (by simp [Bel.int, Bel.str, bel_strs0]) (.int _ _) ?_
  repeat (refine awp_seq ?_)
  refine e_eval (by simp only [jA, jO, jN, seval, vint, qX] <;> with_reducible rfl) (by decide) ?_
  repeat (refine awp_seq ?_)
  refine e_eval (by simp only [jA, jO, jN, seval, y9, y33, vint, qX] <;> with_reducible rfl) (by decide) ?_
  repeat (refine awp_seq ?_)
  refine awp_forS (σ := Unit) (us.length) (fun (s : Unit) => [(0, .slice (us.map PV.str) .none), (1, .str v)]) [0, 1] ([]) (fun (s : Unit) => []) (fun (i : Nat) (s : Unit) => (us.take i).any (fun x => decide (v = x)) = false) (()) ([]) rfl rfl rfl rfl rfl rfl rfl rfl rfl (by decide) (by decide) (by decide) (fun _ => rfl) (hx) ⟨(by first | rfl | (simp only [jN, seval, vint, qX] <;> first | done | with_reducible rfl)), (by first | rfl | (simp only [jN, seval, vint, qX] <;> first | done | with_reducible rfl)), (by first | rfl | (simp only [jN, seval, vint, qX] <;> first | done | with_reducible rfl)), (by first | rfl | (simp only [jN, seval, vint, qX] <;> first | done | with_reducible rfl)), trivial⟩ (by first | rfl | (simp only [jN, seval, vint, qX] <;> first | done | with_reducible rfl)) (by simp) (fun _ _ _ => by first | exact Nat.zero_le _ | (simp only [List.length_append]; omega)) ?_ ?_ ?_
  · exact fun i s hg => ⟨by first | exact hbel_nil _ | (simp only [List.append_nil]; assumption) | (refine hbel_app' hb' (by simp) ?_; repeat (first | exact hbel_nil _ | exact trivial | exact obel_row_nil _ | (refine HBel.cons ?_ ?_) | (refine obel_row_cons (by first | exact bel_strs0 _ _ | exact Tk.bel _ _ | exact bel_nil0 _ | exact bel_nil1 _ | exact Bel.int _ _ | exact Bel.bool _ | exact Bel.str _ | exact Bel.nilp | exact Bel.nilfn | exact Bel.optr _ _ (by simp) | exact bel_nil0 _ | exact bel_nil1 _ | exact bel_fn0 _ _ | assumption) ?_))), by repeat (first | exact BelL.nil | refine BelL.cons (by first | exact bel_strs0 _ _ | exact Tk.bel _ _ | exact bel_nil0 _ | exact bel_nil1 _ | exact Bel.int _ _ | exact Bel.bool _ | exact Bel.str _ | exact Bel.nilp | exact Bel.nilfn | exact Bel.optr _ _ (by simp) | exact bel_nil0 _ | exact bel_nil1 _ | exact bel_fn0 _ _ | assumption) ?_)⟩
  · intro i s hi hg
    have g1 := ix_nat hi
    have g2 := get_enc PV.str hi
    repeat (refine awp_seq ?_)
    refine e_eval (by simp only [jA, jO, jN, seval, vint, qX, g1, Int.toNat_natCast, g2] <;> with_reducible rfl) (by decide) ?_
    repeat (refine awp_seq ?_)
    refine e_eval (by simp only [jA, jO, jN, seval, y9, y33, vint, qX, g1, Int.toNat_natCast, g2] <;> with_reducible rfl) (by decide) ?_
    repeat (refine awp_seq ?_)
    refine awp_cond rfl (by simp only [jN, seval, vint, qX, g1, Int.toNat_natCast, g2] <;> with_reducible rfl) (fun b0 => ?_) (fun b0 => ?_)
    ·
      repeat (refine awp_seq ?_)
      refine e_eval (by simp only [jA, jO, jN, seval, vint, qX, g1, Int.toNat_natCast, g2] <;> with_reducible rfl) (by decide) ?_
      repeat (refine awp_seq ?_)
      refine awp_ret ⟨.inr rfl, _, rfl, ?_⟩
      rw [idxI_at hi b0 hg]; rfl
    ·
      repeat (refine awp_seq ?_)
      refine awp_skip ?_
      exact ⟨⟨rfl, rfl, trivial⟩, (), [], ⟨rfl, rfl, trivial⟩, rfl, any_take_succ hi hg b0⟩
  · intro s hg
    rw [List.take_length] at hg
    repeat (refine awp_seq ?_)
    refine e_eval (by simp only [jA, jO, jN, seval, vint, qX] <;> with_reducible rfl) (by decide) ?_
    repeat (refine awp_seq ?_)
    refine awp_ret ⟨.inr rfl, _, rfl, ?_⟩
    rw [idxI_none hg]; rfl

theorem contStr (us : List (List UInt8)) (v : List UInt8) (hx : us.length ≤ maxLen) : PC Tryd.prog 22 [.slice (us.map PV.str) .none, .str v] (.bool (us.contains v)) := by
  refine pc_of (N := 9) Tryd.func22 rfl rfl (by simp) (by simp [Bel.int, Bel.str, bel_strs0]) (.bool _) ?_
  repeat (refine awp_seq ?_)
  refine e_eval (by simp only [jA, jO, jN, seval, vint, qX] <;> with_reducible rfl) (by decide) ?_
  repeat (refine awp_seq ?_)
  refine awp_region ?_
  refine e_take 2 (by simp only [jA, jO, jN, seval, vint, qX] <;> with_reducible rfl) (by decide) ?_
  refine aops_pure (by simp only [jC, jN, seval, vint, qX] <;> with_reducible rfl) (by simp only [jC, jN, seval, vint, qX]) (by decide) Trydgo34 (idxStr us v hx _) ?_
  refine e_end (by simp only [jA, jO, jN, seval, y3, vint, qX] <;> with_reducible rfl) (by decide) ?_
  repeat (refine awp_seq ?_)
  refine awp_ret ⟨.inr rfl, _, rfl, ?_⟩
  rw [← any_contains, ← idxI_nonneg]; rfl

theorem contR (us : List (List UInt8)) (v : List UInt8) (hx : us.length ≤ maxLen) : PC Tryd.prog 28 [.slice (us.map PV.str) .none, .str v] (.bool (us.contains v)) := by
  refine pc_of (N := 17) Tryd.func28 rfl rfl (by simp) (by simp [Bel.int, Bel.str, bel_strs0]) (.bool _) ?_
  repeat (refine awp_seq ?_)
  refine e_eval (by simp only [jA, jO, jN, seval, vint, qX] <;> with_reducible rfl) (by decide) ?_
  repeat (refine awp_seq ?_)
  refine e_eval (by simp only [jA, jO, jN, seval, y9, y33, vint, qX] <;> with_reducible rfl) (by decide) ?_
  repeat (refine awp_seq ?_)
  refine awp_forS (σ := Unit) (us.length) (fun (s : Unit) => [(0, .slice (us.map PV.str) .none), (1, .str v), (7, .slice (us.map PV.str) .none)]) [0, 1, 7] ([]) (fun (s : Unit) => []) (fun (i : Nat) (s : Unit) => (us.take i).any (fun x => decide (v = x)) = false) (()) ([]) rfl rfl rfl rfl rfl rfl rfl rfl rfl (by decide) (by decide) (by decide) (fun _ => rfl) (hx) ⟨(by first | rfl | (simp only [jN, seval, vint, qX] <;> first | done | with_reducible rfl)), (by first | rfl | (simp only [jN, seval, vint, qX] <;> first | done | with_reducible rfl)), (by first | rfl | (simp only [jN, seval, vint, qX] <;> first | done | with_reducible rfl)), (by first | rfl | (simp only [jN, seval, vint, qX] <;> first | done | with_reducible rfl)), (by first | rfl | (simp only [jN, seval, vint, qX] <;> first | done | with_reducible rfl)), trivial⟩ (by first | rfl | (simp only [jN, seval, vint, qX] <;> first | done | with_reducible rfl)) (by simp) (fun _ _ _ => by first | exact Nat.zero_le _ | (simp only [List.length_append]; omega)) ?_ ?_ ?_
  · exact fun i s hg => ⟨by first | exact hbel_nil _ | (simp only [List.append_nil]; assumption) | (refine hbel_app' hb' (by simp) ?_; repeat (first | exact hbel_nil _ | exact trivial | exact obel_row_nil _ | (refine HBel.cons ?_ ?_) | (refine obel_row_cons (by first | exact bel_strs0 _ _ | exact Tk.bel _ _ | exact bel_nil0 _ | exact bel_nil1 _ | exact Bel.int _ _ | exact Bel.bool _ | exact Bel.str _ | exact Bel.nilp | exact Bel.nilfn | exact Bel.optr _ _ (by simp) | exact bel_nil0 _ | exact bel_nil1 _ | exact bel_fn0 _ _ | assumption) ?_))), by repeat (first | exact BelL.nil | refine BelL.cons (by first | exact bel_strs0 _ _ | exact Tk.bel _ _ | exact bel_nil0 _ | exact bel_nil1 _ | exact Bel.int _ _ | exact Bel.bool _ | exact Bel.str _ | exact Bel.nilp | exact Bel.nilfn | exact Bel.optr _ _ (by simp) | exact bel_nil0 _ | exact bel_nil1 _ | exact bel_fn0 _ _ | assumption) ?_)⟩
  · intro i s hi hg
    have g1 := ix_nat hi
    have g2 := get_enc PV.str hi
    repeat (refine awp_seq ?_)
    refine e_eval (by simp only [jA, jO, jN, seval, y9, y33, vint, qX, g1, Int.toNat_natCast, g2] <;> with_reducible rfl) (by decide) ?_
    repeat (refine awp_seq ?_)
    refine e_eval (by simp only [jA, jO, jN, seval, y9, vint, qX, g1, Int.toNat_natCast, g2] <;> with_reducible rfl) (by decide) ?_
    repeat (refine awp_seq ?_)
    refine awp_cond rfl (by simp only [jN, seval, vint, qX, g1, Int.toNat_natCast, g2] <;> with_reducible rfl) (fun b0 => ?_) (fun b0 => ?_)
    ·
      repeat (refine awp_seq ?_)
      refine e_eval (by simp only [jA, jO, jN, seval, vint, qX, g1, Int.toNat_natCast, g2] <;> with_reducible rfl) (by decide) ?_
      repeat (refine awp_seq ?_)
      refine awp_ret ⟨.inr rfl, _, rfl, ?_⟩
      have hv : us.contains v = true := by rw [← any_contains]; exact List.any_eq_true.2 ⟨_, List.getElem_mem hi, b0⟩
      simp only [jN, seval, vint, qX, hv]
    ·
      repeat (refine awp_seq ?_)
      refine awp_skip ?_
      exact ⟨⟨rfl, rfl, trivial⟩, (), [], ⟨rfl, rfl, rfl, trivial⟩, rfl, any_take_succ hi hg b0⟩
  · intro s hg
    rw [List.take_length] at hg
    have hv : us.contains v = false := by rw [← any_contains]; exact hg
    repeat (refine awp_seq ?_)
    refine e_eval (by simp only [jA, jO, jN, seval, vint, qX] <;> with_reducible rfl) (by decide) ?_
    repeat (refine awp_seq ?_)
    refine awp_ret ⟨.inr rfl, _, rfl, ?_⟩
    simp only [jN, seval, vint, qX, hv]

theorem eqStrs (us : List (List UInt8)) (hx : us.length ≤ maxLen) : PC Tryd.prog 9 [.slice (us.map PV.str) .none, .slice (us.map PV.str) .none] (.bool true) := by
  refine pc_of (N := 26) Tryd.func9 rfl rfl (by simp) (by simp [Bel.int, Bel.str, bel_strs0]) (.bool _) ?_
  repeat (refine awp_seq ?_)
  refine e_eval (by simp only [jA, jO, jN, seval, vint, qX, decide_true, Bool.not_true] <;> with_reducible rfl) (by decide) ?_
  repeat (refine awp_seq ?_)
  refine e_eval (by simp only [jA, jO, jN, seval, y3, y9, y33, vint, qX, decide_true, Bool.not_true] <;> with_reducible rfl) (by decide) ?_
  repeat (refine awp_seq ?_)
  refine awp_cond_false rfl (by simp only [jN, seval, vint, qX, decide_true, Bool.not_true] <;> with_reducible rfl) ?_
  repeat (refine awp_seq ?_)
  refine awp_skip ?_
  repeat (refine awp_seq ?_)
  refine e_eval (by simp only [jA, jO, jN, seval, y9, y33, vint, qX, decide_true, Bool.not_true] <;> with_reducible rfl) (by decide) ?_
  repeat (refine awp_seq ?_)
  refine awp_forS (σ := Unit) (us.length) (fun (u_ : Unit) => [(0, .slice (us.map PV.str) .none), (1, .slice (us.map PV.str) .none)]) [0, 1] ([]) (fun (u_ : Unit) => []) (fun (i : Nat) (u_ : Unit) => True) (()) ([]) rfl rfl rfl rfl rfl rfl rfl rfl rfl (by decide) (by decide) (by decide) (fun _ => rfl) (hx) ⟨(by first | rfl | (simp only [jN, seval, vint, qX, decide_true, Bool.not_true] <;> first | done | with_reducible rfl)), (by first | rfl | (simp only [jN, seval, vint, qX, decide_true, Bool.not_true] <;> first | done | with_reducible rfl)), (by first | rfl | (simp only [jN, seval, vint, qX, decide_true, Bool.not_true] <;> first | done | with_reducible rfl)), (by first | rfl | (simp only [jN, seval, vint, qX, decide_true, Bool.not_true] <;> first | done | with_reducible rfl)), trivial⟩ (by first | rfl | (simp only [jN, seval, vint, qX, decide_true, Bool.not_true] <;> first | done | with_reducible rfl)) (by simp) (fun _ _ _ => by first | exact Nat.zero_le _ | (simp only [List.length_append]; omega)) ?_ ?_ ?_
  · exact fun i s hg => ⟨by first | exact hbel_nil _ | (simp only [List.append_nil]; assumption) | (refine hbel_app' hb' (by simp) ?_; repeat (first | exact hbel_nil _ | exact trivial | exact obel_row_nil _ | (refine HBel.cons ?_ ?_) | (refine obel_row_cons (by first | exact bel_strs0 _ _ | exact Tk.bel _ _ | exact bel_nil0 _ | exact bel_nil1 _ | exact Bel.int _ _ | exact Bel.bool _ | exact Bel.str _ | exact Bel.nilp | exact Bel.nilfn | exact Bel.optr _ _ (by simp) | exact bel_nil0 _ | exact bel_nil1 _ | exact bel_fn0 _ _ | assumption) ?_))), by repeat (first | exact BelL.nil | refine BelL.cons (by first | exact bel_strs0 _ _ | exact Tk.bel _ _ | exact bel_nil0 _ | exact bel_nil1 _ | exact Bel.int _ _ | exact Bel.bool _ | exact Bel.str _ | exact Bel.nilp | exact Bel.nilfn | exact Bel.optr _ _ (by simp) | exact bel_nil0 _ | exact bel_nil1 _ | exact bel_fn0 _ _ | assumption) ?_)⟩
  · intro i u_ hi hg
    have g1 := ix_nat hi
    have g2 := get_enc PV.str hi
    repeat (refine awp_seq ?_)
    refine e_eval (by simp only [jA, jO, jN, seval, vint, qX, decide_true, Bool.not_true, g1, Int.toNat_natCast, g2] <;> with_reducible rfl) (by decide) ?_
    repeat (refine awp_seq ?_)
    refine dp_draw (by kernel_rfl) ?_
    refine dp_end (by simp only [jP, jO, jN, seval, y9, y33, vint, qX, decide_true, Bool.not_true, g1, Int.toNat_natCast, g2] <;> with_reducible rfl) (by decide) (by repeat (first | exact Fin.base _ | with_reducible apply Fin.keep | apply Fin.drop)) ?_
    repeat (refine awp_seq ?_)
    refine awp_cond_false rfl (by simp only [jN, seval, vint, qX, decide_true, Bool.not_true, g1, Int.toNat_natCast, g2] <;> with_reducible rfl) ?_
    repeat (refine awp_seq ?_)
    refine awp_skip ?_
    exact ⟨⟨rfl, rfl, trivial⟩, (), [], ⟨rfl, rfl, trivial⟩, rfl, trivial⟩
  · intro u_ hg
    repeat (refine awp_seq ?_)
    refine e_eval (by simp only [jA, jO, jN, seval, vint, qX, decide_true, Bool.not_true] <;> with_reducible rfl) (by decide) ?_
    repeat (refine awp_seq ?_)
    refine awp_ret ⟨.inr rfl, _, rfl, ?_⟩
    simp only [jN, seval, vint, qX]

end Go.Abs
namespace Go.Proofs
open Go.Shelf
def Tryd.lays137_ren : Go.Shelf.Ren := ⟨fun | 137 => 25 | 217 => 36 | 266 => 39 | n => n, fun | 9 => 9 | 5 => 5 | 3 => 3 | n => n, fun | n => n⟩
theorem Tryd.lays137 : Go.Proofs.Lays.n137 Tryd.prog Tryd.lays137_ren := {
  mixed := by kernel_rfl
  f137 := Tryd.func25.trans (congrArg some (by kernel_rfl))
  f217 := Tryd.func36.trans (congrArg some (by kernel_rfl))
  f266 := Tryd.func39.trans (congrArg some (by kernel_rfl))
  t3 := Tryd.underlying3
  a3 := Tryd.isAgg3
  z3 := Tryd.sizeOf3
  v3 := Tryd.zeroValue3
  t5 := Tryd.underlying5
  a5 := Tryd.isAgg5
  z5 := Tryd.sizeOf5
  v5 := Tryd.zeroValue5
  t9 := Tryd.underlying9
  a9 := Tryd.isAgg9
  z9 := Tryd.sizeOf9
  v9 := Tryd.zeroValue9 }
open Go.RowKit in
/-- strings.IndexByte: "IndexByte returns the index of the first instance of c in s, or -1 if c is not present in s.": IT RETURNS 'Lib.indexByte s c'; the world is as it was. (LAID: no walk: one application.) -/
theorem Tryd.strings_IndexByte (s : ByteArray) (c : Int) (w : World) :
    Calls Tryd.prog 25 #[.string s, .int .u8 c] w fun e w' => e = .returned (.int .i64 (Lib.indexByte s.data.toList c.toNat.toUInt8)) ∧ w' = w := Any.strings_IndexByte Tryd.lays137 s c w
def Tryd.lays99_ren : Go.Shelf.Ren := ⟨fun | 99 => 17 | 206 => 33 | n => n, fun | 9 => 9 | 4 => 4 | 3 => 3 | n => n, fun | n => n⟩
theorem Tryd.lays99 : Go.Proofs.Lays.n99 Tryd.prog Tryd.lays99_ren := {
  mixed := by kernel_rfl
  f99 := Tryd.func17.trans (congrArg some (by kernel_rfl))
  f206 := Tryd.func33.trans (congrArg some (by kernel_rfl))
  t3 := Tryd.underlying3
  a3 := Tryd.isAgg3
  z3 := Tryd.sizeOf3
  v3 := Tryd.zeroValue3
  t4 := Tryd.underlying4
  a4 := Tryd.isAgg4
  z4 := Tryd.sizeOf4
  v4 := Tryd.zeroValue4
  t9 := Tryd.underlying9
  a9 := Tryd.isAgg9
  z9 := Tryd.sizeOf9
  v9 := Tryd.zeroValue9 }
open Go.RowKit Go.Lib in
/-- strings.HasPrefix: "HasPrefix reports whether the string s begins with prefix.": IT RETURNS 'Lib.hasPrefix s prefix'; the world is as it was. (LAID: no walk: one application.) -/
theorem Tryd.strings_HasPrefix (s p : ByteArray) (w : World) :
    Calls Tryd.prog 17 #[.string s, .string p] w fun e w' => e = .returned (.bool (Lib.hasPrefix s.data.toList p.data.toList)) ∧ w' = w := Any.strings_HasPrefix Tryd.lays99 s p w
def Tryd.lays157_ren : Go.Shelf.Ren := ⟨fun | 157 => 14 | 229 => 31 | 199 => 32 | 261 => 38 | 311 => 40 | 312 => 41 | n => n, fun | 9 => 9 | 31 => 33 | 3 => 3 | 5 => 5 | 4 => 4 | 119 => 47 | 0 => 0 | 40 => 49 | 152 => 51 | 21 => 21 | 154 => 53 | 51 => 54 | 141 => 56 | 196 => 60 | 193 => 57 | 198 => 63 | 49 => 61 | 194 => 58 | 201 => 66 | 226 => 68 | 46 => 69 | 227 => 70 | n => n, fun | 0 => 0 | 6 => 1 | n => n⟩
theorem Tryd.lays157 : Go.Proofs.Lays.n157 Tryd.prog Tryd.lays157_ren := {
  mixed := by kernel_rfl
  f157 := Tryd.func14.trans (congrArg some (by kernel_rfl))
  f199 := Tryd.func32.trans (congrArg some (by kernel_rfl))
  f229 := Tryd.func31.trans (congrArg some (by kernel_rfl))
  f261 := Tryd.func38.trans (congrArg some (by kernel_rfl))
  f311 := Tryd.func40.trans (congrArg some (by kernel_rfl))
  f312 := Tryd.func41.trans (congrArg some (by kernel_rfl))
  t0 := Tryd.underlying0
  a0 := Tryd.isAgg0
  z0 := Tryd.sizeOf0
  v0 := Tryd.zeroValue0
  t3 := Tryd.underlying3
  a3 := Tryd.isAgg3
  z3 := Tryd.sizeOf3
  v3 := Tryd.zeroValue3
  t4 := Tryd.underlying4
  a4 := Tryd.isAgg4
  z4 := Tryd.sizeOf4
  v4 := Tryd.zeroValue4
  t5 := Tryd.underlying5
  a5 := Tryd.isAgg5
  z5 := Tryd.sizeOf5
  v5 := Tryd.zeroValue5
  t9 := Tryd.underlying9
  a9 := Tryd.isAgg9
  z9 := Tryd.sizeOf9
  v9 := Tryd.zeroValue9
  t21 := Tryd.underlying21
  a21 := Tryd.isAgg21
  z21 := Tryd.sizeOf21
  v21 := Tryd.zeroValue21
  t31 := Tryd.underlying33
  a31 := Tryd.isAgg33
  z31 := Tryd.sizeOf33
  v31 := Tryd.zeroValue33
  t40 := Tryd.underlying49
  a40 := Tryd.isAgg49
  z40 := Tryd.sizeOf49
  v40 := Tryd.zeroValue49
  t46 := Tryd.underlying69
  a46 := Tryd.isAgg69
  z46 := Tryd.sizeOf69
  v46 := Tryd.zeroValue69
  t49 := Tryd.underlying61
  a49 := Tryd.isAgg61
  z49 := Tryd.sizeOf61
  v49 := Tryd.zeroValue61
  t51 := Tryd.underlying54
  a51 := Tryd.isAgg54
  z51 := Tryd.sizeOf54
  v51 := Tryd.zeroValue54
  t119 := Tryd.underlying47
  a119 := Tryd.isAgg47
  z119 := Tryd.sizeOf47
  t141 := Tryd.underlying56
  a141 := Tryd.isAgg56
  z141 := Tryd.sizeOf56
  v141 := Tryd.zeroValue56
  t152 := Tryd.underlying51
  a152 := Tryd.isAgg51
  z152 := Tryd.sizeOf51
  v152 := Tryd.zeroValue51
  t154 := Tryd.underlying53
  a154 := Tryd.isAgg53
  z154 := Tryd.sizeOf53
  v154 := Tryd.zeroValue53
  t193 := Tryd.underlying57
  a193 := Tryd.isAgg57
  z193 := Tryd.sizeOf57
  v193 := Tryd.zeroValue57
  t194 := Tryd.underlying58
  a194 := Tryd.isAgg58
  z194 := Tryd.sizeOf58
  v194 := Tryd.zeroValue58
  t196 := Tryd.underlying60
  a196 := Tryd.isAgg60
  z196 := Tryd.sizeOf60
  v196 := Tryd.zeroValue60
  t198 := Tryd.underlying63
  a198 := Tryd.isAgg63
  z198 := Tryd.sizeOf63
  v198 := Tryd.zeroValue63
  t201 := Tryd.underlying66
  a201 := Tryd.isAgg66
  z201 := Tryd.sizeOf66
  v201 := Tryd.zeroValue66
  t226 := Tryd.underlying68
  a226 := Tryd.isAgg68
  z226 := Tryd.sizeOf68
  v226 := Tryd.zeroValue68
  t227 := Tryd.underlying70
  a227 := Tryd.isAgg70
  z227 := Tryd.sizeOf70
  v227 := Tryd.zeroValue70
  g0 := by kernel_rfl
  g6 := by kernel_rfl }
open Go.RowKit Go.Lib in
/-- strings.Fields, the table by 'Lib.TabIs' (as strings.TrimSpace's contract). 'hg': the table's number, by its name: at a dump 'by kernel_rfl'. (LAID: no walk: one application.) -/
theorem Tryd.strings_Fields (s : ByteArray) (w : World) (hs : s.size < 4294967281) (hascii : ∀ (j : Nat) b, s.data.toList[j]? = some b → b.toNat < 128) (htab : Lib.TabIs Tryd.prog w "strings.asciiSpace" .u8 Lib.asciiSpaceTab) :
    Calls Tryd.prog 14 #[.string s] w fun e w' =>
      e = .returned (.slice (some ⟨w.heap.size, 0, none⟩) (Lib.fields s.data.toList).length (Lib.fields s.data.toList).length) ∧ w' = w.alloc (.cells ((Lib.fields s.data.toList).map fun l => Value.string ⟨l.toArray⟩).toArray 9) := Any.strings_Fields Tryd.lays157 (by kernel_rfl) (by kernel_rfl) s w hs hascii htab
end Go.Proofs
set_option maxRecDepth 4000
namespace Go.Abs
open Go.Proofs Go.RowKit

theorem rl_two {V : View} {vargs : Array Value} {p q : PV} (h : RL V vargs [p, q]) : ∃ v0 v1, vargs = #[v0, v1] ∧ VRel V v0 p ∧ VRel V v1 q := by
  obtain ⟨hsz, hr⟩ := h
  have h0 := hr 0 (by simp)
  have h1 := hr 1 (by simp)
  simp only [List.getElem_cons_zero, List.getElem_cons_succ] at h0 h1
  have hs : vargs.size = 2 := by simpa using hsz
  rw [Array.getD_eq_getD_getElem?, Array.getElem?_eq_getElem (by omega)] at h0 h1
  refine ⟨vargs[0], vargs[1], ?_, h0, h1⟩
  apply Array.ext <;> simp [hs]; intro i hi hi2; match i, hi2 with | 0, _ => rfl | 1, _ => rfl
theorem indexByte_c (s : List UInt8) (c : UInt8) : PC Tryd.prog 25 [.str s, .int .u8 c.toNat] (vint (Lib.indexByte s c)) := fun H => by
  refine acalls_below fun E vargs ho hH hrl => ?_
  obtain ⟨v0, v1, rfl, h0, h1⟩ := rl_two hrl
  cases h0 with
  | str z =>
    generalize hk : (PV.int IntKind.u8 (c.toNat : Int)) = p at h1
    cases h1 <;> cases hk
    refine ⟨_, VRel.int _ _, (Tryd.strings_IndexByte z (c.toNat : Int) E.w).mono fun e w' ⟨h1, h2⟩ => ⟨?_, h2 ▸ Below.refl _ _⟩⟩
    rw [h1]
    simp
theorem hasPrefix_c (s p : List UInt8) : PC Tryd.prog 17 [.str s, .str p] (.bool (Lib.hasPrefix s p)) := fun H => by
  refine acalls_below fun E vargs ho hH hrl => ?_
  obtain ⟨v0, v1, rfl, h0, h1⟩ := rl_two hrl
  cases h0 with
  | str z => cases h1 with
    | str y => exact ⟨_, VRel.bool _, (Tryd.strings_HasPrefix z y E.w).mono fun e w' ⟨h1, h2⟩ => ⟨h1, h2 ▸ Below.refl _ _⟩⟩

end Go.Abs
set_option maxRecDepth 4000
namespace Go.Abs
open Go.Proofs Go.RowKit

/-- The library's table of white space, as it is laid. -/
def spT : List Value := (List.range 256).map fun c => .int .u8 (if Lib.isSp (UInt8.ofNat c) then 1 else 0)
def G0 : Heap := [.glob (Tryd.lays157_ren.g 0) spT]
theorem rl_one {V : View} {vargs : Array Value} {p : PV} (h : RL V vargs [p]) : ∃ v0, vargs = #[v0] ∧ VRel V v0 p := by
  obtain ⟨hsz, hr⟩ := h
  have h0 := hr 0 (by simp)
  simp only [List.getElem_cons_zero] at h0
  have hs : vargs.size = 1 := by simpa using hsz
  rw [Array.getD_eq_getD_getElem?, Array.getElem?_eq_getElem (by omega)] at h0
  refine ⟨vargs[0], ?_, h0⟩
  apply Array.ext <;> simp [hs]; intro i hi; subst hi; rfl
theorem fields_c (s : List UInt8) (hs : s.length < 4294967281) (ha : ∀ b ∈ s, b.toNat < 128) (hf : (Lib.fields s).length ≤ maxLen) : PG G0 Tryd.prog 14 [.str s] (.slice ((Lib.fields s).map PV.str) .none) := fun H hG => by
  refine acalls_newStrs (t := 9) hf fun E vargs ho hH hrl => ?_
  obtain ⟨v0, rfl, h0⟩ := rl_one hrl
  cases h0 with
  | str z =>
    have hg := hG 0 _ rfl
    rw [← hH] at hg
    refine Any.strings_Fields_core Tryd.lays157 (by kernel_rfl) z E.w (by rw [Lib.size_eq]; exact hs) (fun j b hb => ha b (List.mem_of_getElem? hb)) fun c hc => ?_
    have hl : c < spT.length := by simpa [spT] using hc
    rw [glob_cell ho hg hl]
    simp [spT]

end Go.Abs
set_option maxRecDepth 4000
namespace Go.Abs
open Go.Proofs

theorem keywords_c_f : Lib.fields [117, 115, 101, 32, 112, 117, 98, 32, 97, 115, 32, 102, 110, 32, 115, 116, 114, 117, 99, 116, 32, 101, 110, 117, 109, 32, 116, 114, 97, 105, 116, 32, 105, 109, 112, 108, 32, 102, 111, 114, 32, 99, 111, 110, 115, 116, 32, 109, 97, 99, 114, 111, 32, 108, 101, 116, 32, 109, 117, 116, 32, 119, 104, 105, 108, 101, 32, 114, 101, 116, 117, 114, 110, 32, 109, 97, 116, 99, 104, 32, 105, 102, 32, 101, 108, 115, 101, 32, 110, 101, 119, 32, 116, 114, 117, 101, 32, 102, 97, 108, 115, 101, 32, 116, 121, 112, 101] = kwL := by kernel_rfl

theorem keywords_c : PG G0 Tryd.prog 10 [] (.slice (kwL.map PV.str) .none) := by
  have hk := fields_c [117, 115, 101, 32, 112, 117, 98, 32, 97, 115, 32, 102, 110, 32, 115, 116, 114, 117, 99, 116, 32, 101, 110, 117, 109, 32, 116, 114, 97, 105, 116, 32, 105, 109, 112, 108, 32, 102, 111, 114, 32, 99, 111, 110, 115, 116, 32, 109, 97, 99, 114, 111, 32, 108, 101, 116, 32, 109, 117, 116, 32, 119, 104, 105, 108, 101, 32, 114, 101, 116, 117, 114, 110, 32, 109, 97, 116, 99, 104, 32, 105, 102, 32, 101, 108, 115, 101, 32, 110, 101, 119, 32, 116, 114, 117, 101, 32, 102, 97, 108, 115, 101, 32, 116, 121, 112, 101] (by decide) (by decide) (by rw [keywords_c_f]; decide)
  rw [keywords_c_f] at hk
  refine pg_of (N := 2) Tryd.func10 rfl rfl (by simp) (bel_strs0 _ _) fun H hG hb' => ?_
  repeat (refine awp_seq ?_)
  refine e_eval (by simp only [jA, jO, jN, seval, vint, qX] <;> with_reducible rfl) (by decide) ?_
  repeat (refine awp_seq ?_)
  refine awp_region ?_
  refine aops_pure (by simp only [jC, jN, seval, vint, qX] <;> rfl) (by simp only [jC, jN, seval, vint, qX]) (by decide) Trydgo14 (hk _ hG) ?_
  refine e_end (by simp only [jA, jO, jN, seval, vint, qX] <;> with_reducible rfl) (by decide) ?_
  repeat (refine awp_seq ?_)
  refine awp_ret ⟨.inr rfl, _, _, rfl, ?_, (by first | exact (List.append_nil _).symm | rfl)⟩
  simp only [jN, seval, vint, qX]
  try rfl

theorem two_c_f : Lib.fields [58, 58, 32, 61, 62, 32, 45, 62, 32, 61, 61, 32, 38, 38, 32, 124, 124] = twoL := by kernel_rfl

theorem two_c : PG G0 Tryd.prog 24 [] (.slice (twoL.map PV.str) .none) := by
  have hk := fields_c [58, 58, 32, 61, 62, 32, 45, 62, 32, 61, 61, 32, 38, 38, 32, 124, 124] (by decide) (by decide) (by rw [two_c_f]; decide)
  rw [two_c_f] at hk
  refine pg_of (N := 2) Tryd.func24 rfl rfl (by simp) (bel_strs0 _ _) fun H hG hb' => ?_
  repeat (refine awp_seq ?_)
  refine e_eval (by simp only [jA, jO, jN, seval, vint, qX] <;> with_reducible rfl) (by decide) ?_
  repeat (refine awp_seq ?_)
  refine awp_region ?_
  refine aops_pure (by simp only [jC, jN, seval, vint, qX] <;> rfl) (by simp only [jC, jN, seval, vint, qX]) (by decide) Trydgo14 (hk _ hG) ?_
  refine e_end (by simp only [jA, jO, jN, seval, vint, qX] <;> with_reducible rfl) (by decide) ?_
  repeat (refine awp_seq ?_)
  refine awp_ret ⟨.inr rfl, _, _, rfl, ?_, (by first | exact (List.append_nil _).symm | rfl)⟩
  simp only [jN, seval, vint, qX]
  try rfl

end Go.Abs
set_option maxRecDepth 4000
namespace Go.Abs
open Go.Proofs

def punL : List (List UInt8) := [[58, 58], [61, 62], [45, 62], [61, 61], [38, 38], [124, 124], [40], [41], [123], [125], [91], [93], [60], [62], [44], [59], [58], [46], [61], [43], [45], [42], [47], [33], [38], [124]]

theorem kwR_c : PC Tryd.prog 11 [] (.slice (kwL.map PV.str) .none) := by
  refine pc_of (N := 2) Tryd.func11 rfl rfl (by simp) (by simp [Bel.int, Bel.str]) (bel_strs0 _ _) ?_
  repeat (refine awp_seq ?_)
  refine e_eval (by simp only [jA, jO, jN, seval, vint, qX] <;> with_reducible rfl) (by decide) ?_
  repeat (refine awp_seq ?_)
  refine e_eval (by simp only [jA, jO, jN, seval, y9, y33, vint, qX] <;> with_reducible rfl) (by decide) ?_
  repeat (refine awp_seq ?_)
  refine awp_ret ⟨.inr rfl, _, rfl, ?_⟩
  simp only [jN, seval, vint, qX]
  try kernel_rfl

theorem punR_c : PC Tryd.prog 30 [] (.slice (punL.map PV.str) .none) := by
  refine pc_of (N := 2) Tryd.func30 rfl rfl (by simp) (by simp [Bel.int, Bel.str]) (bel_strs0 _ _) ?_
  repeat (refine awp_seq ?_)
  refine e_eval (by simp only [jA, jO, jN, seval, vint, qX] <;> with_reducible rfl) (by decide) ?_
  repeat (refine awp_seq ?_)
  refine e_eval (by simp only [jA, jO, jN, seval, y9, y33, vint, qX] <;> with_reducible rfl) (by decide) ?_
  repeat (refine awp_seq ?_)
  refine awp_ret ⟨.inr rfl, _, rfl, ?_⟩
  simp only [jN, seval, vint, qX]
  try kernel_rfl

end Go.Abs
set_option maxRecDepth 4000
namespace Go.Abs
open Go.Proofs

theorem indexByte_nonneg : ∀ (l : List UInt8) (c : UInt8), decide (Lib.indexByte l c ≥ 0) = l.contains c
  | [], c => by simp [Lib.indexByte]
  | b :: l, c => by
    have ih := indexByte_nonneg l c
    have hge := Lib.indexByte_ge l c
    rw [List.contains_cons, ← ih, Lib.indexByte]
    by_cases h : b = c
    · subst h; simp
    · have h1 : (b == c) = false := by simpa using h
      have h2 : (c == b) = false := by simpa using fun e => h e.symm
      rw [h1, h2]
      simp only [Bool.false_eq_true, if_false, Bool.false_or]
      by_cases h3 : Lib.indexByte l c = -1
      · simp [h3]
      · have : (Lib.indexByte l c == -1) = false := by simpa using h3
        rw [this]
        simp only [Bool.false_eq_true, if_false, decide_eq_decide]
        omega
theorem isSp_contains (c : UInt8) : [32, 9, 10, 13].contains c = isSpB c := by
  rw [Bool.eq_iff_iff]
  simp [isSpB, or_assoc]

theorem isSpace_c (c : UInt8) : PC Tryd.prog 15 [.int .u8 c.toNat] (.bool (isSpB c)) := by
  have hk := indexByte_c [32, 9, 10, 13] c
  have hn := indexByte_nonneg [32, 9, 10, 13] c
  rw [isSp_contains] at hn
  refine pc_of (N := 6) Tryd.func15 rfl rfl (by simp) (by simp [Bel.int, Bel.str]) (.bool _) ?_
  repeat (refine awp_seq ?_)
  refine e_eval (by simp only [jA, jO, jN, seval, vint, qX] <;> with_reducible rfl) (by decide) ?_
  repeat (refine awp_seq ?_)
  refine awp_region ?_
  refine e_take 1 (by simp only [jA, jO, jN, seval, vint, qX] <;> with_reducible rfl) (by decide) ?_
  refine aops_pure (by simp only [jC, jN, seval, vint, qX] <;> with_reducible rfl) (by simp only [jC, jN, seval, vint, qX]) (by decide) Trydgo25 (hk _) ?_
  refine e_end (by simp only [jA, jO, jN, seval, y3, vint, qX] <;> with_reducible rfl) (by decide) ?_
  repeat (refine awp_seq ?_)
  refine awp_ret ⟨.inr rfl, _, rfl, ?_⟩
  simp only [jN, seval, vint, qX, hn]
  try rfl

end Go.Abs
set_option maxRecDepth 4000
namespace Go.Abs
open Go.Proofs

theorem litO_step {s : List UInt8} {i : Nat} (h : i < s.length) : litO (s.drop i) = if s[i] = 10 then none else if s[i] = 34 then some 1 else
    if s[i] = 92 ∧ (s.drop (i + 1)).head?.getD 10 ≠ 10 then (litO (s.drop (i + 2))).map (· + 2) else (litO (s.drop (i + 1))).map (· + 1) := by
  rw [List.drop_eq_getElem_cons h]
  obtain ⟨c, hc⟩ : ∃ c, s[i] = c := ⟨_, rfl⟩
  rw [hc]
  by_cases h2 : i + 1 < s.length
  · have e2 : s.drop (i + 1) = s[i + 1] :: s.drop (i + 2) := List.drop_eq_getElem_cons h2
    rw [e2, litO]
    rfl
  · have e2 : s.drop (i + 1) = [] := List.drop_eq_nil_of_le (by omega)
    have e3 : s.drop (i + 2) = [] := List.drop_eq_nil_of_le (by omega)
    rw [e2, e3, litO]
    by_cases h10 : c = 10
    · subst h10; simp [litO]
    · simp [h10, litO]
/-- The end and the kind of what begins with a quotation mark. -/
def strT (s : List UInt8) : Nat × Int := match litG false (s.drop 1) with | some k => (k + 1, 106) | none => (1 + runL notNl (s.drop 1), 108)

theorem scanStr_c (s : List UInt8) (hs : s.length ≤ maxLen) (h1 : 1 ≤ s.length) : PC Tryd.prog 23 [.str s] (.tup [vint ((strT s).1 : Int), vint (strT s).2]) := by
  have em : maxLen = 9223372036854775807 := by decide
  have hsc := scan_c s hs notNl 35 Trydgo35 scan1 1 h1
  refine pc_of (N := 47) Tryd.func23 rfl rfl (by simp) (by simp [Bel.int, Bel.str]) (.tup _ (by simp [Bel.int])) ?_
  repeat (refine awp_seq ?_)
  refine e_eval (by simp only [jA, jO, jN, seval, vint, qX] <;> with_reducible rfl) (by decide) ?_
  repeat (refine awp_seq ?_)
  refine e_eval (by simp only [jA, jO, jN, seval, vint, qX] <;> with_reducible rfl) (by decide) ?_
  repeat (refine awp_seq ?_)
  refine awp_block ?_
  refine awp_loopS (σ := Nat) (fun (i : Nat) => [(0, .str s), (4, vint (i : Int))]) ([]) (fun (i : Nat) => []) (fun (i : Nat) => s.length - i) (fun (i : Nat) => 1 ≤ i ∧ i ≤ s.length ∧ litG false (s.drop 1) = (litO (s.drop i)).map (· + (i - 1))) (1) ([]) ⟨(by first | rfl | (simp only [jN, seval, vint, qX] <;> first | done | with_reducible rfl)), (by first | rfl | (simp only [jN, seval, vint, qX] <;> first | done | with_reducible rfl)), trivial⟩ (by first | rfl | (simp only [jN, seval, vint, qX] <;> first | done | with_reducible rfl)) (⟨by omega, h1, by rw [litO_eq]; simp⟩) (fun _ _ => by first | exact Nat.zero_le _ | (simp only [List.length_append]; omega)) ?_ ?_
  · exact fun i hg => ⟨by simp only [List.nil_append]; exact hbel_nil _, by repeat (first | exact BelL.nil | refine BelL.cons (by first | exact Tk.bel _ _ | exact bel_nil0 _ | exact bel_nil1 _ | exact Bel.int _ _ | exact Bel.bool _ | exact Bel.str _ | exact Bel.nilp | exact Bel.nilfn | exact Bel.optr _ _ (by simp) | exact bel_nil0 _ | exact bel_nil1 _ | exact bel_fn0 _ _ | assumption) ?_)⟩
  · intro i hg
    obtain ⟨hq1, hq2, hq3⟩ := hg
    have hcs : i < s.length ∨ i = s.length := by omega
    rcases hcs with hi | hi
    ·
      have g1 := ix_nat hi
      have hd := litO_step hi
      obtain ⟨c, hc⟩ : ∃ c, s[i] = c := ⟨_, rfl⟩
      rw [hc] at hd
      have g2 : s[i]? = some c := by rw [List.getElem?_eq_getElem hi, hc]
      have w1 : IntKind.i64.wrap ((i : Int) + 1) = ((i + 1 : Nat) : Int) := by rw [wrap_id (by omega) (by omega)]; omega
      have f1 : ((i : Int) < s.length) = True := by simp; omega
      have f0 : ((0 : Int) ≤ (i : Int)) = True := by simp
      have e10 : decide ((c.toNat : Int) = 10) = (c == 10) := u8_eq c 10 (by decide)
      have e34 : decide ((c.toNat : Int) = 34) = (c == 34) := u8_eq c 34 (by decide)
      have e92 : decide ((c.toNat : Int) = 92) = (c == 92) := u8_eq c 92 (by decide)
      repeat (refine awp_seq ?_)
      refine g_eval (by simp only [jG, jO, jN, seval, y3, y5, y9, vint, qX, f1, f0, g1, g2, w1, e10, e34, e92, decide_true, Int.toNat_natCast] <;> with_reducible rfl) (by decide) (by repeat (first | exact Fin.base _ | with_reducible apply Fin.keep | apply Fin.drop)) ?_
      repeat (refine awp_seq ?_)
      refine awp_cond rfl (by simp only [jN, seval, vint, qX, f1, f0, g1, g2, w1, e10, e34, e92, decide_true, Int.toNat_natCast] <;> with_reducible rfl) (fun bt14 => ?_) (fun bt14 => ?_)
      ·
        have h10 : ¬ c = 10 := by simpa using bt14
        rw [if_neg h10] at hd
        repeat (refine awp_seq ?_)
        refine awp_skip ?_
        repeat (refine awp_seq ?_)
        refine awp_block ?_
        repeat (refine awp_seq ?_)
        refine awp_block ?_
        repeat (refine awp_seq ?_)
        refine e_eval (by simp only [jA, jO, jN, seval, y5, y9, vint, qX, f1, f0, g1, g2, w1, e10, e34, e92, decide_true, Int.toNat_natCast] <;> with_reducible rfl) (by decide) ?_
        repeat (refine awp_seq ?_)
        refine awp_cond rfl (by simp only [jN, seval, vint, qX, f1, f0, g1, g2, w1, e10, e34, e92, decide_true, Int.toNat_natCast] <;> with_reducible rfl) (fun bt17 => ?_) (fun bt17 => ?_)
        ·
          have h34 : c = 34 := by simpa using bt17
          have hv : strT s = (i + 1, 106) := by unfold strT; rw [hq3, hd, if_pos h34]; simp; omega
          refine awp_sel [0, 4] (by simp only [jN, seval, vint, qX, f1, f0, g1, g2, w1, e10, e34, e92, decide_true, Int.toNat_natCast] <;> with_reducible rfl) ?_
          repeat (refine awp_seq ?_)
          refine e_eval (by simp only [jA, jO, jN, seval, y3, vint, qX, f1, f0, g1, g2, w1, e10, e34, e92, decide_true, Int.toNat_natCast] <;> with_reducible rfl) (by decide) ?_
          repeat (refine awp_seq ?_)
          refine awp_ret ⟨.inr rfl, _, (ares_two (.tmp 2) (.tmp 3) rfl (ares_tmp1 (by decide)) (ares_tmp1 (by decide))), ?_⟩
          simp only [jN, seval, vint, qX, hv]
          try rfl
        ·
          have h34 : ¬ c = 34 := by simpa using bt17
          rw [if_neg h34] at hd
          have hcd : c = 92 ∧ i + 1 < s.length ∨ ¬ c = 92 ∨ (c = 92 ∧ ¬ i + 1 < s.length) := by by_cases h : c = 92 <;> simp [h] <;> omega
          refine awp_sel [0, 4] (by simp only [jN, seval, vint, qX, f1, f0, g1, g2, w1, e10, e34, e92, decide_true, Int.toNat_natCast] <;> with_reducible rfl) ?_
          rcases hcd with hk | hk | hk
          ·
            obtain ⟨hk1, hk2⟩ := hk
            have k92 : (c == 92) = true := by simpa using hk1
            have k1 : (((i + 1 : Nat) : Int) < s.length) = True := by simp; omega
            have k0 : ((0 : Int) ≤ ((i + 1 : Nat) : Int)) = True := by simp; omega
            obtain ⟨d, hdd⟩ : ∃ d, s[i + 1] = d := ⟨_, rfl⟩
            have k2 : s[i + 1]? = some d := by rw [List.getElem?_eq_getElem hk2, hdd]
            have d10 : decide ((d.toNat : Int) = 10) = (d == 10) := u8_eq d 10 (by decide)
            have hh : (s.drop (i + 1)).head?.getD 10 = d := by rw [List.drop_eq_getElem_cons hk2, hdd]; rfl
            have w2 : IntKind.i64.wrap (((i + 1 : Nat) : Int) + 1) = ((i + 2 : Nat) : Int) := by rw [wrap_id (by omega) (by omega)]; omega
            rw [hh] at hd
            repeat (refine awp_seq ?_)
            refine g_eval (by simp only [jG, jO, jN, seval, y3, y5, y9, vint, qX, f1, f0, g1, g2, w1, e10, e34, e92, decide_true, Int.toNat_natCast, k92, k1, k0, k2, d10, w2] <;> with_reducible rfl) (by decide) (by repeat (first | exact Fin.base _ | with_reducible apply Fin.keep | apply Fin.drop)) ?_
            repeat (refine awp_seq ?_)
            refine awp_cond rfl (by simp only [jN, seval, vint, qX, f1, f0, g1, g2, w1, e10, e34, e92, decide_true, Int.toNat_natCast, k92, k1, k0, k2, d10, w2] <;> with_reducible rfl) (fun bt24 => ?_) (fun bt24 => ?_)
            ·
              have hd10 : ¬ d = 10 := by simpa using bt24
              rw [if_pos ⟨hk1, hd10⟩] at hd
              refine awp_sel [0, 4] (by simp only [jN, seval, vint, qX, f1, f0, g1, g2, w1, e10, e34, e92, decide_true, Int.toNat_natCast, k92, k1, k0, k2, d10, w2] <;> with_reducible rfl) ?_
              repeat (refine awp_seq ?_)
              refine e_eval (by simp only [jA, jO, jN, seval, y3, vint, qX, f1, f0, g1, g2, w1, e10, e34, e92, decide_true, Int.toNat_natCast, k92, k1, k0, k2, d10, w2] <;> with_reducible rfl) (by decide) ?_
              repeat (refine awp_seq ?_)
              refine e_eval (by simp only [jA, jO, jN, seval, y3, vint, qX, f1, f0, g1, g2, w1, e10, e34, e92, decide_true, Int.toNat_natCast, k92, k1, k0, k2, d10, w2] <;> with_reducible rfl) (by decide) ?_
              try simp only [thenQ, blockQ]
              exact ⟨i + 2, _, by show s.length - (i + 2) < s.length - i; omega, ⟨rfl, rfl, trivial⟩, by simp only [jN, seval, vint, qX] <;> rfl, by omega, by omega, by rw [hq3, hd, Option.map_map]; congr 1; funext x; simp; omega⟩
            ·
              have hd10 : d = 10 := by simpa using bt24
              rw [if_neg (fun q => q.2 hd10)] at hd
              repeat (refine awp_seq ?_)
              refine awp_skip ?_
              refine awp_sel [0, 4] (by simp only [jN, seval, vint, qX, f1, f0, g1, g2, w1, e10, e34, e92, decide_true, Int.toNat_natCast, k92, k1, k0, k2, d10, w2] <;> with_reducible rfl) ?_
              repeat (refine awp_seq ?_)
              refine e_eval (by simp only [jA, jO, jN, seval, y3, vint, qX, f1, f0, g1, g2, w1, e10, e34, e92, decide_true, Int.toNat_natCast, k92, k1, k0, k2, d10, w2] <;> with_reducible rfl) (by decide) ?_
              try simp only [thenQ, blockQ]
              exact ⟨i + 1, _, by show s.length - (i + 1) < s.length - i; omega, ⟨rfl, rfl, trivial⟩, by simp only [jN, seval, vint, qX] <;> rfl, by omega, by omega, by rw [hq3, hd, Option.map_map]; congr 1; funext x; simp; omega⟩
          ·
            have k92 : (c == 92) = false := by simpa using hk
            rw [if_neg (fun q => hk q.1)] at hd
            repeat (refine awp_seq ?_)
            refine awp_region ?_
            refine aops_gstart ?_
            refine g_take 15 (by simp only [jG, jO, jN, seval, y3, y5, y9, vint, qX, f1, f0, g1, g2, w1, e10, e34, e92, decide_true, Int.toNat_natCast, k92] <;> with_reducible rfl) (by decide) ?_
            refine aops_gskip (r := .tup []) (by simp only [jE, jN, seval, vint, qX, f1, f0, g1, g2, w1, e10, e34, e92, decide_true, Int.toNat_natCast, k92] <;> with_reducible rfl) ?_
            refine aops_gskip (r := .tup []) (by simp only [jE, jN, seval, vint, qX, f1, f0, g1, g2, w1, e10, e34, e92, decide_true, Int.toNat_natCast, k92] <;> with_reducible rfl) ?_
            refine g_end (by simp only [jG, jO, jN, seval, vint, qX, f1, f0, g1, g2, w1, e10, e34, e92, decide_true, Int.toNat_natCast, k92] <;> with_reducible rfl) (by decide) (by repeat (first | exact Fin.base _ | with_reducible apply Fin.keep | apply Fin.drop)) ?_
            repeat (refine awp_seq ?_)
            refine awp_cond_false rfl (by simp only [jN, seval, vint, qX, f1, f0, g1, g2, w1, e10, e34, e92, decide_true, Int.toNat_natCast, k92] <;> with_reducible rfl) ?_
            repeat (refine awp_seq ?_)
            refine awp_skip ?_
            refine awp_sel [0, 4] (by simp only [jN, seval, vint, qX, f1, f0, g1, g2, w1, e10, e34, e92, decide_true, Int.toNat_natCast, k92] <;> with_reducible rfl) ?_
            repeat (refine awp_seq ?_)
            refine e_eval (by simp only [jA, jO, jN, seval, y3, vint, qX, f1, f0, g1, g2, w1, e10, e34, e92, decide_true, Int.toNat_natCast, k92] <;> with_reducible rfl) (by decide) ?_
            try simp only [thenQ, blockQ]
            exact ⟨i + 1, _, by show s.length - (i + 1) < s.length - i; omega, ⟨rfl, rfl, trivial⟩, by simp only [jN, seval, vint, qX] <;> rfl, by omega, by omega, by rw [hq3, hd, Option.map_map]; congr 1; funext x; simp; omega⟩
          ·
            obtain ⟨hk1, hk2⟩ := hk
            have k92 : (c == 92) = true := by simpa using hk1
            have k1 : (((i + 1 : Nat) : Int) < s.length) = False := by simp; omega
            have hh : s.drop (i + 1) = [] := List.drop_eq_nil_of_le (by omega)
            rw [if_neg (by rw [hh]; simp)] at hd
            repeat (refine awp_seq ?_)
            refine awp_region ?_
            refine aops_gstart ?_
            refine g_take 15 (by simp only [jG, jO, jN, seval, y3, y5, y9, vint, qX, f1, f0, g1, g2, w1, e10, e34, e92, decide_true, Int.toNat_natCast, k92, k1, decide_false] <;> with_reducible rfl) (by decide) ?_
            refine aops_gskip (r := .tup []) (by simp only [jE, jN, seval, vint, qX, f1, f0, g1, g2, w1, e10, e34, e92, decide_true, Int.toNat_natCast, k92, k1, decide_false] <;> with_reducible rfl) ?_
            refine aops_gskip (r := .tup []) (by simp only [jE, jN, seval, vint, qX, f1, f0, g1, g2, w1, e10, e34, e92, decide_true, Int.toNat_natCast, k92, k1, decide_false] <;> with_reducible rfl) ?_
            refine g_end (by simp only [jG, jO, jN, seval, vint, qX, f1, f0, g1, g2, w1, e10, e34, e92, decide_true, Int.toNat_natCast, k92, k1, decide_false] <;> with_reducible rfl) (by decide) (by repeat (first | exact Fin.base _ | with_reducible apply Fin.keep | apply Fin.drop)) ?_
            repeat (refine awp_seq ?_)
            refine awp_cond_false rfl (by simp only [jN, seval, vint, qX, f1, f0, g1, g2, w1, e10, e34, e92, decide_true, Int.toNat_natCast, k92, k1, decide_false] <;> with_reducible rfl) ?_
            repeat (refine awp_seq ?_)
            refine awp_skip ?_
            refine awp_sel [0, 4] (by simp only [jN, seval, vint, qX, f1, f0, g1, g2, w1, e10, e34, e92, decide_true, Int.toNat_natCast, k92, k1, decide_false] <;> with_reducible rfl) ?_
            repeat (refine awp_seq ?_)
            refine e_eval (by simp only [jA, jO, jN, seval, y3, vint, qX, f1, f0, g1, g2, w1, e10, e34, e92, decide_true, Int.toNat_natCast, k92, k1, decide_false] <;> with_reducible rfl) (by decide) ?_
            try simp only [thenQ, blockQ]
            exact ⟨i + 1, _, by show s.length - (i + 1) < s.length - i; omega, ⟨rfl, rfl, trivial⟩, by simp only [jN, seval, vint, qX] <;> rfl, by omega, by omega, by rw [hq3, hd, Option.map_map]; congr 1; funext x; simp; omega⟩
      ·
        have h10 : c = 10 := by simpa using bt14
        have hv : strT s = (1 + runL notNl (s.drop 1), 108) := by unfold strT; rw [hq3, hd, if_pos h10]; rfl
        repeat (refine awp_seq ?_)
        refine awp_exit ?_
        simp only [thenQ, blockQ, reduceIte, Nat.reduceEqDiff, Nat.succ_ne_self, if_true, if_false]
        repeat (refine awp_seq ?_)
        refine awp_region ?_
        refine e_take 1 (by simp only [jA, jO, jN, seval, vint, qX, f1, f0, g1, g2, w1, e10, e34, e92, decide_true, Int.toNat_natCast] <;> with_reducible rfl) (by decide) ?_
        refine aops_pure (by simp only [jC, jN, seval, vint, qX, f1, f0, g1, g2, w1, e10, e34, e92, decide_true, Int.toNat_natCast] <;> with_reducible rfl) (by simp only [jC, jN, seval, vint, qX, f1, f0, g1, g2, w1, e10, e34, e92, decide_true, Int.toNat_natCast]) (by decide) Trydgo16 (hsc _) ?_
        refine e_end (by simp only [jA, jO, jN, seval, vint, qX, f1, f0, g1, g2, w1, e10, e34, e92, decide_true, Int.toNat_natCast] <;> with_reducible rfl) (by decide) ?_
        repeat (refine awp_seq ?_)
        refine awp_ret ⟨.inr rfl, _, (ares_two (.tmp 2) (.tmp 3) rfl (ares_tmp1 (by decide)) (ares_tmp1 (by decide))), ?_⟩
        simp only [jN, seval, vint, qX, hv]
        try rfl
    ·
      have f1 : ((i : Int) < s.length) = False := by simp; omega
      have hv : strT s = (1 + runL notNl (s.drop 1), 108) := by unfold strT; rw [hq3, hi, List.drop_length]; rfl
      repeat (refine awp_seq ?_)
      refine awp_region ?_
      refine aops_gstart ?_
      refine g_take 7 (by simp only [jG, jO, jN, seval, y3, y9, vint, qX, f1, decide_false] <;> with_reducible rfl) (by decide) ?_
      refine aops_gskip (r := .tup []) (by simp only [jE, jN, seval, vint, qX, f1, decide_false] <;> with_reducible rfl) ?_
      refine aops_gskip (r := .tup []) (by simp only [jE, jN, seval, vint, qX, f1, decide_false] <;> with_reducible rfl) ?_
      refine g_end (by simp only [jG, jO, jN, seval, vint, qX, f1, decide_false] <;> with_reducible rfl) (by decide) (by repeat (first | exact Fin.base _ | with_reducible apply Fin.keep | apply Fin.drop)) ?_
      repeat (refine awp_seq ?_)
      refine awp_cond_false rfl (by simp only [jN, seval, vint, qX, f1, decide_false] <;> with_reducible rfl) ?_
      repeat (refine awp_seq ?_)
      refine awp_exit ?_
      simp only [thenQ, blockQ, reduceIte, Nat.reduceEqDiff, Nat.succ_ne_self, if_true, if_false]
      repeat (refine awp_seq ?_)
      refine awp_region ?_
      refine e_take 1 (by simp only [jA, jO, jN, seval, vint, qX, f1, decide_false] <;> with_reducible rfl) (by decide) ?_
      refine aops_pure (by simp only [jC, jN, seval, vint, qX, f1, decide_false] <;> with_reducible rfl) (by simp only [jC, jN, seval, vint, qX, f1, decide_false]) (by decide) Trydgo16 (hsc _) ?_
      refine e_end (by simp only [jA, jO, jN, seval, vint, qX, f1, decide_false] <;> with_reducible rfl) (by decide) ?_
      repeat (refine awp_seq ?_)
      refine awp_ret ⟨.inr rfl, _, (ares_two (.tmp 2) (.tmp 3) rfl (ares_tmp1 (by decide)) (ares_tmp1 (by decide))), ?_⟩
      simp only [jN, seval, vint, qX, hv]
      try rfl

end Go.Abs
set_option maxRecDepth 4000
namespace Go.Abs
open Go.Proofs

theorem pre0 {H H' : Heap} (hG : Pre G0 H) (h : H'[0]? = (H ++ List.replicate 0 AObj.unborn)[0]?) : Pre G0 H' := fun k o hk => by
  cases k with
  | zero => rw [h]; simpa using hG 0 o hk
  | succ k => simp [G0] at hk
theorem hasPrefix_two (s : List UInt8) (a b : UInt8) : Lib.hasPrefix s [a, b] = decide (s.take 2 = [a, b]) := by
  unfold Lib.hasPrefix
  match s with
  | [] => rfl
  | [x] => simp [List.isPrefixOf]
  | x :: y :: r =>
    rw [Bool.eq_iff_iff]
    simp [List.isPrefixOf]
    constructor <;> rintro ⟨h1, h2⟩ <;> exact ⟨h1.symm, h2.symm⟩
theorem strT_first (c : UInt8) (r : List UInt8) (h : c = 34) : strT (c :: r) = match litG false r with | some k => (k + 1, 106) | none => (runL notNl (c :: r), 108) := by
  subst h
  unfold strT
  simp only [List.drop_succ_cons, List.drop_zero]
  cases q : litG false r with
  | none => simp [runL, notNl, Nat.add_comm]
  | some k => rfl

theorem first_c (c : UInt8) (r : List UInt8) (hs : (c :: r).length ≤ maxLen) : PG G0 Tryd.prog 12 [.str (c :: r)] (.tup [vint ((firstT (c :: r)).1 : Int), vint (firstT (c :: r)).2]) := by
  have em : maxLen = 9223372036854775807 := by decide
  obtain ⟨s, hse⟩ : ∃ s, c :: r = s := ⟨_, rfl⟩
  have g2 : s[0]? = some c := by rw [← hse]; rfl
  have g1 : (0 < (s.length : Int)) = True := by rw [← hse]; simp
  have hst := fun h => strT_first c r h
  have h1 : 1 ≤ s.length := by rw [← hse]; simp
  rw [hse] at hs hst ⊢
  have hb := firstT_bd (s := s) (by rw [← hse]; simp)
  have k1 := scan_c s hs isSpB 15 Trydgo15 isSpace_c 0 (by omega)
  rw [Nat.zero_add, List.drop_zero] at k1
  have k2 := scan_c s hs notNl 18 Trydgo18 first1 0 (by omega)
  rw [Nat.zero_add, List.drop_zero] at k2
  have k3 := scan_c s hs wordB 20 Trydgo20 first2 0 (by omega)
  rw [Nat.zero_add, List.drop_zero] at k3
  have k4 := scan_c s hs isDigB 21 Trydgo21 isDigit_c 0 (by omega)
  rw [Nat.zero_add, List.drop_zero] at k4
  have hp := hasPrefix_c s [47, 47]
  rw [hasPrefix_two] at hp
  have hss := scanStr_c s hs h1
  have ho : oneL = [40, 41, 123, 125, 91, 93, 60, 62, 44, 59, 58, 46, 61, 43, 45, 42, 47, 33, 38, 124] := by kernel_rfl
  have hib := indexByte_c [40, 41, 123, 125, 91, 93, 60, 62, 44, 59, 58, 46, 61, 43, 45, 42, 47, 33, 38, 124] c
  have hin := indexByte_nonneg [40, 41, 123, 125, 91, 93, 60, 62, 44, 59, 58, 46, 61, 43, 45, 42, 47, 33, 38, 124] c
  have hfd : firstT s = if isSpB c then (runL isSpB s, 101) else if s.take 2 = [47, 47] then (runL notNl s, 102) else if isLetB c then (if kwL.contains (s.take (runL wordB s)) then (runL wordB s, 104) else (runL wordB s, 103)) else if isDigB c then (runL isDigB s, 105) else if c = 34 then strT s else if s.length > 1 ∧ twoL.contains (s.take 2) = true then (2, 107) else if oneL.contains c then (1, 107) else (1, 108) := by
    by_cases h : c = 34
    · rw [hst h, ← hse]; rfl
    · rw [← hse]; unfold firstT; simp only [h, if_false]
  rw [ho] at hfd
  refine pg_of (N := 56) Tryd.func12 rfl rfl (by simp) (.tup _ (by simp [Bel.int])) fun H hG hb' => ?_
  repeat (refine awp_seq ?_)
  refine e_eval (by simp only [jA, jO, jN, seval, vint, qX] <;> with_reducible rfl) (by decide) ?_
  repeat (refine awp_seq ?_)
  refine e_eval (by simp only [jA, jO, jN, seval, y9, vint, qX, g1, g2] <;> with_reducible rfl) (by decide) ?_
  repeat (refine awp_seq ?_)
  refine awp_block ?_
  repeat (refine awp_seq ?_)
  refine awp_region ?_
  refine e_take 1 (by simp only [jA, jO, jN, seval, vint, qX] <;> with_reducible rfl) (by decide) ?_
  refine aops_pure (by simp only [jC, jN, seval, vint, qX] <;> with_reducible rfl) (by simp only [jC, jN, seval, vint, qX]) (by decide) Trydgo15 (isSpace_c c _) ?_
  refine e_end (by simp only [jA, jO, jN, seval, vint, qX] <;> with_reducible rfl) (by decide) ?_
  repeat (refine awp_seq ?_)
  refine awp_cond rfl (by simp only [jN, seval, vint, qX] <;> with_reducible rfl) (fun bt8 => ?_) (fun bt8 => ?_)
  ·
    rw [hfd, if_pos bt8]
    repeat (refine awp_seq ?_)
    refine awp_region ?_
    refine e_take 1 (by simp only [jA, jO, jN, seval, vint, qX] <;> with_reducible rfl) (by decide) ?_
    refine aops_pure (by simp only [jC, jN, seval, vint, qX] <;> with_reducible rfl) (by simp only [jC, jN, seval, vint, qX]) (by decide) Trydgo16 (k1 _) ?_
    refine e_end (by simp only [jA, jO, jN, seval, vint, qX] <;> with_reducible rfl) (by decide) ?_
    repeat (refine awp_seq ?_)
    refine awp_ret ⟨.inr rfl, _, _, (ares_two (.tmp 2) (.tmp 3) rfl (ares_tmp1 (by decide)) (ares_tmp1 (by decide))), ?_, (by first | exact (List.append_nil _).symm | rfl)⟩
    simp only [jN, seval, vint, qX]
    try rfl
  ·
    rw [if_neg (by rw [bt8]; simp)] at hfd
    repeat (refine awp_seq ?_)
    refine awp_region ?_
    refine e_take 1 (by simp only [jA, jO, jN, seval, vint, qX] <;> with_reducible rfl) (by decide) ?_
    refine aops_pure (by simp only [jC, jN, seval, vint, qX] <;> with_reducible rfl) (by simp only [jC, jN, seval, vint, qX]) (by decide) Trydgo17 (hp _) ?_
    refine e_end (by simp only [jA, jO, jN, seval, vint, qX] <;> with_reducible rfl) (by decide) ?_
    repeat (refine awp_seq ?_)
    refine awp_cond rfl (by simp only [jN, seval, vint, qX] <;> with_reducible rfl) (fun bt13 => ?_) (fun bt13 => ?_)
    ·
      rw [hfd, if_pos (of_decide_eq_true bt13)]
      repeat (refine awp_seq ?_)
      refine awp_region ?_
      refine e_take 1 (by simp only [jA, jO, jN, seval, vint, qX] <;> with_reducible rfl) (by decide) ?_
      refine aops_pure (by simp only [jC, jN, seval, vint, qX] <;> with_reducible rfl) (by simp only [jC, jN, seval, vint, qX]) (by decide) Trydgo16 (k2 _) ?_
      refine e_end (by simp only [jA, jO, jN, seval, vint, qX] <;> with_reducible rfl) (by decide) ?_
      repeat (refine awp_seq ?_)
      refine awp_ret ⟨.inr rfl, _, _, (ares_two (.tmp 2) (.tmp 3) rfl (ares_tmp1 (by decide)) (ares_tmp1 (by decide))), ?_, (by first | exact (List.append_nil _).symm | rfl)⟩
      simp only [jN, seval, vint, qX]
      try rfl
    ·
      rw [if_neg (of_decide_eq_false bt13)] at hfd
      repeat (refine awp_seq ?_)
      refine awp_region ?_
      refine e_take 1 (by simp only [jA, jO, jN, seval, vint, qX] <;> with_reducible rfl) (by decide) ?_
      refine aops_pure (by simp only [jC, jN, seval, vint, qX] <;> with_reducible rfl) (by simp only [jC, jN, seval, vint, qX]) (by decide) Trydgo19 (isLetter_c c _) ?_
      refine e_end (by simp only [jA, jO, jN, seval, vint, qX] <;> with_reducible rfl) (by decide) ?_
      repeat (refine awp_seq ?_)
      refine awp_cond rfl (by simp only [jN, seval, vint, qX] <;> with_reducible rfl) (fun bt18 => ?_) (fun bt18 => ?_)
      ·
        rw [if_pos bt18] at hfd
        obtain ⟨n, hn⟩ : ∃ n, runL wordB s = n := ⟨_, rfl⟩
        have hnl := runL_le wordB s
        rw [hn] at hnl k3 hfd
        have h3 : ((0 : Int) ≤ n ∧ (n : Int) ≤ s.length) = True := by simp; omega
        have h4 : (n ≤ s.length) = True := by simp; omega
        have h5 : ((n : Int) ≤ (s.length : Int)) = True := by simp; omega
        have h6 : ((0 : Int) ≤ (n : Int)) = True := by simp
        repeat (refine awp_seq ?_)
        refine awp_region ?_
        refine e_take 1 (by simp only [jA, jO, jN, seval, vint, qX] <;> with_reducible rfl) (by decide) ?_
        refine aops_pure (by simp only [jC, jN, seval, vint, qX] <;> with_reducible rfl) (by simp only [jC, jN, seval, vint, qX]) (by decide) Trydgo16 (k3 _) ?_
        refine e_end (by simp only [jA, jO, jN, seval, vint, qX] <;> with_reducible rfl) (by decide) ?_
        refine awp_sel [0, 5] (by simp only [jN, seval, vint, qX] <;> with_reducible rfl) ?_
        repeat (refine awp_seq ?_)
        refine awp_draw 0 (by kernel_rfl) ?_
        refine dops_keep (bm := [0, 0, 0, 6, 15]) ([0]) (by kernel_rfl) (by simp only [jC, jN, seval, vint, qX, jS, h3, h4, h5, h6, Int.toNat_natCast, List.drop_zero] <;> with_reducible rfl) (by simp only [jC, jN, seval, vint, qX, jS, h3, h4, h5, h6, Int.toNat_natCast, List.drop_zero]) (by decide) Trydgo10 (fun H' hr => keywords_c H' (pre0 hG (hr 0 (by simp)))) (by simp only [jD, jO, jN, seval, vint, qX, jS, h3, h4, h5, h6, Int.toNat_natCast, List.drop_zero] <;> first | done | rfl) ?_
        refine d_take (bm := [0, 0, 0, 6, 15]) 3 (fresh := (H.length)) (by kernel_rfl) (by simp only [jD, jO, jN, seval, y9, vint, qX, jS, h3, h4, h5, h6, Int.toNat_natCast, List.drop_zero] <;> with_reducible rfl) (by decide) (by decide) ?_
        refine dops_keep (bm := [0, 0, 0, 6, 15]) ([]) (by kernel_rfl) (by simp only [jC, jN, seval, vint, qX, jS, h3, h4, h5, h6, Int.toNat_natCast, List.drop_zero] <;> with_reducible rfl) (by simp only [jC, jN, seval, vint, qX, jS, h3, h4, h5, h6, Int.toNat_natCast, List.drop_zero]) (by decide) Trydgo22 (fun H' _ => contStr kwL (s.take n) (by decide) H') (by simp only [jD, jO, jN, seval, vint, qX, jS, h3, h4, h5, h6, Int.toNat_natCast, List.drop_zero] <;> first | done | rfl) ?_
        refine dops_nil ?_
        repeat (refine awp_seq ?_)
        refine awp_cond rfl (by simp only [jN, seval, vint, qX] <;> with_reducible rfl) (fun bt27 => ?_) (fun bt27 => ?_)
        ·
          rw [if_pos bt27] at hfd
          rw [hfd]
          repeat (refine awp_seq ?_)
          refine e_eval (by simp only [jA, jO, jN, seval, vint, qX] <;> with_reducible rfl) (by decide) ?_
          repeat (refine awp_seq ?_)
          refine awp_ret ⟨.inr rfl, _, _, (ares_two (.tmp 2) (.tmp 3) rfl (ares_tmp1 (by decide)) (ares_tmp1 (by decide))), ?_, (by first | exact (List.append_nil _).symm | rfl)⟩
          simp only [jN, seval, vint, qX]
          try rfl
        ·
          rw [if_neg (by rw [bt27]; simp)] at hfd
          rw [hfd]
          repeat (refine awp_seq ?_)
          refine awp_skip ?_
          repeat (refine awp_seq ?_)
          refine e_eval (by simp only [jA, jO, jN, seval, vint, qX] <;> with_reducible rfl) (by decide) ?_
          repeat (refine awp_seq ?_)
          refine awp_ret ⟨.inr rfl, _, _, (ares_two (.tmp 2) (.tmp 3) rfl (ares_tmp1 (by decide)) (ares_tmp1 (by decide))), ?_, (by first | exact (List.append_nil _).symm | rfl)⟩
          simp only [jN, seval, vint, qX]
          try rfl
      ·
        rw [if_neg (by rw [bt18]; simp)] at hfd
        repeat (refine awp_seq ?_)
        refine awp_region ?_
        refine e_take 1 (by simp only [jA, jO, jN, seval, vint, qX] <;> with_reducible rfl) (by decide) ?_
        refine aops_pure (by simp only [jC, jN, seval, vint, qX] <;> with_reducible rfl) (by simp only [jC, jN, seval, vint, qX]) (by decide) Trydgo21 (isDigit_c c _) ?_
        refine e_end (by simp only [jA, jO, jN, seval, vint, qX] <;> with_reducible rfl) (by decide) ?_
        repeat (refine awp_seq ?_)
        refine awp_cond rfl (by simp only [jN, seval, vint, qX] <;> with_reducible rfl) (fun bt30 => ?_) (fun bt30 => ?_)
        ·
          rw [hfd, if_pos bt30]
          refine awp_sel [0] (by simp only [jN, seval, vint, qX] <;> with_reducible rfl) ?_
          repeat (refine awp_seq ?_)
          refine awp_region ?_
          refine e_take 1 (by simp only [jA, jO, jN, seval, vint, qX] <;> with_reducible rfl) (by decide) ?_
          refine aops_pure (by simp only [jC, jN, seval, vint, qX] <;> with_reducible rfl) (by simp only [jC, jN, seval, vint, qX]) (by decide) Trydgo16 (k4 _) ?_
          refine e_end (by simp only [jA, jO, jN, seval, vint, qX] <;> with_reducible rfl) (by decide) ?_
          repeat (refine awp_seq ?_)
          refine awp_ret ⟨.inr rfl, _, _, (ares_two (.tmp 2) (.tmp 3) rfl (ares_tmp1 (by decide)) (ares_tmp1 (by decide))), ?_, (by first | exact (List.append_nil _).symm | rfl)⟩
          simp only [jN, seval, vint, qX]
          try rfl
        ·
          rw [if_neg (by rw [bt30]; simp)] at hfd
          have e34 : decide ((c.toNat : Int) = 34) = (c == 34) := u8_eq c 34 (by decide)
          refine awp_sel [0, 4] (by simp only [jN, seval, vint, qX] <;> with_reducible rfl) ?_
          repeat (refine awp_seq ?_)
          refine e_eval (by simp only [jA, jO, jN, seval, y5, vint, qX, e34] <;> with_reducible rfl) (by decide) ?_
          repeat (refine awp_seq ?_)
          refine awp_cond rfl (by simp only [jN, seval, vint, qX] <;> with_reducible rfl) (fun bt35 => ?_) (fun bt35 => ?_)
          ·
            rw [hfd, if_pos (by simpa using bt35)]
            repeat (refine awp_seq ?_)
            refine awp_region ?_
            refine e_take 1 (by simp only [jA, jO, jN, seval, vint, qX] <;> with_reducible rfl) (by decide) ?_
            refine aops_pure (by simp only [jC, jN, seval, vint, qX] <;> with_reducible rfl) (by simp only [jC, jN, seval, vint, qX]) (by decide) Trydgo23 (hss _) ?_
            refine e_end (by simp only [jA, jO, jN, seval, vint, qX] <;> with_reducible rfl) (by decide) ?_
            repeat (refine awp_seq ?_)
            refine awp_ret ⟨.inr rfl, _, _, (ares_two (.tmp 2) (.tmp 3) rfl (ares_tmp1 (by decide)) (ares_tmp1 (by decide))), ?_, (by first | exact (List.append_nil _).symm | rfl)⟩
            simp only [jN, seval, vint, qX]
            try rfl
          ·
            rw [if_neg (by simpa using bt35)] at hfd
            have h2 : s.length > 1 ∨ ¬ s.length > 1 := by omega
            rcases h2 with h2 | h2
            ·
              have l2 : (1 < (s.length : Int)) = True := by simp; omega
              have l3 : (2 ≤ (s.length : Int)) = True := by simp; omega
              repeat (refine awp_seq ?_)
              refine dp_draw (by kernel_rfl) ?_
              refine dp_take 4 (by simp only [jP, jO, jN, seval, y3, y9, vint, qX, l2, l3, decide_true, List.drop_zero] <;> with_reducible rfl) (by decide) ?_
              refine dp_keep (by simp only [jE, jN, seval, vint, qX, l2, l3, decide_true, List.drop_zero] <;> with_reducible rfl) (by simp only [jE, jN, seval, vint, qX, l2, l3, decide_true, List.drop_zero] <;> with_reducible rfl) (by simp only [jE, jN, seval, vint, qX, l2, l3, decide_true, List.drop_zero]) (by decide) Trydgo24 (fun hc => two_c _ hG) ?_
              refine dp_take 2 (by simp only [jP, jO, jN, seval, y9, jS, vint, qX, l2, l3, decide_true, List.drop_zero] <;> with_reducible rfl) (by decide) ?_
              refine dp_keep (by simp only [jE, jN, seval, vint, qX, l2, l3, decide_true, List.drop_zero] <;> with_reducible rfl) (by simp only [jE, jN, seval, vint, qX, l2, l3, decide_true, List.drop_zero] <;> with_reducible rfl) (by simp only [jE, jN, seval, vint, qX, l2, l3, decide_true, List.drop_zero]) (by decide) Trydgo22 (fun hc => contStr twoL (s.take 2) (by decide) _) ?_
              refine dp_end (by simp only [jP, jO, jN, seval, vint, qX, l2, l3, decide_true, List.drop_zero] <;> with_reducible rfl) (by decide) (by repeat (first | exact Fin.base _ | with_reducible apply Fin.keep | apply Fin.drop)) ?_
              repeat (refine awp_seq ?_)
              refine awp_cond rfl (by simp only [jN, seval, vint, qX, l2, l3, decide_true, List.drop_zero] <;> with_reducible rfl) (fun bt42 => ?_) (fun bt42 => ?_)
              ·
                rw [hfd, if_pos ⟨h2, bt42⟩]
                repeat (refine awp_seq ?_)
                refine e_eval (by simp only [jA, jO, jN, seval, vint, qX, l2, l3, decide_true, List.drop_zero] <;> with_reducible rfl) (by decide) ?_
                repeat (refine awp_seq ?_)
                refine awp_ret ⟨.inr rfl, _, _, (ares_two (.tmp 2) (.tmp 3) rfl (ares_tmp1 (by decide)) (ares_tmp1 (by decide))), ?_, (by first | exact (List.append_nil _).symm | rfl)⟩
                simp only [jN, seval, vint, qX]
                try rfl
              ·
                rw [if_neg (by rw [bt42]; simp)] at hfd
                repeat (refine awp_seq ?_)
                refine awp_region ?_
                refine e_take 1 (by simp only [jA, jO, jN, seval, vint, qX, l2, l3, decide_true, List.drop_zero, hin] <;> with_reducible rfl) (by decide) ?_
                refine aops_pure (by simp only [jC, jN, seval, vint, qX, l2, l3, decide_true, List.drop_zero, hin] <;> with_reducible rfl) (by simp only [jC, jN, seval, vint, qX, l2, l3, decide_true, List.drop_zero, hin]) (by decide) Trydgo25 (hib _) ?_
                refine e_end (by simp only [jA, jO, jN, seval, y3, vint, qX, l2, l3, decide_true, List.drop_zero, hin] <;> with_reducible rfl) (by decide) ?_
                repeat (refine awp_seq ?_)
                refine awp_cond rfl (by simp only [jN, seval, vint, qX, l2, l3, decide_true, List.drop_zero] <;> with_reducible rfl) (fun bt52 => ?_) (fun bt52 => ?_)
                ·
                  rw [hfd, if_pos bt52]
                  refine awp_sel [] (by simp only [jN, seval, vint, qX, l2, l3, decide_true, List.drop_zero] <;> with_reducible rfl) ?_
                  repeat (refine awp_seq ?_)
                  refine e_eval (by simp only [jA, jO, jN, seval, vint, qX, l2, l3, decide_true, List.drop_zero] <;> with_reducible rfl) (by decide) ?_
                  repeat (refine awp_seq ?_)
                  refine awp_ret ⟨.inr rfl, _, _, (ares_two (.tmp 2) (.tmp 3) rfl (ares_tmp1 (by decide)) (ares_tmp1 (by decide))), ?_, (by first | exact (List.append_nil _).symm | rfl)⟩
                  simp only [jN, seval, vint, qX]
                  try rfl
                ·
                  rw [hfd, if_neg (by rw [bt52]; simp)]
                  repeat (refine awp_seq ?_)
                  refine awp_skip ?_
                  refine awp_sel [] (by simp only [jN, seval, vint, qX, l2, l3, decide_true, List.drop_zero] <;> with_reducible rfl) ?_
                  repeat (refine awp_seq ?_)
                  refine e_eval (by simp only [jA, jO, jN, seval, vint, qX, l2, l3, decide_true, List.drop_zero] <;> with_reducible rfl) (by decide) ?_
                  repeat (refine awp_seq ?_)
                  refine awp_ret ⟨.inr rfl, _, _, (ares_two (.tmp 2) (.tmp 3) rfl (ares_tmp1 (by decide)) (ares_tmp1 (by decide))), ?_, (by first | exact (List.append_nil _).symm | rfl)⟩
                  simp only [jN, seval, vint, qX]
                  try rfl
            ·
              have l2 : (1 < (s.length : Int)) = False := by simp; omega
              rw [if_neg (fun q => h2 q.1)] at hfd
              repeat (refine awp_seq ?_)
              refine dp_draw (by kernel_rfl) ?_
              refine dp_take 4 (by simp only [jP, jO, jN, seval, y3, y9, vint, qX, l2, decide_false] <;> with_reducible rfl) (by decide) ?_
              refine dp_skip (r := .tup []) (by simp only [jE, jN, seval, vint, qX, l2, decide_false] <;> with_reducible rfl) ?_
              refine dp_skip (r := .tup []) (by simp only [jE, jN, seval, vint, qX, l2, decide_false] <;> with_reducible rfl) ?_
              refine dp_skip (r := .tup []) (by simp only [jE, jN, seval, vint, qX, l2, decide_false] <;> with_reducible rfl) ?_
              refine dp_skip (r := .tup []) (by simp only [jE, jN, seval, vint, qX, l2, decide_false] <;> with_reducible rfl) ?_
              refine dp_end (by simp only [jP, jO, jN, seval, vint, qX, l2, decide_false] <;> with_reducible rfl) (by decide) (by repeat (first | exact Fin.base _ | with_reducible apply Fin.keep | apply Fin.drop)) ?_
              repeat (refine awp_seq ?_)
              refine awp_cond_false rfl (by simp only [jN, seval, vint, qX, l2, decide_false] <;> with_reducible rfl) ?_
              repeat (refine awp_seq ?_)
              refine awp_region ?_
              refine e_take 1 (by simp only [jA, jO, jN, seval, vint, qX, l2, decide_false, hin] <;> with_reducible rfl) (by decide) ?_
              refine aops_pure (by simp only [jC, jN, seval, vint, qX, l2, decide_false, hin] <;> with_reducible rfl) (by simp only [jC, jN, seval, vint, qX, l2, decide_false, hin]) (by decide) Trydgo25 (hib _) ?_
              refine e_end (by simp only [jA, jO, jN, seval, y3, vint, qX, l2, decide_false, hin] <;> with_reducible rfl) (by decide) ?_
              repeat (refine awp_seq ?_)
              refine awp_cond rfl (by simp only [jN, seval, vint, qX, l2, decide_false] <;> with_reducible rfl) (fun bt52 => ?_) (fun bt52 => ?_)
              ·
                rw [hfd, if_pos bt52]
                refine awp_sel [] (by simp only [jN, seval, vint, qX, l2, decide_false] <;> with_reducible rfl) ?_
                repeat (refine awp_seq ?_)
                refine e_eval (by simp only [jA, jO, jN, seval, vint, qX, l2, decide_false] <;> with_reducible rfl) (by decide) ?_
                repeat (refine awp_seq ?_)
                refine awp_ret ⟨.inr rfl, _, _, (ares_two (.tmp 2) (.tmp 3) rfl (ares_tmp1 (by decide)) (ares_tmp1 (by decide))), ?_, (by first | exact (List.append_nil _).symm | rfl)⟩
                simp only [jN, seval, vint, qX]
                try rfl
              ·
                rw [hfd, if_neg (by rw [bt52]; simp)]
                repeat (refine awp_seq ?_)
                refine awp_skip ?_
                refine awp_sel [] (by simp only [jN, seval, vint, qX, l2, decide_false] <;> with_reducible rfl) ?_
                repeat (refine awp_seq ?_)
                refine e_eval (by simp only [jA, jO, jN, seval, vint, qX, l2, decide_false] <;> with_reducible rfl) (by decide) ?_
                repeat (refine awp_seq ?_)
                refine awp_ret ⟨.inr rfl, _, _, (ares_two (.tmp 2) (.tmp 3) rfl (ares_tmp1 (by decide)) (ares_tmp1 (by decide))), ?_, (by first | exact (List.append_nil _).symm | rfl)⟩
                simp only [jN, seval, vint, qX]
                try rfl

end Go.Abs
set_option maxRecDepth 4000
namespace Go.Abs
open Go.Proofs

def isIdT (s : List UInt8) : Bool := !(decide ((s.length : Int) = 0) || decide ((s.length : Int) > 30)) && (decide (((firstT s).1 : Int) = s.length) && decide ((firstT s).2 = 103))
theorem first_s {s : List UInt8} (hs : s.length ≤ maxLen) (h : s ≠ []) : PG G0 Tryd.prog 12 [.str s] (.tup [vint ((firstT s).1 : Int), vint (firstT s).2]) := by
  cases s with
  | nil => exact absurd rfl h
  | cons c r => exact first_c c r hs

theorem isId_c (s : List UInt8) (hs : s.length ≤ maxLen) : PG G0 Tryd.prog 6 [.str s] (.bool (isIdT s)) := by
  refine pg_of (N := 26) Tryd.func6 rfl rfl (by simp) (.bool _) fun H hG hb' => ?_
  repeat (refine awp_seq ?_)
  refine e_eval (by simp only [jA, jO, jN, seval, vint, qX] <;> with_reducible rfl) (by decide) ?_
  repeat (refine awp_seq ?_)
  refine g_eval (by simp only [jG, jO, jN, seval, y3, y9, vint, qX] <;> with_reducible rfl) (by decide) (by repeat (first | exact Fin.base _ | with_reducible apply Fin.keep | apply Fin.drop)) ?_
  repeat (refine awp_seq ?_)
  refine awp_cond rfl (by simp only [jN, seval, vint, qX] <;> with_reducible rfl) (fun bt12 => ?_) (fun bt12 => ?_)
  ·
    have hv : isIdT s = false := by unfold isIdT; rw [bt12]; rfl
    repeat (refine awp_seq ?_)
    refine e_eval (by simp only [jA, jO, jN, seval, vint, qX] <;> with_reducible rfl) (by decide) ?_
    repeat (refine awp_seq ?_)
    refine awp_ret ⟨.inr rfl, _, _, rfl, ?_, (by first | exact (List.append_nil _).symm | rfl)⟩
    simp only [jN, seval, vint, qX, hv]
    try rfl
  ·
    have hv : isIdT s = (decide (((firstT s).1 : Int) = s.length) && decide ((firstT s).2 = 103)) := by unfold isIdT; rw [bt12]; rfl
    have hne : s ≠ [] := by rintro rfl; simp at bt12
    have hf := first_s hs hne
    repeat (refine awp_seq ?_)
    refine awp_skip ?_
    repeat (refine awp_seq ?_)
    refine awp_region ?_
    refine e_take 1 (by simp only [jA, jO, jN, seval, vint, qX] <;> with_reducible rfl) (by decide) ?_
    refine aops_pure (by simp only [jC, jN, seval, vint, qX] <;> with_reducible rfl) (by simp only [jC, jN, seval, vint, qX]) (by decide) Trydgo12 (hf _ hG) ?_
    refine e_end (by simp only [jA, jO, jN, seval, vint, qX] <;> with_reducible rfl) (by decide) ?_
    refine awp_sel [0, 3, 4] (by simp only [jN, seval, vint, qX] <;> with_reducible rfl) ?_
    repeat (refine awp_seq ?_)
    refine g_eval (by simp only [jG, jO, jN, seval, y3, y9, vint, qX] <;> with_reducible rfl) (by decide) (by repeat (first | exact Fin.base _ | with_reducible apply Fin.keep | apply Fin.drop)) ?_
    repeat (refine awp_seq ?_)
    refine awp_ret ⟨.inr rfl, _, _, rfl, ?_, (by first | exact (List.append_nil _).symm | rfl)⟩
    simp only [jN, seval, vint, qX, hv]
    try rfl

end Go.Abs
set_option maxRecDepth 4000
namespace Go.Abs
open Go.Proofs

theorem tokL_fuel : ∀ (n m : Nat) (s : List UInt8), s.length ≤ n → s.length ≤ m → tokL n s = tokL m s
  | 0, 0, s, _, _ => rfl
  | 0, m + 1, s, h, _ => by rw [List.length_eq_zero_iff.1 (by omega : s.length = 0)]; rfl
  | n + 1, 0, s, _, h => by rw [List.length_eq_zero_iff.1 (by omega : s.length = 0)]; rfl
  | n + 1, m + 1, s, h1, h2 => by
    unfold tokL
    by_cases h : s = []
    · rw [if_pos h, if_pos h]
    · rw [if_neg h, if_neg h]
      have hb := firstT_bd h
      rw [tokL_fuel n m _ (by rw [List.length_drop]; omega) (by rw [List.length_drop]; omega)]
def toks (s : List UInt8) : List Tk := tokL s.length s
theorem toks_nil : toks [] = [] := rfl
theorem toks_step {s : List UInt8} (h : s ≠ []) : toks s = ⟨(firstT s).2, s.take (firstT s).1⟩ :: toks (s.drop (firstT s).1) := by
  have hb := firstT_bd h
  unfold toks
  obtain ⟨n, hn⟩ : ∃ n, s.length = n + 1 := ⟨s.length - 1, by omega⟩
  conv => lhs; rw [hn]; unfold tokL
  rw [if_neg h, tokL_fuel n (s.drop (firstT s).1).length _ (by rw [List.length_drop]; omega) (Nat.le_refl _)]

theorem tokz_c (s : List UInt8) (hs : s.length ≤ maxLen) : PG G0 Tryd.prog 5 [.str s] (.tup [.slice ((if (s.length : Int) > 2000 then [] else toks s).map Tk.enc) .none, vint (if (s.length : Int) > 2000 then 2 else 0)]) := by
  have em : maxLen = 9223372036854775807 := by decide
  refine pg_of (N := 30) Tryd.func5 rfl rfl (by simp) (.tup _ (by simp [Bel.int, bel_Tk])) fun H hG hb' => ?_
  repeat (refine awp_seq ?_)
  refine e_eval (by simp only [jA, jO, jN, seval, vint, qX] <;> with_reducible rfl) (by decide) ?_
  repeat (refine awp_seq ?_)
  refine e_eval (by simp only [jA, jO, jN, seval, y3, y9, vint, qX] <;> with_reducible rfl) (by decide) ?_
  repeat (refine awp_seq ?_)
  refine awp_cond rfl (by simp only [jN, seval, vint, qX] <;> with_reducible rfl) (fun bt9 => ?_) (fun bt9 => ?_)
  ·
    rw [if_pos (of_decide_eq_true bt9), if_pos (of_decide_eq_true bt9)]
    repeat (refine awp_seq ?_)
    refine e_eval (by simp only [jA, jO, jN, seval, vint, qX] <;> with_reducible rfl) (by decide) ?_
    repeat (refine awp_seq ?_)
    refine awp_ret ⟨.inr rfl, _, _, (ares_two (.tmp 2) (.tmp 3) rfl (ares_tmp1 (by decide)) (ares_tmp1 (by decide))), ?_, (by first | exact (List.append_nil _).symm | rfl)⟩
    simp only [jN, seval, vint, qX]
    try rfl
  ·
    rw [if_neg (of_decide_eq_false bt9), if_neg (of_decide_eq_false bt9)]
    have hl2 := of_decide_eq_false bt9
    repeat (refine awp_seq ?_)
    refine awp_skip ?_
    repeat (refine awp_seq ?_)
    refine e_eval (by simp only [jA, jO, jN, seval, vint, qX] <;> with_reducible rfl) (by decide) ?_
    repeat (refine awp_seq ?_)
    refine awp_retok 4 2 (es := []) (by simp only [jC, jN, seval, vint, qX] <;> rfl) ?_
    refine awp_block ?_
    refine awp_loopS (σ := List Tk × List UInt8) (fun (q : List Tk × List UInt8) => [(0, .str q.2), (4, .slice (q.1.map Tk.enc) (.tok H.length))]) (H) (fun (q : List Tk × List UInt8) => [.buf q.1.length 2]) (fun (q : List Tk × List UInt8) => q.2.length) (fun (q : List Tk × List UInt8) => q.1.length + q.2.length ≤ s.length ∧ toks s = q.1 ++ toks q.2) (([], s)) ([]) ⟨(by first | rfl | (simp only [jN, seval, vint, qX] <;> first | done | with_reducible rfl)), (by first | rfl | (simp only [jN, seval, vint, qX] <;> first | done | with_reducible rfl)), trivial⟩ (by first | rfl | (simp only [jN, seval, vint, qX] <;> first | done | with_reducible rfl)) (⟨by simp, by simp⟩) (fun _ _ => by first | exact Nat.zero_le _ | (simp only [List.length_append]; omega)) ?_ ?_
    · exact fun q hg => ⟨by refine hbel_app' hb' (by simp) ?_; exact HBel.cons trivial (hbel_nil _), by repeat (first | exact BelL.nil | refine BelL.cons (by first | exact bel_Tk_tok _ (by simp only [List.length_append, List.length_cons, List.length_nil]; omega) | exact Tk.bel _ _ | exact bel_nil0 _ | exact bel_nil1 _ | exact Bel.int _ _ | exact Bel.bool _ | exact Bel.str _ | exact Bel.nilp | exact Bel.nilfn | exact Bel.optr _ _ (by simp) | exact bel_nil0 _ | exact bel_nil1 _ | exact bel_fn0 _ _ | assumption) ?_)⟩
    · intro q hg
      obtain ⟨ts, r⟩ := q
      obtain ⟨hq1, hq2⟩ := hg
      simp only at hq1 hq2
      repeat (refine awp_seq ?_)
      refine e_eval (by simp only [jA, jO, jN, seval, y3, y9, vint, qX] <;> with_reducible rfl) (by decide) ?_
      repeat (refine awp_seq ?_)
      refine awp_cond rfl (by simp only [jN, seval, vint, qX] <;> with_reducible rfl) (fun bt12 => ?_) (fun bt12 => ?_)
      ·
        have hne : r ≠ [] := by rintro rfl; simp at bt12
        have hb := firstT_bd hne
        have hst := toks_step hne
        have hf := first_s (s := r) (by omega) hne
        obtain ⟨n, hn⟩ : ∃ n, (firstT r).1 = n := ⟨_, rfl⟩
        obtain ⟨kd, hkd⟩ : ∃ kd, (firstT r).2 = kd := ⟨_, rfl⟩
        rw [hn] at hb hf hst
        rw [hkd] at hf hst
        have h3 : ((0 : Int) ≤ n ∧ (n : Int) ≤ r.length) = True := by simp; omega
        have h4 : (n ≤ r.length) = True := by simp; omega
        have hap := app_Tk (us := ts) (u := ⟨kd, r.take n⟩) (id := H.length) (tl := .full) (by omega)
        repeat (refine awp_seq ?_)
        refine awp_skip ?_
        repeat (refine awp_seq ?_)
        refine awp_block ?_
        repeat (refine awp_seq ?_)
        refine awp_region ?_
        refine e_take 1 (by simp only [jA, jO, jN, seval, vint, qX] <;> with_reducible rfl) (by decide) ?_
        refine aops_pure (by simp only [jC, jN, seval, vint, qX] <;> with_reducible rfl) (by simp only [jC, jN, seval, vint, qX]) (by decide) Trydgo12 (hf _ (hG.app _)) ?_
        refine e_end (by simp only [jA, jO, jN, seval, vint, qX] <;> with_reducible rfl) (by decide) ?_
        repeat (refine awp_seq ?_)
        refine e_eval (by simp only [jA, jO, jN, seval, y9, y23, y30, vint, qX, jS, h3, h4, hap, Int.toNat_natCast, List.drop_zero] <;> with_reducible rfl) (by decide) ?_
        refine awp_sel [0, 4, 5] (by simp only [jN, seval, vint, qX] <;> with_reducible rfl) ?_
        repeat (refine awp_seq ?_)
        refine e_eval (by simp only [jA, jO, jN, seval, y9, vint, qX, jS, h3, h4, Int.toNat_natCast, List.take_length] <;> with_reducible rfl) (by decide) ?_
        try simp only [thenQ, blockQ]
        exact ⟨(ts ++ [⟨kd, r.take n⟩], r.drop n), _, by show (r.drop n).length < r.length; rw [List.length_drop]; omega, ⟨rfl, rfl, trivial⟩, by simp only [jN, seval, vint, qX, List.length_append, List.length_singleton] <;> rfl, by simp only [List.length_append, List.length_singleton, List.length_drop]; omega, by rw [hq2, hst]; simp⟩
      ·
        have hr : r = [] := by cases r with | nil => rfl | cons a l => simp at bt12 <;> omega
        have hv : toks s = ts := by rw [hq2, hr, toks_nil, List.append_nil]
        rw [hv]
        repeat (refine awp_seq ?_)
        refine awp_exit ?_
        simp only [thenQ, blockQ, reduceIte, Nat.reduceEqDiff, Nat.succ_ne_self, if_true, if_false]
        repeat (refine awp_seq ?_)
        refine e_eval (by simp only [jA, jO, jN, seval, vint, qX] <;> with_reducible rfl) (by decide) ?_
        repeat (refine awp_seq ?_)
        refine awp_ret ⟨.inr rfl, _, _, (ares_two (.tmp 2) (.tmp 3) rfl (ares_tmp1 (by decide)) (ares_tmp1 (by decide))), ?_, (by first | exact (List.append_nil _).symm | rfl)⟩
        simp only [jN, seval, vint, qX]
        try rfl

end Go.Abs
set_option maxRecDepth 4000
namespace Go.Abs
open Go.Proofs

def ftV (s : List UInt8) (k : Int) (n : Nat) : Tk := ⟨k, s.take n⟩
def ftT (s : List UInt8) : Tk := ⟨(firstT s).2, s.take (firstT s).1⟩
def punQ (s p : List UInt8) : Bool := decide (s.take p.length = p)
theorem punQ_len {s p : List UInt8} (h : punQ s p = true) : p.length ≤ s.length := by
  have h := of_decide_eq_true h
  have := congrArg List.length h
  rw [List.length_take] at this; omega
/-- The list of the punctuation marks, searched from its head. -/
def punT (s : List UInt8) : Nat × Int := match punL.find? (punQ s) with | some p => (p.length, 107) | none => (1, 108)
theorem punL_split : punL = twoL ++ oneL.map fun x => [x] := by kernel_rfl
theorem punT_eq (c : UInt8) (r : List UInt8) : punT (c :: r) = if (c :: r).length > 1 ∧ twoL.contains ((c :: r).take 2) = true then (2, 107) else if oneL.contains c then (1, 107) else (1, 108) := by
  have h2 : ∀ p ∈ twoL, p.length = 2 := by decide
  unfold punT
  rw [punL_split, List.find?_append]
  cases h : twoL.find? (punQ (c :: r)) with
  | some p =>
    have hp := h2 p (List.mem_of_find?_eq_some h)
    have hq := List.find?_some h
    have hl := punQ_len hq
    have ht := of_decide_eq_true hq
    rw [hp] at ht hl
    rw [if_pos ⟨by omega, by rw [ht]; exact List.contains_iff_mem.2 (List.mem_of_find?_eq_some h)⟩]
    simp [hp]
  | none =>
    have hn := List.find?_eq_none.1 h
    rw [if_neg]
    · simp only [Option.none_or, List.find?_map]
      have hf : (punQ (c :: r) ∘ fun x => [x]) = fun x => decide (c = x) := by
        funext x
        simp [punQ]
      rw [hf]
      cases h1 : oneL.find? (fun x => decide (c = x)) with
      | none =>
        have hm := List.find?_eq_none.1 h1
        rw [if_neg]
        · rfl
        · intro hc
          exact hm c (List.contains_iff_mem.1 hc) (by simp)
      | some x =>
        have hx := List.find?_some h1
        have : c = x := by simpa using hx
        subst this
        rw [if_pos (List.contains_iff_mem.2 (List.mem_of_find?_eq_some h1))]
        rfl
    · rintro ⟨hl, hc⟩
      have hm := List.contains_iff_mem.1 hc
      refine hn _ hm ?_
      unfold punQ
      rw [h2 _ hm]
      simp
theorem find_at {α : Type} {p : α → Bool} {xs : List α} {i : Nat} (hi : i < xs.length) (h : p xs[i] = true) (h' : (xs.take i).any p = false) : xs.find? p = some xs[i] := by
  rw [List.find?_eq_some_iff_getElem]
  refine ⟨h, i, hi, rfl, fun j hj => ?_⟩
  rw [List.any_eq_false] at h'
  have := h' xs[j] (by rw [List.mem_take_iff_getElem]; exact ⟨j, by omega, rfl⟩)
  simpa using this
theorem find_none {α : Type} {p : α → Bool} {xs : List α} (h : xs.any p = false) : xs.find? p = none := by
  rw [List.find?_eq_none]
  intro x hx
  rw [List.any_eq_false] at h
  exact h x hx
/-- The reference's order of the tests. -/
theorem ftT_eq (c : UInt8) (r : List UInt8) : firstT (c :: r) = if 0 < runL isSpB (c :: r) then (runL isSpB (c :: r), 101) else if (c :: r).take 2 = [47, 47] then (runL notNl (c :: r), 102)
    else if 0 < runL isDigB (c :: r) then (runL isDigB (c :: r), 105) else if 0 < runL wordB (c :: r) then (if kwL.contains ((c :: r).take (runL wordB (c :: r))) then (runL wordB (c :: r), 104) else (runL wordB (c :: r), 103))
    else if c = 34 then (if 0 < litV (c :: r) then (litV (c :: r), 106) else (runL notNl (c :: r), 108)) else punT (c :: r) := by
  have hdl : isDigB c = true → isLetB c = false := by
    intro h
    have h := h
    simp only [isDigB, Bool.and_eq_true, decide_eq_true_eq, UInt8.le_iff_toNat_le] at h
    simp only [isLetB, Bool.or_eq_false_iff, Bool.and_eq_false_iff, decide_eq_false_iff_not, UInt8.le_iff_toNat_le]
    have e1 : (48 : UInt8).toNat = 48 := rfl
    have e2 : (57 : UInt8).toNat = 57 := rfl
    have e3 : (97 : UInt8).toNat = 97 := rfl
    have e4 : (65 : UInt8).toNat = 65 := rfl
    refine ⟨⟨.inl (by omega), .inl (by omega)⟩, ?_⟩
    rw [beq_eq_false_iff_ne]
    rintro rfl
    have e5 : (95 : UInt8).toNat = 95 := rfl
    omega
  simp only [runL_pos]
  rw [punT_eq]
  unfold firstT
  simp only
  by_cases a1 : isSpB c = true
  · rw [if_pos a1, if_pos a1]
  · rw [if_neg a1, if_neg a1]
    by_cases a2 : (c :: r).take 2 = [47, 47]
    · rw [if_pos a2, if_pos a2]
    · rw [if_neg a2, if_neg a2]
      by_cases a3 : isDigB c = true
      · rw [if_pos a3, hdl a3, if_neg (by simp), if_pos a3]
      · rw [if_neg a3, if_neg a3]
        have hw : wordB c = isLetB c := by unfold wordB; simp only [Bool.not_eq_true] at a3; rw [a3]; simp
        rw [hw]
        by_cases a4 : isLetB c = true
        · rw [if_pos a4, if_pos a4]
        · rw [if_neg a4, if_neg a4]
          by_cases a5 : c = 34
          · rw [if_pos a5, if_pos a5]
            unfold litV
            simp only [List.drop_succ_cons, List.drop_zero]
            cases litG false r with
            | none => simp
            | some k => simp
          · rw [if_neg a5, if_neg a5]

theorem ft1_c (s : List UInt8) (hs : s.length ≤ maxLen) (kd : Int) (n : Nat) (hn : n ≤ s.length) (H : Heap) (a : Nat) (ha : H[a]? = some (.row [.str s])) : ACalls Tryd.prog 26 [vint kd, vint (n : Int), .optr a 0] H fun r' H' => r' = (ftV s kd n).enc ∧ H' = H := by
  have em : maxLen = 9223372036854775807 := by decide
  have q1 : ∀ L, (H ++ L)[a]? = some (.row [.str s]) := fun L => by rw [List.getElem?_append_left (len_of_get ha)]; exact ha
  have h3 : ((0 : Int) ≤ n ∧ (n : Int) ≤ s.length) = True := by simp; omega
  have h4 : (n ≤ s.length) = True := by simp; omega
  have h5 : ((n : Int) ≤ (s.length : Int)) = True := by simp; omega
  have h6 : ((0 : Int) ≤ (n : Int)) = True := by simp
  refine keeps_of (N := 11) Tryd.func26 rfl rfl (by simp) (Tk.bel _ _) fun hb' => ?_
  repeat (refine awp_seq ?_)
  refine e_eval (by simp only [jA, jO, jN, seval, y30, vint, qX, q1, ha] <;> with_reducible rfl) (by decide) ?_
  repeat (refine awp_seq ?_)
  refine e_eval (by simp only [jA, jO, jN, seval, y9, y30, vint, qX, q1, ha, jS, h3, h4, h5, h6, Int.toNat_natCast, List.drop_zero] <;> with_reducible rfl) (by decide) ?_
  repeat (refine awp_seq ?_)
  refine awp_ret ⟨.inr rfl, _, _, (ares_cell 5 30 rfl Trydti30 (by decide) (by simp only [jL, jN, seval, vint, qX, q1, ha] <;> with_reducible rfl)), ?_, (by first | exact (List.append_nil _).symm | rfl)⟩
  simp only [jL, jN, seval, vint, qX]
  try rfl

end Go.Abs
set_option maxRecDepth 4000
namespace Go.Abs
open Go.Proofs

theorem ft_c (c : UInt8) (r : List UInt8) (hs : (c :: r).length ≤ maxLen) : PC Tryd.prog 13 [.str (c :: r)] (ftT (c :: r)).enc := by
  have em : maxLen = 9223372036854775807 := by decide
  have hft := ftT_eq c r
  obtain ⟨n0, en0⟩ : ∃ n, runL isSpB (c :: r) = n := ⟨_, rfl⟩
  have rn0 := run_c (c :: r) hs 0
  have ln0 := runL_le isSpB (c :: r)
  rw [show clsP 0 = isSpB from funext fun c => by unfold clsP; simp] at rn0
  rw [en0] at hft ln0 rn0
  obtain ⟨n1, en1⟩ : ∃ n, runL notNl (c :: r) = n := ⟨_, rfl⟩
  have rn1 := run_c (c :: r) hs 1
  have ln1 := runL_le notNl (c :: r)
  rw [show clsP 1 = notNl from funext fun c => by unfold clsP; simp] at rn1
  rw [en1] at hft ln1 rn1
  obtain ⟨n3, en3⟩ : ∃ n, runL isDigB (c :: r) = n := ⟨_, rfl⟩
  have rn3 := run_c (c :: r) hs 3
  have ln3 := runL_le isDigB (c :: r)
  rw [show clsP 3 = isDigB from funext fun c => by unfold clsP; simp] at rn3
  rw [en3] at hft ln3 rn3
  obtain ⟨n2, en2⟩ : ∃ n, runL wordB (c :: r) = n := ⟨_, rfl⟩
  have rn2 := run_c (c :: r) hs 2
  have ln2 := runL_le wordB (c :: r)
  rw [show clsP 2 = wordB from funext fun c => by unfold clsP; simp] at rn2
  rw [en2] at hft ln2 rn2
  obtain ⟨s, hse⟩ : ∃ s, c :: r = s := ⟨_, rfl⟩
  have g2 : s[0]? = some c := by rw [← hse]; rfl
  have g1 : (0 < (s.length : Int)) = True := by rw [← hse]; simp
  have h1 : 1 ≤ s.length := by rw [← hse]; simp
  have hb := firstT_bd (s := s) (by rw [← hse]; simp)
  rw [hse] at hs hft rn0 rn1 rn2 rn3 ln0 ln1 ln2 ln3 ⊢
  obtain ⟨n4, en4⟩ : ∃ n, litV s = n := ⟨_, rfl⟩
  have rn4 := literal_c s hs h1
  rw [en4] at rn4 hft
  have e34 : decide ((c.toNat : Int) = 34) = (c == 34) := u8_eq c 34 (by decide)
  have h2 : s.length > 1 ∨ ¬ s.length > 1 := by omega
  unfold ftT
  refine pc_of (N := 92) Tryd.func13 rfl rfl (by simp) (by simp [Bel.int, Bel.str]) (Tk.bel _ _) ?_
  repeat (refine awp_seq ?_)
  refine e_eval (by simp only [jA, jO, jN, seval, y9, y30, vint, qX] <;> with_reducible rfl) (by decide) ?_
  repeat (refine awp_seq ?_)
  refine e_eval (by simp only [jA, jO, jN, seval, vint, qX] <;> with_reducible rfl) (by decide) ?_
  repeat (refine awp_seq ?_)
  refine awp_region ?_
  refine e_take 1 (by simp only [jA, jO, jN, seval, y9, vint, qX] <;> with_reducible rfl) (by decide) ?_
  refine aops_pure (by simp only [jC, jN, seval, vint, qX] <;> with_reducible rfl) (by simp only [jC, jN, seval, vint, qX]) (by decide) Trydgo27 (rn0 _) ?_
  refine e_end (by simp only [jA, jO, jN, seval, vint, qX] <;> with_reducible rfl) (by decide) ?_
  repeat (refine awp_seq ?_)
  refine e_eval (by simp only [jA, jO, jN, seval, y3, vint, qX] <;> with_reducible rfl) (by decide) ?_
  repeat (refine awp_seq ?_)
  refine awp_cond rfl (by simp only [jN, seval, vint, qX] <;> with_reducible rfl) (fun bt14 => ?_) (fun bt14 => ?_)
  ·
    have hp : 0 < n0 := by have := of_decide_eq_true bt14; omega
    have hv : firstT s = (n0, 101) := by rw [hft, if_pos hp]
    repeat (refine awp_seq ?_)
    refine awp_region ?_
    refine e_take 2 (by simp only [jA, jO, jN, seval, vint, qX] <;> with_reducible rfl) (by decide) ?_
    refine aops_pure (by simp only [jC, jN, seval, vint, qX] <;> with_reducible rfl) (by simp only [jC, jN, seval, vint, qX]) (by decide) Trydgo26 (ft1_c s hs _ n0 ln0 _ 0 rfl) ?_
    refine e_end (by simp only [jA, jO, jN, seval, y30, vint, qX] <;> with_reducible rfl) (by decide) ?_
    repeat (refine awp_seq ?_)
    refine awp_ret ⟨.inr rfl, _, (ares_cell 2 30 rfl Trydti30 (by decide) (by simp only [jL, jN, seval, vint, qX] <;> with_reducible rfl)), ?_⟩
    rw [hv]
    simp only [jN, seval, vint, qX]
    try rfl
  ·
    have hp : ¬ 0 < n0 := by have := of_decide_eq_false bt14; omega
    rw [if_neg hp] at hft
    repeat (refine awp_seq ?_)
    refine awp_skip ?_
    rcases h2 with h2 | h2
    ·
      have l2 : (1 < (s.length : Int)) = True := by simp; omega
      have l3 : (2 ≤ (s.length : Int)) = True := by simp; omega
      repeat (refine awp_seq ?_)
      refine g_eval (by simp only [jG, jO, jN, seval, y3, y9, jS, vint, qX, l2, l3, decide_true, List.drop_zero] <;> with_reducible rfl) (by decide) (by repeat (first | exact Fin.base _ | with_reducible apply Fin.keep | apply Fin.drop)) ?_
      repeat (refine awp_seq ?_)
      refine awp_cond rfl (by simp only [jN, seval, vint, qX, l2, l3, decide_true, List.drop_zero] <;> with_reducible rfl) (fun bt25 => ?_) (fun bt25 => ?_)
      ·
        have hv : firstT s = (n1, 102) := by rw [hft, if_pos (of_decide_eq_true bt25)]
        refine awp_sel [1, 2, 3] (by simp only [jN, seval, vint, qX, l2, l3, decide_true, List.drop_zero] <;> with_reducible rfl) ?_
        repeat (refine awp_seq ?_)
        refine awp_region ?_
        refine e_take 2 (by simp only [jA, jO, jN, seval, y9, vint, qX, l2, l3, decide_true, List.drop_zero] <;> with_reducible rfl) (by decide) ?_
        refine aops_pure (by simp only [jC, jN, seval, vint, qX, l2, l3, decide_true, List.drop_zero] <;> with_reducible rfl) (by simp only [jC, jN, seval, vint, qX, l2, l3, decide_true, List.drop_zero]) (by decide) Trydgo27 (rn1 _) ?_
        refine aops_pure (by simp only [jC, jN, seval, vint, qX, l2, l3, decide_true, List.drop_zero] <;> with_reducible rfl) (by simp only [jC, jN, seval, vint, qX, l2, l3, decide_true, List.drop_zero]) (by decide) Trydgo26 (ft1_c s hs _ n1 ln1 _ 0 rfl) ?_
        refine e_end (by simp only [jA, jO, jN, seval, y30, vint, qX, l2, l3, decide_true, List.drop_zero] <;> with_reducible rfl) (by decide) ?_
        repeat (refine awp_seq ?_)
        refine awp_ret ⟨.inr rfl, _, (ares_cell 2 30 rfl Trydti30 (by decide) (by simp only [jL, jN, seval, vint, qX, l2, l3, decide_true, List.drop_zero] <;> with_reducible rfl)), ?_⟩
        rw [hv]
        simp only [jN, seval, vint, qX]
        try rfl
      ·
        rw [if_neg (of_decide_eq_false bt25)] at hft
        repeat (refine awp_seq ?_)
        refine awp_skip ?_
        refine awp_sel [1, 2, 3] (by simp only [jN, seval, vint, qX, l2, l3, decide_true, List.drop_zero] <;> with_reducible rfl) ?_
        repeat (refine awp_seq ?_)
        refine awp_region ?_
        refine e_take 1 (by simp only [jA, jO, jN, seval, y9, vint, qX, l2, l3, decide_true, List.drop_zero] <;> with_reducible rfl) (by decide) ?_
        refine aops_pure (by simp only [jC, jN, seval, vint, qX, l2, l3, decide_true, List.drop_zero] <;> with_reducible rfl) (by simp only [jC, jN, seval, vint, qX, l2, l3, decide_true, List.drop_zero]) (by decide) Trydgo27 (rn3 _) ?_
        refine e_end (by simp only [jA, jO, jN, seval, vint, qX, l2, l3, decide_true, List.drop_zero] <;> with_reducible rfl) (by decide) ?_
        repeat (refine awp_seq ?_)
        refine e_eval (by simp only [jA, jO, jN, seval, y3, vint, qX, l2, l3, decide_true, List.drop_zero] <;> with_reducible rfl) (by decide) ?_
        repeat (refine awp_seq ?_)
        refine awp_cond rfl (by simp only [jN, seval, vint, qX, l2, l3, decide_true, List.drop_zero] <;> with_reducible rfl) (fun bt33 => ?_) (fun bt33 => ?_)
        ·
          have hp3 : 0 < n3 := by have := of_decide_eq_true bt33; omega
          have hv : firstT s = (n3, 105) := by rw [hft, if_pos hp3]
          repeat (refine awp_seq ?_)
          refine awp_region ?_
          refine e_take 2 (by simp only [jA, jO, jN, seval, vint, qX, l2, l3, decide_true, List.drop_zero] <;> with_reducible rfl) (by decide) ?_
          refine aops_pure (by simp only [jC, jN, seval, vint, qX, l2, l3, decide_true, List.drop_zero] <;> with_reducible rfl) (by simp only [jC, jN, seval, vint, qX, l2, l3, decide_true, List.drop_zero]) (by decide) Trydgo26 (ft1_c s hs _ n3 ln3 _ 0 rfl) ?_
          refine e_end (by simp only [jA, jO, jN, seval, y30, vint, qX, l2, l3, decide_true, List.drop_zero] <;> with_reducible rfl) (by decide) ?_
          repeat (refine awp_seq ?_)
          refine awp_ret ⟨.inr rfl, _, (ares_cell 2 30 rfl Trydti30 (by decide) (by simp only [jL, jN, seval, vint, qX, l2, l3, decide_true, List.drop_zero] <;> with_reducible rfl)), ?_⟩
          rw [hv]
          simp only [jN, seval, vint, qX]
          try rfl
        ·
          have hp3 : ¬ 0 < n3 := by have := of_decide_eq_false bt33; omega
          rw [if_neg hp3] at hft
          repeat (refine awp_seq ?_)
          refine awp_skip ?_
          repeat (refine awp_seq ?_)
          refine awp_region ?_
          refine e_take 1 (by simp only [jA, jO, jN, seval, y9, vint, qX, l2, l3, decide_true, List.drop_zero] <;> with_reducible rfl) (by decide) ?_
          refine aops_pure (by simp only [jC, jN, seval, vint, qX, l2, l3, decide_true, List.drop_zero] <;> with_reducible rfl) (by simp only [jC, jN, seval, vint, qX, l2, l3, decide_true, List.drop_zero]) (by decide) Trydgo27 (rn2 _) ?_
          refine e_end (by simp only [jA, jO, jN, seval, vint, qX, l2, l3, decide_true, List.drop_zero] <;> with_reducible rfl) (by decide) ?_
          repeat (refine awp_seq ?_)
          refine e_eval (by simp only [jA, jO, jN, seval, y3, vint, qX, l2, l3, decide_true, List.drop_zero] <;> with_reducible rfl) (by decide) ?_
          repeat (refine awp_seq ?_)
          refine awp_cond rfl (by simp only [jN, seval, vint, qX, l2, l3, decide_true, List.drop_zero] <;> with_reducible rfl) (fun bt40 => ?_) (fun bt40 => ?_)
          ·
            have hp2 : 0 < n2 := by have := of_decide_eq_true bt40; omega
            rw [if_pos hp2] at hft
            have h3 : ((0 : Int) ≤ n2 ∧ (n2 : Int) ≤ s.length) = True := by simp; omega
            have h4 : (n2 ≤ s.length) = True := by simp; omega
            have h5 : ((n2 : Int) ≤ (s.length : Int)) = True := by simp; omega
            have h6 : ((0 : Int) ≤ (n2 : Int)) = True := by simp
            repeat (refine awp_seq ?_)
            refine dp_draw (by kernel_rfl) ?_
            refine dp_keep (by simp only [jE, jN, seval, vint, qX, l2, l3, decide_true, List.drop_zero, jS, h3, h4, h5, h6, Int.toNat_natCast, List.drop_zero] <;> with_reducible rfl) (by simp only [jE, jN, seval, vint, qX, l2, l3, decide_true, List.drop_zero, jS, h3, h4, h5, h6, Int.toNat_natCast, List.drop_zero] <;> with_reducible rfl) (by simp only [jE, jN, seval, vint, qX, l2, l3, decide_true, List.drop_zero, jS, h3, h4, h5, h6, Int.toNat_natCast, List.drop_zero]) (by decide) Trydgo11 (fun hc => kwR_c _) ?_
            refine dp_take 3 (by simp only [jP, jO, jN, seval, y9, jS, vint, qX, l2, l3, decide_true, List.drop_zero, jS, h3, h4, h5, h6, Int.toNat_natCast, List.drop_zero] <;> with_reducible rfl) (by decide) ?_
            refine dp_keep (by simp only [jE, jN, seval, vint, qX, l2, l3, decide_true, List.drop_zero, jS, h3, h4, h5, h6, Int.toNat_natCast, List.drop_zero] <;> with_reducible rfl) (by simp only [jE, jN, seval, vint, qX, l2, l3, decide_true, List.drop_zero, jS, h3, h4, h5, h6, Int.toNat_natCast, List.drop_zero] <;> with_reducible rfl) (by simp only [jE, jN, seval, vint, qX, l2, l3, decide_true, List.drop_zero, jS, h3, h4, h5, h6, Int.toNat_natCast, List.drop_zero]) (by decide) Trydgo28 (fun hc => contR kwL (s.take n2) (by decide) _) ?_
            refine dp_end (by simp only [jP, jO, jN, seval, vint, qX, l2, l3, decide_true, List.drop_zero, jS, h3, h4, h5, h6, Int.toNat_natCast, List.drop_zero] <;> with_reducible rfl) (by decide) (by repeat (first | exact Fin.base _ | with_reducible apply Fin.keep | apply Fin.drop)) ?_
            repeat (refine awp_seq ?_)
            refine awp_cond rfl (by simp only [jN, seval, vint, qX, l2, l3, decide_true, List.drop_zero] <;> with_reducible rfl) (fun bt45 => ?_) (fun bt45 => ?_)
            ·
              have hv : firstT s = (n2, 104) := by rw [hft, if_pos bt45]
              refine awp_sel [2, 3, 6] (by simp only [jN, seval, vint, qX, l2, l3, decide_true, List.drop_zero] <;> with_reducible rfl) ?_
              repeat (refine awp_seq ?_)
              refine awp_region ?_
              refine e_take 2 (by simp only [jA, jO, jN, seval, vint, qX, l2, l3, decide_true, List.drop_zero] <;> with_reducible rfl) (by decide) ?_
              refine aops_pure (by simp only [jC, jN, seval, vint, qX, l2, l3, decide_true, List.drop_zero] <;> with_reducible rfl) (by simp only [jC, jN, seval, vint, qX, l2, l3, decide_true, List.drop_zero]) (by decide) Trydgo26 (ft1_c s hs _ n2 ln2 _ 0 rfl) ?_
              refine e_end (by simp only [jA, jO, jN, seval, y30, vint, qX, l2, l3, decide_true, List.drop_zero] <;> with_reducible rfl) (by decide) ?_
              repeat (refine awp_seq ?_)
              refine awp_ret ⟨.inr rfl, _, (ares_cell 2 30 rfl Trydti30 (by decide) (by simp only [jL, jN, seval, vint, qX, l2, l3, decide_true, List.drop_zero] <;> with_reducible rfl)), ?_⟩
              rw [hv]
              simp only [jN, seval, vint, qX]
              try rfl
            ·
              have hv : firstT s = (n2, 103) := by rw [hft, if_neg (by rw [bt45]; simp)]
              repeat (refine awp_seq ?_)
              refine awp_skip ?_
              refine awp_sel [2, 3, 6] (by simp only [jN, seval, vint, qX, l2, l3, decide_true, List.drop_zero] <;> with_reducible rfl) ?_
              repeat (refine awp_seq ?_)
              refine awp_region ?_
              refine e_take 2 (by simp only [jA, jO, jN, seval, vint, qX, l2, l3, decide_true, List.drop_zero] <;> with_reducible rfl) (by decide) ?_
              refine aops_pure (by simp only [jC, jN, seval, vint, qX, l2, l3, decide_true, List.drop_zero] <;> with_reducible rfl) (by simp only [jC, jN, seval, vint, qX, l2, l3, decide_true, List.drop_zero]) (by decide) Trydgo26 (ft1_c s hs _ n2 ln2 _ 0 rfl) ?_
              refine e_end (by simp only [jA, jO, jN, seval, y30, vint, qX, l2, l3, decide_true, List.drop_zero] <;> with_reducible rfl) (by decide) ?_
              repeat (refine awp_seq ?_)
              refine awp_ret ⟨.inr rfl, _, (ares_cell 2 30 rfl Trydti30 (by decide) (by simp only [jL, jN, seval, vint, qX, l2, l3, decide_true, List.drop_zero] <;> with_reducible rfl)), ?_⟩
              rw [hv]
              simp only [jN, seval, vint, qX]
              try rfl
          ·
            have hp2 : ¬ 0 < n2 := by have := of_decide_eq_false bt40; omega
            rw [if_neg hp2] at hft
            repeat (refine awp_seq ?_)
            refine awp_skip ?_
            repeat (refine awp_seq ?_)
            refine e_eval (by simp only [jA, jO, jN, seval, y5, y9, vint, qX, l2, l3, decide_true, List.drop_zero, g1, g2, e34] <;> with_reducible rfl) (by decide) ?_
            repeat (refine awp_seq ?_)
            refine awp_cond rfl (by simp only [jN, seval, vint, qX, l2, l3, decide_true, List.drop_zero] <;> with_reducible rfl) (fun bt54 => ?_) (fun bt54 => ?_)
            ·
              have h34 : c = 34 := by simpa using bt54
              rw [if_pos h34] at hft
              repeat (refine awp_seq ?_)
              refine awp_region ?_
              refine e_take 1 (by simp only [jA, jO, jN, seval, y9, vint, qX, l2, l3, decide_true, List.drop_zero] <;> with_reducible rfl) (by decide) ?_
              refine aops_pure (by simp only [jC, jN, seval, vint, qX, l2, l3, decide_true, List.drop_zero] <;> with_reducible rfl) (by simp only [jC, jN, seval, vint, qX, l2, l3, decide_true, List.drop_zero]) (by decide) Trydgo29 (rn4 _) ?_
              refine e_end (by simp only [jA, jO, jN, seval, vint, qX, l2, l3, decide_true, List.drop_zero] <;> with_reducible rfl) (by decide) ?_
              refine awp_sel [1, 2, 3, 7] (by simp only [jN, seval, vint, qX, l2, l3, decide_true, List.drop_zero] <;> with_reducible rfl) ?_
              repeat (refine awp_seq ?_)
              refine e_eval (by simp only [jA, jO, jN, seval, y3, vint, qX, l2, l3, decide_true, List.drop_zero] <;> with_reducible rfl) (by decide) ?_
              repeat (refine awp_seq ?_)
              refine awp_cond rfl (by simp only [jN, seval, vint, qX, l2, l3, decide_true, List.drop_zero] <;> with_reducible rfl) (fun bt58 => ?_) (fun bt58 => ?_)
              ·
                have hp4 : 0 < n4 := by have := of_decide_eq_true bt58; omega
                have hv : firstT s = (n4, 106) := by rw [hft, if_pos hp4]
                have ln4 : n4 ≤ s.length := by rw [hv] at hb; exact hb.2
                repeat (refine awp_seq ?_)
                refine awp_region ?_
                refine e_take 2 (by simp only [jA, jO, jN, seval, vint, qX, l2, l3, decide_true, List.drop_zero] <;> with_reducible rfl) (by decide) ?_
                refine aops_pure (by simp only [jC, jN, seval, vint, qX, l2, l3, decide_true, List.drop_zero] <;> with_reducible rfl) (by simp only [jC, jN, seval, vint, qX, l2, l3, decide_true, List.drop_zero]) (by decide) Trydgo26 (ft1_c s hs _ n4 ln4 _ 0 rfl) ?_
                refine e_end (by simp only [jA, jO, jN, seval, y30, vint, qX, l2, l3, decide_true, List.drop_zero] <;> with_reducible rfl) (by decide) ?_
                repeat (refine awp_seq ?_)
                refine awp_ret ⟨.inr rfl, _, (ares_cell 2 30 rfl Trydti30 (by decide) (by simp only [jL, jN, seval, vint, qX, l2, l3, decide_true, List.drop_zero] <;> with_reducible rfl)), ?_⟩
                rw [hv]
                simp only [jN, seval, vint, qX]
                try rfl
              ·
                have hp4 : ¬ 0 < n4 := by have := of_decide_eq_false bt58; omega
                have hv : firstT s = (n1, 108) := by rw [hft, if_neg hp4]
                repeat (refine awp_seq ?_)
                refine awp_skip ?_
                repeat (refine awp_seq ?_)
                refine awp_region ?_
                refine e_take 2 (by simp only [jA, jO, jN, seval, y9, vint, qX, l2, l3, decide_true, List.drop_zero] <;> with_reducible rfl) (by decide) ?_
                refine aops_pure (by simp only [jC, jN, seval, vint, qX, l2, l3, decide_true, List.drop_zero] <;> with_reducible rfl) (by simp only [jC, jN, seval, vint, qX, l2, l3, decide_true, List.drop_zero]) (by decide) Trydgo27 (rn1 _) ?_
                refine aops_pure (by simp only [jC, jN, seval, vint, qX, l2, l3, decide_true, List.drop_zero] <;> with_reducible rfl) (by simp only [jC, jN, seval, vint, qX, l2, l3, decide_true, List.drop_zero]) (by decide) Trydgo26 (ft1_c s hs _ n1 ln1 _ 0 rfl) ?_
                refine e_end (by simp only [jA, jO, jN, seval, y30, vint, qX, l2, l3, decide_true, List.drop_zero] <;> with_reducible rfl) (by decide) ?_
                repeat (refine awp_seq ?_)
                refine awp_ret ⟨.inr rfl, _, (ares_cell 2 30 rfl Trydti30 (by decide) (by simp only [jL, jN, seval, vint, qX, l2, l3, decide_true, List.drop_zero] <;> with_reducible rfl)), ?_⟩
                rw [hv]
                simp only [jN, seval, vint, qX]
                try rfl
            ·
              have h34 : ¬ c = 34 := by simpa using bt54
              rw [if_neg h34] at hft
              repeat (refine awp_seq ?_)
              refine awp_skip ?_
              repeat (refine awp_seq ?_)
              refine awp_region ?_
              refine aops_pure (by simp only [jC, jN, seval, vint, qX, l2, l3, decide_true, List.drop_zero] <;> with_reducible rfl) (by simp only [jC, jN, seval, vint, qX, l2, l3, decide_true, List.drop_zero]) (by decide) Trydgo30 (punR_c _) ?_
              refine e_end (by simp only [jA, jO, jN, seval, y9, y33, vint, qX, l2, l3, decide_true, List.drop_zero] <;> with_reducible rfl) (by decide) ?_
              repeat (refine awp_seq ?_)
              refine awp_forS (σ := Unit) (punL.length) (fun (u_ : Unit) => [(1, .optr 0 0), (2, .optr 1 0), (3, .fn (.func 26) [] [.optr 0 0]), (66, .slice (punL.map PV.str) .none)]) [1, 2, 3, 66] ([]) (fun (u_ : Unit) => [.row [.str s], .row [.int .i64 0, .str []]]) (fun (i : Nat) (u_ : Unit) => (punL.take i).any (punQ s) = false) (()) (_) rfl rfl rfl rfl rfl rfl rfl rfl rfl (by decide) (by decide) (by decide) (fun _ => rfl) ((by decide)) ⟨(by first | rfl | (simp only [jN, seval, vint, qX, l2, l3, decide_true, List.drop_zero] <;> first | done | with_reducible rfl)), (by first | rfl | (simp only [jN, seval, vint, qX, l2, l3, decide_true, List.drop_zero] <;> first | done | with_reducible rfl)), (by first | rfl | (simp only [jN, seval, vint, qX, l2, l3, decide_true, List.drop_zero] <;> first | done | with_reducible rfl)), (by first | rfl | (simp only [jN, seval, vint, qX, l2, l3, decide_true, List.drop_zero] <;> first | done | with_reducible rfl)), (by first | rfl | (simp only [jN, seval, vint, qX, l2, l3, decide_true, List.drop_zero] <;> first | done | with_reducible rfl)), (by first | rfl | (simp only [jN, seval, vint, qX, l2, l3, decide_true, List.drop_zero] <;> first | done | with_reducible rfl)), trivial⟩ (by first | rfl | (simp only [jN, seval, vint, qX, l2, l3, decide_true, List.drop_zero] <;> first | done | with_reducible rfl)) (by simp) (fun _ _ _ => by first | exact Nat.zero_le _ | (simp only [List.length_append]; omega)) ?_ ?_ ?_
              · exact fun i u hg => ⟨by simp only [List.nil_append]; repeat (first | exact hbel_nil _ | exact trivial | exact obel_row_nil _ | (refine HBel.cons ?_ ?_) | (refine obel_row_cons (by first | exact Bel.fn _ _ _ (by simp) (by intro c hc; rw [List.mem_singleton.1 hc]; exact Bel.optr _ _ (by simp)) | exact bel_strs0 _ _ | exact Tk.bel _ _ | exact bel_nil0 _ | exact bel_nil1 _ | exact Bel.int _ _ | exact Bel.bool _ | exact Bel.str _ | exact Bel.nilp | exact Bel.nilfn | exact Bel.optr _ _ (by simp) | exact bel_nil0 _ | exact bel_nil1 _ | exact bel_fn0 _ _ | assumption) ?_)), by repeat (first | exact BelL.nil | refine BelL.cons (by first | exact Bel.fn _ _ _ (by simp) (by intro c hc; rw [List.mem_singleton.1 hc]; exact Bel.optr _ _ (by simp)) | exact bel_strs0 _ _ | exact Tk.bel _ _ | exact bel_nil0 _ | exact bel_nil1 _ | exact Bel.int _ _ | exact Bel.bool _ | exact Bel.str _ | exact Bel.nilp | exact Bel.nilfn | exact Bel.optr _ _ (by simp) | exact bel_nil0 _ | exact bel_nil1 _ | exact bel_fn0 _ _ | assumption) ?_)⟩
              · intro i u_ hi hg
                have g1 := ix_nat hi
                have g3 := get_enc PV.str hi
                obtain ⟨p, hp⟩ : ∃ p, punL[i] = p := ⟨_, rfl⟩
                rw [hp] at g3
                have hcs : p.length ≤ s.length ∨ ¬ p.length ≤ s.length := by omega
                repeat (refine awp_seq ?_)
                refine e_eval (by simp only [jA, jO, jN, seval, y9, y33, vint, qX, l2, l3, decide_true, List.drop_zero, g1, Int.toNat_natCast, g3] <;> with_reducible rfl) (by decide) ?_
                rcases hcs with hc | hc
                ·
                  have l2 : ((p.length : Int) ≤ s.length) = True := by simp; omega
                  have l4 : (p.length ≤ s.length) = True := by simp; omega
                  have l5 : ((0 : Int) ≤ (p.length : Int)) = True := by simp
                  repeat (refine awp_seq ?_)
                  refine g_eval (by simp only [jG, jO, jN, seval, y3, y9, jS, vint, qX, l2, l3, decide_true, List.drop_zero, g1, Int.toNat_natCast, g3, jS, l2, l4, l5, decide_true, List.drop_zero] <;> with_reducible rfl) (by decide) (by repeat (first | exact Fin.base _ | with_reducible apply Fin.keep | apply Fin.drop)) ?_
                  repeat (refine awp_seq ?_)
                  refine awp_cond rfl (by simp only [jN, seval, vint, qX, l2, l3, decide_true, List.drop_zero, g1, Int.toNat_natCast, g3, jS, l2, l4, l5, decide_true, List.drop_zero] <;> with_reducible rfl) (fun bt84 => ?_) (fun bt84 => ?_)
                  ·
                    have hq : punQ s punL[i] = true := by rw [hp]; exact bt84
                    have hv : firstT s = (p.length, 107) := by rw [hft]; unfold punT; rw [find_at hi hq hg, hp]
                    refine awp_sel [1, 2, 3, 9, 66, 67, 68] (by simp only [jN, seval, vint, qX, l2, l3, decide_true, List.drop_zero, g1, Int.toNat_natCast, g3, jS, l2, l4, l5, decide_true, List.drop_zero] <;> with_reducible rfl) ?_
                    repeat (refine awp_seq ?_)
                    refine awp_region ?_
                    refine e_take 3 (by simp only [jA, jO, jN, seval, y9, vint, qX, l2, l3, decide_true, List.drop_zero, g1, Int.toNat_natCast, g3, jS, l2, l4, l5, decide_true, List.drop_zero] <;> with_reducible rfl) (by decide) ?_
                    refine aops_pure (by simp only [jC, jN, seval, vint, qX, l2, l3, decide_true, List.drop_zero, g1, Int.toNat_natCast, g3, jS, l2, l4, l5, decide_true, List.drop_zero] <;> with_reducible rfl) (by simp only [jC, jN, seval, vint, qX, l2, l3, decide_true, List.drop_zero, g1, Int.toNat_natCast, g3, jS, l2, l4, l5, decide_true, List.drop_zero]) (by decide) Trydgo26 (ft1_c s hs _ p.length hc _ 0 rfl) ?_
                    refine e_end (by simp only [jA, jO, jN, seval, y30, vint, qX, l2, l3, decide_true, List.drop_zero, g1, Int.toNat_natCast, g3, jS, l2, l4, l5, decide_true, List.drop_zero] <;> with_reducible rfl) (by decide) ?_
                    repeat (refine awp_seq ?_)
                    refine awp_ret ⟨.inr rfl, _, (ares_cell 2 30 rfl Trydti30 (by decide) (by simp only [jL, jN, seval, vint, qX, l2, l3, decide_true, List.drop_zero, g1, Int.toNat_natCast, g3, jS, l2, l4, l5, decide_true, List.drop_zero] <;> with_reducible rfl)), ?_⟩
                    rw [hv]
                    simp only [jN, seval, vint, qX]
                    try rfl
                  ·
                    have hq : punQ s punL[i] = false := by rw [hp]; exact bt84
                    repeat (refine awp_seq ?_)
                    refine awp_skip ?_
                    exact ⟨⟨rfl, rfl, trivial⟩, (), [], ⟨rfl, rfl, rfl, rfl, trivial⟩, rfl, any_take_succ hi hg hq⟩
                ·
                  have l2 : ((p.length : Int) ≤ s.length) = False := by simp; omega
                  have hq : punQ s punL[i] = false := by rw [hp]; cases h : punQ s p with
                    | false => rfl
                    | true => exact absurd (punQ_len h) hc
                  repeat (refine awp_seq ?_)
                  refine awp_region ?_
                  refine aops_gstart ?_
                  refine g_take 9 (by simp only [jG, jO, jN, seval, y3, y9, vint, qX, l2, l3, decide_true, List.drop_zero, g1, Int.toNat_natCast, g3, l2, decide_false] <;> with_reducible rfl) (by decide) ?_
                  refine aops_gskip (r := .tup []) (by simp only [jE, jN, seval, vint, qX, l2, l3, decide_true, List.drop_zero, g1, Int.toNat_natCast, g3, l2, decide_false] <;> with_reducible rfl) ?_
                  refine g_take 1 (by simp only [jG, jO, jN, seval, vint, qX, l2, l3, decide_true, List.drop_zero, g1, Int.toNat_natCast, g3, l2, decide_false] <;> with_reducible rfl) (by decide) ?_
                  refine aops_gskip (r := .tup []) (by simp only [jE, jN, seval, vint, qX, l2, l3, decide_true, List.drop_zero, g1, Int.toNat_natCast, g3, l2, decide_false] <;> with_reducible rfl) ?_
                  refine g_end (by simp only [jG, jO, jN, seval, vint, qX, l2, l3, decide_true, List.drop_zero, g1, Int.toNat_natCast, g3, l2, decide_false] <;> with_reducible rfl) (by decide) (by repeat (first | exact Fin.base _ | with_reducible apply Fin.keep | apply Fin.drop)) ?_
                  repeat (refine awp_seq ?_)
                  refine awp_cond_false rfl (by simp only [jN, seval, vint, qX, l2, l3, decide_true, List.drop_zero, g1, Int.toNat_natCast, g3, l2, decide_false] <;> with_reducible rfl) ?_
                  repeat (refine awp_seq ?_)
                  refine awp_skip ?_
                  exact ⟨⟨rfl, rfl, trivial⟩, (), [], ⟨rfl, rfl, rfl, rfl, trivial⟩, rfl, any_take_succ hi hg hq⟩
              · intro u_ hg
                rw [List.take_length] at hg
                have hv : firstT s = (1, 108) := by rw [hft]; unfold punT; rw [find_none hg]
                repeat (refine awp_seq ?_)
                refine awp_region ?_
                refine e_take 1 (by simp only [jA, jO, jN, seval, vint, qX, l2, l3, decide_true, List.drop_zero] <;> with_reducible rfl) (by decide) ?_
                refine aops_pure (by simp only [jC, jN, seval, vint, qX, l2, l3, decide_true, List.drop_zero] <;> with_reducible rfl) (by simp only [jC, jN, seval, vint, qX, l2, l3, decide_true, List.drop_zero]) (by decide) Trydgo26 (ft1_c s hs _ 1 h1 _ 0 rfl) ?_
                refine e_end (by simp only [jA, jO, jN, seval, y30, vint, qX, l2, l3, decide_true, List.drop_zero] <;> with_reducible rfl) (by decide) ?_
                repeat (refine awp_seq ?_)
                refine awp_ret ⟨.inr rfl, _, (ares_cell 2 30 rfl Trydti30 (by decide) (by simp only [jL, jN, seval, vint, qX, l2, l3, decide_true, List.drop_zero] <;> with_reducible rfl)), ?_⟩
                rw [hv]
                simp only [jN, seval, vint, qX]
                try rfl
    ·
      have l2 : (1 < (s.length : Int)) = False := by simp; omega
      rw [if_neg (fun q => h2 (by have := congrArg List.length q; rw [List.length_take] at this; simp only [List.length_cons, List.length_nil] at this; omega))] at hft
      repeat (refine awp_seq ?_)
      refine awp_region ?_
      refine aops_gstart ?_
      refine g_take 4 (by simp only [jG, jO, jN, seval, y3, y9, vint, qX, l2, decide_false] <;> with_reducible rfl) (by decide) ?_
      refine aops_gskip (r := .tup []) (by simp only [jE, jN, seval, vint, qX, l2, decide_false] <;> with_reducible rfl) ?_
      refine aops_gskip (r := .tup []) (by simp only [jE, jN, seval, vint, qX, l2, decide_false] <;> with_reducible rfl) ?_
      refine aops_gskip (r := .tup []) (by simp only [jE, jN, seval, vint, qX, l2, decide_false] <;> with_reducible rfl) ?_
      refine g_end (by simp only [jG, jO, jN, seval, vint, qX, l2, decide_false] <;> with_reducible rfl) (by decide) (by repeat (first | exact Fin.base _ | with_reducible apply Fin.keep | apply Fin.drop)) ?_
      repeat (refine awp_seq ?_)
      refine awp_cond_false rfl (by simp only [jN, seval, vint, qX, l2, decide_false] <;> with_reducible rfl) ?_
      repeat (refine awp_seq ?_)
      refine awp_skip ?_
      refine awp_sel [1, 2, 3] (by simp only [jN, seval, vint, qX, l2, decide_false] <;> with_reducible rfl) ?_
      repeat (refine awp_seq ?_)
      refine awp_region ?_
      refine e_take 1 (by simp only [jA, jO, jN, seval, y9, vint, qX, l2, decide_false] <;> with_reducible rfl) (by decide) ?_
      refine aops_pure (by simp only [jC, jN, seval, vint, qX, l2, decide_false] <;> with_reducible rfl) (by simp only [jC, jN, seval, vint, qX, l2, decide_false]) (by decide) Trydgo27 (rn3 _) ?_
      refine e_end (by simp only [jA, jO, jN, seval, vint, qX, l2, decide_false] <;> with_reducible rfl) (by decide) ?_
      repeat (refine awp_seq ?_)
      refine e_eval (by simp only [jA, jO, jN, seval, y3, vint, qX, l2, decide_false] <;> with_reducible rfl) (by decide) ?_
      repeat (refine awp_seq ?_)
      refine awp_cond rfl (by simp only [jN, seval, vint, qX, l2, decide_false] <;> with_reducible rfl) (fun bt33 => ?_) (fun bt33 => ?_)
      ·
        have hp3 : 0 < n3 := by have := of_decide_eq_true bt33; omega
        have hv : firstT s = (n3, 105) := by rw [hft, if_pos hp3]
        repeat (refine awp_seq ?_)
        refine awp_region ?_
        refine e_take 2 (by simp only [jA, jO, jN, seval, vint, qX, l2, decide_false] <;> with_reducible rfl) (by decide) ?_
        refine aops_pure (by simp only [jC, jN, seval, vint, qX, l2, decide_false] <;> with_reducible rfl) (by simp only [jC, jN, seval, vint, qX, l2, decide_false]) (by decide) Trydgo26 (ft1_c s hs _ n3 ln3 _ 0 rfl) ?_
        refine e_end (by simp only [jA, jO, jN, seval, y30, vint, qX, l2, decide_false] <;> with_reducible rfl) (by decide) ?_
        repeat (refine awp_seq ?_)
        refine awp_ret ⟨.inr rfl, _, (ares_cell 2 30 rfl Trydti30 (by decide) (by simp only [jL, jN, seval, vint, qX, l2, decide_false] <;> with_reducible rfl)), ?_⟩
        rw [hv]
        simp only [jN, seval, vint, qX]
        try rfl
      ·
        have hp3 : ¬ 0 < n3 := by have := of_decide_eq_false bt33; omega
        rw [if_neg hp3] at hft
        repeat (refine awp_seq ?_)
        refine awp_skip ?_
        repeat (refine awp_seq ?_)
        refine awp_region ?_
        refine e_take 1 (by simp only [jA, jO, jN, seval, y9, vint, qX, l2, decide_false] <;> with_reducible rfl) (by decide) ?_
        refine aops_pure (by simp only [jC, jN, seval, vint, qX, l2, decide_false] <;> with_reducible rfl) (by simp only [jC, jN, seval, vint, qX, l2, decide_false]) (by decide) Trydgo27 (rn2 _) ?_
        refine e_end (by simp only [jA, jO, jN, seval, vint, qX, l2, decide_false] <;> with_reducible rfl) (by decide) ?_
        repeat (refine awp_seq ?_)
        refine e_eval (by simp only [jA, jO, jN, seval, y3, vint, qX, l2, decide_false] <;> with_reducible rfl) (by decide) ?_
        repeat (refine awp_seq ?_)
        refine awp_cond rfl (by simp only [jN, seval, vint, qX, l2, decide_false] <;> with_reducible rfl) (fun bt40 => ?_) (fun bt40 => ?_)
        ·
          have hp2 : 0 < n2 := by have := of_decide_eq_true bt40; omega
          rw [if_pos hp2] at hft
          have h3 : ((0 : Int) ≤ n2 ∧ (n2 : Int) ≤ s.length) = True := by simp; omega
          have h4 : (n2 ≤ s.length) = True := by simp; omega
          have h5 : ((n2 : Int) ≤ (s.length : Int)) = True := by simp; omega
          have h6 : ((0 : Int) ≤ (n2 : Int)) = True := by simp
          repeat (refine awp_seq ?_)
          refine dp_draw (by kernel_rfl) ?_
          refine dp_keep (by simp only [jE, jN, seval, vint, qX, l2, decide_false, jS, h3, h4, h5, h6, Int.toNat_natCast, List.drop_zero] <;> with_reducible rfl) (by simp only [jE, jN, seval, vint, qX, l2, decide_false, jS, h3, h4, h5, h6, Int.toNat_natCast, List.drop_zero] <;> with_reducible rfl) (by simp only [jE, jN, seval, vint, qX, l2, decide_false, jS, h3, h4, h5, h6, Int.toNat_natCast, List.drop_zero]) (by decide) Trydgo11 (fun hc => kwR_c _) ?_
          refine dp_take 3 (by simp only [jP, jO, jN, seval, y9, jS, vint, qX, l2, decide_false, jS, h3, h4, h5, h6, Int.toNat_natCast, List.drop_zero] <;> with_reducible rfl) (by decide) ?_
          refine dp_keep (by simp only [jE, jN, seval, vint, qX, l2, decide_false, jS, h3, h4, h5, h6, Int.toNat_natCast, List.drop_zero] <;> with_reducible rfl) (by simp only [jE, jN, seval, vint, qX, l2, decide_false, jS, h3, h4, h5, h6, Int.toNat_natCast, List.drop_zero] <;> with_reducible rfl) (by simp only [jE, jN, seval, vint, qX, l2, decide_false, jS, h3, h4, h5, h6, Int.toNat_natCast, List.drop_zero]) (by decide) Trydgo28 (fun hc => contR kwL (s.take n2) (by decide) _) ?_
          refine dp_end (by simp only [jP, jO, jN, seval, vint, qX, l2, decide_false, jS, h3, h4, h5, h6, Int.toNat_natCast, List.drop_zero] <;> with_reducible rfl) (by decide) (by repeat (first | exact Fin.base _ | with_reducible apply Fin.keep | apply Fin.drop)) ?_
          repeat (refine awp_seq ?_)
          refine awp_cond rfl (by simp only [jN, seval, vint, qX, l2, decide_false] <;> with_reducible rfl) (fun bt45 => ?_) (fun bt45 => ?_)
          ·
            have hv : firstT s = (n2, 104) := by rw [hft, if_pos bt45]
            refine awp_sel [2, 3, 6] (by simp only [jN, seval, vint, qX, l2, decide_false] <;> with_reducible rfl) ?_
            repeat (refine awp_seq ?_)
            refine awp_region ?_
            refine e_take 2 (by simp only [jA, jO, jN, seval, vint, qX, l2, decide_false] <;> with_reducible rfl) (by decide) ?_
            refine aops_pure (by simp only [jC, jN, seval, vint, qX, l2, decide_false] <;> with_reducible rfl) (by simp only [jC, jN, seval, vint, qX, l2, decide_false]) (by decide) Trydgo26 (ft1_c s hs _ n2 ln2 _ 0 rfl) ?_
            refine e_end (by simp only [jA, jO, jN, seval, y30, vint, qX, l2, decide_false] <;> with_reducible rfl) (by decide) ?_
            repeat (refine awp_seq ?_)
            refine awp_ret ⟨.inr rfl, _, (ares_cell 2 30 rfl Trydti30 (by decide) (by simp only [jL, jN, seval, vint, qX, l2, decide_false] <;> with_reducible rfl)), ?_⟩
            rw [hv]
            simp only [jN, seval, vint, qX]
            try rfl
          ·
            have hv : firstT s = (n2, 103) := by rw [hft, if_neg (by rw [bt45]; simp)]
            repeat (refine awp_seq ?_)
            refine awp_skip ?_
            refine awp_sel [2, 3, 6] (by simp only [jN, seval, vint, qX, l2, decide_false] <;> with_reducible rfl) ?_
            repeat (refine awp_seq ?_)
            refine awp_region ?_
            refine e_take 2 (by simp only [jA, jO, jN, seval, vint, qX, l2, decide_false] <;> with_reducible rfl) (by decide) ?_
            refine aops_pure (by simp only [jC, jN, seval, vint, qX, l2, decide_false] <;> with_reducible rfl) (by simp only [jC, jN, seval, vint, qX, l2, decide_false]) (by decide) Trydgo26 (ft1_c s hs _ n2 ln2 _ 0 rfl) ?_
            refine e_end (by simp only [jA, jO, jN, seval, y30, vint, qX, l2, decide_false] <;> with_reducible rfl) (by decide) ?_
            repeat (refine awp_seq ?_)
            refine awp_ret ⟨.inr rfl, _, (ares_cell 2 30 rfl Trydti30 (by decide) (by simp only [jL, jN, seval, vint, qX, l2, decide_false] <;> with_reducible rfl)), ?_⟩
            rw [hv]
            simp only [jN, seval, vint, qX]
            try rfl
        ·
          have hp2 : ¬ 0 < n2 := by have := of_decide_eq_false bt40; omega
          rw [if_neg hp2] at hft
          repeat (refine awp_seq ?_)
          refine awp_skip ?_
          repeat (refine awp_seq ?_)
          refine e_eval (by simp only [jA, jO, jN, seval, y5, y9, vint, qX, l2, decide_false, g1, g2, e34] <;> with_reducible rfl) (by decide) ?_
          repeat (refine awp_seq ?_)
          refine awp_cond rfl (by simp only [jN, seval, vint, qX, l2, decide_false] <;> with_reducible rfl) (fun bt54 => ?_) (fun bt54 => ?_)
          ·
            have h34 : c = 34 := by simpa using bt54
            rw [if_pos h34] at hft
            repeat (refine awp_seq ?_)
            refine awp_region ?_
            refine e_take 1 (by simp only [jA, jO, jN, seval, y9, vint, qX, l2, decide_false] <;> with_reducible rfl) (by decide) ?_
            refine aops_pure (by simp only [jC, jN, seval, vint, qX, l2, decide_false] <;> with_reducible rfl) (by simp only [jC, jN, seval, vint, qX, l2, decide_false]) (by decide) Trydgo29 (rn4 _) ?_
            refine e_end (by simp only [jA, jO, jN, seval, vint, qX, l2, decide_false] <;> with_reducible rfl) (by decide) ?_
            refine awp_sel [1, 2, 3, 7] (by simp only [jN, seval, vint, qX, l2, decide_false] <;> with_reducible rfl) ?_
            repeat (refine awp_seq ?_)
            refine e_eval (by simp only [jA, jO, jN, seval, y3, vint, qX, l2, decide_false] <;> with_reducible rfl) (by decide) ?_
            repeat (refine awp_seq ?_)
            refine awp_cond rfl (by simp only [jN, seval, vint, qX, l2, decide_false] <;> with_reducible rfl) (fun bt58 => ?_) (fun bt58 => ?_)
            ·
              have hp4 : 0 < n4 := by have := of_decide_eq_true bt58; omega
              have hv : firstT s = (n4, 106) := by rw [hft, if_pos hp4]
              have ln4 : n4 ≤ s.length := by rw [hv] at hb; exact hb.2
              repeat (refine awp_seq ?_)
              refine awp_region ?_
              refine e_take 2 (by simp only [jA, jO, jN, seval, vint, qX, l2, decide_false] <;> with_reducible rfl) (by decide) ?_
              refine aops_pure (by simp only [jC, jN, seval, vint, qX, l2, decide_false] <;> with_reducible rfl) (by simp only [jC, jN, seval, vint, qX, l2, decide_false]) (by decide) Trydgo26 (ft1_c s hs _ n4 ln4 _ 0 rfl) ?_
              refine e_end (by simp only [jA, jO, jN, seval, y30, vint, qX, l2, decide_false] <;> with_reducible rfl) (by decide) ?_
              repeat (refine awp_seq ?_)
              refine awp_ret ⟨.inr rfl, _, (ares_cell 2 30 rfl Trydti30 (by decide) (by simp only [jL, jN, seval, vint, qX, l2, decide_false] <;> with_reducible rfl)), ?_⟩
              rw [hv]
              simp only [jN, seval, vint, qX]
              try rfl
            ·
              have hp4 : ¬ 0 < n4 := by have := of_decide_eq_false bt58; omega
              have hv : firstT s = (n1, 108) := by rw [hft, if_neg hp4]
              repeat (refine awp_seq ?_)
              refine awp_skip ?_
              repeat (refine awp_seq ?_)
              refine awp_region ?_
              refine e_take 2 (by simp only [jA, jO, jN, seval, y9, vint, qX, l2, decide_false] <;> with_reducible rfl) (by decide) ?_
              refine aops_pure (by simp only [jC, jN, seval, vint, qX, l2, decide_false] <;> with_reducible rfl) (by simp only [jC, jN, seval, vint, qX, l2, decide_false]) (by decide) Trydgo27 (rn1 _) ?_
              refine aops_pure (by simp only [jC, jN, seval, vint, qX, l2, decide_false] <;> with_reducible rfl) (by simp only [jC, jN, seval, vint, qX, l2, decide_false]) (by decide) Trydgo26 (ft1_c s hs _ n1 ln1 _ 0 rfl) ?_
              refine e_end (by simp only [jA, jO, jN, seval, y30, vint, qX, l2, decide_false] <;> with_reducible rfl) (by decide) ?_
              repeat (refine awp_seq ?_)
              refine awp_ret ⟨.inr rfl, _, (ares_cell 2 30 rfl Trydti30 (by decide) (by simp only [jL, jN, seval, vint, qX, l2, decide_false] <;> with_reducible rfl)), ?_⟩
              rw [hv]
              simp only [jN, seval, vint, qX]
              try rfl
          ·
            have h34 : ¬ c = 34 := by simpa using bt54
            rw [if_neg h34] at hft
            repeat (refine awp_seq ?_)
            refine awp_skip ?_
            repeat (refine awp_seq ?_)
            refine awp_region ?_
            refine aops_pure (by simp only [jC, jN, seval, vint, qX, l2, decide_false] <;> with_reducible rfl) (by simp only [jC, jN, seval, vint, qX, l2, decide_false]) (by decide) Trydgo30 (punR_c _) ?_
            refine e_end (by simp only [jA, jO, jN, seval, y9, y33, vint, qX, l2, decide_false] <;> with_reducible rfl) (by decide) ?_
            repeat (refine awp_seq ?_)
            refine awp_forS (σ := Unit) (punL.length) (fun (u_ : Unit) => [(1, .optr 0 0), (2, .optr 1 0), (3, .fn (.func 26) [] [.optr 0 0]), (66, .slice (punL.map PV.str) .none)]) [1, 2, 3, 66] ([]) (fun (u_ : Unit) => [.row [.str s], .row [.int .i64 0, .str []]]) (fun (i : Nat) (u_ : Unit) => (punL.take i).any (punQ s) = false) (()) (_) rfl rfl rfl rfl rfl rfl rfl rfl rfl (by decide) (by decide) (by decide) (fun _ => rfl) ((by decide)) ⟨(by first | rfl | (simp only [jN, seval, vint, qX, l2, decide_false] <;> first | done | with_reducible rfl)), (by first | rfl | (simp only [jN, seval, vint, qX, l2, decide_false] <;> first | done | with_reducible rfl)), (by first | rfl | (simp only [jN, seval, vint, qX, l2, decide_false] <;> first | done | with_reducible rfl)), (by first | rfl | (simp only [jN, seval, vint, qX, l2, decide_false] <;> first | done | with_reducible rfl)), (by first | rfl | (simp only [jN, seval, vint, qX, l2, decide_false] <;> first | done | with_reducible rfl)), (by first | rfl | (simp only [jN, seval, vint, qX, l2, decide_false] <;> first | done | with_reducible rfl)), trivial⟩ (by first | rfl | (simp only [jN, seval, vint, qX, l2, decide_false] <;> first | done | with_reducible rfl)) (by simp) (fun _ _ _ => by first | exact Nat.zero_le _ | (simp only [List.length_append]; omega)) ?_ ?_ ?_
            · exact fun i u hg => ⟨by simp only [List.nil_append]; repeat (first | exact hbel_nil _ | exact trivial | exact obel_row_nil _ | (refine HBel.cons ?_ ?_) | (refine obel_row_cons (by first | exact Bel.fn _ _ _ (by simp) (by intro c hc; rw [List.mem_singleton.1 hc]; exact Bel.optr _ _ (by simp)) | exact bel_strs0 _ _ | exact Tk.bel _ _ | exact bel_nil0 _ | exact bel_nil1 _ | exact Bel.int _ _ | exact Bel.bool _ | exact Bel.str _ | exact Bel.nilp | exact Bel.nilfn | exact Bel.optr _ _ (by simp) | exact bel_nil0 _ | exact bel_nil1 _ | exact bel_fn0 _ _ | assumption) ?_)), by repeat (first | exact BelL.nil | refine BelL.cons (by first | exact Bel.fn _ _ _ (by simp) (by intro c hc; rw [List.mem_singleton.1 hc]; exact Bel.optr _ _ (by simp)) | exact bel_strs0 _ _ | exact Tk.bel _ _ | exact bel_nil0 _ | exact bel_nil1 _ | exact Bel.int _ _ | exact Bel.bool _ | exact Bel.str _ | exact Bel.nilp | exact Bel.nilfn | exact Bel.optr _ _ (by simp) | exact bel_nil0 _ | exact bel_nil1 _ | exact bel_fn0 _ _ | assumption) ?_)⟩
            · intro i u_ hi hg
              have g1 := ix_nat hi
              have g3 := get_enc PV.str hi
              obtain ⟨p, hp⟩ : ∃ p, punL[i] = p := ⟨_, rfl⟩
              rw [hp] at g3
              have hcs : p.length ≤ s.length ∨ ¬ p.length ≤ s.length := by omega
              repeat (refine awp_seq ?_)
              refine e_eval (by simp only [jA, jO, jN, seval, y9, y33, vint, qX, l2, decide_false, g1, Int.toNat_natCast, g3] <;> with_reducible rfl) (by decide) ?_
              rcases hcs with hc | hc
              ·
                have l2 : ((p.length : Int) ≤ s.length) = True := by simp; omega
                have l4 : (p.length ≤ s.length) = True := by simp; omega
                have l5 : ((0 : Int) ≤ (p.length : Int)) = True := by simp
                repeat (refine awp_seq ?_)
                refine g_eval (by simp only [jG, jO, jN, seval, y3, y9, jS, vint, qX, l2, decide_false, g1, Int.toNat_natCast, g3, jS, l2, l4, l5, decide_true, List.drop_zero] <;> with_reducible rfl) (by decide) (by repeat (first | exact Fin.base _ | with_reducible apply Fin.keep | apply Fin.drop)) ?_
                repeat (refine awp_seq ?_)
                refine awp_cond rfl (by simp only [jN, seval, vint, qX, l2, decide_false, g1, Int.toNat_natCast, g3, jS, l2, l4, l5, decide_true, List.drop_zero] <;> with_reducible rfl) (fun bt84 => ?_) (fun bt84 => ?_)
                ·
                  have hq : punQ s punL[i] = true := by rw [hp]; exact bt84
                  have hv : firstT s = (p.length, 107) := by rw [hft]; unfold punT; rw [find_at hi hq hg, hp]
                  refine awp_sel [1, 2, 3, 9, 66, 67, 68] (by simp only [jN, seval, vint, qX, l2, decide_false, g1, Int.toNat_natCast, g3, jS, l2, l4, l5, decide_true, List.drop_zero] <;> with_reducible rfl) ?_
                  repeat (refine awp_seq ?_)
                  refine awp_region ?_
                  refine e_take 3 (by simp only [jA, jO, jN, seval, y9, vint, qX, l2, decide_false, g1, Int.toNat_natCast, g3, jS, l2, l4, l5, decide_true, List.drop_zero] <;> with_reducible rfl) (by decide) ?_
                  refine aops_pure (by simp only [jC, jN, seval, vint, qX, l2, decide_false, g1, Int.toNat_natCast, g3, jS, l2, l4, l5, decide_true, List.drop_zero] <;> with_reducible rfl) (by simp only [jC, jN, seval, vint, qX, l2, decide_false, g1, Int.toNat_natCast, g3, jS, l2, l4, l5, decide_true, List.drop_zero]) (by decide) Trydgo26 (ft1_c s hs _ p.length hc _ 0 rfl) ?_
                  refine e_end (by simp only [jA, jO, jN, seval, y30, vint, qX, l2, decide_false, g1, Int.toNat_natCast, g3, jS, l2, l4, l5, decide_true, List.drop_zero] <;> with_reducible rfl) (by decide) ?_
                  repeat (refine awp_seq ?_)
                  refine awp_ret ⟨.inr rfl, _, (ares_cell 2 30 rfl Trydti30 (by decide) (by simp only [jL, jN, seval, vint, qX, l2, decide_false, g1, Int.toNat_natCast, g3, jS, l2, l4, l5, decide_true, List.drop_zero] <;> with_reducible rfl)), ?_⟩
                  rw [hv]
                  simp only [jN, seval, vint, qX]
                  try rfl
                ·
                  have hq : punQ s punL[i] = false := by rw [hp]; exact bt84
                  repeat (refine awp_seq ?_)
                  refine awp_skip ?_
                  exact ⟨⟨rfl, rfl, trivial⟩, (), [], ⟨rfl, rfl, rfl, rfl, trivial⟩, rfl, any_take_succ hi hg hq⟩
              ·
                have l2 : ((p.length : Int) ≤ s.length) = False := by simp; omega
                have hq : punQ s punL[i] = false := by rw [hp]; cases h : punQ s p with
                  | false => rfl
                  | true => exact absurd (punQ_len h) hc
                repeat (refine awp_seq ?_)
                refine awp_region ?_
                refine aops_gstart ?_
                refine g_take 9 (by simp only [jG, jO, jN, seval, y3, y9, vint, qX, l2, decide_false, g1, Int.toNat_natCast, g3, l2, decide_false] <;> with_reducible rfl) (by decide) ?_
                refine aops_gskip (r := .tup []) (by simp only [jE, jN, seval, vint, qX, l2, decide_false, g1, Int.toNat_natCast, g3, l2, decide_false] <;> with_reducible rfl) ?_
                refine g_take 1 (by simp only [jG, jO, jN, seval, vint, qX, l2, decide_false, g1, Int.toNat_natCast, g3, l2, decide_false] <;> with_reducible rfl) (by decide) ?_
                refine aops_gskip (r := .tup []) (by simp only [jE, jN, seval, vint, qX, l2, decide_false, g1, Int.toNat_natCast, g3, l2, decide_false] <;> with_reducible rfl) ?_
                refine g_end (by simp only [jG, jO, jN, seval, vint, qX, l2, decide_false, g1, Int.toNat_natCast, g3, l2, decide_false] <;> with_reducible rfl) (by decide) (by repeat (first | exact Fin.base _ | with_reducible apply Fin.keep | apply Fin.drop)) ?_
                repeat (refine awp_seq ?_)
                refine awp_cond_false rfl (by simp only [jN, seval, vint, qX, l2, decide_false, g1, Int.toNat_natCast, g3, l2, decide_false] <;> with_reducible rfl) ?_
                repeat (refine awp_seq ?_)
                refine awp_skip ?_
                exact ⟨⟨rfl, rfl, trivial⟩, (), [], ⟨rfl, rfl, rfl, rfl, trivial⟩, rfl, any_take_succ hi hg hq⟩
            · intro u_ hg
              rw [List.take_length] at hg
              have hv : firstT s = (1, 108) := by rw [hft]; unfold punT; rw [find_none hg]
              repeat (refine awp_seq ?_)
              refine awp_region ?_
              refine e_take 1 (by simp only [jA, jO, jN, seval, vint, qX, l2, decide_false] <;> with_reducible rfl) (by decide) ?_
              refine aops_pure (by simp only [jC, jN, seval, vint, qX, l2, decide_false] <;> with_reducible rfl) (by simp only [jC, jN, seval, vint, qX, l2, decide_false]) (by decide) Trydgo26 (ft1_c s hs _ 1 h1 _ 0 rfl) ?_
              refine e_end (by simp only [jA, jO, jN, seval, y30, vint, qX, l2, decide_false] <;> with_reducible rfl) (by decide) ?_
              repeat (refine awp_seq ?_)
              refine awp_ret ⟨.inr rfl, _, (ares_cell 2 30 rfl Trydti30 (by decide) (by simp only [jL, jN, seval, vint, qX, l2, decide_false] <;> with_reducible rfl)), ?_⟩
              rw [hv]
              simp only [jN, seval, vint, qX]
              try rfl

end Go.Abs
set_option maxRecDepth 4000
namespace Go.Abs
open Go.Proofs

theorem ft_s {s : List UInt8} (hs : s.length ≤ maxLen) (h : s ≠ []) : PC Tryd.prog 13 [.str s] (ftT s).enc := by
  cases s with
  | nil => exact absurd rfl h
  | cons c r => exact ft_c c r hs

theorem tokR_c (s : List UInt8) (hs : s.length ≤ 2000) : PC Tryd.prog 7 [.str s] (.slice ((toks s).map Tk.enc) .none) := by
  have em : maxLen = 9223372036854775807 := by decide
  refine pc_of (N := 20) Tryd.func7 rfl rfl (by simp) (by simp [Bel.int, Bel.str]) (bel_Tk _ _) ?_
  repeat (refine awp_seq ?_)
  refine e_eval (by simp only [jA, jO, jN, seval, vint, qX] <;> with_reducible rfl) (by decide) ?_
  repeat (refine awp_seq ?_)
  refine e_eval (by simp only [jA, jO, jN, seval, vint, qX] <;> with_reducible rfl) (by decide) ?_
  repeat (refine awp_seq ?_)
  refine awp_retok 3 2 (es := []) (by simp only [jC, jN, seval, vint, qX] <;> rfl) ?_
  refine awp_block ?_
  refine awp_loopS (σ := List Tk × List UInt8) (fun (q : List Tk × List UInt8) => [(0, .str q.2), (3, .slice (q.1.map Tk.enc) (.tok 0))]) ([]) (fun (q : List Tk × List UInt8) => [.buf q.1.length 2]) (fun (q : List Tk × List UInt8) => q.2.length) (fun (q : List Tk × List UInt8) => q.1.length + q.2.length ≤ s.length ∧ toks s = q.1 ++ toks q.2) (([], s)) ([]) ⟨(by first | rfl | (simp only [jN, seval, vint, qX] <;> first | done | with_reducible rfl)), (by first | rfl | (simp only [jN, seval, vint, qX] <;> first | done | with_reducible rfl)), trivial⟩ (by first | rfl | (simp only [jN, seval, vint, qX] <;> first | done | with_reducible rfl)) (⟨by simp, by simp⟩) (fun _ _ => by first | exact Nat.zero_le _ | (simp only [List.length_append]; omega)) ?_ ?_
  · exact fun q hg => ⟨by simp only [List.nil_append]; exact HBel.cons trivial (hbel_nil _), by repeat (first | exact BelL.nil | refine BelL.cons (by first | exact bel_Tk_tok _ (by simp only [List.length_append, List.length_cons, List.length_nil]; omega) | exact Tk.bel _ _ | exact bel_nil0 _ | exact bel_nil1 _ | exact Bel.int _ _ | exact Bel.bool _ | exact Bel.str _ | exact Bel.nilp | exact Bel.nilfn | exact Bel.optr _ _ (by simp) | exact bel_nil0 _ | exact bel_nil1 _ | exact bel_fn0 _ _ | assumption) ?_)⟩
  · intro q hg
    obtain ⟨ts, r⟩ := q
    obtain ⟨hq1, hq2⟩ := hg
    simp only at hq1 hq2
    repeat (refine awp_seq ?_)
    refine e_eval (by simp only [jA, jO, jN, seval, y3, y9, vint, qX] <;> with_reducible rfl) (by decide) ?_
    repeat (refine awp_seq ?_)
    refine awp_cond rfl (by simp only [jN, seval, vint, qX] <;> with_reducible rfl) (fun bt7 => ?_) (fun bt7 => ?_)
    ·
      have hne : r ≠ [] := by rintro rfl; simp at bt7
      have hb := firstT_bd hne
      have hst := toks_step hne
      have hf := ft_s (s := r) (by omega) hne
      unfold ftT at hf
      obtain ⟨n, hn⟩ : ∃ n, (firstT r).1 = n := ⟨_, rfl⟩
      obtain ⟨kd, hkd⟩ : ∃ kd, (firstT r).2 = kd := ⟨_, rfl⟩
      rw [hn] at hb hf hst
      rw [hkd] at hf hst
      obtain ⟨tx, htx⟩ : ∃ tx, r.take n = tx := ⟨_, rfl⟩
      rw [htx] at hf hst
      have hln : (tx.length : Int) = n := by rw [← htx, List.length_take]; omega
      have h3 : ((n : Int) ≤ r.length) = True := by simp; omega
      have h4 : (n ≤ r.length) = True := by simp; omega
      have h5 : ((0 : Int) ≤ (n : Int)) = True := by simp
      have hap := app_Tk (us := ts) (u := ⟨kd, tx⟩) (id := 0) (tl := .full) (by omega)
      repeat (refine awp_seq ?_)
      refine awp_skip ?_
      repeat (refine awp_seq ?_)
      refine awp_block ?_
      repeat (refine awp_seq ?_)
      refine awp_region ?_
      refine e_take 1 (by simp only [jA, jO, jN, seval, vint, qX] <;> with_reducible rfl) (by decide) ?_
      refine aops_pure (by simp only [jC, jN, seval, vint, qX] <;> with_reducible rfl) (by simp only [jC, jN, seval, vint, qX]) (by decide) Trydgo13 (hf _) ?_
      refine e_end (by simp only [jA, jO, jN, seval, y30, vint, qX] <;> with_reducible rfl) (by decide) ?_
      repeat (refine awp_seq ?_)
      refine e_eval (by simp only [jA, jO, jN, seval, y23, y30, vint, qX, jS, hap] <;> with_reducible rfl) (by decide) ?_
      repeat (refine awp_seq ?_)
      refine e_eval (by simp only [jA, jO, jN, seval, y9, y30, vint, qX, jS, hln, h3, h4, h5, Int.toNat_natCast, List.take_length] <;> with_reducible rfl) (by decide) ?_
      try simp only [thenQ, blockQ]
      exact ⟨(ts ++ [⟨kd, tx⟩], r.drop n), _, by show (r.drop n).length < r.length; rw [List.length_drop]; omega, ⟨rfl, rfl, trivial⟩, by simp only [jN, seval, vint, qX, List.length_append, List.length_singleton] <;> rfl, by simp only [List.length_append, List.length_singleton, List.length_drop]; omega, by rw [hq2, hst]; simp⟩
    ·
      have hr : r = [] := by cases r with | nil => rfl | cons a l => simp at bt7 <;> omega
      have hv : toks s = ts := by rw [hq2, hr, toks_nil, List.append_nil]
      rw [hv]
      repeat (refine awp_seq ?_)
      refine awp_exit ?_
      simp only [thenQ, blockQ, reduceIte, Nat.reduceEqDiff, Nat.succ_ne_self, if_true, if_false]
      repeat (refine awp_seq ?_)
      refine e_eval (by simp only [jA, jO, jN, seval, vint, qX] <;> with_reducible rfl) (by decide) ?_
      repeat (refine awp_seq ?_)
      refine awp_ret ⟨.inr rfl, _, rfl, ?_⟩
      simp only [jN, seval, vint, qX]
      try rfl

end Go.Abs
namespace Go.Abs
/-! An operation on values, in a region that draws: what it answers, from what its operands are. -/
theorem dp_val {P : Program} {N : Nat} {ops : Array Oper} {Q : Post} {k : Nat} {o : Oper} {l : List Oper} {T : Slots} {G : Nat → Bool} {H : Heap} {v : PV} (hc : gcond ops.toList T G N o = some true) (hg : o.op.operands.toList.all (gOk true G) = true)
    (hv : ∀ (E : Env) (a : Act), E.Ok → (∀ x ∈ o.op.operands.toList, okOpnd N x = true → VRel E.view (a.eval x) (aev T x)) → ∃ val, (execOp a.eval o).run P E.w = .ok (.value val) E.w ∧ VRel E.view val v)
    (h : DP P N ops Q (k + 1) l (msk (.tup []) (updO T o.dst v) (ugO G o.dst true)) H) : DP P N ops Q k (o :: l) (msk (.tup []) T G) H := by
  intro prev hn
  rw [msk_put_true] at h
  refine ⟨v, [], [], ?_, by simp, fun p hp => .inr ⟨by simp, by simp⟩, h _ (hn.app _ _)⟩
  intro T' H' hT hHd hlen E a ho hE ht
  refine .inr ⟨awanted_sound ht (wanted_agree hT ((gcond_sound hc).1 rfl _)), fun next Q hnx => ?_⟩
  obtain ⟨val, h1, h2⟩ := hv E a ho fun x hx hok => by
    have := vrel_eval ht x hok
    rwa [aev_agree hT x hx, aev_msk (List.all_eq_true.1 hg x hx)] at this
  unfold Oper.wp
  rw [h1]
  exact hnx E val (.refl E) ho hE h2
theorem inv_IS {V : View} {v : Value} {n : Int} {q : List UInt8} (hv : VRel V v (.agg [.int .i64 n, .str q])) : ∃ z : ByteArray, v = .agg #[.int .i64 n, .string z] ∧ z.data.toList = q := by
  cases hv with
  | agg arr _ hl hr =>
    have h0 := hr 0 (by simp)
    have h1 := hr 1 (by simp)
    simp only [List.getElem_cons_zero, List.getElem_cons_succ] at h0 h1
    have hs : arr.size = 2 := by simpa using hl
    rw [Array.getD_eq_getD_getElem?, Array.getElem?_eq_getElem (by omega)] at h0 h1
    simp only [Option.getD_some] at h0 h1
    generalize hg0 : arr[0] = g0 at h0
    generalize hg1 : arr[1] = g1 at h1
    cases h0 with
    | int =>
      cases h1 with
      | str z =>
        refine ⟨z, ?_, rfl⟩
        congr 1
        apply Array.ext
        · simp [hs]
        · intro i hi hi2
          match i, hi2 with
          | 0, _ => exact hg0
          | 1, _ => exact hg1
theorem dp_neqIS {P : Program} {N : Nat} {ops : Array Oper} {Q : Post} {k : Nat} {o : Oper} {l : List Oper} {T : Slots} {G : Nat → Bool} {H : Heap} {t y' : TypeId} {x y : Operand} {a b : Int} {s s' : List UInt8} (F : ISAt P t)
    (hop : o.op = .binOp .neq t x y y') (hx : aev T x = .agg [.int .i64 a, .str s]) (hy : aev T y = .agg [.int .i64 b, .str s']) (hc : gcond ops.toList T G N o = some true) (hg : o.op.operands.toList.all (gOk true G) = true) (okx : okOpnd N x = true) (oky : okOpnd N y = true)
    (h : DP P N ops Q (k + 1) l (msk (.tup []) (updO T o.dst (.bool (!(decide (a = b) && decide (s = s'))))) (ugO G o.dst true)) H) : DP P N ops Q k (o :: l) (msk (.tup []) T G) H := by
  refine dp_val hc hg (fun E A ho he => ?_) h
  have rx := he x (by rw [hop]; simp [Op.operands]) okx
  have ry := he y (by rw [hop]; simp [Op.operands]) oky
  rw [hx] at rx; rw [hy] at ry
  obtain ⟨z, hvx, hz⟩ := inv_IS rx
  obtain ⟨z', hvy, hz'⟩ := inv_IS ry
  have hb : ((a == b) && (z.toList == z'.toList)) = (decide (a = b) && decide (s = s')) := by
    have e : ∀ (q : ByteArray), q.toList = q.data.toList := fun q => by rw [ByteArray.toList_eq]
    rw [e, e, hz, hz', Bool.eq_iff_iff]
    simp
  refine ⟨.bool (!(decide (a = b) && decide (s = s'))), ?_, .bool _⟩
  unfold execOp
  rw [hop]
  simp only [Sem.run_bind, hvx, hvy, guard_is F, Result.andThen_ok, binOp, run_eqIS F, Sem.run_pure, hb]
end Go.Abs
set_option maxRecDepth 4000
namespace Go.Abs
open Go.Proofs

def isAt30 : ISAt Tryd.prog 30 where
  f0 := _
  f1 := _
  ut := Tryd.underlying30
  held := by kernel_rfl
  n0 := by decide
  n1 := by decide
  o0 := rfl
  o1 := rfl
  u0 := Tryd.underlying3
  u1 := Tryd.underlying9
  a0 := Tryd.isAgg3
  a1 := Tryd.isAgg9
  gu := by kernel_rfl

theorem eqTks (us : List Tk) (hx : us.length ≤ maxLen) : PC Tryd.prog 8 [.slice (us.map Tk.enc) .none, .slice (us.map Tk.enc) .none] (.bool true) := by
  refine pc_of (N := 26) Tryd.func8 rfl rfl (by simp) (by simp [bel_Tk]) (.bool _) ?_
  repeat (refine awp_seq ?_)
  refine e_eval (by simp only [jA, jO, jN, seval, vint, qX, decide_true, Bool.not_true] <;> with_reducible rfl) (by decide) ?_
  repeat (refine awp_seq ?_)
  refine e_eval (by simp only [jA, jO, jN, seval, y3, y23, y30, vint, qX, decide_true, Bool.not_true] <;> with_reducible rfl) (by decide) ?_
  repeat (refine awp_seq ?_)
  refine awp_cond_false rfl (by simp only [jN, seval, vint, qX, decide_true, Bool.not_true] <;> with_reducible rfl) ?_
  repeat (refine awp_seq ?_)
  refine awp_skip ?_
  repeat (refine awp_seq ?_)
  refine e_eval (by simp only [jA, jO, jN, seval, y23, y30, vint, qX, decide_true, Bool.not_true] <;> with_reducible rfl) (by decide) ?_
  repeat (refine awp_seq ?_)
  refine awp_forS (σ := Unit) (us.length) (fun (u_ : Unit) => [(0, .slice (us.map Tk.enc) .none), (1, .slice (us.map Tk.enc) .none)]) [0, 1] ([]) (fun (u_ : Unit) => []) (fun (i : Nat) (u_ : Unit) => True) (()) ([]) rfl rfl rfl rfl rfl rfl rfl rfl rfl (by decide) (by decide) (by decide) (fun _ => rfl) (hx) ⟨(by first | rfl | (simp only [jN, seval, vint, qX, decide_true, Bool.not_true] <;> first | done | with_reducible rfl)), (by first | rfl | (simp only [jN, seval, vint, qX, decide_true, Bool.not_true] <;> first | done | with_reducible rfl)), (by first | rfl | (simp only [jN, seval, vint, qX, decide_true, Bool.not_true] <;> first | done | with_reducible rfl)), (by first | rfl | (simp only [jN, seval, vint, qX, decide_true, Bool.not_true] <;> first | done | with_reducible rfl)), trivial⟩ (by first | rfl | (simp only [jN, seval, vint, qX, decide_true, Bool.not_true] <;> first | done | with_reducible rfl)) (by simp) (fun _ _ _ => by first | exact Nat.zero_le _ | (simp only [List.length_append]; omega)) ?_ ?_ ?_
  · exact fun i s hg => ⟨by first | exact hbel_nil _ | (simp only [List.append_nil]; assumption) | (refine hbel_app' hb' (by simp) ?_; repeat (first | exact hbel_nil _ | exact trivial | exact obel_row_nil _ | (refine HBel.cons ?_ ?_) | (refine obel_row_cons (by first | exact bel_Tk _ _ | exact Tk.bel _ _ | exact bel_nil0 _ | exact bel_nil1 _ | exact Bel.int _ _ | exact Bel.bool _ | exact Bel.str _ | exact Bel.nilp | exact Bel.nilfn | exact Bel.optr _ _ (by simp) | exact bel_nil0 _ | exact bel_nil1 _ | exact bel_fn0 _ _ | assumption) ?_))), by repeat (first | exact BelL.nil | refine BelL.cons (by first | exact bel_Tk _ _ | exact Tk.bel _ _ | exact bel_nil0 _ | exact bel_nil1 _ | exact Bel.int _ _ | exact Bel.bool _ | exact Bel.str _ | exact Bel.nilp | exact Bel.nilfn | exact Bel.optr _ _ (by simp) | exact bel_nil0 _ | exact bel_nil1 _ | exact bel_fn0 _ _ | assumption) ?_)⟩
  · intro i u_ hi hg
    have g1 := ix_nat hi
    have g2 := get_enc Tk.enc hi
    repeat (refine awp_seq ?_)
    refine e_eval (by simp only [jA, jO, jN, seval, vint, qX, decide_true, Bool.not_true, g1, Int.toNat_natCast, g2] <;> with_reducible rfl) (by decide) ?_
    repeat (refine awp_seq ?_)
    refine dp_draw (by kernel_rfl) ?_
    refine dp_take 8 (by simp only [jP, jO, jN, seval, y23, y30, vint, qX, decide_true, Bool.not_true, g1, Int.toNat_natCast, g2] <;> with_reducible rfl) (by decide) ?_
    refine dp_neqIS (a := us[i].kind) (b := us[i].kind) (s := us[i].text) (s' := us[i].text) isAt30 rfl (by simp only [jC, jN, seval, vint, qX] <;> first | done | rfl) (by simp only [jC, jN, seval, vint, qX] <;> first | done | rfl) (by simp only [jE, jN, seval, vint, qX] <;> first | done | rfl) (by simp only [jE, jN, seval, vint, qX] <;> first | done | rfl) (by decide) (by decide) ?_
    refine dp_end (by simp only [jP, jO, jN, seval, vint, qX, decide_true, Bool.not_true, g1, Int.toNat_natCast, g2] <;> with_reducible rfl) (by decide) (by repeat (first | exact Fin.base _ | with_reducible apply Fin.keep | apply Fin.drop)) ?_
    repeat (refine awp_seq ?_)
    refine awp_cond_false rfl (by simp only [jN, seval, vint, qX, decide_true, Bool.not_true, g1, Int.toNat_natCast, g2, decide_true, Bool.and_self, Bool.not_true] <;> with_reducible rfl) ?_
    repeat (refine awp_seq ?_)
    refine awp_skip ?_
    exact ⟨⟨rfl, rfl, trivial⟩, (), [], ⟨rfl, rfl, trivial⟩, rfl, trivial⟩
  · intro u_ hg
    repeat (refine awp_seq ?_)
    refine e_eval (by simp only [jA, jO, jN, seval, vint, qX, decide_true, Bool.not_true] <;> with_reducible rfl) (by decide) ?_
    repeat (refine awp_seq ?_)
    refine awp_ret ⟨.inr rfl, _, rfl, ?_⟩
    simp only [jN, seval, vint, qX]

end Go.Abs
set_option maxRecDepth 4000
namespace Go.Abs
open Go.Proofs

theorem tokz_s (s : List UInt8) (hs : s.length ≤ 2000) : PG G0 Tryd.prog 5 [.str s] (.tup [.slice ((toks s).map Tk.enc) .none, vint 0]) := by
  have em : maxLen = 9223372036854775807 := by decide
  have h := tokz_c s (by omega)
  have hn : ¬ (s.length : Int) > 2000 := by omega
  simp only [if_neg hn] at h
  exact h
theorem tokz_l (s : List UInt8) (hs : s.length ≤ maxLen) (hl : s.length > 2000) : PG G0 Tryd.prog 5 [.str s] (.tup [.slice [] .none, vint 2]) := by
  have h := tokz_c s hs
  have hn : (s.length : Int) > 2000 := by omega
  simp only [if_pos hn] at h
  exact h
def exL : List Tk := [⟨103, [97]⟩, ⟨102, [47, 47, 98]⟩]
theorem exL_toks : toks [97, 47, 47, 98] = exL := by kernel_rfl
theorem isIdT_toks (s : List UInt8) : isIdT s = match toks s with | [t] => decide (t.kind = 103) && decide ((s.length : Int) ≤ 30) | _ => false := by
  by_cases h : s = []
  · subst h; rfl
  · rw [toks_step h]
    have hb := firstT_bd h
    have h0 : ¬ (s.length : Int) = 0 := by have : s.length ≠ 0 := fun e => h (List.length_eq_zero_iff.1 e); omega
    by_cases hn : (firstT s).1 = s.length
    · rw [hn, List.drop_length, toks_nil]
      simp only [isIdT, hn, h0, decide_false, Bool.false_or, decide_true, Bool.true_and]
      by_cases h3 : (s.length : Int) > 30
      · have : ¬ (s.length : Int) ≤ 30 := by omega
        simp [h3, this]
      · have : (s.length : Int) ≤ 30 := by omega
        simp [h3, this]
    · have hd : s.drop (firstT s).1 ≠ [] := fun e => hn (by have := congrArg List.length e; rw [List.length_drop, List.length_nil] at this; omega)
      rw [toks_step hd]
      simp only [isIdT]
      have : ¬ ((firstT s).1 : Int) = s.length := by omega
      simp [this]
theorem toks_len (s : List UInt8) : (toks s).length ≤ s.length := by
  have key : ∀ n s, s.length ≤ n → (toks s).length ≤ s.length := by
    intro n
    induction n with
    | zero => intro s h; rw [List.length_eq_zero_iff.1 (by omega : s.length = 0)]; exact Nat.zero_le _
    | succ n ih =>
      intro s h
      by_cases hs : s = []
      · subst hs; exact Nat.zero_le _
      · have hb := firstT_bd hs
        have := ih (s.drop (firstT s).1) (by rw [List.length_drop]; omega)
        rw [List.length_drop] at this
        rw [toks_step hs, List.length_cons]; omega
  exact key _ _ (Nat.le_refl _)

theorem lexEx : PG G0 Tryd.prog 4 [] (.bool true) := by
  have h1 := tokz_s [97, 47, 47, 98] (by decide)
  rw [exL_toks] at h1
  have h2 := isId_c [97, 95, 49] (by decide)
  rw [show isIdT [97, 95, 49] = true by kernel_rfl] at h2
  have h3 := isId_c [117, 115, 101] (by decide)
  rw [show isIdT [117, 115, 101] = false by kernel_rfl] at h3
  have h4 := eqTks exL (by decide)
  simp only [exL, List.map_cons, List.map_nil] at h1 h4
  refine pg_of (N := 23) Tryd.func4 rfl rfl (by simp) (.bool _) fun H hG hb' => ?_
  repeat (refine awp_seq ?_)
  refine e_eval (by simp only [jA, jO, jN, seval, vint, qX, decide_true, Bool.not_false] <;> with_reducible rfl) (by decide) ?_
  repeat (refine awp_seq ?_)
  refine awp_region ?_
  refine aops_pure (by simp only [jC, jN, seval, vint, qX, decide_true, Bool.not_false] <;> with_reducible rfl) (by simp only [jC, jN, seval, vint, qX, decide_true, Bool.not_false]) (by decide) Trydgo5 (h1 _ hG) ?_
  refine e_end (by simp only [jA, jO, jN, seval, vint, qX, decide_true, Bool.not_false] <;> with_reducible rfl) (by decide) ?_
  repeat (refine awp_seq ?_)
  refine awp_region ?_
  refine aops_gstart ?_
  refine g_take 7 (by simp only [jG, jO, jN, seval, y23, y24, y30, vint, qX, decide_true, Bool.not_false] <;> with_reducible rfl) (by decide) ?_
  refine aops_gpure (by simp only [jE, jN, seval, vint, qX, decide_true, Bool.not_false] <;> with_reducible rfl) (by simp only [jE, jN, seval, vint, qX, decide_true, Bool.not_false] <;> with_reducible rfl) (by simp only [jE, jN, seval, vint, qX, decide_true, Bool.not_false]) (by decide) Trydgo8 (fun hc => h4 _) ?_
  refine g_take 2 (by simp only [jG, jO, jN, seval, vint, qX, decide_true, Bool.not_false] <;> with_reducible rfl) (by decide) ?_
  refine aops_gpure (by simp only [jE, jN, seval, vint, qX, decide_true, Bool.not_false] <;> with_reducible rfl) (by simp only [jE, jN, seval, vint, qX, decide_true, Bool.not_false] <;> with_reducible rfl) (by simp only [jE, jN, seval, vint, qX, decide_true, Bool.not_false]) (by decide) Trydgo6 (fun hc => h2 _ hG) ?_
  refine g_take 2 (by simp only [jG, jO, jN, seval, vint, qX, decide_true, Bool.not_false] <;> with_reducible rfl) (by decide) ?_
  refine aops_gpure (by simp only [jE, jN, seval, vint, qX, decide_true, Bool.not_false] <;> with_reducible rfl) (by simp only [jE, jN, seval, vint, qX, decide_true, Bool.not_false] <;> with_reducible rfl) (by simp only [jE, jN, seval, vint, qX, decide_true, Bool.not_false]) (by decide) Trydgo6 (fun hc => h3 _ hG) ?_
  refine g_end (by simp only [jG, jO, jN, seval, vint, qX, decide_true, Bool.not_false] <;> with_reducible rfl) (by decide) (by repeat (first | exact Fin.base _ | with_reducible apply Fin.keep | apply Fin.drop)) ?_
  repeat (refine awp_seq ?_)
  refine awp_ret ⟨.inr rfl, _, _, rfl, ?_, (by first | exact (List.append_nil _).symm | rfl)⟩
  simp only [jN, seval, vint, qX]
  try rfl

end Go.Abs
