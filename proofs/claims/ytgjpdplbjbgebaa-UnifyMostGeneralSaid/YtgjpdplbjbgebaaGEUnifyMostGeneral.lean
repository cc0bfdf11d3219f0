/- Part 5 of a proof of the law UnifyMostGeneral: Go data as trees, the walks of the functions that the law reaches, the plain laws. -/
import Derived.Test.YtgjpdplbjbgebaaGDUnifyMostGeneral
import Derived.Test.YtgjpdplbjbgebaaProg
import Derived.KernelRfl
set_option linter.unusedVariables false
set_option linter.unusedSimpArgs false
namespace Go.Abs
open Go.Proofs
theorem Tryti2 : tinfo Try.prog 2 = some ⟨false, 1, 8⟩ := by kernel_rfl
theorem Trytz2 : tzero Try.prog 2 = some (.int .i64 0) := by kernel_rfl
theorem Trytp2 : tptr Try.prog 2 = false := by kernel_rfl
theorem Trytk2 : tint Try.prog 2 = some .i64 := by kernel_rfl
theorem Tryti3 : tinfo Try.prog 3 = some ⟨false, 1, 8⟩ := by kernel_rfl
theorem Trytz3 : tzero Try.prog 3 = some (.int .i64 0) := by kernel_rfl
theorem Trytp3 : tptr Try.prog 3 = false := by kernel_rfl
theorem Trytk3 : tint Try.prog 3 = some .i64 := by kernel_rfl
theorem Tryti4 : tinfo Try.prog 4 = some ⟨false, 1, 1⟩ := by kernel_rfl
theorem Trytz4 : tzero Try.prog 4 = some (.bool false) := by kernel_rfl
theorem Trytp4 : tptr Try.prog 4 = false := by kernel_rfl
theorem Trytb4 : tbool Try.prog 4 = true := by kernel_rfl
theorem Tryti5 : tinfo Try.prog 5 = some ⟨false, 1, 1⟩ := by kernel_rfl
theorem Trytz5 : tzero Try.prog 5 = some (.int .u8 0) := by kernel_rfl
theorem Trytp5 : tptr Try.prog 5 = false := by kernel_rfl
theorem Trytk5 : tint Try.prog 5 = some .u8 := by kernel_rfl
theorem Tryti6 : tinfo Try.prog 6 = some ⟨false, 1, 1⟩ := by kernel_rfl
theorem Trytz6 : tzero Try.prog 6 = some (.int .u8 0) := by kernel_rfl
theorem Trytp6 : tptr Try.prog 6 = false := by kernel_rfl
theorem Trytk6 : tint Try.prog 6 = some .u8 := by kernel_rfl
theorem Tryti7 : tinfo Try.prog 7 = some ⟨true, 4, 24⟩ := by kernel_rfl
theorem Trytf7 : tflds Try.prog 7 = some [(0, ⟨false, 1, 8⟩), (1, ⟨false, 1, 8⟩), (2, ⟨false, 1, 1⟩), (3, ⟨false, 1, 1⟩)] := by kernel_rfl
theorem Trytz7 : tzero Try.prog 7 = some (.agg [.int .i64 0, .int .i64 0, .bool false, .int .u8 0]) := by kernel_rfl
theorem Trytp7 : tptr Try.prog 7 = false := by kernel_rfl
theorem Tryti8 : tinfo Try.prog 8 = some ⟨true, 4, 24⟩ := by kernel_rfl
theorem Trytf8 : tflds Try.prog 8 = some [(0, ⟨false, 1, 8⟩), (1, ⟨false, 1, 8⟩), (2, ⟨false, 1, 1⟩), (3, ⟨false, 1, 1⟩)] := by kernel_rfl
theorem Trytz8 : tzero Try.prog 8 = some (.agg [.int .i64 0, .int .i64 0, .bool false, .int .u8 0]) := by kernel_rfl
theorem Trytp8 : tptr Try.prog 8 = false := by kernel_rfl
theorem Tryti9 : tinfo Try.prog 9 = some ⟨false, 1, 16⟩ := by kernel_rfl
theorem Trytz9 : tzero Try.prog 9 = some (.str []) := by kernel_rfl
theorem Trytp9 : tptr Try.prog 9 = false := by kernel_rfl
theorem Tryts9 : tstr Try.prog 9 = true := by kernel_rfl
theorem Tryti10 : tinfo Try.prog 10 = some ⟨false, 1, 16⟩ := by kernel_rfl
theorem Trytz10 : tzero Try.prog 10 = some (.str []) := by kernel_rfl
theorem Trytp10 : tptr Try.prog 10 = false := by kernel_rfl
theorem Tryts10 : tstr Try.prog 10 = true := by kernel_rfl
theorem Tryti11 : tinfo Try.prog 11 = some ⟨false, 1, 16⟩ := by kernel_rfl
theorem Trytz11 : tzero Try.prog 11 = some (.str []) := by kernel_rfl
theorem Trytp11 : tptr Try.prog 11 = false := by kernel_rfl
theorem Tryts11 : tstr Try.prog 11 = true := by kernel_rfl
theorem Tryti12 : tinfo Try.prog 12 = some ⟨false, 1, 8⟩ := by kernel_rfl
theorem Trytz12 : tzero Try.prog 12 = some (.int .u64 0) := by kernel_rfl
theorem Trytp12 : tptr Try.prog 12 = false := by kernel_rfl
theorem Trytk12 : tint Try.prog 12 = some .u64 := by kernel_rfl
theorem Tryti13 : tinfo Try.prog 13 = some ⟨true, 2, 24⟩ := by kernel_rfl
theorem Trytf13 : tflds Try.prog 13 = some [(0, ⟨false, 1, 16⟩), (1, ⟨false, 1, 8⟩)] := by kernel_rfl
theorem Trytz13 : tzero Try.prog 13 = some (.agg [.str [], .int .u64 0]) := by kernel_rfl
theorem Trytp13 : tptr Try.prog 13 = false := by kernel_rfl
theorem Tryti14 : tinfo Try.prog 14 = some ⟨true, 2, 24⟩ := by kernel_rfl
theorem Trytf14 : tflds Try.prog 14 = some [(0, ⟨false, 1, 16⟩), (1, ⟨false, 1, 8⟩)] := by kernel_rfl
theorem Trytz14 : tzero Try.prog 14 = some (.agg [.str [], .int .u64 0]) := by kernel_rfl
theorem Trytp14 : tptr Try.prog 14 = false := by kernel_rfl
theorem Tryti15 : tinfo Try.prog 15 = some ⟨false, 1, 8⟩ := by kernel_rfl
theorem Trytz15 : tzero Try.prog 15 = some (.nilp) := by kernel_rfl
theorem Trytp15 : tptr Try.prog 15 = true := by kernel_rfl
theorem Tryti16 : tinfo Try.prog 16 = some ⟨false, 1, 8⟩ := by kernel_rfl
theorem Trytz16 : tzero Try.prog 16 = some (.nilp) := by kernel_rfl
theorem Trytp16 : tptr Try.prog 16 = true := by kernel_rfl
theorem Tryti17 : tinfo Try.prog 17 = some ⟨false, 1, 8⟩ := by kernel_rfl
theorem Trytz17 : tzero Try.prog 17 = some (.nilp) := by kernel_rfl
theorem Trytp17 : tptr Try.prog 17 = true := by kernel_rfl
theorem Tryti18 : tinfo Try.prog 18 = some ⟨true, 1, 8⟩ := by kernel_rfl
theorem Trytf18 : tflds Try.prog 18 = some [(0, ⟨false, 1, 8⟩)] := by kernel_rfl
theorem Trytz18 : tzero Try.prog 18 = some (.agg [.nilp]) := by kernel_rfl
theorem Trytp18 : tptr Try.prog 18 = false := by kernel_rfl
theorem Tryti19 : tinfo Try.prog 19 = some ⟨true, 1, 8⟩ := by kernel_rfl
theorem Trytf19 : tflds Try.prog 19 = some [(0, ⟨false, 1, 8⟩)] := by kernel_rfl
theorem Trytz19 : tzero Try.prog 19 = some (.agg [.nilp]) := by kernel_rfl
theorem Trytp19 : tptr Try.prog 19 = false := by kernel_rfl
theorem Tryti21 : tinfo Try.prog 21 = some ⟨false, 1, 4⟩ := by kernel_rfl
theorem Trytz21 : tzero Try.prog 21 = some (.int .i32 0) := by kernel_rfl
theorem Trytp21 : tptr Try.prog 21 = false := by kernel_rfl
theorem Trytk21 : tint Try.prog 21 = some .i32 := by kernel_rfl
theorem Tryti22 : tinfo Try.prog 22 = some ⟨false, 1, 24⟩ := by kernel_rfl
theorem Tryte22 : telem Try.prog 22 = some (31, ⟨true, 6, 80⟩) := by kernel_rfl
theorem Trytz22 : tzero Try.prog 22 = some (.slice [] .full) := by kernel_rfl
theorem Trytp22 : tptr Try.prog 22 = false := by kernel_rfl
theorem Tryti24 : tinfo Try.prog 24 = some ⟨false, 1, 24⟩ := by kernel_rfl
theorem Tryte24 : telem Try.prog 24 = some (42, ⟨true, 4, 48⟩) := by kernel_rfl
theorem Trytz24 : tzero Try.prog 24 = some (.slice [] .full) := by kernel_rfl
theorem Trytp24 : tptr Try.prog 24 = false := by kernel_rfl
theorem Tryti27 : tinfo Try.prog 27 = some ⟨false, 1, 24⟩ := by kernel_rfl
theorem Tryte27 : telem Try.prog 27 = some (29, ⟨true, 3, 40⟩) := by kernel_rfl
theorem Trytz27 : tzero Try.prog 27 = some (.slice [] .full) := by kernel_rfl
theorem Trytp27 : tptr Try.prog 27 = false := by kernel_rfl
theorem Tryti28 : tinfo Try.prog 28 = some ⟨true, 3, 40⟩ := by kernel_rfl
theorem Trytf28 : tflds Try.prog 28 = some [(0, ⟨false, 1, 8⟩), (1, ⟨false, 1, 8⟩), (2, ⟨false, 1, 24⟩)] := by kernel_rfl
theorem Trytz28 : tzero Try.prog 28 = some (.agg [.int .i64 0, .int .i64 0, .slice [] .full]) := by kernel_rfl
theorem Trytp28 : tptr Try.prog 28 = false := by kernel_rfl
theorem Tryti29 : tinfo Try.prog 29 = some ⟨true, 3, 40⟩ := by kernel_rfl
theorem Trytf29 : tflds Try.prog 29 = some [(0, ⟨false, 1, 8⟩), (1, ⟨false, 1, 8⟩), (2, ⟨false, 1, 24⟩)] := by kernel_rfl
theorem Trytz29 : tzero Try.prog 29 = some (.agg [.int .i64 0, .int .i64 0, .slice [] .full]) := by kernel_rfl
theorem Trytp29 : tptr Try.prog 29 = false := by kernel_rfl
theorem Tryti30 : tinfo Try.prog 30 = some ⟨true, 6, 80⟩ := by kernel_rfl
theorem Trytf30 : tflds Try.prog 30 = some [(0, ⟨true, 3, 40⟩), (3, ⟨true, 3, 40⟩)] := by kernel_rfl
theorem Trytz30 : tzero Try.prog 30 = some (.agg [.int .i64 0, .int .i64 0, .slice [] .full, .int .i64 0, .int .i64 0, .slice [] .full]) := by kernel_rfl
theorem Trytp30 : tptr Try.prog 30 = false := by kernel_rfl
theorem Tryti31 : tinfo Try.prog 31 = some ⟨true, 6, 80⟩ := by kernel_rfl
theorem Trytf31 : tflds Try.prog 31 = some [(0, ⟨true, 3, 40⟩), (3, ⟨true, 3, 40⟩)] := by kernel_rfl
theorem Trytz31 : tzero Try.prog 31 = some (.agg [.int .i64 0, .int .i64 0, .slice [] .full, .int .i64 0, .int .i64 0, .slice [] .full]) := by kernel_rfl
theorem Trytp31 : tptr Try.prog 31 = false := by kernel_rfl
theorem Tryti32 : tinfo Try.prog 32 = some ⟨false, 1, 8⟩ := by kernel_rfl
theorem Trytz32 : tzero Try.prog 32 = some (.int .i64 0) := by kernel_rfl
theorem Trytp32 : tptr Try.prog 32 = false := by kernel_rfl
theorem Trytk32 : tint Try.prog 32 = some .i64 := by kernel_rfl
theorem Tryti41 : tinfo Try.prog 41 = some ⟨true, 4, 48⟩ := by kernel_rfl
theorem Trytf41 : tflds Try.prog 41 = some [(0, ⟨false, 1, 8⟩), (1, ⟨true, 3, 40⟩)] := by kernel_rfl
theorem Trytz41 : tzero Try.prog 41 = some (.agg [.int .i64 0, .int .i64 0, .int .i64 0, .slice [] .full]) := by kernel_rfl
theorem Trytp41 : tptr Try.prog 41 = false := by kernel_rfl
theorem Tryti42 : tinfo Try.prog 42 = some ⟨true, 4, 48⟩ := by kernel_rfl
theorem Trytf42 : tflds Try.prog 42 = some [(0, ⟨false, 1, 8⟩), (1, ⟨true, 3, 40⟩)] := by kernel_rfl
theorem Trytz42 : tzero Try.prog 42 = some (.agg [.int .i64 0, .int .i64 0, .int .i64 0, .slice [] .full]) := by kernel_rfl
theorem Trytp42 : tptr Try.prog 42 = false := by kernel_rfl
theorem Tryti50 : tinfo Try.prog 50 = some ⟨false, 1, 24⟩ := by kernel_rfl
theorem Tryte50 : telem Try.prog 50 = some (3, ⟨false, 1, 8⟩) := by kernel_rfl
theorem Trytz50 : tzero Try.prog 50 = some (.slice [] .full) := by kernel_rfl
theorem Trytp50 : tptr Try.prog 50 = false := by kernel_rfl
theorem Tryti56 : tinfo Try.prog 56 = some ⟨false, 1, 8⟩ := by kernel_rfl
theorem Trytz56 : tzero Try.prog 56 = some (.nilp) := by kernel_rfl
theorem Trytp56 : tptr Try.prog 56 = true := by kernel_rfl
theorem Tryti58 : tinfo Try.prog 58 = some ⟨false, 1, 8⟩ := by kernel_rfl
theorem Trytz58 : tzero Try.prog 58 = some (.nilmap) := by kernel_rfl
theorem Trytp58 : tptr Try.prog 58 = false := by kernel_rfl
theorem Trytm58 : tmap Try.prog 58 = some 29 := by kernel_rfl
theorem Tryti59 : tinfo Try.prog 59 = some ⟨true, 2, 16⟩ := by kernel_rfl
theorem Trytf59 : tflds Try.prog 59 = some [(0, ⟨false, 1, 8⟩), (1, ⟨false, 1, 8⟩)] := by kernel_rfl
theorem Trytz59 : tzero Try.prog 59 = some (.agg [.nilmap, .int .i64 0]) := by kernel_rfl
theorem Trytp59 : tptr Try.prog 59 = false := by kernel_rfl
theorem Tryti60 : tinfo Try.prog 60 = some ⟨true, 2, 16⟩ := by kernel_rfl
theorem Trytf60 : tflds Try.prog 60 = some [(0, ⟨false, 1, 8⟩), (1, ⟨false, 1, 8⟩)] := by kernel_rfl
theorem Trytz60 : tzero Try.prog 60 = some (.agg [.nilmap, .int .i64 0]) := by kernel_rfl
theorem Trytp60 : tptr Try.prog 60 = false := by kernel_rfl
theorem Tryti75 : tinfo Try.prog 75 = some ⟨false, 1, 24⟩ := by kernel_rfl
theorem Tryte75 : telem Try.prog 75 = some (32, ⟨false, 1, 8⟩) := by kernel_rfl
theorem Trytz75 : tzero Try.prog 75 = some (.slice [] .full) := by kernel_rfl
theorem Trytp75 : tptr Try.prog 75 = false := by kernel_rfl
theorem Tryti79 : tinfo Try.prog 79 = some ⟨true, 2, 16⟩ := by kernel_rfl
theorem Trytf79 : tflds Try.prog 79 = some [(0, ⟨false, 1, 8⟩), (1, ⟨false, 1, 8⟩)] := by kernel_rfl
theorem Trytz79 : tzero Try.prog 79 = some (.agg [.int .i64 0, .int .i64 0]) := by kernel_rfl
theorem Trytp79 : tptr Try.prog 79 = false := by kernel_rfl
theorem Tryti80 : tinfo Try.prog 80 = some ⟨true, 2, 16⟩ := by kernel_rfl
theorem Trytf80 : tflds Try.prog 80 = some [(0, ⟨false, 1, 8⟩), (1, ⟨false, 1, 8⟩)] := by kernel_rfl
theorem Trytz80 : tzero Try.prog 80 = some (.agg [.int .i64 0, .int .i64 0]) := by kernel_rfl
theorem Trytp80 : tptr Try.prog 80 = false := by kernel_rfl
theorem Tryti82 : tinfo Try.prog 82 = some ⟨false, 1, 8⟩ := by kernel_rfl
theorem Trytz82 : tzero Try.prog 82 = some (.nilmap) := by kernel_rfl
theorem Trytp82 : tptr Try.prog 82 = false := by kernel_rfl
theorem Trytm82 : tmap Try.prog 82 = some 80 := by kernel_rfl
theorem Tryti85 : tinfo Try.prog 85 = some ⟨false, 1, 8⟩ := by kernel_rfl
theorem Trytz85 : tzero Try.prog 85 = some (.int .u64 0) := by kernel_rfl
theorem Trytp85 : tptr Try.prog 85 = false := by kernel_rfl
theorem Trytk85 : tint Try.prog 85 = some .u64 := by kernel_rfl
theorem Tryti93 : tinfo Try.prog 93 = some ⟨false, 1, 8⟩ := by kernel_rfl
theorem Trytz93 : tzero Try.prog 93 = some (.int .i64 0) := by kernel_rfl
theorem Trytp93 : tptr Try.prog 93 = false := by kernel_rfl
theorem Trytk93 : tint Try.prog 93 = some .i64 := by kernel_rfl
theorem Tryti101 : tinfo Try.prog 101 = some ⟨false, 1, 4⟩ := by kernel_rfl
theorem Trytz101 : tzero Try.prog 101 = some (.int .u32 0) := by kernel_rfl
theorem Trytp101 : tptr Try.prog 101 = false := by kernel_rfl
theorem Trytk101 : tint Try.prog 101 = some .u32 := by kernel_rfl
theorem Tryti103 : tinfo Try.prog 103 = some ⟨false, 1, 8⟩ := by kernel_rfl
theorem Trytz103 : tzero Try.prog 103 = some (.int .u64 0) := by kernel_rfl
theorem Trytp103 : tptr Try.prog 103 = false := by kernel_rfl
theorem Trytk103 : tint Try.prog 103 = some .u64 := by kernel_rfl
theorem Tryti107 : tinfo Try.prog 107 = some ⟨false, 1, 8⟩ := by kernel_rfl
theorem Trytz107 : tzero Try.prog 107 = some (.nilmap) := by kernel_rfl
theorem Trytp107 : tptr Try.prog 107 = false := by kernel_rfl
theorem Trytm107 : tmap Try.prog 107 = some 3 := by kernel_rfl
theorem Tryti108 : tinfo Try.prog 108 = some ⟨false, 1, 8⟩ := by kernel_rfl
theorem Trytz108 : tzero Try.prog 108 = some (.int .u64 0) := by kernel_rfl
theorem Trytp108 : tptr Try.prog 108 = false := by kernel_rfl
theorem Trytk108 : tint Try.prog 108 = some .u64 := by kernel_rfl
theorem Tryti112 : tinfo Try.prog 112 = some ⟨false, 1, 8⟩ := by kernel_rfl
theorem Trytz112 : tzero Try.prog 112 = some (.nilp) := by kernel_rfl
theorem Trytp112 : tptr Try.prog 112 = true := by kernel_rfl
theorem Tryti114 : tinfo Try.prog 114 = some ⟨false, 1, 8⟩ := by kernel_rfl
theorem Trytz114 : tzero Try.prog 114 = some (.nilp) := by kernel_rfl
theorem Trytp114 : tptr Try.prog 114 = true := by kernel_rfl
theorem Tryti117 : tinfo Try.prog 117 = some ⟨true, 4, 40⟩ := by kernel_rfl
theorem Trytf117 : tflds Try.prog 117 = some [(0, ⟨false, 1, 8⟩), (1, ⟨false, 1, 8⟩), (2, ⟨false, 1, 8⟩), (3, ⟨false, 1, 16⟩)] := by kernel_rfl
theorem Trytz117 : tzero Try.prog 117 = some (.agg [.nilp, .nilp, .nilp, .str []]) := by kernel_rfl
theorem Trytp117 : tptr Try.prog 117 = false := by kernel_rfl
theorem Tryti118 : tinfo Try.prog 118 = some ⟨true, 4, 40⟩ := by kernel_rfl
theorem Trytf118 : tflds Try.prog 118 = some [(0, ⟨false, 1, 8⟩), (1, ⟨false, 1, 8⟩), (2, ⟨false, 1, 8⟩), (3, ⟨false, 1, 16⟩)] := by kernel_rfl
theorem Trytz118 : tzero Try.prog 118 = some (.agg [.nilp, .nilp, .nilp, .str []]) := by kernel_rfl
theorem Trytp118 : tptr Try.prog 118 = false := by kernel_rfl
theorem Tryti120 : tinfo Try.prog 120 = some ⟨true, 0, 0⟩ := by kernel_rfl
theorem Trytf120 : tflds Try.prog 120 = some [(0, ⟨true, 0, 0⟩)] := by kernel_rfl
theorem Trytz120 : tzero Try.prog 120 = some (.agg []) := by kernel_rfl
theorem Trytp120 : tptr Try.prog 120 = false := by kernel_rfl
theorem Tryti121 : tinfo Try.prog 121 = some ⟨true, 0, 0⟩ := by kernel_rfl
theorem Trytf121 : tflds Try.prog 121 = some [(0, ⟨true, 0, 0⟩)] := by kernel_rfl
theorem Trytz121 : tzero Try.prog 121 = some (.agg []) := by kernel_rfl
theorem Trytp121 : tptr Try.prog 121 = false := by kernel_rfl
theorem Tryti123 : tinfo Try.prog 123 = some ⟨false, 1, 1⟩ := by kernel_rfl
theorem Trytz123 : tzero Try.prog 123 = some (.int .u8 0) := by kernel_rfl
theorem Trytp123 : tptr Try.prog 123 = false := by kernel_rfl
theorem Trytk123 : tint Try.prog 123 = some .u8 := by kernel_rfl
theorem Tryti124 : tinfo Try.prog 124 = some ⟨false, 1, 1⟩ := by kernel_rfl
theorem Trytz124 : tzero Try.prog 124 = some (.int .u8 0) := by kernel_rfl
theorem Trytp124 : tptr Try.prog 124 = false := by kernel_rfl
theorem Trytk124 : tint Try.prog 124 = some .u8 := by kernel_rfl
theorem Tryti126 : tinfo Try.prog 126 = some ⟨false, 1, 8⟩ := by kernel_rfl
theorem Trytz126 : tzero Try.prog 126 = some (.nilp) := by kernel_rfl
theorem Trytp126 : tptr Try.prog 126 = true := by kernel_rfl
theorem Tryti127 : tinfo Try.prog 127 = some ⟨false, 1, 4⟩ := by kernel_rfl
theorem Trytz127 : tzero Try.prog 127 = some (.int .i32 0) := by kernel_rfl
theorem Trytp127 : tptr Try.prog 127 = false := by kernel_rfl
theorem Trytk127 : tint Try.prog 127 = some .i32 := by kernel_rfl
theorem Tryti128 : tinfo Try.prog 128 = some ⟨false, 1, 4⟩ := by kernel_rfl
theorem Trytz128 : tzero Try.prog 128 = some (.int .i32 0) := by kernel_rfl
theorem Trytp128 : tptr Try.prog 128 = false := by kernel_rfl
theorem Trytk128 : tint Try.prog 128 = some .i32 := by kernel_rfl
theorem Tryti129 : tinfo Try.prog 129 = some ⟨true, 11, 48⟩ := by kernel_rfl
theorem Trytf129 : tflds Try.prog 129 = some [(0, ⟨false, 1, 8⟩), (1, ⟨false, 1, 8⟩), (2, ⟨false, 1, 4⟩), (3, ⟨false, 1, 1⟩), (4, ⟨false, 1, 1⟩), (5, ⟨false, 1, 1⟩), (6, ⟨false, 1, 1⟩), (7, ⟨false, 1, 8⟩), (8, ⟨false, 1, 8⟩), (9, ⟨false, 1, 4⟩), (10, ⟨false, 1, 4⟩)] := by kernel_rfl
theorem Trytz129 : tzero Try.prog 129 = some (.agg [.int .u64 0, .int .u64 0, .int .u32 0, .int .u8 0, .int .u8 0, .int .u8 0, .int .u8 0, .nilfn, .nilp, .int .i32 0, .int .i32 0]) := by kernel_rfl
theorem Trytp129 : tptr Try.prog 129 = false := by kernel_rfl
theorem Tryti130 : tinfo Try.prog 130 = some ⟨true, 11, 48⟩ := by kernel_rfl
theorem Trytf130 : tflds Try.prog 130 = some [(0, ⟨false, 1, 8⟩), (1, ⟨false, 1, 8⟩), (2, ⟨false, 1, 4⟩), (3, ⟨false, 1, 1⟩), (4, ⟨false, 1, 1⟩), (5, ⟨false, 1, 1⟩), (6, ⟨false, 1, 1⟩), (7, ⟨false, 1, 8⟩), (8, ⟨false, 1, 8⟩), (9, ⟨false, 1, 4⟩), (10, ⟨false, 1, 4⟩)] := by kernel_rfl
theorem Trytz130 : tzero Try.prog 130 = some (.agg [.int .u64 0, .int .u64 0, .int .u32 0, .int .u8 0, .int .u8 0, .int .u8 0, .int .u8 0, .nilfn, .nilp, .int .i32 0, .int .i32 0]) := by kernel_rfl
theorem Trytp130 : tptr Try.prog 130 = false := by kernel_rfl
theorem Trygo3 : goFn Try.prog 3 = true := by kernel_rfl
theorem Trygo4 : goFn Try.prog 4 = true := by kernel_rfl
theorem Trygo5 : goFn Try.prog 5 = true := by kernel_rfl
theorem Trygo6 : goFn Try.prog 6 = true := by kernel_rfl
theorem Trygo7 : goFn Try.prog 7 = true := by kernel_rfl
theorem Trygo8 : goFn Try.prog 8 = true := by kernel_rfl
theorem Trygo9 : goFn Try.prog 9 = true := by kernel_rfl
theorem Trygo10 : goFn Try.prog 10 = true := by kernel_rfl
theorem Trygo11 : goFn Try.prog 11 = true := by kernel_rfl
theorem Trygo12 : goFn Try.prog 12 = true := by kernel_rfl
theorem Trygo13 : goFn Try.prog 13 = true := by kernel_rfl
theorem Trygo14 : goFn Try.prog 14 = true := by kernel_rfl
theorem Trygo15 : goFn Try.prog 15 = true := by kernel_rfl
theorem Trygo16 : goFn Try.prog 16 = true := by kernel_rfl
theorem Trygo17 : goFn Try.prog 17 = true := by kernel_rfl
theorem Trygo18 : goFn Try.prog 18 = true := by kernel_rfl
theorem Trygo19 : goFn Try.prog 19 = true := by kernel_rfl
theorem Trygo20 : goFn Try.prog 20 = true := by kernel_rfl
theorem Trygo21 : goFn Try.prog 21 = true := by kernel_rfl
theorem Trygo22 : goFn Try.prog 22 = true := by kernel_rfl
theorem Trygo23 : goFn Try.prog 23 = true := by kernel_rfl
theorem Trygo24 : goFn Try.prog 24 = true := by kernel_rfl
theorem Trygo25 : goFn Try.prog 25 = true := by kernel_rfl
theorem Trygo26 : goFn Try.prog 26 = true := by kernel_rfl
theorem Trygo27 : goFn Try.prog 27 = true := by kernel_rfl
theorem Trygo28 : goFn Try.prog 28 = true := by kernel_rfl
theorem Trygo29 : goFn Try.prog 29 = true := by kernel_rfl
theorem Trygo30 : goFn Try.prog 30 = true := by kernel_rfl
theorem Trygo31 : goFn Try.prog 31 = true := by kernel_rfl
theorem Trygo32 : goFn Try.prog 32 = true := by kernel_rfl
theorem Trygo33 : goFn Try.prog 33 = true := by kernel_rfl
theorem Trygo34 : goFn Try.prog 34 = true := by kernel_rfl
theorem Trygo35 : goFn Try.prog 35 = true := by kernel_rfl
theorem Trygo36 : goFn Try.prog 36 = true := by kernel_rfl
theorem Trygo37 : goFn Try.prog 37 = true := by kernel_rfl
theorem Trygo38 : goFn Try.prog 38 = true := by kernel_rfl
theorem Trygo39 : goFn Try.prog 39 = true := by kernel_rfl
theorem Trygo40 : goFn Try.prog 40 = true := by kernel_rfl
theorem Trygo41 : goFn Try.prog 41 = true := by kernel_rfl
theorem Trygo42 : goFn Try.prog 42 = true := by kernel_rfl
theorem Trygo43 : goFn Try.prog 43 = true := by kernel_rfl
theorem Trygo44 : goFn Try.prog 44 = true := by kernel_rfl
theorem Trygo45 : goFn Try.prog 45 = true := by kernel_rfl
theorem Trygo46 : goFn Try.prog 46 = true := by kernel_rfl
theorem Trygo47 : goFn Try.prog 47 = true := by kernel_rfl
theorem Trygo48 : goFn Try.prog 48 = true := by kernel_rfl
theorem Trygo49 : goFn Try.prog 49 = true := by kernel_rfl
theorem Trygo50 : goFn Try.prog 50 = true := by kernel_rfl
theorem Trygo51 : goFn Try.prog 51 = true := by kernel_rfl
theorem Trygo52 : goFn Try.prog 52 = true := by kernel_rfl
theorem Trygo53 : goFn Try.prog 53 = true := by kernel_rfl
theorem Trygo54 : goFn Try.prog 54 = true := by kernel_rfl
theorem Trygo55 : goFn Try.prog 55 = true := by kernel_rfl
theorem Trygo56 : goFn Try.prog 56 = true := by kernel_rfl
theorem Trygo57 : goFn Try.prog 57 = true := by kernel_rfl
theorem Trygo58 : goFn Try.prog 58 = true := by kernel_rfl
theorem Trygo59 : goFn Try.prog 59 = true := by kernel_rfl
theorem Trygo60 : goFn Try.prog 60 = true := by kernel_rfl
theorem Trygo61 : goFn Try.prog 61 = true := by kernel_rfl
theorem Trygo62 : goFn Try.prog 62 = true := by kernel_rfl
theorem Trygo63 : goFn Try.prog 63 = true := by kernel_rfl
theorem Trygo64 : goFn Try.prog 64 = true := by kernel_rfl
theorem Trygo65 : goFn Try.prog 65 = true := by kernel_rfl
theorem Trygo66 : goFn Try.prog 66 = true := by kernel_rfl
theorem Trygo67 : goFn Try.prog 67 = true := by kernel_rfl
theorem Trygo68 : goFn Try.prog 68 = true := by kernel_rfl
theorem Trygo69 : goFn Try.prog 69 = true := by kernel_rfl
theorem Trygo70 : goFn Try.prog 70 = true := by kernel_rfl
theorem Trygo71 : goFn Try.prog 71 = true := by kernel_rfl
theorem Trygo72 : goFn Try.prog 72 = true := by kernel_rfl
theorem Trygo73 : goFn Try.prog 73 = true := by kernel_rfl
theorem Trygo74 : goFn Try.prog 74 = true := by kernel_rfl
theorem Trygo75 : goFn Try.prog 75 = true := by kernel_rfl
theorem Trygo76 : goFn Try.prog 76 = true := by kernel_rfl
theorem Trygo77 : goFn Try.prog 77 = true := by kernel_rfl
theorem Trygo78 : goFn Try.prog 78 = true := by kernel_rfl
theorem Trygo79 : goFn Try.prog 79 = true := by kernel_rfl
theorem Trygo80 : goFn Try.prog 80 = true := by kernel_rfl
theorem Trygo81 : goFn Try.prog 81 = true := by kernel_rfl
theorem Trygo82 : goFn Try.prog 82 = true := by kernel_rfl
theorem Trygo83 : goFn Try.prog 83 = true := by kernel_rfl
theorem Trygo84 : goFn Try.prog 84 = true := by kernel_rfl
theorem Trygo85 : goFn Try.prog 85 = true := by kernel_rfl
theorem Trygo86 : goFn Try.prog 86 = true := by kernel_rfl
theorem Trygo87 : goFn Try.prog 87 = true := by kernel_rfl
theorem Trygo88 : goFn Try.prog 88 = true := by kernel_rfl
theorem Trygo89 : goFn Try.prog 89 = true := by kernel_rfl
theorem Trygo90 : goFn Try.prog 90 = true := by kernel_rfl
theorem Trygo91 : goFn Try.prog 91 = true := by kernel_rfl
theorem Trygo92 : goFn Try.prog 92 = true := by kernel_rfl
theorem Trygo93 : goFn Try.prog 93 = true := by kernel_rfl
theorem y2 : type_of% (And.intro @Tryti2 (And.intro @Trytz2 (And.intro @Trytp2 (@Trytk2)))) := And.intro @Tryti2 (And.intro @Trytz2 (And.intro @Trytp2 (@Trytk2)))
theorem y3 : type_of% (And.intro @Tryti3 (And.intro @Trytz3 (And.intro @Trytp3 (@Trytk3)))) := And.intro @Tryti3 (And.intro @Trytz3 (And.intro @Trytp3 (@Trytk3)))
theorem y4 : type_of% (And.intro @Tryti4 (And.intro @Trytz4 (And.intro @Trytp4 (@Trytb4)))) := And.intro @Tryti4 (And.intro @Trytz4 (And.intro @Trytp4 (@Trytb4)))
theorem y5 : type_of% (And.intro @Tryti5 (And.intro @Trytz5 (And.intro @Trytp5 (@Trytk5)))) := And.intro @Tryti5 (And.intro @Trytz5 (And.intro @Trytp5 (@Trytk5)))
theorem y6 : type_of% (And.intro @Tryti6 (And.intro @Trytz6 (And.intro @Trytp6 (@Trytk6)))) := And.intro @Tryti6 (And.intro @Trytz6 (And.intro @Trytp6 (@Trytk6)))
theorem y7 : type_of% (And.intro @Tryti7 (And.intro @Trytf7 (And.intro @Trytz7 (@Trytp7)))) := And.intro @Tryti7 (And.intro @Trytf7 (And.intro @Trytz7 (@Trytp7)))
theorem y8 : type_of% (And.intro @Tryti8 (And.intro @Trytf8 (And.intro @Trytz8 (@Trytp8)))) := And.intro @Tryti8 (And.intro @Trytf8 (And.intro @Trytz8 (@Trytp8)))
theorem y9 : type_of% (And.intro @Tryti9 (And.intro @Trytz9 (And.intro @Trytp9 (@Tryts9)))) := And.intro @Tryti9 (And.intro @Trytz9 (And.intro @Trytp9 (@Tryts9)))
theorem y10 : type_of% (And.intro @Tryti10 (And.intro @Trytz10 (And.intro @Trytp10 (@Tryts10)))) := And.intro @Tryti10 (And.intro @Trytz10 (And.intro @Trytp10 (@Tryts10)))
theorem y11 : type_of% (And.intro @Tryti11 (And.intro @Trytz11 (And.intro @Trytp11 (@Tryts11)))) := And.intro @Tryti11 (And.intro @Trytz11 (And.intro @Trytp11 (@Tryts11)))
theorem y12 : type_of% (And.intro @Tryti12 (And.intro @Trytz12 (And.intro @Trytp12 (@Trytk12)))) := And.intro @Tryti12 (And.intro @Trytz12 (And.intro @Trytp12 (@Trytk12)))
theorem y13 : type_of% (And.intro @Tryti13 (And.intro @Trytf13 (And.intro @Trytz13 (@Trytp13)))) := And.intro @Tryti13 (And.intro @Trytf13 (And.intro @Trytz13 (@Trytp13)))
theorem y14 : type_of% (And.intro @Tryti14 (And.intro @Trytf14 (And.intro @Trytz14 (@Trytp14)))) := And.intro @Tryti14 (And.intro @Trytf14 (And.intro @Trytz14 (@Trytp14)))
theorem y15 : type_of% (And.intro @Tryti15 (And.intro @Trytz15 (@Trytp15))) := And.intro @Tryti15 (And.intro @Trytz15 (@Trytp15))
theorem y16 : type_of% (And.intro @Tryti16 (And.intro @Trytz16 (@Trytp16))) := And.intro @Tryti16 (And.intro @Trytz16 (@Trytp16))
theorem y17 : type_of% (And.intro @Tryti17 (And.intro @Trytz17 (@Trytp17))) := And.intro @Tryti17 (And.intro @Trytz17 (@Trytp17))
theorem y18 : type_of% (And.intro @Tryti18 (And.intro @Trytf18 (And.intro @Trytz18 (@Trytp18)))) := And.intro @Tryti18 (And.intro @Trytf18 (And.intro @Trytz18 (@Trytp18)))
theorem y19 : type_of% (And.intro @Tryti19 (And.intro @Trytf19 (And.intro @Trytz19 (@Trytp19)))) := And.intro @Tryti19 (And.intro @Trytf19 (And.intro @Trytz19 (@Trytp19)))
theorem y21 : type_of% (And.intro @Tryti21 (And.intro @Trytz21 (And.intro @Trytp21 (@Trytk21)))) := And.intro @Tryti21 (And.intro @Trytz21 (And.intro @Trytp21 (@Trytk21)))
theorem y22 : type_of% (And.intro @Tryti22 (And.intro @Tryte22 (And.intro @Trytz22 (@Trytp22)))) := And.intro @Tryti22 (And.intro @Tryte22 (And.intro @Trytz22 (@Trytp22)))
theorem y24 : type_of% (And.intro @Tryti24 (And.intro @Tryte24 (And.intro @Trytz24 (@Trytp24)))) := And.intro @Tryti24 (And.intro @Tryte24 (And.intro @Trytz24 (@Trytp24)))
theorem y27 : type_of% (And.intro @Tryti27 (And.intro @Tryte27 (And.intro @Trytz27 (@Trytp27)))) := And.intro @Tryti27 (And.intro @Tryte27 (And.intro @Trytz27 (@Trytp27)))
theorem y28 : type_of% (And.intro @Tryti28 (And.intro @Trytf28 (And.intro @Trytz28 (@Trytp28)))) := And.intro @Tryti28 (And.intro @Trytf28 (And.intro @Trytz28 (@Trytp28)))
theorem y29 : type_of% (And.intro @Tryti29 (And.intro @Trytf29 (And.intro @Trytz29 (@Trytp29)))) := And.intro @Tryti29 (And.intro @Trytf29 (And.intro @Trytz29 (@Trytp29)))
theorem y30 : type_of% (And.intro @Tryti30 (And.intro @Trytf30 (And.intro @Trytz30 (@Trytp30)))) := And.intro @Tryti30 (And.intro @Trytf30 (And.intro @Trytz30 (@Trytp30)))
theorem y31 : type_of% (And.intro @Tryti31 (And.intro @Trytf31 (And.intro @Trytz31 (@Trytp31)))) := And.intro @Tryti31 (And.intro @Trytf31 (And.intro @Trytz31 (@Trytp31)))
theorem y32 : type_of% (And.intro @Tryti32 (And.intro @Trytz32 (And.intro @Trytp32 (@Trytk32)))) := And.intro @Tryti32 (And.intro @Trytz32 (And.intro @Trytp32 (@Trytk32)))
theorem y41 : type_of% (And.intro @Tryti41 (And.intro @Trytf41 (And.intro @Trytz41 (@Trytp41)))) := And.intro @Tryti41 (And.intro @Trytf41 (And.intro @Trytz41 (@Trytp41)))
theorem y42 : type_of% (And.intro @Tryti42 (And.intro @Trytf42 (And.intro @Trytz42 (@Trytp42)))) := And.intro @Tryti42 (And.intro @Trytf42 (And.intro @Trytz42 (@Trytp42)))
theorem y50 : type_of% (And.intro @Tryti50 (And.intro @Tryte50 (And.intro @Trytz50 (@Trytp50)))) := And.intro @Tryti50 (And.intro @Tryte50 (And.intro @Trytz50 (@Trytp50)))
theorem y56 : type_of% (And.intro @Tryti56 (And.intro @Trytz56 (@Trytp56))) := And.intro @Tryti56 (And.intro @Trytz56 (@Trytp56))
theorem y58 : type_of% (And.intro @Tryti58 (And.intro @Trytz58 (And.intro @Trytp58 (@Trytm58)))) := And.intro @Tryti58 (And.intro @Trytz58 (And.intro @Trytp58 (@Trytm58)))
theorem y59 : type_of% (And.intro @Tryti59 (And.intro @Trytf59 (And.intro @Trytz59 (@Trytp59)))) := And.intro @Tryti59 (And.intro @Trytf59 (And.intro @Trytz59 (@Trytp59)))
theorem y60 : type_of% (And.intro @Tryti60 (And.intro @Trytf60 (And.intro @Trytz60 (@Trytp60)))) := And.intro @Tryti60 (And.intro @Trytf60 (And.intro @Trytz60 (@Trytp60)))
theorem y75 : type_of% (And.intro @Tryti75 (And.intro @Tryte75 (And.intro @Trytz75 (@Trytp75)))) := And.intro @Tryti75 (And.intro @Tryte75 (And.intro @Trytz75 (@Trytp75)))
theorem y79 : type_of% (And.intro @Tryti79 (And.intro @Trytf79 (And.intro @Trytz79 (@Trytp79)))) := And.intro @Tryti79 (And.intro @Trytf79 (And.intro @Trytz79 (@Trytp79)))
theorem y80 : type_of% (And.intro @Tryti80 (And.intro @Trytf80 (And.intro @Trytz80 (@Trytp80)))) := And.intro @Tryti80 (And.intro @Trytf80 (And.intro @Trytz80 (@Trytp80)))
theorem y82 : type_of% (And.intro @Tryti82 (And.intro @Trytz82 (And.intro @Trytp82 (@Trytm82)))) := And.intro @Tryti82 (And.intro @Trytz82 (And.intro @Trytp82 (@Trytm82)))
theorem y85 : type_of% (And.intro @Tryti85 (And.intro @Trytz85 (And.intro @Trytp85 (@Trytk85)))) := And.intro @Tryti85 (And.intro @Trytz85 (And.intro @Trytp85 (@Trytk85)))
theorem y93 : type_of% (And.intro @Tryti93 (And.intro @Trytz93 (And.intro @Trytp93 (@Trytk93)))) := And.intro @Tryti93 (And.intro @Trytz93 (And.intro @Trytp93 (@Trytk93)))
theorem y101 : type_of% (And.intro @Tryti101 (And.intro @Trytz101 (And.intro @Trytp101 (@Trytk101)))) := And.intro @Tryti101 (And.intro @Trytz101 (And.intro @Trytp101 (@Trytk101)))
theorem y103 : type_of% (And.intro @Tryti103 (And.intro @Trytz103 (And.intro @Trytp103 (@Trytk103)))) := And.intro @Tryti103 (And.intro @Trytz103 (And.intro @Trytp103 (@Trytk103)))
theorem y107 : type_of% (And.intro @Tryti107 (And.intro @Trytz107 (And.intro @Trytp107 (@Trytm107)))) := And.intro @Tryti107 (And.intro @Trytz107 (And.intro @Trytp107 (@Trytm107)))
theorem y108 : type_of% (And.intro @Tryti108 (And.intro @Trytz108 (And.intro @Trytp108 (@Trytk108)))) := And.intro @Tryti108 (And.intro @Trytz108 (And.intro @Trytp108 (@Trytk108)))
theorem y112 : type_of% (And.intro @Tryti112 (And.intro @Trytz112 (@Trytp112))) := And.intro @Tryti112 (And.intro @Trytz112 (@Trytp112))
theorem y114 : type_of% (And.intro @Tryti114 (And.intro @Trytz114 (@Trytp114))) := And.intro @Tryti114 (And.intro @Trytz114 (@Trytp114))
theorem y117 : type_of% (And.intro @Tryti117 (And.intro @Trytf117 (And.intro @Trytz117 (@Trytp117)))) := And.intro @Tryti117 (And.intro @Trytf117 (And.intro @Trytz117 (@Trytp117)))
theorem y118 : type_of% (And.intro @Tryti118 (And.intro @Trytf118 (And.intro @Trytz118 (@Trytp118)))) := And.intro @Tryti118 (And.intro @Trytf118 (And.intro @Trytz118 (@Trytp118)))
theorem y120 : type_of% (And.intro @Tryti120 (And.intro @Trytf120 (And.intro @Trytz120 (@Trytp120)))) := And.intro @Tryti120 (And.intro @Trytf120 (And.intro @Trytz120 (@Trytp120)))
theorem y121 : type_of% (And.intro @Tryti121 (And.intro @Trytf121 (And.intro @Trytz121 (@Trytp121)))) := And.intro @Tryti121 (And.intro @Trytf121 (And.intro @Trytz121 (@Trytp121)))
theorem y123 : type_of% (And.intro @Tryti123 (And.intro @Trytz123 (And.intro @Trytp123 (@Trytk123)))) := And.intro @Tryti123 (And.intro @Trytz123 (And.intro @Trytp123 (@Trytk123)))
theorem y124 : type_of% (And.intro @Tryti124 (And.intro @Trytz124 (And.intro @Trytp124 (@Trytk124)))) := And.intro @Tryti124 (And.intro @Trytz124 (And.intro @Trytp124 (@Trytk124)))
theorem y126 : type_of% (And.intro @Tryti126 (And.intro @Trytz126 (@Trytp126))) := And.intro @Tryti126 (And.intro @Trytz126 (@Trytp126))
theorem y127 : type_of% (And.intro @Tryti127 (And.intro @Trytz127 (And.intro @Trytp127 (@Trytk127)))) := And.intro @Tryti127 (And.intro @Trytz127 (And.intro @Trytp127 (@Trytk127)))
theorem y128 : type_of% (And.intro @Tryti128 (And.intro @Trytz128 (And.intro @Trytp128 (@Trytk128)))) := And.intro @Tryti128 (And.intro @Trytz128 (And.intro @Trytp128 (@Trytk128)))
theorem y129 : type_of% (And.intro @Tryti129 (And.intro @Trytf129 (And.intro @Trytz129 (@Trytp129)))) := And.intro @Tryti129 (And.intro @Trytf129 (And.intro @Trytz129 (@Trytp129)))
theorem y130 : type_of% (And.intro @Tryti130 (And.intro @Trytf130 (And.intro @Trytz130 (@Trytp130)))) := And.intro @Tryti130 (And.intro @Trytf130 (And.intro @Trytz130 (@Trytp130)))
end Go.Abs
set_option maxRecDepth 4000
namespace Go.Abs
open Go.Proofs

theorem bel_Ty (n : Nat) (us : List Ty) : Bel n (.slice (us.map Ty.enc) .none) := bel_slice_ty n us
theorem bel_Int (n : Nat) (us : List Int) : Bel n (.slice (us.map vint) .none) := bel_ints0 n us

theorem index (xs : List Int) (n : Int) (hx : xs.length ≤ maxLen) : PC Try.prog 85 [.slice (xs.map vint) .none, vint n] (vint (idxI (fun x => decide (n = x)) xs)) := by
  refine pc_of (N := 19) Try.func85 rfl rfl (by simp) (by simp [bel_ints0, Bel.int]) (.int _ _) ?_
  repeat (refine awp_seq ?_)
  refine e_eval (by simp only [jA, jO, jN, seval, vint, TyS, TyF] <;> with_reducible rfl) (by decide) ?_
  repeat (refine awp_seq ?_)
  refine e_eval (by simp only [jA, jO, jN, seval, y3, y50, vint, TyS, TyF] <;> with_reducible rfl) (by decide) ?_
  repeat (refine awp_seq ?_)
  refine awp_forS (σ := Unit) (xs.length) (fun (s : Unit) => [(0, .slice (xs.map vint) .none), (1, vint n)]) [0, 1] ([]) (fun (s : Unit) => []) (fun (i : Nat) (s : Unit) => (xs.take i).any (fun x => decide (n = x)) = false) (()) ([]) rfl rfl rfl rfl rfl rfl rfl rfl rfl (by decide) (by decide) (by decide) (fun _ => rfl) (hx) ⟨(by first | rfl | (simp only [jN, seval, vint, TyS, TyF] <;> first | done | with_reducible rfl)), (by first | rfl | (simp only [jN, seval, vint, TyS, TyF] <;> first | done | with_reducible rfl)), (by first | rfl | (simp only [jN, seval, vint, TyS, TyF] <;> first | done | with_reducible rfl)), (by first | rfl | (simp only [jN, seval, vint, TyS, TyF] <;> first | done | with_reducible rfl)), trivial⟩ (by first | rfl | (simp only [jN, seval, vint, TyS, TyF] <;> first | done | with_reducible rfl)) (by simp) (fun _ _ _ => by first | exact Nat.zero_le _ | (simp only [List.length_append]; omega)) ?_ ?_ ?_
  · exact fun i s hg => ⟨by first | exact hbel_nil _ | (simp only [List.append_nil]; assumption) | (refine hbel_app' hb' (by simp) ?_; repeat (first | exact hbel_nil _ | exact trivial | exact obel_row_nil _ | (refine HBel.cons ?_ ?_) | (refine obel_row_cons (by first | exact bel_ints0 _ _ | exact bel_slice_ty _ _ | exact Ty.bel _ _ | exact bel_ty_tok _ (by simp) | exact Bel.int _ _ | exact Bel.bool _ | exact Bel.str _ | exact Bel.nilp | exact Bel.nilfn | exact Bel.optr _ _ (by simp) | exact bel_nil0 _ | exact bel_nil1 _ | exact bel_fn0 _ _ | assumption) ?_))), by repeat (first | exact BelL.nil | refine BelL.cons (by first | exact bel_ints0 _ _ | exact bel_slice_ty _ _ | exact Ty.bel _ _ | exact bel_ty_tok _ (by simp) | exact Bel.int _ _ | exact Bel.bool _ | exact Bel.str _ | exact Bel.nilp | exact Bel.nilfn | exact Bel.optr _ _ (by simp) | exact bel_nil0 _ | exact bel_nil1 _ | exact bel_fn0 _ _ | assumption) ?_)⟩
  · intro i s hi hg
    have g1 := ix_nat hi
    have g2 := get_enc vint hi
    repeat (refine awp_seq ?_)
    refine e_eval (by simp only [jA, jO, jN, seval, vint, TyS, TyF, g1, Int.toNat_natCast, g2] <;> with_reducible rfl) (by decide) ?_
    repeat (refine awp_seq ?_)
    refine e_eval (by simp only [jA, jO, jN, seval, y3, y50, vint, TyS, TyF, g1, Int.toNat_natCast, g2] <;> with_reducible rfl) (by decide) ?_
    repeat (refine awp_seq ?_)
    refine awp_cond rfl (by simp only [jN, seval, vint, TyS, TyF, g1, Int.toNat_natCast, g2] <;> with_reducible rfl) (fun b0 => ?_) (fun b0 => ?_)
    ·
      repeat (refine awp_seq ?_)
      refine e_eval (by simp only [jA, jO, jN, seval, vint, TyS, TyF, g1, Int.toNat_natCast, g2] <;> with_reducible rfl) (by decide) ?_
      repeat (refine awp_seq ?_)
      refine awp_ret ⟨.inr rfl, _, rfl, ?_⟩
      rw [idxI_at hi b0 hg]; rfl
    ·
      repeat (refine awp_seq ?_)
      refine awp_skip ?_
      exact ⟨⟨rfl, rfl, trivial⟩, (), [], ⟨rfl, rfl, trivial⟩, rfl, any_take_succ hi hg b0⟩
  · intro s hg
    rw [List.take_length] at hg
    repeat (refine awp_seq ?_)
    refine e_eval (by simp only [jA, jO, jN, seval, vint, TyS, TyF] <;> with_reducible rfl) (by decide) ?_
    repeat (refine awp_seq ?_)
    refine awp_ret ⟨.inr rfl, _, rfl, ?_⟩
    rw [idxI_none hg]; rfl

theorem indexFuncTy {f : FuncId} {caps : List PV} {H : Heap} {us : List Ty} {p : Ty → Bool} (hc : CloB Try.prog Ty.enc f caps H us p) (hl : us.length ≤ maxLen) : ACalls Try.prog 84 [.slice (us.map Ty.enc) .none, .fn (.func f) [] caps] H fun r' H' => r' = vint (idxI p us) ∧ H' = H := by
  have hgo := hc.go
  refine keeps_of (N := 19) Try.func84 rfl rfl (by simp) (.int _ _) fun hb' => ?_
  repeat (refine awp_seq ?_)
  refine e_eval (by simp only [jA, jO, jN, seval, vint, TyS, TyF] <;> with_reducible rfl) (by decide) ?_
  repeat (refine awp_seq ?_)
  refine e_eval (by simp only [jA, jO, jN, seval, y27, y29, vint, TyS, TyF] <;> with_reducible rfl) (by decide) ?_
  repeat (refine awp_seq ?_)
  refine awp_forS (σ := Unit) (us.length) (fun (s : Unit) => [(0, .slice (us.map Ty.enc) .none), (1, .fn (.func f) [] caps)]) [0, 1] (H) (fun (s : Unit) => []) (fun (i : Nat) (s : Unit) => (us.take i).any p = false) (()) ([]) rfl rfl rfl rfl rfl rfl rfl rfl rfl (by decide) (by decide) (by decide) (fun _ => rfl) (hl) ⟨(by first | rfl | (simp only [jN, seval, vint, TyS, TyF] <;> first | done | with_reducible rfl)), (by first | rfl | (simp only [jN, seval, vint, TyS, TyF] <;> first | done | with_reducible rfl)), (by first | rfl | (simp only [jN, seval, vint, TyS, TyF] <;> first | done | with_reducible rfl)), (by first | rfl | (simp only [jN, seval, vint, TyS, TyF] <;> first | done | with_reducible rfl)), trivial⟩ (by first | rfl | (simp only [jN, seval, vint, TyS, TyF] <;> first | done | with_reducible rfl)) (by simp) (fun _ _ _ => by first | exact Nat.zero_le _ | (simp only [List.length_append]; omega)) ?_ ?_ ?_
  · exact fun i s hg => ⟨by simp only [List.append_nil]; exact hb', .cons (bel_Ty _ _) (.cons (.fn _ _ _ (by simp) (fun c hc' => (hc.bel c hc').mono (by simp))) .nil)⟩
  · intro i s hi hg
    have g1 := ix_nat hi
    have g2 := get_enc Ty.enc hi
    repeat (refine awp_seq ?_)
    refine e_eval (by simp only [jA, jO, jN, seval, vint, TyS, TyF, g1, Int.toNat_natCast, g2] <;> with_reducible rfl) (by decide) ?_
    repeat (refine awp_seq ?_)
    refine awp_region ?_
    refine e_take 5 (by simp only [jA, jO, jN, seval, y27, y29, vint, TyS, TyF, g1, Int.toNat_natCast, g2] <;> with_reducible rfl) (by decide) ?_
    refine aops_pure (by simp only [jC, jN, seval, vint, TyS, TyF, g1, Int.toNat_natCast, g2] <;> with_reducible rfl) (by simp only [jC, jN, seval, vint, TyS, TyF, g1, Int.toNat_natCast, g2]) (by decide) (by assumption) (hc.call _ (List.getElem_mem hi)) ?_
    refine aops_nil ?_
    repeat (refine awp_seq ?_)
    refine awp_cond rfl (by simp only [jN, seval, vint, TyS, TyF, g1, Int.toNat_natCast, g2] <;> with_reducible rfl) (fun b0 => ?_) (fun b0 => ?_)
    ·
      repeat (refine awp_seq ?_)
      refine e_eval (by simp only [jA, jO, jN, seval, vint, TyS, TyF, g1, Int.toNat_natCast, g2] <;> with_reducible rfl) (by decide) ?_
      repeat (refine awp_seq ?_)
      refine awp_ret ⟨.inr rfl, _, _, rfl, ?_, (by first | exact (List.append_nil _).symm | rfl)⟩
      rw [idxI_at hi b0 hg]; rfl
    ·
      repeat (refine awp_seq ?_)
      refine awp_skip ?_
      exact ⟨⟨rfl, rfl, trivial⟩, (), [], ⟨rfl, rfl, trivial⟩, by simp only [List.append_nil], any_take_succ hi hg b0⟩
  · intro s hg
    rw [List.take_length] at hg
    repeat (refine awp_seq ?_)
    refine e_eval (by simp only [jA, jO, jN, seval, vint, TyS, TyF] <;> with_reducible rfl) (by decide) ?_
    repeat (refine awp_seq ?_)
    refine awp_ret ⟨.inr rfl, _, _, rfl, ?_, (by first | exact (List.append_nil _).symm | rfl)⟩
    rw [idxI_none hg]; rfl

theorem containsFuncTy {f : FuncId} {caps : List PV} {H : Heap} {us : List Ty} {p : Ty → Bool} (hc : CloB Try.prog Ty.enc f caps H us p) (hl : us.length ≤ maxLen) : ACalls Try.prog 68 [.slice (us.map Ty.enc) .none, .fn (.func f) [] caps] H fun r' H' => r' = .bool (us.any p) ∧ H' = H := by
  refine keeps_of (N := 9) Try.func68 rfl rfl (by simp) (.bool _) fun hb' => ?_
  repeat (refine awp_seq ?_)
  refine e_eval (by simp only [jA, jO, jN, seval, vint, TyS, TyF] <;> with_reducible rfl) (by decide) ?_
  repeat (refine awp_seq ?_)
  refine awp_region ?_
  refine e_take 2 (by simp only [jA, jO, jN, seval, vint, TyS, TyF] <;> with_reducible rfl) (by decide) ?_
  refine aops_pure (by simp only [jC, jN, seval, vint, TyS, TyF] <;> with_reducible rfl) (by simp only [jC, jN, seval, vint, TyS, TyF]) (by decide) Trygo84 (indexFuncTy hc hl) ?_
  refine e_end (by simp only [jA, jO, jN, seval, y3, vint, TyS, TyF] <;> with_reducible rfl) (by decide) ?_
  repeat (refine awp_seq ?_)
  refine awp_ret ⟨.inr rfl, _, _, rfl, ?_, (by first | exact (List.append_nil _).symm | rfl)⟩
  rw [← idxI_nonneg]; rfl

theorem equalFunc (us vs : List Ty) (g : Ty → Ty → Bool) (f : FuncId) (hgo : goFn Try.prog f = true) (ha : us.length ≤ maxLen) (hf : ∀ a ∈ us, ∀ b ∈ vs, PC Try.prog f [a.enc, b.enc] (.bool (g a b))) : PC Try.prog 50 [.slice (us.map Ty.enc) .none, .slice (vs.map Ty.enc) .none, .fn (.func f) [] []] (.bool (all2 g us vs)) := by
  refine pc_of (N := 32) Try.func50 rfl rfl (by simp) (by simp [bel_slice_ty, bel_fn0]) (.bool _) ?_
  repeat (refine awp_seq ?_)
  refine e_eval (by simp only [jA, jO, jN, seval, vint, TyS, TyF] <;> with_reducible rfl) (by decide) ?_
  repeat (refine awp_seq ?_)
  refine e_eval (by simp only [jA, jO, jN, seval, y3, y27, y29, vint, TyS, TyF] <;> with_reducible rfl) (by decide) ?_
  repeat (refine awp_seq ?_)
  refine awp_cond rfl (by simp only [jN, seval, vint, TyS, TyF] <;> with_reducible rfl) (fun b0 => ?_) (fun b0 => ?_)
  ·
    repeat (refine awp_seq ?_)
    refine e_eval (by simp only [jA, jO, jN, seval, vint, TyS, TyF] <;> with_reducible rfl) (by decide) ?_
    repeat (refine awp_seq ?_)
    refine awp_ret ⟨.inr rfl, _, rfl, ?_⟩
    have : us.length ≠ vs.length := by simp at b0; omega
    simp [all2, this, upd_apply, PV.drop1]
  ·
    have hlen : us.length = vs.length := by simp at b0; omega
    repeat (refine awp_seq ?_)
    refine awp_skip ?_
    repeat (refine awp_seq ?_)
    refine e_eval (by simp only [jA, jO, jN, seval, y27, y29, vint, TyS, TyF] <;> with_reducible rfl) (by decide) ?_
    repeat (refine awp_seq ?_)
    refine awp_forS (σ := Unit) (us.length) (fun (s : Unit) => [(1, .slice (vs.map Ty.enc) .none), (2, .fn (.func f) [] []), (15, .slice (us.map Ty.enc) .none)]) [1, 2, 15] ([]) (fun (s : Unit) => []) (fun (i : Nat) (s : Unit) => ((us.zip vs).take i).all (fun p => g p.1 p.2) = true) (()) ([]) rfl rfl rfl rfl rfl rfl rfl rfl rfl (by decide) (by decide) (by decide) (fun _ => rfl) (ha) ⟨(by first | rfl | (simp only [jN, seval, vint, TyS, TyF] <;> first | done | with_reducible rfl)), (by first | rfl | (simp only [jN, seval, vint, TyS, TyF] <;> first | done | with_reducible rfl)), (by first | rfl | (simp only [jN, seval, vint, TyS, TyF] <;> first | done | with_reducible rfl)), (by first | rfl | (simp only [jN, seval, vint, TyS, TyF] <;> first | done | with_reducible rfl)), (by first | rfl | (simp only [jN, seval, vint, TyS, TyF] <;> first | done | with_reducible rfl)), trivial⟩ (by first | rfl | (simp only [jN, seval, vint, TyS, TyF] <;> first | done | with_reducible rfl)) (by simp) (fun _ _ _ => by first | exact Nat.zero_le _ | (simp only [List.length_append]; omega)) ?_ ?_ ?_
    · exact fun i s hg => ⟨by first | exact hbel_nil _ | (simp only [List.append_nil]; assumption) | (refine hbel_app' hb' (by simp) ?_; repeat (first | exact hbel_nil _ | exact trivial | exact obel_row_nil _ | (refine HBel.cons ?_ ?_) | (refine obel_row_cons (by first | exact bel_ints0 _ _ | exact bel_slice_ty _ _ | exact Ty.bel _ _ | exact bel_ty_tok _ (by simp) | exact Bel.int _ _ | exact Bel.bool _ | exact Bel.str _ | exact Bel.nilp | exact Bel.nilfn | exact Bel.optr _ _ (by simp) | exact bel_nil0 _ | exact bel_nil1 _ | exact bel_fn0 _ _ | assumption) ?_))), by repeat (first | exact BelL.nil | refine BelL.cons (by first | exact bel_ints0 _ _ | exact bel_slice_ty _ _ | exact Ty.bel _ _ | exact bel_ty_tok _ (by simp) | exact Bel.int _ _ | exact Bel.bool _ | exact Bel.str _ | exact Bel.nilp | exact Bel.nilfn | exact Bel.optr _ _ (by simp) | exact bel_nil0 _ | exact bel_nil1 _ | exact bel_fn0 _ _ | assumption) ?_)⟩
    · intro i s hi hg
      have g1 := ix_nat hi
      have hi2 : i < vs.length := by omega
      have g3 := ix_nat hi2
      have g2 := get_enc Ty.enc hi
      have g4 := get_enc Ty.enc hi2
      repeat (refine awp_seq ?_)
      refine e_eval (by simp only [jA, jO, jN, seval, y27, y29, vint, TyS, TyF, g1, Int.toNat_natCast, g2, g3, g4] <;> with_reducible rfl) (by decide) ?_
      repeat (refine awp_seq ?_)
      refine e_eval (by simp only [jA, jO, jN, seval, y27, y29, vint, TyS, TyF, g1, Int.toNat_natCast, g2, g3, g4] <;> with_reducible rfl) (by decide) ?_
      repeat (refine awp_seq ?_)
      refine awp_region ?_
      refine e_take 3 (by simp only [jA, jO, jN, seval, y29, vint, TyS, TyF, g1, Int.toNat_natCast, g2, g3, g4] <;> with_reducible rfl) (by decide) ?_
      refine aops_pure (by simp only [jC, jN, seval, vint, TyS, TyF, g1, Int.toNat_natCast, g2, g3, g4] <;> with_reducible rfl) (by simp only [jC, jN, seval, vint, TyS, TyF, g1, Int.toNat_natCast, g2, g3, g4]) (by decide) (by assumption) (hf us[i] (List.getElem_mem hi) vs[i] (List.getElem_mem hi2) _) ?_
      refine e_end (by simp only [jA, jO, jN, seval, vint, TyS, TyF, g1, Int.toNat_natCast, g2, g3, g4] <;> with_reducible rfl) (by decide) ?_
      repeat (refine awp_seq ?_)
      refine awp_cond rfl (by simp only [jN, seval, vint, TyS, TyF, g1, Int.toNat_natCast, g2, g3, g4] <;> with_reducible rfl) (fun b1 => ?_) (fun b1 => ?_)
      ·
        refine awp_sel [1, 2, 15, 16, 17] (by simp only [jN, seval, vint, TyS, TyF, g1, Int.toNat_natCast, g2, g3, g4] <;> with_reducible rfl) ?_
        repeat (refine awp_seq ?_)
        refine e_eval (by simp only [jA, jO, jN, seval, vint, TyS, TyF, g1, Int.toNat_natCast, g2, g3, g4] <;> with_reducible rfl) (by decide) ?_
        repeat (refine awp_seq ?_)
        refine awp_ret ⟨.inr rfl, _, rfl, ?_⟩
        have hgf : g us[i] vs[i] = false := by simpa using b1
        have hmem : (us[i], vs[i]) ∈ us.zip vs := by
          rw [List.mem_iff_getElem]; exact ⟨i, by simp; omega, by simp⟩
        have : ((us.zip vs).all fun p => g p.1 p.2) = false := by
          rw [List.all_eq_false]; exact ⟨_, hmem, by simp [hgf]⟩
        simp [all2, this, upd_apply, PV.drop1]
      ·
        repeat (refine awp_seq ?_)
        refine awp_skip ?_
        have hgt : g us[i] vs[i] = true := by simpa using b1
        exact ⟨⟨rfl, rfl, trivial⟩, (), _, ⟨rfl, rfl, rfl, trivial⟩, rfl, all_take_succ (by simp; omega) hg (by simpa using hgt)⟩
    · intro s hg
      repeat (refine awp_seq ?_)
      refine e_eval (by simp only [jA, jO, jN, seval, vint, TyS, TyF] <;> with_reducible rfl) (by decide) ?_
      repeat (refine awp_seq ?_)
      refine awp_ret ⟨.inr rfl, _, rfl, ?_⟩
      rw [List.take_of_length_le (by simp; omega)] at hg
      simp [all2, hlen, hg, upd_apply, PV.drop1]

theorem equal_k : ∀ (k : Nat) (a b : Ty), a.size ≤ k → a.W → PC Try.prog 16 [a.enc, b.enc] (.bool (a.eqb b))
  | 0, a, b, h, _ => by cases a; simp [Ty.size] at h
  | k + 1, a, b, h, hw => by
    have ih := equalFunc a.args b.args Ty.eqb 16 Trygo16 hw.lenMax (fun u hu v _ => equal_k k u v (by have := Ty.size_arg hu; omega) (hw.arg hu))
    refine pc_of (N := 24) Try.func16 rfl rfl (by simp) (by simp [Ty.bel]) (.bool _) ?_
    repeat (refine awp_seq ?_)
    refine e_eval (by simp only [jA, jO, jN, seval, y29, vint, TyS, TyF] <;> with_reducible rfl) (by decide) ?_
    repeat (refine awp_seq ?_)
    refine awp_region ?_
    refine aops_gstart ?_
    refine g_take 17 (by simp only [jG, jO, jN, seval, y3, y27, y29, vint, TyS, TyF] <;> with_reducible rfl) (by decide) ?_
    refine aops_gpure (by simp only [jE, jN, seval, vint, TyS, TyF] <;> with_reducible rfl) (by simp only [jE, jN, seval, vint, TyS, TyF] <;> with_reducible rfl) (by simp only [jE, jN, seval, vint, TyS, TyF]) (by decide) Trygo50 (fun hc => ih _) ?_
    refine g_end (by simp only [jG, jO, jN, seval, vint, TyS, TyF] <;> with_reducible rfl) (by decide) (by repeat (first | exact Fin.base _ | with_reducible apply Fin.keep | apply Fin.drop)) ?_
    repeat (refine awp_seq ?_)
    refine awp_ret ⟨.inr rfl, _, rfl, ?_⟩
    simp [upd_apply, PV.drop1, Ty.eqb_eq, eqbs_all2, Bool.and_assoc]

theorem equal_any (a b : Ty) (hw : a.W) : PC Try.prog 16 [a.enc, b.enc] (.bool (a.eqb b)) := equal_k a.size a b (Nat.le_refl _) hw

/-- A function value over a heap: what it reads, what it answers. -/
structure Clo (P : Program) (f : FuncId) (caps : List PV) (rd : List (Nat × AObj)) (D : Ty → Prop) (g : Ty → Ty × Bool) : Prop where
  go : goFn P f = true
  bel : ∀ H : Heap, (∀ x ∈ rd, H[x.1]? = some x.2) → ∀ c ∈ caps, Bel H.length c
  sub : ∀ t, D t → ∀ u ∈ t.args, D u
  call : ∀ (H : Heap) (u : Ty), D u → (∀ x ∈ rd, H[x.1]? = some x.2) → ACalls P f (u.enc :: caps) H fun r' H' => r' = .tup [(g u).1.enc, .bool (g u).2] ∧ H' = H

theorem reads_app {rd : List (Nat × AObj)} {H : Heap} (h : ∀ x ∈ rd, H[x.1]? = some x.2) (L : Heap) : ∀ x ∈ rd, (H ++ L)[x.1]? = some x.2 := fun x hx => by
  have := h x hx
  rw [List.getElem?_append_left (len_of_get this)]; exact this

theorem map_k {f : FuncId} {caps : List PV} {rd : List (Nat × AObj)} {D : Ty → Prop} {g : Ty → Ty × Bool} (hc : Clo Try.prog f caps rd D g) :
    ∀ (k : Nat) (t : Ty) (H : Heap), t.size ≤ k → t.W → D t → (∀ x ∈ rd, H[x.1]? = some x.2) → ACalls Try.prog 51 [t.enc, .fn (.func f) [] caps] H fun r' H' => r' = (mapT g t).enc ∧ H' = H
  | 0, t, H, h, _, _, _ => by cases t; simp [Ty.size] at h
  | k + 1, t, H, h, hw, hd, hrd => by
    have hgo := hc.go
    refine keeps_of (N := 40) Try.func51 rfl rfl (by simp) (Ty.bel _ _) fun hb' => ?_
    repeat (refine awp_seq ?_)
    refine e_eval (by simp only [jA, jO, jN, seval, y29, vint, TyS, TyF] <;> with_reducible rfl) (by decide) ?_
    repeat (refine awp_seq ?_)
    refine awp_region ?_
    refine e_take 2 (by simp only [jA, jO, jN, seval, y29, vint, TyS, TyF] <;> with_reducible rfl) (by decide) ?_
    refine aops_pure (by simp only [jC, jN, seval, vint, TyS, TyF] <;> with_reducible rfl) (by simp only [jC, jN, seval, vint, TyS, TyF]) (by decide) (by assumption) (hc.call _ t hd (reads_app hrd _)) ?_
    refine e_end (by simp only [jA, jO, jN, seval, y29, vint, TyS, TyF] <;> with_reducible rfl) (by decide) ?_
    repeat (refine awp_seq ?_)
    refine e_eval (by simp only [jA, jO, jN, seval, vint, TyS, TyF] <;> with_reducible rfl) (by decide) ?_
    repeat (refine awp_seq ?_)
    refine awp_cond rfl (by simp only [jN, seval, vint, TyS, TyF] <;> with_reducible rfl) (fun b0 => ?_) (fun b0 => ?_)
    ·
      repeat (refine awp_seq ?_)
      refine e_eval (by simp only [jA, jO, jN, seval, y29, vint, TyS, TyF] <;> with_reducible rfl) (by decide) ?_
      repeat (refine awp_seq ?_)
      refine awp_ret ⟨.inr rfl, _, _, (ares_cell 4 29 rfl Tryti29 (by decide) (by simp only [jL, jN, seval, vint, TyS, TyF] <;> with_reducible rfl)), ?_, (by first | exact (List.append_nil _).symm | rfl)⟩
      simp only [TyF, mapT_eq g t, b0, if_true, d1_agg, LS]
      exact Ty.enc_drop1 _
    ·
      repeat (refine awp_seq ?_)
      refine awp_skip ?_
      repeat (refine awp_seq ?_)
      refine e_eval (by simp only [jA, jO, jN, seval, y3, y29, vint, TyS, TyF] <;> with_reducible rfl) (by decide) ?_
      refine awp_sel [1, 2, 4, 7] (by simp only [jN, seval, vint, TyS, TyF] <;> with_reducible rfl) ?_
      repeat (refine awp_seq ?_)
      refine e_eval (by simp only [jA, jO, jN, seval, y27, y29, vint, TyS, TyF] <;> with_reducible rfl) (by decide) ?_
      repeat (refine awp_seq ?_)
      refine awp_retok_row (H.length + 3) 2 3 (by simp only [jD, jO, jN, seval, vint, TyS, TyF] <;> with_reducible rfl) rfl ?_
      refine awp_forS (σ := List Ty) (t.args.length) (fun (s : List Ty) => [(1, .fn (.func f) [] caps), (4, .optr (H.length + 1) 0), (7, .optr (H.length + 3) 0), (24, .slice (t.args.map Ty.enc) .none)]) [1, 4, 7, 24] (H) (fun (s : List Ty) => [.row t.enc.cells, .row [.int .i64 0, .int .i64 0, .slice [] .full], .row (g t).1.enc.cells, .row [.int .i64 t.kind, .int .i64 t.id, .slice (s.map Ty.enc) (.tok (H.length + 4))], .buf s.length 3]) (fun (i : Nat) (s : List Ty) => s = (t.args.take i).map (mapT g)) ([]) ([]) rfl rfl rfl rfl rfl rfl rfl rfl rfl (by decide) (by decide) (by decide) (fun _ => rfl) (hw.lenMax) ⟨(by first | rfl | (simp only [jN, seval, vint, TyS, TyF] <;> first | done | with_reducible rfl)), (by first | rfl | (simp only [jN, seval, vint, TyS, TyF] <;> first | done | with_reducible rfl)), (by first | rfl | (simp only [jN, seval, vint, TyS, TyF] <;> first | done | with_reducible rfl)), (by first | rfl | (simp only [jN, seval, vint, TyS, TyF] <;> first | done | with_reducible rfl)), (by first | rfl | (simp only [jN, seval, vint, TyS, TyF] <;> first | done | with_reducible rfl)), (by first | rfl | (simp only [jN, seval, vint, TyS, TyF] <;> first | done | with_reducible rfl)), trivial⟩ (by first | rfl | (simp only [jN, seval, vint, TyS, TyF] <;> first | done | with_reducible rfl)) (by simp) (fun _ _ _ => by first | exact Nat.zero_le _ | (simp only [List.length_append]; omega)) ?_ ?_ ?_
      · intro i s hg
        simp only [TyS]
        refine ⟨by first | exact hbel_nil _ | (simp only [List.append_nil]; assumption) | (refine hbel_app' hb' (by simp) ?_; repeat (first | exact hbel_nil _ | exact trivial | exact obel_row_nil _ | (refine HBel.cons ?_ ?_) | (refine obel_row_cons (by first | exact bel_ints0 _ _ | exact bel_slice_ty _ _ | exact Ty.bel _ _ | exact bel_ty_tok _ (by simp) | exact Bel.int _ _ | exact Bel.bool _ | exact Bel.str _ | exact Bel.nilp | exact Bel.nilfn | exact Bel.optr _ _ (by simp) | exact bel_nil0 _ | exact bel_nil1 _ | exact bel_fn0 _ _ | assumption) ?_))), .cons (.fn _ _ _ (by simp) (fun c hc' => (hc.bel H hrd c hc').mono (by simp))) (by repeat (first | exact BelL.nil | refine BelL.cons (by first | exact bel_ints0 _ _ | exact bel_slice_ty _ _ | exact Ty.bel _ _ | exact bel_ty_tok _ (by simp) | exact Bel.int _ _ | exact Bel.bool _ | exact Bel.str _ | exact Bel.nilp | exact Bel.nilfn | exact Bel.optr _ _ (by simp) | exact bel_nil0 _ | exact bel_nil1 _ | exact bel_fn0 _ _ | assumption) ?_))⟩
      · intro i s hi hg
        have g1 := ix_nat hi
        have g2 := get_enc Ty.enc hi
        have hmem : t.args[i] ∈ t.args := List.getElem_mem hi
        have hlen := hw.len
        have hsl : s.length < t.args.length := by rw [hg, List.length_map, List.length_take]; omega
        have happ := app_ty (us := s) (u := mapT g t.args[i]) (id := H.length + 4) (tl := .full) (by omega)
        repeat (refine awp_seq ?_)
        refine e_eval (by simp only [jA, jO, jN, seval, y27, y29, vint, TyS, TyF, g1, Int.toNat_natCast, g2] <;> with_reducible rfl) (by decide) ?_
        repeat (refine awp_seq ?_)
        refine awp_draw 0 (by kernel_rfl) ?_
        refine d_take (bm := [0, 1, 0, 0, 12, 28, 63, 127, 255]) 4 (fresh := (H.length + 6)) (by kernel_rfl) (by simp only [jD, jO, jN, seval, y27, y29, vint, TyS, TyF, g1, Int.toNat_natCast, g2, happ] <;> with_reducible rfl) (by decide) (by decide) ?_
        refine dops_keep (bm := [0, 1, 0, 0, 12, 28, 63, 127, 255]) (rd.map Prod.fst) (by kernel_rfl) (by simp only [jC, jN, seval, vint, TyS, TyF, g1, Int.toNat_natCast, g2, happ] <;> with_reducible rfl) (by simp only [jC, jN, seval, vint, TyS, TyF, g1, Int.toNat_natCast, g2, happ]) (by decide) Trygo51 (fun H' hH' => map_k hc k t.args[i] H' (by have := Ty.size_arg hmem; omega) (hw.arg hmem) (hc.sub t hd _ hmem) (fun x hx => by rw [hH' x.1 (List.mem_map.2 ⟨x, hx, rfl⟩)]; exact reads_app hrd _ x hx)) (by simp only [jD, jO, jN, seval, vint, TyS, TyF, g1, Int.toNat_natCast, g2, happ] <;> first | done | rfl) ?_
        refine d_end (bm := [0, 1, 0, 0, 12, 28, 63, 127, 255]) (fresh := (H.length + 6)) (by kernel_rfl) (by simp only [jD, jO, jN, seval, y27, y29, vint, TyS, TyF, g1, Int.toNat_natCast, g2, happ] <;> with_reducible rfl) (by decide) ?_
        exact ⟨⟨rfl, rfl, trivial⟩, s ++ [mapT g t.args[i]], _, ⟨rfl, rfl, rfl, rfl, trivial⟩, by simp only [jN, seval, vint, TyS, TyF] <;> rfl, by rw [hg, map_take_succ _ hi]⟩
      · intro s hg
        rw [List.take_length] at hg
        repeat (refine awp_seq ?_)
        refine e_eval (by simp only [jA, jO, jN, seval, y29, vint, TyS, TyF] <;> with_reducible rfl) (by decide) ?_
        repeat (refine awp_seq ?_)
        refine awp_ret ⟨.inr rfl, _, _, (ares_cell 4 29 rfl Tryti29 (by decide) (by simp only [jL, jN, seval, vint, TyS, TyF] <;> with_reducible rfl)), ?_, (by first | exact (List.append_nil _).symm | rfl)⟩
        simp only [TyF, mapT_eq g t, b0, Bool.false_eq_true, if_false, d1_agg, LS, hg]
        exact Ty.enc_drop1 _

end Go.Abs
set_option maxRecDepth 4000
namespace Go.Abs
open Go.Proofs
theorem mapT_id {g : Ty → Ty × Bool} (hg : ∀ u, (g u).2 = false) : ∀ t, mapT g t = t
  | .mk k i us => by
    rw [mapT, if_neg (by rw [hg]; simp)]
    congr 1
    have : ∀ u ∈ us, mapT g u = u := fun u hu => mapT_id hg u
    rw [List.map_congr_left this, List.map_id'']
    intro x; rfl

theorem clone1 (H : Heap) (u : Ty) : ACalls Try.prog 69 [u.enc] H fun r' H' => r' = .tup [(Ty.mk 0 0 []).enc, .bool false] ∧ H' = H := by
  refine keeps_of (N := 5) Try.func69 rfl rfl (by simp) (.tup _ (by simp [Ty.bel, Bel.bool])) fun hb' => ?_
  repeat (refine awp_seq ?_)
  refine e_eval (by simp only [jA, jO, jN, seval, y29, vint, TyS, TyF] <;> with_reducible rfl) (by decide) ?_
  repeat (refine awp_seq ?_)
  refine e_eval (by simp only [jA, jO, jN, seval, y29, vint, TyS, TyF] <;> with_reducible rfl) (by decide) ?_
  repeat (refine awp_seq ?_)
  refine awp_ret ⟨.inr rfl, _, _, (ares_two (.cell 2 29) (.tmp 3) rfl (ares_cell1 Tryti29 (by decide) (by simp only [jL, jN, seval, vint, TyS, TyF] <;> with_reducible rfl)) (ares_tmp1 (by decide))), ?_, (by first | exact (List.append_nil _).symm | rfl)⟩
  simp only [jN, seval, vint, TyS, TyF]

theorem clone (t : Ty) (hw : t.W) : PC Try.prog 55 [t.enc] t.enc := by
  refine pc_of (N := 5) Try.func55 rfl rfl (by simp) (by simp [Ty.bel]) (Ty.bel _ _) ?_
  repeat (refine awp_seq ?_)
  refine e_eval (by simp only [jA, jO, jN, seval, y29, vint, TyS, TyF] <;> with_reducible rfl) (by decide) ?_
  repeat (refine awp_seq ?_)
  refine awp_region ?_
  refine e_take 1 (by simp only [jA, jO, jN, seval, y29, vint, TyS, TyF] <;> with_reducible rfl) (by decide) ?_
  refine aops_pure (by simp only [jC, jN, seval, vint, TyS, TyF] <;> with_reducible rfl) (by simp only [jC, jN, seval, vint, TyS, TyF]) (by decide) Trygo51 (map_k (D := fun _ => True) (rd := []) (g := fun _ => (Ty.mk 0 0 [], false)) ⟨Trygo69, by simp, by simp, fun H u _ _ => clone1 H u⟩ _ t _ (Nat.le_refl _) hw trivial (by simp)) ?_
  refine e_end (by simp only [jA, jO, jN, seval, y29, vint, TyS, TyF] <;> with_reducible rfl) (by decide) ?_
  repeat (refine awp_seq ?_)
  refine awp_ret ⟨.inr rfl, _, (ares_cell 2 29 rfl Tryti29 (by decide) (by simp only [jL, jN, seval, vint, TyS, TyF] <;> with_reducible rfl)), ?_⟩
  rw [mapT_id (fun _ => rfl)]
  exact Ty.enc_drop1 _

theorem typK (k i : Int) (us : List Ty) : PC Try.prog 26 [vint k, vint i, .slice (us.map Ty.enc) .none] (Ty.mk k i us).enc := by
  refine pc_of (N := 11) Try.func26 rfl rfl (by simp) (by simp [Bel.int, bel_slice_ty]) (Ty.bel _ _) ?_
  repeat (refine awp_seq ?_)
  refine e_eval (by simp only [jA, jO, jN, seval, y29, vint, TyS, TyF] <;> with_reducible rfl) (by decide) ?_
  repeat (refine awp_seq ?_)
  refine e_eval (by simp only [jA, jO, jN, seval, y29, vint, TyS, TyF] <;> with_reducible rfl) (by decide) ?_
  repeat (refine awp_seq ?_)
  refine awp_ret ⟨.inr rfl, _, (ares_cell 6 29 rfl Tryti29 (by decide) (by simp only [jL, jN, seval, vint, TyS, TyF] <;> with_reducible rfl)), ?_⟩
  simp only [jN, seval, vint, TyS, TyF]

theorem typeVarK (i : Int) : PC Try.prog 19 [vint i] (Ty.mk 1 i []).enc := by
  refine pc_of (N := 5) Try.func19 rfl rfl (by simp) (by simp [Bel.int]) (Ty.bel _ _) ?_
  repeat (refine awp_seq ?_)
  refine e_eval (by simp only [jA, jO, jN, seval, y29, vint, TyS, TyF] <;> with_reducible rfl) (by decide) ?_
  repeat (refine awp_seq ?_)
  refine awp_region ?_
  refine e_take 1 (by simp only [jA, jO, jN, seval, vint, TyS, TyF] <;> with_reducible rfl) (by decide) ?_
  refine aops_pure (by simp only [jC, jN, seval, vint, TyS, TyF] <;> with_reducible rfl) (by simp only [jC, jN, seval, vint, TyS, TyF]) (by decide) Trygo26 (typK 1 _ [] _) ?_
  refine e_end (by simp only [jA, jO, jN, seval, y29, vint, TyS, TyF] <;> with_reducible rfl) (by decide) ?_
  repeat (refine awp_seq ?_)
  refine awp_ret ⟨.inr rfl, _, (ares_cell 2 29 rfl Tryti29 (by decide) (by simp only [jL, jN, seval, vint, TyS, TyF] <;> with_reducible rfl)), ?_⟩
  simp only [jN, seval, vint, TyS, TyF]

theorem intTypeK : PC Try.prog 46 [] (Ty.mk 3 0 []).enc := by
  refine pc_of (N := 2) Try.func46 rfl rfl (by simp) (by simp) (Ty.bel _ _) ?_
  repeat (refine awp_seq ?_)
  refine e_eval (by simp only [jA, jO, jN, seval, y29, vint, TyS, TyF] <;> with_reducible rfl) (by decide) ?_
  repeat (refine awp_seq ?_)
  refine awp_region ?_
  refine aops_pure (by simp only [jC, jN, seval, vint, TyS, TyF] <;> with_reducible rfl) (by simp only [jC, jN, seval, vint, TyS, TyF]) (by decide) Trygo26 (typK 3 0 [] _) ?_
  refine e_end (by simp only [jA, jO, jN, seval, y29, vint, TyS, TyF] <;> with_reducible rfl) (by decide) ?_
  repeat (refine awp_seq ?_)
  refine awp_ret ⟨.inr rfl, _, (ares_cell 0 29 rfl Tryti29 (by decide) (by simp only [jL, jN, seval, vint, TyS, TyF] <;> with_reducible rfl)), ?_⟩
  simp only [jN, seval, vint, TyS, TyF]

theorem typL (k i : Int) (us : List Ty) : PC Try.prog 27 [vint k, vint i, .slice (us.map Ty.enc) .none] (Ty.mk k i us).enc := by
  refine pc_of (N := 11) Try.func27 rfl rfl (by simp) (by simp [Bel.int, bel_slice_ty]) (Ty.bel _ _) ?_
  repeat (refine awp_seq ?_)
  refine e_eval (by simp only [jA, jO, jN, seval, y29, vint, TyS, TyF] <;> with_reducible rfl) (by decide) ?_
  repeat (refine awp_seq ?_)
  refine e_eval (by simp only [jA, jO, jN, seval, y29, vint, TyS, TyF] <;> with_reducible rfl) (by decide) ?_
  repeat (refine awp_seq ?_)
  refine awp_ret ⟨.inr rfl, _, (ares_cell 6 29 rfl Tryti29 (by decide) (by simp only [jL, jN, seval, vint, TyS, TyF] <;> with_reducible rfl)), ?_⟩
  simp only [jN, seval, vint, TyS, TyF]

theorem typeVarL (i : Int) : PC Try.prog 28 [vint i] (Ty.mk 1 i []).enc := by
  refine pc_of (N := 5) Try.func28 rfl rfl (by simp) (by simp [Bel.int]) (Ty.bel _ _) ?_
  repeat (refine awp_seq ?_)
  refine e_eval (by simp only [jA, jO, jN, seval, y29, vint, TyS, TyF] <;> with_reducible rfl) (by decide) ?_
  repeat (refine awp_seq ?_)
  refine awp_region ?_
  refine e_take 1 (by simp only [jA, jO, jN, seval, vint, TyS, TyF] <;> with_reducible rfl) (by decide) ?_
  refine aops_pure (by simp only [jC, jN, seval, vint, TyS, TyF] <;> with_reducible rfl) (by simp only [jC, jN, seval, vint, TyS, TyF]) (by decide) Trygo27 (typL 1 _ [] _) ?_
  refine e_end (by simp only [jA, jO, jN, seval, y29, vint, TyS, TyF] <;> with_reducible rfl) (by decide) ?_
  repeat (refine awp_seq ?_)
  refine awp_ret ⟨.inr rfl, _, (ares_cell 2 29 rfl Tryti29 (by decide) (by simp only [jL, jN, seval, vint, TyS, TyF] <;> with_reducible rfl)), ?_⟩
  simp only [jN, seval, vint, TyS, TyF]

theorem intTypeL : PC Try.prog 29 [] (Ty.mk 3 0 []).enc := by
  refine pc_of (N := 2) Try.func29 rfl rfl (by simp) (by simp) (Ty.bel _ _) ?_
  repeat (refine awp_seq ?_)
  refine e_eval (by simp only [jA, jO, jN, seval, y29, vint, TyS, TyF] <;> with_reducible rfl) (by decide) ?_
  repeat (refine awp_seq ?_)
  refine awp_region ?_
  refine aops_pure (by simp only [jC, jN, seval, vint, TyS, TyF] <;> with_reducible rfl) (by simp only [jC, jN, seval, vint, TyS, TyF]) (by decide) Trygo27 (typL 3 0 [] _) ?_
  refine e_end (by simp only [jA, jO, jN, seval, y29, vint, TyS, TyF] <;> with_reducible rfl) (by decide) ?_
  repeat (refine awp_seq ?_)
  refine awp_ret ⟨.inr rfl, _, (ares_cell 0 29 rfl Tryti29 (by decide) (by simp only [jL, jN, seval, vint, TyS, TyF] <;> with_reducible rfl)), ?_⟩
  simp only [jN, seval, vint, TyS, TyF]

end Go.Abs
set_option maxRecDepth 4000
namespace Go.Abs
open Go.Proofs

theorem containsInt (xs : List Int) (n : Int) (hx : xs.length ≤ maxLen) : PC Try.prog 72 [.slice (xs.map vint) .none, vint n] (.bool (xs.any fun x => decide (n = x))) := by
  refine pc_of (N := 9) Try.func72 rfl rfl (by simp) (by simp [bel_ints0, Bel.int]) (.bool _) ?_
  repeat (refine awp_seq ?_)
  refine e_eval (by simp only [jA, jO, jN, seval, vint, TyS, TyF, BdS] <;> with_reducible rfl) (by decide) ?_
  repeat (refine awp_seq ?_)
  refine awp_region ?_
  refine e_take 2 (by simp only [jA, jO, jN, seval, vint, TyS, TyF, BdS] <;> with_reducible rfl) (by decide) ?_
  refine aops_pure (by simp only [jC, jN, seval, vint, TyS, TyF, BdS] <;> with_reducible rfl) (by simp only [jC, jN, seval, vint, TyS, TyF, BdS]) (by decide) Trygo85 (index xs n hx _) ?_
  refine e_end (by simp only [jA, jO, jN, seval, y3, vint, TyS, TyF, BdS] <;> with_reducible rfl) (by decide) ?_
  repeat (refine awp_seq ?_)
  refine awp_ret ⟨.inr rfl, _, rfl, ?_⟩
  rw [← idxI_nonneg]; rfl

theorem allOK_c (us : List Int) (ha : us.length ≤ maxLen) : PC Try.prog 20 [.slice (us.map vint) .none] (.bool (us.all fun c => decide (c = 0))) := by
  refine pc_of (N := 14) Try.func20 rfl rfl (by simp) (by simp [bel_ints0]) (.bool _) ?_
  repeat (refine awp_seq ?_)
  refine e_eval (by simp only [jA, jO, jN, seval, vint, TyS, TyF, BdS] <;> with_reducible rfl) (by decide) ?_
  repeat (refine awp_seq ?_)
  refine e_eval (by simp only [jA, jO, jN, seval, y32, y75, vint, TyS, TyF, BdS] <;> with_reducible rfl) (by decide) ?_
  repeat (refine awp_seq ?_)
  refine awp_forS (σ := Unit) (us.length) (fun (s : Unit) => [(5, .slice (us.map vint) .none)]) [5] ([]) (fun (s : Unit) => []) (fun (i : Nat) (s : Unit) => (us.take i).all (fun c => decide (c = 0)) = true) (()) ([]) rfl rfl rfl rfl rfl rfl rfl rfl rfl (by decide) (by decide) (by decide) (fun _ => rfl) (ha) ⟨(by first | rfl | (simp only [jN, seval, vint, TyS, TyF, BdS] <;> first | done | with_reducible rfl)), (by first | rfl | (simp only [jN, seval, vint, TyS, TyF, BdS] <;> first | done | with_reducible rfl)), (by first | rfl | (simp only [jN, seval, vint, TyS, TyF, BdS] <;> first | done | with_reducible rfl)), trivial⟩ (by first | rfl | (simp only [jN, seval, vint, TyS, TyF, BdS] <;> first | done | with_reducible rfl)) (by simp) (fun _ _ _ => by first | exact Nat.zero_le _ | (simp only [List.length_append]; omega)) ?_ ?_ ?_
  · exact fun i s hg => ⟨by first | exact hbel_nil _ | (simp only [List.append_nil]; assumption) | (refine hbel_app' hb' (by simp) ?_; repeat (first | exact hbel_nil _ | exact trivial | exact obel_row_nil _ | (refine HBel.cons ?_ ?_) | (refine obel_row_cons (by first | exact bel_Bd _ _ | exact Bd.bel _ _ | exact bel_ints0 _ _ | exact bel_slice_ty _ _ | exact Ty.bel _ _ | exact bel_ty_tok _ (by simp) | exact Bel.int _ _ | exact Bel.bool _ | exact Bel.str _ | exact Bel.nilp | exact Bel.nilfn | exact Bel.optr _ _ (by simp) | exact bel_nil0 _ | exact bel_nil1 _ | exact bel_fn0 _ _ | assumption) ?_))), by repeat (first | exact BelL.nil | refine BelL.cons (by first | exact bel_Bd _ _ | exact Bd.bel _ _ | exact bel_ints0 _ _ | exact bel_slice_ty _ _ | exact Ty.bel _ _ | exact bel_ty_tok _ (by simp) | exact Bel.int _ _ | exact Bel.bool _ | exact Bel.str _ | exact Bel.nilp | exact Bel.nilfn | exact Bel.optr _ _ (by simp) | exact bel_nil0 _ | exact bel_nil1 _ | exact bel_fn0 _ _ | assumption) ?_)⟩
  · intro i s hi hg
    have g1 := ix_nat hi
    have g2 := get_enc vint hi
    repeat (refine awp_seq ?_)
    refine e_eval (by simp only [jA, jO, jN, seval, y32, y75, vint, TyS, TyF, BdS, g1, Int.toNat_natCast, g2] <;> with_reducible rfl) (by decide) ?_
    repeat (refine awp_seq ?_)
    refine e_eval (by simp only [jA, jO, jN, seval, y32, vint, TyS, TyF, BdS, g1, Int.toNat_natCast, g2] <;> with_reducible rfl) (by decide) ?_
    repeat (refine awp_seq ?_)
    refine awp_cond rfl (by simp only [jN, seval, vint, TyS, TyF, BdS, g1, Int.toNat_natCast, g2] <;> with_reducible rfl) (fun b0 => ?_) (fun b0 => ?_)
    ·
      repeat (refine awp_seq ?_)
      refine e_eval (by simp only [jA, jO, jN, seval, vint, TyS, TyF, BdS, g1, Int.toNat_natCast, g2] <;> with_reducible rfl) (by decide) ?_
      repeat (refine awp_seq ?_)
      refine awp_ret ⟨.inr rfl, _, rfl, ?_⟩
      have : us[i] ≠ 0 := by simpa using b0
      have : (us.all fun c => decide (c = 0)) = false := by rw [List.all_eq_false]; exact ⟨_, List.getElem_mem hi, by simpa using this⟩
      simp [this, upd_apply, PV.drop1]
    ·
      repeat (refine awp_seq ?_)
      refine awp_skip ?_
      exact ⟨⟨rfl, rfl, trivial⟩, (), _, ⟨rfl, trivial⟩, rfl, all_take_succ hi hg (by simpa using b0)⟩
  · intro s hg
    repeat (refine awp_seq ?_)
    refine e_eval (by simp only [jA, jO, jN, seval, vint, TyS, TyF, BdS] <;> with_reducible rfl) (by decide) ?_
    repeat (refine awp_seq ?_)
    refine awp_ret ⟨.inr rfl, _, rfl, ?_⟩
    rw [List.take_length] at hg
    simp [hg, upd_apply, PV.drop1]

theorem measure_k : ∀ (k : Nat) (t : Ty) (L : Int), t.size ≤ k → t.W → 0 ≤ L → L ≤ 1048576 → PC Try.prog 56 [t.enc, vint L] (.tup [vint (measT t L).1, vint (measT t L).2])
  | 0, t, L, h, _, _, _ => by cases t; simp [Ty.size] at h
  | k + 1, t, L, h, hw, hL0, hL => by
    have hbd := measT_bd t L hL0
    refine pc_of (N := 38) Try.func56 rfl rfl (by simp) (by simp [Ty.bel, Bel.int]) (.tup _ (by simp [Bel.int])) ?_
    repeat (refine awp_seq ?_)
    refine e_eval (by simp only [jA, jO, jN, seval, y29, vint, TyS, TyF, BdS] <;> with_reducible rfl) (by decide) ?_
    repeat (refine awp_seq ?_)
    refine e_eval (by simp only [jA, jO, jN, seval, vint, TyS, TyF, BdS] <;> with_reducible rfl) (by decide) ?_
    repeat (refine awp_seq ?_)
    refine e_eval (by simp only [jA, jO, jN, seval, y27, y29, vint, TyS, TyF, BdS] <;> with_reducible rfl) (by decide) ?_
    repeat (refine awp_seq ?_)
    refine awp_forS (σ := Int × Int) (t.args.length) (fun (q : Int × Int) => [(1, vint L), (4, vint q.1), (5, vint q.2), (11, .slice (t.args.map Ty.enc) .none)]) [1, 4, 5, 11] ([]) (fun (q : Int × Int) => []) (fun (i : Nat) (q : Int × Int) => (1 ≤ q.1 ∧ q.1 ≤ L + 1 ∧ 0 ≤ q.2 ∧ q.2 ≤ L) ∧ measL ((t.args.map measT).drop i) L q = measL (t.args.map measT) L (1, 0)) ((1, 0)) (_) rfl rfl rfl rfl rfl rfl rfl rfl rfl (by decide) (by decide) (by decide) (fun _ => rfl) (hw.lenMax) ⟨(by first | rfl | (simp only [jN, seval, vint, TyS, TyF, BdS] <;> first | done | with_reducible rfl)), (by first | rfl | (simp only [jN, seval, vint, TyS, TyF, BdS] <;> first | done | with_reducible rfl)), (by first | rfl | (simp only [jN, seval, vint, TyS, TyF, BdS] <;> first | done | with_reducible rfl)), (by first | rfl | (simp only [jN, seval, vint, TyS, TyF, BdS] <;> first | done | with_reducible rfl)), (by first | rfl | (simp only [jN, seval, vint, TyS, TyF, BdS] <;> first | done | with_reducible rfl)), (by first | rfl | (simp only [jN, seval, vint, TyS, TyF, BdS] <;> first | done | with_reducible rfl)), trivial⟩ (by first | rfl | (simp only [jN, seval, vint, TyS, TyF, BdS] <;> first | done | with_reducible rfl)) (⟨by simp; omega, rfl⟩) (fun _ _ _ => by first | exact Nat.zero_le _ | (simp only [List.length_append]; omega)) ?_ ?_ ?_
    · exact fun i s hg => ⟨by first | exact hbel_nil _ | (simp only [List.append_nil]; assumption) | (refine hbel_app' hb' (by simp) ?_; repeat (first | exact hbel_nil _ | exact trivial | exact obel_row_nil _ | (refine HBel.cons ?_ ?_) | (refine obel_row_cons (by first | exact bel_Bd _ _ | exact Bd.bel _ _ | exact bel_ints0 _ _ | exact bel_slice_ty _ _ | exact Ty.bel _ _ | exact bel_ty_tok _ (by simp) | exact Bel.int _ _ | exact Bel.bool _ | exact Bel.str _ | exact Bel.nilp | exact Bel.nilfn | exact Bel.optr _ _ (by simp) | exact bel_nil0 _ | exact bel_nil1 _ | exact bel_fn0 _ _ | assumption) ?_))), by repeat (first | exact BelL.nil | refine BelL.cons (by first | exact bel_Bd _ _ | exact Bd.bel _ _ | exact bel_ints0 _ _ | exact bel_slice_ty _ _ | exact Ty.bel _ _ | exact bel_ty_tok _ (by simp) | exact Bel.int _ _ | exact Bel.bool _ | exact Bel.str _ | exact Bel.nilp | exact Bel.nilfn | exact Bel.optr _ _ (by simp) | exact bel_nil0 _ | exact bel_nil1 _ | exact bel_fn0 _ _ | assumption) ?_)⟩
    · intro i q hi hg
      obtain ⟨⟨q1, q2, q3, q4⟩, hg⟩ := hg
      have g1 := ix_nat hi
      have g2 := get_enc Ty.enc hi
      have hmem : t.args[i] ∈ t.args := List.getElem_mem hi
      rw [List.drop_eq_getElem_cons (by simpa using hi), List.getElem_map, measL_cons] at hg
      repeat (refine awp_seq ?_)
      refine e_eval (by simp only [jA, jO, jN, seval, y27, y29, vint, TyS, TyF, BdS, g1, g2, Int.toNat_natCast] <;> with_reducible rfl) (by decide) ?_
      repeat (refine awp_seq ?_)
      refine e_eval (by simp only [jA, jO, jN, seval, y3, vint, TyS, TyF, BdS, g1, g2, Int.toNat_natCast] <;> with_reducible rfl) (by decide) ?_
      repeat (refine awp_seq ?_)
      refine awp_cond rfl (by simp only [jN, seval, vint, TyS, TyF, BdS, g1, g2, Int.toNat_natCast] <;> with_reducible rfl) (fun b0 => ?_) (fun b0 => ?_)
      ·
        rw [if_pos b0] at hg
        have hwr : IntKind.i64.wrap (q.2 + 1) = q.2 + 1 := wrap_id (by omega) (by omega)
        repeat (refine awp_seq ?_)
        refine awp_exit ?_
        simp only [thenQ, blockQ, reduceIte, Nat.reduceEqDiff, Nat.succ_ne_self, if_true, if_false]
        repeat (refine awp_seq ?_)
        refine e_eval (by simp only [jA, jO, jN, seval, y3, vint, TyS, TyF, BdS, g1, g2, Int.toNat_natCast, hwr] <;> with_reducible rfl) (by decide) ?_
        repeat (refine awp_seq ?_)
        refine awp_ret ⟨.inr rfl, _, (ares_two (.tmp 4) (.tmp 5) rfl (ares_tmp1 (by decide)) (ares_tmp1 (by decide))), ?_⟩
        rw [measT_eq t L, ← hg]; rfl
      ·
        rw [if_neg (by rw [b0]; simp)] at hg
        have hle : q.1 ≤ L := by have : ¬ q.1 > L := of_decide_eq_false b0; omega
        have hwr1 : IntKind.i64.wrap (L - q.1) = L - q.1 := wrap_id (by omega) (by omega)
        have hb2 := measT_bd t.args[i] (L - q.1) (by omega)
        have hwr2 : IntKind.i64.wrap (q.1 + (measT t.args[i] (L - q.1)).1) = q.1 + (measT t.args[i] (L - q.1)).1 := wrap_id (by omega) (by omega)
        repeat (refine awp_seq ?_)
        refine awp_skip ?_
        repeat (refine awp_seq ?_)
        refine awp_region ?_
        refine e_take 4 (by simp only [jA, jO, jN, seval, y3, y29, vint, TyS, TyF, BdS, g1, g2, Int.toNat_natCast, hwr1] <;> with_reducible rfl) (by decide) ?_
        refine aops_pure (by simp only [jC, jN, seval, vint, TyS, TyF, BdS, g1, g2, Int.toNat_natCast, hwr1] <;> with_reducible rfl) (by simp only [jC, jN, seval, vint, TyS, TyF, BdS, g1, g2, Int.toNat_natCast, hwr1]) (by decide) Trygo56 (measure_k k t.args[i] (L - q.1) (by have := Ty.size_arg hmem; omega) (hw.arg hmem) (by omega) (by omega) _) ?_
        refine e_end (by simp only [jA, jO, jN, seval, vint, TyS, TyF, BdS, g1, g2, Int.toNat_natCast, hwr1] <;> with_reducible rfl) (by decide) ?_
        refine awp_sel [1, 4, 5, 8, 9, 11, 12, 13] (by simp only [jN, seval, vint, TyS, TyF, BdS, g1, g2, Int.toNat_natCast] <;> with_reducible rfl) ?_
        repeat (refine awp_seq ?_)
        refine e_eval (by simp only [jA, jO, jN, seval, y3, vint, TyS, TyF, BdS, g1, g2, Int.toNat_natCast, hwr2] <;> with_reducible rfl) (by decide) ?_
        exact ⟨⟨rfl, rfl, trivial⟩, (q.1 + (measT t.args[i] (L - q.1)).1, max q.2 (measT t.args[i] (L - q.1)).2), _, ⟨rfl, rfl, rfl, rfl, trivial⟩, rfl, ⟨by simp only; omega, by simp only; omega, by simp only; omega, by simp only; omega⟩, hg⟩
    · intro q hg
      obtain ⟨⟨q1, q2, q3, q4⟩, hg⟩ := hg
      rw [List.drop_eq_nil_of_le (by simp), measL_nil] at hg
      have hwr : IntKind.i64.wrap (q.2 + 1) = q.2 + 1 := wrap_id (by omega) (by omega)
      repeat (refine awp_seq ?_)
      refine e_eval (by simp only [jA, jO, jN, seval, y3, vint, TyS, TyF, BdS, hwr] <;> with_reducible rfl) (by decide) ?_
      repeat (refine awp_seq ?_)
      refine awp_ret ⟨.inr rfl, _, (ares_two (.tmp 4) (.tmp 5) rfl (ares_tmp1 (by decide)) (ares_tmp1 (by decide))), ?_⟩
      rw [measT_eq t L, ← hg]; rfl

theorem nodeWellFormed (t : Ty) : PC Try.prog 70 [t.enc] (.bool (nwf t)) := by
  refine pc_of (N := 69) Try.func70 rfl rfl (by simp) (by simp [Ty.bel]) (.bool _) ?_
  repeat (refine awp_seq ?_)
  refine e_eval (by simp only [jA, jO, jN, seval, y29, vint, TyS, TyF, BdS, Int.cast_ofNat_Int] <;> with_reducible rfl) (by decide) ?_
  repeat (refine awp_seq ?_)
  refine e_eval (by simp only [jA, jO, jN, seval, y27, y29, vint, TyS, TyF, BdS, Int.cast_ofNat_Int] <;> with_reducible rfl) (by decide) ?_
  repeat (refine awp_seq ?_)
  refine e_eval (by simp only [jA, jO, jN, seval, y3, y29, vint, TyS, TyF, BdS, Int.cast_ofNat_Int] <;> with_reducible rfl) (by decide) ?_
  repeat (refine awp_seq ?_)
  refine awp_block ?_
  repeat (refine awp_seq ?_)
  refine e_eval (by simp only [jA, jO, jN, seval, y3, vint, TyS, TyF, BdS, Int.cast_ofNat_Int] <;> with_reducible rfl) (by decide) ?_
  repeat (refine awp_seq ?_)
  refine awp_cond rfl (by simp only [jN, seval, vint, TyS, TyF, BdS, Int.cast_ofNat_Int] <;> with_reducible rfl) (fun b0 => ?_) (fun b0 => ?_)
  ·
    repeat (refine awp_seq ?_)
    refine awp_skip ?_
    repeat (refine awp_seq ?_)
    refine awp_cond rfl (by simp only [jN, seval, vint, TyS, TyF, BdS, Int.cast_ofNat_Int] <;> with_reducible rfl) (fun b1 => ?_) (fun b1 => ?_)
    ·
      repeat (refine awp_seq ?_)
      refine g_eval (by simp only [jG, jO, jN, seval, y3, y29, vint, TyS, TyF, BdS, Int.cast_ofNat_Int] <;> with_reducible rfl) (by decide) (by repeat (first | exact Fin.base _ | with_reducible apply Fin.keep | apply Fin.drop)) ?_
      repeat (refine awp_seq ?_)
      refine awp_ret ⟨.inr rfl, _, rfl, ?_⟩
      simp only [jN, seval, vint, TyS, TyF, BdS]
      simp_all [nwf]
    ·
      repeat (refine awp_seq ?_)
      refine e_eval (by simp only [jA, jO, jN, seval, y3, vint, TyS, TyF, BdS, Int.cast_ofNat_Int] <;> with_reducible rfl) (by decide) ?_
      repeat (refine awp_seq ?_)
      refine awp_cond rfl (by simp only [jN, seval, vint, TyS, TyF, BdS, Int.cast_ofNat_Int] <;> with_reducible rfl) (fun b2 => ?_) (fun b2 => ?_)
      ·
        repeat (refine awp_seq ?_)
        refine awp_skip ?_
        repeat (refine awp_seq ?_)
        refine awp_cond rfl (by simp only [jN, seval, vint, TyS, TyF, BdS, Int.cast_ofNat_Int] <;> with_reducible rfl) (fun b3 => ?_) (fun b3 => ?_)
        ·
          repeat (refine awp_seq ?_)
          refine g_eval (by simp only [jG, jO, jN, seval, y3, y29, vint, TyS, TyF, BdS, Int.cast_ofNat_Int] <;> with_reducible rfl) (by decide) (by repeat (first | exact Fin.base _ | with_reducible apply Fin.keep | apply Fin.drop)) ?_
          repeat (refine awp_seq ?_)
          refine awp_ret ⟨.inr rfl, _, rfl, ?_⟩
          simp only [jN, seval, vint, TyS, TyF, BdS]
          simp_all [nwf]
        ·
          repeat (refine awp_seq ?_)
          refine e_eval (by simp only [jA, jO, jN, seval, y3, vint, TyS, TyF, BdS, Int.cast_ofNat_Int] <;> with_reducible rfl) (by decide) ?_
          repeat (refine awp_seq ?_)
          refine awp_cond rfl (by simp only [jN, seval, vint, TyS, TyF, BdS, Int.cast_ofNat_Int] <;> with_reducible rfl) (fun b4 => ?_) (fun b4 => ?_)
          ·
            repeat (refine awp_seq ?_)
            refine e_eval (by simp only [jA, jO, jN, seval, y3, y29, vint, TyS, TyF, BdS, Int.cast_ofNat_Int] <;> with_reducible rfl) (by decide) ?_
            repeat (refine awp_seq ?_)
            refine awp_ret ⟨.inr rfl, _, rfl, ?_⟩
            simp only [jN, seval, vint, TyS, TyF, BdS]
            simp_all [nwf]
          ·
            repeat (refine awp_seq ?_)
            refine e_eval (by simp only [jA, jO, jN, seval, y3, vint, TyS, TyF, BdS, Int.cast_ofNat_Int] <;> with_reducible rfl) (by decide) ?_
            repeat (refine awp_seq ?_)
            refine awp_cond rfl (by simp only [jN, seval, vint, TyS, TyF, BdS, Int.cast_ofNat_Int] <;> with_reducible rfl) (fun b5 => ?_) (fun b5 => ?_)
            ·
              refine awp_sel [1, 3] (by simp only [jN, seval, vint, TyS, TyF, BdS, Int.cast_ofNat_Int] <;> with_reducible rfl) ?_
              repeat (refine awp_seq ?_)
              refine g_eval (by simp only [jG, jO, jN, seval, y3, y29, vint, TyS, TyF, BdS, Int.cast_ofNat_Int] <;> with_reducible rfl) (by decide) (by repeat (first | exact Fin.base _ | with_reducible apply Fin.keep | apply Fin.drop)) ?_
              repeat (refine awp_seq ?_)
              refine awp_ret ⟨.inr rfl, _, rfl, ?_⟩
              simp only [jN, seval, vint, TyS, TyF, BdS]
              simp_all [nwf]
            ·
              refine awp_sel [1, 3, 8] (by simp only [jN, seval, vint, TyS, TyF, BdS, Int.cast_ofNat_Int] <;> with_reducible rfl) ?_
              repeat (refine awp_seq ?_)
              refine e_eval (by simp only [jA, jO, jN, seval, y3, vint, TyS, TyF, BdS, Int.cast_ofNat_Int] <;> with_reducible rfl) (by decide) ?_
              repeat (refine awp_seq ?_)
              refine awp_cond rfl (by simp only [jN, seval, vint, TyS, TyF, BdS, Int.cast_ofNat_Int] <;> with_reducible rfl) (fun b6 => ?_) (fun b6 => ?_)
              ·
                repeat (refine awp_seq ?_)
                refine g_eval (by simp only [jG, jO, jN, seval, y3, y29, vint, TyS, TyF, BdS, Int.cast_ofNat_Int] <;> with_reducible rfl) (by decide) (by repeat (first | exact Fin.base _ | with_reducible apply Fin.keep | apply Fin.drop)) ?_
                repeat (refine awp_seq ?_)
                refine awp_ret ⟨.inr rfl, _, rfl, ?_⟩
                simp only [jN, seval, vint, TyS, TyF, BdS]
                simp_all [nwf]
              ·
                repeat (refine awp_seq ?_)
                refine e_eval (by simp only [jA, jO, jN, seval, y3, vint, TyS, TyF, BdS, Int.cast_ofNat_Int] <;> with_reducible rfl) (by decide) ?_
                repeat (refine awp_seq ?_)
                refine awp_cond rfl (by simp only [jN, seval, vint, TyS, TyF, BdS, Int.cast_ofNat_Int] <;> with_reducible rfl) (fun b7 => ?_) (fun b7 => ?_)
                ·
                  repeat (refine awp_seq ?_)
                  refine g_eval (by simp only [jG, jO, jN, seval, y3, y29, vint, TyS, TyF, BdS, Int.cast_ofNat_Int] <;> with_reducible rfl) (by decide) (by repeat (first | exact Fin.base _ | with_reducible apply Fin.keep | apply Fin.drop)) ?_
                  repeat (refine awp_seq ?_)
                  refine awp_ret ⟨.inr rfl, _, rfl, ?_⟩
                  simp only [jN, seval, vint, TyS, TyF, BdS]
                  simp_all [nwf]
                ·
                  repeat (refine awp_seq ?_)
                  refine awp_skip ?_
                  repeat (refine awp_seq ?_)
                  refine e_eval (by simp only [jA, jO, jN, seval, vint, TyS, TyF, BdS, Int.cast_ofNat_Int] <;> with_reducible rfl) (by decide) ?_
                  repeat (refine awp_seq ?_)
                  refine awp_ret ⟨.inr rfl, _, rfl, ?_⟩
                  simp only [jN, seval, vint, TyS, TyF, BdS]
                  simp_all [nwf]
      ·
        repeat (refine awp_seq ?_)
        refine e_eval (by simp only [jA, jO, jN, seval, y3, vint, TyS, TyF, BdS, Int.cast_ofNat_Int] <;> with_reducible rfl) (by decide) ?_
        repeat (refine awp_seq ?_)
        refine awp_cond rfl (by simp only [jN, seval, vint, TyS, TyF, BdS, Int.cast_ofNat_Int] <;> with_reducible rfl) (fun b8 => ?_) (fun b8 => ?_)
        ·
          repeat (refine awp_seq ?_)
          refine g_eval (by simp only [jG, jO, jN, seval, y3, y29, vint, TyS, TyF, BdS, Int.cast_ofNat_Int] <;> with_reducible rfl) (by decide) (by repeat (first | exact Fin.base _ | with_reducible apply Fin.keep | apply Fin.drop)) ?_
          repeat (refine awp_seq ?_)
          refine awp_ret ⟨.inr rfl, _, rfl, ?_⟩
          simp only [jN, seval, vint, TyS, TyF, BdS]
          simp_all [nwf]
        ·
          repeat (refine awp_seq ?_)
          refine e_eval (by simp only [jA, jO, jN, seval, y3, vint, TyS, TyF, BdS, Int.cast_ofNat_Int] <;> with_reducible rfl) (by decide) ?_
          repeat (refine awp_seq ?_)
          refine awp_cond rfl (by simp only [jN, seval, vint, TyS, TyF, BdS, Int.cast_ofNat_Int] <;> with_reducible rfl) (fun b9 => ?_) (fun b9 => ?_)
          ·
            refine awp_sel [1] (by simp only [jN, seval, vint, TyS, TyF, BdS, Int.cast_ofNat_Int] <;> with_reducible rfl) ?_
            repeat (refine awp_seq ?_)
            refine e_eval (by simp only [jA, jO, jN, seval, y3, y29, vint, TyS, TyF, BdS, Int.cast_ofNat_Int] <;> with_reducible rfl) (by decide) ?_
            repeat (refine awp_seq ?_)
            refine awp_ret ⟨.inr rfl, _, rfl, ?_⟩
            simp only [jN, seval, vint, TyS, TyF, BdS]
            simp_all [nwf]
          ·
            refine awp_sel [1, 3, 8] (by simp only [jN, seval, vint, TyS, TyF, BdS, Int.cast_ofNat_Int] <;> with_reducible rfl) ?_
            repeat (refine awp_seq ?_)
            refine e_eval (by simp only [jA, jO, jN, seval, y3, vint, TyS, TyF, BdS, Int.cast_ofNat_Int] <;> with_reducible rfl) (by decide) ?_
            repeat (refine awp_seq ?_)
            refine awp_cond rfl (by simp only [jN, seval, vint, TyS, TyF, BdS, Int.cast_ofNat_Int] <;> with_reducible rfl) (fun b10 => ?_) (fun b10 => ?_)
            ·
              repeat (refine awp_seq ?_)
              refine g_eval (by simp only [jG, jO, jN, seval, y3, y29, vint, TyS, TyF, BdS, Int.cast_ofNat_Int] <;> with_reducible rfl) (by decide) (by repeat (first | exact Fin.base _ | with_reducible apply Fin.keep | apply Fin.drop)) ?_
              repeat (refine awp_seq ?_)
              refine awp_ret ⟨.inr rfl, _, rfl, ?_⟩
              simp only [jN, seval, vint, TyS, TyF, BdS]
              simp_all [nwf]
            ·
              repeat (refine awp_seq ?_)
              refine e_eval (by simp only [jA, jO, jN, seval, y3, vint, TyS, TyF, BdS, Int.cast_ofNat_Int] <;> with_reducible rfl) (by decide) ?_
              repeat (refine awp_seq ?_)
              refine awp_cond rfl (by simp only [jN, seval, vint, TyS, TyF, BdS, Int.cast_ofNat_Int] <;> with_reducible rfl) (fun b11 => ?_) (fun b11 => ?_)
              ·
                repeat (refine awp_seq ?_)
                refine g_eval (by simp only [jG, jO, jN, seval, y3, y29, vint, TyS, TyF, BdS, Int.cast_ofNat_Int] <;> with_reducible rfl) (by decide) (by repeat (first | exact Fin.base _ | with_reducible apply Fin.keep | apply Fin.drop)) ?_
                repeat (refine awp_seq ?_)
                refine awp_ret ⟨.inr rfl, _, rfl, ?_⟩
                simp only [jN, seval, vint, TyS, TyF, BdS]
                simp_all [nwf]
              ·
                repeat (refine awp_seq ?_)
                refine e_eval (by simp only [jA, jO, jN, seval, y3, vint, TyS, TyF, BdS, Int.cast_ofNat_Int] <;> with_reducible rfl) (by decide) ?_
                repeat (refine awp_seq ?_)
                refine awp_cond rfl (by simp only [jN, seval, vint, TyS, TyF, BdS, Int.cast_ofNat_Int] <;> with_reducible rfl) (fun b12 => ?_) (fun b12 => ?_)
                ·
                  repeat (refine awp_seq ?_)
                  refine g_eval (by simp only [jG, jO, jN, seval, y3, y29, vint, TyS, TyF, BdS, Int.cast_ofNat_Int] <;> with_reducible rfl) (by decide) (by repeat (first | exact Fin.base _ | with_reducible apply Fin.keep | apply Fin.drop)) ?_
                  repeat (refine awp_seq ?_)
                  refine awp_ret ⟨.inr rfl, _, rfl, ?_⟩
                  simp only [jN, seval, vint, TyS, TyF, BdS]
                  simp_all [nwf]
                ·
                  repeat (refine awp_seq ?_)
                  refine awp_skip ?_
                  repeat (refine awp_seq ?_)
                  refine e_eval (by simp only [jA, jO, jN, seval, vint, TyS, TyF, BdS, Int.cast_ofNat_Int] <;> with_reducible rfl) (by decide) ?_
                  repeat (refine awp_seq ?_)
                  refine awp_ret ⟨.inr rfl, _, rfl, ?_⟩
                  simp only [jN, seval, vint, TyS, TyF, BdS]
                  simp_all [nwf]
  ·
    repeat (refine awp_seq ?_)
    refine e_eval (by simp only [jA, jO, jN, seval, y3, vint, TyS, TyF, BdS, Int.cast_ofNat_Int] <;> with_reducible rfl) (by decide) ?_
    repeat (refine awp_seq ?_)
    refine awp_cond rfl (by simp only [jN, seval, vint, TyS, TyF, BdS, Int.cast_ofNat_Int] <;> with_reducible rfl) (fun b13 => ?_) (fun b13 => ?_)
    ·
      repeat (refine awp_seq ?_)
      refine awp_skip ?_
      repeat (refine awp_seq ?_)
      refine awp_cond rfl (by simp only [jN, seval, vint, TyS, TyF, BdS, Int.cast_ofNat_Int] <;> with_reducible rfl) (fun b14 => ?_) (fun b14 => ?_)
      ·
        repeat (refine awp_seq ?_)
        refine g_eval (by simp only [jG, jO, jN, seval, y3, y29, vint, TyS, TyF, BdS, Int.cast_ofNat_Int] <;> with_reducible rfl) (by decide) (by repeat (first | exact Fin.base _ | with_reducible apply Fin.keep | apply Fin.drop)) ?_
        repeat (refine awp_seq ?_)
        refine awp_ret ⟨.inr rfl, _, rfl, ?_⟩
        simp only [jN, seval, vint, TyS, TyF, BdS]
        simp_all [nwf]
      ·
        repeat (refine awp_seq ?_)
        refine e_eval (by simp only [jA, jO, jN, seval, y3, vint, TyS, TyF, BdS, Int.cast_ofNat_Int] <;> with_reducible rfl) (by decide) ?_
        repeat (refine awp_seq ?_)
        refine awp_cond rfl (by simp only [jN, seval, vint, TyS, TyF, BdS, Int.cast_ofNat_Int] <;> with_reducible rfl) (fun b15 => ?_) (fun b15 => ?_)
        ·
          repeat (refine awp_seq ?_)
          refine awp_skip ?_
          repeat (refine awp_seq ?_)
          refine awp_cond rfl (by simp only [jN, seval, vint, TyS, TyF, BdS, Int.cast_ofNat_Int] <;> with_reducible rfl) (fun b16 => ?_) (fun b16 => ?_)
          ·
            repeat (refine awp_seq ?_)
            refine g_eval (by simp only [jG, jO, jN, seval, y3, y29, vint, TyS, TyF, BdS, Int.cast_ofNat_Int] <;> with_reducible rfl) (by decide) (by repeat (first | exact Fin.base _ | with_reducible apply Fin.keep | apply Fin.drop)) ?_
            repeat (refine awp_seq ?_)
            refine awp_ret ⟨.inr rfl, _, rfl, ?_⟩
            simp only [jN, seval, vint, TyS, TyF, BdS]
            simp_all [nwf]
          ·
            repeat (refine awp_seq ?_)
            refine e_eval (by simp only [jA, jO, jN, seval, y3, vint, TyS, TyF, BdS, Int.cast_ofNat_Int] <;> with_reducible rfl) (by decide) ?_
            repeat (refine awp_seq ?_)
            refine awp_cond rfl (by simp only [jN, seval, vint, TyS, TyF, BdS, Int.cast_ofNat_Int] <;> with_reducible rfl) (fun b17 => ?_) (fun b17 => ?_)
            ·
              refine awp_sel [1] (by simp only [jN, seval, vint, TyS, TyF, BdS, Int.cast_ofNat_Int] <;> with_reducible rfl) ?_
              repeat (refine awp_seq ?_)
              refine e_eval (by simp only [jA, jO, jN, seval, y3, y29, vint, TyS, TyF, BdS, Int.cast_ofNat_Int] <;> with_reducible rfl) (by decide) ?_
              repeat (refine awp_seq ?_)
              refine awp_ret ⟨.inr rfl, _, rfl, ?_⟩
              simp only [jN, seval, vint, TyS, TyF, BdS]
              simp_all [nwf]
            ·
              refine awp_sel [1, 3, 8] (by simp only [jN, seval, vint, TyS, TyF, BdS, Int.cast_ofNat_Int] <;> with_reducible rfl) ?_
              repeat (refine awp_seq ?_)
              refine e_eval (by simp only [jA, jO, jN, seval, y3, vint, TyS, TyF, BdS, Int.cast_ofNat_Int] <;> with_reducible rfl) (by decide) ?_
              repeat (refine awp_seq ?_)
              refine awp_cond rfl (by simp only [jN, seval, vint, TyS, TyF, BdS, Int.cast_ofNat_Int] <;> with_reducible rfl) (fun b18 => ?_) (fun b18 => ?_)
              ·
                repeat (refine awp_seq ?_)
                refine g_eval (by simp only [jG, jO, jN, seval, y3, y29, vint, TyS, TyF, BdS, Int.cast_ofNat_Int] <;> with_reducible rfl) (by decide) (by repeat (first | exact Fin.base _ | with_reducible apply Fin.keep | apply Fin.drop)) ?_
                repeat (refine awp_seq ?_)
                refine awp_ret ⟨.inr rfl, _, rfl, ?_⟩
                simp only [jN, seval, vint, TyS, TyF, BdS]
                simp_all [nwf]
              ·
                repeat (refine awp_seq ?_)
                refine e_eval (by simp only [jA, jO, jN, seval, y3, vint, TyS, TyF, BdS, Int.cast_ofNat_Int] <;> with_reducible rfl) (by decide) ?_
                repeat (refine awp_seq ?_)
                refine awp_cond rfl (by simp only [jN, seval, vint, TyS, TyF, BdS, Int.cast_ofNat_Int] <;> with_reducible rfl) (fun b19 => ?_) (fun b19 => ?_)
                ·
                  repeat (refine awp_seq ?_)
                  refine g_eval (by simp only [jG, jO, jN, seval, y3, y29, vint, TyS, TyF, BdS, Int.cast_ofNat_Int] <;> with_reducible rfl) (by decide) (by repeat (first | exact Fin.base _ | with_reducible apply Fin.keep | apply Fin.drop)) ?_
                  repeat (refine awp_seq ?_)
                  refine awp_ret ⟨.inr rfl, _, rfl, ?_⟩
                  simp only [jN, seval, vint, TyS, TyF, BdS]
                  simp_all [nwf]
                ·
                  repeat (refine awp_seq ?_)
                  refine e_eval (by simp only [jA, jO, jN, seval, y3, vint, TyS, TyF, BdS, Int.cast_ofNat_Int] <;> with_reducible rfl) (by decide) ?_
                  repeat (refine awp_seq ?_)
                  refine awp_cond rfl (by simp only [jN, seval, vint, TyS, TyF, BdS, Int.cast_ofNat_Int] <;> with_reducible rfl) (fun b20 => ?_) (fun b20 => ?_)
                  ·
                    repeat (refine awp_seq ?_)
                    refine g_eval (by simp only [jG, jO, jN, seval, y3, y29, vint, TyS, TyF, BdS, Int.cast_ofNat_Int] <;> with_reducible rfl) (by decide) (by repeat (first | exact Fin.base _ | with_reducible apply Fin.keep | apply Fin.drop)) ?_
                    repeat (refine awp_seq ?_)
                    refine awp_ret ⟨.inr rfl, _, rfl, ?_⟩
                    simp only [jN, seval, vint, TyS, TyF, BdS]
                    simp_all [nwf]
                  ·
                    repeat (refine awp_seq ?_)
                    refine awp_skip ?_
                    repeat (refine awp_seq ?_)
                    refine e_eval (by simp only [jA, jO, jN, seval, vint, TyS, TyF, BdS, Int.cast_ofNat_Int] <;> with_reducible rfl) (by decide) ?_
                    repeat (refine awp_seq ?_)
                    refine awp_ret ⟨.inr rfl, _, rfl, ?_⟩
                    simp only [jN, seval, vint, TyS, TyF, BdS]
                    simp_all [nwf]
        ·
          repeat (refine awp_seq ?_)
          refine e_eval (by simp only [jA, jO, jN, seval, y3, vint, TyS, TyF, BdS, Int.cast_ofNat_Int] <;> with_reducible rfl) (by decide) ?_
          repeat (refine awp_seq ?_)
          refine awp_cond rfl (by simp only [jN, seval, vint, TyS, TyF, BdS, Int.cast_ofNat_Int] <;> with_reducible rfl) (fun b21 => ?_) (fun b21 => ?_)
          ·
            refine awp_sel [1, 3] (by simp only [jN, seval, vint, TyS, TyF, BdS, Int.cast_ofNat_Int] <;> with_reducible rfl) ?_
            repeat (refine awp_seq ?_)
            refine g_eval (by simp only [jG, jO, jN, seval, y3, y29, vint, TyS, TyF, BdS, Int.cast_ofNat_Int] <;> with_reducible rfl) (by decide) (by repeat (first | exact Fin.base _ | with_reducible apply Fin.keep | apply Fin.drop)) ?_
            repeat (refine awp_seq ?_)
            refine awp_ret ⟨.inr rfl, _, rfl, ?_⟩
            simp only [jN, seval, vint, TyS, TyF, BdS]
            simp_all [nwf]
          ·
            refine awp_sel [1, 3, 8] (by simp only [jN, seval, vint, TyS, TyF, BdS, Int.cast_ofNat_Int] <;> with_reducible rfl) ?_
            repeat (refine awp_seq ?_)
            refine e_eval (by simp only [jA, jO, jN, seval, y3, vint, TyS, TyF, BdS, Int.cast_ofNat_Int] <;> with_reducible rfl) (by decide) ?_
            repeat (refine awp_seq ?_)
            refine awp_cond rfl (by simp only [jN, seval, vint, TyS, TyF, BdS, Int.cast_ofNat_Int] <;> with_reducible rfl) (fun b22 => ?_) (fun b22 => ?_)
            ·
              repeat (refine awp_seq ?_)
              refine e_eval (by simp only [jA, jO, jN, seval, y3, y29, vint, TyS, TyF, BdS, Int.cast_ofNat_Int] <;> with_reducible rfl) (by decide) ?_
              repeat (refine awp_seq ?_)
              refine awp_ret ⟨.inr rfl, _, rfl, ?_⟩
              simp only [jN, seval, vint, TyS, TyF, BdS]
              simp_all [nwf]
            ·
              repeat (refine awp_seq ?_)
              refine e_eval (by simp only [jA, jO, jN, seval, y3, vint, TyS, TyF, BdS, Int.cast_ofNat_Int] <;> with_reducible rfl) (by decide) ?_
              repeat (refine awp_seq ?_)
              refine awp_cond rfl (by simp only [jN, seval, vint, TyS, TyF, BdS, Int.cast_ofNat_Int] <;> with_reducible rfl) (fun b23 => ?_) (fun b23 => ?_)
              ·
                repeat (refine awp_seq ?_)
                refine g_eval (by simp only [jG, jO, jN, seval, y3, y29, vint, TyS, TyF, BdS, Int.cast_ofNat_Int] <;> with_reducible rfl) (by decide) (by repeat (first | exact Fin.base _ | with_reducible apply Fin.keep | apply Fin.drop)) ?_
                repeat (refine awp_seq ?_)
                refine awp_ret ⟨.inr rfl, _, rfl, ?_⟩
                simp only [jN, seval, vint, TyS, TyF, BdS]
                simp_all [nwf]
              ·
                repeat (refine awp_seq ?_)
                refine e_eval (by simp only [jA, jO, jN, seval, y3, vint, TyS, TyF, BdS, Int.cast_ofNat_Int] <;> with_reducible rfl) (by decide) ?_
                repeat (refine awp_seq ?_)
                refine awp_cond rfl (by simp only [jN, seval, vint, TyS, TyF, BdS, Int.cast_ofNat_Int] <;> with_reducible rfl) (fun b24 => ?_) (fun b24 => ?_)
                ·
                  repeat (refine awp_seq ?_)
                  refine g_eval (by simp only [jG, jO, jN, seval, y3, y29, vint, TyS, TyF, BdS, Int.cast_ofNat_Int] <;> with_reducible rfl) (by decide) (by repeat (first | exact Fin.base _ | with_reducible apply Fin.keep | apply Fin.drop)) ?_
                  repeat (refine awp_seq ?_)
                  refine awp_ret ⟨.inr rfl, _, rfl, ?_⟩
                  simp only [jN, seval, vint, TyS, TyF, BdS]
                  simp_all [nwf]
                ·
                  repeat (refine awp_seq ?_)
                  refine e_eval (by simp only [jA, jO, jN, seval, y3, vint, TyS, TyF, BdS, Int.cast_ofNat_Int] <;> with_reducible rfl) (by decide) ?_
                  repeat (refine awp_seq ?_)
                  refine awp_cond rfl (by simp only [jN, seval, vint, TyS, TyF, BdS, Int.cast_ofNat_Int] <;> with_reducible rfl) (fun b25 => ?_) (fun b25 => ?_)
                  ·
                    repeat (refine awp_seq ?_)
                    refine g_eval (by simp only [jG, jO, jN, seval, y3, y29, vint, TyS, TyF, BdS, Int.cast_ofNat_Int] <;> with_reducible rfl) (by decide) (by repeat (first | exact Fin.base _ | with_reducible apply Fin.keep | apply Fin.drop)) ?_
                    repeat (refine awp_seq ?_)
                    refine awp_ret ⟨.inr rfl, _, rfl, ?_⟩
                    simp only [jN, seval, vint, TyS, TyF, BdS]
                    simp_all [nwf]
                  ·
                    repeat (refine awp_seq ?_)
                    refine awp_skip ?_
                    repeat (refine awp_seq ?_)
                    refine e_eval (by simp only [jA, jO, jN, seval, vint, TyS, TyF, BdS, Int.cast_ofNat_Int] <;> with_reducible rfl) (by decide) ?_
                    repeat (refine awp_seq ?_)
                    refine awp_ret ⟨.inr rfl, _, rfl, ?_⟩
                    simp only [jN, seval, vint, TyS, TyF, BdS]
                    simp_all [nwf]
    ·
      repeat (refine awp_seq ?_)
      refine e_eval (by simp only [jA, jO, jN, seval, y3, vint, TyS, TyF, BdS, Int.cast_ofNat_Int] <;> with_reducible rfl) (by decide) ?_
      repeat (refine awp_seq ?_)
      refine awp_cond rfl (by simp only [jN, seval, vint, TyS, TyF, BdS, Int.cast_ofNat_Int] <;> with_reducible rfl) (fun b26 => ?_) (fun b26 => ?_)
      ·
        repeat (refine awp_seq ?_)
        refine awp_skip ?_
        repeat (refine awp_seq ?_)
        refine awp_cond rfl (by simp only [jN, seval, vint, TyS, TyF, BdS, Int.cast_ofNat_Int] <;> with_reducible rfl) (fun b27 => ?_) (fun b27 => ?_)
        ·
          repeat (refine awp_seq ?_)
          refine g_eval (by simp only [jG, jO, jN, seval, y3, y29, vint, TyS, TyF, BdS, Int.cast_ofNat_Int] <;> with_reducible rfl) (by decide) (by repeat (first | exact Fin.base _ | with_reducible apply Fin.keep | apply Fin.drop)) ?_
          repeat (refine awp_seq ?_)
          refine awp_ret ⟨.inr rfl, _, rfl, ?_⟩
          simp only [jN, seval, vint, TyS, TyF, BdS]
          simp_all [nwf]
        ·
          repeat (refine awp_seq ?_)
          refine e_eval (by simp only [jA, jO, jN, seval, y3, vint, TyS, TyF, BdS, Int.cast_ofNat_Int] <;> with_reducible rfl) (by decide) ?_
          repeat (refine awp_seq ?_)
          refine awp_cond rfl (by simp only [jN, seval, vint, TyS, TyF, BdS, Int.cast_ofNat_Int] <;> with_reducible rfl) (fun b28 => ?_) (fun b28 => ?_)
          ·
            repeat (refine awp_seq ?_)
            refine awp_skip ?_
            repeat (refine awp_seq ?_)
            refine awp_cond rfl (by simp only [jN, seval, vint, TyS, TyF, BdS, Int.cast_ofNat_Int] <;> with_reducible rfl) (fun b29 => ?_) (fun b29 => ?_)
            ·
              refine awp_sel [1, 3] (by simp only [jN, seval, vint, TyS, TyF, BdS, Int.cast_ofNat_Int] <;> with_reducible rfl) ?_
              repeat (refine awp_seq ?_)
              refine g_eval (by simp only [jG, jO, jN, seval, y3, y29, vint, TyS, TyF, BdS, Int.cast_ofNat_Int] <;> with_reducible rfl) (by decide) (by repeat (first | exact Fin.base _ | with_reducible apply Fin.keep | apply Fin.drop)) ?_
              repeat (refine awp_seq ?_)
              refine awp_ret ⟨.inr rfl, _, rfl, ?_⟩
              simp only [jN, seval, vint, TyS, TyF, BdS]
              simp_all [nwf]
            ·
              refine awp_sel [1, 3, 8] (by simp only [jN, seval, vint, TyS, TyF, BdS, Int.cast_ofNat_Int] <;> with_reducible rfl) ?_
              repeat (refine awp_seq ?_)
              refine e_eval (by simp only [jA, jO, jN, seval, y3, vint, TyS, TyF, BdS, Int.cast_ofNat_Int] <;> with_reducible rfl) (by decide) ?_
              repeat (refine awp_seq ?_)
              refine awp_cond rfl (by simp only [jN, seval, vint, TyS, TyF, BdS, Int.cast_ofNat_Int] <;> with_reducible rfl) (fun b30 => ?_) (fun b30 => ?_)
              ·
                repeat (refine awp_seq ?_)
                refine e_eval (by simp only [jA, jO, jN, seval, y3, y29, vint, TyS, TyF, BdS, Int.cast_ofNat_Int] <;> with_reducible rfl) (by decide) ?_
                repeat (refine awp_seq ?_)
                refine awp_ret ⟨.inr rfl, _, rfl, ?_⟩
                simp only [jN, seval, vint, TyS, TyF, BdS]
                simp_all [nwf]
              ·
                repeat (refine awp_seq ?_)
                refine e_eval (by simp only [jA, jO, jN, seval, y3, vint, TyS, TyF, BdS, Int.cast_ofNat_Int] <;> with_reducible rfl) (by decide) ?_
                repeat (refine awp_seq ?_)
                refine awp_cond rfl (by simp only [jN, seval, vint, TyS, TyF, BdS, Int.cast_ofNat_Int] <;> with_reducible rfl) (fun b31 => ?_) (fun b31 => ?_)
                ·
                  repeat (refine awp_seq ?_)
                  refine g_eval (by simp only [jG, jO, jN, seval, y3, y29, vint, TyS, TyF, BdS, Int.cast_ofNat_Int] <;> with_reducible rfl) (by decide) (by repeat (first | exact Fin.base _ | with_reducible apply Fin.keep | apply Fin.drop)) ?_
                  repeat (refine awp_seq ?_)
                  refine awp_ret ⟨.inr rfl, _, rfl, ?_⟩
                  simp only [jN, seval, vint, TyS, TyF, BdS]
                  simp_all [nwf]
                ·
                  repeat (refine awp_seq ?_)
                  refine e_eval (by simp only [jA, jO, jN, seval, y3, vint, TyS, TyF, BdS, Int.cast_ofNat_Int] <;> with_reducible rfl) (by decide) ?_
                  repeat (refine awp_seq ?_)
                  refine awp_cond rfl (by simp only [jN, seval, vint, TyS, TyF, BdS, Int.cast_ofNat_Int] <;> with_reducible rfl) (fun b32 => ?_) (fun b32 => ?_)
                  ·
                    repeat (refine awp_seq ?_)
                    refine g_eval (by simp only [jG, jO, jN, seval, y3, y29, vint, TyS, TyF, BdS, Int.cast_ofNat_Int] <;> with_reducible rfl) (by decide) (by repeat (first | exact Fin.base _ | with_reducible apply Fin.keep | apply Fin.drop)) ?_
                    repeat (refine awp_seq ?_)
                    refine awp_ret ⟨.inr rfl, _, rfl, ?_⟩
                    simp only [jN, seval, vint, TyS, TyF, BdS]
                    simp_all [nwf]
                  ·
                    repeat (refine awp_seq ?_)
                    refine e_eval (by simp only [jA, jO, jN, seval, y3, vint, TyS, TyF, BdS, Int.cast_ofNat_Int] <;> with_reducible rfl) (by decide) ?_
                    repeat (refine awp_seq ?_)
                    refine awp_cond rfl (by simp only [jN, seval, vint, TyS, TyF, BdS, Int.cast_ofNat_Int] <;> with_reducible rfl) (fun b33 => ?_) (fun b33 => ?_)
                    ·
                      repeat (refine awp_seq ?_)
                      refine g_eval (by simp only [jG, jO, jN, seval, y3, y29, vint, TyS, TyF, BdS, Int.cast_ofNat_Int] <;> with_reducible rfl) (by decide) (by repeat (first | exact Fin.base _ | with_reducible apply Fin.keep | apply Fin.drop)) ?_
                      repeat (refine awp_seq ?_)
                      refine awp_ret ⟨.inr rfl, _, rfl, ?_⟩
                      simp only [jN, seval, vint, TyS, TyF, BdS]
                      simp_all [nwf]
                    ·
                      repeat (refine awp_seq ?_)
                      refine awp_skip ?_
                      repeat (refine awp_seq ?_)
                      refine e_eval (by simp only [jA, jO, jN, seval, vint, TyS, TyF, BdS, Int.cast_ofNat_Int] <;> with_reducible rfl) (by decide) ?_
                      repeat (refine awp_seq ?_)
                      refine awp_ret ⟨.inr rfl, _, rfl, ?_⟩
                      simp only [jN, seval, vint, TyS, TyF, BdS]
                      simp_all [nwf]
          ·
            refine awp_sel [1, 3, 8] (by simp only [jN, seval, vint, TyS, TyF, BdS, Int.cast_ofNat_Int] <;> with_reducible rfl) ?_
            repeat (refine awp_seq ?_)
            refine e_eval (by simp only [jA, jO, jN, seval, y3, vint, TyS, TyF, BdS, Int.cast_ofNat_Int] <;> with_reducible rfl) (by decide) ?_
            repeat (refine awp_seq ?_)
            refine awp_cond rfl (by simp only [jN, seval, vint, TyS, TyF, BdS, Int.cast_ofNat_Int] <;> with_reducible rfl) (fun b34 => ?_) (fun b34 => ?_)
            ·
              repeat (refine awp_seq ?_)
              refine g_eval (by simp only [jG, jO, jN, seval, y3, y29, vint, TyS, TyF, BdS, Int.cast_ofNat_Int] <;> with_reducible rfl) (by decide) (by repeat (first | exact Fin.base _ | with_reducible apply Fin.keep | apply Fin.drop)) ?_
              repeat (refine awp_seq ?_)
              refine awp_ret ⟨.inr rfl, _, rfl, ?_⟩
              simp only [jN, seval, vint, TyS, TyF, BdS]
              simp_all [nwf]
            ·
              repeat (refine awp_seq ?_)
              refine e_eval (by simp only [jA, jO, jN, seval, y3, vint, TyS, TyF, BdS, Int.cast_ofNat_Int] <;> with_reducible rfl) (by decide) ?_
              repeat (refine awp_seq ?_)
              refine awp_cond rfl (by simp only [jN, seval, vint, TyS, TyF, BdS, Int.cast_ofNat_Int] <;> with_reducible rfl) (fun b35 => ?_) (fun b35 => ?_)
              ·
                repeat (refine awp_seq ?_)
                refine e_eval (by simp only [jA, jO, jN, seval, y3, y29, vint, TyS, TyF, BdS, Int.cast_ofNat_Int] <;> with_reducible rfl) (by decide) ?_
                repeat (refine awp_seq ?_)
                refine awp_ret ⟨.inr rfl, _, rfl, ?_⟩
                simp only [jN, seval, vint, TyS, TyF, BdS]
                simp_all [nwf]
              ·
                repeat (refine awp_seq ?_)
                refine e_eval (by simp only [jA, jO, jN, seval, y3, vint, TyS, TyF, BdS, Int.cast_ofNat_Int] <;> with_reducible rfl) (by decide) ?_
                repeat (refine awp_seq ?_)
                refine awp_cond rfl (by simp only [jN, seval, vint, TyS, TyF, BdS, Int.cast_ofNat_Int] <;> with_reducible rfl) (fun b36 => ?_) (fun b36 => ?_)
                ·
                  repeat (refine awp_seq ?_)
                  refine g_eval (by simp only [jG, jO, jN, seval, y3, y29, vint, TyS, TyF, BdS, Int.cast_ofNat_Int] <;> with_reducible rfl) (by decide) (by repeat (first | exact Fin.base _ | with_reducible apply Fin.keep | apply Fin.drop)) ?_
                  repeat (refine awp_seq ?_)
                  refine awp_ret ⟨.inr rfl, _, rfl, ?_⟩
                  simp only [jN, seval, vint, TyS, TyF, BdS]
                  simp_all [nwf]
                ·
                  repeat (refine awp_seq ?_)
                  refine e_eval (by simp only [jA, jO, jN, seval, y3, vint, TyS, TyF, BdS, Int.cast_ofNat_Int] <;> with_reducible rfl) (by decide) ?_
                  repeat (refine awp_seq ?_)
                  refine awp_cond rfl (by simp only [jN, seval, vint, TyS, TyF, BdS, Int.cast_ofNat_Int] <;> with_reducible rfl) (fun b37 => ?_) (fun b37 => ?_)
                  ·
                    repeat (refine awp_seq ?_)
                    refine g_eval (by simp only [jG, jO, jN, seval, y3, y29, vint, TyS, TyF, BdS, Int.cast_ofNat_Int] <;> with_reducible rfl) (by decide) (by repeat (first | exact Fin.base _ | with_reducible apply Fin.keep | apply Fin.drop)) ?_
                    repeat (refine awp_seq ?_)
                    refine awp_ret ⟨.inr rfl, _, rfl, ?_⟩
                    simp only [jN, seval, vint, TyS, TyF, BdS]
                    simp_all [nwf]
                  ·
                    repeat (refine awp_seq ?_)
                    refine e_eval (by simp only [jA, jO, jN, seval, y3, vint, TyS, TyF, BdS, Int.cast_ofNat_Int] <;> with_reducible rfl) (by decide) ?_
                    repeat (refine awp_seq ?_)
                    refine awp_cond rfl (by simp only [jN, seval, vint, TyS, TyF, BdS, Int.cast_ofNat_Int] <;> with_reducible rfl) (fun b38 => ?_) (fun b38 => ?_)
                    ·
                      repeat (refine awp_seq ?_)
                      refine g_eval (by simp only [jG, jO, jN, seval, y3, y29, vint, TyS, TyF, BdS, Int.cast_ofNat_Int] <;> with_reducible rfl) (by decide) (by repeat (first | exact Fin.base _ | with_reducible apply Fin.keep | apply Fin.drop)) ?_
                      repeat (refine awp_seq ?_)
                      refine awp_ret ⟨.inr rfl, _, rfl, ?_⟩
                      simp only [jN, seval, vint, TyS, TyF, BdS]
                      simp_all [nwf]
                    ·
                      repeat (refine awp_seq ?_)
                      refine awp_skip ?_
                      repeat (refine awp_seq ?_)
                      refine e_eval (by simp only [jA, jO, jN, seval, vint, TyS, TyF, BdS, Int.cast_ofNat_Int] <;> with_reducible rfl) (by decide) ?_
                      repeat (refine awp_seq ?_)
                      refine awp_ret ⟨.inr rfl, _, rfl, ?_⟩
                      simp only [jN, seval, vint, TyS, TyF, BdS]
                      simp_all [nwf]
      ·
        repeat (refine awp_seq ?_)
        refine e_eval (by simp only [jA, jO, jN, seval, y3, vint, TyS, TyF, BdS, Int.cast_ofNat_Int] <;> with_reducible rfl) (by decide) ?_
        repeat (refine awp_seq ?_)
        refine awp_cond rfl (by simp only [jN, seval, vint, TyS, TyF, BdS, Int.cast_ofNat_Int] <;> with_reducible rfl) (fun b39 => ?_) (fun b39 => ?_)
        ·
          repeat (refine awp_seq ?_)
          refine awp_skip ?_
          repeat (refine awp_seq ?_)
          refine awp_cond rfl (by simp only [jN, seval, vint, TyS, TyF, BdS, Int.cast_ofNat_Int] <;> with_reducible rfl) (fun b40 => ?_) (fun b40 => ?_)
          ·
            refine awp_sel [1, 3] (by simp only [jN, seval, vint, TyS, TyF, BdS, Int.cast_ofNat_Int] <;> with_reducible rfl) ?_
            repeat (refine awp_seq ?_)
            refine g_eval (by simp only [jG, jO, jN, seval, y3, y29, vint, TyS, TyF, BdS, Int.cast_ofNat_Int] <;> with_reducible rfl) (by decide) (by repeat (first | exact Fin.base _ | with_reducible apply Fin.keep | apply Fin.drop)) ?_
            repeat (refine awp_seq ?_)
            refine awp_ret ⟨.inr rfl, _, rfl, ?_⟩
            simp only [jN, seval, vint, TyS, TyF, BdS]
            simp_all [nwf]
          ·
            refine awp_sel [1, 3, 8] (by simp only [jN, seval, vint, TyS, TyF, BdS, Int.cast_ofNat_Int] <;> with_reducible rfl) ?_
            repeat (refine awp_seq ?_)
            refine e_eval (by simp only [jA, jO, jN, seval, y3, vint, TyS, TyF, BdS, Int.cast_ofNat_Int] <;> with_reducible rfl) (by decide) ?_
            repeat (refine awp_seq ?_)
            refine awp_cond rfl (by simp only [jN, seval, vint, TyS, TyF, BdS, Int.cast_ofNat_Int] <;> with_reducible rfl) (fun b41 => ?_) (fun b41 => ?_)
            ·
              repeat (refine awp_seq ?_)
              refine awp_skip ?_
              repeat (refine awp_seq ?_)
              refine awp_cond rfl (by simp only [jN, seval, vint, TyS, TyF, BdS, Int.cast_ofNat_Int] <;> with_reducible rfl) (fun b42 => ?_) (fun b42 => ?_)
              ·
                repeat (refine awp_seq ?_)
                refine g_eval (by simp only [jG, jO, jN, seval, y3, y29, vint, TyS, TyF, BdS, Int.cast_ofNat_Int] <;> with_reducible rfl) (by decide) (by repeat (first | exact Fin.base _ | with_reducible apply Fin.keep | apply Fin.drop)) ?_
                repeat (refine awp_seq ?_)
                refine awp_ret ⟨.inr rfl, _, rfl, ?_⟩
                simp only [jN, seval, vint, TyS, TyF, BdS]
                simp_all [nwf]
              ·
                repeat (refine awp_seq ?_)
                refine e_eval (by simp only [jA, jO, jN, seval, y3, vint, TyS, TyF, BdS, Int.cast_ofNat_Int] <;> with_reducible rfl) (by decide) ?_
                repeat (refine awp_seq ?_)
                refine awp_cond rfl (by simp only [jN, seval, vint, TyS, TyF, BdS, Int.cast_ofNat_Int] <;> with_reducible rfl) (fun b43 => ?_) (fun b43 => ?_)
                ·
                  repeat (refine awp_seq ?_)
                  refine e_eval (by simp only [jA, jO, jN, seval, y3, y29, vint, TyS, TyF, BdS, Int.cast_ofNat_Int] <;> with_reducible rfl) (by decide) ?_
                  repeat (refine awp_seq ?_)
                  refine awp_ret ⟨.inr rfl, _, rfl, ?_⟩
                  simp only [jN, seval, vint, TyS, TyF, BdS]
                  simp_all [nwf]
                ·
                  repeat (refine awp_seq ?_)
                  refine e_eval (by simp only [jA, jO, jN, seval, y3, vint, TyS, TyF, BdS, Int.cast_ofNat_Int] <;> with_reducible rfl) (by decide) ?_
                  repeat (refine awp_seq ?_)
                  refine awp_cond rfl (by simp only [jN, seval, vint, TyS, TyF, BdS, Int.cast_ofNat_Int] <;> with_reducible rfl) (fun b44 => ?_) (fun b44 => ?_)
                  ·
                    repeat (refine awp_seq ?_)
                    refine g_eval (by simp only [jG, jO, jN, seval, y3, y29, vint, TyS, TyF, BdS, Int.cast_ofNat_Int] <;> with_reducible rfl) (by decide) (by repeat (first | exact Fin.base _ | with_reducible apply Fin.keep | apply Fin.drop)) ?_
                    repeat (refine awp_seq ?_)
                    refine awp_ret ⟨.inr rfl, _, rfl, ?_⟩
                    simp only [jN, seval, vint, TyS, TyF, BdS]
                    simp_all [nwf]
                  ·
                    repeat (refine awp_seq ?_)
                    refine e_eval (by simp only [jA, jO, jN, seval, y3, vint, TyS, TyF, BdS, Int.cast_ofNat_Int] <;> with_reducible rfl) (by decide) ?_
                    repeat (refine awp_seq ?_)
                    refine awp_cond rfl (by simp only [jN, seval, vint, TyS, TyF, BdS, Int.cast_ofNat_Int] <;> with_reducible rfl) (fun b45 => ?_) (fun b45 => ?_)
                    ·
                      repeat (refine awp_seq ?_)
                      refine g_eval (by simp only [jG, jO, jN, seval, y3, y29, vint, TyS, TyF, BdS, Int.cast_ofNat_Int] <;> with_reducible rfl) (by decide) (by repeat (first | exact Fin.base _ | with_reducible apply Fin.keep | apply Fin.drop)) ?_
                      repeat (refine awp_seq ?_)
                      refine awp_ret ⟨.inr rfl, _, rfl, ?_⟩
                      simp only [jN, seval, vint, TyS, TyF, BdS]
                      simp_all [nwf]
                    ·
                      repeat (refine awp_seq ?_)
                      refine e_eval (by simp only [jA, jO, jN, seval, y3, vint, TyS, TyF, BdS, Int.cast_ofNat_Int] <;> with_reducible rfl) (by decide) ?_
                      repeat (refine awp_seq ?_)
                      refine awp_cond rfl (by simp only [jN, seval, vint, TyS, TyF, BdS, Int.cast_ofNat_Int] <;> with_reducible rfl) (fun b46 => ?_) (fun b46 => ?_)
                      ·
                        repeat (refine awp_seq ?_)
                        refine g_eval (by simp only [jG, jO, jN, seval, y3, y29, vint, TyS, TyF, BdS, Int.cast_ofNat_Int] <;> with_reducible rfl) (by decide) (by repeat (first | exact Fin.base _ | with_reducible apply Fin.keep | apply Fin.drop)) ?_
                        repeat (refine awp_seq ?_)
                        refine awp_ret ⟨.inr rfl, _, rfl, ?_⟩
                        simp only [jN, seval, vint, TyS, TyF, BdS]
                        simp_all [nwf]
                      ·
                        repeat (refine awp_seq ?_)
                        refine awp_skip ?_
                        repeat (refine awp_seq ?_)
                        refine e_eval (by simp only [jA, jO, jN, seval, vint, TyS, TyF, BdS, Int.cast_ofNat_Int] <;> with_reducible rfl) (by decide) ?_
                        repeat (refine awp_seq ?_)
                        refine awp_ret ⟨.inr rfl, _, rfl, ?_⟩
                        simp only [jN, seval, vint, TyS, TyF, BdS]
                        simp_all [nwf]
            ·
              repeat (refine awp_seq ?_)
              refine e_eval (by simp only [jA, jO, jN, seval, y3, vint, TyS, TyF, BdS, Int.cast_ofNat_Int] <;> with_reducible rfl) (by decide) ?_
              repeat (refine awp_seq ?_)
              refine awp_cond rfl (by simp only [jN, seval, vint, TyS, TyF, BdS, Int.cast_ofNat_Int] <;> with_reducible rfl) (fun b47 => ?_) (fun b47 => ?_)
              ·
                repeat (refine awp_seq ?_)
                refine g_eval (by simp only [jG, jO, jN, seval, y3, y29, vint, TyS, TyF, BdS, Int.cast_ofNat_Int] <;> with_reducible rfl) (by decide) (by repeat (first | exact Fin.base _ | with_reducible apply Fin.keep | apply Fin.drop)) ?_
                repeat (refine awp_seq ?_)
                refine awp_ret ⟨.inr rfl, _, rfl, ?_⟩
                simp only [jN, seval, vint, TyS, TyF, BdS]
                simp_all [nwf]
              ·
                repeat (refine awp_seq ?_)
                refine e_eval (by simp only [jA, jO, jN, seval, y3, vint, TyS, TyF, BdS, Int.cast_ofNat_Int] <;> with_reducible rfl) (by decide) ?_
                repeat (refine awp_seq ?_)
                refine awp_cond rfl (by simp only [jN, seval, vint, TyS, TyF, BdS, Int.cast_ofNat_Int] <;> with_reducible rfl) (fun b48 => ?_) (fun b48 => ?_)
                ·
                  repeat (refine awp_seq ?_)
                  refine e_eval (by simp only [jA, jO, jN, seval, y3, y29, vint, TyS, TyF, BdS, Int.cast_ofNat_Int] <;> with_reducible rfl) (by decide) ?_
                  repeat (refine awp_seq ?_)
                  refine awp_ret ⟨.inr rfl, _, rfl, ?_⟩
                  simp only [jN, seval, vint, TyS, TyF, BdS]
                  simp_all [nwf]
                ·
                  repeat (refine awp_seq ?_)
                  refine e_eval (by simp only [jA, jO, jN, seval, y3, vint, TyS, TyF, BdS, Int.cast_ofNat_Int] <;> with_reducible rfl) (by decide) ?_
                  repeat (refine awp_seq ?_)
                  refine awp_cond rfl (by simp only [jN, seval, vint, TyS, TyF, BdS, Int.cast_ofNat_Int] <;> with_reducible rfl) (fun b49 => ?_) (fun b49 => ?_)
                  ·
                    repeat (refine awp_seq ?_)
                    refine g_eval (by simp only [jG, jO, jN, seval, y3, y29, vint, TyS, TyF, BdS, Int.cast_ofNat_Int] <;> with_reducible rfl) (by decide) (by repeat (first | exact Fin.base _ | with_reducible apply Fin.keep | apply Fin.drop)) ?_
                    repeat (refine awp_seq ?_)
                    refine awp_ret ⟨.inr rfl, _, rfl, ?_⟩
                    simp only [jN, seval, vint, TyS, TyF, BdS]
                    simp_all [nwf]
                  ·
                    repeat (refine awp_seq ?_)
                    refine e_eval (by simp only [jA, jO, jN, seval, y3, vint, TyS, TyF, BdS, Int.cast_ofNat_Int] <;> with_reducible rfl) (by decide) ?_
                    repeat (refine awp_seq ?_)
                    refine awp_cond rfl (by simp only [jN, seval, vint, TyS, TyF, BdS, Int.cast_ofNat_Int] <;> with_reducible rfl) (fun b50 => ?_) (fun b50 => ?_)
                    ·
                      repeat (refine awp_seq ?_)
                      refine g_eval (by simp only [jG, jO, jN, seval, y3, y29, vint, TyS, TyF, BdS, Int.cast_ofNat_Int] <;> with_reducible rfl) (by decide) (by repeat (first | exact Fin.base _ | with_reducible apply Fin.keep | apply Fin.drop)) ?_
                      repeat (refine awp_seq ?_)
                      refine awp_ret ⟨.inr rfl, _, rfl, ?_⟩
                      simp only [jN, seval, vint, TyS, TyF, BdS]
                      simp_all [nwf]
                    ·
                      repeat (refine awp_seq ?_)
                      refine e_eval (by simp only [jA, jO, jN, seval, y3, vint, TyS, TyF, BdS, Int.cast_ofNat_Int] <;> with_reducible rfl) (by decide) ?_
                      repeat (refine awp_seq ?_)
                      refine awp_cond rfl (by simp only [jN, seval, vint, TyS, TyF, BdS, Int.cast_ofNat_Int] <;> with_reducible rfl) (fun b51 => ?_) (fun b51 => ?_)
                      ·
                        repeat (refine awp_seq ?_)
                        refine g_eval (by simp only [jG, jO, jN, seval, y3, y29, vint, TyS, TyF, BdS, Int.cast_ofNat_Int] <;> with_reducible rfl) (by decide) (by repeat (first | exact Fin.base _ | with_reducible apply Fin.keep | apply Fin.drop)) ?_
                        repeat (refine awp_seq ?_)
                        refine awp_ret ⟨.inr rfl, _, rfl, ?_⟩
                        simp only [jN, seval, vint, TyS, TyF, BdS]
                        simp_all [nwf]
                      ·
                        repeat (refine awp_seq ?_)
                        refine awp_skip ?_
                        repeat (refine awp_seq ?_)
                        refine e_eval (by simp only [jA, jO, jN, seval, vint, TyS, TyF, BdS, Int.cast_ofNat_Int] <;> with_reducible rfl) (by decide) ?_
                        repeat (refine awp_seq ?_)
                        refine awp_ret ⟨.inr rfl, _, rfl, ?_⟩
                        simp only [jN, seval, vint, TyS, TyF, BdS]
                        simp_all [nwf]
        ·
          refine awp_sel [1, 3, 8] (by simp only [jN, seval, vint, TyS, TyF, BdS, Int.cast_ofNat_Int] <;> with_reducible rfl) ?_
          repeat (refine awp_seq ?_)
          refine e_eval (by simp only [jA, jO, jN, seval, y3, vint, TyS, TyF, BdS, Int.cast_ofNat_Int] <;> with_reducible rfl) (by decide) ?_
          repeat (refine awp_seq ?_)
          refine awp_cond rfl (by simp only [jN, seval, vint, TyS, TyF, BdS, Int.cast_ofNat_Int] <;> with_reducible rfl) (fun b52 => ?_) (fun b52 => ?_)
          ·
            repeat (refine awp_seq ?_)
            refine g_eval (by simp only [jG, jO, jN, seval, y3, y29, vint, TyS, TyF, BdS, Int.cast_ofNat_Int] <;> with_reducible rfl) (by decide) (by repeat (first | exact Fin.base _ | with_reducible apply Fin.keep | apply Fin.drop)) ?_
            repeat (refine awp_seq ?_)
            refine awp_ret ⟨.inr rfl, _, rfl, ?_⟩
            simp only [jN, seval, vint, TyS, TyF, BdS]
            simp_all [nwf]
          ·
            repeat (refine awp_seq ?_)
            refine e_eval (by simp only [jA, jO, jN, seval, y3, vint, TyS, TyF, BdS, Int.cast_ofNat_Int] <;> with_reducible rfl) (by decide) ?_
            repeat (refine awp_seq ?_)
            refine awp_cond rfl (by simp only [jN, seval, vint, TyS, TyF, BdS, Int.cast_ofNat_Int] <;> with_reducible rfl) (fun b53 => ?_) (fun b53 => ?_)
            ·
              repeat (refine awp_seq ?_)
              refine awp_skip ?_
              repeat (refine awp_seq ?_)
              refine awp_cond rfl (by simp only [jN, seval, vint, TyS, TyF, BdS, Int.cast_ofNat_Int] <;> with_reducible rfl) (fun b54 => ?_) (fun b54 => ?_)
              ·
                repeat (refine awp_seq ?_)
                refine g_eval (by simp only [jG, jO, jN, seval, y3, y29, vint, TyS, TyF, BdS, Int.cast_ofNat_Int] <;> with_reducible rfl) (by decide) (by repeat (first | exact Fin.base _ | with_reducible apply Fin.keep | apply Fin.drop)) ?_
                repeat (refine awp_seq ?_)
                refine awp_ret ⟨.inr rfl, _, rfl, ?_⟩
                simp only [jN, seval, vint, TyS, TyF, BdS]
                simp_all [nwf]
              ·
                repeat (refine awp_seq ?_)
                refine e_eval (by simp only [jA, jO, jN, seval, y3, vint, TyS, TyF, BdS, Int.cast_ofNat_Int] <;> with_reducible rfl) (by decide) ?_
                repeat (refine awp_seq ?_)
                refine awp_cond rfl (by simp only [jN, seval, vint, TyS, TyF, BdS, Int.cast_ofNat_Int] <;> with_reducible rfl) (fun b55 => ?_) (fun b55 => ?_)
                ·
                  repeat (refine awp_seq ?_)
                  refine e_eval (by simp only [jA, jO, jN, seval, y3, y29, vint, TyS, TyF, BdS, Int.cast_ofNat_Int] <;> with_reducible rfl) (by decide) ?_
                  repeat (refine awp_seq ?_)
                  refine awp_ret ⟨.inr rfl, _, rfl, ?_⟩
                  simp only [jN, seval, vint, TyS, TyF, BdS]
                  simp_all [nwf]
                ·
                  repeat (refine awp_seq ?_)
                  refine e_eval (by simp only [jA, jO, jN, seval, y3, vint, TyS, TyF, BdS, Int.cast_ofNat_Int] <;> with_reducible rfl) (by decide) ?_
                  repeat (refine awp_seq ?_)
                  refine awp_cond rfl (by simp only [jN, seval, vint, TyS, TyF, BdS, Int.cast_ofNat_Int] <;> with_reducible rfl) (fun b56 => ?_) (fun b56 => ?_)
                  ·
                    repeat (refine awp_seq ?_)
                    refine g_eval (by simp only [jG, jO, jN, seval, y3, y29, vint, TyS, TyF, BdS, Int.cast_ofNat_Int] <;> with_reducible rfl) (by decide) (by repeat (first | exact Fin.base _ | with_reducible apply Fin.keep | apply Fin.drop)) ?_
                    repeat (refine awp_seq ?_)
                    refine awp_ret ⟨.inr rfl, _, rfl, ?_⟩
                    simp only [jN, seval, vint, TyS, TyF, BdS]
                    simp_all [nwf]
                  ·
                    repeat (refine awp_seq ?_)
                    refine e_eval (by simp only [jA, jO, jN, seval, y3, vint, TyS, TyF, BdS, Int.cast_ofNat_Int] <;> with_reducible rfl) (by decide) ?_
                    repeat (refine awp_seq ?_)
                    refine awp_cond rfl (by simp only [jN, seval, vint, TyS, TyF, BdS, Int.cast_ofNat_Int] <;> with_reducible rfl) (fun b57 => ?_) (fun b57 => ?_)
                    ·
                      repeat (refine awp_seq ?_)
                      refine g_eval (by simp only [jG, jO, jN, seval, y3, y29, vint, TyS, TyF, BdS, Int.cast_ofNat_Int] <;> with_reducible rfl) (by decide) (by repeat (first | exact Fin.base _ | with_reducible apply Fin.keep | apply Fin.drop)) ?_
                      repeat (refine awp_seq ?_)
                      refine awp_ret ⟨.inr rfl, _, rfl, ?_⟩
                      simp only [jN, seval, vint, TyS, TyF, BdS]
                      simp_all [nwf]
                    ·
                      repeat (refine awp_seq ?_)
                      refine e_eval (by simp only [jA, jO, jN, seval, y3, vint, TyS, TyF, BdS, Int.cast_ofNat_Int] <;> with_reducible rfl) (by decide) ?_
                      repeat (refine awp_seq ?_)
                      refine awp_cond rfl (by simp only [jN, seval, vint, TyS, TyF, BdS, Int.cast_ofNat_Int] <;> with_reducible rfl) (fun b58 => ?_) (fun b58 => ?_)
                      ·
                        repeat (refine awp_seq ?_)
                        refine g_eval (by simp only [jG, jO, jN, seval, y3, y29, vint, TyS, TyF, BdS, Int.cast_ofNat_Int] <;> with_reducible rfl) (by decide) (by repeat (first | exact Fin.base _ | with_reducible apply Fin.keep | apply Fin.drop)) ?_
                        repeat (refine awp_seq ?_)
                        refine awp_ret ⟨.inr rfl, _, rfl, ?_⟩
                        simp only [jN, seval, vint, TyS, TyF, BdS]
                        simp_all [nwf]
                      ·
                        repeat (refine awp_seq ?_)
                        refine awp_skip ?_
                        repeat (refine awp_seq ?_)
                        refine e_eval (by simp only [jA, jO, jN, seval, vint, TyS, TyF, BdS, Int.cast_ofNat_Int] <;> with_reducible rfl) (by decide) ?_
                        repeat (refine awp_seq ?_)
                        refine awp_ret ⟨.inr rfl, _, rfl, ?_⟩
                        simp only [jN, seval, vint, TyS, TyF, BdS]
                        simp_all [nwf]
            ·
              repeat (refine awp_seq ?_)
              refine e_eval (by simp only [jA, jO, jN, seval, y3, vint, TyS, TyF, BdS, Int.cast_ofNat_Int] <;> with_reducible rfl) (by decide) ?_
              repeat (refine awp_seq ?_)
              refine awp_cond rfl (by simp only [jN, seval, vint, TyS, TyF, BdS, Int.cast_ofNat_Int] <;> with_reducible rfl) (fun b59 => ?_) (fun b59 => ?_)
              ·
                repeat (refine awp_seq ?_)
                refine g_eval (by simp only [jG, jO, jN, seval, y3, y29, vint, TyS, TyF, BdS, Int.cast_ofNat_Int] <;> with_reducible rfl) (by decide) (by repeat (first | exact Fin.base _ | with_reducible apply Fin.keep | apply Fin.drop)) ?_
                repeat (refine awp_seq ?_)
                refine awp_ret ⟨.inr rfl, _, rfl, ?_⟩
                simp only [jN, seval, vint, TyS, TyF, BdS]
                simp_all [nwf]
              ·
                repeat (refine awp_seq ?_)
                refine e_eval (by simp only [jA, jO, jN, seval, y3, vint, TyS, TyF, BdS, Int.cast_ofNat_Int] <;> with_reducible rfl) (by decide) ?_
                repeat (refine awp_seq ?_)
                refine awp_cond rfl (by simp only [jN, seval, vint, TyS, TyF, BdS, Int.cast_ofNat_Int] <;> with_reducible rfl) (fun b60 => ?_) (fun b60 => ?_)
                ·
                  repeat (refine awp_seq ?_)
                  refine e_eval (by simp only [jA, jO, jN, seval, y3, y29, vint, TyS, TyF, BdS, Int.cast_ofNat_Int] <;> with_reducible rfl) (by decide) ?_
                  repeat (refine awp_seq ?_)
                  refine awp_ret ⟨.inr rfl, _, rfl, ?_⟩
                  simp only [jN, seval, vint, TyS, TyF, BdS]
                  simp_all [nwf]
                ·
                  repeat (refine awp_seq ?_)
                  refine e_eval (by simp only [jA, jO, jN, seval, y3, vint, TyS, TyF, BdS, Int.cast_ofNat_Int] <;> with_reducible rfl) (by decide) ?_
                  repeat (refine awp_seq ?_)
                  refine awp_cond rfl (by simp only [jN, seval, vint, TyS, TyF, BdS, Int.cast_ofNat_Int] <;> with_reducible rfl) (fun b61 => ?_) (fun b61 => ?_)
                  ·
                    repeat (refine awp_seq ?_)
                    refine g_eval (by simp only [jG, jO, jN, seval, y3, y29, vint, TyS, TyF, BdS, Int.cast_ofNat_Int] <;> with_reducible rfl) (by decide) (by repeat (first | exact Fin.base _ | with_reducible apply Fin.keep | apply Fin.drop)) ?_
                    repeat (refine awp_seq ?_)
                    refine awp_ret ⟨.inr rfl, _, rfl, ?_⟩
                    simp only [jN, seval, vint, TyS, TyF, BdS]
                    simp_all [nwf]
                  ·
                    repeat (refine awp_seq ?_)
                    refine e_eval (by simp only [jA, jO, jN, seval, y3, vint, TyS, TyF, BdS, Int.cast_ofNat_Int] <;> with_reducible rfl) (by decide) ?_
                    repeat (refine awp_seq ?_)
                    refine awp_cond rfl (by simp only [jN, seval, vint, TyS, TyF, BdS, Int.cast_ofNat_Int] <;> with_reducible rfl) (fun b62 => ?_) (fun b62 => ?_)
                    ·
                      repeat (refine awp_seq ?_)
                      refine g_eval (by simp only [jG, jO, jN, seval, y3, y29, vint, TyS, TyF, BdS, Int.cast_ofNat_Int] <;> with_reducible rfl) (by decide) (by repeat (first | exact Fin.base _ | with_reducible apply Fin.keep | apply Fin.drop)) ?_
                      repeat (refine awp_seq ?_)
                      refine awp_ret ⟨.inr rfl, _, rfl, ?_⟩
                      simp only [jN, seval, vint, TyS, TyF, BdS]
                      simp_all [nwf]
                    ·
                      repeat (refine awp_seq ?_)
                      refine e_eval (by simp only [jA, jO, jN, seval, y3, vint, TyS, TyF, BdS, Int.cast_ofNat_Int] <;> with_reducible rfl) (by decide) ?_
                      repeat (refine awp_seq ?_)
                      refine awp_cond rfl (by simp only [jN, seval, vint, TyS, TyF, BdS, Int.cast_ofNat_Int] <;> with_reducible rfl) (fun b63 => ?_) (fun b63 => ?_)
                      ·
                        repeat (refine awp_seq ?_)
                        refine g_eval (by simp only [jG, jO, jN, seval, y3, y29, vint, TyS, TyF, BdS, Int.cast_ofNat_Int] <;> with_reducible rfl) (by decide) (by repeat (first | exact Fin.base _ | with_reducible apply Fin.keep | apply Fin.drop)) ?_
                        repeat (refine awp_seq ?_)
                        refine awp_ret ⟨.inr rfl, _, rfl, ?_⟩
                        simp only [jN, seval, vint, TyS, TyF, BdS]
                        simp_all [nwf]
                      ·
                        repeat (refine awp_seq ?_)
                        refine awp_skip ?_
                        repeat (refine awp_seq ?_)
                        refine e_eval (by simp only [jA, jO, jN, seval, vint, TyS, TyF, BdS, Int.cast_ofNat_Int] <;> with_reducible rfl) (by decide) ?_
                        repeat (refine awp_seq ?_)
                        refine awp_ret ⟨.inr rfl, _, rfl, ?_⟩
                        simp only [jN, seval, vint, TyS, TyF, BdS]
                        simp_all [nwf]

theorem wellFormed1 (H : Heap) (u : Ty) (b : Bool) (ih : PC Try.prog 57 [u.enc] (.bool b)) : ACalls Try.prog 71 [u.enc] H fun r' H' => r' = .bool (!b) ∧ H' = H := by
  refine keeps_of (N := 6) Try.func71 rfl rfl (by simp) (.bool _) fun hb' => ?_
  repeat (refine awp_seq ?_)
  refine e_eval (by simp only [jA, jO, jN, seval, y29, vint, TyS, TyF, BdS] <;> with_reducible rfl) (by decide) ?_
  repeat (refine awp_seq ?_)
  refine awp_region ?_
  refine e_take 1 (by simp only [jA, jO, jN, seval, y29, vint, TyS, TyF, BdS] <;> with_reducible rfl) (by decide) ?_
  refine aops_pure (by simp only [jC, jN, seval, vint, TyS, TyF, BdS] <;> with_reducible rfl) (by simp only [jC, jN, seval, vint, TyS, TyF, BdS]) (by decide) Trygo57 (ih _) ?_
  refine e_end (by simp only [jA, jO, jN, seval, vint, TyS, TyF, BdS] <;> with_reducible rfl) (by decide) ?_
  repeat (refine awp_seq ?_)
  refine awp_ret ⟨.inr rfl, _, _, rfl, ?_, (by first | exact (List.append_nil _).symm | rfl)⟩
  simp only [jN, seval, vint, TyS, TyF, BdS]

theorem wellFormed_k : ∀ (k : Nat) (t : Ty), t.size ≤ k → t.W → PC Try.prog 57 [t.enc] (.bool (wfT t))
  | 0, t, h, _ => by cases t; simp [Ty.size] at h
  | k + 1, t, h, hw => by
    refine pc_of (N := 11) Try.func57 rfl rfl (by simp) (by simp [Ty.bel]) (.bool _) ?_
    repeat (refine awp_seq ?_)
    refine e_eval (by simp only [jA, jO, jN, seval, y29, vint, TyS, TyF, BdS] <;> with_reducible rfl) (by decide) ?_
    repeat (refine awp_seq ?_)
    refine awp_region ?_
    refine aops_gstart ?_
    refine g_take 1 (by simp only [jG, jO, jN, seval, y29, vint, TyS, TyF, BdS] <;> with_reducible rfl) (by decide) ?_
    refine aops_gpure (by simp only [jE, jN, seval, vint, TyS, TyF, BdS] <;> with_reducible rfl) (by simp only [jE, jN, seval, vint, TyS, TyF, BdS] <;> with_reducible rfl) (by simp only [jE, jN, seval, vint, TyS, TyF, BdS]) (by decide) Trygo70 (fun hc => nodeWellFormed t _) ?_
    refine g_take 3 (by simp only [jG, jO, jN, seval, y27, y29, vint, TyS, TyF, BdS] <;> with_reducible rfl) (by decide) ?_
    refine aops_gpure (by simp only [jE, jN, seval, vint, TyS, TyF, BdS] <;> with_reducible rfl) (by simp only [jE, jN, seval, vint, TyS, TyF, BdS] <;> with_reducible rfl) (by simp only [jE, jN, seval, vint, TyS, TyF, BdS]) (by decide) Trygo68 (fun hc => containsFuncTy (p := fun u => !wfT u) ⟨Trygo71, by simp, fun u hu => wellFormed1 _ u _ (wellFormed_k k u (by have := Ty.size_arg hu; omega) (hw.arg hu))⟩ hw.lenMax) ?_
    refine g_end (by simp only [jG, jO, jN, seval, vint, TyS, TyF, BdS] <;> with_reducible rfl) (by decide) (by repeat (first | exact Fin.base _ | with_reducible apply Fin.keep | apply Fin.drop)) ?_
    repeat (refine awp_seq ?_)
    refine awp_ret ⟨.inr rfl, _, rfl, ?_⟩
    simp only [jN, seval, vint, TyS, TyF, BdS]
    rw [wfT_eq]

theorem wellFormed_c (t : Ty) (hw : t.W) : PC Try.prog 57 [t.enc] (.bool (wfT t)) := wellFormed_k t.size t (Nat.le_refl _) hw

theorem validate (t : Ty) (hw : t.W) : PC Try.prog 21 [t.enc] (vint (valT t)) := by
  refine pc_of (N := 19) Try.func21 rfl rfl (by simp) (by simp [Ty.bel]) (.int _ _) ?_
  repeat (refine awp_seq ?_)
  refine e_eval (by simp only [jA, jO, jN, seval, y29, vint, TyS, TyF, BdS] <;> with_reducible rfl) (by decide) ?_
  repeat (refine awp_seq ?_)
  refine awp_region ?_
  refine e_take 1 (by simp only [jA, jO, jN, seval, y29, vint, TyS, TyF, BdS] <;> with_reducible rfl) (by decide) ?_
  refine aops_pure (by simp only [jC, jN, seval, vint, TyS, TyF, BdS] <;> with_reducible rfl) (by simp only [jC, jN, seval, vint, TyS, TyF, BdS]) (by decide) Trygo56 (measure_k t.size t 100 (Nat.le_refl _) hw (by decide) (by decide) _) ?_
  refine e_end (by simp only [jA, jO, jN, seval, vint, TyS, TyF, BdS] <;> with_reducible rfl) (by decide) ?_
  repeat (refine awp_seq ?_)
  refine g_eval (by simp only [jG, jO, jN, seval, y3, vint, TyS, TyF, BdS] <;> with_reducible rfl) (by decide) (by repeat (first | exact Fin.base _ | with_reducible apply Fin.keep | apply Fin.drop)) ?_
  repeat (refine awp_seq ?_)
  refine awp_cond rfl (by simp only [jN, seval, vint, TyS, TyF, BdS] <;> with_reducible rfl) (fun b0 => ?_) (fun b0 => ?_)
  ·
    refine awp_sel [] (by simp only [jN, seval, vint, TyS, TyF, BdS] <;> with_reducible rfl) ?_
    repeat (refine awp_seq ?_)
    refine e_eval (by simp only [jA, jO, jN, seval, vint, TyS, TyF, BdS] <;> with_reducible rfl) (by decide) ?_
    repeat (refine awp_seq ?_)
    refine awp_ret ⟨.inr rfl, _, rfl, ?_⟩
    simp only [jN, seval, vint, TyS, TyF, BdS]
    simp_all [valT]
  ·
    repeat (refine awp_seq ?_)
    refine awp_skip ?_
    refine awp_sel [1] (by simp only [jN, seval, vint, TyS, TyF, BdS] <;> with_reducible rfl) ?_
    repeat (refine awp_seq ?_)
    refine awp_region ?_
    refine e_take 1 (by simp only [jA, jO, jN, seval, y29, vint, TyS, TyF, BdS] <;> with_reducible rfl) (by decide) ?_
    refine aops_pure (by simp only [jC, jN, seval, vint, TyS, TyF, BdS] <;> with_reducible rfl) (by simp only [jC, jN, seval, vint, TyS, TyF, BdS]) (by decide) Trygo57 (wellFormed_c t hw _) ?_
    refine e_end (by simp only [jA, jO, jN, seval, vint, TyS, TyF, BdS] <;> with_reducible rfl) (by decide) ?_
    repeat (refine awp_seq ?_)
    refine awp_cond rfl (by simp only [jN, seval, vint, TyS, TyF, BdS] <;> with_reducible rfl) (fun b1 => ?_) (fun b1 => ?_)
    ·
      repeat (refine awp_seq ?_)
      refine e_eval (by simp only [jA, jO, jN, seval, vint, TyS, TyF, BdS] <;> with_reducible rfl) (by decide) ?_
      repeat (refine awp_seq ?_)
      refine awp_ret ⟨.inr rfl, _, rfl, ?_⟩
      simp only [jN, seval, vint, TyS, TyF, BdS]
      simp_all [valT]
    ·
      repeat (refine awp_seq ?_)
      refine awp_skip ?_
      repeat (refine awp_seq ?_)
      refine e_eval (by simp only [jA, jO, jN, seval, vint, TyS, TyF, BdS] <;> with_reducible rfl) (by decide) ?_
      repeat (refine awp_seq ?_)
      refine awp_ret ⟨.inr rfl, _, rfl, ?_⟩
      simp only [jN, seval, vint, TyS, TyF, BdS]
      simp_all [valT]

theorem afv_k : ∀ (k : Nat) (t : Ty) (vs : List Int) (H : Heap) (id : Nat), t.size ≤ k → t.W → (vs.length + t.size) * 8 ≤ 2 ^ 47 → id < H.length →
    ACalls Try.prog 58 [.slice (vs.map vint) (.tok id), t.enc] (bH H id vs.length 1) fun r' H' => r' = .slice ((afv t vs).map vint) (.tok id) ∧ H' = bH H id (afv t vs).length 1
  | 0, t, vs, H, id, h, _, _, _ => by cases t; simp [Ty.size] at h
  | k + 1, t, vs, H, id, h, hw, hsz, hid => by
    have BH := bH_rules (sz := 1) hid
    have hts : t.size = 1 + Ty.sizes t.args := by cases t; simp [Ty.size, Ty.args]
    have em : maxLen = 9223372036854775807 := by decide
    have heq := afv_eq t vs
    refine muts_raw (N := 34) Try.func58 rfl rfl (by simp) (bel_int_tok _ (by rw [bH_len]; exact hid)) (by simp only [bH_len]) (fun hb => bH_bel hb) fun hb' => ?_
    rw [bH_len] at hb' ⊢
    repeat (refine awp_seq ?_)
    refine e_eval (by simp only [jA, jO, jN, seval, y29, vint, TyS, TyF, BdS, BH] <;> with_reducible rfl) (by decide) ?_
    repeat (refine awp_seq ?_)
    refine awp_region ?_
    refine aops_gstart ?_
    refine g_take 7 (by simp only [jG, jO, jN, seval, y3, y29, vint, TyS, TyF, BdS, BH] <;> with_reducible rfl) (by decide) ?_
    refine aops_gpure (by simp only [jE, jN, seval, vint, TyS, TyF, BdS, BH] <;> with_reducible rfl) (by simp only [jE, jN, seval, vint, TyS, TyF, BdS, BH] <;> with_reducible rfl) (by simp only [jE, jN, seval, vint, TyS, TyF, BdS, BH]) (by decide) Trygo72 (fun hc => containsInt vs t.id (by rw [em]; omega) _) ?_
    refine g_end (by simp only [jG, jO, jN, seval, vint, TyS, TyF, BdS, BH] <;> with_reducible rfl) (by decide) (by repeat (first | exact Fin.base _ | with_reducible apply Fin.keep | apply Fin.drop)) ?_
    repeat (refine awp_seq ?_)
    refine awp_cond rfl (by simp only [jN, seval, vint, TyS, TyF, BdS, BH] <;> with_reducible rfl) (fun b0 => ?_) (fun b0 => ?_)
    ·
      have happ := fun fresh L => app_int (us := vs) (u := t.id) (id := id) (tl := .full) (by omega) fresh (bH H id vs.length 1 ++ L) (BH.1 _ _)
      rw [if_pos b0] at heq
      have hq0 : ((vs ++ [t.id]).length + Ty.sizes t.args) * 8 ≤ 2 ^ 47 := by simp; omega
      repeat (refine awp_seq ?_)
      refine e_eval (by simp only [jA, jO, jN, seval, y3, y29, y50, vint, TyS, TyF, BdS, BH, happ] <;> with_reducible rfl) (by decide) ?_
      refine awp_sel [0, 3] (by simp only [jN, seval, vint, TyS, TyF, BdS, BH] <;> with_reducible rfl) ?_
      repeat (refine awp_seq ?_)
      refine e_eval (by simp only [jA, jO, jN, seval, y27, y29, vint, TyS, TyF, BdS, BH] <;> with_reducible rfl) (by decide) ?_
      repeat (refine awp_seq ?_)
      refine awp_forS (σ := List Int) (t.args.length) (fun (q : List Int) => [(0, .slice (q.map vint) (.tok id)), (23, .slice (t.args.map Ty.enc) .none)]) [0, 23] ([]) (fun (q : List Int) => bH H id q.length 1 ++ [.row t.enc.cells]) (fun (i : Nat) (q : List Int) => (q.length + Ty.sizes (t.args.drop i)) * 8 ≤ 2 ^ 47 ∧ afvL ((t.args.map afv).drop i) q = afv t vs) (_) ([]) rfl rfl rfl rfl rfl rfl rfl rfl rfl (by decide) (by decide) (by decide) (fun _ => rfl) (hw.lenMax) ⟨(by first | rfl | (simp only [jN, seval, vint, TyS, TyF, BdS, BH] <;> first | done | with_reducible rfl)), (by first | rfl | (simp only [jN, seval, vint, TyS, TyF, BdS, BH] <;> first | done | with_reducible rfl)), (by first | rfl | (simp only [jN, seval, vint, TyS, TyF, BdS, BH] <;> first | done | with_reducible rfl)), (by first | rfl | (simp only [jN, seval, vint, TyS, TyF, BdS, BH] <;> first | done | with_reducible rfl)), trivial⟩ (by first | rfl | (simp only [jN, seval, vint, TyS, TyF, BdS, BH] <;> first | done | with_reducible rfl)) (⟨hq0, heq.symm⟩) (fun i q hg => by simp only [List.nil_append, List.length_append, bH_len]; omega) ?_ ?_ ?_
      · intro i q hg
        refine ⟨?_, .cons (bel_int_tok _ (by simp [bH_len]; omega)) (.cons (bel_slice_ty _ _) .nil)⟩
        simp only [List.nil_append, TyS]
        refine hbel_app' (bH_bel hb') (by simp [bH_len]) ?_
        repeat (first | exact hbel_nil _ | exact trivial | exact obel_row_nil _ | (refine HBel.cons ?_ ?_) | (refine obel_row_cons (by first | exact bel_Bd _ _ | exact Bd.bel _ _ | exact bel_ints0 _ _ | exact bel_slice_ty _ _ | exact Ty.bel _ _ | exact bel_ty_tok _ (by simp) | exact Bel.int _ _ | exact Bel.bool _ | exact Bel.str _ | exact Bel.nilp | exact Bel.nilfn | exact Bel.optr _ _ (by simp) | exact bel_nil0 _ | exact bel_nil1 _ | exact bel_fn0 _ _ | assumption) ?_))
      · intro i q hi hg
        obtain ⟨hq, hg⟩ := hg
        have g1 := ix_nat hi
        have g2 := get_enc Ty.enc hi
        have hmem : t.args[i] ∈ t.args := List.getElem_mem hi
        rw [List.drop_eq_getElem_cons hi, Ty.sizes] at hq
        rw [List.drop_eq_getElem_cons (by simpa using hi), List.getElem_map, afvL_cons] at hg
        have hal := afv_len t.args[i] q
        have ih := afv_k k t.args[i] q (bH H id q.length 1 ++ [.row [.int .i64 t.kind, .int .i64 t.id, .slice (t.args.map Ty.enc) .none], .row [.int .i64 t.args[i].kind, .int .i64 t.args[i].id, .slice (t.args[i].args.map Ty.enc) .none]]) id (by have := Ty.size_arg hmem; omega) (hw.arg hmem) (by omega) (by simp [bH_len]; omega)
        simp only [BH] at ih
        repeat (refine awp_seq ?_)
        refine e_eval (by simp only [jA, jO, jN, seval, y27, y29, vint, TyS, TyF, BdS, BH, g1, g2, Int.toNat_natCast] <;> with_reducible rfl) (by decide) ?_
        repeat (refine awp_seq ?_)
        refine awp_region ?_
        refine e_take 2 (by simp only [jA, jO, jN, seval, y29, vint, TyS, TyF, BdS, BH, g1, g2, Int.toNat_natCast] <;> with_reducible rfl) (by decide) ?_
        refine aops_callR (by simp only [jC, jN, seval, vint, TyS, TyF, BdS, BH, g1, g2, Int.toNat_natCast] <;> with_reducible rfl) (by simp only [jC, jN, seval, vint, TyS, TyF, BdS, BH, g1, g2, Int.toNat_natCast]) (by decide) Trygo58 (ih) ?_
        rintro _ _ ⟨rfl, rfl⟩
        refine e_end (by simp only [jA, jO, jN, seval, vint, TyS, TyF, BdS, BH, g1, g2, Int.toNat_natCast] <;> with_reducible rfl) (by decide) ?_
        exact ⟨⟨rfl, rfl, trivial⟩, afv t.args[i] q, _, ⟨rfl, rfl, trivial⟩, by simp only [jN, seval, vint, TyS, TyF, BdS] <;> rfl, ⟨by omega, hg⟩⟩
      · intro q hg
        obtain ⟨hq, hg⟩ := hg
        rw [List.drop_eq_nil_of_le (by simp), afvL_nil] at hg
        subst hg
        repeat (refine awp_seq ?_)
        refine e_eval (by simp only [jA, jO, jN, seval, vint, TyS, TyF, BdS, BH] <;> with_reducible rfl) (by decide) ?_
        repeat (refine awp_seq ?_)
        refine awp_ret ⟨.inr rfl, _, _, rfl, ?_, (by first | exact (List.append_nil _).symm | rfl)⟩
        rfl
    ·
      rw [if_neg (by rw [b0]; simp)] at heq
      have hq0 : (vs.length + Ty.sizes t.args) * 8 ≤ 2 ^ 47 := by omega
      repeat (refine awp_seq ?_)
      refine awp_skip ?_
      repeat (refine awp_seq ?_)
      refine e_eval (by simp only [jA, jO, jN, seval, y27, y29, vint, TyS, TyF, BdS, BH] <;> with_reducible rfl) (by decide) ?_
      repeat (refine awp_seq ?_)
      refine awp_forS (σ := List Int) (t.args.length) (fun (q : List Int) => [(0, .slice (q.map vint) (.tok id)), (23, .slice (t.args.map Ty.enc) .none)]) [0, 23] ([]) (fun (q : List Int) => bH H id q.length 1 ++ [.row t.enc.cells]) (fun (i : Nat) (q : List Int) => (q.length + Ty.sizes (t.args.drop i)) * 8 ≤ 2 ^ 47 ∧ afvL ((t.args.map afv).drop i) q = afv t vs) (_) ([]) rfl rfl rfl rfl rfl rfl rfl rfl rfl (by decide) (by decide) (by decide) (fun _ => rfl) (hw.lenMax) ⟨(by first | rfl | (simp only [jN, seval, vint, TyS, TyF, BdS, BH] <;> first | done | with_reducible rfl)), (by first | rfl | (simp only [jN, seval, vint, TyS, TyF, BdS, BH] <;> first | done | with_reducible rfl)), (by first | rfl | (simp only [jN, seval, vint, TyS, TyF, BdS, BH] <;> first | done | with_reducible rfl)), (by first | rfl | (simp only [jN, seval, vint, TyS, TyF, BdS, BH] <;> first | done | with_reducible rfl)), trivial⟩ (by first | rfl | (simp only [jN, seval, vint, TyS, TyF, BdS, BH] <;> first | done | with_reducible rfl)) (⟨hq0, heq.symm⟩) (fun i q hg => by simp only [List.nil_append, List.length_append, bH_len]; omega) ?_ ?_ ?_
      · intro i q hg
        refine ⟨?_, .cons (bel_int_tok _ (by simp [bH_len]; omega)) (.cons (bel_slice_ty _ _) .nil)⟩
        simp only [List.nil_append, TyS]
        refine hbel_app' (bH_bel hb') (by simp [bH_len]) ?_
        repeat (first | exact hbel_nil _ | exact trivial | exact obel_row_nil _ | (refine HBel.cons ?_ ?_) | (refine obel_row_cons (by first | exact bel_Bd _ _ | exact Bd.bel _ _ | exact bel_ints0 _ _ | exact bel_slice_ty _ _ | exact Ty.bel _ _ | exact bel_ty_tok _ (by simp) | exact Bel.int _ _ | exact Bel.bool _ | exact Bel.str _ | exact Bel.nilp | exact Bel.nilfn | exact Bel.optr _ _ (by simp) | exact bel_nil0 _ | exact bel_nil1 _ | exact bel_fn0 _ _ | assumption) ?_))
      · intro i q hi hg
        obtain ⟨hq, hg⟩ := hg
        have g1 := ix_nat hi
        have g2 := get_enc Ty.enc hi
        have hmem : t.args[i] ∈ t.args := List.getElem_mem hi
        rw [List.drop_eq_getElem_cons hi, Ty.sizes] at hq
        rw [List.drop_eq_getElem_cons (by simpa using hi), List.getElem_map, afvL_cons] at hg
        have hal := afv_len t.args[i] q
        have ih := afv_k k t.args[i] q (bH H id q.length 1 ++ [.row [.int .i64 t.kind, .int .i64 t.id, .slice (t.args.map Ty.enc) .none], .row [.int .i64 t.args[i].kind, .int .i64 t.args[i].id, .slice (t.args[i].args.map Ty.enc) .none]]) id (by have := Ty.size_arg hmem; omega) (hw.arg hmem) (by omega) (by simp [bH_len]; omega)
        simp only [BH] at ih
        repeat (refine awp_seq ?_)
        refine e_eval (by simp only [jA, jO, jN, seval, y27, y29, vint, TyS, TyF, BdS, BH, g1, g2, Int.toNat_natCast] <;> with_reducible rfl) (by decide) ?_
        repeat (refine awp_seq ?_)
        refine awp_region ?_
        refine e_take 2 (by simp only [jA, jO, jN, seval, y29, vint, TyS, TyF, BdS, BH, g1, g2, Int.toNat_natCast] <;> with_reducible rfl) (by decide) ?_
        refine aops_callR (by simp only [jC, jN, seval, vint, TyS, TyF, BdS, BH, g1, g2, Int.toNat_natCast] <;> with_reducible rfl) (by simp only [jC, jN, seval, vint, TyS, TyF, BdS, BH, g1, g2, Int.toNat_natCast]) (by decide) Trygo58 (ih) ?_
        rintro _ _ ⟨rfl, rfl⟩
        refine e_end (by simp only [jA, jO, jN, seval, vint, TyS, TyF, BdS, BH, g1, g2, Int.toNat_natCast] <;> with_reducible rfl) (by decide) ?_
        exact ⟨⟨rfl, rfl, trivial⟩, afv t.args[i] q, _, ⟨rfl, rfl, trivial⟩, by simp only [jN, seval, vint, TyS, TyF, BdS] <;> rfl, ⟨by omega, hg⟩⟩
      · intro q hg
        obtain ⟨hq, hg⟩ := hg
        rw [List.drop_eq_nil_of_le (by simp), afvL_nil] at hg
        subst hg
        repeat (refine awp_seq ?_)
        refine e_eval (by simp only [jA, jO, jN, seval, vint, TyS, TyF, BdS, BH] <;> with_reducible rfl) (by decide) ?_
        repeat (refine awp_seq ?_)
        refine awp_ret ⟨.inr rfl, _, _, rfl, ?_, (by first | exact (List.append_nil _).symm | rfl)⟩
        rfl

theorem freeVars (t : Ty) (hw : t.W) (hs : t.size * 8 ≤ 2 ^ 47) : PC Try.prog 25 [t.enc] (.slice ((afv t []).map vint) .none) := by
  refine pc_of (N := 5) Try.func25 rfl rfl (by simp) (by simp [Ty.bel]) (bel_ints0 _ _) ?_
  repeat (refine awp_seq ?_)
  refine e_eval (by simp only [jA, jO, jN, seval, y29, vint, TyS, TyF, BdS] <;> with_reducible rfl) (by decide) ?_
  repeat (refine awp_seq ?_)
  refine awp_region ?_
  refine e_take 1 (by simp only [jA, jO, jN, seval, y29, vint, TyS, TyF, BdS] <;> with_reducible rfl) (by decide) ?_
  refine aops_callR (by simp only [jC, jN, seval, vint, TyS, TyF, BdS] <;> with_reducible rfl) (by simp only [jC, jN, seval, vint, TyS, TyF, BdS]) (by decide) Trygo58 (ACalls.retok (es := []) 1 (by have := afv_k t.size t [] [.row [.int .i64 t.kind, .int .i64 t.id, .slice (t.args.map Ty.enc) .none], .buf 0 1] 1 (Nat.le_refl _) hw (by simp; omega) (by simp); exact this)) ?_
  rintro _ _ ⟨rfl, rfl⟩
  refine e_end (by simp only [jA, jO, jN, seval, vint, TyS, TyF, BdS] <;> with_reducible rfl) (by decide) ?_
  repeat (refine awp_seq ?_)
  refine awp_ret ⟨.inr rfl, _, rfl, ?_⟩
  rfl

end Go.Abs
set_option maxRecDepth 4000
namespace Go.Abs
open Go.Proofs
theorem bel_mp {α : Type} (f : α → PV) (n : Nat) (B : List (Int × α)) (h : ∀ a, Bel n (f a)) : ∀ e ∈ mp f B, Bel n e.2 := fun e he => by
  obtain ⟨x, _, rfl⟩ := List.mem_map.1 he; exact h _

theorem head_k (B : Bs) {is im : Nat} {p : PV} {n : Nat} {t r : Ty} {H : Heap} (h : headF n B t = some r) (hs : H[is]? = some (.row [.mapp im, p])) (hm : H[im]? = some (.obj (.mapo (mp Ty.enc B)))) :
    ACalls Try.prog 63 [.optr is 0, t.enc] H fun r' H' => r' = r.enc ∧ H' = H := by
  have q1 : ∀ L, (H ++ L)[is]? = some (.row [.mapp im, p]) := fun L => by rw [List.getElem?_append_left (len_of_get hs)]; exact hs
  have q2 : ∀ L, (H ++ L)[im]? = some (.obj (.mapo (mp Ty.enc B))) := fun L => by rw [List.getElem?_append_left (len_of_get hm)]; exact hm
  have ms := len_of_get hs
  have mm := len_of_get hm
  have ffs : ∀ k, (H.length + k == is) = false := fun k => by simp; omega
  have ffm : ∀ k, (H.length + k == im) = false := fun k => by simp; omega
  refine keeps_of (N := 24) Try.func63 rfl rfl (by simp) (Ty.bel _ _) fun hb' => ?_
  repeat (refine awp_seq ?_)
  refine e_eval (by simp only [jA, jO, jN, seval, y29, vint, TyS, TyF, MapS, q1, q2, ffs, ffm, Bool.not_false, Bool.and_self] <;> with_reducible rfl) (by decide) ?_
  repeat (refine awp_seq ?_)
  refine awp_block ?_
  refine awp_loopS (σ := Nat × Ty) (fun (q : Nat × Ty) => [(0, .optr is 0), (3, .optr H.length 0), (4, .optr (H.length + 1) 0)]) (H) (fun (q : Nat × Ty) => [.row q.2.enc.cells, .row [vint 0, vint 0, .slice [] .full]]) (fun (q : Nat × Ty) => q.1) (fun (q : Nat × Ty) => headF q.1 B q.2 = some r) ((n, t)) ([]) ⟨(by first | rfl | (simp only [jN, seval, vint, TyS, TyF, MapS, q1, q2, ffs, ffm, Bool.not_false, Bool.and_self] <;> first | done | with_reducible rfl)), (by first | rfl | (simp only [jN, seval, vint, TyS, TyF, MapS, q1, q2, ffs, ffm, Bool.not_false, Bool.and_self] <;> first | done | with_reducible rfl)), (by first | rfl | (simp only [jN, seval, vint, TyS, TyF, MapS, q1, q2, ffs, ffm, Bool.not_false, Bool.and_self] <;> first | done | with_reducible rfl)), trivial⟩ (by first | rfl | (simp only [jN, seval, vint, TyS, TyF, MapS, q1, q2, ffs, ffm, Bool.not_false, Bool.and_self] <;> first | done | with_reducible rfl)) (h) (fun _ _ => by first | exact Nat.zero_le _ | (simp only [List.length_append]; omega)) ?_ ?_
  · intro q hg
    simp only [TyS]
    exact ⟨by first | exact hbel_nil _ | (simp only [List.append_nil]; assumption) | (refine hbel_app' hb' (by simp) ?_; repeat (first | exact hbel_nil _ | exact trivial | exact obel_row_nil _ | (refine HBel.cons ?_ ?_) | (refine obel_row_cons (by first | exact bel_ints0 _ _ | exact bel_slice_ty _ _ | exact Ty.bel _ _ | exact bel_ty_tok _ (by first | (simp; done) | (simp; omega)) | exact Bel.int _ _ | exact Bel.bool _ | exact Bel.str _ | exact Bel.nilp | exact Bel.nilfn | exact Bel.optr _ _ (by first | (simp; done) | (simp; omega)) | exact bel_nil0 _ | exact bel_nil1 _ | exact bel_fn0 _ _ | assumption) ?_))), by repeat (first | exact BelL.nil | refine BelL.cons (by first | exact bel_ints0 _ _ | exact bel_slice_ty _ _ | exact Ty.bel _ _ | exact bel_ty_tok _ (by first | (simp; done) | (simp; omega)) | exact Bel.int _ _ | exact Bel.bool _ | exact Bel.str _ | exact Bel.nilp | exact Bel.nilfn | exact Bel.optr _ _ (by first | (simp; done) | (simp; omega)) | exact bel_nil0 _ | exact bel_nil1 _ | exact bel_fn0 _ _ | assumption) ?_)⟩
  · intro q hg
    obtain ⟨n, u0⟩ := q
    obtain ⟨n, rfl⟩ : ∃ k, n = k + 1 := by
      cases n with
      | zero => cases hg
      | succ n => exact ⟨n, rfl⟩
    simp only [headF] at hg
    repeat (refine awp_seq ?_)
    refine e_eval (by simp only [jA, jO, jN, seval, y3, y29, vint, TyS, TyF, MapS, q1, q2, ffs, ffm, Bool.not_false, Bool.and_self] <;> with_reducible rfl) (by decide) ?_
    repeat (refine awp_seq ?_)
    refine awp_cond rfl (by simp only [jN, seval, vint, TyS, TyF, MapS, q1, q2, ffs, ffm, Bool.not_false, Bool.and_self] <;> with_reducible rfl) (fun b0 => ?_) (fun b0 => ?_)
    ·
      rw [if_pos (of_decide_eq_true b0)] at hg
      repeat (refine awp_seq ?_)
      refine awp_skip ?_
      repeat (refine awp_seq ?_)
      refine awp_block ?_
      rcases hl : lk B u0.id with _ | u
      ·
        rw [hl] at hg
        cases hg
        repeat (refine awp_seq ?_)
        refine awp_draw 1 (by kernel_rfl) ?_
        refine d_take (bm := [0, 1, 3, 7, 0, 16, 63, 127, 255, 255, 0, 1535, 4095]) 10 (fresh := ((H.length + 2))) (by kernel_rfl) (by simp only [jD, jO, jN, seval, y3, y29, y58, y60, vint, TyS, TyF, MapS, q1, q2, ffs, ffm, Bool.not_false, Bool.and_self, mget_mp, hl, Option.map_none] <;> with_reducible rfl) (by decide) (by decide) ?_
        refine d_end (bm := [0, 1, 3, 7, 0, 16, 63, 127, 255, 255, 0, 1535, 4095]) (fresh := ((H.length + 2))) (by kernel_rfl) (by simp only [jD, jO, jN, seval, y29, vint, TyS, TyF, MapS, q1, q2, ffs, ffm, Bool.not_false, Bool.and_self, mget_mp, hl, Option.map_none] <;> with_reducible rfl) (by decide) ?_
        refine awp_sel [0, 3, 4, 5, 6] (by simp only [jN, seval, vint, TyS, TyF, MapS, q1, q2, ffs, ffm, Bool.not_false, Bool.and_self, mget_mp, hl, Option.map_none] <;> with_reducible rfl) ?_
        repeat (refine awp_seq ?_)
        refine e_eval (by simp only [jA, jO, jN, seval, vint, TyS, TyF, MapS, q1, q2, ffs, ffm, Bool.not_false, Bool.and_self, mget_mp, hl, Option.map_none] <;> with_reducible rfl) (by decide) ?_
        repeat (refine awp_seq ?_)
        refine awp_cond_true rfl (by simp only [jN, seval, vint, TyS, TyF, MapS, q1, q2, ffs, ffm, Bool.not_false, Bool.and_self, mget_mp, hl, Option.map_none] <;> with_reducible rfl) ?_
        repeat (refine awp_seq ?_)
        refine awp_exit ?_
        simp only [thenQ, blockQ, reduceIte, Nat.reduceEqDiff, Nat.succ_ne_self, if_true, if_false]
        repeat (refine awp_seq ?_)
        refine e_eval (by simp only [jA, jO, jN, seval, y29, vint, TyS, TyF, MapS, q1, q2, ffs, ffm, Bool.not_false, Bool.and_self, mget_mp, hl, Option.map_none] <;> with_reducible rfl) (by decide) ?_
        repeat (refine awp_seq ?_)
        refine awp_ret ⟨.inr rfl, _, _, (ares_cell 4 29 rfl Tryti29 (by decide) (by simp only [jL, jN, seval, vint, TyS, TyF, MapS, q1, q2, ffs, ffm, Bool.not_false, Bool.and_self, mget_mp, hl, Option.map_none] <;> with_reducible rfl)), ?_, (by first | exact (List.append_nil _).symm | rfl)⟩
        exact Ty.enc_drop1 _
      ·
        rw [hl] at hg
        repeat (refine awp_seq ?_)
        refine awp_draw 1 (by kernel_rfl) ?_
        refine d_take (bm := [0, 1, 3, 7, 0, 16, 63, 127, 255, 255, 0, 1535, 4095]) 10 (fresh := ((H.length + 2))) (by kernel_rfl) (by simp only [jD, jO, jN, seval, y3, y29, y58, y60, vint, TyS, TyF, MapS, q1, q2, ffs, ffm, Bool.not_false, Bool.and_self, mget_mp, hl, Option.map_some] <;> with_reducible rfl) (by decide) (by decide) ?_
        refine d_end (bm := [0, 1, 3, 7, 0, 16, 63, 127, 255, 255, 0, 1535, 4095]) (fresh := ((H.length + 2))) (by kernel_rfl) (by simp only [jD, jO, jN, seval, y29, vint, TyS, TyF, MapS, q1, q2, ffs, ffm, Bool.not_false, Bool.and_self, mget_mp, hl, Option.map_some] <;> with_reducible rfl) (by decide) ?_
        refine awp_sel [0, 3, 4, 5, 6] (by simp only [jN, seval, vint, TyS, TyF, MapS, q1, q2, ffs, ffm, Bool.not_false, Bool.and_self, mget_mp, hl, Option.map_some] <;> with_reducible rfl) ?_
        repeat (refine awp_seq ?_)
        refine e_eval (by simp only [jA, jO, jN, seval, vint, TyS, TyF, MapS, q1, q2, ffs, ffm, Bool.not_false, Bool.and_self, mget_mp, hl, Option.map_some] <;> with_reducible rfl) (by decide) ?_
        repeat (refine awp_seq ?_)
        refine awp_cond_false rfl (by simp only [jN, seval, vint, TyS, TyF, MapS, q1, q2, ffs, ffm, Bool.not_false, Bool.and_self, mget_mp, hl, Option.map_some] <;> with_reducible rfl) ?_
        repeat (refine awp_seq ?_)
        refine awp_skip ?_
        repeat (refine awp_seq ?_)
        refine e_eval (by simp only [jA, jO, jN, seval, y29, vint, TyS, TyF, MapS, q1, q2, ffs, ffm, Bool.not_false, Bool.and_self, mget_mp, hl, Option.map_some] <;> with_reducible rfl) (by decide) ?_
        try simp only [thenQ, blockQ]
        exact ⟨(n, u), _, Nat.lt_succ_self n, ⟨rfl, rfl, rfl, trivial⟩, (by simp only [jN, seval, vint, TyS, TyF, MapS] <;> rfl), hg⟩
    ·
      rw [if_neg (of_decide_eq_false b0)] at hg
      cases hg
      repeat (refine awp_seq ?_)
      refine awp_exit ?_
      simp only [thenQ, blockQ, reduceIte, Nat.reduceEqDiff, Nat.succ_ne_self, if_true, if_false]
      repeat (refine awp_seq ?_)
      refine e_eval (by simp only [jA, jO, jN, seval, y29, vint, TyS, TyF, MapS, q1, q2, ffs, ffm, Bool.not_false, Bool.and_self] <;> with_reducible rfl) (by decide) ?_
      repeat (refine awp_seq ?_)
      refine awp_ret ⟨.inr rfl, _, _, (ares_cell 4 29 rfl Tryti29 (by decide) (by simp only [jL, jN, seval, vint, TyS, TyF, MapS, q1, q2, ffs, ffm, Bool.not_false, Bool.and_self] <;> with_reducible rfl)), ?_, (by first | exact (List.append_nil _).symm | rfl)⟩
      exact Ty.enc_drop1 _

structure CloS {σ : Type} (P : Program) (f : FuncId) (caps : List PV) (H : Heap) (iv : Nat) (en : σ → List (Int × PV)) (us : List Ty) (g : Ty → σ → Option (Bool × σ)) : Prop where
  go : goFn P f = true
  lt : iv < H.length
  bel : ∀ c ∈ caps, Bel H.length c
  enb : ∀ s m, ∀ e ∈ en s, Bel m e.2
  call : ∀ u ∈ us, ∀ s b s', g u s = some (b, s') → ACalls P f (u.enc :: caps) (uH H iv (en s)) fun r' H' => r' = .bool b ∧ H' = uH H iv (en s')

theorem indexFuncS {σ : Type} {f : FuncId} {caps : List PV} {H : Heap} {iv : Nat} {en : σ → List (Int × PV)} {us : List Ty} {g : Ty → σ → Option (Bool × σ)} {s s2 : σ} {r : Int} (hc : CloS Try.prog f caps H iv en us g) (hl : us.length ≤ maxLen) (h : idxS g us s 0 = some (r, s2)) :
    ACalls Try.prog 84 [.slice (us.map Ty.enc) .none, .fn (.func f) [] caps] (uH H iv (en s)) fun r' H' => r' = vint r ∧ H' = uH H iv (en s2) := by
  have hgo := hc.go
  refine muts_of (N := 19) Try.func84 rfl rfl (by simp) (.int _ _) (by simp only [uH_len]) (fun hb => by rw [uH_len] at hb ⊢; exact uH_bel hb (hc.enb _ _)) fun hb' => ?_
  rw [uH_len]
  rw [uH_len] at hb'
  repeat (refine awp_seq ?_)
  refine e_eval (by simp only [jA, jO, jN, seval, vint, TyS, TyF, MapS] <;> with_reducible rfl) (by decide) ?_
  repeat (refine awp_seq ?_)
  refine e_eval (by simp only [jA, jO, jN, seval, y27, y29, vint, TyS, TyF, MapS] <;> with_reducible rfl) (by decide) ?_
  repeat (refine awp_seq ?_)
  refine awp_forS (σ := σ) (us.length) (fun (q : σ) => [(0, .slice (us.map Ty.enc) .none), (1, .fn (.func f) [] caps)]) [0, 1] ([]) (fun (q : σ) => uH H iv (en q)) (fun (i : Nat) (q : σ) => idxS g (us.drop i) q i = some (r, s2)) (s) ([]) rfl rfl rfl rfl rfl rfl rfl rfl rfl (by decide) (by decide) (by decide) (fun _ => rfl) (hl) ⟨(by first | rfl | (simp only [jN, seval, vint, TyS, TyF, MapS] <;> first | done | with_reducible rfl)), (by first | rfl | (simp only [jN, seval, vint, TyS, TyF, MapS] <;> first | done | with_reducible rfl)), (by first | rfl | (simp only [jN, seval, vint, TyS, TyF, MapS] <;> first | done | with_reducible rfl)), (by first | rfl | (simp only [jN, seval, vint, TyS, TyF, MapS] <;> first | done | with_reducible rfl)), trivial⟩ (by first | rfl | (simp only [jN, seval, vint, TyS, TyF, MapS] <;> first | done | with_reducible rfl)) (h) (fun i q hg => by simp only [List.nil_append, uH_len]; exact Nat.le_refl _) ?_ ?_ ?_
  · exact fun i q hg => ⟨by simp only [List.nil_append, uH_len]; exact uH_bel hb' (hc.enb _ _), .cons (bel_Ty _ _) (.cons (.fn _ _ _ (by simp) (fun c hc' => (hc.bel c hc').mono (by simp [uH_len]))) .nil)⟩
  · intro i q hi hg
    have g1 := ix_nat hi
    have g2 := get_enc Ty.enc hi
    rw [List.drop_eq_getElem_cons hi] at hg
    simp only [idxS] at hg
    obtain ⟨⟨b, q'⟩, e1, hg⟩ := Option.bind_eq_some_iff.1 hg
    repeat (refine awp_seq ?_)
    refine e_eval (by simp only [jA, jO, jN, seval, vint, TyS, TyF, MapS, g1, Int.toNat_natCast, g2] <;> with_reducible rfl) (by decide) ?_
    repeat (refine awp_seq ?_)
    refine awp_region ?_
    refine e_take 5 (by simp only [jA, jO, jN, seval, y27, y29, vint, TyS, TyF, MapS, g1, Int.toNat_natCast, g2] <;> with_reducible rfl) (by decide) ?_
    refine aops_acall (by simp only [jC, jN, seval, vint, TyS, TyF, MapS, g1, Int.toNat_natCast, g2] <;> with_reducible rfl) (by simp only [jC, jN, seval, vint, TyS, TyF, MapS, g1, Int.toNat_natCast, g2]) (by decide) (by assumption) (hc.call _ (List.getElem_mem hi) _ _ _ e1) ?_
    rintro _ _ ⟨rfl, rfl⟩
    refine aops_nil ?_
    repeat (refine awp_seq ?_)
    refine awp_cond rfl (by simp only [jN, seval, vint, TyS, TyF, MapS, g1, Int.toNat_natCast, g2] <;> with_reducible rfl) (fun b0 => ?_) (fun b0 => ?_)
    ·
      rw [if_pos b0] at hg
      cases hg
      repeat (refine awp_seq ?_)
      refine e_eval (by simp only [jA, jO, jN, seval, vint, TyS, TyF, MapS, g1, Int.toNat_natCast, g2] <;> with_reducible rfl) (by decide) ?_
      repeat (refine awp_seq ?_)
      refine awp_ret ⟨.inr rfl, _, _, rfl, ?_, (by first | exact (List.append_nil _).symm | rfl)⟩
      simp only [jN, seval, vint, TyS, TyF, MapS]
    ·
      rw [if_neg (by rw [b0]; simp)] at hg
      repeat (refine awp_seq ?_)
      refine awp_skip ?_
      exact ⟨⟨rfl, rfl, trivial⟩, q', [], ⟨rfl, rfl, trivial⟩, by simp only [List.append_nil, List.nil_append], hg⟩
  · intro q hg
    rw [List.drop_eq_nil_of_le (Nat.le_refl _)] at hg
    cases hg
    repeat (refine awp_seq ?_)
    refine e_eval (by simp only [jA, jO, jN, seval, vint, TyS, TyF, MapS] <;> with_reducible rfl) (by decide) ?_
    repeat (refine awp_seq ?_)
    refine awp_ret ⟨.inr rfl, _, _, rfl, ?_, (by first | exact (List.append_nil _).symm | rfl)⟩
    simp only [jN, seval, vint, TyS, TyF, MapS]

theorem containsFuncS {σ : Type} {f : FuncId} {caps : List PV} {H : Heap} {iv : Nat} {en : σ → List (Int × PV)} {us : List Ty} {g : Ty → σ → Option (Bool × σ)} {s s2 : σ} {b : Bool} (hc : CloS Try.prog f caps H iv en us g) (hl : us.length ≤ maxLen) (h : anyS g us s = some (b, s2)) :
    ACalls Try.prog 68 [.slice (us.map Ty.enc) .none, .fn (.func f) [] caps] (uH H iv (en s)) fun r' H' => r' = .bool b ∧ H' = uH H iv (en s2) := by
  unfold anyS at h
  obtain ⟨⟨r, s3⟩, hi, h⟩ := Option.map_eq_some_iff.1 h
  cases h
  refine muts_of (N := 9) Try.func68 rfl rfl (by simp) (.bool _) (by simp only [uH_len]) (fun hb => by rw [uH_len] at hb ⊢; exact uH_bel hb (hc.enb _ _)) fun hb' => ?_
  rw [uH_len]
  rw [uH_len] at hb'
  repeat (refine awp_seq ?_)
  refine e_eval (by simp only [jA, jO, jN, seval, vint, TyS, TyF, MapS] <;> with_reducible rfl) (by decide) ?_
  repeat (refine awp_seq ?_)
  refine awp_region ?_
  refine e_take 2 (by simp only [jA, jO, jN, seval, vint, TyS, TyF, MapS] <;> with_reducible rfl) (by decide) ?_
  refine aops_acall (by simp only [jC, jN, seval, vint, TyS, TyF, MapS] <;> with_reducible rfl) (by simp only [jC, jN, seval, vint, TyS, TyF, MapS]) (by decide) Trygo84 (indexFuncS hc hl hi) ?_
  rintro _ _ ⟨rfl, rfl⟩
  refine e_end (by simp only [jA, jO, jN, seval, y3, vint, TyS, TyF, MapS] <;> with_reducible rfl) (by decide) ?_
  repeat (refine awp_seq ?_)
  refine awp_ret ⟨.inr rfl, _, _, rfl, ?_, (by first | exact (List.append_nil _).symm | rfl)⟩
  simp only [jN, seval, vint, TyS, TyF, MapS]

theorem occ1 {is iv i4 i5 i7 : Nat} {v : Int} {a : Ty} {H : Heap} {b : Bool} {w w' : Vis} (h4 : H[i4]? = some (.row [.optr is 0])) (h5 : H[i5]? = some (.row [vint v])) (h7 : H[i7]? = some (.row [.mapp iv])) (n4 : i4 ≠ iv) (n5 : i5 ≠ iv) (n7 : i7 ≠ iv) (hv : iv < H.length)
    (hcall : ACalls Try.prog 86 [.optr is 0, vint v, a.enc, .mapp iv] (uH H iv (mp vint w) ++ [.row a.enc.cells]) fun r' H' => r' = .bool b ∧ H' = uH H iv (mp vint w') ++ [.row a.enc.cells]) :
    ACalls Try.prog 92 [a.enc, .optr i4 0, .optr i5 0, .optr i7 0] (uH H iv (mp vint w)) fun r' H' => r' = .bool b ∧ H' = uH H iv (mp vint w') := by
  have U := uH_rules hv
  have q4 := uH_ne n4 h4
  have q5 := uH_ne n5 h5
  have q7 := uH_ne n7 h7
  simp only [TyS] at hcall
  refine muts_of (N := 11) Try.func92 rfl rfl (by simp) (.bool _) (by simp only [uH_len]) (fun hb => by rw [uH_len] at hb ⊢; exact uH_bel hb (bel_mp _ _ _ fun a => .int _ _)) fun hb' => ?_
  repeat (refine awp_seq ?_)
  refine e_eval (by simp only [jA, jO, jN, seval, y29, vint, TyS, TyF, MapS, U, q4, q5, q7] <;> with_reducible rfl) (by decide) ?_
  repeat (refine awp_seq ?_)
  refine awp_region ?_
  refine e_take 4 (by simp only [jA, jO, jN, seval, y3, y29, y56, y107, vint, TyS, TyF, MapS, U, q4, q5, q7] <;> with_reducible rfl) (by decide) ?_
  refine aops_acall (by simp only [jC, jN, seval, vint, TyS, TyF, MapS, U, q4, q5, q7] <;> with_reducible rfl) (by simp only [jC, jN, seval, vint, TyS, TyF, MapS, U, q4, q5, q7]) (by decide) Trygo86 (hcall) ?_
  rintro _ _ ⟨rfl, rfl⟩
  refine e_end (by simp only [jA, jO, jN, seval, vint, TyS, TyF, MapS, U, q4, q5, q7] <;> with_reducible rfl) (by decide) ?_
  repeat (refine awp_seq ?_)
  refine awp_ret ⟨.inr rfl, _, _, rfl, ?_, (by first | exact (List.append_nil _).symm | rfl)⟩
  simp only [jN, seval, vint, TyS, TyF, MapS]

theorem occ_k {B : Bs} {is im : Nat} {p : PV} (hB : WB B) : ∀ (n : Nat) (v : Int) (t : Ty) (w w' : Vis) (b : Bool) (H : Heap) (iv : Nat), occF n B v t w = some (b, w') → t.W → H[is]? = some (.row [.mapp im, p]) → H[im]? = some (.obj (.mapo (mp Ty.enc B))) → iv < H.length → is ≠ iv → im ≠ iv →
    ACalls Try.prog 86 [.optr is 0, vint v, t.enc, .mapp iv] (uH H iv (mp vint w)) fun r' H' => r' = .bool b ∧ H' = uH H iv (mp vint w')
  | 0, v, t, w, w', b, H, iv, h, _, _, _, _, _, _ => by cases h
  | n + 1, v, t, w, w', b, H, iv, h, ht, hs, hm, hv, ns, nm => by
    have ih := fun (u : Ty) (s s' : Vis) (c : Bool) (L : Heap) (h : occF n B v u s = some (c, s')) (hu : u.W) => (uH_app hv (mp vint s) ▸ uH_app hv (mp vint s') ▸ occ_k hB n v u s s' c (H ++ L) iv h hu (by rw [List.getElem?_append_left (len_of_get hs)]; exact hs) (by rw [List.getElem?_append_left (len_of_get hm)]; exact hm) (by rw [List.length_append]; omega) ns nm : ACalls Try.prog 86 [.optr is 0, vint v, u.enc, .mapp iv] (uH H iv (mp vint s) ++ L) fun r' H' => r' = .bool c ∧ H' = uH H iv (mp vint s') ++ L)
    have U := uH_rules hv
    have q1 := uH_ne ns hs
    have q2 := uH_ne nm hm
    have ms := len_of_get hs
    have mm := len_of_get hm
    have ffs : ∀ k, (H.length + k == is) = false := fun k => by simp; omega
    have ffm : ∀ k, (H.length + k == im) = false := fun k => by simp; omega
    have ffv : ∀ k, (iv = H.length + k) = False := fun k => by simp; omega
    simp only [occF] at h
    refine muts_of (N := 49) Try.func86 rfl rfl (by simp) (.bool _) (by simp only [uH_len]) (fun hb => by rw [uH_len] at hb ⊢; exact uH_bel hb (bel_mp _ _ _ fun a => .int _ _)) fun hb' => ?_
    rw [uH_len]
    rw [uH_len] at hb'
    repeat (refine awp_seq ?_)
    refine e_eval (by simp only [jA, jO, jN, seval, y3, y29, y56, y107, vint, TyS, TyF, MapS, U, q1, q2, ffs, ffm, ffv, Bool.not_false, Bool.and_self] <;> with_reducible rfl) (by decide) ?_
    repeat (refine awp_seq ?_)
    refine e_eval (by simp only [jA, jO, jN, seval, y3, y29, vint, TyS, TyF, MapS, U, q1, q2, ffs, ffm, ffv, Bool.not_false, Bool.and_self] <;> with_reducible rfl) (by decide) ?_
    repeat (refine awp_seq ?_)
    refine awp_cond rfl (by simp only [jN, seval, vint, TyS, TyF, MapS, U, q1, q2, ffs, ffm, ffv, Bool.not_false, Bool.and_self] <;> with_reducible rfl) (fun b0 => ?_) (fun b0 => ?_)
    ·
      rw [if_pos (of_decide_eq_true b0)] at h
      repeat (refine awp_seq ?_)
      refine e_eval (by simp only [jA, jO, jN, seval, y3, y29, vint, TyS, TyF, MapS, U, q1, q2, ffs, ffm, ffv, Bool.not_false, Bool.and_self] <;> with_reducible rfl) (by decide) ?_
      repeat (refine awp_seq ?_)
      refine awp_cond rfl (by simp only [jN, seval, vint, TyS, TyF, MapS, U, q1, q2, ffs, ffm, ffv, Bool.not_false, Bool.and_self] <;> with_reducible rfl) (fun b1 => ?_) (fun b1 => ?_)
      ·
        rw [if_pos (of_decide_eq_true b1)] at h
        cases h
        repeat (refine awp_seq ?_)
        refine e_eval (by simp only [jA, jO, jN, seval, vint, TyS, TyF, MapS, U, q1, q2, ffs, ffm, ffv, Bool.not_false, Bool.and_self] <;> with_reducible rfl) (by decide) ?_
        repeat (refine awp_seq ?_)
        refine awp_ret ⟨.inr rfl, _, _, rfl, ?_, (by first | exact (List.append_nil _).symm | rfl)⟩
        simp only [jN, seval, vint, TyS, TyF, MapS]
      ·
        rw [if_neg (of_decide_eq_false b1)] at h
        repeat (refine awp_seq ?_)
        refine awp_skip ?_
        rcases hl : lk B t.id with _ | u
        ·
          rw [hl] at h
          cases h
          repeat (refine awp_seq ?_)
          refine awp_draw 1 (by kernel_rfl) ?_
          refine d_take (bm := [0, 1, 3, 7, 0, 16, 63, 127, 255, 255, 0, 1535, 4095]) 10 (fresh := ((H.length + 4))) (by kernel_rfl) (by simp only [jD, jO, jN, seval, y3, y29, y56, y58, y60, vint, TyS, TyF, MapS, U, q1, q2, ffs, ffm, ffv, Bool.not_false, Bool.and_self, mget_mp, hl, Option.map_none, alook_vint] <;> with_reducible rfl) (by decide) (by decide) ?_
          refine d_end (bm := [0, 1, 3, 7, 0, 16, 63, 127, 255, 255, 0, 1535, 4095]) (fresh := ((H.length + 4))) (by kernel_rfl) (by simp only [jD, jO, jN, seval, y29, vint, TyS, TyF, MapS, U, q1, q2, ffs, ffm, ffv, Bool.not_false, Bool.and_self, mget_mp, hl, Option.map_none, alook_vint] <;> with_reducible rfl) (by decide) ?_
          refine awp_sel [4, 5, 6, 7, 9, 10] (by simp only [jN, seval, vint, TyS, TyF, MapS, U, q1, q2, ffs, ffm, ffv, Bool.not_false, Bool.and_self, mget_mp, hl, Option.map_none, alook_vint] <;> with_reducible rfl) ?_
          repeat (refine awp_seq ?_)
          refine g_eval (by simp only [jG, jO, jN, seval, y3, y29, y107, vint, TyS, TyF, MapS, U, q1, q2, ffs, ffm, ffv, Bool.not_false, Bool.and_self, mget_mp, hl, Option.map_none, alook_vint] <;> with_reducible rfl) (by decide) (by repeat (first | exact Fin.base _ | with_reducible apply Fin.keep | apply Fin.drop)) ?_
          repeat (refine awp_seq ?_)
          refine awp_cond_true rfl (by simp only [jN, seval, vint, TyS, TyF, MapS, U, q1, q2, ffs, ffm, ffv, Bool.not_false, Bool.and_self, mget_mp, hl, Option.map_none, alook_vint] <;> with_reducible rfl) ?_
          repeat (refine awp_seq ?_)
          refine e_eval (by simp only [jA, jO, jN, seval, vint, TyS, TyF, MapS, U, q1, q2, ffs, ffm, ffv, Bool.not_false, Bool.and_self, mget_mp, hl, Option.map_none, alook_vint] <;> with_reducible rfl) (by decide) ?_
          repeat (refine awp_seq ?_)
          refine awp_ret ⟨.inr rfl, _, _, rfl, ?_, (by first | exact (List.append_nil _).symm | rfl)⟩
          simp only [jN, seval, vint, TyS, TyF, MapS]
        ·
          rw [hl] at h
          simp only at h
          have hu := hB _ _ hl
          repeat (refine awp_seq ?_)
          refine awp_draw 1 (by kernel_rfl) ?_
          refine d_take (bm := [0, 1, 3, 7, 0, 16, 63, 127, 255, 255, 0, 1535, 4095]) 10 (fresh := ((H.length + 4))) (by kernel_rfl) (by simp only [jD, jO, jN, seval, y3, y29, y56, y58, y60, vint, TyS, TyF, MapS, U, q1, q2, ffs, ffm, ffv, Bool.not_false, Bool.and_self, mget_mp, hl, Option.map_some, alook_vint] <;> with_reducible rfl) (by decide) (by decide) ?_
          refine d_end (bm := [0, 1, 3, 7, 0, 16, 63, 127, 255, 255, 0, 1535, 4095]) (fresh := ((H.length + 4))) (by kernel_rfl) (by simp only [jD, jO, jN, seval, y29, vint, TyS, TyF, MapS, U, q1, q2, ffs, ffm, ffv, Bool.not_false, Bool.and_self, mget_mp, hl, Option.map_some, alook_vint] <;> with_reducible rfl) (by decide) ?_
          refine awp_sel [4, 5, 6, 7, 9, 10] (by simp only [jN, seval, vint, TyS, TyF, MapS, U, q1, q2, ffs, ffm, ffv, Bool.not_false, Bool.and_self, mget_mp, hl, Option.map_some, alook_vint] <;> with_reducible rfl) ?_
          repeat (refine awp_seq ?_)
          refine g_eval (by simp only [jG, jO, jN, seval, y3, y29, y107, vint, TyS, TyF, MapS, U, q1, q2, ffs, ffm, ffv, Bool.not_false, Bool.and_self, mget_mp, hl, Option.map_some, alook_vint] <;> with_reducible rfl) (by decide) (by repeat (first | exact Fin.base _ | with_reducible apply Fin.keep | apply Fin.drop)) ?_
          repeat (refine awp_seq ?_)
          refine awp_cond rfl (by simp only [jN, seval, vint, TyS, TyF, MapS, U, q1, q2, ffs, ffm, ffv, Bool.not_false, Bool.and_self, mget_mp, hl, Option.map_some, alook_vint] <;> with_reducible rfl) (fun bt36 => ?_) (fun bt36 => ?_)
          ·
            rw [if_pos (of_decide_eq_true bt36)] at h
            cases h
            repeat (refine awp_seq ?_)
            refine e_eval (by simp only [jA, jO, jN, seval, vint, TyS, TyF, MapS, U, q1, q2, ffs, ffm, ffv, Bool.not_false, Bool.and_self, mget_mp, hl, Option.map_some, alook_vint] <;> with_reducible rfl) (by decide) ?_
            repeat (refine awp_seq ?_)
            refine awp_ret ⟨.inr rfl, _, _, rfl, ?_, (by first | exact (List.append_nil _).symm | rfl)⟩
            simp only [jN, seval, vint, TyS, TyF, MapS]
          ·
            rw [if_neg (of_decide_eq_false bt36)] at h
            repeat (refine awp_seq ?_)
            refine awp_skip ?_
            repeat (refine awp_seq ?_)
            refine e_eval (by simp only [jA, jO, jN, seval, y3, y29, y107, vint, TyS, TyF, MapS, U, q1, q2, ffs, ffm, ffv, Bool.not_false, Bool.and_self, mget_mp, hl, Option.map_some, alook_vint, mset_vint] <;> with_reducible rfl) (by decide) ?_
            repeat (refine awp_seq ?_)
            refine awp_region ?_
            refine e_take 4 (by simp only [jA, jO, jN, seval, y3, y29, y56, y107, vint, TyS, TyF, MapS, U, q1, q2, ffs, ffm, ffv, Bool.not_false, Bool.and_self, mget_mp, hl, Option.map_some, alook_vint] <;> with_reducible rfl) (by decide) ?_
            refine aops_acall (by simp only [jC, jN, seval, vint, TyS, TyF, MapS, U, q1, q2, ffs, ffm, ffv, Bool.not_false, Bool.and_self, mget_mp, hl, Option.map_some, alook_vint] <;> with_reducible rfl) (by simp only [jC, jN, seval, vint, TyS, TyF, MapS, U, q1, q2, ffs, ffm, ffv, Bool.not_false, Bool.and_self, mget_mp, hl, Option.map_some, alook_vint]) (by decide) Trygo86 (ih u _ _ _ _ h hu) ?_
            rintro _ _ ⟨rfl, rfl⟩
            refine e_end (by simp only [jA, jO, jN, seval, vint, TyS, TyF, MapS, U, q1, q2, ffs, ffm, ffv, Bool.not_false, Bool.and_self, mget_mp, hl, Option.map_some, alook_vint] <;> with_reducible rfl) (by decide) ?_
            repeat (refine awp_seq ?_)
            refine awp_ret ⟨.inr rfl, _, _, rfl, ?_, (by first | exact (List.append_nil _).symm | rfl)⟩
            simp only [jN, seval, vint, TyS, TyF, MapS]
    ·
      rw [if_neg (of_decide_eq_false b0)] at h
      repeat (refine awp_seq ?_)
      refine awp_skip ?_
      repeat (refine awp_seq ?_)
      refine awp_region ?_
      refine e_take 3 (by simp only [jA, jO, jN, seval, y27, y29, vint, TyS, TyF, MapS, U, q1, q2, ffs, ffm, ffv, Bool.not_false, Bool.and_self] <;> with_reducible rfl) (by decide) ?_
      refine aops_acall (by simp only [jC, jN, seval, vint, TyS, TyF, MapS, U, q1, q2, ffs, ffm, ffv, Bool.not_false, Bool.and_self] <;> with_reducible rfl) (by simp only [jC, jN, seval, vint, TyS, TyF, MapS, U, q1, q2, ffs, ffm, ffv, Bool.not_false, Bool.and_self]) (by decide) Trygo68 (by
  have cs : CloS Try.prog 92 [.optr H.length 0, .optr (H.length + 1) 0, .optr (H.length + 3) 0] (H ++ [.row [.optr is 0], .row [vint v], .row t.enc.cells, .row [.mapp iv]]) iv (mp vint) t.args (occF n B v) :=
    ⟨Trygo92, by simp; omega, by simp; exact ⟨.optr _ _ (by simp), .optr _ _ (by simp), .optr _ _ (by simp)⟩, fun s m => bel_mp _ _ _ fun a => .int _ _, fun u hu s b s' hg =>
      occ1 (is := is) (v := v) (by simp) (by simp) (by simp) (by omega) (by omega) (by omega) (by simp; omega) (by rw [uH_app hv, uH_app hv]; simp only [List.append_assoc]; exact ih u s s' b _ hg (ht.arg hu))⟩
  have := containsFuncS cs ht.lenMax h
  rw [uH_app hv, uH_app hv, Ty.enc_cells] at this
  exact this) ?_
      rintro _ _ ⟨rfl, rfl⟩
      refine e_end (by simp only [jA, jO, jN, seval, vint, TyS, TyF, MapS, U, q1, q2, ffs, ffm, ffv, Bool.not_false, Bool.and_self] <;> with_reducible rfl) (by decide) ?_
      repeat (refine awp_seq ?_)
      refine awp_ret ⟨.inr rfl, _, _, rfl, ?_, (by first | exact (List.append_nil _).symm | rfl)⟩
      simp only [jN, seval, vint, TyS, TyF, MapS]

theorem bind_k {B B' : Bs} {is im : Nat} {p : Int} {n : Nat} {v : Int} {t : Ty} {b : Bool} {H : Heap} (h : bindF n B v t = some (b, B')) (hB : WB B) (ht : t.W) (hm : im < H.length) (hs : is < H.length) (hne : im ≠ is) :
    ACalls Try.prog 73 [.optr is 0, vint v, t.enc] (sH H im is B p) fun r' H' => r' = .bool b ∧ H' = sH H im is B' p := by
  have U := sH_rules hm hs hne
  unfold bindF at h
  obtain ⟨⟨c, w'⟩, hq, h⟩ := Option.map_eq_some_iff.1 h
  have oc := occ_k (is := is) (im := im) hB n v t [] w' c (sH H im is B p ++ [.row t.enc.cells, .obj (.mapo [])]) (H.length + 1) hq ht (p := .int .i64 p) (by simp only [U]) (by simp only [U]) (by simp [sH_len]) (by omega) (by omega)
  rw [uH_self (by simp only [U]; rfl)] at oc
  have ow : uH (sH H im is B p ++ [.row t.enc.cells, .obj (.mapo [])]) (H.length + 1) (mp vint w') = sH H im is B p ++ [.row t.enc.cells, .obj (.mapo (mp vint w'))] := by simp only [uH, U]; rfl
  rw [ow] at oc
  simp only [TyS] at oc
  refine muts_of (N := 18) Try.func73 rfl rfl (by simp) (.bool _) (by simp only [sH_len]) (fun hb => by rw [sH_len] at hb ⊢; exact sH_bel hb hm) fun hb' => ?_
  rw [sH_len]
  rw [sH_len] at hb'
  repeat (refine awp_seq ?_)
  refine e_eval (by simp only [jA, jO, jN, seval, y29, vint, TyS, TyF, MapS, U] <;> with_reducible rfl) (by decide) ?_
  repeat (refine awp_seq ?_)
  refine awp_region ?_
  refine e_take 4 (by simp only [jA, jO, jN, seval, y3, y29, y107, vint, TyS, TyF, MapS, U] <;> with_reducible rfl) (by decide) ?_
  refine aops_acall (by simp only [jC, jN, seval, vint, TyS, TyF, MapS, U] <;> with_reducible rfl) (by simp only [jC, jN, seval, vint, TyS, TyF, MapS, U]) (by decide) Trygo86 (oc) ?_
  rintro _ _ ⟨rfl, rfl⟩
  refine aops_nil ?_
  repeat (refine awp_seq ?_)
  refine awp_cond rfl (by simp only [jN, seval, vint, TyS, TyF, MapS, U] <;> with_reducible rfl) (fun b0 => ?_) (fun b0 => ?_)
  ·
    rw [if_pos b0] at h
    cases h
    repeat (refine awp_seq ?_)
    refine e_eval (by simp only [jA, jO, jN, seval, vint, TyS, TyF, MapS, U] <;> with_reducible rfl) (by decide) ?_
    repeat (refine awp_seq ?_)
    refine awp_ret ⟨.inr rfl, _, _, rfl, ?_, (by first | exact (List.append_nil _).symm | rfl)⟩
    simp only [jN, seval, vint, TyS, TyF, MapS]
  ·
    rw [if_neg (by rw [b0]; simp)] at h
    cases h
    repeat (refine awp_seq ?_)
    refine awp_skip ?_
    repeat (refine awp_seq ?_)
    refine awp_draw 0 (by kernel_rfl) ?_
    refine d_end (bm := [0, 1, 3, 7, 0, 0, 63]) (fresh := ((H.length + 2))) (by kernel_rfl) (by simp only [jD, jO, jN, seval, y29, y58, y60, vint, TyS, TyF, MapS, U, mset_mp] <;> with_reducible rfl) (by decide) ?_
    repeat (refine awp_seq ?_)
    refine e_eval (by simp only [jA, jO, jN, seval, vint, TyS, TyF, MapS, U] <;> with_reducible rfl) (by decide) ?_
    repeat (refine awp_seq ?_)
    refine awp_ret ⟨.inr rfl, _, _, rfl, ?_, (by first | exact (List.append_nil _).symm | rfl)⟩
    simp only [jN, seval, vint, TyS, TyF, MapS]

end Go.Abs
set_option maxRecDepth 4000
namespace Go.Abs
open Go.Proofs

theorem uni_k {is im : Nat} (hne : im ≠ is) : ∀ (n : Nat) (a b : Ty) (B : Bs) (p : Int) (c : Bool) (B' : Bs) (p' : Int) (H : Heap), uniF n a b (B, p) = some (c, (B', p')) → a.W → b.W → WB B → 0 ≤ p → p ≤ 20000 → im < H.length → is < H.length →
    ACalls Try.prog 60 [.optr is 0, a.enc, b.enc] (sH H im is B p) fun r' H' => r' = .bool c ∧ H' = sH H im is B' p'
  | 0, a, b, B, p, c, B', p', H, h, _, _, _, _, _, _, _ => by cases h
  | n + 1, a0, b0, B, p, c, B', p', H, h, ha0, hb0, hB, hp0, hp1, hm, hs => by
    have U := sH_rules hm hs hne
    simp only [uniF] at h
    obtain ⟨a, e1, h⟩ := Option.bind_eq_some_iff.1 h
    obtain ⟨b, e2, h⟩ := Option.bind_eq_some_iff.1 h
    have wa := headF_W hB ha0 e1
    have wb := headF_W hB hb0 e2
    have hw : IntKind.i64.wrap (p - 1) = p - 1 := wrap_id (by omega) (by omega)
    refine muts_of (N := 125) Try.func60 rfl rfl (by simp) (.bool _) (by simp only [sH_len]) (fun hb => by rw [sH_len] at hb ⊢; exact sH_bel hb hm) fun hb' => ?_
    rw [sH_len]
    rw [sH_len] at hb'
    repeat (refine awp_seq ?_)
    refine e_eval (by simp only [jA, jO, jN, seval, y29, vint, TyS, TyF, MapS, U] <;> with_reducible rfl) (by decide) ?_
    repeat (refine awp_seq ?_)
    refine awp_draw 0 (by kernel_rfl) ?_
    refine d_take (bm := [0, 0, 3, 0, 0, 31, 63, 127]) 2 (fresh := ((H.length + 2))) (by kernel_rfl) (by simp only [jD, jO, jN, seval, y29, vint, TyS, TyF, MapS, U] <;> with_reducible rfl) (by decide) (by decide) ?_
    refine dops_keep (bm := [0, 0, 3, 0, 0, 31, 63, 127]) ([is, im]) (by kernel_rfl) (by simp only [jC, jN, seval, vint, TyS, TyF, MapS, U] <;> with_reducible rfl) (by simp only [jC, jN, seval, vint, TyS, TyF, MapS, U]) (by decide) Trygo63 (fun H' hr => head_k B e1 (p := .int .i64 p) (is := is) (im := im) (by rw [hr is (by simp)]; simp only [U]) (by rw [hr im (by simp)]; simp only [U])) (by simp only [jD, jO, jN, seval, vint, TyS, TyF, MapS, U] <;> first | done | rfl) ?_
    refine d_take (bm := [0, 0, 3, 0, 0, 31, 63, 127]) 2 (fresh := ((H.length + 2))) (by kernel_rfl) (by simp only [jD, jO, jN, seval, y29, vint, TyS, TyF, MapS, U] <;> with_reducible rfl) (by decide) (by decide) ?_
    refine dops_keep (bm := [0, 0, 3, 0, 0, 31, 63, 127]) ([is, im]) (by kernel_rfl) (by simp only [jC, jN, seval, vint, TyS, TyF, MapS, U] <;> with_reducible rfl) (by simp only [jC, jN, seval, vint, TyS, TyF, MapS, U]) (by decide) Trygo63 (fun H' hr => head_k B e2 (p := .int .i64 p) (is := is) (im := im) (by rw [hr is (by simp)]; simp only [U]) (by rw [hr im (by simp)]; simp only [U])) (by simp only [jD, jO, jN, seval, vint, TyS, TyF, MapS, U] <;> first | done | rfl) ?_
    refine d_end (bm := [0, 0, 3, 0, 0, 31, 63, 127]) (fresh := ((H.length + 2))) (by kernel_rfl) (by simp only [jD, jO, jN, seval, y29, vint, TyS, TyF, MapS, U] <;> with_reducible rfl) (by decide) ?_
    repeat (refine awp_seq ?_)
    refine e_eval (by simp only [jA, jO, jN, seval, y3, y60, vint, TyS, TyF, MapS, U, hw] <;> with_reducible rfl) (by decide) ?_
    repeat (refine awp_seq ?_)
    refine awp_block ?_
    refine awp_sel [0, 4, 5] (by simp only [jN, seval, vint, TyS, TyF, MapS, U] <;> with_reducible rfl) ?_
    repeat (refine awp_seq ?_)
    refine e_eval (by simp only [jA, jO, jN, seval, y3, y60, vint, TyS, TyF, MapS, U] <;> with_reducible rfl) (by decide) ?_
    repeat (refine awp_seq ?_)
    refine awp_cond rfl (by simp only [jN, seval, vint, TyS, TyF, MapS, U] <;> with_reducible rfl) (fun bt21 => ?_) (fun bt21 => ?_)
    ·
      rw [if_pos (of_decide_eq_true bt21)] at h
      cases h
      repeat (refine awp_seq ?_)
      refine e_eval (by simp only [jA, jO, jN, seval, vint, TyS, TyF, MapS, U] <;> with_reducible rfl) (by decide) ?_
      repeat (refine awp_seq ?_)
      refine awp_ret ⟨.inr rfl, _, _, rfl, ?_, (by first | exact (List.append_nil _).symm | rfl)⟩
      simp only [jN, seval, vint, TyS, TyF, MapS]
    ·
      rw [if_neg (of_decide_eq_false bt21)] at h
      repeat (refine awp_seq ?_)
      refine g_eval (by simp only [jG, jO, jN, seval, y3, y29, vint, TyS, TyF, MapS, U] <;> with_reducible rfl) (by decide) (by repeat (first | exact Fin.base _ | with_reducible apply Fin.keep | apply Fin.drop)) ?_
      repeat (refine awp_seq ?_)
      refine awp_cond rfl (by simp only [jN, seval, vint, TyS, TyF, MapS, U] <;> with_reducible rfl) (fun bt27 => ?_) (fun bt27 => ?_)
      ·
        rw [if_pos (by simpa using bt27)] at h
        cases h
        refine awp_sel [] (by simp only [jN, seval, vint, TyS, TyF, MapS, U] <;> with_reducible rfl) ?_
        repeat (refine awp_seq ?_)
        refine e_eval (by simp only [jA, jO, jN, seval, vint, TyS, TyF, MapS, U] <;> with_reducible rfl) (by decide) ?_
        repeat (refine awp_seq ?_)
        refine awp_ret ⟨.inr rfl, _, _, rfl, ?_, (by first | exact (List.append_nil _).symm | rfl)⟩
        simp only [jN, seval, vint, TyS, TyF, MapS]
      ·
        rw [if_neg (by simpa using bt27)] at h
        refine awp_sel [0, 4, 5] (by simp only [jN, seval, vint, TyS, TyF, MapS, U] <;> with_reducible rfl) ?_
        repeat (refine awp_seq ?_)
        refine g_eval (by simp only [jG, jO, jN, seval, y3, y29, vint, TyS, TyF, MapS, U] <;> with_reducible rfl) (by decide) (by repeat (first | exact Fin.base _ | with_reducible apply Fin.keep | apply Fin.drop)) ?_
        repeat (refine awp_seq ?_)
        refine awp_cond rfl (by simp only [jN, seval, vint, TyS, TyF, MapS, U] <;> with_reducible rfl) (fun bt36 => ?_) (fun bt36 => ?_)
        ·
          rw [if_pos (by simpa using bt36)] at h
          repeat (refine awp_seq ?_)
          refine e_eval (by simp only [jA, jO, jN, seval, y3, y29, vint, TyS, TyF, MapS, U] <;> with_reducible rfl) (by decide) ?_
          repeat (refine awp_seq ?_)
          refine awp_cond rfl (by simp only [jN, seval, vint, TyS, TyF, MapS, U] <;> with_reducible rfl) (fun bt49 => ?_) (fun bt49 => ?_)
          ·
            rw [if_pos (by simpa using bt49)] at h
            cases h
            repeat (refine awp_seq ?_)
            refine awp_draw 0 (by kernel_rfl) ?_
            refine d_take (bm := [0, 1, 3, 7, 0, 16, 0, 64, 240, 0, 512, 0, 2048, 7680, 15872, 32767]) 10 (fresh := ((H.length + 2))) (by kernel_rfl) (by simp only [jD, jO, jN, seval, y3, y29, y58, y60, vint, TyS, TyF, MapS, U, mset_mp] <;> with_reducible rfl) (by decide) (by decide) ?_
            refine d_end (bm := [0, 1, 3, 7, 0, 16, 0, 64, 240, 0, 512, 0, 2048, 7680, 15872, 32767]) (fresh := ((H.length + 2))) (by kernel_rfl) (by simp only [jD, jO, jN, seval, y3, y29, y58, vint, TyS, TyF, MapS, U, mset_mp] <;> with_reducible rfl) (by decide) ?_
            refine awp_sel [] (by simp only [jN, seval, vint, TyS, TyF, MapS, U] <;> with_reducible rfl) ?_
            repeat (refine awp_seq ?_)
            refine e_eval (by simp only [jA, jO, jN, seval, vint, TyS, TyF, MapS, U] <;> with_reducible rfl) (by decide) ?_
            repeat (refine awp_seq ?_)
            refine awp_ret ⟨.inr rfl, _, _, rfl, ?_, (by first | exact (List.append_nil _).symm | rfl)⟩
            simp only [jN, seval, vint, TyS, TyF, MapS]
          ·
            rw [if_neg (by simpa using bt49)] at h
            cases h
            repeat (refine awp_seq ?_)
            refine awp_skip ?_
            repeat (refine awp_seq ?_)
            refine e_eval (by simp only [jA, jO, jN, seval, vint, TyS, TyF, MapS, U] <;> with_reducible rfl) (by decide) ?_
            repeat (refine awp_seq ?_)
            refine awp_ret ⟨.inr rfl, _, _, rfl, ?_, (by first | exact (List.append_nil _).symm | rfl)⟩
            simp only [jN, seval, vint, TyS, TyF, MapS]
        ·
          rw [if_neg (by simpa using bt36)] at h
          repeat (refine awp_seq ?_)
          refine e_eval (by simp only [jA, jO, jN, seval, y3, y29, vint, TyS, TyF, MapS, U] <;> with_reducible rfl) (by decide) ?_
          repeat (refine awp_seq ?_)
          refine awp_cond rfl (by simp only [jN, seval, vint, TyS, TyF, MapS, U] <;> with_reducible rfl) (fun bt65 => ?_) (fun bt65 => ?_)
          ·
            rw [if_pos (of_decide_eq_true bt65)] at h
            obtain ⟨⟨c1, B1⟩, hq, h⟩ := Option.map_eq_some_iff.1 h
            cases h
            repeat (refine awp_seq ?_)
            refine awp_region ?_
            refine e_take 4 (by simp only [jA, jO, jN, seval, y3, y29, vint, TyS, TyF, MapS, U] <;> with_reducible rfl) (by decide) ?_
            refine aops_acall (by simp only [jC, jN, seval, vint, TyS, TyF, MapS, U] <;> with_reducible rfl) (by simp only [jC, jN, seval, vint, TyS, TyF, MapS, U]) (by decide) Trygo73 (by have := bind_k (p := p - 1) (H := H ++ [.row [.int .i64 a.kind, .int .i64 a.id, .slice (a.args.map Ty.enc) .none], .row [.int .i64 b.kind, .int .i64 b.id, .slice (b.args.map Ty.enc) .none]]) hq hB wb (by simp; omega) (by simp; omega) hne; rw [sH_app hm hs, sH_app hm hs] at this; exact this) ?_
            rintro _ _ ⟨rfl, rfl⟩
            refine e_end (by simp only [jA, jO, jN, seval, vint, TyS, TyF, MapS, U] <;> with_reducible rfl) (by decide) ?_
            repeat (refine awp_seq ?_)
            refine awp_ret ⟨.inr rfl, _, _, rfl, ?_, (by first | exact (List.append_nil _).symm | rfl)⟩
            simp only [jN, seval, vint, TyS, TyF, MapS]
          ·
            rw [if_neg (of_decide_eq_false bt65)] at h
            repeat (refine awp_seq ?_)
            refine e_eval (by simp only [jA, jO, jN, seval, y3, y29, vint, TyS, TyF, MapS, U] <;> with_reducible rfl) (by decide) ?_
            repeat (refine awp_seq ?_)
            refine awp_cond rfl (by simp only [jN, seval, vint, TyS, TyF, MapS, U] <;> with_reducible rfl) (fun bt74 => ?_) (fun bt74 => ?_)
            ·
              rw [if_pos (of_decide_eq_true bt74)] at h
              obtain ⟨⟨c1, B1⟩, hq, h⟩ := Option.map_eq_some_iff.1 h
              cases h
              refine awp_sel [0, 4, 5] (by simp only [jN, seval, vint, TyS, TyF, MapS, U] <;> with_reducible rfl) ?_
              repeat (refine awp_seq ?_)
              refine awp_region ?_
              refine e_take 4 (by simp only [jA, jO, jN, seval, y3, y29, vint, TyS, TyF, MapS, U] <;> with_reducible rfl) (by decide) ?_
              refine aops_acall (by simp only [jC, jN, seval, vint, TyS, TyF, MapS, U] <;> with_reducible rfl) (by simp only [jC, jN, seval, vint, TyS, TyF, MapS, U]) (by decide) Trygo73 (by have := bind_k (p := p - 1) (H := H ++ [.row [.int .i64 a.kind, .int .i64 a.id, .slice (a.args.map Ty.enc) .none], .row [.int .i64 b.kind, .int .i64 b.id, .slice (b.args.map Ty.enc) .none]]) hq hB wa (by simp; omega) (by simp; omega) hne; rw [sH_app hm hs, sH_app hm hs] at this; exact this) ?_
              rintro _ _ ⟨rfl, rfl⟩
              refine e_end (by simp only [jA, jO, jN, seval, vint, TyS, TyF, MapS, U] <;> with_reducible rfl) (by decide) ?_
              repeat (refine awp_seq ?_)
              refine awp_ret ⟨.inr rfl, _, _, rfl, ?_, (by first | exact (List.append_nil _).symm | rfl)⟩
              simp only [jN, seval, vint, TyS, TyF, MapS]
            ·
              rw [if_neg (of_decide_eq_false bt74)] at h
              refine awp_sel [0, 4, 5] (by simp only [jN, seval, vint, TyS, TyF, MapS, U] <;> with_reducible rfl) ?_
              repeat (refine awp_seq ?_)
              refine g_eval (by simp only [jG, jO, jN, seval, y3, y27, y29, vint, TyS, TyF, MapS, U] <;> with_reducible rfl) (by decide) (by repeat (first | exact Fin.base _ | with_reducible apply Fin.keep | apply Fin.drop)) ?_
              repeat (refine awp_seq ?_)
              refine awp_cond rfl (by simp only [jN, seval, vint, TyS, TyF, MapS, U] <;> with_reducible rfl) (fun bt83 => ?_) (fun bt83 => ?_)
              ·
                rw [if_pos (by simp at bt83 ⊢; omega)] at h
                cases h
                refine awp_sel [] (by simp only [jN, seval, vint, TyS, TyF, MapS, U] <;> with_reducible rfl) ?_
                repeat (refine awp_seq ?_)
                refine e_eval (by simp only [jA, jO, jN, seval, vint, TyS, TyF, MapS, U] <;> with_reducible rfl) (by decide) ?_
                repeat (refine awp_seq ?_)
                refine awp_ret ⟨.inr rfl, _, _, rfl, ?_, (by first | exact (List.append_nil _).symm | rfl)⟩
                simp only [jN, seval, vint, TyS, TyF, MapS]
              ·
                rw [if_neg (by simp at bt83 ⊢; omega)] at h
                have hlen : a.args.length = b.args.length := by simp at bt83; omega
                repeat (refine awp_seq ?_)
                refine awp_skip ?_
                refine awp_sel [0, 4, 5] (by simp only [jN, seval, vint, TyS, TyF, MapS, U] <;> with_reducible rfl) ?_
                repeat (refine awp_seq ?_)
                refine e_eval (by simp only [jA, jO, jN, seval, y27, y29, vint, TyS, TyF, MapS, U] <;> with_reducible rfl) (by decide) ?_
                repeat (refine awp_seq ?_)
                refine awp_forS (σ := Bs × Int) (a.args.length) (fun (q : Bs × Int) => [(0, .optr is 0), (4, .optr H.length 0), (5, .optr (H.length + 1) 0)]) [0, 4, 5] ([]) (fun (q : Bs × Int) => sH H im is q.1 q.2 ++ [.row a.enc.cells, .row b.enc.cells]) (fun (i : Nat) (q : Bs × Int) => uniL (uniF n) (a.args.drop i) (b.args.drop i) q = some (c, (B', p')) ∧ WB q.1 ∧ 0 ≤ q.2 ∧ q.2 ≤ 20000) ((B, p - 1)) ([]) rfl rfl rfl rfl rfl rfl rfl rfl rfl (by decide) (by decide) (by decide) (fun _ => rfl) (wa.lenMax) ⟨(by first | rfl | (simp only [jN, seval, vint, TyS, TyF, MapS, U] <;> first | done | with_reducible rfl)), (by first | rfl | (simp only [jN, seval, vint, TyS, TyF, MapS, U] <;> first | done | with_reducible rfl)), (by first | rfl | (simp only [jN, seval, vint, TyS, TyF, MapS, U] <;> first | done | with_reducible rfl)), (by first | rfl | (simp only [jN, seval, vint, TyS, TyF, MapS, U] <;> first | done | with_reducible rfl)), (by first | rfl | (simp only [jN, seval, vint, TyS, TyF, MapS, U] <;> first | done | with_reducible rfl)), trivial⟩ (by first | rfl | (simp only [jN, seval, vint, TyS, TyF, MapS, U] <;> first | done | with_reducible rfl)) (⟨h, hB, by have := of_decide_eq_false bt21; omega, by omega⟩) (fun i q hg => by simp only [List.nil_append, List.length_append, sH_len]; omega) ?_ ?_ ?_
                · intro i q hg
                  refine ⟨?_, .cons (.optr _ _ (by simp [sH_len]; omega)) (.cons (.optr _ _ (by simp [sH_len])) (.cons (.optr _ _ (by simp [sH_len])) .nil))⟩
                  simp only [List.nil_append, TyS]
                  refine hbel_app' (sH_bel hb' hm) (by simp [sH_len]) ?_
                  repeat (first | exact hbel_nil _ | exact trivial | exact obel_row_nil _ | (refine HBel.cons ?_ ?_) | (refine obel_row_cons (by first | exact bel_ints0 _ _ | exact bel_slice_ty _ _ | exact Ty.bel _ _ | exact bel_ty_tok _ (by first | (simp; done) | (simp [sH_len]; omega)) | exact Bel.int _ _ | exact Bel.bool _ | exact Bel.str _ | exact Bel.nilp | exact Bel.nilfn | exact Bel.optr _ _ (by first | (simp; done) | (simp [sH_len]; omega)) | exact bel_nil0 _ | exact bel_nil1 _ | exact bel_fn0 _ _ | assumption) ?_))
                · intro i q hi hg
                  obtain ⟨hg, hqB, hq0, hq1⟩ := hg
                  have hi2 : i < b.args.length := by omega
                  have g1 := ix_nat hi
                  have g3 := ix_nat hi2
                  have g2 := get_enc Ty.enc hi
                  have g4 := get_enc Ty.enc hi2
                  have hwt := wa.arg (List.getElem_mem hi)
                  have hwp := wb.arg (List.getElem_mem hi2)
                  rw [List.drop_eq_getElem_cons hi, List.drop_eq_getElem_cons hi2] at hg
                  simp only [uniL] at hg
                  obtain ⟨⟨c1, B1, p1⟩, e3, hg⟩ := Option.bind_eq_some_iff.1 hg
                  obtain ⟨i1, i2, i3⟩ := uni_inv _ _ _ _ _ e3 hwt hwp hqB hq0
                  simp only at i1 i2 i3
                  repeat (refine awp_seq ?_)
                  refine e_eval (by simp only [jA, jO, jN, seval, vint, TyS, TyF, MapS, U, g1, Int.toNat_natCast, g2, g3, g4] <;> with_reducible rfl) (by decide) ?_
                  repeat (refine awp_seq ?_)
                  refine awp_draw 0 (by kernel_rfl) ?_
                  refine d_take (bm := [0, 0, 2, 0, 14, 30, 0, 64, 0, 448, 960, 2047, 4095]) 11 (fresh := 0) (by kernel_rfl) (by simp only [jD, jO, jN, seval, y27, y29, vint, TyS, TyF, MapS, U, g1, Int.toNat_natCast, g2, g3, g4] <;> with_reducible rfl) (by decide) (by decide) ?_
                  refine dops_eff (bm := [0, 0, 2, 0, 14, 30, 0, 64, 0, 448, 960, 2047, 4095]) (r := .bool c1) [im, is] [(im, .obj (.mapo (mp Ty.enc B1))), (is, .row [.mapp im, .int .i64 p1])] (H1 := sH H im is B1 p1 ++ [.row [.int .i64 a.kind, .int .i64 a.id, .slice (a.args.map Ty.enc) .none], .row [.int .i64 b.kind, .int .i64 b.id, .slice (b.args.map Ty.enc) .none]]) (by kernel_rfl) (by simp only [jC, jN, seval, vint, TyS, TyF, MapS, U, g1, Int.toNat_natCast, g2, g3, g4] <;> with_reducible rfl) (by simp only [jC, jN, seval, vint, TyS, TyF, MapS, U]) (by decide) Trygo60 (by simp) ?_ (by simp only [jD, jO, jN, seval, vint, TyS, TyF, MapS, U] <;> first | done | rfl) ?_ ?_
                  · intro H' hr hl
                    have r1 := hr im (by simp)
                    have r2 := hr is (by simp)
                    simp only [U] at r1 r2
                    have hl' : H.length ≤ H'.length := by rw [hl, List.length_append, sH_len]; omega
                    have := uni_k hne n a.args[i] b.args[i] q.1 q.2 c1 B1 p1 H' e3 hwt hwp hqB hq0 hq1 (by omega) (by omega)
                    rw [sH_self r1 r2] at this
                    exact this
                  · simp only [effs, List.foldl_cons, List.foldl_nil, U]
                  refine d_end (bm := [0, 0, 2, 0, 14, 30, 0, 64, 0, 448, 960, 2047, 4095]) (fresh := 0) (by kernel_rfl) (by simp only [jD, jO, jN, seval, vint, TyS, TyF, MapS, U, g1, Int.toNat_natCast, g2, g3, g4] <;> with_reducible rfl) (by decide) ?_
                  repeat (refine awp_seq ?_)
                  refine awp_cond rfl (by simp only [jN, seval, vint, TyS, TyF, MapS, U, g1, Int.toNat_natCast, g2, g3, g4] <;> with_reducible rfl) (fun bt123 => ?_) (fun bt123 => ?_)
                  ·
                    rw [if_neg (by simpa using bt123)] at hg
                    cases hg
                    refine awp_sel [0, 4, 5, 107, 108] (by simp only [jN, seval, vint, TyS, TyF, MapS, U, g1, Int.toNat_natCast, g2, g3, g4] <;> with_reducible rfl) ?_
                    repeat (refine awp_seq ?_)
                    refine e_eval (by simp only [jA, jO, jN, seval, vint, TyS, TyF, MapS, U, g1, Int.toNat_natCast, g2, g3, g4] <;> with_reducible rfl) (by decide) ?_
                    repeat (refine awp_seq ?_)
                    refine awp_ret ⟨.inr rfl, _, _, rfl, ?_, (by first | exact (List.append_nil _).symm | rfl)⟩
                    simp only [jN, seval, vint, TyS, TyF, MapS]
                  ·
                    rw [if_pos (by simpa using bt123)] at hg
                    repeat (refine awp_seq ?_)
                    refine awp_skip ?_
                    exact ⟨⟨rfl, rfl, trivial⟩, (B1, p1), [], ⟨rfl, rfl, rfl, trivial⟩, (by simp only [jN, seval, vint, TyS, TyF, MapS]), hg, i1, i3 (by simpa using bt123), by omega⟩
                · intro q hg
                  obtain ⟨hg, -⟩ := hg
                  rw [List.drop_eq_nil_of_le (Nat.le_refl _)] at hg
                  simp only [uniL] at hg
                  cases hg
                  repeat (refine awp_seq ?_)
                  refine e_eval (by simp only [jA, jO, jN, seval, vint, TyS, TyF, MapS, U] <;> with_reducible rfl) (by decide) ?_
                  repeat (refine awp_seq ?_)
                  refine awp_ret ⟨.inr rfl, _, _, rfl, ?_, (by first | exact (List.append_nil _).symm | rfl)⟩
                  simp only [jN, seval, vint, TyS, TyF, MapS]

end Go.Abs
