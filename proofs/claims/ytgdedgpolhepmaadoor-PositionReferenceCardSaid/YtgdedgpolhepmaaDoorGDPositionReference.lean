/- Part 4 of a proof of the law PositionReference: Go data as trees, the walks of the functions that the law reaches, the plain laws. -/
import Derived.Test.YtgdedgpolhepmaaDoorGCPositionReference
import Derived.Test.YtgdedgpolhepmaaDoorProg
import Derived.KernelRfl
import Derived.Shelf.Strings.Count
import Derived.Shelf.Strings.LastIndex
import Derived.Shelf.Unicode.DecodeAny
set_option linter.unusedVariables false
set_option linter.unusedSimpArgs false
namespace Go.Abs
open Go.Proofs
theorem Trydti2 : tinfo Tryd.prog 2 = some ⟨false, 1, 8⟩ := by kernel_rfl
theorem Trydtz2 : tzero Tryd.prog 2 = some (.int .i64 0) := by kernel_rfl
theorem Trydtp2 : tptr Tryd.prog 2 = false := by kernel_rfl
theorem Trydtk2 : tint Tryd.prog 2 = some .i64 := by kernel_rfl
theorem Trydti3 : tinfo Tryd.prog 3 = some ⟨false, 1, 8⟩ := by kernel_rfl
theorem Trydtz3 : tzero Tryd.prog 3 = some (.int .i64 0) := by kernel_rfl
theorem Trydtp3 : tptr Tryd.prog 3 = false := by kernel_rfl
theorem Trydtk3 : tint Tryd.prog 3 = some .i64 := by kernel_rfl
theorem Trydti4 : tinfo Tryd.prog 4 = some ⟨false, 1, 1⟩ := by kernel_rfl
theorem Trydtz4 : tzero Tryd.prog 4 = some (.bool false) := by kernel_rfl
theorem Trydtp4 : tptr Tryd.prog 4 = false := by kernel_rfl
theorem Trydtb4 : tbool Tryd.prog 4 = true := by kernel_rfl
theorem Trydti5 : tinfo Tryd.prog 5 = some ⟨false, 1, 1⟩ := by kernel_rfl
theorem Trydtz5 : tzero Tryd.prog 5 = some (.int .u8 0) := by kernel_rfl
theorem Trydtp5 : tptr Tryd.prog 5 = false := by kernel_rfl
theorem Trydtk5 : tint Tryd.prog 5 = some .u8 := by kernel_rfl
theorem Trydti6 : tinfo Tryd.prog 6 = some ⟨false, 1, 1⟩ := by kernel_rfl
theorem Trydtz6 : tzero Tryd.prog 6 = some (.int .u8 0) := by kernel_rfl
theorem Trydtp6 : tptr Tryd.prog 6 = false := by kernel_rfl
theorem Trydtk6 : tint Tryd.prog 6 = some .u8 := by kernel_rfl
theorem Trydti7 : tinfo Tryd.prog 7 = some ⟨true, 4, 24⟩ := by kernel_rfl
theorem Trydtf7 : tflds Tryd.prog 7 = some [(0, ⟨false, 1, 8⟩), (1, ⟨false, 1, 8⟩), (2, ⟨false, 1, 1⟩), (3, ⟨false, 1, 1⟩)] := by kernel_rfl
theorem Trydtz7 : tzero Tryd.prog 7 = some (.agg [.int .i64 0, .int .i64 0, .bool false, .int .u8 0]) := by kernel_rfl
theorem Trydtp7 : tptr Tryd.prog 7 = false := by kernel_rfl
theorem Trydti8 : tinfo Tryd.prog 8 = some ⟨true, 4, 24⟩ := by kernel_rfl
theorem Trydtf8 : tflds Tryd.prog 8 = some [(0, ⟨false, 1, 8⟩), (1, ⟨false, 1, 8⟩), (2, ⟨false, 1, 1⟩), (3, ⟨false, 1, 1⟩)] := by kernel_rfl
theorem Trydtz8 : tzero Tryd.prog 8 = some (.agg [.int .i64 0, .int .i64 0, .bool false, .int .u8 0]) := by kernel_rfl
theorem Trydtp8 : tptr Tryd.prog 8 = false := by kernel_rfl
theorem Trydti9 : tinfo Tryd.prog 9 = some ⟨false, 1, 16⟩ := by kernel_rfl
theorem Trydtz9 : tzero Tryd.prog 9 = some (.str []) := by kernel_rfl
theorem Trydtp9 : tptr Tryd.prog 9 = false := by kernel_rfl
theorem Trydts9 : tstr Tryd.prog 9 = true := by kernel_rfl
theorem Trydti10 : tinfo Tryd.prog 10 = some ⟨false, 1, 16⟩ := by kernel_rfl
theorem Trydtz10 : tzero Tryd.prog 10 = some (.str []) := by kernel_rfl
theorem Trydtp10 : tptr Tryd.prog 10 = false := by kernel_rfl
theorem Trydts10 : tstr Tryd.prog 10 = true := by kernel_rfl
theorem Trydti11 : tinfo Tryd.prog 11 = some ⟨false, 1, 16⟩ := by kernel_rfl
theorem Trydtz11 : tzero Tryd.prog 11 = some (.str []) := by kernel_rfl
theorem Trydtp11 : tptr Tryd.prog 11 = false := by kernel_rfl
theorem Trydts11 : tstr Tryd.prog 11 = true := by kernel_rfl
theorem Trydti12 : tinfo Tryd.prog 12 = some ⟨false, 1, 8⟩ := by kernel_rfl
theorem Trydtz12 : tzero Tryd.prog 12 = some (.int .u64 0) := by kernel_rfl
theorem Trydtp12 : tptr Tryd.prog 12 = false := by kernel_rfl
theorem Trydtk12 : tint Tryd.prog 12 = some .u64 := by kernel_rfl
theorem Trydti13 : tinfo Tryd.prog 13 = some ⟨true, 2, 24⟩ := by kernel_rfl
theorem Trydtf13 : tflds Tryd.prog 13 = some [(0, ⟨false, 1, 16⟩), (1, ⟨false, 1, 8⟩)] := by kernel_rfl
theorem Trydtz13 : tzero Tryd.prog 13 = some (.agg [.str [], .int .u64 0]) := by kernel_rfl
theorem Trydtp13 : tptr Tryd.prog 13 = false := by kernel_rfl
theorem Trydti14 : tinfo Tryd.prog 14 = some ⟨true, 2, 24⟩ := by kernel_rfl
theorem Trydtf14 : tflds Tryd.prog 14 = some [(0, ⟨false, 1, 16⟩), (1, ⟨false, 1, 8⟩)] := by kernel_rfl
theorem Trydtz14 : tzero Tryd.prog 14 = some (.agg [.str [], .int .u64 0]) := by kernel_rfl
theorem Trydtp14 : tptr Tryd.prog 14 = false := by kernel_rfl
theorem Trydti15 : tinfo Tryd.prog 15 = some ⟨false, 1, 8⟩ := by kernel_rfl
theorem Trydtz15 : tzero Tryd.prog 15 = some (.nilp) := by kernel_rfl
theorem Trydtp15 : tptr Tryd.prog 15 = true := by kernel_rfl
theorem Trydti16 : tinfo Tryd.prog 16 = some ⟨false, 1, 8⟩ := by kernel_rfl
theorem Trydtz16 : tzero Tryd.prog 16 = some (.nilp) := by kernel_rfl
theorem Trydtp16 : tptr Tryd.prog 16 = true := by kernel_rfl
theorem Trydti17 : tinfo Tryd.prog 17 = some ⟨false, 1, 8⟩ := by kernel_rfl
theorem Trydtz17 : tzero Tryd.prog 17 = some (.nilp) := by kernel_rfl
theorem Trydtp17 : tptr Tryd.prog 17 = true := by kernel_rfl
theorem Trydti18 : tinfo Tryd.prog 18 = some ⟨true, 1, 8⟩ := by kernel_rfl
theorem Trydtf18 : tflds Tryd.prog 18 = some [(0, ⟨false, 1, 8⟩)] := by kernel_rfl
theorem Trydtz18 : tzero Tryd.prog 18 = some (.agg [.nilp]) := by kernel_rfl
theorem Trydtp18 : tptr Tryd.prog 18 = false := by kernel_rfl
theorem Trydti19 : tinfo Tryd.prog 19 = some ⟨true, 1, 8⟩ := by kernel_rfl
theorem Trydtf19 : tflds Tryd.prog 19 = some [(0, ⟨false, 1, 8⟩)] := by kernel_rfl
theorem Trydtz19 : tzero Tryd.prog 19 = some (.agg [.nilp]) := by kernel_rfl
theorem Trydtp19 : tptr Tryd.prog 19 = false := by kernel_rfl
theorem Trydti21 : tinfo Tryd.prog 21 = some ⟨false, 1, 4⟩ := by kernel_rfl
theorem Trydtz21 : tzero Tryd.prog 21 = some (.int .i32 0) := by kernel_rfl
theorem Trydtp21 : tptr Tryd.prog 21 = false := by kernel_rfl
theorem Trydtk21 : tint Tryd.prog 21 = some .i32 := by kernel_rfl
theorem Trydti22 : tinfo Tryd.prog 22 = some ⟨true, 2, 16⟩ := by kernel_rfl
theorem Trydtf22 : tflds Tryd.prog 22 = some [(0, ⟨false, 1, 8⟩), (1, ⟨false, 1, 8⟩)] := by kernel_rfl
theorem Trydtz22 : tzero Tryd.prog 22 = some (.agg [.int .i64 0, .int .i64 0]) := by kernel_rfl
theorem Trydtp22 : tptr Tryd.prog 22 = false := by kernel_rfl
theorem Trydti23 : tinfo Tryd.prog 23 = some ⟨true, 2, 16⟩ := by kernel_rfl
theorem Trydtf23 : tflds Tryd.prog 23 = some [(0, ⟨false, 1, 8⟩), (1, ⟨false, 1, 8⟩)] := by kernel_rfl
theorem Trydtz23 : tzero Tryd.prog 23 = some (.agg [.int .i64 0, .int .i64 0]) := by kernel_rfl
theorem Trydtp23 : tptr Tryd.prog 23 = false := by kernel_rfl
theorem Trydti27 : tinfo Tryd.prog 27 = some ⟨false, 1, 24⟩ := by kernel_rfl
theorem Trydte27 : telem Tryd.prog 27 = some (3, ⟨false, 1, 8⟩) := by kernel_rfl
theorem Trydtz27 : tzero Tryd.prog 27 = some (.slice [] .full) := by kernel_rfl
theorem Trydtp27 : tptr Tryd.prog 27 = false := by kernel_rfl
theorem Trydti29 : tinfo Tryd.prog 29 = some ⟨false, 1, 8⟩ := by kernel_rfl
theorem Trydtz29 : tzero Tryd.prog 29 = some (.int .i64 0) := by kernel_rfl
theorem Trydtp29 : tptr Tryd.prog 29 = false := by kernel_rfl
theorem Trydtk29 : tint Tryd.prog 29 = some .i64 := by kernel_rfl
theorem Trydti37 : tinfo Tryd.prog 37 = some ⟨false, 1, 24⟩ := by kernel_rfl
theorem Trydte37 : telem Tryd.prog 37 = some (5, ⟨false, 1, 1⟩) := by kernel_rfl
theorem Trydtz37 : tzero Tryd.prog 37 = some (.slice [] .full) := by kernel_rfl
theorem Trydtp37 : tptr Tryd.prog 37 = false := by kernel_rfl
theorem Trydti40 : tinfo Tryd.prog 40 = some ⟨false, 1, 24⟩ := by kernel_rfl
theorem Trydte40 : telem Tryd.prog 40 = some (43, ⟨true, 3, 24⟩) := by kernel_rfl
theorem Trydtz40 : tzero Tryd.prog 40 = some (.slice [] .full) := by kernel_rfl
theorem Trydtp40 : tptr Tryd.prog 40 = false := by kernel_rfl
theorem Trydti42 : tinfo Tryd.prog 42 = some ⟨true, 3, 24⟩ := by kernel_rfl
theorem Trydtf42 : tflds Tryd.prog 42 = some [(0, ⟨false, 1, 8⟩), (1, ⟨false, 1, 8⟩), (2, ⟨false, 1, 8⟩)] := by kernel_rfl
theorem Trydtz42 : tzero Tryd.prog 42 = some (.agg [.int .i64 0, .int .i64 0, .int .i64 0]) := by kernel_rfl
theorem Trydtp42 : tptr Tryd.prog 42 = false := by kernel_rfl
theorem Trydti43 : tinfo Tryd.prog 43 = some ⟨true, 3, 24⟩ := by kernel_rfl
theorem Trydtf43 : tflds Tryd.prog 43 = some [(0, ⟨false, 1, 8⟩), (1, ⟨false, 1, 8⟩), (2, ⟨false, 1, 8⟩)] := by kernel_rfl
theorem Trydtz43 : tzero Tryd.prog 43 = some (.agg [.int .i64 0, .int .i64 0, .int .i64 0]) := by kernel_rfl
theorem Trydtp43 : tptr Tryd.prog 43 = false := by kernel_rfl
theorem Trydti49 : tinfo Tryd.prog 49 = some ⟨false, 1, 8⟩ := by kernel_rfl
theorem Trydtz49 : tzero Tryd.prog 49 = some (.nilp) := by kernel_rfl
theorem Trydtp49 : tptr Tryd.prog 49 = true := by kernel_rfl
theorem Trydti52 : tinfo Tryd.prog 52 = some ⟨false, 1, 8⟩ := by kernel_rfl
theorem Trydtz52 : tzero Tryd.prog 52 = some (.int .u64 0) := by kernel_rfl
theorem Trydtp52 : tptr Tryd.prog 52 = false := by kernel_rfl
theorem Trydtk52 : tint Tryd.prog 52 = some .u64 := by kernel_rfl
theorem Trydti53 : tinfo Tryd.prog 53 = some ⟨true, 2, 2⟩ := by kernel_rfl
theorem Trydtf53 : tflds Tryd.prog 53 = some [(0, ⟨false, 1, 1⟩), (1, ⟨false, 1, 1⟩)] := by kernel_rfl
theorem Trydtz53 : tzero Tryd.prog 53 = some (.agg [.int .u8 0, .int .u8 0]) := by kernel_rfl
theorem Trydtp53 : tptr Tryd.prog 53 = false := by kernel_rfl
theorem Trydti54 : tinfo Tryd.prog 54 = some ⟨true, 2, 2⟩ := by kernel_rfl
theorem Trydtf54 : tflds Tryd.prog 54 = some [(0, ⟨false, 1, 1⟩), (1, ⟨false, 1, 1⟩)] := by kernel_rfl
theorem Trydtz54 : tzero Tryd.prog 54 = some (.agg [.int .u8 0, .int .u8 0]) := by kernel_rfl
theorem Trydtp54 : tptr Tryd.prog 54 = false := by kernel_rfl
theorem Trydti57 : tinfo Tryd.prog 57 = some ⟨false, 1, 4⟩ := by kernel_rfl
theorem Trydtz57 : tzero Tryd.prog 57 = some (.int .u32 0) := by kernel_rfl
theorem Trydtp57 : tptr Tryd.prog 57 = false := by kernel_rfl
theorem Trydtk57 : tint Tryd.prog 57 = some .u32 := by kernel_rfl
theorem Trydti61 : tinfo Tryd.prog 61 = some ⟨true, 4, 40⟩ := by kernel_rfl
theorem Trydtf61 : tflds Tryd.prog 61 = some [(0, ⟨false, 1, 8⟩), (1, ⟨false, 1, 8⟩), (2, ⟨false, 1, 8⟩), (3, ⟨false, 1, 16⟩)] := by kernel_rfl
theorem Trydtz61 : tzero Tryd.prog 61 = some (.agg [.nilp, .nilp, .nilp, .str []]) := by kernel_rfl
theorem Trydtp61 : tptr Tryd.prog 61 = false := by kernel_rfl
theorem Trydti62 : tinfo Tryd.prog 62 = some ⟨true, 4, 40⟩ := by kernel_rfl
theorem Trydtf62 : tflds Tryd.prog 62 = some [(0, ⟨false, 1, 8⟩), (1, ⟨false, 1, 8⟩), (2, ⟨false, 1, 8⟩), (3, ⟨false, 1, 16⟩)] := by kernel_rfl
theorem Trydtz62 : tzero Tryd.prog 62 = some (.agg [.nilp, .nilp, .nilp, .str []]) := by kernel_rfl
theorem Trydtp62 : tptr Tryd.prog 62 = false := by kernel_rfl
theorem Trydti64 : tinfo Tryd.prog 64 = some ⟨true, 0, 0⟩ := by kernel_rfl
theorem Trydtf64 : tflds Tryd.prog 64 = some [(0, ⟨true, 0, 0⟩)] := by kernel_rfl
theorem Trydtz64 : tzero Tryd.prog 64 = some (.agg []) := by kernel_rfl
theorem Trydtp64 : tptr Tryd.prog 64 = false := by kernel_rfl
theorem Trydti65 : tinfo Tryd.prog 65 = some ⟨true, 0, 0⟩ := by kernel_rfl
theorem Trydtf65 : tflds Tryd.prog 65 = some [(0, ⟨true, 0, 0⟩)] := by kernel_rfl
theorem Trydtz65 : tzero Tryd.prog 65 = some (.agg []) := by kernel_rfl
theorem Trydtp65 : tptr Tryd.prog 65 = false := by kernel_rfl
theorem Trydti67 : tinfo Tryd.prog 67 = some ⟨false, 1, 1⟩ := by kernel_rfl
theorem Trydtz67 : tzero Tryd.prog 67 = some (.int .u8 0) := by kernel_rfl
theorem Trydtp67 : tptr Tryd.prog 67 = false := by kernel_rfl
theorem Trydtk67 : tint Tryd.prog 67 = some .u8 := by kernel_rfl
theorem Trydti68 : tinfo Tryd.prog 68 = some ⟨false, 1, 1⟩ := by kernel_rfl
theorem Trydtz68 : tzero Tryd.prog 68 = some (.int .u8 0) := by kernel_rfl
theorem Trydtp68 : tptr Tryd.prog 68 = false := by kernel_rfl
theorem Trydtk68 : tint Tryd.prog 68 = some .u8 := by kernel_rfl
theorem Trydti70 : tinfo Tryd.prog 70 = some ⟨false, 1, 8⟩ := by kernel_rfl
theorem Trydtz70 : tzero Tryd.prog 70 = some (.nilp) := by kernel_rfl
theorem Trydtp70 : tptr Tryd.prog 70 = true := by kernel_rfl
theorem Trydti71 : tinfo Tryd.prog 71 = some ⟨false, 1, 4⟩ := by kernel_rfl
theorem Trydtz71 : tzero Tryd.prog 71 = some (.int .i32 0) := by kernel_rfl
theorem Trydtp71 : tptr Tryd.prog 71 = false := by kernel_rfl
theorem Trydtk71 : tint Tryd.prog 71 = some .i32 := by kernel_rfl
theorem Trydti72 : tinfo Tryd.prog 72 = some ⟨false, 1, 4⟩ := by kernel_rfl
theorem Trydtz72 : tzero Tryd.prog 72 = some (.int .i32 0) := by kernel_rfl
theorem Trydtp72 : tptr Tryd.prog 72 = false := by kernel_rfl
theorem Trydtk72 : tint Tryd.prog 72 = some .i32 := by kernel_rfl
theorem Trydti73 : tinfo Tryd.prog 73 = some ⟨true, 11, 48⟩ := by kernel_rfl
theorem Trydtf73 : tflds Tryd.prog 73 = some [(0, ⟨false, 1, 8⟩), (1, ⟨false, 1, 8⟩), (2, ⟨false, 1, 4⟩), (3, ⟨false, 1, 1⟩), (4, ⟨false, 1, 1⟩), (5, ⟨false, 1, 1⟩), (6, ⟨false, 1, 1⟩), (7, ⟨false, 1, 8⟩), (8, ⟨false, 1, 8⟩), (9, ⟨false, 1, 4⟩), (10, ⟨false, 1, 4⟩)] := by kernel_rfl
theorem Trydtz73 : tzero Tryd.prog 73 = some (.agg [.int .u64 0, .int .u64 0, .int .u32 0, .int .u8 0, .int .u8 0, .int .u8 0, .int .u8 0, .nilfn, .nilp, .int .i32 0, .int .i32 0]) := by kernel_rfl
theorem Trydtp73 : tptr Tryd.prog 73 = false := by kernel_rfl
theorem Trydti74 : tinfo Tryd.prog 74 = some ⟨true, 11, 48⟩ := by kernel_rfl
theorem Trydtf74 : tflds Tryd.prog 74 = some [(0, ⟨false, 1, 8⟩), (1, ⟨false, 1, 8⟩), (2, ⟨false, 1, 4⟩), (3, ⟨false, 1, 1⟩), (4, ⟨false, 1, 1⟩), (5, ⟨false, 1, 1⟩), (6, ⟨false, 1, 1⟩), (7, ⟨false, 1, 8⟩), (8, ⟨false, 1, 8⟩), (9, ⟨false, 1, 4⟩), (10, ⟨false, 1, 4⟩)] := by kernel_rfl
theorem Trydtz74 : tzero Tryd.prog 74 = some (.agg [.int .u64 0, .int .u64 0, .int .u32 0, .int .u8 0, .int .u8 0, .int .u8 0, .int .u8 0, .nilfn, .nilp, .int .i32 0, .int .i32 0]) := by kernel_rfl
theorem Trydtp74 : tptr Tryd.prog 74 = false := by kernel_rfl
theorem Trydgo3 : goFn Tryd.prog 3 = true := by kernel_rfl
theorem Trydgo4 : goFn Tryd.prog 4 = true := by kernel_rfl
theorem Trydgo5 : goFn Tryd.prog 5 = true := by kernel_rfl
theorem Trydgo6 : goFn Tryd.prog 6 = true := by kernel_rfl
theorem Trydgo7 : goFn Tryd.prog 7 = true := by kernel_rfl
theorem Trydgo8 : goFn Tryd.prog 8 = true := by kernel_rfl
theorem Trydgo9 : goFn Tryd.prog 9 = true := by kernel_rfl
theorem Trydgo10 : goFn Tryd.prog 10 = true := by kernel_rfl
theorem Trydgo11 : goFn Tryd.prog 11 = true := by kernel_rfl
theorem Trydgo12 : goFn Tryd.prog 12 = true := by kernel_rfl
theorem Trydgo13 : goFn Tryd.prog 13 = true := by kernel_rfl
theorem Trydgo14 : goFn Tryd.prog 14 = true := by kernel_rfl
theorem Trydgo15 : goFn Tryd.prog 15 = true := by kernel_rfl
theorem Trydgo16 : goFn Tryd.prog 16 = true := by kernel_rfl
theorem Trydgo17 : goFn Tryd.prog 17 = true := by kernel_rfl
theorem Trydgo18 : goFn Tryd.prog 18 = true := by kernel_rfl
theorem Trydgo19 : goFn Tryd.prog 19 = true := by kernel_rfl
theorem Trydgo20 : goFn Tryd.prog 20 = true := by kernel_rfl
theorem Trydgo21 : goFn Tryd.prog 21 = true := by kernel_rfl
theorem Trydgo22 : goFn Tryd.prog 22 = true := by kernel_rfl
theorem Trydgo23 : goFn Tryd.prog 23 = true := by kernel_rfl
theorem Trydgo25 : goFn Tryd.prog 25 = true := by kernel_rfl
theorem Trydgo26 : goFn Tryd.prog 26 = true := by kernel_rfl
theorem Trydgo27 : goFn Tryd.prog 27 = true := by kernel_rfl
theorem Trydgo28 : goFn Tryd.prog 28 = true := by kernel_rfl
theorem Trydgo29 : goFn Tryd.prog 29 = true := by kernel_rfl
theorem Trydgo31 : goFn Tryd.prog 31 = true := by kernel_rfl
theorem Trydgo32 : goFn Tryd.prog 32 = true := by kernel_rfl
theorem Trydgo34 : goFn Tryd.prog 34 = true := by kernel_rfl
theorem Trydgo55 : goFn Tryd.prog 55 = true := by kernel_rfl
theorem y2 : type_of% (And.intro @Trydti2 (And.intro @Trydtz2 (And.intro @Trydtp2 (@Trydtk2)))) := And.intro @Trydti2 (And.intro @Trydtz2 (And.intro @Trydtp2 (@Trydtk2)))
theorem y3 : type_of% (And.intro @Trydti3 (And.intro @Trydtz3 (And.intro @Trydtp3 (@Trydtk3)))) := And.intro @Trydti3 (And.intro @Trydtz3 (And.intro @Trydtp3 (@Trydtk3)))
theorem y4 : type_of% (And.intro @Trydti4 (And.intro @Trydtz4 (And.intro @Trydtp4 (@Trydtb4)))) := And.intro @Trydti4 (And.intro @Trydtz4 (And.intro @Trydtp4 (@Trydtb4)))
theorem y5 : type_of% (And.intro @Trydti5 (And.intro @Trydtz5 (And.intro @Trydtp5 (@Trydtk5)))) := And.intro @Trydti5 (And.intro @Trydtz5 (And.intro @Trydtp5 (@Trydtk5)))
theorem y6 : type_of% (And.intro @Trydti6 (And.intro @Trydtz6 (And.intro @Trydtp6 (@Trydtk6)))) := And.intro @Trydti6 (And.intro @Trydtz6 (And.intro @Trydtp6 (@Trydtk6)))
theorem y7 : type_of% (And.intro @Trydti7 (And.intro @Trydtf7 (And.intro @Trydtz7 (@Trydtp7)))) := And.intro @Trydti7 (And.intro @Trydtf7 (And.intro @Trydtz7 (@Trydtp7)))
theorem y8 : type_of% (And.intro @Trydti8 (And.intro @Trydtf8 (And.intro @Trydtz8 (@Trydtp8)))) := And.intro @Trydti8 (And.intro @Trydtf8 (And.intro @Trydtz8 (@Trydtp8)))
theorem y9 : type_of% (And.intro @Trydti9 (And.intro @Trydtz9 (And.intro @Trydtp9 (@Trydts9)))) := And.intro @Trydti9 (And.intro @Trydtz9 (And.intro @Trydtp9 (@Trydts9)))
theorem y10 : type_of% (And.intro @Trydti10 (And.intro @Trydtz10 (And.intro @Trydtp10 (@Trydts10)))) := And.intro @Trydti10 (And.intro @Trydtz10 (And.intro @Trydtp10 (@Trydts10)))
theorem y11 : type_of% (And.intro @Trydti11 (And.intro @Trydtz11 (And.intro @Trydtp11 (@Trydts11)))) := And.intro @Trydti11 (And.intro @Trydtz11 (And.intro @Trydtp11 (@Trydts11)))
theorem y12 : type_of% (And.intro @Trydti12 (And.intro @Trydtz12 (And.intro @Trydtp12 (@Trydtk12)))) := And.intro @Trydti12 (And.intro @Trydtz12 (And.intro @Trydtp12 (@Trydtk12)))
theorem y13 : type_of% (And.intro @Trydti13 (And.intro @Trydtf13 (And.intro @Trydtz13 (@Trydtp13)))) := And.intro @Trydti13 (And.intro @Trydtf13 (And.intro @Trydtz13 (@Trydtp13)))
theorem y14 : type_of% (And.intro @Trydti14 (And.intro @Trydtf14 (And.intro @Trydtz14 (@Trydtp14)))) := And.intro @Trydti14 (And.intro @Trydtf14 (And.intro @Trydtz14 (@Trydtp14)))
theorem y15 : type_of% (And.intro @Trydti15 (And.intro @Trydtz15 (@Trydtp15))) := And.intro @Trydti15 (And.intro @Trydtz15 (@Trydtp15))
theorem y16 : type_of% (And.intro @Trydti16 (And.intro @Trydtz16 (@Trydtp16))) := And.intro @Trydti16 (And.intro @Trydtz16 (@Trydtp16))
theorem y17 : type_of% (And.intro @Trydti17 (And.intro @Trydtz17 (@Trydtp17))) := And.intro @Trydti17 (And.intro @Trydtz17 (@Trydtp17))
theorem y18 : type_of% (And.intro @Trydti18 (And.intro @Trydtf18 (And.intro @Trydtz18 (@Trydtp18)))) := And.intro @Trydti18 (And.intro @Trydtf18 (And.intro @Trydtz18 (@Trydtp18)))
theorem y19 : type_of% (And.intro @Trydti19 (And.intro @Trydtf19 (And.intro @Trydtz19 (@Trydtp19)))) := And.intro @Trydti19 (And.intro @Trydtf19 (And.intro @Trydtz19 (@Trydtp19)))
theorem y21 : type_of% (And.intro @Trydti21 (And.intro @Trydtz21 (And.intro @Trydtp21 (@Trydtk21)))) := And.intro @Trydti21 (And.intro @Trydtz21 (And.intro @Trydtp21 (@Trydtk21)))
theorem y22 : type_of% (And.intro @Trydti22 (And.intro @Trydtf22 (And.intro @Trydtz22 (@Trydtp22)))) := And.intro @Trydti22 (And.intro @Trydtf22 (And.intro @Trydtz22 (@Trydtp22)))
theorem y23 : type_of% (And.intro @Trydti23 (And.intro @Trydtf23 (And.intro @Trydtz23 (@Trydtp23)))) := And.intro @Trydti23 (And.intro @Trydtf23 (And.intro @Trydtz23 (@Trydtp23)))
theorem y27 : type_of% (And.intro @Trydti27 (And.intro @Trydte27 (And.intro @Trydtz27 (@Trydtp27)))) := And.intro @Trydti27 (And.intro @Trydte27 (And.intro @Trydtz27 (@Trydtp27)))
theorem y29 : type_of% (And.intro @Trydti29 (And.intro @Trydtz29 (And.intro @Trydtp29 (@Trydtk29)))) := And.intro @Trydti29 (And.intro @Trydtz29 (And.intro @Trydtp29 (@Trydtk29)))
theorem y37 : type_of% (And.intro @Trydti37 (And.intro @Trydte37 (And.intro @Trydtz37 (@Trydtp37)))) := And.intro @Trydti37 (And.intro @Trydte37 (And.intro @Trydtz37 (@Trydtp37)))
theorem y40 : type_of% (And.intro @Trydti40 (And.intro @Trydte40 (And.intro @Trydtz40 (@Trydtp40)))) := And.intro @Trydti40 (And.intro @Trydte40 (And.intro @Trydtz40 (@Trydtp40)))
theorem y42 : type_of% (And.intro @Trydti42 (And.intro @Trydtf42 (And.intro @Trydtz42 (@Trydtp42)))) := And.intro @Trydti42 (And.intro @Trydtf42 (And.intro @Trydtz42 (@Trydtp42)))
theorem y43 : type_of% (And.intro @Trydti43 (And.intro @Trydtf43 (And.intro @Trydtz43 (@Trydtp43)))) := And.intro @Trydti43 (And.intro @Trydtf43 (And.intro @Trydtz43 (@Trydtp43)))
theorem y49 : type_of% (And.intro @Trydti49 (And.intro @Trydtz49 (@Trydtp49))) := And.intro @Trydti49 (And.intro @Trydtz49 (@Trydtp49))
theorem y52 : type_of% (And.intro @Trydti52 (And.intro @Trydtz52 (And.intro @Trydtp52 (@Trydtk52)))) := And.intro @Trydti52 (And.intro @Trydtz52 (And.intro @Trydtp52 (@Trydtk52)))
theorem y53 : type_of% (And.intro @Trydti53 (And.intro @Trydtf53 (And.intro @Trydtz53 (@Trydtp53)))) := And.intro @Trydti53 (And.intro @Trydtf53 (And.intro @Trydtz53 (@Trydtp53)))
theorem y54 : type_of% (And.intro @Trydti54 (And.intro @Trydtf54 (And.intro @Trydtz54 (@Trydtp54)))) := And.intro @Trydti54 (And.intro @Trydtf54 (And.intro @Trydtz54 (@Trydtp54)))
theorem y57 : type_of% (And.intro @Trydti57 (And.intro @Trydtz57 (And.intro @Trydtp57 (@Trydtk57)))) := And.intro @Trydti57 (And.intro @Trydtz57 (And.intro @Trydtp57 (@Trydtk57)))
theorem y61 : type_of% (And.intro @Trydti61 (And.intro @Trydtf61 (And.intro @Trydtz61 (@Trydtp61)))) := And.intro @Trydti61 (And.intro @Trydtf61 (And.intro @Trydtz61 (@Trydtp61)))
theorem y62 : type_of% (And.intro @Trydti62 (And.intro @Trydtf62 (And.intro @Trydtz62 (@Trydtp62)))) := And.intro @Trydti62 (And.intro @Trydtf62 (And.intro @Trydtz62 (@Trydtp62)))
theorem y64 : type_of% (And.intro @Trydti64 (And.intro @Trydtf64 (And.intro @Trydtz64 (@Trydtp64)))) := And.intro @Trydti64 (And.intro @Trydtf64 (And.intro @Trydtz64 (@Trydtp64)))
theorem y65 : type_of% (And.intro @Trydti65 (And.intro @Trydtf65 (And.intro @Trydtz65 (@Trydtp65)))) := And.intro @Trydti65 (And.intro @Trydtf65 (And.intro @Trydtz65 (@Trydtp65)))
theorem y67 : type_of% (And.intro @Trydti67 (And.intro @Trydtz67 (And.intro @Trydtp67 (@Trydtk67)))) := And.intro @Trydti67 (And.intro @Trydtz67 (And.intro @Trydtp67 (@Trydtk67)))
theorem y68 : type_of% (And.intro @Trydti68 (And.intro @Trydtz68 (And.intro @Trydtp68 (@Trydtk68)))) := And.intro @Trydti68 (And.intro @Trydtz68 (And.intro @Trydtp68 (@Trydtk68)))
theorem y70 : type_of% (And.intro @Trydti70 (And.intro @Trydtz70 (@Trydtp70))) := And.intro @Trydti70 (And.intro @Trydtz70 (@Trydtp70))
theorem y71 : type_of% (And.intro @Trydti71 (And.intro @Trydtz71 (And.intro @Trydtp71 (@Trydtk71)))) := And.intro @Trydti71 (And.intro @Trydtz71 (And.intro @Trydtp71 (@Trydtk71)))
theorem y72 : type_of% (And.intro @Trydti72 (And.intro @Trydtz72 (And.intro @Trydtp72 (@Trydtk72)))) := And.intro @Trydti72 (And.intro @Trydtz72 (And.intro @Trydtp72 (@Trydtk72)))
theorem y73 : type_of% (And.intro @Trydti73 (And.intro @Trydtf73 (And.intro @Trydtz73 (@Trydtp73)))) := And.intro @Trydti73 (And.intro @Trydtf73 (And.intro @Trydtz73 (@Trydtp73)))
theorem y74 : type_of% (And.intro @Trydti74 (And.intro @Trydtf74 (And.intro @Trydtz74 (@Trydtp74)))) := And.intro @Trydti74 (And.intro @Trydtf74 (And.intro @Trydtz74 (@Trydtp74)))
end Go.Abs
namespace Go.Proofs
open Go.Shelf
def Tryd.lays138_ren : Go.Shelf.Ren := ⟨fun | 138 => 20 | 195 => 23 | 218 => 24 | 143 => 25 | 219 => 28 | 217 => 29 | 225 => 30 | 224 => 31 | 267 => 32 | 266 => 33 | 314 => 34 | n => n, fun | 9 => 9 | 3 => 3 | 4 => 4 | 5 => 5 | 0 => 0 | 46 => 52 | 146 => 58 | 51 => 57 | n => n, fun | 1 => 0 | n => n⟩
theorem Tryd.lays138 : Go.Proofs.Lays.n138 Tryd.prog Tryd.lays138_ren := {
  mixed := by kernel_rfl
  f138 := Tryd.func20.trans (congrArg some (by kernel_rfl))
  f143 := Tryd.func25.trans (congrArg some (by kernel_rfl))
  f195 := Tryd.func23.trans (congrArg some (by kernel_rfl))
  f217 := Tryd.func29.trans (congrArg some (by kernel_rfl))
  f218 := Tryd.func24.trans (congrArg some (by kernel_rfl))
  f219 := Tryd.func28.trans (congrArg some (by kernel_rfl))
  f224 := Tryd.func31.trans (congrArg some (by kernel_rfl))
  f225 := Tryd.func30.trans (congrArg some (by kernel_rfl))
  f266 := Tryd.func33.trans (congrArg some (by kernel_rfl))
  f267 := Tryd.func32.trans (congrArg some (by kernel_rfl))
  f314 := Tryd.func34.trans (congrArg some (by kernel_rfl))
  t0 := Tryd.underlying0
  a0 := Tryd.isAgg0
  z0 := Tryd.sizeOf0
  v0 := Tryd.zeroValue0
  t3 := Tryd.underlying3
  a3 := Tryd.isAgg3
  z3 := Tryd.sizeOf3
  v3 := Tryd.zeroValue3
  t4 := Tryd.underlying4
  a4 := Tryd.isAgg4
  z4 := Tryd.sizeOf4
  v4 := Tryd.zeroValue4
  t5 := Tryd.underlying5
  a5 := Tryd.isAgg5
  z5 := Tryd.sizeOf5
  v5 := Tryd.zeroValue5
  t9 := Tryd.underlying9
  a9 := Tryd.isAgg9
  z9 := Tryd.sizeOf9
  v9 := Tryd.zeroValue9
  t46 := Tryd.underlying52
  a46 := Tryd.isAgg52
  z46 := Tryd.sizeOf52
  v46 := Tryd.zeroValue52
  t51 := Tryd.underlying57
  a51 := Tryd.isAgg57
  z51 := Tryd.sizeOf57
  v51 := Tryd.zeroValue57
  t146 := Tryd.underlying58
  a146 := Tryd.isAgg58
  z146 := Tryd.sizeOf58
  v146 := Tryd.zeroValue58
  g1 := by kernel_rfl }
def Tryd.lays149_ren : Go.Shelf.Ren := ⟨fun | 149 => 21 | 222 => 26 | n => n, fun | 9 => 9 | 5 => 5 | 3 => 3 | 4 => 4 | n => n, fun | n => n⟩
theorem Tryd.lays149 : Go.Proofs.Lays.n149 Tryd.prog Tryd.lays149_ren := {
  mixed := by kernel_rfl
  f149 := Tryd.func21.trans (congrArg some (by kernel_rfl))
  f222 := Tryd.func26.trans (congrArg some (by kernel_rfl))
  t3 := Tryd.underlying3
  a3 := Tryd.isAgg3
  z3 := Tryd.sizeOf3
  v3 := Tryd.zeroValue3
  t4 := Tryd.underlying4
  a4 := Tryd.isAgg4
  z4 := Tryd.sizeOf4
  v4 := Tryd.zeroValue4
  t5 := Tryd.underlying5
  a5 := Tryd.isAgg5
  z5 := Tryd.sizeOf5
  v5 := Tryd.zeroValue5
  t9 := Tryd.underlying9
  a9 := Tryd.isAgg9
  z9 := Tryd.sizeOf9
  v9 := Tryd.zeroValue9 }
def Tryd.lays197_ren : Go.Shelf.Ren := ⟨fun | 197 => 22 | 260 => 27 | n => n, fun | 9 => 9 | 21 => 21 | 3 => 3 | 4 => 4 | 5 => 5 | 105 => 47 | 119 => 51 | 0 => 0 | 46 => 52 | 139 => 55 | 138 => 54 | n => n, fun | 3 => 1 | 4 => 2 | n => n⟩
theorem Tryd.lays197 : Go.Proofs.Lays.n197 Tryd.prog Tryd.lays197_ren := {
  mixed := by kernel_rfl
  f197 := Tryd.func22.trans (congrArg some (by kernel_rfl))
  f260 := Tryd.func27.trans (congrArg some (by kernel_rfl))
  t0 := Tryd.underlying0
  a0 := Tryd.isAgg0
  z0 := Tryd.sizeOf0
  v0 := Tryd.zeroValue0
  t3 := Tryd.underlying3
  a3 := Tryd.isAgg3
  z3 := Tryd.sizeOf3
  v3 := Tryd.zeroValue3
  t4 := Tryd.underlying4
  a4 := Tryd.isAgg4
  z4 := Tryd.sizeOf4
  v4 := Tryd.zeroValue4
  t5 := Tryd.underlying5
  a5 := Tryd.isAgg5
  z5 := Tryd.sizeOf5
  v5 := Tryd.zeroValue5
  t9 := Tryd.underlying9
  a9 := Tryd.isAgg9
  z9 := Tryd.sizeOf9
  v9 := Tryd.zeroValue9
  t21 := Tryd.underlying21
  a21 := Tryd.isAgg21
  z21 := Tryd.sizeOf21
  v21 := Tryd.zeroValue21
  t46 := Tryd.underlying52
  a46 := Tryd.isAgg52
  z46 := Tryd.sizeOf52
  v46 := Tryd.zeroValue52
  t105 := Tryd.underlying47
  a105 := Tryd.isAgg47
  z105 := Tryd.sizeOf47
  v105 := Tryd.zeroValue47
  t119 := Tryd.underlying51
  a119 := Tryd.isAgg51
  z119 := Tryd.sizeOf51
  t138 := Tryd.underlying54
  a138 := Tryd.isAgg54
  z138 := Tryd.sizeOf54
  v138 := Tryd.zeroValue54
  t139 := Tryd.underlying55
  a139 := Tryd.isAgg55
  z139 := Tryd.sizeOf55
  v139 := Tryd.zeroValue55
  g3 := by kernel_rfl
  g4 := by kernel_rfl }
open Go.RowKit Go.Lib in
/-- strings.Count AT A substr OF ONE BYTE ('hp'): "Count counts the number of non-overlapping instances of substr in s.": IT RETURNS 'Lib.countByte s (that byte)'; the world is as it was. ✋ NO CONTRACT HERE YET at an empty substr (utf8.RuneCountInString) or at a longer one (a loop over strings.Index). (LAID: no walk: one application.) -/
theorem Tryd.strings_Count_one (s : ByteArray) (c : UInt8) (w : World) :
    Calls Tryd.prog 20 #[.string s, .string ⟨#[c]⟩] w fun e w' => e = .returned (.int .i64 (Lib.countByte s.data.toList c)) ∧ w' = w := Any.strings_Count_one Tryd.lays138 s c w
open Go.RowKit Go.Lib in
/-- strings.LastIndexByte: "LastIndexByte returns the index of the last instance of c in s, or -1 if c is not present in s." (LAID: no walk: one application.) -/
theorem Tryd.strings_LastIndexByte (s : ByteArray) (c : Int) (hs : s.size < 4611686018427387904) (w : World) :
    Calls Tryd.prog 21 #[.string s, .int .u8 c] w fun e w' => e = .returned (.int .i64 (Lib.lastIndexByte s c)) ∧ w' = w := Any.strings_LastIndexByte Tryd.lays149 s c hs w
open Go.RowKit Go.Lib in
/-- **unicode/utf8.DecodeRuneInString AT EVERY STRING.** (LAID: no walk: one application.) -/
theorem Tryd.utf8_DecodeRuneInString (s : ByteArray) (w : World) (hT : Lib.Utf8Tabs 1 2 w) :
    Calls Tryd.prog 22 #[.string s] w fun e w' => e = .returned (.tuple #[.int .i32 (Lib.decodeGo s).1, .int .i64 (Lib.decodeGo s).2]) ∧ Below w.heap.size w w' := Any.utf8_DecodeRuneInString Tryd.lays197 s w hT
end Go.Proofs
set_option maxRecDepth 4000
namespace Go.Abs
open Go.Proofs Go.RowKit

theorem rl_one {V : View} {vargs : Array Value} {p : PV} (h : RL V vargs [p]) : ∃ v0, vargs = #[v0] ∧ VRel V v0 p := by
  obtain ⟨hsz, hr⟩ := h
  have h0 := hr 0 (by simp)
  simp only [List.getElem_cons_zero] at h0
  have hs : vargs.size = 1 := by simpa using hsz
  rw [Array.getD_eq_getD_getElem?, Array.getElem?_eq_getElem (by omega)] at h0
  refine ⟨vargs[0], ?_, h0⟩
  apply Array.ext <;> simp [hs]; intro i hi; subst hi; rfl
theorem rl_two {V : View} {vargs : Array Value} {p q : PV} (h : RL V vargs [p, q]) : ∃ v0 v1, vargs = #[v0, v1] ∧ VRel V v0 p ∧ VRel V v1 q := by
  obtain ⟨hsz, hr⟩ := h
  have h0 := hr 0 (by simp)
  have h1 := hr 1 (by simp)
  simp only [List.getElem_cons_zero, List.getElem_cons_succ] at h0 h1
  have hs : vargs.size = 2 := by simpa using hsz
  rw [Array.getD_eq_getD_getElem?, Array.getElem?_eq_getElem (by omega)] at h0 h1
  refine ⟨vargs[0], vargs[1], ?_, h0, h1⟩
  apply Array.ext <;> simp [hs]; intro i hi hi2; match i, hi2 with | 0, _ => rfl | 1, _ => rfl
theorem count_c (s : List UInt8) : PC Tryd.prog 20 [.str s, .str [10]] (vint ((s.count 10 : Nat) : Int)) := fun H => by
  refine acalls_below fun E vargs ho hH hrl => ?_
  obtain ⟨v0, v1, rfl, h0, h1⟩ := rl_two hrl
  generalize hq : [(10 : UInt8)] = q at h1
  cases h0 with
  | str z => cases h1 with
    | str y =>
      have hy : y = ⟨#[10]⟩ := by
        obtain ⟨⟨l⟩⟩ := y
        simp at hq; rw [← hq]
      subst hy
      exact ⟨_, VRel.int _ _, (Tryd.strings_Count_one z 10 E.w).mono fun e w' ⟨h1, h2⟩ => ⟨h1, h2 ▸ Below.refl _ _⟩⟩
theorem lastIx_c (s : List UInt8) (hs : s.length < 4611686018427387904) : PC Tryd.prog 21 [.str s, .int .u8 10] (vint ((lastS s : Int) - 1)) := fun H => by
  refine acalls_below fun E vargs ho hH hrl => ?_
  obtain ⟨v0, v1, rfl, h0, h1⟩ := rl_two hrl
  cases h0 with
  | str z =>
    generalize hk : (PV.int IntKind.u8 (10 : Int)) = p at h1
    cases h1 <;> cases hk
    refine ⟨_, VRel.int _ _, (Tryd.strings_LastIndexByte z 10 hs E.w).mono fun e w' ⟨h1, h2⟩ => ⟨?_, h2 ▸ Below.refl _ _⟩⟩
    rw [h1, ← lastS_index z]
    congr 2; omega
/-- The library's tables for UTF-8, as they are laid. -/
def firstV : List Value := (List.range 256).map fun c => .int .u8 (Go.Lib.firstT c)
def accV : List Value := (List.range 32).map fun j => .int .u8 (if j % 2 = 0 then Go.Lib.accLo (j / 2) else Go.Lib.accHi (j / 2))
def G0 : Heap := [.glob 1 firstV, .glob 2 accV]
theorem dec_c (s : List UInt8) (h : s ≠ []) : PG G0 Tryd.prog 22 [.str s] (.tup [.int .i32 ((decL s).1 : Int), vint ((decL s).2 : Int)]) := fun H hG => by
  refine acalls_below fun E vargs ho hH hrl => ?_
  obtain ⟨v0, rfl, h0⟩ := rl_one hrl
  cases h0 with
  | str z =>
    have hg1 := hG 0 _ rfl
    have hg2 := hG 1 _ rfl
    rw [← hH] at hg1 hg2
    have hT : Go.Lib.Utf8Tabs 1 2 E.w := by
      refine ⟨fun c hc => ?_, fun i hi => ⟨?_, ?_⟩⟩
      · have hl : c < firstV.length := by simpa [firstV] using hc
        rw [glob_cell ho hg1 hl]; simp [firstV]
      · have hl : 2 * i < accV.length := by simp [accV]; omega
        rw [glob_cell ho hg2 hl]; simp [accV]
      · have hl : 2 * i + 1 < accV.length := by simp [accV]; omega
        have e1 : (2 * i + 1) % 2 = 1 := by omega
        have e2 : (2 * i + 1) / 2 = i := by omega
        rw [glob_cell ho hg2 hl]; simp [accV, e1, e2]
    have hd : Go.Lib.decodeGo z = decL z.data.toList := by
      have hsz : z.size ≠ 0 := fun e => h (List.length_eq_zero_iff.1 e)
      unfold Go.Lib.decodeGo
      rw [if_neg hsz, decL_at, List.drop_zero]
    refine ⟨_, VRel.tup #[.int .i32 ((decL z.data.toList).1 : Int), .int .i64 ((decL z.data.toList).2 : Int)] _ rfl fun i hi => ?_, (Tryd.utf8_DecodeRuneInString z E.w hT).mono fun e w' ⟨h1, h2⟩ => ⟨by rw [h1, hd], h2⟩⟩
    match i, hi with
    | 0, _ => exact .int _ _
    | 1, _ => exact .int _ _

theorem short_c (s : List UInt8) (hs : s.length ≤ maxLen) : PC Tryd.prog 5 [.str s, vint 300] (.str (s.take 300)) := by
  have em : maxLen = 9223372036854775807 := by decide
  have hcs : s.length ≤ 300 ∨ 300 ≤ s.length := by omega
  refine pc_of (N := 11) Tryd.func5 rfl rfl (by simp) (by simp [Bel.int, Bel.str, Bel.bool, Po.bel, bel_ints0]) (.str _) ?_
  repeat (refine awp_seq ?_)
  refine e_eval (by simp only [jA, jO, jN, seval, vint, qP] <;> with_reducible rfl) (by decide) ?_
  rcases hcs with hc | hc
  ·
    have m1 : min (s.length : Int) 300 = s.length := by omega
    have hv : s.take 300 = s := List.take_of_length_le hc
    have l1 : ((0 : Int) ≤ s.length) = True := by simp
    repeat (refine awp_seq ?_)
    refine e_eval (by simp only [jA, jO, jN, seval, y3, y9, vint, qP, jS, m1, l1, Int.le_refl, Nat.le_refl, Int.toNat_natCast, List.drop_zero, List.take_length, hv] <;> with_reducible rfl) (by decide) ?_
    repeat (refine awp_seq ?_)
    refine awp_ret ⟨.inr rfl, _, rfl, ?_⟩
    simp only [jN, seval, vint, qP]
    try first | rfl | rw [hv]
  ·
    have m1 : min (s.length : Int) 300 = 300 := by omega
    have l1 : ((300 : Int) ≤ s.length) = True := by simp; omega
    have l2 : ((300 : Nat) ≤ s.length) = True := by simp; omega
    repeat (refine awp_seq ?_)
    refine e_eval (by simp only [jA, jO, jN, seval, y3, y9, vint, qP, jS, m1, l1, l2, List.drop_zero] <;> with_reducible rfl) (by decide) ?_
    repeat (refine awp_seq ?_)
    refine awp_ret ⟨.inr rfl, _, rfl, ?_⟩
    simp only [jN, seval, vint, qP]
    try first | rfl | rw [hv]

theorem w16_c (r : Nat) : PC Tryd.prog 16 [.int .i32 (r : Int)] (vint ((unT r : Nat) : Int)) := by
  refine pc_of (N := 5) Tryd.func16 rfl rfl (by simp) (by simp [Bel.int, Bel.str, Bel.bool, Po.bel, bel_ints0]) (.int _ _) ?_
  repeat (refine awp_seq ?_)
  refine e_eval (by simp only [jA, jO, jN, seval, vint, qP] <;> with_reducible rfl) (by decide) ?_
  repeat (refine awp_seq ?_)
  refine e_eval (by simp only [jA, jO, jN, seval, y21, vint, qP] <;> with_reducible rfl) (by decide) ?_
  repeat (refine awp_seq ?_)
  refine awp_cond rfl (by simp only [jN, seval, vint, qP] <;> with_reducible rfl) (fun bt4 => ?_) (fun bt4 => ?_)
  ·
    have hv : unT r = 2 := by unfold unT; rw [if_pos (by have := of_decide_eq_true bt4; omega)]
    repeat (refine awp_seq ?_)
    refine e_eval (by simp only [jA, jO, jN, seval, vint, qP] <;> with_reducible rfl) (by decide) ?_
    repeat (refine awp_seq ?_)
    refine awp_ret ⟨.inr rfl, _, rfl, ?_⟩
    simp only [jN, seval, vint, qP, hv]
    try rfl
  ·
    have hv : unT r = 1 := by unfold unT; rw [if_neg (by have := of_decide_eq_false bt4; omega)]
    repeat (refine awp_seq ?_)
    refine awp_skip ?_
    repeat (refine awp_seq ?_)
    refine e_eval (by simp only [jA, jO, jN, seval, vint, qP] <;> with_reducible rfl) (by decide) ?_
    repeat (refine awp_seq ?_)
    refine awp_ret ⟨.inr rfl, _, rfl, ?_⟩
    simp only [jN, seval, vint, qP, hv]
    try rfl

theorem w1_c (r : Nat) : PC Tryd.prog 18 [.int .i32 (r : Int)] (vint ((1 : Nat) : Int)) := by
  refine pc_of (N := 3) Tryd.func18 rfl rfl (by simp) (by simp [Bel.int, Bel.str, Bel.bool, Po.bel, bel_ints0]) (.int _ _) ?_
  repeat (refine awp_seq ?_)
  refine e_eval (by simp only [jA, jO, jN, seval, vint, qP] <;> with_reducible rfl) (by decide) ?_
  repeat (refine awp_seq ?_)
  refine e_eval (by simp only [jA, jO, jN, seval, vint, qP] <;> with_reducible rfl) (by decide) ?_
  repeat (refine awp_seq ?_)
  refine awp_ret ⟨.inr rfl, _, rfl, ?_⟩
  simp only [jN, seval, vint, qP]
  try rfl

theorem eqInts (us : List Int) (hx : us.length ≤ maxLen) : PC Tryd.prog 6 [.slice (us.map vint) .none, .slice (us.map vint) .none] (.bool true) := by
  refine pc_of (N := 26) Tryd.func6 rfl rfl (by simp) (by simp [Bel.int, Bel.str, Bel.bool, Po.bel, bel_ints0]) (.bool _) ?_
  repeat (refine awp_seq ?_)
  refine e_eval (by simp only [jA, jO, jN, seval, vint, qP, decide_true, Bool.not_true] <;> with_reducible rfl) (by decide) ?_
  repeat (refine awp_seq ?_)
  refine e_eval (by simp only [jA, jO, jN, seval, y3, y27, vint, qP, decide_true, Bool.not_true] <;> with_reducible rfl) (by decide) ?_
  repeat (refine awp_seq ?_)
  refine awp_cond_false rfl (by simp only [jN, seval, vint, qP, decide_true, Bool.not_true] <;> with_reducible rfl) ?_
  repeat (refine awp_seq ?_)
  refine awp_skip ?_
  repeat (refine awp_seq ?_)
  refine e_eval (by simp only [jA, jO, jN, seval, y3, y27, vint, qP, decide_true, Bool.not_true] <;> with_reducible rfl) (by decide) ?_
  repeat (refine awp_seq ?_)
  refine awp_forS (σ := Unit) (us.length) (fun (u_ : Unit) => [(0, .slice (us.map vint) .none), (1, .slice (us.map vint) .none)]) [0, 1] ([]) (fun (u_ : Unit) => []) (fun (i : Nat) (u_ : Unit) => True) (()) ([]) rfl rfl rfl rfl rfl rfl rfl rfl rfl (by decide) (by decide) (by decide) (fun _ => rfl) (hx) ⟨(by first | rfl | (simp only [jN, seval, vint, qP, decide_true, Bool.not_true] <;> first | done | with_reducible rfl)), (by first | rfl | (simp only [jN, seval, vint, qP, decide_true, Bool.not_true] <;> first | done | with_reducible rfl)), (by first | rfl | (simp only [jN, seval, vint, qP, decide_true, Bool.not_true] <;> first | done | with_reducible rfl)), (by first | rfl | (simp only [jN, seval, vint, qP, decide_true, Bool.not_true] <;> first | done | with_reducible rfl)), trivial⟩ (by first | rfl | (simp only [jN, seval, vint, qP, decide_true, Bool.not_true] <;> first | done | with_reducible rfl)) (by simp) (fun _ _ _ => by first | exact Nat.zero_le _ | (simp only [List.length_append]; omega)) ?_ ?_ ?_
  · exact fun i s hg => ⟨by first | exact hbel_nil _ | (simp only [List.append_nil]; assumption) | (refine hbel_app' hb' (by simp) ?_; repeat (first | exact hbel_nil _ | exact trivial | exact obel_row_nil _ | (refine HBel.cons ?_ ?_) | (refine obel_row_cons (by first | exact Po.bel _ _ | exact bel_ints0 _ _ | exact bel_nil0 _ | exact bel_nil1 _ | exact Bel.int _ _ | exact Bel.bool _ | exact Bel.str _ | exact Bel.nilp | exact Bel.nilfn | exact Bel.optr _ _ (by simp) | exact bel_nil0 _ | exact bel_nil1 _ | exact bel_fn0 _ _ | assumption) ?_))), by repeat (first | exact BelL.nil | refine BelL.cons (by first | exact Po.bel _ _ | exact bel_ints0 _ _ | exact bel_nil0 _ | exact bel_nil1 _ | exact Bel.int _ _ | exact Bel.bool _ | exact Bel.str _ | exact Bel.nilp | exact Bel.nilfn | exact Bel.optr _ _ (by simp) | exact bel_nil0 _ | exact bel_nil1 _ | exact bel_fn0 _ _ | assumption) ?_)⟩
  · intro i u_ hi hg
    have g1 := ix_nat hi
    have g2 := get_enc vint hi
    repeat (refine awp_seq ?_)
    refine e_eval (by simp only [jA, jO, jN, seval, vint, qP, decide_true, Bool.not_true, g1, Int.toNat_natCast, g2] <;> with_reducible rfl) (by decide) ?_
    repeat (refine awp_seq ?_)
    refine dp_draw (by kernel_rfl) ?_
    refine dp_end (by simp only [jP, jO, jN, seval, y3, y27, vint, qP, decide_true, Bool.not_true, g1, Int.toNat_natCast, g2] <;> with_reducible rfl) (by decide) (by repeat (first | exact Fin.base _ | with_reducible apply Fin.keep | apply Fin.drop)) ?_
    repeat (refine awp_seq ?_)
    refine awp_cond_false rfl (by simp only [jN, seval, vint, qP, decide_true, Bool.not_true, g1, Int.toNat_natCast, g2] <;> with_reducible rfl) ?_
    repeat (refine awp_seq ?_)
    refine awp_skip ?_
    exact ⟨⟨rfl, rfl, trivial⟩, (), [], ⟨rfl, rfl, trivial⟩, rfl, trivial⟩
  · intro u_ hg
    repeat (refine awp_seq ?_)
    refine e_eval (by simp only [jA, jO, jN, seval, vint, qP, decide_true, Bool.not_true] <;> with_reducible rfl) (by decide) ?_
    repeat (refine awp_seq ?_)
    refine awp_ret ⟨.inr rfl, _, rfl, ?_⟩
    simp only [jN, seval, vint, qP]

end Go.Abs
set_option maxRecDepth 4000
namespace Go.Abs
open Go.Proofs

def slotI (us : List Int) : PV := if us.length = 1 then .slice (us.map vint) .full else .slice (us.map vint) (.tok 0)
def hpI (us : List Int) : Heap := if us.length = 1 then [] else [.buf us.length 1]
theorem hpI_len (us : List Int) : (hpI us).length = if us.length = 1 then 0 else 1 := by unfold hpI; split <;> rfl
theorem hbel_hpI (n : Nat) (us : List Int) : HBel n (hpI us) := by
  unfold hpI
  split
  · exact hbel_nil _
  · exact HBel.cons trivial (hbel_nil _)
theorem bel_slotI {n : Nat} (us : List Int) (h : us.length = 1 ∨ 0 < n) : Bel n (slotI us) := by
  have hb := bel_ints0 n us
  unfold slotI
  cases hb with
  | slice _ _ h1 h2 =>
    split
    · exact .slice _ _ h1 (fun _ e => by cases e)
    · rename_i hn
      exact .slice _ _ h1 (fun _ e => by cases e; exact h.resolve_left hn)
theorem slotI_drop1 (us : List Int) : (slotI us).drop1 = .slice (us.map vint) .none := by unfold slotI; split <;> rfl
theorem app_intT {us : List Int} {u : Int} {id : Nat} {tl : Tail} (hb : (us.length + 1) * 8 ≤ 2 ^ 47) (fresh : Nat) (H : Heap) (hH : H[id]? = some (.buf us.length 1)) :
    aappend ⟨false, 1, 8⟩ fresh H (.slice (us.map vint) (.tok id)) (.slice [.int .i64 u] tl) = some (.slice ((us ++ [u]).map vint) (.tok id), some (id, .buf (us.length + 1) 1)) := by
  have em : maxLen = 9223372036854775807 := by decide
  have := aappend_tok1 (i := ⟨false, 1, 8⟩) (fresh := fresh) (H := H) (es := us.map vint) (x := .int .i64 u) (id := id) (n := us.length) (tl := tl) hH (by simp) (by simpa using hb) (by rw [List.length_map]; omega) (fun e he => by obtain ⟨q, _, rfl⟩ := List.mem_map.1 he; rfl) rfl rfl (by decide)
  rw [this]
  simp [vint]
theorem app_intF {us : List Int} {u : Int} {tl : Tail} (hb : (us.length + 1) * 8 ≤ 2 ^ 47) (fresh : Nat) (H : Heap) :
    aappend ⟨false, 1, 8⟩ fresh H (.slice (us.map vint) .full) (.slice [.int .i64 u] tl) = some (.slice ((us ++ [u]).map vint) (.tok fresh), some (fresh, .buf (us.length + 1) 1)) := by
  have em : maxLen = 9223372036854775807 := by decide
  unfold aappend
  simp only [List.cons_ne_self, if_false, List.length_cons, List.length_nil, Nat.zero_add, reduceCtorEq, List.length_map]
  rw [if_pos ⟨hb, by omega, fun e he => by obtain ⟨q, _, rfl⟩ := List.mem_map.1 he; rfl, fun e he => by rw [List.mem_singleton] at he; subst he; exact ⟨rfl, rfl⟩, by decide⟩]
  simp [vint]
def startsI (s : List UInt8) : List Int := (startsT s).map fun (n : Nat) => (n : Int)
theorem startsI_len (s : List UInt8) : (startsI s).length ≤ s.length + 1 := by
  have := List.count_le_length (a := (10 : UInt8)) (l := s)
  simp [startsI, startsT, nlT_count]; omega
theorem startsI_step {s : List UInt8} {i : Nat} (h : i < s.length) : startsI (s.take (i + 1)) = startsI (s.take i) ++ (if s[i] = 10 then [((i + 1 : Nat) : Int)] else []) := by
  have hl : (s.take i).length = i := by rw [List.length_take]; omega
  rw [List.take_succ_eq_append_getElem h]
  unfold startsI startsT
  rw [nlT_append, hl, Nat.zero_add]
  simp only [nlT, List.map_cons, List.map_append, List.cons_append]
  split <;> rfl
theorem u8_nat (n : Nat) (h : n < 256) : (UInt8.ofNat n).toNat = n := by rw [UInt8.toNat_ofNat']; exact Nat.mod_eq_of_lt h
theorem u8_eq (c : UInt8) (n : Nat) (h : n < 256) : decide ((c.toNat : Int) = n) = (c == UInt8.ofNat n) := by
  have e : (c == UInt8.ofNat n) = decide (c = UInt8.ofNat n) := by rw [Bool.eq_iff_iff]; simp
  rw [e, decide_eq_decide, ← UInt8.toNat_inj, u8_nat n h]; omega

theorem ls_c (s : List UInt8) (hs : s.length ≤ 300) : PC Tryd.prog 7 [.str s] (.slice ((startsI s).map vint) .none) := by
  have em : maxLen = 9223372036854775807 := by decide
  have hm : s.length ≤ maxLen := by omega
  refine pc_of (N := 22) Tryd.func7 rfl rfl (by simp) (by simp [Bel.int, Bel.str, Bel.bool, Po.bel, bel_ints0]) (bel_ints0 _ _) ?_
  repeat (refine awp_seq ?_)
  refine e_eval (by simp only [jA, jO, jN, seval, vint, qP] <;> with_reducible rfl) (by decide) ?_
  repeat (refine awp_seq ?_)
  refine e_eval (by simp only [jA, jO, jN, seval, y3, y27, vint, qP] <;> with_reducible rfl) (by decide) ?_
  repeat (refine awp_seq ?_)
  refine e_eval (by simp only [jA, jO, jN, seval, y9, vint, qP] <;> with_reducible rfl) (by decide) ?_
  repeat (refine awp_seq ?_)
  refine awp_forS (σ := List Int) (s.length) (fun (us : List Int) => [(0, .str s), (3, slotI us)]) [0, 3] ([]) (fun (us : List Int) => hpI us) (fun (i : Nat) (us : List Int) => us = startsI (s.take i)) ([0]) ([]) rfl rfl rfl rfl rfl rfl rfl rfl rfl (by decide) (by decide) (by decide) (fun _ => rfl) (hm) ⟨(by first | rfl | (simp only [jN, seval, vint, qP] <;> first | done | with_reducible rfl)), (by first | rfl | (simp only [jN, seval, vint, qP] <;> first | done | with_reducible rfl)), (by first | rfl | (simp only [jN, seval, vint, qP] <;> first | done | with_reducible rfl)), (by first | rfl | (simp only [jN, seval, vint, qP] <;> first | done | with_reducible rfl)), trivial⟩ (by first | rfl | (simp only [jN, seval, vint, qP] <;> first | done | with_reducible rfl)) (by simp [startsI, startsT, nlT]) (fun _ _ _ => by first | exact Nat.zero_le _ | (simp only [List.length_append]; omega)) ?_ ?_ ?_
  · exact fun i us hg => ⟨by simp only [List.nil_append]; exact hbel_hpI _ _, by repeat (first | exact BelL.nil | refine BelL.cons (by first | exact bel_slotI _ (by rw [List.length_append, hpI_len, List.length_nil]; split <;> omega) | exact Po.bel _ _ | exact bel_ints0 _ _ | exact bel_nil0 _ | exact bel_nil1 _ | exact Bel.int _ _ | exact Bel.bool _ | exact Bel.str _ | exact Bel.nilp | exact Bel.nilfn | exact Bel.optr _ _ (by simp) | exact bel_nil0 _ | exact bel_nil1 _ | exact bel_fn0 _ _ | assumption) ?_)⟩
  · intro i us hi hg
    have g1 := ix_nat hi
    obtain ⟨c, hc⟩ : ∃ c, s[i] = c := ⟨_, rfl⟩
    have g2 : s[i]? = some c := by rw [List.getElem?_eq_getElem hi, hc]
    have e10 : decide ((c.toNat : Int) = 10) = (c == 10) := u8_eq c 10 (by decide)
    have w1 : IntKind.i64.wrap ((i : Int) + 1) = ((i + 1 : Nat) : Int) := by rw [wrap_id (by omega) (by omega)]; omega
    have hst := startsI_step hi
    rw [hc, ← hg] at hst
    have hul : us.length ≤ i + 1 := by rw [hg]; have := startsI_len (s.take i); rw [List.length_take] at this; omega
    repeat (refine awp_seq ?_)
    refine e_eval (by simp only [jA, jO, jN, seval, vint, qP, g1, g2, e10, Int.toNat_natCast] <;> with_reducible rfl) (by decide) ?_
    repeat (refine awp_seq ?_)
    refine e_eval (by simp only [jA, jO, jN, seval, y5, y9, vint, qP, g1, g2, e10, Int.toNat_natCast] <;> with_reducible rfl) (by decide) ?_
    repeat (refine awp_seq ?_)
    refine awp_cond rfl (by simp only [jN, seval, vint, qP, g1, g2, e10, Int.toNat_natCast] <;> with_reducible rfl) (fun bt14 => ?_) (fun bt14 => ?_)
    ·
      have h10 : c = 10 := by simpa using bt14
      rw [if_pos h10] at hst
      have hcs : us.length = 1 ∨ ¬ us.length = 1 := by omega
      have hb8 : (us.length + 1) * 8 ≤ 2 ^ 47 := by omega
      rcases hcs with h1 | h1
      ·
        have s3 : slotI us = .slice (us.map vint) .full := if_pos h1
        have h3 : hpI us = [] := if_pos h1
        have hap := app_intF (us := us) (u := ((i + 1 : Nat) : Int)) (tl := .full) hb8
        repeat (refine awp_seq ?_)
        refine e_eval (by simp only [jA, jO, jN, seval, y3, y27, vint, qP, g1, g2, e10, Int.toNat_natCast, s3, h3, w1, hap] <;> with_reducible rfl) (by decide) ?_
        first
          | exact ⟨⟨rfl, rfl, trivial⟩, us, [], ⟨rfl, rfl, trivial⟩, by simp, hst.symm⟩
          | (have hn0 : us ≠ [] := by rw [hg]; simp [startsI, startsT]
             have hp := List.length_pos_iff.2 hn0
             have hl2 : ¬ (us ++ [((i + 1 : Nat) : Int)]).length = 1 := by rw [List.length_append, List.length_singleton]; omega
             have s4 : slotI (us ++ [((i + 1 : Nat) : Int)]) = .slice ((us ++ [((i + 1 : Nat) : Int)]).map vint) (.tok 0) := if_neg hl2
             have h4 : hpI (us ++ [((i + 1 : Nat) : Int)]) = [.buf (us.length + 1) 1] := by unfold hpI; rw [if_neg hl2, List.length_append, List.length_singleton]
             exact ⟨⟨rfl, rfl, trivial⟩, (us ++ [((i + 1 : Nat) : Int)]), [], ⟨rfl, by rw [s4]; rfl, trivial⟩, by rw [h4]; simp [h3], hst.symm⟩)
      ·
        have s3 : slotI us = .slice (us.map vint) (.tok 0) := if_neg h1
        have h3 : hpI us = [.buf us.length 1] := if_neg h1
        have hap := app_intT (us := us) (u := ((i + 1 : Nat) : Int)) (id := 0) (tl := .full) hb8
        repeat (refine awp_seq ?_)
        refine e_eval (by simp only [jA, jO, jN, seval, y3, y27, vint, qP, g1, g2, e10, Int.toNat_natCast, s3, h3, w1, hap] <;> with_reducible rfl) (by decide) ?_
        first
          | exact ⟨⟨rfl, rfl, trivial⟩, us, [], ⟨rfl, rfl, trivial⟩, by simp, hst.symm⟩
          | (have hn0 : us ≠ [] := by rw [hg]; simp [startsI, startsT]
             have hp := List.length_pos_iff.2 hn0
             have hl2 : ¬ (us ++ [((i + 1 : Nat) : Int)]).length = 1 := by rw [List.length_append, List.length_singleton]; omega
             have s4 : slotI (us ++ [((i + 1 : Nat) : Int)]) = .slice ((us ++ [((i + 1 : Nat) : Int)]).map vint) (.tok 0) := if_neg hl2
             have h4 : hpI (us ++ [((i + 1 : Nat) : Int)]) = [.buf (us.length + 1) 1] := by unfold hpI; rw [if_neg hl2, List.length_append, List.length_singleton]
             exact ⟨⟨rfl, rfl, trivial⟩, (us ++ [((i + 1 : Nat) : Int)]), [], ⟨rfl, by rw [s4]; rfl, trivial⟩, by rw [h4]; simp [h3], hst.symm⟩)
    ·
      have h10 : ¬ c = 10 := by simpa using bt14
      rw [if_neg h10, List.append_nil] at hst
      repeat (refine awp_seq ?_)
      refine awp_skip ?_
      first
        | exact ⟨⟨rfl, rfl, trivial⟩, us, [], ⟨rfl, rfl, trivial⟩, by simp, hst.symm⟩
        | (have hn0 : us ≠ [] := by rw [hg]; simp [startsI, startsT]
           have hp := List.length_pos_iff.2 hn0
           have hl2 : ¬ (us ++ [((i + 1 : Nat) : Int)]).length = 1 := by rw [List.length_append, List.length_singleton]; omega
           have s4 : slotI (us ++ [((i + 1 : Nat) : Int)]) = .slice ((us ++ [((i + 1 : Nat) : Int)]).map vint) (.tok 0) := if_neg hl2
           have h4 : hpI (us ++ [((i + 1 : Nat) : Int)]) = [.buf (us.length + 1) 1] := by unfold hpI; rw [if_neg hl2, List.length_append, List.length_singleton]
           exact ⟨⟨rfl, rfl, trivial⟩, (us ++ [((i + 1 : Nat) : Int)]), [], ⟨rfl, by rw [s4]; rfl, trivial⟩, by rw [h4]; simp [h3], hst.symm⟩)
  · intro us hg
    rw [List.take_length] at hg
    repeat (refine awp_seq ?_)
    refine e_eval (by simp only [jA, jO, jN, seval, vint, qP] <;> with_reducible rfl) (by decide) ?_
    repeat (refine awp_seq ?_)
    refine awp_ret ⟨.inr rfl, _, rfl, ?_⟩
    rw [← hg]
    exact slotI_drop1 us

theorem bel_u8s (n : Nat) (l : List UInt8) : Bel n (.slice (l.map u8v) .none) := .slice _ _ (fun e he c hc => by
  obtain ⟨s, _, rfl⟩ := List.mem_map.1 he
  have hc : c ∈ [u8v s] := hc
  rw [List.mem_singleton.1 hc]; exact .int _ _) (fun i e => by cases e)

theorem lsR_c (s : List UInt8) (hs : s.length ≤ 300) : PC Tryd.prog 8 [.str s] (.slice ((startsI s).map vint) .none) := by
  have em : maxLen = 9223372036854775807 := by decide
  have hm : s.length ≤ maxLen := by omega
  refine pc_of (N := 24) Tryd.func8 rfl rfl (by simp) (by simp [Bel.int, Bel.str, Bel.bool, Po.bel, bel_ints0]) (bel_ints0 _ _) ?_
  repeat (refine awp_seq ?_)
  refine e_eval (by simp only [jA, jO, jN, seval, vint, qP] <;> with_reducible rfl) (by decide) ?_
  repeat (refine awp_seq ?_)
  refine e_eval (by simp only [jA, jO, jN, seval, y3, y27, vint, qP] <;> with_reducible rfl) (by decide) ?_
  repeat (refine awp_seq ?_)
  refine awp_region ?_
  refine e_take 1 (by simp only [jA, jO, jN, seval, vint, qP] <;> with_reducible rfl) (by decide) ?_
  refine aops_toBytes rfl (by simp only [jC, jN, seval, vint, qP] <;> rfl) (by decide) Tryd.underlying9 Tryd.underlying37 Tryd.underlying5 hm (by simp only [jC, jN, seval, vint, qP]) ?_
  refine e_end (by simp only [jA, jO, jN, seval, y5, y37, vint, qP] <;> with_reducible rfl) (by decide) ?_
  repeat (refine awp_seq ?_)
  refine awp_forS (σ := List Int) (s.length) (fun (us : List Int) => [(3, slotI us), (8, .slice (s.map u8v) .none)]) [3, 8] ([]) (fun (us : List Int) => hpI us) (fun (i : Nat) (us : List Int) => us = startsI (s.take i)) ([0]) ([]) rfl rfl rfl rfl rfl rfl rfl rfl rfl (by decide) (by decide) (by decide) (fun _ => rfl) (hm) ⟨(by first | rfl | (simp only [jN, seval, vint, qP] <;> first | done | with_reducible rfl)), (by first | rfl | (simp only [jN, seval, vint, qP] <;> first | done | with_reducible rfl)), (by first | rfl | (simp only [jN, seval, vint, qP] <;> first | done | with_reducible rfl)), (by first | rfl | (simp only [jN, seval, vint, qP] <;> first | done | with_reducible rfl)), trivial⟩ (by first | rfl | (simp only [jN, seval, vint, qP] <;> first | done | with_reducible rfl)) (by simp [startsI, startsT, nlT]) (fun _ _ _ => by first | exact Nat.zero_le _ | (simp only [List.length_append]; omega)) ?_ ?_ ?_
  · exact fun i us hg => ⟨by simp only [List.nil_append]; exact hbel_hpI _ _, by repeat (first | exact BelL.nil | refine BelL.cons (by first | exact bel_u8s _ _ | exact bel_slotI _ (by rw [List.length_append, hpI_len, List.length_nil]; split <;> omega) | exact Po.bel _ _ | exact bel_ints0 _ _ | exact bel_nil0 _ | exact bel_nil1 _ | exact Bel.int _ _ | exact Bel.bool _ | exact Bel.str _ | exact Bel.nilp | exact Bel.nilfn | exact Bel.optr _ _ (by simp) | exact bel_nil0 _ | exact bel_nil1 _ | exact bel_fn0 _ _ | assumption) ?_)⟩
  · intro i us hi hg
    have g1 := ix_nat hi
    obtain ⟨c, hc⟩ : ∃ c, s[i] = c := ⟨_, rfl⟩
    have g2 : (s.map u8v)[i]? = some (.int .u8 c.toNat) := by rw [List.getElem?_map, List.getElem?_eq_getElem hi, hc]; rfl
    have e10 : decide ((c.toNat : Int) = 10) = (c == 10) := u8_eq c 10 (by decide)
    have w1 : IntKind.i64.wrap ((i : Int) + 1) = ((i + 1 : Nat) : Int) := by rw [wrap_id (by omega) (by omega)]; omega
    have hst := startsI_step hi
    rw [hc, ← hg] at hst
    have hul : us.length ≤ i + 1 := by rw [hg]; have := startsI_len (s.take i); rw [List.length_take] at this; omega
    repeat (refine awp_seq ?_)
    refine e_eval (by simp only [jA, jO, jN, seval, y5, y37, vint, qP, g1, g2, e10, Int.toNat_natCast] <;> with_reducible rfl) (by decide) ?_
    repeat (refine awp_seq ?_)
    refine e_eval (by simp only [jA, jO, jN, seval, y5, vint, qP, g1, g2, e10, Int.toNat_natCast] <;> with_reducible rfl) (by decide) ?_
    repeat (refine awp_seq ?_)
    refine awp_cond rfl (by simp only [jN, seval, vint, qP, g1, g2, e10, Int.toNat_natCast] <;> with_reducible rfl) (fun bt16 => ?_) (fun bt16 => ?_)
    ·
      have h10 : c = 10 := by simpa using bt16
      rw [if_pos h10] at hst
      have hcs : us.length = 1 ∨ ¬ us.length = 1 := by omega
      have hb8 : (us.length + 1) * 8 ≤ 2 ^ 47 := by omega
      rcases hcs with h1 | h1
      ·
        have s3 : slotI us = .slice (us.map vint) .full := if_pos h1
        have h3 : hpI us = [] := if_pos h1
        have hap := app_intF (us := us) (u := ((i + 1 : Nat) : Int)) (tl := .full) hb8
        repeat (refine awp_seq ?_)
        refine e_eval (by simp only [jA, jO, jN, seval, y3, y27, vint, qP, g1, g2, e10, Int.toNat_natCast, s3, h3, w1, hap] <;> with_reducible rfl) (by decide) ?_
        first
          | exact ⟨⟨rfl, rfl, trivial⟩, us, [], ⟨rfl, rfl, trivial⟩, by simp, hst.symm⟩
          | (have hn0 : us ≠ [] := by rw [hg]; simp [startsI, startsT]
             have hp := List.length_pos_iff.2 hn0
             have hl2 : ¬ (us ++ [((i + 1 : Nat) : Int)]).length = 1 := by rw [List.length_append, List.length_singleton]; omega
             have s4 : slotI (us ++ [((i + 1 : Nat) : Int)]) = .slice ((us ++ [((i + 1 : Nat) : Int)]).map vint) (.tok 0) := if_neg hl2
             have h4 : hpI (us ++ [((i + 1 : Nat) : Int)]) = [.buf (us.length + 1) 1] := by unfold hpI; rw [if_neg hl2, List.length_append, List.length_singleton]
             exact ⟨⟨rfl, rfl, trivial⟩, (us ++ [((i + 1 : Nat) : Int)]), [], ⟨by rw [s4]; rfl, rfl, trivial⟩, by rw [h4]; simp [h3], hst.symm⟩)
      ·
        have s3 : slotI us = .slice (us.map vint) (.tok 0) := if_neg h1
        have h3 : hpI us = [.buf us.length 1] := if_neg h1
        have hap := app_intT (us := us) (u := ((i + 1 : Nat) : Int)) (id := 0) (tl := .full) hb8
        repeat (refine awp_seq ?_)
        refine e_eval (by simp only [jA, jO, jN, seval, y3, y27, vint, qP, g1, g2, e10, Int.toNat_natCast, s3, h3, w1, hap] <;> with_reducible rfl) (by decide) ?_
        first
          | exact ⟨⟨rfl, rfl, trivial⟩, us, [], ⟨rfl, rfl, trivial⟩, by simp, hst.symm⟩
          | (have hn0 : us ≠ [] := by rw [hg]; simp [startsI, startsT]
             have hp := List.length_pos_iff.2 hn0
             have hl2 : ¬ (us ++ [((i + 1 : Nat) : Int)]).length = 1 := by rw [List.length_append, List.length_singleton]; omega
             have s4 : slotI (us ++ [((i + 1 : Nat) : Int)]) = .slice ((us ++ [((i + 1 : Nat) : Int)]).map vint) (.tok 0) := if_neg hl2
             have h4 : hpI (us ++ [((i + 1 : Nat) : Int)]) = [.buf (us.length + 1) 1] := by unfold hpI; rw [if_neg hl2, List.length_append, List.length_singleton]
             exact ⟨⟨rfl, rfl, trivial⟩, (us ++ [((i + 1 : Nat) : Int)]), [], ⟨by rw [s4]; rfl, rfl, trivial⟩, by rw [h4]; simp [h3], hst.symm⟩)
    ·
      have h10 : ¬ c = 10 := by simpa using bt16
      rw [if_neg h10, List.append_nil] at hst
      repeat (refine awp_seq ?_)
      refine awp_skip ?_
      first
        | exact ⟨⟨rfl, rfl, trivial⟩, us, [], ⟨rfl, rfl, trivial⟩, by simp, hst.symm⟩
        | (have hn0 : us ≠ [] := by rw [hg]; simp [startsI, startsT]
           have hp := List.length_pos_iff.2 hn0
           have hl2 : ¬ (us ++ [((i + 1 : Nat) : Int)]).length = 1 := by rw [List.length_append, List.length_singleton]; omega
           have s4 : slotI (us ++ [((i + 1 : Nat) : Int)]) = .slice ((us ++ [((i + 1 : Nat) : Int)]).map vint) (.tok 0) := if_neg hl2
           have h4 : hpI (us ++ [((i + 1 : Nat) : Int)]) = [.buf (us.length + 1) 1] := by unfold hpI; rw [if_neg hl2, List.length_append, List.length_singleton]
           exact ⟨⟨rfl, rfl, trivial⟩, (us ++ [((i + 1 : Nat) : Int)]), [], ⟨by rw [s4]; rfl, rfl, trivial⟩, by rw [h4]; simp [h3], hst.symm⟩)
  · intro us hg
    rw [List.take_length] at hg
    repeat (refine awp_seq ?_)
    refine e_eval (by simp only [jA, jO, jN, seval, vint, qP] <;> with_reducible rfl) (by decide) ?_
    repeat (refine awp_seq ?_)
    refine awp_ret ⟨.inr rfl, _, rfl, ?_⟩
    rw [← hg]
    exact slotI_drop1 us

end Go.Abs
set_option maxRecDepth 4000
namespace Go.Abs
open Go.Proofs

def zRn : Rn := ⟨0, 0, 0⟩
def rowR (L : List Rn) : List PV := flatE (L.map Rn.enc)
theorem encR3 {L : List Rn} : ∀ e ∈ L.map Rn.enc, e.cells.length = 3 := fun e he => by obtain ⟨q, _, rfl⟩ := List.mem_map.1 he; exact Rn.enc_len q
theorem rowR_len (L : List Rn) : (rowR L).length = L.length * 3 := by unfold rowR; rw [flatE_length _ encR3, List.length_map]
theorem rowR_get {L : List Rn} {k : Nat} {l : Rn} (h : L[k]? = some l) : (rowR L)[k * 3]? = some (.int .i64 l.start) := by
  have hk : k < L.length := by
    rcases Nat.lt_or_ge k L.length with q | q
    · exact q
    · rw [List.getElem?_eq_none q] at h; cases h
  have := flatE_get (L.map Rn.enc) encR3 k 0 (by simpa using hk) (by decide)
  rw [Nat.add_zero] at this
  unfold rowR
  rw [this, List.getElem_map]
  rw [List.getElem?_eq_getElem hk] at h
  cases h
  rw [Rn.enc_cells]; rfl
theorem rowR_splice {L : List Rn} {k : Nat} (hk : k < L.length) (r : Rn) : splice (rowR L) (k * 3) r.enc.cells = rowR (L.set k r) := by
  unfold rowR
  rw [splice_flatE _ encR3 k (by simpa using hk) _ (Rn.enc_len r), List.map_set]
theorem rowR_set {L : List Rn} {k : Nat} {l : Rn} (h : L[k]? = some l) (v : Int) : (rowR L).set (k * 3 + 1) (.int .i64 v) = rowR (L.set k ⟨l.start, v, l.units⟩) := by
  have hk : k < L.length := by
    rcases Nat.lt_or_ge k L.length with q | q
    · exact q
    · rw [List.getElem?_eq_none q] at h; cases h
  rw [← rowR_splice hk, Rn.enc_cells]
  have g0 := rowR_get h
  have hlen := rowR_len L
  have hl : L[k] = l := by rw [List.getElem?_eq_getElem hk] at h; exact Option.some.inj h
  have g2 : (rowR L)[k * 3 + 2]? = some (.int .i64 l.units) := by
    have := flatE_get (L.map Rn.enc) encR3 k 2 (by simpa using hk) (by decide)
    unfold rowR
    rw [this, List.getElem_map, hl, Rn.enc_cells]; rfl
  simp only [splice]
  have s0 : (rowR L).set (k * 3) (.int .i64 l.start) = rowR L := by
    apply List.ext_getElem?
    intro j
    by_cases e : k * 3 = j
    · subst e; rw [List.getElem?_set_self (by omega), g0]
    · rw [List.getElem?_set_ne e]
  rw [s0]
  apply List.ext_getElem?
  intro j
  by_cases e : k * 3 + 1 + 1 = j
  · subst e; rw [List.getElem?_set_self (by simp; omega), List.getElem?_set_ne (by omega), g2]
  · rw [List.getElem?_set_ne e]
theorem rowR_app (L : List Rn) (r : Rn) (m : Nat) : rowR L ++ r.enc.cells ++ (List.replicate m zRn.enc.cells).flatten = rowR (L ++ r :: List.replicate m zRn) := by
  unfold rowR flatE
  simp
def hpR (m : List UInt8) (i : Nat) (G : Heap) : Option (List Rn) → Heap
  | none => .obj (.iter m i) :: G
  | some L => .obj (.iter m i) :: (G ++ [.row (rowR L)])
def LR (zs : Nat) : Option (List Rn × Rn) → Option (List Rn)
  | none => none
  | some (p, l) => some (p ++ l :: List.replicate zs zRn)
def slotR (G : Heap) (zs : Nat) : Option (List Rn × Rn) → PV
  | none => .slice [] .full
  | some (p, l) => .msl (1 + G.length) 0 (p.length + 1) (p.length + 1 + zs)
theorem hpR_len (m : List UInt8) (i : Nat) (G : Heap) (R : Option (List Rn)) : (hpR m i G R).length = 1 + G.length + (if R.isSome then 1 else 0) := by cases R <;> simp [hpR] <;> omega
theorem bel_slotR {n zs : Nat} (G : Heap) (pl : Option (List Rn × Rn)) (h : 1 + G.length + (if pl.isSome then 1 else 0) ≤ n) : Bel n (slotR G zs pl) := by
  match pl with
  | none => exact bel_nil0 _
  | some (p, l) => exact .msl _ _ _ _ (by simp at h; omega)
theorem LR_some (zs : Nat) (pl : Option (List Rn × Rn)) : (LR zs pl).isSome = pl.isSome := by match pl with | none => rfl | some (p, l) => rfl
theorem hbel_hpR (n : Nat) (m : List UInt8) (i : Nat) {G : Heap} (hG : HBel 0 G) (R : Option (List Rn)) : HBel n (hpR m i G R) := by
  have hr : ∀ L, OBel n (.row (rowR L)) := fun L x hx => by
    obtain ⟨l, hl, hx⟩ := List.mem_flatten.1 hx
    obtain ⟨e, he, rfl⟩ := List.mem_map.1 hl
    obtain ⟨q, _, rfl⟩ := List.mem_map.1 he
    rw [Rn.enc_cells] at hx
    simp only [List.mem_cons, List.not_mem_nil, or_false] at hx
    rcases hx with rfl | rfl | rfl <;> exact .int _ _
  have hg : ∀ o ∈ G, OBel n o := fun o ho => (hG o ho).mono (Nat.zero_le _)
  match R with
  | none => exact HBel.cons trivial hg
  | some L =>
    refine HBel.cons trivial fun o ho => ?_
    rcases List.mem_append.1 ho with h | h
    · exact hg o h
    · rw [List.mem_singleton.1 h]; exact hr L
theorem obel_rowR (n : Nat) (L : List Rn) : OBel n (.row (rowR L)) := (hbel_hpR n [] 0 (G := []) (hbel_nil _) (some L)) _ (by simp [hpR])
theorem hpR_get (m : List UInt8) (i : Nat) (G : Heap) (L : List Rn) : (hpR m i G (some L))[1 + G.length]? = some (.row (rowR L)) := by
  unfold hpR
  rw [Nat.add_comm, List.getElem?_cons_succ, List.getElem?_append_right (Nat.le_refl _), Nat.sub_self]; rfl
theorem hpR_set (m : List UInt8) (i : Nat) (G : Heap) (L L' : List Rn) : (hpR m i G (some L)).set (1 + G.length) (.row (rowR L')) = hpR m i G (some L') := by
  unfold hpR
  rw [Nat.add_comm, List.set_cons_succ, List.set_append_right _ _ (Nat.le_refl _), Nat.sub_self]; rfl
theorem hpR_new0 (m : List UInt8) (i : Nat) (G : Heap) (L : List Rn) : hpR m i G none ++ [.row (rowR L)] = hpR m i G (some L) := rfl
theorem hpR_new (m : List UInt8) (i : Nat) (G : Heap) (L L' : List Rn) : hpR m i G (some L) ++ [.row (rowR L')] = hpR m i (G ++ [.row (rowR L)]) (some L') := by simp [hpR]
theorem take_open (p : List Rn) (l : Rn) (R : List Rn) : (p ++ l :: R).take (p.length + 1) = p ++ [l] := by
  rw [show p ++ l :: R = (p ++ [l]) ++ R by simp]
  exact List.take_left' (by simp)
structure SR where
  i : Nat
  G : Heap
  zs : Nat
  pl : Option (List Rn × Rn)
/-- What holds at a round's head. -/
def SR.ok (st : Nat) (m : List UInt8) (q : SR) : Prop := q.i ≤ m.length ∧ HBel 0 q.G ∧ match q.pl with
  | none => q.i = 0
  | some (p, l) => ∃ w : Int, rnsT st m = p ++ ⟨l.start, w, l.units⟩ :: rnsT (st + q.i) (m.drop q.i) ∧ l.start + w = ((st + q.i : Nat) : Int) ∧ l.len = ((st + m.length : Nat) : Int) - l.start ∧ 0 ≤ l.start ∧ l.start ≤ ((st + q.i : Nat) : Int) ∧ p.length + 1 ≤ q.i
theorem SR.ok_first {st i : Nat} {m : List UInt8} {G : Heap} {c : Nat} (hG : HBel 0 G) (h0 : i = 0) (hi : i < m.length) {w : Nat} (hw : (decL (m.drop i)).2 = w) : SR.ok st m ⟨i + w, G, c, some ([], ⟨((st + i : Nat) : Int), ((m.length - i : Nat) : Int), unT (decL (m.drop i)).1⟩)⟩ := by
  subst h0
  have hm : m ≠ [] := by rintro rfl; simp at hi
  rw [List.drop_zero] at hw ⊢
  have hb := decL_bd hm
  rw [hw] at hb
  refine ⟨by show 0 + w ≤ _; omega, hG, w, ?_, ?_, ?_, ?_, ?_, ?_⟩
  · rw [rnsT_step hm, hw, Nat.add_zero, Nat.zero_add]; rfl
  · show ((st + 0 : Nat) : Int) + w = ((st + (0 + w) : Nat) : Int); omega
  · show ((m.length - 0 : Nat) : Int) = ((st + m.length : Nat) : Int) - ((st + 0 : Nat) : Int); omega
  · show (0 : Int) ≤ ((st + 0 : Nat) : Int); omega
  · show ((st + 0 : Nat) : Int) ≤ ((st + (0 + w) : Nat) : Int); omega
  · show 0 + 1 ≤ 0 + w; omega
theorem SR.ok_next {st i : Nat} {m : List UInt8} {G G' : Heap} {zs zs' : Nat} {p : List Rn} {l : Rn} (h : SR.ok st m ⟨i, G, zs, some (p, l)⟩) (hi : i < m.length) {w : Nat} (hw : (decL (m.drop i)).2 = w) (hG : HBel 0 G') :
    SR.ok st m ⟨i + w, G', zs', some (p ++ [⟨l.start, ((st + i : Nat) : Int) - l.start, l.units⟩], ⟨((st + i : Nat) : Int), ((m.length - i : Nat) : Int), unT (decL (m.drop i)).1⟩)⟩ := by
  obtain ⟨h1, h2, w0, h3, h4, h5, h6, h7, h8⟩ := h
  simp only at h1 h3 h4 h5 h6 h7 h8
  have hne : m.drop i ≠ [] := fun e => by have := congrArg List.length e; rw [List.length_drop, List.length_nil] at this; omega
  have hb := decL_bd hne
  rw [hw, List.length_drop] at hb
  have hw0 : w0 = ((st + i : Nat) : Int) - l.start := by omega
  refine ⟨by show i + w ≤ m.length; omega, hG, w, ?_, ?_, ?_, ?_, ?_, ?_⟩
  · rw [h3, rnsT_step hne, hw, List.drop_drop, hw0]
    simp [Nat.add_assoc]
  · show ((st + i : Nat) : Int) + w = ((st + (i + w) : Nat) : Int); omega
  · show ((m.length - i : Nat) : Int) = ((st + m.length : Nat) : Int) - ((st + i : Nat) : Int); omega
  · show (0 : Int) ≤ ((st + i : Nat) : Int); omega
  · show ((st + i : Nat) : Int) ≤ ((st + (i + w) : Nat) : Int); omega
  · simp only [List.length_append, List.length_singleton]; omega
theorem SR.ok_end {st i : Nat} {m : List UInt8} {G : Heap} {zs : Nat} {p : List Rn} {l : Rn} (h : SR.ok st m ⟨i, G, zs, some (p, l)⟩) (hi : i = m.length) : rnsT st m = p ++ [l] := by
  obtain ⟨h1, h2, w0, h3, h4, h5, h6, h7, h8⟩ := h
  simp only at h1 h3 h4 h5
  rw [hi, List.drop_length, rnsT_nil] at h3
  have : w0 = l.len := by omega
  rw [h3, this]
theorem line_take (s : List UInt8) : s.take (lineL s).length = lineL s := by
  have := List.take_left (l₁ := lineL s) (l₂ := restL s)
  rwa [line_rest] at this
theorem line_at (s : List UInt8) (i : Nat) (h : i < (lineL s).length) : ∃ c, s[i]? = some c ∧ c ≠ 10 := by
  refine ⟨(lineL s)[i], ?_, line_no s _ (List.getElem_mem h)⟩
  have := List.getElem?_append_left (l₂ := restL s) h
  rw [line_rest] at this
  rw [this, List.getElem?_eq_getElem h]
theorem line_end (s : List UInt8) : (lineL s).length = s.length ∨ s[(lineL s).length]? = some 10 := by
  rcases rest_head s with h | ⟨r, h⟩
  · left
    have := congrArg List.length (line_rest s)
    rw [List.length_append, h] at this
    simpa using this
  · right
    have := List.getElem?_append_right (l₁ := lineL s) (l₂ := restL s) (Nat.le_refl _)
    rw [line_rest, Nat.sub_self, h] at this
    rw [this]; rfl
theorem line_len (s : List UInt8) : (lineL s).length ≤ s.length := by
  have := congrArg List.length (line_rest s)
  rw [List.length_append] at this; omega

theorem lr_c (s : List UInt8) (hs : s.length ≤ 300) (st : Nat) (hst : st ≤ s.length) : PC Tryd.prog 17 [.str s, vint (st : Int)] (.slice ((rnsT st (lineL (s.drop st))).map Rn.enc) .none) := by
  have em : maxLen = 9223372036854775807 := by decide
  obtain ⟨m, hm⟩ : ∃ m, lineL (s.drop st) = m := ⟨_, rfl⟩
  have hml : st + m.length ≤ s.length := by have := line_len (s.drop st); rw [hm, List.length_drop] at this; omega
  have htk : (s.take (st + m.length)).drop st = m := by rw [List.drop_take, Nat.add_sub_cancel_left, ← hm, line_take]
  have hat : ∀ i, i < m.length → ∃ c, s[st + i]? = some c ∧ c ≠ 10 := fun i hi => by
    obtain ⟨c, h1, h2⟩ := line_at (s.drop st) i (by rw [hm]; exact hi)
    rw [List.getElem?_drop] at h1
    exact ⟨c, h1, h2⟩
  have hen : st + m.length = s.length ∨ s[st + m.length]? = some 10 := by
    rcases line_end (s.drop st) with h | h
    · rw [hm, List.length_drop] at h; exact .inl (by omega)
    · rw [hm, List.getElem?_drop] at h; exact .inr h
  rw [hm]
  refine pc_of (N := 68) Tryd.func17 rfl rfl (by simp) (by simp [Bel.int, Bel.str, Bel.bool, Po.bel, bel_ints0]) (bel_Rn _ _) ?_
  repeat (refine awp_seq ?_)
  refine e_eval (by simp only [jA, jO, jN, seval, vint, qP] <;> with_reducible rfl) (by decide) ?_
  repeat (refine awp_seq ?_)
  refine e_eval (by simp only [jA, jO, jN, seval, vint, qP] <;> with_reducible rfl) (by decide) ?_
  repeat (refine awp_seq ?_)
  refine awp_joinT (σ := Unit) (fun (u_ : Unit) => [(0, .str s), (1, vint (st : Int)), (5, vint ((st + m.length : Nat) : Int))]) (fun (u_ : Unit) => []) (fun (u_ : Unit) => True) ?_ ?_ ?_
  · intro u_ hg
    exact ⟨Nat.zero_le _, hbel_nil _, by repeat (first | exact BelL.nil | refine BelL.cons (by first | exact bel_slotR _ _ (by rw [List.length_append, hpR_len, List.length_nil]; omega) | exact Po.bel _ _ | exact bel_ints0 _ _ | exact bel_nil0 _ | exact bel_nil1 _ | exact Bel.int _ _ | exact Bel.bool _ | exact Bel.str _ | exact Bel.nilp | exact Bel.nilfn | exact Bel.optr _ _ (by simp) | exact bel_nil0 _ | exact bel_nil1 _ | exact bel_fn0 _ _ | assumption) ?_)⟩
  · -- to the meeting
    repeat (refine awp_seq ?_)
    refine awp_block ?_
    refine awp_loopS (σ := Nat) (fun (e : Nat) => [(0, .str s), (1, vint (st : Int)), (5, vint (e : Int))]) ([]) (fun (e : Nat) => []) (fun (e : Nat) => s.length - e) (fun (e : Nat) => st ≤ e ∧ e ≤ st + m.length) (st) ([]) ⟨(by first | rfl | (simp only [jN, seval, vint, qP] <;> first | done | with_reducible rfl)), (by first | rfl | (simp only [jN, seval, vint, qP] <;> first | done | with_reducible rfl)), (by first | rfl | (simp only [jN, seval, vint, qP] <;> first | done | with_reducible rfl)), trivial⟩ (by first | rfl | (simp only [jN, seval, vint, qP] <;> first | done | with_reducible rfl)) (⟨by omega, by omega⟩) (fun _ _ => by first | exact Nat.zero_le _ | (simp only [List.length_append]; omega)) ?_ ?_
    · exact fun e hg => ⟨by simp only [List.nil_append]; exact hbel_nil _, by repeat (first | exact BelL.nil | refine BelL.cons (by first | exact bel_slotR _ _ (by rw [List.length_append, hpR_len, List.length_nil]; omega) | exact Po.bel _ _ | exact bel_ints0 _ _ | exact bel_nil0 _ | exact bel_nil1 _ | exact Bel.int _ _ | exact Bel.bool _ | exact Bel.str _ | exact Bel.nilp | exact Bel.nilfn | exact Bel.optr _ _ (by simp) | exact bel_nil0 _ | exact bel_nil1 _ | exact bel_fn0 _ _ | assumption) ?_)⟩
    · intro e hg
      obtain ⟨he1, he2⟩ := hg
      have hcs : e < st + m.length ∨ (e = st + m.length ∧ e = s.length) ∨ (e = st + m.length ∧ s[e]? = some 10) := by
        rcases Nat.lt_or_ge e (st + m.length) with h | h
        · exact .inl h
        · have he : e = st + m.length := by omega
          rcases hen with q | q
          · exact .inr (.inl ⟨he, by omega⟩)
          · exact .inr (.inr ⟨he, by rw [he]; exact q⟩)
      rcases hcs with hlt | ⟨hlt, hl2⟩ | ⟨hlt, hl2⟩
      ·
        obtain ⟨c, hc, hc10⟩ := hat (e - st) (by omega)
        rw [show st + (e - st) = e by omega] at hc
        have f1 : ((e : Int) < s.length) = True := by simp; omega
        have f0 : ((0 : Int) ≤ (e : Int)) = True := by simp
        have e10 : decide ((c.toNat : Int) = 10) = (c == 10) := u8_eq c 10 (by decide)
        have n10 : (c == 10) = false := by simpa using hc10
        have w1 : IntKind.i64.wrap ((e : Int) + 1) = ((e + 1 : Nat) : Int) := by rw [wrap_id (by omega) (by omega)]; omega
        repeat (refine awp_seq ?_)
        refine g_eval (by simp only [jG, jO, jN, seval, y3, y5, y9, vint, qP, f1, f0, hc, e10, n10, w1, decide_true, Int.toNat_natCast, Bool.not_false] <;> with_reducible rfl) (by decide) (by repeat (first | exact Fin.base _ | with_reducible apply Fin.keep | apply Fin.drop)) ?_
        repeat (refine awp_seq ?_)
        refine awp_cond_true rfl (by simp only [jN, seval, vint, qP, f1, f0, hc, e10, n10, w1, decide_true, Int.toNat_natCast, Bool.not_false] <;> with_reducible rfl) ?_
        repeat (refine awp_seq ?_)
        refine awp_skip ?_
        repeat (refine awp_seq ?_)
        refine awp_block ?_
        repeat (refine awp_seq ?_)
        refine e_eval (by simp only [jA, jO, jN, seval, y3, vint, qP, f1, f0, hc, e10, n10, w1, decide_true, Int.toNat_natCast, Bool.not_false] <;> with_reducible rfl) (by decide) ?_
        try simp only [thenQ, blockQ]
        exact ⟨e + 1, _, by show s.length - (e + 1) < s.length - e; omega, ⟨rfl, rfl, rfl, trivial⟩, by simp only [jN, seval, vint, qP] <;> rfl, by omega, by omega⟩
      ·
        subst hlt
        have f1 : (((st + m.length : Nat) : Int) < s.length) = False := by simp; omega
        repeat (refine awp_seq ?_)
        refine awp_region ?_
        refine aops_gstart ?_
        refine g_take 7 (by simp only [jG, jO, jN, seval, y3, y9, vint, qP, f1, decide_false] <;> with_reducible rfl) (by decide) ?_
        refine aops_gskip (r := .tup []) (by simp only [jE, jN, seval, vint, qP, f1, decide_false] <;> with_reducible rfl) ?_
        refine aops_gskip (r := .tup []) (by simp only [jE, jN, seval, vint, qP, f1, decide_false] <;> with_reducible rfl) ?_
        refine g_end (by simp only [jG, jO, jN, seval, vint, qP, f1, decide_false] <;> with_reducible rfl) (by decide) (by repeat (first | exact Fin.base _ | with_reducible apply Fin.keep | apply Fin.drop)) ?_
        repeat (refine awp_seq ?_)
        refine awp_cond_false rfl (by simp only [jN, seval, vint, qP, f1, decide_false] <;> with_reducible rfl) ?_
        repeat (refine awp_seq ?_)
        refine awp_exit ?_
        simp only [thenQ, blockQ, reduceIte, Nat.reduceEqDiff, Nat.succ_ne_self, if_true, if_false]
        exact ⟨(), [], ⟨(by first | rfl | (simp only [jN, seval, vint, qP, f1, decide_false] <;> first | done | with_reducible rfl)), (by first | rfl | (simp only [jN, seval, vint, qP, f1, decide_false] <;> first | done | with_reducible rfl)), (by first | rfl | (simp only [jN, seval, vint, qP, f1, decide_false] <;> first | done | with_reducible rfl)), trivial⟩, (List.append_nil _).symm, by trivial⟩
      ·
        subst hlt
        have hlt3 : st + m.length < s.length := (List.getElem?_eq_some_iff.1 hl2).1
        have f1 : (((st + m.length : Nat) : Int) < s.length) = True := by simp; omega
        have f0 : ((0 : Int) ≤ ((st + m.length : Nat) : Int)) = True := by simp; omega
        have e10 : decide (((10 : UInt8).toNat : Int) = 10) = true := by decide
        repeat (refine awp_seq ?_)
        refine g_eval (by simp only [jG, jO, jN, seval, y3, y5, y9, vint, qP, f1, f0, hl2, e10, decide_true, Int.toNat_natCast, Bool.not_true] <;> with_reducible rfl) (by decide) (by repeat (first | exact Fin.base _ | with_reducible apply Fin.keep | apply Fin.drop)) ?_
        repeat (refine awp_seq ?_)
        refine awp_cond_false rfl (by simp only [jN, seval, vint, qP, f1, f0, hl2, e10, decide_true, Int.toNat_natCast, Bool.not_true] <;> with_reducible rfl) ?_
        repeat (refine awp_seq ?_)
        refine awp_exit ?_
        simp only [thenQ, blockQ, reduceIte, Nat.reduceEqDiff, Nat.succ_ne_self, if_true, if_false]
        exact ⟨(), [], ⟨(by first | rfl | (simp only [jN, seval, vint, qP, f1, f0, hl2, e10, decide_true, Int.toNat_natCast, Bool.not_true] <;> first | done | with_reducible rfl)), (by first | rfl | (simp only [jN, seval, vint, qP, f1, f0, hl2, e10, decide_true, Int.toNat_natCast, Bool.not_true] <;> first | done | with_reducible rfl)), (by first | rfl | (simp only [jN, seval, vint, qP, f1, f0, hl2, e10, decide_true, Int.toNat_natCast, Bool.not_true] <;> first | done | with_reducible rfl)), trivial⟩, (List.append_nil _).symm, by trivial⟩
  · intro u_ hg
    repeat (refine awp_seq ?_)
    refine e_eval (by simp only [jA, jO, jN, seval, vint, qP] <;> with_reducible rfl) (by decide) ?_
    repeat (refine awp_seq ?_)
    have s1 : (((st + m.length : Nat) : Int) ≤ s.length) = True := by simp; omega
    have s2 : ((0 : Int) ≤ ((st + m.length : Nat) : Int)) = True := by simp; omega
    have s3 : ((st : Int) ≤ ((st + m.length : Nat) : Int)) = True := by simp; omega
    have s4 : ((0 : Int) ≤ (st : Int)) = True := by simp
    have s5 : (st ≤ st + m.length) = True := by simp
    refine awp_region ?_
    refine e_take 4 (by simp only [jA, jO, jN, seval, y9, vint, qP, jS, s1, s2, s3, s4, s5, htk, Int.toNat_natCast] <;> with_reducible rfl) (by decide) ?_
    refine aops_range (s := m) rfl (by simp only [jC, jN, seval, vint, qP] <;> first | done | rfl) Tryd.underlying9 (by decide) (by simp only [jC, jN, seval, vint, qP]) ?_
    refine aops_nil ?_
    repeat (refine awp_seq ?_)
    refine awp_block ?_
    refine awp_loopS (σ := SR) (fun (q : SR) => [(1, vint (st : Int)), (5, vint ((st + m.length : Nat) : Int)), (6, slotR q.G q.zs q.pl), (28, .optr 0 0)]) ([]) (fun (q : SR) => hpR m q.i q.G (LR q.zs q.pl)) (fun (q : SR) => m.length - q.i) (fun (q : SR) => SR.ok st m q) (⟨0, [], 0, none⟩) ([]) ⟨(by first | rfl | (simp only [jN, seval, vint, qP] <;> first | done | with_reducible rfl)), (by first | rfl | (simp only [jN, seval, vint, qP] <;> first | done | with_reducible rfl)), (by first | rfl | (simp only [jN, seval, vint, qP] <;> first | done | with_reducible rfl)), (by first | rfl | (simp only [jN, seval, vint, qP] <;> first | done | with_reducible rfl)), trivial⟩ (by first | rfl | (simp only [jN, seval, vint, qP] <;> first | done | with_reducible rfl)) (⟨Nat.zero_le _, hbel_nil _, rfl⟩) (fun _ _ => by first | exact Nat.zero_le _ | (simp only [List.length_append]; omega)) ?_ ?_
    · exact fun q hg => ⟨by simp only [List.nil_append]; exact hbel_hpR _ _ _ hg.2.1 _, by have hh := LR_some q.zs q.pl; repeat (first | exact BelL.nil | refine BelL.cons (by first | exact Bel.int _ _ | exact Bel.optr _ _ (by rw [List.length_append, hpR_len]; omega) | exact bel_slotR _ _ (by rw [List.length_append, hpR_len, hh]; simp)) ?_)⟩
    · intro q hg
      obtain ⟨i, G, zs, pl⟩ := q
      have hil : i ≤ m.length := hg.1
      have hbG : HBel 0 G := hg.2.1
      have hcs : i < m.length ∨ i = m.length := by omega
      rcases pl with _ | ⟨p, l⟩ <;> rcases hcs with hlt | hlt
      ·
        have hi0 : i = 0 := hg.2.2
        obtain ⟨wd, hwd⟩ : ∃ wd, (decL (m.drop i)).2 = wd := ⟨_, rfl⟩
        have hj : i + (decL (m.drop i)).2 = i + wd := by rw [hwd]
        obtain ⟨j, hjj⟩ : ∃ j, i + wd = j := ⟨_, rfl⟩
        rw [hjj] at hj
        have hne : m.drop i ≠ [] := fun e => by have := congrArg List.length e; rw [List.length_drop, List.length_nil] at this; omega
        have hbd := decL_bd hne
        rw [hwd, List.length_drop] at hbd
        have w1 : IntKind.i64.wrap ((st : Int) + i) = ((st + i : Nat) : Int) := by rw [wrap_id (by omega) (by omega)]; omega
        have w2 : IntKind.i64.wrap (((st + m.length : Nat) : Int) - st) = (m.length : Int) := by rw [wrap_id (by omega) (by omega)]; omega
        have w3 : IntKind.i64.wrap ((m.length : Int) - i) = ((m.length - i : Nat) : Int) := by rw [wrap_id (by omega) (by omega)]; omega
        obtain ⟨r, hr⟩ : ∃ r, (decL (m.drop i)).1 = r := ⟨_, rfl⟩
        have sl : slotR G zs none = .slice [] .full := rfl
        repeat (refine awp_seq ?_)
        refine awp_region ?_
        refine aops_nextS (id := 0) (s := m) (pos := i) rfl rfl (by simp only [jC, jN, seval, vint, qP] <;> first | done | rfl) (by decide) hlt (by simp only [jC, jN, seval, vint, qP]) ?_
        rw [hj, show ([] ++ hpR m i G (LR zs none) : Heap).set 0 (AObj.obj (.iter m j)) = hpR m j G (LR zs none) from rfl]
        refine e_end (by simp only [jA, jO, jN, seval, vint, qP, sl, hr] <;> with_reducible rfl) (by decide) ?_
        repeat (refine awp_seq ?_)
        refine awp_cond_true rfl (by simp only [jN, seval, vint, qP, sl, hr] <;> with_reducible rfl) ?_
        repeat (refine awp_seq ?_)
        refine awp_skip ?_
        repeat (refine awp_seq ?_)
        refine awp_block ?_
        repeat (refine awp_seq ?_)
        refine e_eval (by simp only [jA, jO, jN, seval, vint, qP, sl, hr] <;> with_reducible rfl) (by decide) ?_
        repeat (refine awp_seq ?_)
        refine e_eval (by simp only [jA, jO, jN, seval, vint, qP, sl, hr] <;> with_reducible rfl) (by decide) ?_
        repeat (refine awp_seq ?_)
        refine e_eval (by simp only [jA, jO, jN, seval, y21, vint, qP, sl, hr] <;> with_reducible rfl) (by decide) ?_
        repeat (refine awp_seq ?_)
        refine awp_cond rfl (by simp only [jN, seval, vint, qP, sl, hr] <;> with_reducible rfl) (fun bt34 => ?_) (fun bt34 => ?_)
        ·
          have hu : unT r = 2 := by unfold unT; rw [if_pos (by have := of_decide_eq_true bt34; omega)]
          have hun : (2 : Int) = (unT r : Nat) := by rw [hu]; rfl
          repeat (refine awp_seq ?_)
          refine e_eval (by simp only [jA, jO, jN, seval, vint, qP, sl, hr] <;> with_reducible rfl) (by decide) ?_
          repeat (refine awp_seq ?_)
          refine e_eval (by simp only [jA, jO, jN, seval, y3, y40, y43, vint, qP, sl, hr] <;> with_reducible rfl) (by decide) ?_
          repeat (refine awp_seq ?_)
          refine awp_cond_false rfl (by simp only [jN, seval, vint, qP, sl, hr] <;> with_reducible rfl) ?_
          repeat (refine awp_seq ?_)
          refine awp_skip ?_
          repeat (refine awp_seq ?_)
          refine awp_region ?_
          refine e_take 12 (by simp only [jA, jO, jN, seval, y3, y40, y43, vint, qP, sl, hr, w1, w2, w3, hun] <;> with_reducible rfl) (by decide) ?_
          refine aops_appNew (n := 0) (oc := []) (e1 := (Rn.mk ((st + i : Nat) : Int) ((m.length - i : Nat) : Int) (unT r : Nat)).enc) (tl := .full) (by simp only [jC, jN, seval, vint, qP]) rfl (by decide) (by decide) (by simp only [jC, jN, seval, vint, qP] <;> first | done | rfl) (by show _ * 24 ≤ _; omega) (by omega) rfl Trydte40 (by rw [Trydte40]; rfl) Trydtz43 rfl (fun E v ho hH hv => first_nil (by simpa only [jL, jN, seval, y40, y43, vint, qP, sl, hr] using hv)) ?_
          intro c rest hc1 hc2 hrest
          subst hrest
          rw [show LR zs none = none from rfl, show (AObj.row (([] : List PV) ++ (Rn.mk ((st + i : Nat) : Int) ((m.length - i : Nat) : Int) (unT r : Nat)).enc.cells ++ (List.replicate (c - (0 + 1)) (PV.agg [.int .i64 0, .int .i64 0, .int .i64 0]).cells).flatten)) = .row (rowR ([] ++ (Rn.mk ((st + i : Nat) : Int) ((m.length - i : Nat) : Int) (unT r : Nat)) :: List.replicate (c - (0 + 1)) zRn)) from congrArg AObj.row (rowR_app [] _ _), hpR_new0, hpR_len]
          refine e_end (by simp only [jA, jO, jN, seval, vint, qP, sl, hr, w1, w2, w3, hun] <;> with_reducible rfl) (by decide) ?_
          try simp only [thenQ, blockQ]
          exact ⟨⟨j, G, c - (0 + 1), some ([], (Rn.mk ((st + i : Nat) : Int) ((m.length - i : Nat) : Int) (unT r : Nat)))⟩, [], by show m.length - j < m.length - i; omega, ⟨rfl, rfl, by show PV.msl _ _ _ _ = PV.msl _ _ _ _; congr 1 <;> simp <;> omega, rfl, trivial⟩, (List.append_nil _).symm, by rw [← hjj, ← hr]; exact SR.ok_first hbG hi0 hlt hwd⟩
        ·
          have hu : unT r = 1 := by unfold unT; rw [if_neg (by have := of_decide_eq_false bt34; omega)]
          have hun : (1 : Int) = (unT r : Nat) := by rw [hu]; rfl
          repeat (refine awp_seq ?_)
          refine awp_skip ?_
          repeat (refine awp_seq ?_)
          refine e_eval (by simp only [jA, jO, jN, seval, y3, y40, y43, vint, qP, sl, hr] <;> with_reducible rfl) (by decide) ?_
          repeat (refine awp_seq ?_)
          refine awp_cond_false rfl (by simp only [jN, seval, vint, qP, sl, hr] <;> with_reducible rfl) ?_
          repeat (refine awp_seq ?_)
          refine awp_skip ?_
          repeat (refine awp_seq ?_)
          refine awp_region ?_
          refine e_take 12 (by simp only [jA, jO, jN, seval, y3, y40, y43, vint, qP, sl, hr, w1, w2, w3, hun] <;> with_reducible rfl) (by decide) ?_
          refine aops_appNew (n := 0) (oc := []) (e1 := (Rn.mk ((st + i : Nat) : Int) ((m.length - i : Nat) : Int) (unT r : Nat)).enc) (tl := .full) (by simp only [jC, jN, seval, vint, qP]) rfl (by decide) (by decide) (by simp only [jC, jN, seval, vint, qP] <;> first | done | rfl) (by show _ * 24 ≤ _; omega) (by omega) rfl Trydte40 (by rw [Trydte40]; rfl) Trydtz43 rfl (fun E v ho hH hv => first_nil (by simpa only [jL, jN, seval, y40, y43, vint, qP, sl, hr] using hv)) ?_
          intro c rest hc1 hc2 hrest
          subst hrest
          rw [show LR zs none = none from rfl, show (AObj.row (([] : List PV) ++ (Rn.mk ((st + i : Nat) : Int) ((m.length - i : Nat) : Int) (unT r : Nat)).enc.cells ++ (List.replicate (c - (0 + 1)) (PV.agg [.int .i64 0, .int .i64 0, .int .i64 0]).cells).flatten)) = .row (rowR ([] ++ (Rn.mk ((st + i : Nat) : Int) ((m.length - i : Nat) : Int) (unT r : Nat)) :: List.replicate (c - (0 + 1)) zRn)) from congrArg AObj.row (rowR_app [] _ _), hpR_new0, hpR_len]
          refine e_end (by simp only [jA, jO, jN, seval, vint, qP, sl, hr, w1, w2, w3, hun] <;> with_reducible rfl) (by decide) ?_
          try simp only [thenQ, blockQ]
          exact ⟨⟨j, G, c - (0 + 1), some ([], (Rn.mk ((st + i : Nat) : Int) ((m.length - i : Nat) : Int) (unT r : Nat)))⟩, [], by show m.length - j < m.length - i; omega, ⟨rfl, rfl, by show PV.msl _ _ _ _ = PV.msl _ _ _ _; congr 1 <;> simp <;> omega, rfl, trivial⟩, (List.append_nil _).symm, by rw [← hjj, ← hr]; exact SR.ok_first hbG hi0 hlt hwd⟩
      ·
        have hi0 : i = 0 := hg.2.2
        have hm0 : m = [] := List.length_eq_zero_iff.1 (by omega)
        have sl : slotR G zs none = .slice [] .full := rfl
        repeat (refine awp_seq ?_)
        refine awp_region ?_
        refine aops_nextE (id := 0) (s := m) (pos := i) rfl rfl (by simp only [jC, jN, seval, vint, qP] <;> first | done | rfl) (by decide) (by omega) (by simp only [jC, jN, seval, vint, qP]) ?_
        rw [show ([] ++ hpR m i G (LR zs none) : Heap).set 0 (AObj.obj (.iter m i)) = hpR m i G (LR zs none) from rfl]
        refine e_end (by simp only [jA, jO, jN, seval, vint, qP, sl] <;> with_reducible rfl) (by decide) ?_
        repeat (refine awp_seq ?_)
        refine awp_cond_false rfl (by simp only [jN, seval, vint, qP, sl] <;> with_reducible rfl) ?_
        repeat (refine awp_seq ?_)
        refine awp_exit ?_
        simp only [thenQ, blockQ, reduceIte, Nat.reduceEqDiff, Nat.succ_ne_self, if_true, if_false]
        repeat (refine awp_seq ?_)
        refine e_eval (by simp only [jA, jO, jN, seval, vint, qP, sl] <;> with_reducible rfl) (by decide) ?_
        repeat (refine awp_seq ?_)
        refine awp_ret ⟨.inr rfl, _, rfl, ?_⟩
        rw [hm0, rnsT_nil]
        rfl
      ·
        obtain ⟨wd, hwd⟩ : ∃ wd, (decL (m.drop i)).2 = wd := ⟨_, rfl⟩
        have hj : i + (decL (m.drop i)).2 = i + wd := by rw [hwd]
        obtain ⟨j, hjj⟩ : ∃ j, i + wd = j := ⟨_, rfl⟩
        rw [hjj] at hj
        have hne : m.drop i ≠ [] := fun e => by have := congrArg List.length e; rw [List.length_drop, List.length_nil] at this; omega
        have hbd := decL_bd hne
        rw [hwd, List.length_drop] at hbd
        have w1 : IntKind.i64.wrap ((st : Int) + i) = ((st + i : Nat) : Int) := by rw [wrap_id (by omega) (by omega)]; omega
        have w2 : IntKind.i64.wrap (((st + m.length : Nat) : Int) - st) = (m.length : Int) := by rw [wrap_id (by omega) (by omega)]; omega
        have w3 : IntKind.i64.wrap ((m.length : Int) - i) = ((m.length - i : Nat) : Int) := by rw [wrap_id (by omega) (by omega)]; omega
        obtain ⟨r, hr⟩ : ∃ r, (decL (m.drop i)).1 = r := ⟨_, rfl⟩
        have hok := hg
        obtain ⟨_, _, w0, h3, h4, h5, h6, h7, h8⟩ := hg
        simp only at h3 h4 h5 h6 h7 h8
        have sl : slotR G zs (some (p, l)) = .msl (1 + G.length) 0 (p.length + 1) (p.length + 1 + zs) := rfl
        have lr : LR zs (some (p, l)) = some (p ++ l :: List.replicate zs zRn) := rfl
        have c1 : (0 < (((p.length + 1 : Nat) : Int))) = True := by simp only [eq_iff_iff, iff_true]; omega
        have w4 : IntKind.i64.wrap (((p.length + 1 : Nat) : Int) - 1) = (p.length : Int) := by rw [wrap_id (by omega) (by omega)]; omega
        have c2 : ((0 : Int) ≤ (p.length : Int) ∧ (p.length : Int) < ((p.length + 1 : Nat) : Int)) = True := by simp; omega
        have gL : (p ++ l :: List.replicate zs zRn)[p.length]? = some l := by rw [List.getElem?_append_right (Nat.le_refl _), Nat.sub_self]; rfl
        have hG := hpR_get m j G (p ++ l :: List.replicate zs zRn)
        have g0 := rowR_get gL
        have w5 : IntKind.i64.wrap (((st + i : Nat) : Int) - l.start) = ((st + i : Nat) : Int) - l.start := wrap_id (by omega) (by omega)
        have hst1 := rowR_set gL (((st + i : Nat) : Int) - l.start)
        have hset : (p ++ l :: List.replicate zs zRn).set p.length ⟨l.start, ((st + i : Nat) : Int) - l.start, l.units⟩ = (p ++ ⟨l.start, ((st + i : Nat) : Int) - l.start, l.units⟩ :: List.replicate zs zRn) := by rw [List.set_append_right _ _ (Nat.le_refl _), Nat.sub_self]; rfl
        rw [hset] at hst1
        have hlen3 : p.length * 3 + 1 + 1 ≤ (rowR (p ++ l :: List.replicate zs zRn)).length := by rw [rowR_len]; simp; omega
        have hP := hpR_set m j G (p ++ l :: List.replicate zs zRn) (p ++ ⟨l.start, ((st + i : Nat) : Int) - l.start, l.units⟩ :: List.replicate zs zRn)
        have hnl : (1 + G.length = (hpR m j G (some (p ++ l :: List.replicate zs zRn))).length) = False := by rw [hpR_len]; simp
        have hcz : zs = 0 ∨ ∃ z, zs = z + 1 := by cases zs with | zero => exact .inl rfl | succ z => exact .inr ⟨z, rfl⟩
        repeat (refine awp_seq ?_)
        refine awp_region ?_
        refine aops_nextS (id := 0) (s := m) (pos := i) rfl rfl (by simp only [jC, jN, seval, vint, qP] <;> first | done | rfl) (by decide) hlt (by simp only [jC, jN, seval, vint, qP]) ?_
        rw [hj, show ([] ++ hpR m i G (LR zs (some (p, l))) : Heap).set 0 (AObj.obj (.iter m j)) = hpR m j G (LR zs (some (p, l))) from rfl]
        refine e_end (by simp only [jA, jO, jN, seval, vint, qP, sl, lr, hr] <;> with_reducible rfl) (by decide) ?_
        repeat (refine awp_seq ?_)
        refine awp_cond_true rfl (by simp only [jN, seval, vint, qP, sl, lr, hr] <;> with_reducible rfl) ?_
        repeat (refine awp_seq ?_)
        refine awp_skip ?_
        repeat (refine awp_seq ?_)
        refine awp_block ?_
        repeat (refine awp_seq ?_)
        refine e_eval (by simp only [jA, jO, jN, seval, vint, qP, sl, lr, hr] <;> with_reducible rfl) (by decide) ?_
        repeat (refine awp_seq ?_)
        refine e_eval (by simp only [jA, jO, jN, seval, vint, qP, sl, lr, hr] <;> with_reducible rfl) (by decide) ?_
        repeat (refine awp_seq ?_)
        refine e_eval (by simp only [jA, jO, jN, seval, y21, vint, qP, sl, lr, hr] <;> with_reducible rfl) (by decide) ?_
        repeat (refine awp_seq ?_)
        refine awp_cond rfl (by simp only [jN, seval, vint, qP, sl, lr, hr] <;> with_reducible rfl) (fun bt34 => ?_) (fun bt34 => ?_)
        ·
          have hu : unT r = 2 := by unfold unT; rw [if_pos (by have := of_decide_eq_true bt34; omega)]
          have hun : (2 : Int) = (unT r : Nat) := by rw [hu]; rfl
          repeat (refine awp_seq ?_)
          refine e_eval (by simp only [jA, jO, jN, seval, vint, qP, sl, lr, hr] <;> with_reducible rfl) (by decide) ?_
          repeat (refine awp_seq ?_)
          refine e_eval (by simp only [jA, jO, jN, seval, y3, y40, y43, vint, qP, sl, lr, hr] <;> with_reducible rfl) (by decide) ?_
          repeat (refine awp_seq ?_)
          refine awp_cond_true rfl (by simp only [jN, seval, vint, qP, sl, lr, hr, c1] <;> with_reducible rfl) ?_
          repeat (refine awp_seq ?_)
          refine e_eval (by simp only [jA, jO, jN, seval, y3, y40, y43, vint, qP, sl, lr, hr, w4, c2, Int.toNat_natCast] <;> with_reducible rfl) (by decide) ?_
          refine awp_sel [1, 5, 6, 7, 9, 10, 28] (by simp only [jN, seval, vint, qP, sl, lr, hr] <;> with_reducible rfl) ?_
          repeat (refine awp_seq ?_)
          refine e_eval (by simp only [jA, jO, jN, seval, y3, y43, vint, qP, sl, lr, hr, w1, w5, hnl, hG, g0, hlen3, hst1, hP, Nat.zero_add, Nat.add_zero] <;> with_reducible rfl) (by decide) ?_
          rcases hcz with hz | ⟨z, hz⟩
          ·
            subst hz
            repeat (refine awp_seq ?_)
            refine awp_region ?_
            refine e_take 12 (by simp only [jA, jO, jN, seval, y3, y40, y43, vint, qP, sl, lr, hr, w1, w2, w3, hun] <;> with_reducible rfl) (by decide) ?_
            refine aops_appNew (n := (p.length + 1)) (oc := (rowR (p ++ ⟨l.start, ((st + i : Nat) : Int) - l.start, l.units⟩ :: List.replicate 0 zRn))) (e1 := (Rn.mk ((st + i : Nat) : Int) ((m.length - i : Nat) : Int) (unT r : Nat)).enc) (tl := .full) (by simp only [jC, jN, seval, vint, qP]) rfl (by decide) (by decide) (by simp only [jC, jN, seval, vint, qP] <;> first | done | rfl) (by show _ * 24 ≤ _; omega) (by omega) rfl Trydte40 (by rw [Trydte40]; rfl) Trydtz43 rfl (fun E v ho hH hv => first_msl (id := 1 + G.length) ho (by rw [hH]; exact hpR_get m j G _) (by rw [rowR_len]; simp) (by simpa only [jL, jN, seval, y40, y43, vint, qP, sl, hr] using hv)) ?_
            intro c rest hc1 hc2 hrest
            subst hrest
            rw [show (AObj.row (rowR (p ++ ⟨l.start, ((st + i : Nat) : Int) - l.start, l.units⟩ :: List.replicate 0 zRn) ++ (Rn.mk ((st + i : Nat) : Int) ((m.length - i : Nat) : Int) (unT r : Nat)).enc.cells ++ (List.replicate (c - (p.length + 1 + 1)) (PV.agg [.int .i64 0, .int .i64 0, .int .i64 0]).cells).flatten)) = .row (rowR ((p ++ ⟨l.start, ((st + i : Nat) : Int) - l.start, l.units⟩ :: List.replicate 0 zRn) ++ (Rn.mk ((st + i : Nat) : Int) ((m.length - i : Nat) : Int) (unT r : Nat)) :: List.replicate (c - (p.length + 1 + 1)) zRn)) from congrArg AObj.row (rowR_app _ _ _), hpR_new, hpR_len]
            refine e_end (by simp only [jA, jO, jN, seval, vint, qP, sl, lr, hr, w1, w2, w3, hun] <;> with_reducible rfl) (by decide) ?_
            try simp only [thenQ, blockQ]
            have hsl : (PV.msl (1 + G.length + (if (some (p ++ ⟨l.start, ((st + i : Nat) : Int) - l.start, l.units⟩ :: List.replicate 0 zRn) : Option (List Rn)).isSome then 1 else 0)) 0 (p.length + 1 + 1) c) = slotR (G ++ [.row (rowR (p ++ ⟨l.start, ((st + i : Nat) : Int) - l.start, l.units⟩ :: List.replicate 0 zRn))]) (c - (p.length + 1 + 1)) (some (p ++ [⟨l.start, ((st + i : Nat) : Int) - l.start, l.units⟩], (Rn.mk ((st + i : Nat) : Int) ((m.length - i : Nat) : Int) (unT r : Nat)))) := by show PV.msl _ _ _ _ = PV.msl _ _ _ _; congr 1 <;> simp <;> omega
            have hhp : hpR m j (G ++ [.row (rowR (p ++ ⟨l.start, ((st + i : Nat) : Int) - l.start, l.units⟩ :: List.replicate 0 zRn))]) (some ((p ++ ⟨l.start, ((st + i : Nat) : Int) - l.start, l.units⟩ :: List.replicate 0 zRn) ++ (Rn.mk ((st + i : Nat) : Int) ((m.length - i : Nat) : Int) (unT r : Nat)) :: List.replicate (c - (p.length + 1 + 1)) zRn)) = hpR m j (G ++ [.row (rowR (p ++ ⟨l.start, ((st + i : Nat) : Int) - l.start, l.units⟩ :: List.replicate 0 zRn))]) (LR (c - (p.length + 1 + 1)) (some (p ++ [⟨l.start, ((st + i : Nat) : Int) - l.start, l.units⟩], (Rn.mk ((st + i : Nat) : Int) ((m.length - i : Nat) : Int) (unT r : Nat))))) := by show hpR _ _ _ (some _) = hpR _ _ _ (some _); simp
            exact ⟨⟨j, G ++ [.row (rowR (p ++ ⟨l.start, ((st + i : Nat) : Int) - l.start, l.units⟩ :: List.replicate 0 zRn))], c - (p.length + 1 + 1), some (p ++ [⟨l.start, ((st + i : Nat) : Int) - l.start, l.units⟩], (Rn.mk ((st + i : Nat) : Int) ((m.length - i : Nat) : Int) (unT r : Nat)))⟩, [], by show m.length - j < m.length - i; omega, ⟨rfl, rfl, by first | exact hsl | (simpa using hsl), rfl, trivial⟩, by rw [List.append_nil]; first | exact hhp | (simpa using hhp), by rw [← hjj, ← hr]; exact SR.ok_next hok hlt hwd (fun o ho => by rcases List.mem_append.1 ho with h | h; exact hbG o h; rw [List.mem_singleton.1 h]; exact obel_rowR 0 _)⟩
          ·
            obtain rfl := hz
            have hspl : splice (rowR (p ++ ⟨l.start, ((st + i : Nat) : Int) - l.start, l.units⟩ :: List.replicate (z + 1) zRn)) ((p.length + 1) * 3) (Rn.mk ((st + i : Nat) : Int) ((m.length - i : Nat) : Int) (unT r : Nat)).enc.cells = rowR ((p ++ [⟨l.start, ((st + i : Nat) : Int) - l.start, l.units⟩]) ++ (Rn.mk ((st + i : Nat) : Int) ((m.length - i : Nat) : Int) (unT r : Nat)) :: List.replicate z zRn) := by
              rw [rowR_splice (by simp)]
              congr 1
              rw [List.set_append_right _ _ (by omega)]
              simp [List.replicate_succ, Nat.add_sub_cancel_left]
            have hgI := hpR_get m j G (p ++ ⟨l.start, ((st + i : Nat) : Int) - l.start, l.units⟩ :: List.replicate (z + 1) zRn)
            have hsI := hpR_set m j G (p ++ ⟨l.start, ((st + i : Nat) : Int) - l.start, l.units⟩ :: List.replicate (z + 1) zRn) ((p ++ [⟨l.start, ((st + i : Nat) : Int) - l.start, l.units⟩]) ++ (Rn.mk ((st + i : Nat) : Int) ((m.length - i : Nat) : Int) (unT r : Nat)) :: List.replicate z zRn)
            repeat (refine awp_seq ?_)
            refine awp_region ?_
            refine e_take 12 (by simp only [jA, jO, jN, seval, y3, y40, y43, vint, qP, sl, lr, hr, w1, w2, w3, hun] <;> with_reducible rfl) (by decide) ?_
            refine aops_appIn (id := 1 + G.length) (n := p.length + 1) (c := p.length + 1 + (z + 1)) (cs := rowR (p ++ ⟨l.start, ((st + i : Nat) : Int) - l.start, l.units⟩ :: List.replicate (z + 1) zRn)) (e1 := (Rn.mk ((st + i : Nat) : Int) ((m.length - i : Nat) : Int) (unT r : Nat)).enc) (tl := .full) hgI (by simp only [jC, jN, seval, vint, qP]) rfl (by decide) (by decide) (by simp only [jC, jN, seval, vint, qP] <;> first | done | rfl) (by simp only [jC, jN, seval, vint, qP] <;> first | done | rfl) (by omega) (by rw [rowR_len, List.length_append, List.length_cons, List.length_replicate]; show _ = _ * 3; omega) rfl rfl Trydte40 (by rw [Trydte40]; rfl) ?_
            rw [hspl]
            show AOps _ _ _ _ _ _ _ ((hpR m j G (some (p ++ ⟨l.start, ((st + i : Nat) : Int) - l.start, l.units⟩ :: List.replicate (z + 1) zRn))).set (1 + G.length) (.row (rowR ((p ++ [⟨l.start, ((st + i : Nat) : Int) - l.start, l.units⟩]) ++ (Rn.mk ((st + i : Nat) : Int) ((m.length - i : Nat) : Int) (unT r : Nat)) :: List.replicate z zRn))))
            rw [hsI]
            refine e_end (by simp only [jA, jO, jN, seval, vint, qP, sl, lr, hr, w1, w2, w3, hun] <;> with_reducible rfl) (by decide) ?_
            try simp only [thenQ, blockQ]
            have hsl : (PV.msl (1 + G.length) 0 (p.length + 1 + 1) (p.length + 1 + (z + 1))) = slotR G z (some (p ++ [⟨l.start, ((st + i : Nat) : Int) - l.start, l.units⟩], (Rn.mk ((st + i : Nat) : Int) ((m.length - i : Nat) : Int) (unT r : Nat)))) := by show PV.msl _ _ _ _ = PV.msl _ _ _ _; congr 1 <;> simp <;> omega
            exact ⟨⟨j, G, z, some (p ++ [⟨l.start, ((st + i : Nat) : Int) - l.start, l.units⟩], (Rn.mk ((st + i : Nat) : Int) ((m.length - i : Nat) : Int) (unT r : Nat)))⟩, [], by show m.length - j < m.length - i; omega, ⟨rfl, rfl, by first | exact hsl | (simpa using hsl), rfl, trivial⟩, by rw [List.append_nil]; show hpR _ _ _ (some _) = hpR _ _ _ (some _); simp, by rw [← hjj, ← hr]; exact SR.ok_next hok hlt hwd hbG⟩
        ·
          have hu : unT r = 1 := by unfold unT; rw [if_neg (by have := of_decide_eq_false bt34; omega)]
          have hun : (1 : Int) = (unT r : Nat) := by rw [hu]; rfl
          repeat (refine awp_seq ?_)
          refine awp_skip ?_
          repeat (refine awp_seq ?_)
          refine e_eval (by simp only [jA, jO, jN, seval, y3, y40, y43, vint, qP, sl, lr, hr] <;> with_reducible rfl) (by decide) ?_
          repeat (refine awp_seq ?_)
          refine awp_cond_true rfl (by simp only [jN, seval, vint, qP, sl, lr, hr, c1] <;> with_reducible rfl) ?_
          repeat (refine awp_seq ?_)
          refine e_eval (by simp only [jA, jO, jN, seval, y3, y40, y43, vint, qP, sl, lr, hr, w4, c2, Int.toNat_natCast] <;> with_reducible rfl) (by decide) ?_
          refine awp_sel [1, 5, 6, 7, 9, 10, 28] (by simp only [jN, seval, vint, qP, sl, lr, hr] <;> with_reducible rfl) ?_
          repeat (refine awp_seq ?_)
          refine e_eval (by simp only [jA, jO, jN, seval, y3, y43, vint, qP, sl, lr, hr, w1, w5, hnl, hG, g0, hlen3, hst1, hP, Nat.zero_add, Nat.add_zero] <;> with_reducible rfl) (by decide) ?_
          rcases hcz with hz | ⟨z, hz⟩
          ·
            subst hz
            repeat (refine awp_seq ?_)
            refine awp_region ?_
            refine e_take 12 (by simp only [jA, jO, jN, seval, y3, y40, y43, vint, qP, sl, lr, hr, w1, w2, w3, hun] <;> with_reducible rfl) (by decide) ?_
            refine aops_appNew (n := (p.length + 1)) (oc := (rowR (p ++ ⟨l.start, ((st + i : Nat) : Int) - l.start, l.units⟩ :: List.replicate 0 zRn))) (e1 := (Rn.mk ((st + i : Nat) : Int) ((m.length - i : Nat) : Int) (unT r : Nat)).enc) (tl := .full) (by simp only [jC, jN, seval, vint, qP]) rfl (by decide) (by decide) (by simp only [jC, jN, seval, vint, qP] <;> first | done | rfl) (by show _ * 24 ≤ _; omega) (by omega) rfl Trydte40 (by rw [Trydte40]; rfl) Trydtz43 rfl (fun E v ho hH hv => first_msl (id := 1 + G.length) ho (by rw [hH]; exact hpR_get m j G _) (by rw [rowR_len]; simp) (by simpa only [jL, jN, seval, y40, y43, vint, qP, sl, hr] using hv)) ?_
            intro c rest hc1 hc2 hrest
            subst hrest
            rw [show (AObj.row (rowR (p ++ ⟨l.start, ((st + i : Nat) : Int) - l.start, l.units⟩ :: List.replicate 0 zRn) ++ (Rn.mk ((st + i : Nat) : Int) ((m.length - i : Nat) : Int) (unT r : Nat)).enc.cells ++ (List.replicate (c - (p.length + 1 + 1)) (PV.agg [.int .i64 0, .int .i64 0, .int .i64 0]).cells).flatten)) = .row (rowR ((p ++ ⟨l.start, ((st + i : Nat) : Int) - l.start, l.units⟩ :: List.replicate 0 zRn) ++ (Rn.mk ((st + i : Nat) : Int) ((m.length - i : Nat) : Int) (unT r : Nat)) :: List.replicate (c - (p.length + 1 + 1)) zRn)) from congrArg AObj.row (rowR_app _ _ _), hpR_new, hpR_len]
            refine e_end (by simp only [jA, jO, jN, seval, vint, qP, sl, lr, hr, w1, w2, w3, hun] <;> with_reducible rfl) (by decide) ?_
            try simp only [thenQ, blockQ]
            have hsl : (PV.msl (1 + G.length + (if (some (p ++ ⟨l.start, ((st + i : Nat) : Int) - l.start, l.units⟩ :: List.replicate 0 zRn) : Option (List Rn)).isSome then 1 else 0)) 0 (p.length + 1 + 1) c) = slotR (G ++ [.row (rowR (p ++ ⟨l.start, ((st + i : Nat) : Int) - l.start, l.units⟩ :: List.replicate 0 zRn))]) (c - (p.length + 1 + 1)) (some (p ++ [⟨l.start, ((st + i : Nat) : Int) - l.start, l.units⟩], (Rn.mk ((st + i : Nat) : Int) ((m.length - i : Nat) : Int) (unT r : Nat)))) := by show PV.msl _ _ _ _ = PV.msl _ _ _ _; congr 1 <;> simp <;> omega
            have hhp : hpR m j (G ++ [.row (rowR (p ++ ⟨l.start, ((st + i : Nat) : Int) - l.start, l.units⟩ :: List.replicate 0 zRn))]) (some ((p ++ ⟨l.start, ((st + i : Nat) : Int) - l.start, l.units⟩ :: List.replicate 0 zRn) ++ (Rn.mk ((st + i : Nat) : Int) ((m.length - i : Nat) : Int) (unT r : Nat)) :: List.replicate (c - (p.length + 1 + 1)) zRn)) = hpR m j (G ++ [.row (rowR (p ++ ⟨l.start, ((st + i : Nat) : Int) - l.start, l.units⟩ :: List.replicate 0 zRn))]) (LR (c - (p.length + 1 + 1)) (some (p ++ [⟨l.start, ((st + i : Nat) : Int) - l.start, l.units⟩], (Rn.mk ((st + i : Nat) : Int) ((m.length - i : Nat) : Int) (unT r : Nat))))) := by show hpR _ _ _ (some _) = hpR _ _ _ (some _); simp
            exact ⟨⟨j, G ++ [.row (rowR (p ++ ⟨l.start, ((st + i : Nat) : Int) - l.start, l.units⟩ :: List.replicate 0 zRn))], c - (p.length + 1 + 1), some (p ++ [⟨l.start, ((st + i : Nat) : Int) - l.start, l.units⟩], (Rn.mk ((st + i : Nat) : Int) ((m.length - i : Nat) : Int) (unT r : Nat)))⟩, [], by show m.length - j < m.length - i; omega, ⟨rfl, rfl, by first | exact hsl | (simpa using hsl), rfl, trivial⟩, by rw [List.append_nil]; first | exact hhp | (simpa using hhp), by rw [← hjj, ← hr]; exact SR.ok_next hok hlt hwd (fun o ho => by rcases List.mem_append.1 ho with h | h; exact hbG o h; rw [List.mem_singleton.1 h]; exact obel_rowR 0 _)⟩
          ·
            obtain rfl := hz
            have hspl : splice (rowR (p ++ ⟨l.start, ((st + i : Nat) : Int) - l.start, l.units⟩ :: List.replicate (z + 1) zRn)) ((p.length + 1) * 3) (Rn.mk ((st + i : Nat) : Int) ((m.length - i : Nat) : Int) (unT r : Nat)).enc.cells = rowR ((p ++ [⟨l.start, ((st + i : Nat) : Int) - l.start, l.units⟩]) ++ (Rn.mk ((st + i : Nat) : Int) ((m.length - i : Nat) : Int) (unT r : Nat)) :: List.replicate z zRn) := by
              rw [rowR_splice (by simp)]
              congr 1
              rw [List.set_append_right _ _ (by omega)]
              simp [List.replicate_succ, Nat.add_sub_cancel_left]
            have hgI := hpR_get m j G (p ++ ⟨l.start, ((st + i : Nat) : Int) - l.start, l.units⟩ :: List.replicate (z + 1) zRn)
            have hsI := hpR_set m j G (p ++ ⟨l.start, ((st + i : Nat) : Int) - l.start, l.units⟩ :: List.replicate (z + 1) zRn) ((p ++ [⟨l.start, ((st + i : Nat) : Int) - l.start, l.units⟩]) ++ (Rn.mk ((st + i : Nat) : Int) ((m.length - i : Nat) : Int) (unT r : Nat)) :: List.replicate z zRn)
            repeat (refine awp_seq ?_)
            refine awp_region ?_
            refine e_take 12 (by simp only [jA, jO, jN, seval, y3, y40, y43, vint, qP, sl, lr, hr, w1, w2, w3, hun] <;> with_reducible rfl) (by decide) ?_
            refine aops_appIn (id := 1 + G.length) (n := p.length + 1) (c := p.length + 1 + (z + 1)) (cs := rowR (p ++ ⟨l.start, ((st + i : Nat) : Int) - l.start, l.units⟩ :: List.replicate (z + 1) zRn)) (e1 := (Rn.mk ((st + i : Nat) : Int) ((m.length - i : Nat) : Int) (unT r : Nat)).enc) (tl := .full) hgI (by simp only [jC, jN, seval, vint, qP]) rfl (by decide) (by decide) (by simp only [jC, jN, seval, vint, qP] <;> first | done | rfl) (by simp only [jC, jN, seval, vint, qP] <;> first | done | rfl) (by omega) (by rw [rowR_len, List.length_append, List.length_cons, List.length_replicate]; show _ = _ * 3; omega) rfl rfl Trydte40 (by rw [Trydte40]; rfl) ?_
            rw [hspl]
            show AOps _ _ _ _ _ _ _ ((hpR m j G (some (p ++ ⟨l.start, ((st + i : Nat) : Int) - l.start, l.units⟩ :: List.replicate (z + 1) zRn))).set (1 + G.length) (.row (rowR ((p ++ [⟨l.start, ((st + i : Nat) : Int) - l.start, l.units⟩]) ++ (Rn.mk ((st + i : Nat) : Int) ((m.length - i : Nat) : Int) (unT r : Nat)) :: List.replicate z zRn))))
            rw [hsI]
            refine e_end (by simp only [jA, jO, jN, seval, vint, qP, sl, lr, hr, w1, w2, w3, hun] <;> with_reducible rfl) (by decide) ?_
            try simp only [thenQ, blockQ]
            have hsl : (PV.msl (1 + G.length) 0 (p.length + 1 + 1) (p.length + 1 + (z + 1))) = slotR G z (some (p ++ [⟨l.start, ((st + i : Nat) : Int) - l.start, l.units⟩], (Rn.mk ((st + i : Nat) : Int) ((m.length - i : Nat) : Int) (unT r : Nat)))) := by show PV.msl _ _ _ _ = PV.msl _ _ _ _; congr 1 <;> simp <;> omega
            exact ⟨⟨j, G, z, some (p ++ [⟨l.start, ((st + i : Nat) : Int) - l.start, l.units⟩], (Rn.mk ((st + i : Nat) : Int) ((m.length - i : Nat) : Int) (unT r : Nat)))⟩, [], by show m.length - j < m.length - i; omega, ⟨rfl, rfl, by first | exact hsl | (simpa using hsl), rfl, trivial⟩, by rw [List.append_nil]; show hpR _ _ _ (some _) = hpR _ _ _ (some _); simp, by rw [← hjj, ← hr]; exact SR.ok_next hok hlt hwd hbG⟩
      ·
        have hend := SR.ok_end hg hlt
        repeat (refine awp_seq ?_)
        refine awp_region ?_
        refine aops_nextE (id := 0) (s := m) (pos := i) rfl rfl (by simp only [jC, jN, seval, vint, qP] <;> first | done | rfl) (by decide) (by omega) (by simp only [jC, jN, seval, vint, qP]) ?_
        rw [show ([] ++ hpR m i G (LR zs (some (p, l))) : Heap).set 0 (AObj.obj (.iter m i)) = hpR m i G (LR zs (some (p, l))) from rfl]
        refine e_end (by simp only [jA, jO, jN, seval, vint, qP] <;> with_reducible rfl) (by decide) ?_
        repeat (refine awp_seq ?_)
        refine awp_cond_false rfl (by simp only [jN, seval, vint, qP] <;> with_reducible rfl) ?_
        repeat (refine awp_seq ?_)
        refine awp_exit ?_
        simp only [thenQ, blockQ, reduceIte, Nat.reduceEqDiff, Nat.succ_ne_self, if_true, if_false]
        repeat (refine awp_seq ?_)
        rw [hend]
        refine awp_freeze (H1 := []) [(6, .slice ((p ++ [l]).map Rn.enc) .none)] ⟨.inr ⟨1 + G.length, p.length + 1, p.length + 1 + zs, 3, (p ++ l :: List.replicate zs zRn).map Rn.enc, rfl, Nat.zero_le _, hpR_get m i G _, by simp, by omega, encR3, fun e he => by obtain ⟨t, _, rfl⟩ := List.mem_map.1 he; exact fun x hx => by have := Rn.bel 0 t; rw [Rn.enc_eq] at this; cases this with | agg _ h => rw [Rn.enc_cells] at hx; exact h x hx, by rw [← List.map_take, take_open]⟩, trivial⟩ rfl (Nat.le_refl _) (hbel_nil _) ?_
        refine e_eval (by simp only [jA, jO, jN, seval, vint, qP] <;> with_reducible rfl) (by decide) ?_
        repeat (refine awp_seq ?_)
        refine awp_ret ⟨.inr rfl, _, rfl, ?_⟩
        simp only [jN, seval, vint, qP]

end Go.Abs
set_option maxRecDepth 4000
namespace Go.Abs
open Go.Proofs

theorem posT_ok (wf : Nat → Nat) {s : List UInt8} {k : Nat} (h : k ≤ s.length) : posT wf s k = match colT wf (s.drop (lastS (s.take k))) (k - lastS (s.take k)) 0 with
    | some c => (⟨((s.take k).count 10 : Nat), (c : Nat)⟩, 0)
    | none => (⟨0, 0⟩, 3) := by
  unfold posT
  rw [if_neg (by omega), Int.toNat_natCast]
  cases colT wf (s.drop (lastS (s.take k))) (k - lastS (s.take k)) 0 <;> rfl
theorem posT_bad (wf : Nat → Nat) {s : List UInt8} {off : Int} (h : off < 0 ∨ off > s.length) : posT wf s off = (⟨0, 0⟩, 1) := by unfold posT; rw [if_pos h]

theorem toPos_c (s : List UInt8) (hs : s.length ≤ 300) (off : Int) (wf : Nat → Nat) (hb2 : ∀ r, wf r = 1 ∨ wf r = 2) (f : FuncId) (hgo : goFn Tryd.prog f = true) (hp : ∀ r : Nat, PC Tryd.prog f [.int .i32 (r : Int)] (vint ((wf r : Nat) : Int))) : PG G0 Tryd.prog 15 [.str s, vint off, .fn (.func f) [] []] (.tup [(posT wf s off).1.enc, vint (posT wf s off).2]) := by
  have em : maxLen = 9223372036854775807 := by decide
  have hcs : off < 0 ∨ off > s.length ∨ ∃ k : Nat, off = k ∧ k ≤ s.length := by
    by_cases h1 : off < 0
    · exact .inl h1
    · by_cases h2 : off > s.length
      · exact .inr (.inl h2)
      · exact .inr (.inr ⟨off.toNat, by omega, by omega⟩)
  refine pg_of (N := 56) Tryd.func15 rfl rfl (by simp) (.tup _ (by simp [Bel.int, Po.bel])) fun H hG hb' => ?_
  repeat (refine awp_seq ?_)
  refine e_eval (by simp only [jA, jO, jN, seval, y23, vint, qP] <;> with_reducible rfl) (by decide) ?_
  rcases hcs with ho | ho | ⟨k, rfl, hkl⟩
  ·
    have hv := posT_bad wf (s := s) (.inl ho)
    have o1 : (off < 0) = True := by simp [ho]
    repeat (refine awp_seq ?_)
    refine awp_region ?_
    refine aops_gstart ?_
    refine g_take 3 (by simp only [jG, jO, jN, seval, y3, vint, qP, o1, decide_true] <;> with_reducible rfl) (by decide) ?_
    refine aops_gskip (r := .tup []) (by simp only [jE, jN, seval, vint, qP, o1, decide_true] <;> with_reducible rfl) ?_
    refine aops_gskip (r := .tup []) (by simp only [jE, jN, seval, vint, qP, o1, decide_true] <;> with_reducible rfl) ?_
    refine aops_gskip (r := .tup []) (by simp only [jE, jN, seval, vint, qP, o1, decide_true] <;> with_reducible rfl) ?_
    refine aops_gskip (r := .tup []) (by simp only [jE, jN, seval, vint, qP, o1, decide_true] <;> with_reducible rfl) ?_
    refine g_end (by simp only [jG, jO, jN, seval, vint, qP, o1, decide_true] <;> with_reducible rfl) (by decide) (by repeat (first | exact Fin.base _ | with_reducible apply Fin.keep | apply Fin.drop)) ?_
    repeat (refine awp_seq ?_)
    refine awp_cond_true rfl (by simp only [jN, seval, vint, qP, o1, decide_true] <;> with_reducible rfl) ?_
    repeat (refine awp_seq ?_)
    refine e_eval (by simp only [jA, jO, jN, seval, y23, vint, qP, o1, decide_true] <;> with_reducible rfl) (by decide) ?_
    repeat (refine awp_seq ?_)
    refine awp_ret ⟨.inr rfl, _, _, (ares_two (.cell 6 23) (.tmp 7) rfl (ares_cell1 Trydti23 (by decide) (by simp only [jL, jN, seval, vint, qP, o1, decide_true] <;> with_reducible rfl)) (ares_tmp1 (by decide))), ?_, (by first | exact (List.append_nil _).symm | rfl)⟩
    simp only [hv]
    simp only [jN, seval, vint, qP]
    try rfl
  ·
    have hv := posT_bad wf (s := s) (.inr ho)
    have o1 : (off < 0) = False := by simp; omega
    have o2 : (off > (s.length : Int)) = True := by simp [ho]
    have o3 : ((s.length : Int) < off) = True := by simp [ho]
    repeat (refine awp_seq ?_)
    refine g_eval (by simp only [jG, jO, jN, seval, y3, y9, vint, qP, o1, o2, o3, decide_true, decide_false] <;> with_reducible rfl) (by decide) (by repeat (first | exact Fin.base _ | with_reducible apply Fin.keep | apply Fin.drop)) ?_
    repeat (refine awp_seq ?_)
    refine awp_cond_true rfl (by simp only [jN, seval, vint, qP, o1, o2, o3, decide_true, decide_false] <;> with_reducible rfl) ?_
    repeat (refine awp_seq ?_)
    refine e_eval (by simp only [jA, jO, jN, seval, y23, vint, qP, o1, o2, o3, decide_true, decide_false] <;> with_reducible rfl) (by decide) ?_
    repeat (refine awp_seq ?_)
    refine awp_ret ⟨.inr rfl, _, _, (ares_two (.cell 6 23) (.tmp 7) rfl (ares_cell1 Trydti23 (by decide) (by simp only [jL, jN, seval, vint, qP, o1, o2, o3, decide_true, decide_false] <;> with_reducible rfl)) (ares_tmp1 (by decide))), ?_, (by first | exact (List.append_nil _).symm | rfl)⟩
    simp only [hv]
    simp only [jN, seval, vint, qP]
    try rfl
  ·
    have k1 : ((k : Int) ≤ s.length) = True := by simp; omega
    have k2 : ((0 : Int) ≤ (k : Int)) = True := by simp
    have k3 : (k ≤ s.length) = True := by simp; omega
    have k4 : ((k : Int) < 0) = False := by simp
    have k5 : ((k : Int) > s.length) = False := by simp; omega
    have k6 : ((s.length : Int) < k) = False := by simp; omega
    obtain ⟨ls, hls⟩ : ∃ ls, lastS (s.take k) = ls := ⟨_, rfl⟩
    obtain ⟨cn, hcn⟩ : ∃ cn, (s.take k).count 10 = cn := ⟨_, rfl⟩
    have hlk : ls ≤ k := by rw [← hls]; have := lastS_le (s.take k); rw [List.length_take] at this; omega
    have hpo := posT_ok wf hkl
    rw [hls, hcn] at hpo
    obtain ⟨C, hC⟩ : ∃ C, colT wf (s.drop ls) (k - ls) 0 = C := ⟨_, rfl⟩
    rw [hC] at hpo
    have hcc := count_c (s.take k)
    rw [hcn] at hcc
    have hlc := lastIx_c (s.take k) (by rw [List.length_take]; omega)
    rw [hls] at hlc
    have wL : IntKind.i64.wrap ((ls : Int) - 1 + 1) = (ls : Int) := by rw [wrap_id (by omega) (by omega)]; omega
    repeat (refine awp_seq ?_)
    refine g_eval (by simp only [jG, jO, jN, seval, y3, y9, vint, qP, k1, k2, k3, k4, k5, k6, decide_false] <;> with_reducible rfl) (by decide) (by repeat (first | exact Fin.base _ | with_reducible apply Fin.keep | apply Fin.drop)) ?_
    repeat (refine awp_seq ?_)
    refine awp_cond_false rfl (by simp only [jN, seval, vint, qP, k1, k2, k3, k4, k5, k6, decide_false] <;> with_reducible rfl) ?_
    repeat (refine awp_seq ?_)
    refine awp_skip ?_
    repeat (refine awp_seq ?_)
    refine awp_region ?_
    refine e_take 3 (by simp only [jA, jO, jN, seval, y9, vint, qP, k1, k2, k3, k4, k5, k6, decide_false, jS, Int.toNat_natCast, List.drop_zero] <;> with_reducible rfl) (by decide) ?_
    refine aops_pure (by simp only [jC, jN, seval, vint, qP, k1, k2, k3, k4, k5, k6, decide_false, jS, Int.toNat_natCast, List.drop_zero] <;> with_reducible rfl) (by simp only [jC, jN, seval, vint, qP, k1, k2, k3, k4, k5, k6, decide_false, jS, Int.toNat_natCast, List.drop_zero]) (by decide) Trydgo20 (hcc _) ?_
    refine e_end (by simp only [jA, jO, jN, seval, y23, vint, qP, k1, k2, k3, k4, k5, k6, decide_false, jS, Int.toNat_natCast, List.drop_zero] <;> with_reducible rfl) (by decide) ?_
    refine awp_sel [0, 1, 2, 6, 8] (by simp only [jN, seval, vint, qP, k1, k2, k3, k4, k5, k6, decide_false] <;> with_reducible rfl) ?_
    repeat (refine awp_seq ?_)
    refine awp_region ?_
    refine e_take 3 (by simp only [jA, jO, jN, seval, y9, vint, qP, k1, k2, k3, k4, k5, k6, decide_false, jS, wL, Int.toNat_natCast, List.drop_zero] <;> with_reducible rfl) (by decide) ?_
    refine aops_pure (by simp only [jC, jN, seval, vint, qP, k1, k2, k3, k4, k5, k6, decide_false, jS, wL, Int.toNat_natCast, List.drop_zero] <;> with_reducible rfl) (by simp only [jC, jN, seval, vint, qP, k1, k2, k3, k4, k5, k6, decide_false, jS, wL, Int.toNat_natCast, List.drop_zero]) (by decide) Trydgo21 (hlc _) ?_
    refine e_end (by simp only [jA, jO, jN, seval, y3, vint, qP, k1, k2, k3, k4, k5, k6, decide_false, jS, wL, Int.toNat_natCast, List.drop_zero] <;> with_reducible rfl) (by decide) ?_
    repeat (refine awp_seq ?_)
    refine awp_block ?_
    refine awp_loopS (σ := Nat × Nat) (fun (q : Nat × Nat) => [(0, .str s), (1, vint (k : Int)), (2, .fn (.func f) [] []), (6, .optr H.length 0), (8, .optr (H.length + 1) 0), (9, vint (q.1 : Int))]) (H) (fun (q : Nat × Nat) => [.row [.int .i64 0, .int .i64 0], .row [.int .i64 (cn : Nat), .int .i64 (q.2 : Nat)]]) (fun (q : Nat × Nat) => s.length - q.1) (fun (q : Nat × Nat) => q.1 ≤ s.length ∧ q.2 ≤ 2 * q.1 ∧ ((q.1 ≤ k ∧ colT wf (s.drop q.1) (k - q.1) q.2 = C) ∨ (k < q.1 ∧ C = none))) ((ls, 0)) (_) ⟨(by first | rfl | (simp only [jN, seval, vint, qP, k1, k2, k3, k4, k5, k6, decide_false] <;> first | done | with_reducible rfl)), (by first | rfl | (simp only [jN, seval, vint, qP, k1, k2, k3, k4, k5, k6, decide_false] <;> first | done | with_reducible rfl)), (by first | rfl | (simp only [jN, seval, vint, qP, k1, k2, k3, k4, k5, k6, decide_false] <;> first | done | with_reducible rfl)), (by first | rfl | (simp only [jN, seval, vint, qP, k1, k2, k3, k4, k5, k6, decide_false] <;> first | done | with_reducible rfl)), (by first | rfl | (simp only [jN, seval, vint, qP, k1, k2, k3, k4, k5, k6, decide_false] <;> first | done | with_reducible rfl)), (by first | rfl | (simp only [jN, seval, vint, qP, k1, k2, k3, k4, k5, k6, decide_false] <;> first | done | with_reducible rfl)), trivial⟩ (by first | rfl | (simp only [jN, seval, vint, qP, k1, k2, k3, k4, k5, k6, decide_false] <;> first | done | with_reducible rfl)) (⟨by show ls ≤ _; omega, by simp, .inl ⟨hlk, hC⟩⟩) (fun _ _ => by first | exact Nat.zero_le _ | (simp only [List.length_append]; omega)) ?_ ?_
    · exact fun q hg => ⟨by refine hbel_app' hb' (by simp) ?_; repeat (first | exact hbel_nil _ | exact trivial | exact obel_row_nil _ | (refine HBel.cons ?_ ?_) | (refine obel_row_cons (by first | exact Bel.optr _ _ (by simp only [List.length_append, List.length_cons, List.length_nil]; omega) | exact Po.bel _ _ | exact bel_ints0 _ _ | exact bel_nil0 _ | exact bel_nil1 _ | exact Bel.int _ _ | exact Bel.bool _ | exact Bel.str _ | exact Bel.nilp | exact Bel.nilfn | exact Bel.optr _ _ (by simp) | exact bel_nil0 _ | exact bel_nil1 _ | exact bel_fn0 _ _ | assumption) ?_)), by repeat (first | exact BelL.nil | refine BelL.cons (by first | exact Bel.optr _ _ (by simp only [List.length_append, List.length_cons, List.length_nil]; omega) | exact Po.bel _ _ | exact bel_ints0 _ _ | exact bel_nil0 _ | exact bel_nil1 _ | exact Bel.int _ _ | exact Bel.bool _ | exact Bel.str _ | exact Bel.nilp | exact Bel.nilfn | exact Bel.optr _ _ (by simp) | exact bel_nil0 _ | exact bel_nil1 _ | exact bel_fn0 _ _ | assumption) ?_)⟩
    · intro q hg
      obtain ⟨i, col⟩ := q
      obtain ⟨hq1, hq2, hq3⟩ := hg
      simp only at hq1 hq2 hq3
      repeat (refine awp_seq ?_)
      refine e_eval (by simp only [jA, jO, jN, seval, y3, vint, qP, k1, k2, k3, k4, k5, k6, decide_false] <;> with_reducible rfl) (by decide) ?_
      repeat (refine awp_seq ?_)
      refine awp_cond rfl (by simp only [jN, seval, vint, qP, k1, k2, k3, k4, k5, k6, decide_false] <;> with_reducible rfl) (fun bt33 => ?_) (fun bt33 => ?_)
      ·
        have hik : i < k := by have := of_decide_eq_true bt33; omega
        rcases hq3 with ⟨_, hq3⟩ | ⟨hq3, _⟩
        rotate_left
        · omega
        have hne : s.drop i ≠ [] := fun e => by have := congrArg List.length e; rw [List.length_drop, List.length_nil] at this; omega
        have hbd := decL_bd hne
        rw [List.length_drop] at hbd
        have hst := colT_step wf (s := s.drop i) (d := k - i) (col := col) (by omega) (by rw [List.length_drop]; omega)
        have hdc := dec_c (s.drop i) hne
        rw [hq3] at hst
        obtain ⟨r, hr⟩ : ∃ r, (decL (s.drop i)).1 = r := ⟨_, rfl⟩
        obtain ⟨n, hn⟩ : ∃ n, (decL (s.drop i)).2 = n := ⟨_, rfl⟩
        rw [hr, hn] at hst hdc
        rw [hn] at hbd
        obtain ⟨wr, hwr⟩ : ∃ wr, wf r = wr := ⟨_, rfl⟩
        have hp1 := hp r
        have hb2r := hb2 r
        rw [hwr] at hst hp1 hb2r
        have i1 : ((i : Int) ≤ s.length) = True := by simp; omega
        have i2 : ((0 : Int) ≤ (i : Int)) = True := by simp
        have i3 : (i ≤ s.length) = True := by simp; omega
        have w1 : IntKind.i64.wrap ((i : Int) + n) = ((i + n : Nat) : Int) := by rw [wrap_id (by omega) (by omega)]; omega
        have w2 : IntKind.i64.wrap ((col : Int) + wr) = ((col + wr : Nat) : Int) := by rw [wrap_id (by omega) (by omega)]; omega
        repeat (refine awp_seq ?_)
        refine awp_skip ?_
        repeat (refine awp_seq ?_)
        refine awp_block ?_
        repeat (refine awp_seq ?_)
        refine awp_region ?_
        refine e_take 3 (by simp only [jA, jO, jN, seval, y9, vint, qP, k1, k2, k3, k4, k5, k6, decide_false, jS, i1, i2, i3, Int.toNat_natCast, List.take_length] <;> with_reducible rfl) (by decide) ?_
        refine aops_pure (by simp only [jC, jN, seval, vint, qP, k1, k2, k3, k4, k5, k6, decide_false, jS, i1, i2, i3, Int.toNat_natCast, List.take_length] <;> with_reducible rfl) (by simp only [jC, jN, seval, vint, qP, k1, k2, k3, k4, k5, k6, decide_false, jS, i1, i2, i3, Int.toNat_natCast, List.take_length]) (by decide) Trydgo22 (hdc _ (hG.app _)) ?_
        refine e_end (by simp only [jA, jO, jN, seval, vint, qP, k1, k2, k3, k4, k5, k6, decide_false, jS, i1, i2, i3, Int.toNat_natCast, List.take_length] <;> with_reducible rfl) (by decide) ?_
        repeat (refine awp_seq ?_)
        refine e_eval (by simp only [jA, jO, jN, seval, y3, vint, qP, k1, k2, k3, k4, k5, k6, decide_false, w1] <;> with_reducible rfl) (by decide) ?_
        refine awp_sel [0, 1, 2, 6, 8, 9, 10] (by simp only [jN, seval, vint, qP, k1, k2, k3, k4, k5, k6, decide_false] <;> with_reducible rfl) ?_
        repeat (refine awp_seq ?_)
        refine x_draw 0 (n0 := H.length + 2) (by first | rfl | (simp only [List.length_append, List.length_cons, List.length_nil, Nat.reduceAdd, Nat.zero_add, k1, k2, k3, k4, k5, k6, decide_false, w2]; done)) (by kernel_rfl) ?_
        refine x1_take 4 (by first | rfl | (simp only [List.length_append, List.length_cons, List.length_nil, Nat.reduceAdd, Nat.zero_add, k1, k2, k3, k4, k5, k6, decide_false, w2]; done)) (by simp only [jP, jO, jN, seval, y3, y23, vint, qP, k1, k2, k3, k4, k5, k6, decide_false, w2] <;> with_reducible rfl) (by decide) (by decide) (by decide) ?_
        refine x1_keep (by first | rfl | (simp only [List.length_append, List.length_cons, List.length_nil, Nat.reduceAdd, Nat.zero_add, k1, k2, k3, k4, k5, k6, decide_false, w2]; done)) (by simp only [jE, jN, seval, vint, qP, k1, k2, k3, k4, k5, k6, decide_false, w2] <;> with_reducible rfl) (by simp only [jE, jN, seval, vint, qP, k1, k2, k3, k4, k5, k6, decide_false, w2] <;> with_reducible rfl) (by simp only [jE, jN, seval, vint, qP, k1, k2, k3, k4, k5, k6, decide_false, w2]) (by decide) hgo (fun hc L => hp1 _) ?_
        refine x1_take 2 (by first | rfl | (simp only [List.length_append, List.length_cons, List.length_nil, Nat.reduceAdd, Nat.zero_add, k1, k2, k3, k4, k5, k6, decide_false, w2]; done)) (by simp only [jP, jO, jN, seval, y3, y23, vint, qP, k1, k2, k3, k4, k5, k6, decide_false, w2] <;> with_reducible rfl) (by decide) (by decide) (by decide) ?_
        refine x_mid (by first | (simp only [LS, HS, List.append_assoc, List.cons_append, List.nil_append, k1, k2, k3, k4, k5, k6, decide_false, w2] <;> with_reducible rfl) | rfl) ?_
        refine x2_end (bm := [0, 1, 0, 0, 12, 31, 63, 127]) (fresh := (H.length + 2)) (by kernel_rfl) (by simp only [jX, jO, jN, seval, y3, vint, qP, k1, k2, k3, k4, k5, k6, decide_false, w2] <;> with_reducible rfl) (by decide) (by repeat (first | exact Fin.base _ | with_reducible apply Fin.keep | apply Fin.drop)) ?_
        try simp only [thenQ, blockQ]
        exact ⟨(i + n, col + wr), _, by show s.length - (i + n) < s.length - i; omega, ⟨rfl, rfl, rfl, rfl, rfl, rfl, trivial⟩, by simp only [jN, seval, vint, qP] <;> rfl, by show i + n ≤ s.length; omega, by show col + wr ≤ 2 * (i + n); omega, by
          by_cases hg2 : n > k - i
          · rw [if_pos hg2] at hst
            exact .inr ⟨by show k < i + n; omega, hst⟩
          · rw [if_neg hg2, List.drop_drop] at hst
            exact .inl ⟨by show i + n ≤ k; omega, by rw [show k - (i + n) = k - i - n by omega]; exact hst.symm⟩⟩
      ·
        have hik : ¬ i < k := by have := of_decide_eq_false bt33; omega
        repeat (refine awp_seq ?_)
        refine awp_exit ?_
        simp only [thenQ, blockQ, reduceIte, Nat.reduceEqDiff, Nat.succ_ne_self, if_true, if_false]
        repeat (refine awp_seq ?_)
        refine e_eval (by simp only [jA, jO, jN, seval, y3, vint, qP, k1, k2, k3, k4, k5, k6, decide_false] <;> with_reducible rfl) (by decide) ?_
        repeat (refine awp_seq ?_)
        refine awp_cond rfl (by simp only [jN, seval, vint, qP, k1, k2, k3, k4, k5, k6, decide_false] <;> with_reducible rfl) (fun bt53 => ?_) (fun bt53 => ?_)
        ·
          have hv : posT wf s k = (⟨0, 0⟩, 3) := by
            rcases hq3 with ⟨q, _⟩ | ⟨_, q⟩
            · have := of_decide_eq_true bt53; omega
            · rw [hpo, q]
          repeat (refine awp_seq ?_)
          refine e_eval (by simp only [jA, jO, jN, seval, y23, vint, qP, k1, k2, k3, k4, k5, k6, decide_false] <;> with_reducible rfl) (by decide) ?_
          repeat (refine awp_seq ?_)
          refine awp_ret ⟨.inr rfl, _, _, (ares_two (.cell 6 23) (.tmp 7) rfl (ares_cell1 Trydti23 (by decide) (by simp only [jL, jN, seval, vint, qP, k1, k2, k3, k4, k5, k6, decide_false] <;> with_reducible rfl)) (ares_tmp1 (by decide))), ?_, (by first | exact (List.append_nil _).symm | rfl)⟩
          simp only [hv]
          simp only [jN, seval, vint, qP]
          try rfl
        ·
          have hv : posT wf s k = (⟨(cn : Nat), (col : Nat)⟩, 0) := by
            rcases hq3 with ⟨q1, q⟩ | ⟨q1, _⟩
            · rw [show k - i = 0 by omega, colT_zero] at q
              rw [hpo, ← q]
            · have := of_decide_eq_false bt53; omega
          repeat (refine awp_seq ?_)
          refine awp_skip ?_
          repeat (refine awp_seq ?_)
          refine e_eval (by simp only [jA, jO, jN, seval, y23, vint, qP, k1, k2, k3, k4, k5, k6, decide_false] <;> with_reducible rfl) (by decide) ?_
          repeat (refine awp_seq ?_)
          refine awp_ret ⟨.inr rfl, _, _, (ares_two (.cell 6 23) (.tmp 7) rfl (ares_cell1 Trydti23 (by decide) (by simp only [jL, jN, seval, vint, qP, k1, k2, k3, k4, k5, k6, decide_false] <;> with_reducible rfl)) (ares_tmp1 (by decide))), ?_, (by first | exact (List.append_nil _).symm | rfl)⟩
          simp only [hv]
          simp only [jN, seval, vint, qP]
          try rfl

theorem unT_12 (r : Nat) : unT r = 1 ∨ unT r = 2 := by unfold unT; split <;> simp

theorem u16pos_c (s : List UInt8) (hs : s.length ≤ 300) (off : Int) : PG G0 Tryd.prog 9 [.str s, vint off] (.tup [(posT unT s off).1.enc, vint (posT unT s off).2]) := by
  have hk := toPos_c s hs off unT unT_12 16 Trydgo16 w16_c
  refine pg_of (N := 11) Tryd.func9 rfl rfl (by simp) (.tup _ (by simp [Bel.int, Po.bel])) fun H hG hb' => ?_
  repeat (refine awp_seq ?_)
  refine e_eval (by simp only [jA, jO, jN, seval, y23, vint, qP] <;> with_reducible rfl) (by decide) ?_
  repeat (refine awp_seq ?_)
  refine awp_region ?_
  refine e_take 2 (by simp only [jA, jO, jN, seval, vint, qP] <;> with_reducible rfl) (by decide) ?_
  refine aops_pure (by simp only [jC, jN, seval, vint, qP] <;> with_reducible rfl) (by simp only [jC, jN, seval, vint, qP]) (by decide) Trydgo15 (hk _ (hG.app _)) ?_
  refine e_end (by simp only [jA, jO, jN, seval, y23, vint, qP] <;> with_reducible rfl) (by decide) ?_
  repeat (refine awp_seq ?_)
  refine awp_ret ⟨.inr rfl, _, _, (ares_two (.cell 4 23) (.tmp 5) rfl (ares_cell1 Trydti23 (by decide) (by simp only [jL, jN, seval, vint, qP] <;> with_reducible rfl)) (ares_tmp1 (by decide))), ?_, (by first | exact (List.append_nil _).symm | rfl)⟩
  simp only [jN, seval, vint, qP]
  try rfl

theorem runepos_c (s : List UInt8) (hs : s.length ≤ 300) (off : Int) : PG G0 Tryd.prog 11 [.str s, vint off] (.tup [(posT (fun _ => 1) s off).1.enc, vint (posT (fun _ => 1) s off).2]) := by
  have hk := toPos_c s hs off (fun _ => 1) (fun _ => .inl rfl) 18 Trydgo18 w1_c
  refine pg_of (N := 11) Tryd.func11 rfl rfl (by simp) (.tup _ (by simp [Bel.int, Po.bel])) fun H hG hb' => ?_
  repeat (refine awp_seq ?_)
  refine e_eval (by simp only [jA, jO, jN, seval, y23, vint, qP] <;> with_reducible rfl) (by decide) ?_
  repeat (refine awp_seq ?_)
  refine awp_region ?_
  refine e_take 2 (by simp only [jA, jO, jN, seval, vint, qP] <;> with_reducible rfl) (by decide) ?_
  refine aops_pure (by simp only [jC, jN, seval, vint, qP] <;> with_reducible rfl) (by simp only [jC, jN, seval, vint, qP]) (by decide) Trydgo15 (hk _ (hG.app _)) ?_
  refine e_end (by simp only [jA, jO, jN, seval, y23, vint, qP] <;> with_reducible rfl) (by decide) ?_
  repeat (refine awp_seq ?_)
  refine awp_ret ⟨.inr rfl, _, _, (ares_two (.cell 4 23) (.tmp 5) rfl (ares_cell1 Trydti23 (by decide) (by simp only [jL, jN, seval, vint, qP] <;> with_reducible rfl)) (ares_tmp1 (by decide))), ?_, (by first | exact (List.append_nil _).symm | rfl)⟩
  simp only [jN, seval, vint, qP]
  try rfl

end Go.Abs
set_option maxRecDepth 4000
namespace Go.Abs
open Go.Proofs

/-- From a position: the offset and the error. -/
def offR (wf : Nat → Nat) (s : List UInt8) (p : Po) : Int × Int :=
  if p.line < 0 ∨ p.line ≥ (startsI s).length then (0, 5) else offT wf p.col (s.drop ((startsT s).getD p.line.toNat 0)) ((startsT s).getD p.line.toNat 0) 0
theorem starts_get {s : List UInt8} {L : Nat} (h : L < (startsI s).length) : ((startsI s).map vint)[L]? = some (vint (((startsT s).getD L 0 : Nat) : Int)) ∧ (startsT s).getD L 0 ≤ s.length := by
  have h' : L < (startsT s).length := by simpa [startsI] using h
  refine ⟨?_, ?_⟩
  · unfold startsI
    rw [List.getElem?_map, List.getElem?_map, List.getElem?_eq_getElem h', List.getD_eq_getElem?_getD, List.getElem?_eq_getElem h']; rfl
  · rw [List.getD_eq_getElem?_getD, List.getElem?_eq_getElem h']
    have := List.getElem_mem h'
    rcases List.mem_cons.1 this with q | q
    · simp [q]
    · have := nlT_mem _ _ _ q; simp; omega

theorem toOff_c (s : List UInt8) (hs : s.length ≤ 300) (p : Po) (wf : Nat → Nat) (hb2 : ∀ r, wf r = 1 ∨ wf r = 2) (f : FuncId) (hgo : goFn Tryd.prog f = true) (hp : ∀ r : Nat, PC Tryd.prog f [.int .i32 (r : Int)] (vint ((wf r : Nat) : Int))) : PG G0 Tryd.prog 19 [.str s, p.enc, .fn (.func f) [] []] (.tup [vint (offR wf s p).1, vint (offR wf s p).2]) := by
  have em : maxLen = 9223372036854775807 := by decide
  obtain ⟨ln, pc⟩ := p
  obtain ⟨R, hR⟩ : ∃ R, offR wf s ⟨ln, pc⟩ = R := ⟨_, rfl⟩
  rw [hR]
  have hcs : ln < 0 ∨ ln ≥ (startsI s).length ∨ ∃ k : Nat, ln = k ∧ k < (startsI s).length := by
    by_cases h1 : ln < 0
    · exact .inl h1
    · by_cases h2 : ln ≥ (startsI s).length
      · exact .inr (.inl h2)
      · exact .inr (.inr ⟨ln.toNat, by omega, by omega⟩)
  have hsl := startsI_len s
  have hls := ls_c s hs
  refine pg_of (N := 77) Tryd.func19 rfl rfl (by simp) (.tup _ (by simp [Bel.int])) fun H hG hb' => ?_
  repeat (refine awp_seq ?_)
  refine e_eval (by simp only [jA, jO, jN, seval, y23, vint, qP] <;> with_reducible rfl) (by decide) ?_
  repeat (refine awp_seq ?_)
  refine awp_region ?_
  refine e_take 1 (by simp only [jA, jO, jN, seval, vint, qP] <;> with_reducible rfl) (by decide) ?_
  refine aops_pure (by simp only [jC, jN, seval, vint, qP] <;> with_reducible rfl) (by simp only [jC, jN, seval, vint, qP]) (by decide) Trydgo7 (hls _) ?_
  refine e_end (by simp only [jA, jO, jN, seval, vint, qP] <;> with_reducible rfl) (by decide) ?_
  rcases hcs with ho | ho | ⟨k, hlk, hkl⟩
  ·
    have hv : R = (0, 5) := by rw [← hR]; unfold offR; rw [if_pos (.inl ho)]
    have o1 : (ln < 0) = True := by simp [ho]
    repeat (refine awp_seq ?_)
    refine awp_region ?_
    refine aops_gstart ?_
    refine g_take 4 (by simp only [jG, jO, jN, seval, y3, y23, vint, qP, o1, decide_true] <;> with_reducible rfl) (by decide) ?_
    refine aops_gskip (r := .tup []) (by simp only [jE, jN, seval, vint, qP, o1, decide_true] <;> with_reducible rfl) ?_
    refine aops_gskip (r := .tup []) (by simp only [jE, jN, seval, vint, qP, o1, decide_true] <;> with_reducible rfl) ?_
    refine aops_gskip (r := .tup []) (by simp only [jE, jN, seval, vint, qP, o1, decide_true] <;> with_reducible rfl) ?_
    refine aops_gskip (r := .tup []) (by simp only [jE, jN, seval, vint, qP, o1, decide_true] <;> with_reducible rfl) ?_
    refine aops_gskip (r := .tup []) (by simp only [jE, jN, seval, vint, qP, o1, decide_true] <;> with_reducible rfl) ?_
    refine g_end (by simp only [jG, jO, jN, seval, vint, qP, o1, decide_true] <;> with_reducible rfl) (by decide) (by repeat (first | exact Fin.base _ | with_reducible apply Fin.keep | apply Fin.drop)) ?_
    repeat (refine awp_seq ?_)
    refine awp_cond_true rfl (by simp only [jN, seval, vint, qP, o1, decide_true] <;> with_reducible rfl) ?_
    refine awp_sel [] (by simp only [jN, seval, vint, qP, o1, decide_true] <;> with_reducible rfl) ?_
    repeat (refine awp_seq ?_)
    refine e_eval (by simp only [jA, jO, jN, seval, vint, qP, o1, decide_true] <;> with_reducible rfl) (by decide) ?_
    repeat (refine awp_seq ?_)
    refine awp_ret ⟨.inr rfl, _, _, (ares_two (.tmp 6) (.tmp 7) rfl (ares_tmp1 (by decide)) (ares_tmp1 (by decide))), ?_, (by first | exact (List.append_nil _).symm | rfl)⟩
    first | (rw [hv]) | (rw [hg])
    simp only [jN, seval, vint, qP]
    try rfl
  ·
    have hv : R = (0, 5) := by rw [← hR]; unfold offR; rw [if_pos (.inr ho)]
    have o1 : (ln < 0) = False := by simp; omega
    have o3 : ((((startsI s).length : Nat) : Int) ≤ ln) = True := by simp; omega
    repeat (refine awp_seq ?_)
    refine g_eval (by simp only [jG, jO, jN, seval, y3, y23, y27, vint, qP, o1, o3, decide_true, decide_false] <;> with_reducible rfl) (by decide) (by repeat (first | exact Fin.base _ | with_reducible apply Fin.keep | apply Fin.drop)) ?_
    repeat (refine awp_seq ?_)
    refine awp_cond_true rfl (by simp only [jN, seval, vint, qP, o1, o3, decide_true, decide_false] <;> with_reducible rfl) ?_
    refine awp_sel [] (by simp only [jN, seval, vint, qP, o1, o3, decide_true, decide_false] <;> with_reducible rfl) ?_
    repeat (refine awp_seq ?_)
    refine e_eval (by simp only [jA, jO, jN, seval, vint, qP, o1, o3, decide_true, decide_false] <;> with_reducible rfl) (by decide) ?_
    repeat (refine awp_seq ?_)
    refine awp_ret ⟨.inr rfl, _, _, (ares_two (.tmp 6) (.tmp 7) rfl (ares_tmp1 (by decide)) (ares_tmp1 (by decide))), ?_, (by first | exact (List.append_nil _).symm | rfl)⟩
    first | (rw [hv]) | (rw [hg])
    simp only [jN, seval, vint, qP]
    try rfl
  ·
    have o1 : (ln < 0) = False := by simp; omega
    have o3 : ((((startsI s).length : Nat) : Int) ≤ ln) = False := by simp; omega
    have o4 : ((0 : Int) ≤ ln ∧ ln < (((startsI s).length : Nat) : Int)) = True := by simp; omega
    have o5 : ln.toNat = k := by omega
    obtain ⟨st, hst⟩ : ∃ st, (startsT s).getD k 0 = st := ⟨_, rfl⟩
    obtain ⟨g2, hsl2⟩ := starts_get hkl
    rw [hst] at g2 hsl2
    have hRe : offT wf pc (s.drop st) st 0 = R := by rw [← hR]; unfold offR; simp only; rw [if_neg (by omega), o5, hst]
    clear hR
    repeat (refine awp_seq ?_)
    refine g_eval (by simp only [jG, jO, jN, seval, y3, y23, y27, vint, qP, o1, o3, o4, o5, g2, decide_false] <;> with_reducible rfl) (by decide) (by repeat (first | exact Fin.base _ | with_reducible apply Fin.keep | apply Fin.drop)) ?_
    repeat (refine awp_seq ?_)
    refine awp_cond_false rfl (by simp only [jN, seval, vint, qP, o1, o3, o4, o5, g2, decide_false] <;> with_reducible rfl) ?_
    repeat (refine awp_seq ?_)
    refine awp_skip ?_
    refine awp_sel [0, 2, 4, 8] (by simp only [jN, seval, vint, qP, o1, o3, o4, o5, g2, decide_false] <;> with_reducible rfl) ?_
    repeat (refine awp_seq ?_)
    refine e_eval (by simp only [jA, jO, jN, seval, y3, y23, y27, vint, qP, o1, o3, o4, o5, g2, decide_false] <;> with_reducible rfl) (by decide) ?_
    repeat (refine awp_seq ?_)
    refine awp_joinT (σ := Nat × Nat) (fun (q : Nat × Nat) => [(0, .str s), (2, .fn (.func f) [] []), (4, .optr H.length 0), (9, vint (q.1 : Int)), (10, vint (q.2 : Int))]) (fun (q : Nat × Nat) => H ++ [.row [.int .i64 ln, .int .i64 pc]]) (fun (q : Nat × Nat) => R = if pc < 0 ∨ (q.2 : Int) < pc then (0, 1) else if (q.2 : Int) > pc then (0, 3) else ((q.1 : Int), 0)) ?_ ?_ ?_
    · intro q hg
      exact ⟨by simp, by refine hbel_app' hb' (by simp) ?_; repeat (first | exact hbel_nil _ | exact trivial | exact obel_row_nil _ | (refine HBel.cons ?_ ?_) | (refine obel_row_cons (by first | exact Bel.optr _ _ (by simp only [List.length_append, List.length_cons, List.length_nil]; omega) | exact Po.bel _ _ | exact bel_ints0 _ _ | exact bel_nil0 _ | exact bel_nil1 _ | exact Bel.int _ _ | exact Bel.bool _ | exact Bel.str _ | exact Bel.nilp | exact Bel.nilfn | exact Bel.optr _ _ (by simp) | exact bel_nil0 _ | exact bel_nil1 _ | exact bel_fn0 _ _ | assumption) ?_)), by repeat (first | exact BelL.nil | refine BelL.cons (by first | exact Bel.optr _ _ (by simp only [List.length_append, List.length_cons, List.length_nil]; omega) | exact Po.bel _ _ | exact bel_ints0 _ _ | exact bel_nil0 _ | exact bel_nil1 _ | exact Bel.int _ _ | exact Bel.bool _ | exact Bel.str _ | exact Bel.nilp | exact Bel.nilfn | exact Bel.optr _ _ (by simp) | exact bel_nil0 _ | exact bel_nil1 _ | exact bel_fn0 _ _ | assumption) ?_)⟩
    · -- to the meeting
      repeat (refine awp_seq ?_)
      refine awp_block ?_
      refine awp_loopS (σ := Nat × Nat) (fun (q : Nat × Nat) => [(0, .str s), (2, .fn (.func f) [] []), (4, .optr H.length 0), (9, vint (q.1 : Int)), (10, vint (q.2 : Int))]) (H) (fun (q : Nat × Nat) => [.row [.int .i64 ln, .int .i64 pc]]) (fun (q : Nat × Nat) => s.length - q.1) (fun (q : Nat × Nat) => q.1 ≤ s.length ∧ q.2 ≤ 2 * q.1 ∧ offT wf pc (s.drop q.1) q.1 q.2 = R) ((st, 0)) (_) ⟨(by first | rfl | (simp only [jN, seval, vint, qP, o1, o3, o4, o5, g2, decide_false] <;> first | done | with_reducible rfl)), (by first | rfl | (simp only [jN, seval, vint, qP, o1, o3, o4, o5, g2, decide_false] <;> first | done | with_reducible rfl)), (by first | rfl | (simp only [jN, seval, vint, qP, o1, o3, o4, o5, g2, decide_false] <;> first | done | with_reducible rfl)), (by first | rfl | (simp only [jN, seval, vint, qP, o1, o3, o4, o5, g2, decide_false] <;> first | done | with_reducible rfl)), (by first | rfl | (simp only [jN, seval, vint, qP, o1, o3, o4, o5, g2, decide_false] <;> first | done | with_reducible rfl)), trivial⟩ (by first | rfl | (simp only [jN, seval, vint, qP, o1, o3, o4, o5, g2, decide_false] <;> first | done | with_reducible rfl)) (⟨hsl2, by simp, hRe⟩) (fun _ _ => by first | exact Nat.zero_le _ | (simp only [List.length_append]; omega)) ?_ ?_
      · exact fun q hg => ⟨by refine hbel_app' hb' (by simp) ?_; repeat (first | exact hbel_nil _ | exact trivial | exact obel_row_nil _ | (refine HBel.cons ?_ ?_) | (refine obel_row_cons (by first | exact Bel.optr _ _ (by simp only [List.length_append, List.length_cons, List.length_nil]; omega) | exact Po.bel _ _ | exact bel_ints0 _ _ | exact bel_nil0 _ | exact bel_nil1 _ | exact Bel.int _ _ | exact Bel.bool _ | exact Bel.str _ | exact Bel.nilp | exact Bel.nilfn | exact Bel.optr _ _ (by simp) | exact bel_nil0 _ | exact bel_nil1 _ | exact bel_fn0 _ _ | assumption) ?_)), by repeat (first | exact BelL.nil | refine BelL.cons (by first | exact Bel.optr _ _ (by simp only [List.length_append, List.length_cons, List.length_nil]; omega) | exact Po.bel _ _ | exact bel_ints0 _ _ | exact bel_nil0 _ | exact bel_nil1 _ | exact Bel.int _ _ | exact Bel.bool _ | exact Bel.str _ | exact Bel.nilp | exact Bel.nilfn | exact Bel.optr _ _ (by simp) | exact bel_nil0 _ | exact bel_nil1 _ | exact bel_fn0 _ _ | assumption) ?_)⟩
      · intro q hg
        obtain ⟨i, col⟩ := q
        obtain ⟨hq1, hq2, hq3⟩ := hg
        simp only at hq1 hq2 hq3
        have hcc : ¬ (col : Int) < pc ∨ ((col : Int) < pc ∧ i = s.length) ∨ ((col : Int) < pc ∧ i < s.length ∧ s[i]? = some 10) ∨ ((col : Int) < pc ∧ i < s.length ∧ ∃ c, s[i]? = some c ∧ c ≠ 10) := by
          by_cases h1 : (col : Int) < pc
          · rcases Nat.lt_or_ge i s.length with h2 | h2
            · by_cases h3 : s[i] = 10
              · exact .inr (.inr (.inl ⟨h1, h2, by rw [List.getElem?_eq_getElem h2, h3]⟩))
              · exact .inr (.inr (.inr ⟨h1, h2, s[i], by rw [List.getElem?_eq_getElem h2], h3⟩))
            · exact .inr (.inl ⟨h1, by omega⟩)
          · exact .inl h1
        rcases hcc with h1 | ⟨h1, h2⟩ | ⟨h1, h2, h3⟩ | ⟨h1, h2, c, h3, h4⟩
        ·
          have hno : ¬ ((col : Int) < pc ∧ s.drop i ≠ [] ∧ (s.drop i).head? ≠ some 10) := fun q => h1 q.1
          have f1 : ((col : Int) < pc) = False := by simp only [eq_iff_iff, iff_false]; exact h1
          repeat (refine awp_seq ?_)
          refine awp_region ?_
          refine aops_gstart ?_
          refine g_take 5 (by simp only [jG, jO, jN, seval, y3, y23, vint, qP, o1, o3, o4, o5, g2, decide_false, f1, decide_false] <;> with_reducible rfl) (by decide) ?_
          refine aops_gskip (r := .tup []) (by simp only [jE, jN, seval, vint, qP, o1, o3, o4, o5, g2, decide_false, f1, decide_false] <;> with_reducible rfl) ?_
          refine aops_gskip (r := .tup []) (by simp only [jE, jN, seval, vint, qP, o1, o3, o4, o5, g2, decide_false, f1, decide_false] <;> with_reducible rfl) ?_
          refine aops_gskip (r := .tup []) (by simp only [jE, jN, seval, vint, qP, o1, o3, o4, o5, g2, decide_false, f1, decide_false] <;> with_reducible rfl) ?_
          refine aops_gskip (r := .tup []) (by simp only [jE, jN, seval, vint, qP, o1, o3, o4, o5, g2, decide_false, f1, decide_false] <;> with_reducible rfl) ?_
          refine g_take 2 (by simp only [jG, jO, jN, seval, vint, qP, o1, o3, o4, o5, g2, decide_false, f1, decide_false] <;> with_reducible rfl) (by decide) ?_
          refine aops_gskip (r := .tup []) (by simp only [jE, jN, seval, vint, qP, o1, o3, o4, o5, g2, decide_false, f1, decide_false] <;> with_reducible rfl) ?_
          refine aops_gskip (r := .tup []) (by simp only [jE, jN, seval, vint, qP, o1, o3, o4, o5, g2, decide_false, f1, decide_false] <;> with_reducible rfl) ?_
          refine aops_gskip (r := .tup []) (by simp only [jE, jN, seval, vint, qP, o1, o3, o4, o5, g2, decide_false, f1, decide_false] <;> with_reducible rfl) ?_
          refine aops_gskip (r := .tup []) (by simp only [jE, jN, seval, vint, qP, o1, o3, o4, o5, g2, decide_false, f1, decide_false] <;> with_reducible rfl) ?_
          refine g_end (by simp only [jG, jO, jN, seval, vint, qP, o1, o3, o4, o5, g2, decide_false, f1, decide_false] <;> with_reducible rfl) (by decide) (by repeat (first | exact Fin.base _ | with_reducible apply Fin.keep | apply Fin.drop)) ?_
          repeat (refine awp_seq ?_)
          refine awp_cond_false rfl (by simp only [jN, seval, vint, qP, o1, o3, o4, o5, g2, decide_false, f1, decide_false] <;> with_reducible rfl) ?_
          repeat (refine awp_seq ?_)
          refine awp_exit ?_
          simp only [thenQ, blockQ, reduceIte, Nat.reduceEqDiff, Nat.succ_ne_self, if_true, if_false]
          exact ⟨(i, col), [], ⟨(by first | rfl | (simp only [jN, seval, vint, qP, o1, o3, o4, o5, g2, decide_false, f1, decide_false] <;> first | done | with_reducible rfl)), (by first | rfl | (simp only [jN, seval, vint, qP, o1, o3, o4, o5, g2, decide_false, f1, decide_false] <;> first | done | with_reducible rfl)), (by first | rfl | (simp only [jN, seval, vint, qP, o1, o3, o4, o5, g2, decide_false, f1, decide_false] <;> first | done | with_reducible rfl)), (by first | rfl | (simp only [jN, seval, vint, qP, o1, o3, o4, o5, g2, decide_false, f1, decide_false] <;> first | done | with_reducible rfl)), (by first | rfl | (simp only [jN, seval, vint, qP, o1, o3, o4, o5, g2, decide_false, f1, decide_false] <;> first | done | with_reducible rfl)), trivial⟩, (List.append_nil _).symm, by exact hq3.symm.trans (offT_stop wf hno)⟩
        ·
          have hno : ¬ ((col : Int) < pc ∧ s.drop i ≠ [] ∧ (s.drop i).head? ≠ some 10) := fun q => q.2.1 (by rw [h2, List.drop_length])
          have f1 : ((col : Int) < pc) = True := by simp only [eq_iff_iff, iff_true]; exact h1
          have f2 : ((i : Int) < s.length) = False := by simp; omega
          repeat (refine awp_seq ?_)
          refine awp_region ?_
          refine aops_gstart ?_
          refine g_take 11 (by simp only [jG, jO, jN, seval, y3, y9, y23, vint, qP, o1, o3, o4, o5, g2, decide_false, f1, f2, decide_false, decide_true] <;> with_reducible rfl) (by decide) ?_
          refine aops_gskip (r := .tup []) (by simp only [jE, jN, seval, vint, qP, o1, o3, o4, o5, g2, decide_false, f1, f2, decide_false, decide_true] <;> with_reducible rfl) ?_
          refine aops_gskip (r := .tup []) (by simp only [jE, jN, seval, vint, qP, o1, o3, o4, o5, g2, decide_false, f1, f2, decide_false, decide_true] <;> with_reducible rfl) ?_
          refine aops_gskip (r := .tup []) (by simp only [jE, jN, seval, vint, qP, o1, o3, o4, o5, g2, decide_false, f1, f2, decide_false, decide_true] <;> with_reducible rfl) ?_
          refine aops_gskip (r := .tup []) (by simp only [jE, jN, seval, vint, qP, o1, o3, o4, o5, g2, decide_false, f1, f2, decide_false, decide_true] <;> with_reducible rfl) ?_
          refine g_end (by simp only [jG, jO, jN, seval, vint, qP, o1, o3, o4, o5, g2, decide_false, f1, f2, decide_false, decide_true] <;> with_reducible rfl) (by decide) (by repeat (first | exact Fin.base _ | with_reducible apply Fin.keep | apply Fin.drop)) ?_
          repeat (refine awp_seq ?_)
          refine awp_cond_false rfl (by simp only [jN, seval, vint, qP, o1, o3, o4, o5, g2, decide_false, f1, f2, decide_false, decide_true] <;> with_reducible rfl) ?_
          repeat (refine awp_seq ?_)
          refine awp_exit ?_
          simp only [thenQ, blockQ, reduceIte, Nat.reduceEqDiff, Nat.succ_ne_self, if_true, if_false]
          exact ⟨(i, col), [], ⟨(by first | rfl | (simp only [jN, seval, vint, qP, o1, o3, o4, o5, g2, decide_false, f1, f2, decide_false, decide_true] <;> first | done | with_reducible rfl)), (by first | rfl | (simp only [jN, seval, vint, qP, o1, o3, o4, o5, g2, decide_false, f1, f2, decide_false, decide_true] <;> first | done | with_reducible rfl)), (by first | rfl | (simp only [jN, seval, vint, qP, o1, o3, o4, o5, g2, decide_false, f1, f2, decide_false, decide_true] <;> first | done | with_reducible rfl)), (by first | rfl | (simp only [jN, seval, vint, qP, o1, o3, o4, o5, g2, decide_false, f1, f2, decide_false, decide_true] <;> first | done | with_reducible rfl)), (by first | rfl | (simp only [jN, seval, vint, qP, o1, o3, o4, o5, g2, decide_false, f1, f2, decide_false, decide_true] <;> first | done | with_reducible rfl)), trivial⟩, (List.append_nil _).symm, by exact hq3.symm.trans (offT_stop wf hno)⟩
        ·
          have hno : ¬ ((col : Int) < pc ∧ s.drop i ≠ [] ∧ (s.drop i).head? ≠ some 10) := fun q => q.2.2 (by rw [List.head?_drop]; exact h3)
          have f1 : ((col : Int) < pc) = True := by simp only [eq_iff_iff, iff_true]; exact h1
          have f2 : ((i : Int) < s.length) = True := by simp; omega
          have f3 : ((0 : Int) ≤ (i : Int)) = True := by simp
          have e10 : decide (((10 : UInt8).toNat : Int) = 10) = true := by decide
          repeat (refine awp_seq ?_)
          refine g_eval (by simp only [jG, jO, jN, seval, y3, y5, y9, y23, vint, qP, o1, o3, o4, o5, g2, decide_false, f1, f2, f3, h3, e10, decide_true, Bool.not_true, Int.toNat_natCast] <;> with_reducible rfl) (by decide) (by repeat (first | exact Fin.base _ | with_reducible apply Fin.keep | apply Fin.drop)) ?_
          repeat (refine awp_seq ?_)
          refine awp_cond_false rfl (by simp only [jN, seval, vint, qP, o1, o3, o4, o5, g2, decide_false, f1, f2, f3, h3, e10, decide_true, Bool.not_true, Int.toNat_natCast] <;> with_reducible rfl) ?_
          repeat (refine awp_seq ?_)
          refine awp_exit ?_
          simp only [thenQ, blockQ, reduceIte, Nat.reduceEqDiff, Nat.succ_ne_self, if_true, if_false]
          exact ⟨(i, col), [], ⟨(by first | rfl | (simp only [jN, seval, vint, qP, o1, o3, o4, o5, g2, decide_false, f1, f2, f3, h3, e10, decide_true, Bool.not_true, Int.toNat_natCast] <;> first | done | with_reducible rfl)), (by first | rfl | (simp only [jN, seval, vint, qP, o1, o3, o4, o5, g2, decide_false, f1, f2, f3, h3, e10, decide_true, Bool.not_true, Int.toNat_natCast] <;> first | done | with_reducible rfl)), (by first | rfl | (simp only [jN, seval, vint, qP, o1, o3, o4, o5, g2, decide_false, f1, f2, f3, h3, e10, decide_true, Bool.not_true, Int.toNat_natCast] <;> first | done | with_reducible rfl)), (by first | rfl | (simp only [jN, seval, vint, qP, o1, o3, o4, o5, g2, decide_false, f1, f2, f3, h3, e10, decide_true, Bool.not_true, Int.toNat_natCast] <;> first | done | with_reducible rfl)), (by first | rfl | (simp only [jN, seval, vint, qP, o1, o3, o4, o5, g2, decide_false, f1, f2, f3, h3, e10, decide_true, Bool.not_true, Int.toNat_natCast] <;> first | done | with_reducible rfl)), trivial⟩, (List.append_nil _).symm, by exact hq3.symm.trans (offT_stop wf hno)⟩
        ·
          have f1 : ((col : Int) < pc) = True := by simp only [eq_iff_iff, iff_true]; exact h1
          have f2 : ((i : Int) < s.length) = True := by simp; omega
          have f3 : ((0 : Int) ≤ (i : Int)) = True := by simp
          have e10 : decide ((c.toNat : Int) = 10) = (c == 10) := u8_eq c 10 (by decide)
          have n10 : (c == 10) = false := by simpa using h4
          have hne : s.drop i ≠ [] := fun e => by have := congrArg List.length e; rw [List.length_drop, List.length_nil] at this; omega
          have hbd := decL_bd hne
          rw [List.length_drop] at hbd
          have hst2 := offT_step wf (pc := pc) (s := s.drop i) (i := i) (col := col) ⟨h1, hne, by rw [List.head?_drop, h3]; simpa using h4⟩
          have hdc := dec_c (s.drop i) hne
          rw [hq3] at hst2
          obtain ⟨r, hr⟩ : ∃ r, (decL (s.drop i)).1 = r := ⟨_, rfl⟩
          obtain ⟨n, hn⟩ : ∃ n, (decL (s.drop i)).2 = n := ⟨_, rfl⟩
          rw [hr, hn] at hst2 hdc
          rw [hn] at hbd
          obtain ⟨wr, hwr⟩ : ∃ wr, wf r = wr := ⟨_, rfl⟩
          have hp1 := hp r
          have hb2r := hb2 r
          rw [hwr] at hst2 hp1 hb2r
          have i1 : ((i : Int) ≤ s.length) = True := by simp; omega
          have i3 : (i ≤ s.length) = True := by simp; omega
          have w1 : IntKind.i64.wrap ((i : Int) + n) = ((i + n : Nat) : Int) := by rw [wrap_id (by omega) (by omega)]; omega
          have w2 : IntKind.i64.wrap ((col : Int) + wr) = ((col + wr : Nat) : Int) := by rw [wrap_id (by omega) (by omega)]; omega
          repeat (refine awp_seq ?_)
          refine g_eval (by simp only [jG, jO, jN, seval, y3, y5, y9, y23, vint, qP, o1, o3, o4, o5, g2, decide_false, f1, f2, f3, h3, e10, n10, decide_true, Bool.not_false, Int.toNat_natCast] <;> with_reducible rfl) (by decide) (by repeat (first | exact Fin.base _ | with_reducible apply Fin.keep | apply Fin.drop)) ?_
          repeat (refine awp_seq ?_)
          refine awp_cond_true rfl (by simp only [jN, seval, vint, qP, o1, o3, o4, o5, g2, decide_false, f1, f2, f3, h3, e10, n10, decide_true, Bool.not_false, Int.toNat_natCast] <;> with_reducible rfl) ?_
          repeat (refine awp_seq ?_)
          refine awp_skip ?_
          repeat (refine awp_seq ?_)
          refine awp_block ?_
          refine awp_sel [0, 2, 4, 9, 10] (by simp only [jN, seval, vint, qP, o1, o3, o4, o5, g2, decide_false, f1, f2, f3, h3, e10, n10, decide_true, Bool.not_false, Int.toNat_natCast] <;> with_reducible rfl) ?_
          repeat (refine awp_seq ?_)
          refine awp_region ?_
          refine e_take 3 (by simp only [jA, jO, jN, seval, y9, vint, qP, o1, o3, o4, o5, g2, decide_false, f1, f2, f3, h3, e10, n10, decide_true, Bool.not_false, Int.toNat_natCast, jS, i1, i3, List.take_length] <;> with_reducible rfl) (by decide) ?_
          refine aops_pure (by simp only [jC, jN, seval, vint, qP, o1, o3, o4, o5, g2, decide_false, f1, f2, f3, h3, e10, n10, decide_true, Bool.not_false, Int.toNat_natCast, jS, i1, i3, List.take_length] <;> with_reducible rfl) (by simp only [jC, jN, seval, vint, qP, o1, o3, o4, o5, g2, decide_false, f1, f2, f3, h3, e10, n10, decide_true, Bool.not_false, Int.toNat_natCast, jS, i1, i3, List.take_length]) (by decide) Trydgo22 (hdc _ (hG.app _)) ?_
          refine e_end (by simp only [jA, jO, jN, seval, vint, qP, o1, o3, o4, o5, g2, decide_false, f1, f2, f3, h3, e10, n10, decide_true, Bool.not_false, Int.toNat_natCast, jS, i1, i3, List.take_length] <;> with_reducible rfl) (by decide) ?_
          repeat (refine awp_seq ?_)
          refine e_eval (by simp only [jA, jO, jN, seval, y3, vint, qP, o1, o3, o4, o5, g2, decide_false, f1, f2, f3, h3, e10, n10, decide_true, Bool.not_false, Int.toNat_natCast, w1] <;> with_reducible rfl) (by decide) ?_
          repeat (refine awp_seq ?_)
          refine awp_region ?_
          refine e_take 3 (by simp only [jA, jO, jN, seval, vint, qP, o1, o3, o4, o5, g2, decide_false, f1, f2, f3, h3, e10, n10, decide_true, Bool.not_false, Int.toNat_natCast, w2] <;> with_reducible rfl) (by decide) ?_
          refine aops_pure (by simp only [jC, jN, seval, vint, qP, o1, o3, o4, o5, g2, decide_false, f1, f2, f3, h3, e10, n10, decide_true, Bool.not_false, Int.toNat_natCast, w2] <;> with_reducible rfl) (by simp only [jC, jN, seval, vint, qP, o1, o3, o4, o5, g2, decide_false, f1, f2, f3, h3, e10, n10, decide_true, Bool.not_false, Int.toNat_natCast, w2]) (by decide) hgo (hp1 _) ?_
          refine e_end (by simp only [jA, jO, jN, seval, y3, vint, qP, o1, o3, o4, o5, g2, decide_false, f1, f2, f3, h3, e10, n10, decide_true, Bool.not_false, Int.toNat_natCast, w2] <;> with_reducible rfl) (by decide) ?_
          try simp only [thenQ, blockQ]
          exact ⟨(i + n, col + wr), _, by show s.length - (i + n) < s.length - i; omega, ⟨rfl, rfl, rfl, rfl, rfl, trivial⟩, by simp only [jN, seval, vint, qP] <;> rfl, by show i + n ≤ s.length; omega, by show col + wr ≤ 2 * (i + n); omega, by rw [List.drop_drop] at hst2; exact hst2.symm⟩
    · intro q hg
      obtain ⟨i, col⟩ := q
      simp only at hg
      repeat (refine awp_seq ?_)
      refine awp_block ?_
      rcases (by omega : pc < 0 ∨ ¬ pc < 0) with hpc | hpc
      ·
        have f1 : (pc < 0) = True := by simp only [eq_iff_iff, iff_true]; exact hpc
        rw [if_pos (.inl hpc)] at hg
        repeat (refine awp_seq ?_)
        refine awp_region ?_
        refine aops_gstart ?_
        refine g_take 4 (by simp only [jG, jO, jN, seval, y3, y23, vint, qP, o1, o3, o4, o5, g2, decide_false, f1, decide_true] <;> with_reducible rfl) (by decide) ?_
        refine aops_gskip (r := .tup []) (by simp only [jE, jN, seval, vint, qP, o1, o3, o4, o5, g2, decide_false, f1, decide_true] <;> with_reducible rfl) ?_
        refine aops_gskip (r := .tup []) (by simp only [jE, jN, seval, vint, qP, o1, o3, o4, o5, g2, decide_false, f1, decide_true] <;> with_reducible rfl) ?_
        refine aops_gskip (r := .tup []) (by simp only [jE, jN, seval, vint, qP, o1, o3, o4, o5, g2, decide_false, f1, decide_true] <;> with_reducible rfl) ?_
        refine aops_gskip (r := .tup []) (by simp only [jE, jN, seval, vint, qP, o1, o3, o4, o5, g2, decide_false, f1, decide_true] <;> with_reducible rfl) ?_
        refine g_end (by simp only [jG, jO, jN, seval, vint, qP, o1, o3, o4, o5, g2, decide_false, f1, decide_true] <;> with_reducible rfl) (by decide) (by repeat (first | exact Fin.base _ | with_reducible apply Fin.keep | apply Fin.drop)) ?_
        repeat (refine awp_seq ?_)
        refine awp_cond_true rfl (by simp only [jN, seval, vint, qP, o1, o3, o4, o5, g2, decide_false, f1, decide_true] <;> with_reducible rfl) ?_
        repeat (refine awp_seq ?_)
        refine e_eval (by simp only [jA, jO, jN, seval, vint, qP, o1, o3, o4, o5, g2, decide_false, f1, decide_true] <;> with_reducible rfl) (by decide) ?_
        repeat (refine awp_seq ?_)
        refine awp_ret ⟨.inr rfl, _, _, (ares_two (.tmp 6) (.tmp 7) rfl (ares_tmp1 (by decide)) (ares_tmp1 (by decide))), ?_, (by first | exact (List.append_nil _).symm | rfl)⟩
        first | (rw [hv]) | (rw [hg])
        simp only [jN, seval, vint, qP]
        try rfl
      ·
        have f1 : (pc < 0) = False := by simp only [eq_iff_iff, iff_false]; exact hpc
        repeat (refine awp_seq ?_)
        refine g_eval (by simp only [jG, jO, jN, seval, y3, y23, vint, qP, o1, o3, o4, o5, g2, decide_false, f1, decide_false] <;> with_reducible rfl) (by decide) (by repeat (first | exact Fin.base _ | with_reducible apply Fin.keep | apply Fin.drop)) ?_
        repeat (refine awp_seq ?_)
        refine awp_cond rfl (by simp only [jN, seval, vint, qP, o1, o3, o4, o5, g2, decide_false, f1, decide_false] <;> with_reducible rfl) (fun bt61 => ?_) (fun bt61 => ?_)
        ·
          rw [if_pos (.inr (of_decide_eq_true bt61))] at hg
          repeat (refine awp_seq ?_)
          refine e_eval (by simp only [jA, jO, jN, seval, vint, qP, o1, o3, o4, o5, g2, decide_false, f1, decide_false] <;> with_reducible rfl) (by decide) ?_
          repeat (refine awp_seq ?_)
          refine awp_ret ⟨.inr rfl, _, _, (ares_two (.tmp 6) (.tmp 7) rfl (ares_tmp1 (by decide)) (ares_tmp1 (by decide))), ?_, (by first | exact (List.append_nil _).symm | rfl)⟩
          first | (rw [hv]) | (rw [hg])
          simp only [jN, seval, vint, qP]
          try rfl
        ·
          rw [if_neg (fun q => q.elim hpc (of_decide_eq_false bt61))] at hg
          repeat (refine awp_seq ?_)
          refine e_eval (by simp only [jA, jO, jN, seval, y3, y23, vint, qP, o1, o3, o4, o5, g2, decide_false, f1, decide_false] <;> with_reducible rfl) (by decide) ?_
          repeat (refine awp_seq ?_)
          refine awp_cond rfl (by simp only [jN, seval, vint, qP, o1, o3, o4, o5, g2, decide_false, f1, decide_false] <;> with_reducible rfl) (fun bt71 => ?_) (fun bt71 => ?_)
          ·
            rw [if_pos (of_decide_eq_true bt71)] at hg
            refine awp_sel [] (by simp only [jN, seval, vint, qP, o1, o3, o4, o5, g2, decide_false, f1, decide_false] <;> with_reducible rfl) ?_
            repeat (refine awp_seq ?_)
            refine e_eval (by simp only [jA, jO, jN, seval, vint, qP, o1, o3, o4, o5, g2, decide_false, f1, decide_false] <;> with_reducible rfl) (by decide) ?_
            repeat (refine awp_seq ?_)
            refine awp_ret ⟨.inr rfl, _, _, (ares_two (.tmp 6) (.tmp 7) rfl (ares_tmp1 (by decide)) (ares_tmp1 (by decide))), ?_, (by first | exact (List.append_nil _).symm | rfl)⟩
            first | (rw [hv]) | (rw [hg])
            simp only [jN, seval, vint, qP]
            try rfl
          ·
            rw [if_neg (of_decide_eq_false bt71)] at hg
            repeat (refine awp_seq ?_)
            refine awp_skip ?_
            refine awp_sel [9] (by simp only [jN, seval, vint, qP, o1, o3, o4, o5, g2, decide_false, f1, decide_false] <;> with_reducible rfl) ?_
            repeat (refine awp_seq ?_)
            refine e_eval (by simp only [jA, jO, jN, seval, vint, qP, o1, o3, o4, o5, g2, decide_false, f1, decide_false] <;> with_reducible rfl) (by decide) ?_
            repeat (refine awp_seq ?_)
            refine awp_ret ⟨.inr rfl, _, _, (ares_two (.tmp 6) (.tmp 7) rfl (ares_tmp1 (by decide)) (ares_tmp1 (by decide))), ?_, (by first | exact (List.append_nil _).symm | rfl)⟩
            first | (rw [hv]) | (rw [hg])
            simp only [jN, seval, vint, qP]
            try rfl

theorem u16off_c (s : List UInt8) (hs : s.length ≤ 300) (p : Po) : PG G0 Tryd.prog 12 [.str s, p.enc] (.tup [vint (offR unT s p).1, vint (offR unT s p).2]) := by
  have hk := toOff_c s hs p unT unT_12 16 Trydgo16 w16_c
  refine pg_of (N := 11) Tryd.func12 rfl rfl (by simp) (.tup _ (by simp [Bel.int])) fun H hG hb' => ?_
  repeat (refine awp_seq ?_)
  refine e_eval (by simp only [jA, jO, jN, seval, y23, vint, qP] <;> with_reducible rfl) (by decide) ?_
  repeat (refine awp_seq ?_)
  refine awp_region ?_
  refine e_take 2 (by simp only [jA, jO, jN, seval, y23, vint, qP] <;> with_reducible rfl) (by decide) ?_
  refine aops_pure (by simp only [jC, jN, seval, vint, qP] <;> with_reducible rfl) (by simp only [jC, jN, seval, vint, qP]) (by decide) Trydgo19 (hk _ (hG.app _)) ?_
  refine e_end (by simp only [jA, jO, jN, seval, vint, qP] <;> with_reducible rfl) (by decide) ?_
  repeat (refine awp_seq ?_)
  refine awp_ret ⟨.inr rfl, _, _, (ares_two (.tmp 4) (.tmp 5) rfl (ares_tmp1 (by decide)) (ares_tmp1 (by decide))), ?_, (by first | exact (List.append_nil _).symm | rfl)⟩
  simp only [jN, seval, vint, qP]
  try rfl

theorem runeoff_c (s : List UInt8) (hs : s.length ≤ 300) (p : Po) : PG G0 Tryd.prog 14 [.str s, p.enc] (.tup [vint (offR (fun _ => 1) s p).1, vint (offR (fun _ => 1) s p).2]) := by
  have hk := toOff_c s hs p (fun _ => 1) (fun _ => .inl rfl) 18 Trydgo18 w1_c
  refine pg_of (N := 11) Tryd.func14 rfl rfl (by simp) (.tup _ (by simp [Bel.int])) fun H hG hb' => ?_
  repeat (refine awp_seq ?_)
  refine e_eval (by simp only [jA, jO, jN, seval, y23, vint, qP] <;> with_reducible rfl) (by decide) ?_
  repeat (refine awp_seq ?_)
  refine awp_region ?_
  refine e_take 2 (by simp only [jA, jO, jN, seval, y23, vint, qP] <;> with_reducible rfl) (by decide) ?_
  refine aops_pure (by simp only [jC, jN, seval, vint, qP] <;> with_reducible rfl) (by simp only [jC, jN, seval, vint, qP]) (by decide) Trydgo19 (hk _ (hG.app _)) ?_
  refine e_end (by simp only [jA, jO, jN, seval, vint, qP] <;> with_reducible rfl) (by decide) ?_
  repeat (refine awp_seq ?_)
  refine awp_ret ⟨.inr rfl, _, _, (ares_two (.tmp 4) (.tmp 5) rfl (ares_tmp1 (by decide)) (ares_tmp1 (by decide))), ?_, (by first | exact (List.append_nil _).symm | rfl)⟩
  simp only [jN, seval, vint, qP]
  try rfl

end Go.Abs
set_option maxRecDepth 4000
namespace Go.Abs
open Go.Proofs

def wU (u : Bool) : Nat → Nat := if u then unT else fun _ => 1
def wrU (u : Bool) (r : Rn) : Int := if u then r.units else 1
def twoU (u : Bool) (r : Rn) : Bool := u && decide (r.units = 2)
theorem wrU_eq (u : Bool) (o l : Int) (r : Nat) : wrU u ⟨o, l, unT r⟩ = wU u r := by cases u <;> rfl
theorem twoU_eq (u : Bool) (o l : Int) (r : Nat) : twoU u ⟨o, l, unT r⟩ = decide (wU u r = 2) := by
  cases u
  · rfl
  · have h : (((unT r : Nat) : Int) = 2) = (unT r = 2) := by rw [eq_iff_iff]; omega
    simp only [twoU, wU, Bool.true_and, if_true, h]
theorem wU_12 (u : Bool) (r : Nat) : wU u r = 1 ∨ wU u r = 2 := by
  cases u
  · exact .inl rfl
  · exact unT_12 r
theorem rns_bd : ∀ (n o : Nat) (m : List UInt8), m.length ≤ n → ∀ r ∈ rnsT o m, (o : Int) ≤ r.start ∧ 1 ≤ r.len ∧ r.start + r.len ≤ o + m.length ∧ (r.units = 1 ∨ r.units = 2) := by
  intro n
  induction n with
  | zero =>
    intro o m h r hr
    rw [List.length_eq_zero_iff.1 (by omega : m.length = 0)] at hr; cases hr
  | succ n ih =>
    intro o m h r hr
    by_cases hm : m = []
    · subst hm; cases hr
    · have hb := decL_bd hm
      rw [rnsT_step hm] at hr
      rcases List.mem_cons.1 hr with rfl | hr
      · refine ⟨Int.le_refl _, by simp only; omega, by simp only; omega, ?_⟩
        rcases unT_12 (decL m).1 with q | q <;> simp only [q]
        · exact .inl rfl
        · exact .inr rfl
      · have := ih (o + (decL m).2) (m.drop (decL m).2) (by rw [List.length_drop]; omega) r hr
        rw [List.length_drop] at this
        omega
theorem rns_len : ∀ (n o : Nat) (m : List UInt8), m.length ≤ n → (rnsT o m).length ≤ m.length := by
  intro n
  induction n with
  | zero => intro o m h; rw [List.length_eq_zero_iff.1 (by omega : m.length = 0)]; exact Nat.zero_le _
  | succ n ih =>
    intro o m h
    by_cases hm : m = []
    · subst hm; exact Nat.zero_le _
    · have hb := decL_bd hm
      rw [rnsT_step hm, List.length_cons]
      have := ih (o + (decL m).2) (m.drop (decL m).2) (by rw [List.length_drop]; omega)
      rw [List.length_drop] at this; omega
theorem nlT_nil : ∀ (a : List UInt8) (o : Nat), nlT o a = [] → ∀ c ∈ a, c ≠ 10
  | [], o, _, c, hc => by cases hc
  | b :: a, o, h, c, hc => by
    simp only [nlT] at h
    split at h
    · cases h
    · rename_i hb
      rcases List.mem_cons.1 hc with rfl | hc
      · exact hb
      · exact nlT_nil a _ h c hc
/-- From a line's beginning on there is no end of a line ahead of the offset. -/
theorem line_reach {s : List UInt8} {k : Nat} (hk : k ≤ s.length) : k ≤ lastS (s.take k) + (lineL (s.drop (lastS (s.take k)))).length := by
  have hl := lastS_le (s.take k)
  have hlen : (s.take k).length = k := by rw [List.length_take]; omega
  obtain ⟨ls, hls⟩ : ∃ ls, lastS (s.take k) = ls := ⟨_, rfl⟩
  rw [hls] at hl ⊢
  rw [hlen] at hl
  have hab := nlT_append ((s.take k).take ls) ((s.take k).drop ls) 0
  have hl1 : ((s.take k).take ls).length = ls := by rw [List.length_take, hlen]; omega
  rw [List.take_append_drop, hl1, Nat.zero_add] at hab
  have hnil : nlT ls ((s.take k).drop ls) = [] := by
    cases hq : nlT ls ((s.take k).drop ls) with
    | nil => rfl
    | cons a l =>
      exfalso
      have hmem : ∀ x ∈ a :: l, ls < x := fun x hx => (nlT_mem _ _ _ (by rw [hq]; exact hx)).1
      have hx : lastS (s.take k) ∈ a :: l := by
        unfold lastS startsT
        rw [hab, hq, List.getLastD_eq_getLast?, ← List.cons_append, List.getLast?_append]
        have hne : (a :: l).getLast? = some ((a :: l).getLast (by simp)) := by rw [List.getLast?_eq_some_getLast]
        rw [hne]
        exact List.getLast_mem _
      have := hmem _ hx
      omega
  have hno := nlT_nil _ _ hnil
  have hsd : s.drop ls = (s.take k).drop ls ++ s.drop k := by
    conv => lhs; rw [← List.take_append_drop k s]
    rw [List.drop_append_of_le_length (by omega)]
  have hln : lineL (s.drop ls) = (s.take k).drop ls ++ lineL (s.drop k) := by
    unfold lineL
    rw [hsd, List.takeWhile_append_of_pos (fun c hc => by simpa using hno c hc)]
  rw [hln, List.length_append, List.length_drop, hlen]
  omega
/-- The reference's walk over the code points gives the conversion's answer. -/
theorem refP_pos (u : Bool) {s : List UInt8} {k : Nat} (hk : k ≤ s.length) : refP (wrU u) k (rnsT (lastS (s.take k)) (lineL (s.drop (lastS (s.take k))))) 0 = (colT (wU u) (s.drop (lastS (s.take k))) (k - lastS (s.take k)) 0).map (fun (c : Nat) => (c : Int)) := by
  have hl : lastS (s.take k) ≤ k := by have := lastS_le (s.take k); rw [List.length_take] at this; omega
  have := refP_eq (wU u) (wrU u) (wrU_eq u) _ (lastS (s.take k)) (lineL (s.drop (lastS (s.take k)))) (restL (s.drop (lastS (s.take k)))) k 0 (Nat.le_refl _) (rest_head _) hl (line_reach hk)
  rw [line_rest] at this
  exact this
theorem refO_off (u : Bool) (s : List UInt8) (st : Nat) (pc : Int) : refO (wrU u) (twoU u) pc (rnsT st (lineL (s.drop st))) 0 st = offT (wU u) pc (s.drop st) st 0 := by
  by_cases hpc : 0 ≤ pc
  · have := refO_eq (wU u) (wrU u) (twoU u) (wrU_eq u) (twoU_eq u) (wU_12 u) pc hpc _ st (lineL (s.drop st)) (restL (s.drop st)) 0 (Nat.le_refl _) (line_no _) (rest_head _) (by simpa using hpc)
    rw [line_rest] at this
    exact this
  · rw [offT_stop _ (by rintro ⟨q, _⟩; omega), if_pos (.inl (by omega))]
    have key : ∀ (rs : List Rn) (col e : Int), (∀ r ∈ rs, 0 ≤ wrU u r) → 0 ≤ col → refO (wrU u) (twoU u) pc rs col e = (0, 1) := by
      intro rs
      induction rs with
      | nil => intro col e _ h; rw [refO, if_neg (by omega)]
      | cons r rs ih =>
        intro col e hr h
        have h0 := hr r (by simp)
        rw [refO, if_neg (by omega), if_neg (by rintro ⟨_, q⟩; omega)]
        exact ih _ _ (fun q hq => hr q (by simp [hq])) (by omega)
    refine key _ _ _ (fun r hr => ?_) (Int.le_refl _)
    have := rns_bd _ st _ (Nat.le_refl _) r hr
    unfold wrU
    cases u
    · simp
    · simp only [if_true]; omega

theorem posOf_c (s : List UInt8) (hs : s.length ≤ 300) (off : Int) (u : Bool) : PC Tryd.prog 10 [.str s, vint off, .bool u] (.tup [(posT (wU u) s off).1.enc, vint (posT (wU u) s off).2]) := by
  have em : maxLen = 9223372036854775807 := by decide
  have hsT : (startsT s).length = (startsI s).length := by simp [startsI]
  have hs1 : 1 ≤ (startsI s).length := by simp [startsI, startsT]
  have hs2 := startsI_len s
  have w0 : IntKind.i64.wrap ((((startsI s).length : Nat) : Int) - 1) = (((startsI s).length - 1 : Nat) : Int) := by rw [wrap_id (by omega) (by omega)]; omega
  have hls := lsR_c s hs
  have hcs : off < 0 ∨ off > s.length ∨ ∃ k : Nat, off = k ∧ k ≤ s.length := by
    by_cases h1 : off < 0
    · exact .inl h1
    · by_cases h2 : off > s.length
      · exact .inr (.inl h2)
      · exact .inr (.inr ⟨off.toNat, by omega, by omega⟩)
  refine pc_of (N := 69) Tryd.func10 rfl rfl (by simp) (by simp [Bel.int, Bel.str, Bel.bool, Po.bel, bel_ints0]) (.tup _ (by simp [Bel.int, Po.bel])) ?_
  repeat (refine awp_seq ?_)
  refine e_eval (by simp only [jA, jO, jN, seval, y23, vint, qP] <;> with_reducible rfl) (by decide) ?_
  rcases hcs with ho | ho | ⟨k, rfl, hkl⟩
  ·
    have hv := posT_bad (wU u) (s := s) (.inl ho)
    have o1 : (off < 0) = True := by simp [ho]
    repeat (refine awp_seq ?_)
    refine awp_region ?_
    refine aops_gstart ?_
    refine g_take 3 (by simp only [jG, jO, jN, seval, y3, vint, qP, o1, decide_true] <;> with_reducible rfl) (by decide) ?_
    refine aops_gskip (r := .tup []) (by simp only [jE, jN, seval, vint, qP, o1, decide_true] <;> with_reducible rfl) ?_
    refine aops_gskip (r := .tup []) (by simp only [jE, jN, seval, vint, qP, o1, decide_true] <;> with_reducible rfl) ?_
    refine aops_gskip (r := .tup []) (by simp only [jE, jN, seval, vint, qP, o1, decide_true] <;> with_reducible rfl) ?_
    refine aops_gskip (r := .tup []) (by simp only [jE, jN, seval, vint, qP, o1, decide_true] <;> with_reducible rfl) ?_
    refine g_end (by simp only [jG, jO, jN, seval, vint, qP, o1, decide_true] <;> with_reducible rfl) (by decide) (by repeat (first | exact Fin.base _ | with_reducible apply Fin.keep | apply Fin.drop)) ?_
    repeat (refine awp_seq ?_)
    refine awp_cond_true rfl (by simp only [jN, seval, vint, qP, o1, decide_true] <;> with_reducible rfl) ?_
    repeat (refine awp_seq ?_)
    refine e_eval (by simp only [jA, jO, jN, seval, y23, vint, qP, o1, decide_true] <;> with_reducible rfl) (by decide) ?_
    repeat (refine awp_seq ?_)
    refine awp_ret ⟨.inr rfl, _, (ares_two (.cell 6 23) (.tmp 7) rfl (ares_cell1 Trydti23 (by decide) (by simp only [jL, jN, seval, vint, qP, o1, decide_true] <;> with_reducible rfl)) (ares_tmp1 (by decide))), ?_⟩
    simp only [hv]
    simp only [jN, seval, vint, qP]
    try rfl
  ·
    have hv := posT_bad (wU u) (s := s) (.inr ho)
    have o1 : (off < 0) = False := by simp; omega
    have o3 : ((s.length : Int) < off) = True := by simp [ho]
    have o2 : (off > (s.length : Int)) = True := by simp [ho]
    repeat (refine awp_seq ?_)
    refine g_eval (by simp only [jG, jO, jN, seval, y3, y9, vint, qP, o1, o2, o3, decide_true, decide_false] <;> with_reducible rfl) (by decide) (by repeat (first | exact Fin.base _ | with_reducible apply Fin.keep | apply Fin.drop)) ?_
    repeat (refine awp_seq ?_)
    refine awp_cond_true rfl (by simp only [jN, seval, vint, qP, o1, o2, o3, decide_true, decide_false] <;> with_reducible rfl) ?_
    repeat (refine awp_seq ?_)
    refine e_eval (by simp only [jA, jO, jN, seval, y23, vint, qP, o1, o2, o3, decide_true, decide_false] <;> with_reducible rfl) (by decide) ?_
    repeat (refine awp_seq ?_)
    refine awp_ret ⟨.inr rfl, _, (ares_two (.cell 6 23) (.tmp 7) rfl (ares_cell1 Trydti23 (by decide) (by simp only [jL, jN, seval, vint, qP, o1, o2, o3, decide_true, decide_false] <;> with_reducible rfl)) (ares_tmp1 (by decide))), ?_⟩
    simp only [hv]
    simp only [jN, seval, vint, qP]
    try rfl
  ·
    have k4 : ((k : Int) < 0) = False := by simp
    have k5 : ((k : Int) > s.length) = False := by simp; omega
    have k6 : ((s.length : Int) < k) = False := by simp; omega
    have hpo := posT_ok (wU u) hkl
    have hrp := refP_pos u hkl
    repeat (refine awp_seq ?_)
    refine g_eval (by simp only [jG, jO, jN, seval, y3, y9, vint, qP, k4, k5, k6, decide_false] <;> with_reducible rfl) (by decide) (by repeat (first | exact Fin.base _ | with_reducible apply Fin.keep | apply Fin.drop)) ?_
    repeat (refine awp_seq ?_)
    refine awp_cond_false rfl (by simp only [jN, seval, vint, qP, k4, k5, k6, decide_false] <;> with_reducible rfl) ?_
    repeat (refine awp_seq ?_)
    refine awp_skip ?_
    repeat (refine awp_seq ?_)
    refine awp_region ?_
    refine e_take 1 (by simp only [jA, jO, jN, seval, vint, qP, k4, k5, k6, decide_false] <;> with_reducible rfl) (by decide) ?_
    refine aops_pure (by simp only [jC, jN, seval, vint, qP, k4, k5, k6, decide_false] <;> with_reducible rfl) (by simp only [jC, jN, seval, vint, qP, k4, k5, k6, decide_false]) (by decide) Trydgo8 (hls _) ?_
    refine e_end (by simp only [jA, jO, jN, seval, vint, qP, k4, k5, k6, decide_false] <;> with_reducible rfl) (by decide) ?_
    repeat (refine awp_seq ?_)
    refine e_eval (by simp only [jA, jO, jN, seval, y3, y27, vint, qP, k4, k5, k6, decide_false, w0] <;> with_reducible rfl) (by decide) ?_
    repeat (refine awp_seq ?_)
    refine awp_block ?_
    refine awp_loopS (σ := Nat) (fun (L : Nat) => [(0, .str s), (1, vint (k : Int)), (2, .bool u), (6, .optr 0 0), (8, .slice ((startsI s).map vint) .none), (9, vint (L : Int))]) ([]) (fun (L : Nat) => [.row [.int .i64 0, .int .i64 0]]) (fun (L : Nat) => L) (fun (L : Nat) => L < (startsI s).length ∧ ∀ (j v : Nat), L < j → (startsT s)[j]? = some v → k < v) (((startsI s).length - 1)) (_) ⟨(by first | rfl | (simp only [jN, seval, vint, qP, k4, k5, k6, decide_false] <;> first | done | with_reducible rfl)), (by first | rfl | (simp only [jN, seval, vint, qP, k4, k5, k6, decide_false] <;> first | done | with_reducible rfl)), (by first | rfl | (simp only [jN, seval, vint, qP, k4, k5, k6, decide_false] <;> first | done | with_reducible rfl)), (by first | rfl | (simp only [jN, seval, vint, qP, k4, k5, k6, decide_false] <;> first | done | with_reducible rfl)), (by first | rfl | (simp only [jN, seval, vint, qP, k4, k5, k6, decide_false] <;> first | done | with_reducible rfl)), (by first | rfl | (simp only [jN, seval, vint, qP, k4, k5, k6, decide_false] <;> first | done | with_reducible rfl)), trivial⟩ (by first | rfl | (simp only [jN, seval, vint, qP, k4, k5, k6, decide_false] <;> first | done | with_reducible rfl)) (⟨by omega, fun j v h1 h2 => by have := (List.getElem?_eq_some_iff.1 h2).1; rw [hsT] at this; omega⟩) (fun _ _ => by first | exact Nat.zero_le _ | (simp only [List.length_append]; omega)) ?_ ?_
    · exact fun L hg => ⟨by simp only [List.nil_append]; repeat (first | exact hbel_nil _ | exact trivial | exact obel_row_nil _ | (refine HBel.cons ?_ ?_) | (refine obel_row_cons (by first | exact Bel.optr _ _ (by simp only [List.length_append, List.length_cons, List.length_nil]; omega) | exact bel_Rn _ _ | exact Po.bel _ _ | exact bel_ints0 _ _ | exact bel_nil0 _ | exact bel_nil1 _ | exact Bel.int _ _ | exact Bel.bool _ | exact Bel.str _ | exact Bel.nilp | exact Bel.nilfn | exact Bel.optr _ _ (by simp) | exact bel_nil0 _ | exact bel_nil1 _ | exact bel_fn0 _ _ | assumption) ?_)), by repeat (first | exact BelL.nil | refine BelL.cons (by first | exact Bel.optr _ _ (by simp only [List.length_append, List.length_cons, List.length_nil]; omega) | exact bel_Rn _ _ | exact Po.bel _ _ | exact bel_ints0 _ _ | exact bel_nil0 _ | exact bel_nil1 _ | exact Bel.int _ _ | exact Bel.bool _ | exact Bel.str _ | exact Bel.nilp | exact Bel.nilfn | exact Bel.optr _ _ (by simp) | exact bel_nil0 _ | exact bel_nil1 _ | exact bel_fn0 _ _ | assumption) ?_)⟩
    · intro L hg
      obtain ⟨hg1, hg2⟩ := hg
      obtain ⟨g2, hvl⟩ := starts_get hg1
      obtain ⟨v, hv0⟩ : ∃ v, (startsT s).getD L 0 = v := ⟨_, rfl⟩
      have hLv : (startsT s)[L]? = some v := by rw [← hv0, List.getD_eq_getElem?_getD, List.getElem?_eq_getElem (by rw [hsT]; exact hg1)]; rfl
      rw [hv0] at g2 hvl
      have g1 : ((0 : Int) ≤ (L : Int) ∧ (L : Int) < (((startsI s).length : Nat) : Int)) = True := by simp; omega
      repeat (refine awp_seq ?_)
      refine e_eval (by simp only [jA, jO, jN, seval, y3, y27, vint, qP, k4, k5, k6, decide_false, g1, g2, Int.toNat_natCast] <;> with_reducible rfl) (by decide) ?_
      repeat (refine awp_seq ?_)
      refine awp_cond rfl (by simp only [jN, seval, vint, qP, k4, k5, k6, decide_false, g1, g2, Int.toNat_natCast] <;> with_reducible rfl) (fun bt32 => ?_) (fun bt32 => ?_)
      ·
        have hvk : k < v := by have := of_decide_eq_true bt32; omega
        have hL0 : L ≠ 0 := by rintro rfl; rw [show (startsT s)[0]? = some 0 from rfl] at hLv; cases hLv; omega
        have w1 : IntKind.i64.wrap ((L : Int) - 1) = ((L - 1 : Nat) : Int) := by rw [wrap_id (by omega) (by omega)]; omega
        repeat (refine awp_seq ?_)
        refine awp_skip ?_
        repeat (refine awp_seq ?_)
        refine awp_block ?_
        repeat (refine awp_seq ?_)
        refine e_eval (by simp only [jA, jO, jN, seval, y3, vint, qP, k4, k5, k6, decide_false, g1, g2, Int.toNat_natCast, w1] <;> with_reducible rfl) (by decide) ?_
        try simp only [thenQ, blockQ]
        exact ⟨L - 1, _, by omega, ⟨rfl, rfl, rfl, rfl, rfl, rfl, trivial⟩, by simp only [jN, seval, vint, qP] <;> rfl, by omega, fun j v' h1 h2 => by rcases Nat.lt_or_ge L j with q | q; exact hg2 j v' q h2; obtain rfl : j = L := (by omega); rw [hLv] at h2; cases h2; exact hvk⟩
      ·
        have hvk : v ≤ k := by have := of_decide_eq_false bt32; omega
        obtain ⟨hLc, hvs⟩ := line_unique s k hkl L v hLv hvk hg2
        rw [← hvs] at hrp hpo
        rw [← hLc] at hpo
        obtain ⟨rs, hrs⟩ : ∃ rs, rnsT v (lineL (s.drop v)) = rs := ⟨_, rfl⟩
        have hlr := lr_c s hs v hvl
        have hlnl := line_len (s.drop v)
        rw [List.length_drop] at hlnl
        have hrl : rs.length ≤ 300 := by rw [← hrs]; have := rns_len _ v (lineL (s.drop v)) (Nat.le_refl _); omega
        have hrb : ∀ r ∈ rs, (0 : Int) ≤ r.start ∧ 1 ≤ r.len ∧ r.start + r.len ≤ 300 ∧ (r.units = 1 ∨ r.units = 2) := fun r hr => by
          rw [← hrs] at hr
          have := rns_bd _ v _ (Nat.le_refl _) r hr
          omega
        rw [hrs] at hlr hrp
        repeat (refine awp_seq ?_)
        refine awp_exit ?_
        simp only [thenQ, blockQ, reduceIte, Nat.reduceEqDiff, Nat.succ_ne_self, if_true, if_false]
        repeat (refine awp_seq ?_)
        refine e_eval (by simp only [jA, jO, jN, seval, vint, qP, k4, k5, k6, decide_false, g1, g2, Int.toNat_natCast] <;> with_reducible rfl) (by decide) ?_
        repeat (refine awp_seq ?_)
        refine awp_region ?_
        refine e_take 5 (by simp only [jA, jO, jN, seval, y3, y27, vint, qP, k4, k5, k6, decide_false, g1, g2, Int.toNat_natCast, g1, g2, Int.toNat_natCast] <;> with_reducible rfl) (by decide) ?_
        refine aops_pure (by simp only [jC, jN, seval, vint, qP, k4, k5, k6, decide_false, g1, g2, Int.toNat_natCast, g1, g2, Int.toNat_natCast] <;> with_reducible rfl) (by simp only [jC, jN, seval, vint, qP, k4, k5, k6, decide_false, g1, g2, Int.toNat_natCast, g1, g2, Int.toNat_natCast]) (by decide) Trydgo17 (hlr _) ?_
        refine e_end (by simp only [jA, jO, jN, seval, y40, y43, vint, qP, k4, k5, k6, decide_false, g1, g2, Int.toNat_natCast, g1, g2, Int.toNat_natCast] <;> with_reducible rfl) (by decide) ?_
        repeat (refine awp_seq ?_)
        refine awp_forS (σ := Int) (rs.length) (fun (col : Int) => [(1, vint (k : Int)), (2, .bool u), (6, .optr 0 0), (9, vint (L : Int)), (10, vint col), (40, .slice (rs.map Rn.enc) .none)]) [1, 2, 6, 9, 10, 40] ([]) (fun (col : Int) => [.row [.int .i64 0, .int .i64 0]]) (fun (i : Nat) (col : Int) => 0 ≤ col ∧ col ≤ 2 * i ∧ refP (wrU u) k (rs.drop i) col = refP (wrU u) k rs 0) (0) (_) rfl rfl rfl rfl rfl rfl rfl rfl rfl (by decide) (by decide) (by decide) (fun _ => rfl) ((by omega)) ⟨(by first | rfl | (simp only [jN, seval, vint, qP, k4, k5, k6, decide_false, g1, g2, Int.toNat_natCast] <;> first | done | with_reducible rfl)), (by first | rfl | (simp only [jN, seval, vint, qP, k4, k5, k6, decide_false, g1, g2, Int.toNat_natCast] <;> first | done | with_reducible rfl)), (by first | rfl | (simp only [jN, seval, vint, qP, k4, k5, k6, decide_false, g1, g2, Int.toNat_natCast] <;> first | done | with_reducible rfl)), (by first | rfl | (simp only [jN, seval, vint, qP, k4, k5, k6, decide_false, g1, g2, Int.toNat_natCast] <;> first | done | with_reducible rfl)), (by first | rfl | (simp only [jN, seval, vint, qP, k4, k5, k6, decide_false, g1, g2, Int.toNat_natCast] <;> first | done | with_reducible rfl)), (by first | rfl | (simp only [jN, seval, vint, qP, k4, k5, k6, decide_false, g1, g2, Int.toNat_natCast] <;> first | done | with_reducible rfl)), (by first | rfl | (simp only [jN, seval, vint, qP, k4, k5, k6, decide_false, g1, g2, Int.toNat_natCast] <;> first | done | with_reducible rfl)), (by first | rfl | (simp only [jN, seval, vint, qP, k4, k5, k6, decide_false, g1, g2, Int.toNat_natCast] <;> first | done | with_reducible rfl)), trivial⟩ (by first | rfl | (simp only [jN, seval, vint, qP, k4, k5, k6, decide_false, g1, g2, Int.toNat_natCast] <;> first | done | with_reducible rfl)) (⟨Int.le_refl _, by simp, rfl⟩) (fun _ _ _ => by first | exact Nat.zero_le _ | (simp only [List.length_append]; omega)) ?_ ?_ ?_
        · exact fun i col hg => ⟨by simp only [List.nil_append]; repeat (first | exact hbel_nil _ | exact trivial | exact obel_row_nil _ | (refine HBel.cons ?_ ?_) | (refine obel_row_cons (by first | exact Bel.optr _ _ (by simp only [List.length_append, List.length_cons, List.length_nil]; omega) | exact bel_Rn _ _ | exact Po.bel _ _ | exact bel_ints0 _ _ | exact bel_nil0 _ | exact bel_nil1 _ | exact Bel.int _ _ | exact Bel.bool _ | exact Bel.str _ | exact Bel.nilp | exact Bel.nilfn | exact Bel.optr _ _ (by simp) | exact bel_nil0 _ | exact bel_nil1 _ | exact bel_fn0 _ _ | assumption) ?_)), by repeat (first | exact BelL.nil | refine BelL.cons (by first | exact Bel.optr _ _ (by simp only [List.length_append, List.length_cons, List.length_nil]; omega) | exact bel_Rn _ _ | exact Po.bel _ _ | exact bel_ints0 _ _ | exact bel_nil0 _ | exact bel_nil1 _ | exact Bel.int _ _ | exact Bel.bool _ | exact Bel.str _ | exact Bel.nilp | exact Bel.nilfn | exact Bel.optr _ _ (by simp) | exact bel_nil0 _ | exact bel_nil1 _ | exact bel_fn0 _ _ | assumption) ?_)⟩
        · intro i col hi hg
          obtain ⟨hc1, hc2, hc3⟩ := hg
          have g3 := ix_nat hi
          have g4 := get_enc Rn.enc hi
          obtain ⟨hb1, hb2, hb3, hb4⟩ := hrb rs[i] (List.getElem_mem hi)
          rw [List.drop_eq_getElem_cons hi, refP] at hc3
          obtain ⟨r, hr⟩ : ∃ r, rs[i] = r := ⟨_, rfl⟩
          rw [hr] at g4 hb1 hb2 hb3 hb4 hc3
          have w2 : IntKind.i64.wrap (r.start + r.len) = r.start + r.len := wrap_id (by omega) (by omega)
          have w3 : IntKind.i64.wrap (col + r.units) = col + r.units := wrap_id (by omega) (by omega)
          have w4 : IntKind.i64.wrap (col + 1) = col + 1 := wrap_id (by omega) (by omega)
          repeat (refine awp_seq ?_)
          refine e_eval (by simp only [jA, jO, jN, seval, y40, y43, vint, qP, k4, k5, k6, decide_false, g1, g2, Int.toNat_natCast, g3, g4, Int.toNat_natCast, w2, w3, w4] <;> with_reducible rfl) (by decide) ?_
          repeat (refine awp_seq ?_)
          refine e_eval (by simp only [jA, jO, jN, seval, y3, y43, vint, qP, k4, k5, k6, decide_false, g1, g2, Int.toNat_natCast, g3, g4, Int.toNat_natCast, w2, w3, w4] <;> with_reducible rfl) (by decide) ?_
          repeat (refine awp_seq ?_)
          refine awp_cond rfl (by simp only [jN, seval, vint, qP, k4, k5, k6, decide_false, g1, g2, Int.toNat_natCast, g3, g4, Int.toNat_natCast, w2, w3, w4] <;> with_reducible rfl) (fun bt49 => ?_) (fun bt49 => ?_)
          ·
            rw [if_pos (of_decide_eq_true bt49)] at hc3
            have hv : posT (wU u) s k = (⟨(L : Nat), col⟩, 0) := by
              rw [← hc3] at hrp
              cases hct : colT (wU u) (s.drop v) (k - v) 0 with
              | none => rw [hct] at hrp; cases hrp
              | some c => rw [hct] at hrp hpo; rw [hpo]; cases hrp; rfl
            repeat (refine awp_seq ?_)
            refine awp_exit ?_
            simp only [thenQ, blockQ, reduceIte, Nat.reduceEqDiff, Nat.succ_ne_self, if_true, if_false]
            repeat (refine awp_seq ?_)
            refine e_eval (by simp only [jA, jO, jN, seval, y23, vint, qP, k4, k5, k6, decide_false, g1, g2, Int.toNat_natCast, g3, g4, Int.toNat_natCast, w2, w3, w4] <;> with_reducible rfl) (by decide) ?_
            repeat (refine awp_seq ?_)
            refine awp_ret ⟨.inr rfl, _, (ares_two (.cell 6 23) (.tmp 7) rfl (ares_cell1 Trydti23 (by decide) (by simp only [jL, jN, seval, vint, qP, k4, k5, k6, decide_false, g1, g2, Int.toNat_natCast, g3, g4, Int.toNat_natCast, w2, w3, w4] <;> with_reducible rfl)) (ares_tmp1 (by decide))), ?_⟩
            simp only [hv]
            simp only [jN, seval, vint, qP]
            try rfl
          ·
            rw [if_neg (of_decide_eq_false bt49)] at hc3
            repeat (refine awp_seq ?_)
            refine awp_skip ?_
            repeat (refine awp_seq ?_)
            refine e_eval (by simp only [jA, jO, jN, seval, y3, y43, vint, qP, k4, k5, k6, decide_false, g1, g2, Int.toNat_natCast, g3, g4, Int.toNat_natCast, w2, w3, w4] <;> with_reducible rfl) (by decide) ?_
            repeat (refine awp_seq ?_)
            refine awp_cond rfl (by simp only [jN, seval, vint, qP, k4, k5, k6, decide_false, g1, g2, Int.toNat_natCast, g3, g4, Int.toNat_natCast, w2, w3, w4] <;> with_reducible rfl) (fun bt56 => ?_) (fun bt56 => ?_)
            ·
              rw [if_pos (of_decide_eq_true bt56)] at hc3
              have hv : posT (wU u) s k = (⟨0, 0⟩, 3) := by
                rw [← hc3] at hrp
                cases hct : colT (wU u) (s.drop v) (k - v) 0 with
                | none => rw [hct] at hpo; exact hpo
                | some c => rw [hct] at hrp; cases hrp
              repeat (refine awp_seq ?_)
              refine e_eval (by simp only [jA, jO, jN, seval, y23, vint, qP, k4, k5, k6, decide_false, g1, g2, Int.toNat_natCast, g3, g4, Int.toNat_natCast, w2, w3, w4] <;> with_reducible rfl) (by decide) ?_
              repeat (refine awp_seq ?_)
              refine awp_ret ⟨.inr rfl, _, (ares_two (.cell 6 23) (.tmp 7) rfl (ares_cell1 Trydti23 (by decide) (by simp only [jL, jN, seval, vint, qP, k4, k5, k6, decide_false, g1, g2, Int.toNat_natCast, g3, g4, Int.toNat_natCast, w2, w3, w4] <;> with_reducible rfl)) (ares_tmp1 (by decide))), ?_⟩
              simp only [hv]
              simp only [jN, seval, vint, qP]
              try rfl
            ·
              rw [if_neg (of_decide_eq_false bt56)] at hc3
              repeat (refine awp_seq ?_)
              refine awp_skip ?_
              repeat (refine awp_seq ?_)
              refine e_eval (by simp only [jA, jO, jN, seval, vint, qP, k4, k5, k6, decide_false, g1, g2, Int.toNat_natCast, g3, g4, Int.toNat_natCast, w2, w3, w4] <;> with_reducible rfl) (by decide) ?_
              repeat (refine awp_seq ?_)
              refine awp_cond rfl (by simp only [jN, seval, vint, qP, k4, k5, k6, decide_false, g1, g2, Int.toNat_natCast, g3, g4, Int.toNat_natCast, w2, w3, w4] <;> with_reducible rfl) (fun bt58 => ?_) (fun bt58 => ?_)
              ·
                have hw : wrU u r = r.units := by unfold wrU; rw [bt58]; rfl
                rw [hw] at hc3
                refine awp_sel [0, 1, 2, 6, 8, 9, 10, 12, 40, 41, 42] (by simp only [jN, seval, vint, qP, k4, k5, k6, decide_false, g1, g2, Int.toNat_natCast, g3, g4, Int.toNat_natCast, w2, w3, w4] <;> with_reducible rfl) ?_
                repeat (refine awp_seq ?_)
                refine e_eval (by simp only [jA, jO, jN, seval, y3, y43, vint, qP, k4, k5, k6, decide_false, g1, g2, Int.toNat_natCast, g3, g4, Int.toNat_natCast, w2, w3, w4] <;> with_reducible rfl) (by decide) ?_
                first
                  | exact ⟨⟨rfl, rfl, trivial⟩, col + r.units, _, ⟨rfl, rfl, rfl, rfl, rfl, rfl, trivial⟩, rfl, by omega, by omega, hc3⟩
                  | exact ⟨⟨rfl, rfl, trivial⟩, col + 1, _, ⟨rfl, rfl, rfl, rfl, rfl, rfl, trivial⟩, rfl, by omega, by omega, hc3⟩
              ·
                have hw : wrU u r = 1 := by unfold wrU; rw [bt58]; rfl
                rw [hw] at hc3
                refine awp_sel [0, 1, 2, 6, 8, 9, 10, 40, 41, 42] (by simp only [jN, seval, vint, qP, k4, k5, k6, decide_false, g1, g2, Int.toNat_natCast, g3, g4, Int.toNat_natCast, w2, w3, w4] <;> with_reducible rfl) ?_
                repeat (refine awp_seq ?_)
                refine e_eval (by simp only [jA, jO, jN, seval, y3, vint, qP, k4, k5, k6, decide_false, g1, g2, Int.toNat_natCast, g3, g4, Int.toNat_natCast, w2, w3, w4] <;> with_reducible rfl) (by decide) ?_
                first
                  | exact ⟨⟨rfl, rfl, trivial⟩, col + r.units, _, ⟨rfl, rfl, rfl, rfl, rfl, rfl, trivial⟩, rfl, by omega, by omega, hc3⟩
                  | exact ⟨⟨rfl, rfl, trivial⟩, col + 1, _, ⟨rfl, rfl, rfl, rfl, rfl, rfl, trivial⟩, rfl, by omega, by omega, hc3⟩
        · intro col hg
          obtain ⟨hc1, hc2, hc3⟩ := hg
          rw [List.drop_length, refP] at hc3
          have hv : posT (wU u) s k = (⟨(L : Nat), col⟩, 0) := by
            rw [← hc3] at hrp
            cases hct : colT (wU u) (s.drop v) (k - v) 0 with
            | none => rw [hct] at hrp; cases hrp
            | some c => rw [hct] at hrp hpo; rw [hpo]; cases hrp; rfl
          repeat (refine awp_seq ?_)
          refine e_eval (by simp only [jA, jO, jN, seval, y23, vint, qP, k4, k5, k6, decide_false, g1, g2, Int.toNat_natCast] <;> with_reducible rfl) (by decide) ?_
          repeat (refine awp_seq ?_)
          refine awp_ret ⟨.inr rfl, _, (ares_two (.cell 6 23) (.tmp 7) rfl (ares_cell1 Trydti23 (by decide) (by simp only [jL, jN, seval, vint, qP, k4, k5, k6, decide_false, g1, g2, Int.toNat_natCast] <;> with_reducible rfl)) (ares_tmp1 (by decide))), ?_⟩
          simp only [hv]
          simp only [jN, seval, vint, qP]
          try rfl

end Go.Abs
set_option maxRecDepth 4000
namespace Go.Abs
open Go.Proofs

theorem offOf_c (s : List UInt8) (hs : s.length ≤ 300) (p : Po) (u : Bool) : PC Tryd.prog 13 [.str s, p.enc, .bool u] (.tup [vint (offR (wU u) s p).1, vint (offR (wU u) s p).2]) := by
  have em : maxLen = 9223372036854775807 := by decide
  obtain ⟨ln, pc⟩ := p
  obtain ⟨R, hR⟩ : ∃ R, offR (wU u) s ⟨ln, pc⟩ = R := ⟨_, rfl⟩
  rw [hR]
  have hcs : ln < 0 ∨ ln ≥ (startsI s).length ∨ ∃ k : Nat, ln = k ∧ k < (startsI s).length := by
    by_cases h1 : ln < 0
    · exact .inl h1
    · by_cases h2 : ln ≥ (startsI s).length
      · exact .inr (.inl h2)
      · exact .inr (.inr ⟨ln.toNat, by omega, by omega⟩)
  have hsl := startsI_len s
  have hls := lsR_c s hs
  refine pc_of (N := 79) Tryd.func13 rfl rfl (by simp) (by simp [Bel.int, Bel.str, Bel.bool, Po.bel, bel_ints0]) (.tup _ (by simp [Bel.int])) ?_
  repeat (refine awp_seq ?_)
  refine e_eval (by simp only [jA, jO, jN, seval, y23, vint, qP] <;> with_reducible rfl) (by decide) ?_
  repeat (refine awp_seq ?_)
  refine awp_region ?_
  refine e_take 1 (by simp only [jA, jO, jN, seval, vint, qP] <;> with_reducible rfl) (by decide) ?_
  refine aops_pure (by simp only [jC, jN, seval, vint, qP] <;> with_reducible rfl) (by simp only [jC, jN, seval, vint, qP]) (by decide) Trydgo8 (hls _) ?_
  refine e_end (by simp only [jA, jO, jN, seval, vint, qP] <;> with_reducible rfl) (by decide) ?_
  rcases hcs with ho | ho | ⟨k, hlk, hkl⟩
  ·
    have hv : R = (0, 5) := by rw [← hR]; unfold offR; rw [if_pos (.inl ho)]
    have o1 : (ln < 0) = True := by simp [ho]
    repeat (refine awp_seq ?_)
    refine awp_region ?_
    refine aops_gstart ?_
    refine g_take 4 (by simp only [jG, jO, jN, seval, y3, y23, vint, qP, o1, decide_true] <;> with_reducible rfl) (by decide) ?_
    refine aops_gskip (r := .tup []) (by simp only [jE, jN, seval, vint, qP, o1, decide_true] <;> with_reducible rfl) ?_
    refine aops_gskip (r := .tup []) (by simp only [jE, jN, seval, vint, qP, o1, decide_true] <;> with_reducible rfl) ?_
    refine aops_gskip (r := .tup []) (by simp only [jE, jN, seval, vint, qP, o1, decide_true] <;> with_reducible rfl) ?_
    refine aops_gskip (r := .tup []) (by simp only [jE, jN, seval, vint, qP, o1, decide_true] <;> with_reducible rfl) ?_
    refine aops_gskip (r := .tup []) (by simp only [jE, jN, seval, vint, qP, o1, decide_true] <;> with_reducible rfl) ?_
    refine g_end (by simp only [jG, jO, jN, seval, vint, qP, o1, decide_true] <;> with_reducible rfl) (by decide) (by repeat (first | exact Fin.base _ | with_reducible apply Fin.keep | apply Fin.drop)) ?_
    repeat (refine awp_seq ?_)
    refine awp_cond_true rfl (by simp only [jN, seval, vint, qP, o1, decide_true] <;> with_reducible rfl) ?_
    refine awp_sel [] (by simp only [jN, seval, vint, qP, o1, decide_true] <;> with_reducible rfl) ?_
    repeat (refine awp_seq ?_)
    refine e_eval (by simp only [jA, jO, jN, seval, vint, qP, o1, decide_true] <;> with_reducible rfl) (by decide) ?_
    repeat (refine awp_seq ?_)
    refine awp_ret ⟨.inr rfl, _, (ares_two (.tmp 6) (.tmp 7) rfl (ares_tmp1 (by decide)) (ares_tmp1 (by decide))), ?_⟩
    first | rw [hv] | rw [← hc3]
    simp only [jN, seval, vint, qP]
    try rfl
  ·
    have hv : R = (0, 5) := by rw [← hR]; unfold offR; rw [if_pos (.inr ho)]
    have o1 : (ln < 0) = False := by simp; omega
    have o3 : ((((startsI s).length : Nat) : Int) ≤ ln) = True := by simp; omega
    repeat (refine awp_seq ?_)
    refine g_eval (by simp only [jG, jO, jN, seval, y3, y23, y27, vint, qP, o1, o3, decide_true, decide_false] <;> with_reducible rfl) (by decide) (by repeat (first | exact Fin.base _ | with_reducible apply Fin.keep | apply Fin.drop)) ?_
    repeat (refine awp_seq ?_)
    refine awp_cond_true rfl (by simp only [jN, seval, vint, qP, o1, o3, decide_true, decide_false] <;> with_reducible rfl) ?_
    refine awp_sel [] (by simp only [jN, seval, vint, qP, o1, o3, decide_true, decide_false] <;> with_reducible rfl) ?_
    repeat (refine awp_seq ?_)
    refine e_eval (by simp only [jA, jO, jN, seval, vint, qP, o1, o3, decide_true, decide_false] <;> with_reducible rfl) (by decide) ?_
    repeat (refine awp_seq ?_)
    refine awp_ret ⟨.inr rfl, _, (ares_two (.tmp 6) (.tmp 7) rfl (ares_tmp1 (by decide)) (ares_tmp1 (by decide))), ?_⟩
    first | rw [hv] | rw [← hc3]
    simp only [jN, seval, vint, qP]
    try rfl
  ·
    have o1 : (ln < 0) = False := by simp; omega
    have o3 : ((((startsI s).length : Nat) : Int) ≤ ln) = False := by simp; omega
    have o4 : ((0 : Int) ≤ ln ∧ ln < (((startsI s).length : Nat) : Int)) = True := by simp; omega
    have o5 : ln.toNat = k := by omega
    obtain ⟨st, hst⟩ : ∃ st, (startsT s).getD k 0 = st := ⟨_, rfl⟩
    obtain ⟨g2, hsl2⟩ := starts_get hkl
    rw [hst] at g2 hsl2
    have hRe : offT (wU u) pc (s.drop st) st 0 = R := by rw [← hR]; unfold offR; simp only; rw [if_neg (by omega), o5, hst]
    rw [← refO_off] at hRe
    clear hR
    obtain ⟨rs, hrs⟩ : ∃ rs, rnsT st (lineL (s.drop st)) = rs := ⟨_, rfl⟩
    have hlr := lr_c s hs st hsl2
    have hlnl := line_len (s.drop st)
    rw [List.length_drop] at hlnl
    have hrl : rs.length ≤ 300 := by rw [← hrs]; have := rns_len _ st (lineL (s.drop st)) (Nat.le_refl _); omega
    have hrb : ∀ r ∈ rs, (0 : Int) ≤ r.start ∧ 1 ≤ r.len ∧ r.start + r.len ≤ 300 ∧ (r.units = 1 ∨ r.units = 2) := fun r hr => by
      rw [← hrs] at hr
      have := rns_bd _ st _ (Nat.le_refl _) r hr
      omega
    rw [hrs] at hlr hRe
    repeat (refine awp_seq ?_)
    refine g_eval (by simp only [jG, jO, jN, seval, y3, y23, y27, vint, qP, o1, o3, o4, o5, g2, decide_false] <;> with_reducible rfl) (by decide) (by repeat (first | exact Fin.base _ | with_reducible apply Fin.keep | apply Fin.drop)) ?_
    repeat (refine awp_seq ?_)
    refine awp_cond_false rfl (by simp only [jN, seval, vint, qP, o1, o3, o4, o5, g2, decide_false] <;> with_reducible rfl) ?_
    repeat (refine awp_seq ?_)
    refine awp_skip ?_
    refine awp_sel [0, 2, 4, 8] (by simp only [jN, seval, vint, qP, o1, o3, o4, o5, g2, decide_false] <;> with_reducible rfl) ?_
    repeat (refine awp_seq ?_)
    refine dp_draw (by kernel_rfl) ?_
    refine dp_end (by simp only [jP, jO, jN, seval, y3, y23, y27, vint, qP, o1, o3, o4, o5, g2, decide_false] <;> with_reducible rfl) (by decide) (by repeat (first | exact Fin.base _ | with_reducible apply Fin.keep | apply Fin.drop)) ?_
    repeat (refine awp_seq ?_)
    refine awp_region ?_
    refine e_take 6 (by simp only [jA, jO, jN, seval, y3, y23, y27, vint, qP, o1, o3, o4, o5, g2, decide_false] <;> with_reducible rfl) (by decide) ?_
    refine aops_pure (by simp only [jC, jN, seval, vint, qP, o1, o3, o4, o5, g2, decide_false] <;> with_reducible rfl) (by simp only [jC, jN, seval, vint, qP, o1, o3, o4, o5, g2, decide_false]) (by decide) Trydgo17 (hlr _) ?_
    refine e_end (by simp only [jA, jO, jN, seval, y40, y43, vint, qP, o1, o3, o4, o5, g2, decide_false] <;> with_reducible rfl) (by decide) ?_
    repeat (refine awp_seq ?_)
    refine awp_forS (σ := Int × Int) (rs.length) (fun (q : Int × Int) => [(2, .bool u), (4, .optr 0 0), (9, vint q.1), (10, vint q.2), (36, .slice (rs.map Rn.enc) .none)]) [2, 4, 9, 10, 36] ([]) (fun (q : Int × Int) => [.row [.int .i64 ln, .int .i64 pc]]) (fun (i : Nat) (q : Int × Int) => 0 ≤ q.1 ∧ q.1 ≤ 2 * i ∧ refO (wrU u) (twoU u) pc (rs.drop i) q.1 q.2 = R) ((0, (st : Int))) (_) rfl rfl rfl rfl rfl rfl rfl rfl rfl (by decide) (by decide) (by decide) (fun _ => rfl) ((by omega)) ⟨(by first | rfl | (simp only [jN, seval, vint, qP, o1, o3, o4, o5, g2, decide_false] <;> first | done | with_reducible rfl)), (by first | rfl | (simp only [jN, seval, vint, qP, o1, o3, o4, o5, g2, decide_false] <;> first | done | with_reducible rfl)), (by first | rfl | (simp only [jN, seval, vint, qP, o1, o3, o4, o5, g2, decide_false] <;> first | done | with_reducible rfl)), (by first | rfl | (simp only [jN, seval, vint, qP, o1, o3, o4, o5, g2, decide_false] <;> first | done | with_reducible rfl)), (by first | rfl | (simp only [jN, seval, vint, qP, o1, o3, o4, o5, g2, decide_false] <;> first | done | with_reducible rfl)), (by first | rfl | (simp only [jN, seval, vint, qP, o1, o3, o4, o5, g2, decide_false] <;> first | done | with_reducible rfl)), (by first | rfl | (simp only [jN, seval, vint, qP, o1, o3, o4, o5, g2, decide_false] <;> first | done | with_reducible rfl)), trivial⟩ (by first | rfl | (simp only [jN, seval, vint, qP, o1, o3, o4, o5, g2, decide_false] <;> first | done | with_reducible rfl)) (⟨Int.le_refl _, by simp, hRe⟩) (fun _ _ _ => by first | exact Nat.zero_le _ | (simp only [List.length_append]; omega)) ?_ ?_ ?_
    · exact fun i q hg => ⟨by simp only [List.nil_append]; repeat (first | exact hbel_nil _ | exact trivial | exact obel_row_nil _ | (refine HBel.cons ?_ ?_) | (refine obel_row_cons (by first | exact Bel.optr _ _ (by simp only [List.length_append, List.length_cons, List.length_nil]; omega) | exact bel_Rn _ _ | exact Po.bel _ _ | exact bel_ints0 _ _ | exact bel_nil0 _ | exact bel_nil1 _ | exact Bel.int _ _ | exact Bel.bool _ | exact Bel.str _ | exact Bel.nilp | exact Bel.nilfn | exact Bel.optr _ _ (by simp) | exact bel_nil0 _ | exact bel_nil1 _ | exact bel_fn0 _ _ | assumption) ?_)), by repeat (first | exact BelL.nil | refine BelL.cons (by first | exact Bel.optr _ _ (by simp only [List.length_append, List.length_cons, List.length_nil]; omega) | exact bel_Rn _ _ | exact Po.bel _ _ | exact bel_ints0 _ _ | exact bel_nil0 _ | exact bel_nil1 _ | exact Bel.int _ _ | exact Bel.bool _ | exact Bel.str _ | exact Bel.nilp | exact Bel.nilfn | exact Bel.optr _ _ (by simp) | exact bel_nil0 _ | exact bel_nil1 _ | exact bel_fn0 _ _ | assumption) ?_)⟩
    · intro i q hi hg
      obtain ⟨col, e⟩ := q
      obtain ⟨hc1, hc2, hc3⟩ := hg
      simp only at hc1 hc2 hc3
      have g3 := ix_nat hi
      have g4 := get_enc Rn.enc hi
      obtain ⟨hb1, hb2, hb3, hb4⟩ := hrb rs[i] (List.getElem_mem hi)
      rw [List.drop_eq_getElem_cons hi, refO] at hc3
      obtain ⟨r, hr⟩ : ∃ r, rs[i] = r := ⟨_, rfl⟩
      rw [hr] at g4 hb1 hb2 hb3 hb4 hc3
      have w2 : IntKind.i64.wrap (r.start + r.len) = r.start + r.len := wrap_id (by omega) (by omega)
      have w3 : IntKind.i64.wrap (col + r.units) = col + r.units := wrap_id (by omega) (by omega)
      have w4 : IntKind.i64.wrap (col + 1) = col + 1 := wrap_id (by omega) (by omega)
      have hcu : u = false ∨ (u = true ∧ r.units = 2) ∨ (u = true ∧ ¬ r.units = 2) := by
        cases u
        · exact .inl rfl
        · by_cases h : r.units = 2
          · exact .inr (.inl ⟨rfl, h⟩)
          · exact .inr (.inr ⟨rfl, h⟩)
      repeat (refine awp_seq ?_)
      refine e_eval (by simp only [jA, jO, jN, seval, y40, y43, vint, qP, o1, o3, o4, o5, g2, decide_false, g3, g4, Int.toNat_natCast, w2, w3, w4] <;> with_reducible rfl) (by decide) ?_
      repeat (refine awp_seq ?_)
      refine e_eval (by simp only [jA, jO, jN, seval, y3, y23, vint, qP, o1, o3, o4, o5, g2, decide_false, g3, g4, Int.toNat_natCast, w2, w3, w4] <;> with_reducible rfl) (by decide) ?_
      repeat (refine awp_seq ?_)
      refine awp_cond rfl (by simp only [jN, seval, vint, qP, o1, o3, o4, o5, g2, decide_false, g3, g4, Int.toNat_natCast, w2, w3, w4] <;> with_reducible rfl) (fun bt45 => ?_) (fun bt45 => ?_)
      ·
        rw [if_pos (of_decide_eq_true bt45)] at hc3
        repeat (refine awp_seq ?_)
        refine e_eval (by simp only [jA, jO, jN, seval, y3, y43, vint, qP, o1, o3, o4, o5, g2, decide_false, g3, g4, Int.toNat_natCast, w2, w3, w4] <;> with_reducible rfl) (by decide) ?_
        repeat (refine awp_seq ?_)
        refine awp_ret ⟨.inr rfl, _, (ares_two (.tmp 6) (.tmp 7) rfl (ares_tmp1 (by decide)) (ares_tmp1 (by decide))), ?_⟩
        first | rw [hv] | rw [← hc3]
        simp only [jN, seval, vint, qP]
        try rfl
      ·
        rw [if_neg (of_decide_eq_false bt45)] at hc3
        repeat (refine awp_seq ?_)
        refine awp_skip ?_
        rcases hcu with rfl | ⟨rfl, hu2⟩ | ⟨rfl, hu2⟩
        ·
          rw [if_neg (by rintro ⟨q, _⟩; cases q), show wrU false r = 1 from rfl] at hc3
          repeat (refine awp_seq ?_)
          refine awp_region ?_
          refine aops_gstart ?_
          refine g_take 2 (by simp only [jG, jO, jN, seval, vint, qP, o1, o3, o4, o5, g2, decide_false, g3, g4, Int.toNat_natCast, w2, w3, w4] <;> with_reducible rfl) (by decide) ?_
          refine aops_gskip (r := .tup []) (by simp only [jE, jN, seval, vint, qP, o1, o3, o4, o5, g2, decide_false, g3, g4, Int.toNat_natCast, w2, w3, w4] <;> with_reducible rfl) ?_
          refine aops_gskip (r := .tup []) (by simp only [jE, jN, seval, vint, qP, o1, o3, o4, o5, g2, decide_false, g3, g4, Int.toNat_natCast, w2, w3, w4] <;> with_reducible rfl) ?_
          refine aops_gskip (r := .tup []) (by simp only [jE, jN, seval, vint, qP, o1, o3, o4, o5, g2, decide_false, g3, g4, Int.toNat_natCast, w2, w3, w4] <;> with_reducible rfl) ?_
          refine g_take 2 (by simp only [jG, jO, jN, seval, vint, qP, o1, o3, o4, o5, g2, decide_false, g3, g4, Int.toNat_natCast, w2, w3, w4] <;> with_reducible rfl) (by decide) ?_
          refine aops_gskip (r := .tup []) (by simp only [jE, jN, seval, vint, qP, o1, o3, o4, o5, g2, decide_false, g3, g4, Int.toNat_natCast, w2, w3, w4] <;> with_reducible rfl) ?_
          refine aops_gskip (r := .tup []) (by simp only [jE, jN, seval, vint, qP, o1, o3, o4, o5, g2, decide_false, g3, g4, Int.toNat_natCast, w2, w3, w4] <;> with_reducible rfl) ?_
          refine aops_gskip (r := .tup []) (by simp only [jE, jN, seval, vint, qP, o1, o3, o4, o5, g2, decide_false, g3, g4, Int.toNat_natCast, w2, w3, w4] <;> with_reducible rfl) ?_
          refine aops_gskip (r := .tup []) (by simp only [jE, jN, seval, vint, qP, o1, o3, o4, o5, g2, decide_false, g3, g4, Int.toNat_natCast, w2, w3, w4] <;> with_reducible rfl) ?_
          refine aops_gskip (r := .tup []) (by simp only [jE, jN, seval, vint, qP, o1, o3, o4, o5, g2, decide_false, g3, g4, Int.toNat_natCast, w2, w3, w4] <;> with_reducible rfl) ?_
          refine g_end (by simp only [jG, jO, jN, seval, vint, qP, o1, o3, o4, o5, g2, decide_false, g3, g4, Int.toNat_natCast, w2, w3, w4] <;> with_reducible rfl) (by decide) (by repeat (first | exact Fin.base _ | with_reducible apply Fin.keep | apply Fin.drop)) ?_
          repeat (refine awp_seq ?_)
          refine awp_cond_false rfl (by simp only [jN, seval, vint, qP, o1, o3, o4, o5, g2, decide_false, g3, g4, Int.toNat_natCast, w2, w3, w4] <;> with_reducible rfl) ?_
          repeat (refine awp_seq ?_)
          refine awp_skip ?_
          refine awp_sel [2, 4, 9, 10, 12, 36, 37, 38] (by simp only [jN, seval, vint, qP, o1, o3, o4, o5, g2, decide_false, g3, g4, Int.toNat_natCast, w2, w3, w4] <;> with_reducible rfl) ?_
          repeat (refine awp_seq ?_)
          refine e_eval (by simp only [jA, jO, jN, seval, vint, qP, o1, o3, o4, o5, g2, decide_false, g3, g4, Int.toNat_natCast, w2, w3, w4] <;> with_reducible rfl) (by decide) ?_
          repeat (refine awp_seq ?_)
          refine awp_cond_false rfl (by simp only [jN, seval, vint, qP, o1, o3, o4, o5, g2, decide_false, g3, g4, Int.toNat_natCast, w2, w3, w4] <;> with_reducible rfl) ?_
          repeat (refine awp_seq ?_)
          refine e_eval (by simp only [jA, jO, jN, seval, y3, vint, qP, o1, o3, o4, o5, g2, decide_false, g3, g4, Int.toNat_natCast, w2, w3, w4] <;> with_reducible rfl) (by decide) ?_
          repeat (refine awp_seq ?_)
          refine e_eval (by simp only [jA, jO, jN, seval, y3, y43, vint, qP, o1, o3, o4, o5, g2, decide_false, g3, g4, Int.toNat_natCast, w2, w3, w4] <;> with_reducible rfl) (by decide) ?_
          first
            | exact ⟨⟨rfl, rfl, trivial⟩, (col + r.units, r.start + r.len), _, ⟨rfl, rfl, rfl, rfl, rfl, trivial⟩, rfl, by show (0 : Int) ≤ col + r.units; omega, by show col + r.units ≤ _; omega, hc3⟩
            | exact ⟨⟨rfl, rfl, trivial⟩, (col + 1, r.start + r.len), _, ⟨rfl, rfl, rfl, rfl, rfl, trivial⟩, rfl, by show (0 : Int) ≤ col + 1; omega, by show col + 1 ≤ _; omega, hc3⟩
        ·
          have ht2 : twoU true r = true := by unfold twoU; rw [hu2]; rfl
          rw [ht2] at hc3
          have d2 : decide (r.units = 2) = true := by simp [hu2]
          repeat (refine awp_seq ?_)
          refine g_eval (by simp only [jG, jO, jN, seval, y3, y23, y43, vint, qP, o1, o3, o4, o5, g2, decide_false, g3, g4, Int.toNat_natCast, w2, w3, w4, d2] <;> with_reducible rfl) (by decide) (by repeat (first | exact Fin.base _ | with_reducible apply Fin.keep | apply Fin.drop)) ?_
          repeat (refine awp_seq ?_)
          refine awp_cond rfl (by simp only [jN, seval, vint, qP, o1, o3, o4, o5, g2, decide_false, g3, g4, Int.toNat_natCast, w2, w3, w4, d2] <;> with_reducible rfl) (fun bt60 => ?_) (fun bt60 => ?_)
          ·
            rw [if_pos ⟨rfl, of_decide_eq_true bt60⟩] at hc3
            refine awp_sel [2, 4, 9, 10, 36, 37, 38] (by simp only [jN, seval, vint, qP, o1, o3, o4, o5, g2, decide_false, g3, g4, Int.toNat_natCast, w2, w3, w4, d2] <;> with_reducible rfl) ?_
            repeat (refine awp_seq ?_)
            refine e_eval (by simp only [jA, jO, jN, seval, vint, qP, o1, o3, o4, o5, g2, decide_false, g3, g4, Int.toNat_natCast, w2, w3, w4, d2] <;> with_reducible rfl) (by decide) ?_
            repeat (refine awp_seq ?_)
            refine awp_ret ⟨.inr rfl, _, (ares_two (.tmp 6) (.tmp 7) rfl (ares_tmp1 (by decide)) (ares_tmp1 (by decide))), ?_⟩
            first | rw [hv] | rw [← hc3]
            simp only [jN, seval, vint, qP]
            try rfl
          ·
            rw [if_neg (fun q => of_decide_eq_false bt60 q.2), show wrU true r = r.units from rfl] at hc3
            repeat (refine awp_seq ?_)
            refine awp_skip ?_
            refine awp_sel [2, 4, 9, 10, 12, 36, 37, 38] (by simp only [jN, seval, vint, qP, o1, o3, o4, o5, g2, decide_false, g3, g4, Int.toNat_natCast, w2, w3, w4, d2] <;> with_reducible rfl) ?_
            repeat (refine awp_seq ?_)
            refine e_eval (by simp only [jA, jO, jN, seval, vint, qP, o1, o3, o4, o5, g2, decide_false, g3, g4, Int.toNat_natCast, w2, w3, w4, d2] <;> with_reducible rfl) (by decide) ?_
            repeat (refine awp_seq ?_)
            refine awp_cond_true rfl (by simp only [jN, seval, vint, qP, o1, o3, o4, o5, g2, decide_false, g3, g4, Int.toNat_natCast, w2, w3, w4, d2] <;> with_reducible rfl) ?_
            repeat (refine awp_seq ?_)
            refine e_eval (by simp only [jA, jO, jN, seval, y3, y43, vint, qP, o1, o3, o4, o5, g2, decide_false, g3, g4, Int.toNat_natCast, w2, w3, w4, d2] <;> with_reducible rfl) (by decide) ?_
            repeat (refine awp_seq ?_)
            refine e_eval (by simp only [jA, jO, jN, seval, y3, y43, vint, qP, o1, o3, o4, o5, g2, decide_false, g3, g4, Int.toNat_natCast, w2, w3, w4, d2] <;> with_reducible rfl) (by decide) ?_
            first
              | exact ⟨⟨rfl, rfl, trivial⟩, (col + r.units, r.start + r.len), _, ⟨rfl, rfl, rfl, rfl, rfl, trivial⟩, rfl, by show (0 : Int) ≤ col + r.units; omega, by show col + r.units ≤ _; omega, hc3⟩
              | exact ⟨⟨rfl, rfl, trivial⟩, (col + 1, r.start + r.len), _, ⟨rfl, rfl, rfl, rfl, rfl, trivial⟩, rfl, by show (0 : Int) ≤ col + 1; omega, by show col + 1 ≤ _; omega, hc3⟩
        ·
          have ht2 : twoU true r = false := by unfold twoU; simp [hu2]
          rw [ht2, if_neg (by rintro ⟨q, _⟩; cases q), show wrU true r = r.units from rfl] at hc3
          have d2 : decide (r.units = 2) = false := by simp [hu2]
          repeat (refine awp_seq ?_)
          refine awp_region ?_
          refine aops_gstart ?_
          refine g_take 7 (by simp only [jG, jO, jN, seval, y3, y43, vint, qP, o1, o3, o4, o5, g2, decide_false, g3, g4, Int.toNat_natCast, w2, w3, w4, d2] <;> with_reducible rfl) (by decide) ?_
          refine aops_gskip (r := .tup []) (by simp only [jE, jN, seval, vint, qP, o1, o3, o4, o5, g2, decide_false, g3, g4, Int.toNat_natCast, w2, w3, w4, d2] <;> with_reducible rfl) ?_
          refine aops_gskip (r := .tup []) (by simp only [jE, jN, seval, vint, qP, o1, o3, o4, o5, g2, decide_false, g3, g4, Int.toNat_natCast, w2, w3, w4, d2] <;> with_reducible rfl) ?_
          refine aops_gskip (r := .tup []) (by simp only [jE, jN, seval, vint, qP, o1, o3, o4, o5, g2, decide_false, g3, g4, Int.toNat_natCast, w2, w3, w4, d2] <;> with_reducible rfl) ?_
          refine aops_gskip (r := .tup []) (by simp only [jE, jN, seval, vint, qP, o1, o3, o4, o5, g2, decide_false, g3, g4, Int.toNat_natCast, w2, w3, w4, d2] <;> with_reducible rfl) ?_
          refine aops_gskip (r := .tup []) (by simp only [jE, jN, seval, vint, qP, o1, o3, o4, o5, g2, decide_false, g3, g4, Int.toNat_natCast, w2, w3, w4, d2] <;> with_reducible rfl) ?_
          refine g_end (by simp only [jG, jO, jN, seval, vint, qP, o1, o3, o4, o5, g2, decide_false, g3, g4, Int.toNat_natCast, w2, w3, w4, d2] <;> with_reducible rfl) (by decide) (by repeat (first | exact Fin.base _ | with_reducible apply Fin.keep | apply Fin.drop)) ?_
          repeat (refine awp_seq ?_)
          refine awp_cond_false rfl (by simp only [jN, seval, vint, qP, o1, o3, o4, o5, g2, decide_false, g3, g4, Int.toNat_natCast, w2, w3, w4, d2] <;> with_reducible rfl) ?_
          repeat (refine awp_seq ?_)
          refine awp_skip ?_
          refine awp_sel [2, 4, 9, 10, 12, 36, 37, 38] (by simp only [jN, seval, vint, qP, o1, o3, o4, o5, g2, decide_false, g3, g4, Int.toNat_natCast, w2, w3, w4, d2] <;> with_reducible rfl) ?_
          repeat (refine awp_seq ?_)
          refine e_eval (by simp only [jA, jO, jN, seval, vint, qP, o1, o3, o4, o5, g2, decide_false, g3, g4, Int.toNat_natCast, w2, w3, w4, d2] <;> with_reducible rfl) (by decide) ?_
          repeat (refine awp_seq ?_)
          refine awp_cond_true rfl (by simp only [jN, seval, vint, qP, o1, o3, o4, o5, g2, decide_false, g3, g4, Int.toNat_natCast, w2, w3, w4, d2] <;> with_reducible rfl) ?_
          repeat (refine awp_seq ?_)
          refine e_eval (by simp only [jA, jO, jN, seval, y3, y43, vint, qP, o1, o3, o4, o5, g2, decide_false, g3, g4, Int.toNat_natCast, w2, w3, w4, d2] <;> with_reducible rfl) (by decide) ?_
          repeat (refine awp_seq ?_)
          refine e_eval (by simp only [jA, jO, jN, seval, y3, y43, vint, qP, o1, o3, o4, o5, g2, decide_false, g3, g4, Int.toNat_natCast, w2, w3, w4, d2] <;> with_reducible rfl) (by decide) ?_
          first
            | exact ⟨⟨rfl, rfl, trivial⟩, (col + r.units, r.start + r.len), _, ⟨rfl, rfl, rfl, rfl, rfl, trivial⟩, rfl, by show (0 : Int) ≤ col + r.units; omega, by show col + r.units ≤ _; omega, hc3⟩
            | exact ⟨⟨rfl, rfl, trivial⟩, (col + 1, r.start + r.len), _, ⟨rfl, rfl, rfl, rfl, rfl, trivial⟩, rfl, by show (0 : Int) ≤ col + 1; omega, by show col + 1 ≤ _; omega, hc3⟩
    · intro q hg
      obtain ⟨col, e⟩ := q
      obtain ⟨hc1, hc2, hc3⟩ := hg
      simp only at hc3
      rw [List.drop_length, refO] at hc3
      repeat (refine awp_seq ?_)
      refine e_eval (by simp only [jA, jO, jN, seval, y3, y23, vint, qP, o1, o3, o4, o5, g2, decide_false] <;> with_reducible rfl) (by decide) ?_
      repeat (refine awp_seq ?_)
      refine awp_cond rfl (by simp only [jN, seval, vint, qP, o1, o3, o4, o5, g2, decide_false] <;> with_reducible rfl) (fun bt77 => ?_) (fun bt77 => ?_)
      ·
        rw [if_pos (of_decide_eq_true bt77)] at hc3
        repeat (refine awp_seq ?_)
        refine e_eval (by simp only [jA, jO, jN, seval, vint, qP, o1, o3, o4, o5, g2, decide_false] <;> with_reducible rfl) (by decide) ?_
        repeat (refine awp_seq ?_)
        refine awp_ret ⟨.inr rfl, _, (ares_two (.tmp 6) (.tmp 7) rfl (ares_tmp1 (by decide)) (ares_tmp1 (by decide))), ?_⟩
        first | rw [hv] | rw [← hc3]
        simp only [jN, seval, vint, qP]
        try rfl
      ·
        rw [if_neg (of_decide_eq_false bt77)] at hc3
        repeat (refine awp_seq ?_)
        refine awp_skip ?_
        repeat (refine awp_seq ?_)
        refine e_eval (by simp only [jA, jO, jN, seval, vint, qP, o1, o3, o4, o5, g2, decide_false] <;> with_reducible rfl) (by decide) ?_
        repeat (refine awp_seq ?_)
        refine awp_ret ⟨.inr rfl, _, (ares_two (.tmp 6) (.tmp 7) rfl (ares_tmp1 (by decide)) (ares_tmp1 (by decide))), ?_⟩
        first | rw [hv] | rw [← hc3]
        simp only [jN, seval, vint, qP]
        try rfl

end Go.Abs
