/- Part 4 of a proof of the law TopCanceled: Go data as trees, the walks of the functions that the law reaches, the plain laws. -/
import Derived.Test.YtndpndmhoheloaaGCTopCanceled
import Derived.Test.YtndpndmhoheloaaProg
import Derived.KernelRfl
import Derived.Lib.Join
import Derived.Below
import Derived.Laws.StructEq
import Derived.Laws.RangeString
import Derived.Lib.OthersKept
import Derived.Lib.DecodeN
import Derived.Laws.IdiomStrings
import Derived.Maps.RangeRun
import Derived.Laws.Cover3
import Derived.Laws.Entries
set_option linter.unusedVariables false
set_option linter.unusedSimpArgs false
namespace Go.Abs
open Go.Proofs
theorem Tryti2 : tinfo Try.prog 2 = some ⟨false, 1, 8⟩ := by kernel_rfl
theorem Trytz2 : tzero Try.prog 2 = some (.int .i64 0) := by kernel_rfl
theorem Trytp2 : tptr Try.prog 2 = false := by kernel_rfl
theorem Trytk2 : tint Try.prog 2 = some .i64 := by kernel_rfl
theorem Tryti3 : tinfo Try.prog 3 = some ⟨false, 1, 8⟩ := by kernel_rfl
theorem Trytz3 : tzero Try.prog 3 = some (.int .i64 0) := by kernel_rfl
theorem Trytp3 : tptr Try.prog 3 = false := by kernel_rfl
theorem Trytk3 : tint Try.prog 3 = some .i64 := by kernel_rfl
theorem Tryti4 : tinfo Try.prog 4 = some ⟨false, 1, 1⟩ := by kernel_rfl
theorem Trytz4 : tzero Try.prog 4 = some (.bool false) := by kernel_rfl
theorem Trytp4 : tptr Try.prog 4 = false := by kernel_rfl
theorem Trytb4 : tbool Try.prog 4 = true := by kernel_rfl
theorem Tryti9 : tinfo Try.prog 9 = some ⟨false, 1, 16⟩ := by kernel_rfl
theorem Trytz9 : tzero Try.prog 9 = some (.str []) := by kernel_rfl
theorem Trytp9 : tptr Try.prog 9 = false := by kernel_rfl
theorem Tryts9 : tstr Try.prog 9 = true := by kernel_rfl
theorem Tryti22 : tinfo Try.prog 22 = some ⟨false, 1, 24⟩ := by kernel_rfl
theorem Tryte22 : telem Try.prog 22 = some (53, ⟨false, 1, 24⟩) := by kernel_rfl
theorem Trytz22 : tzero Try.prog 22 = some (.slice [] .full) := by kernel_rfl
theorem Trytp22 : tptr Try.prog 22 = false := by kernel_rfl
theorem Tryti24 : tinfo Try.prog 24 = some ⟨true, 2, 32⟩ := by kernel_rfl
theorem Trytf24 : tflds Try.prog 24 = some [(0, ⟨false, 1, 8⟩), (1, ⟨false, 1, 24⟩)] := by kernel_rfl
theorem Trytz24 : tzero Try.prog 24 = some (.agg [.int .i64 0, .slice [] .full]) := by kernel_rfl
theorem Trytp24 : tptr Try.prog 24 = false := by kernel_rfl
theorem Tryti25 : tinfo Try.prog 25 = some ⟨false, 1, 24⟩ := by kernel_rfl
theorem Tryte25 : telem Try.prog 25 = some (34, ⟨true, 3, 24⟩) := by kernel_rfl
theorem Trytz25 : tzero Try.prog 25 = some (.slice [] .full) := by kernel_rfl
theorem Trytp25 : tptr Try.prog 25 = false := by kernel_rfl
theorem Tryti28 : tinfo Try.prog 28 = some ⟨false, 1, 8⟩ := by kernel_rfl
theorem Trytz28 : tzero Try.prog 28 = some (.nilp) := by kernel_rfl
theorem Trytp28 : tptr Try.prog 28 = true := by kernel_rfl
theorem Tryti32 : tinfo Try.prog 32 = some ⟨false, 1, 24⟩ := by kernel_rfl
theorem Tryte32 : telem Try.prog 32 = some (3, ⟨false, 1, 8⟩) := by kernel_rfl
theorem Trytz32 : tzero Try.prog 32 = some (.slice [] .full) := by kernel_rfl
theorem Trytp32 : tptr Try.prog 32 = false := by kernel_rfl
theorem Tryti34 : tinfo Try.prog 34 = some ⟨true, 3, 24⟩ := by kernel_rfl
theorem Trytf34 : tflds Try.prog 34 = some [(0, ⟨false, 1, 8⟩), (1, ⟨false, 1, 8⟩), (2, ⟨false, 1, 8⟩)] := by kernel_rfl
theorem Trytz34 : tzero Try.prog 34 = some (.agg [.int .i64 0, .int .i64 0, .int .i64 0]) := by kernel_rfl
theorem Trytp34 : tptr Try.prog 34 = false := by kernel_rfl
theorem Tryti37 : tinfo Try.prog 37 = some ⟨true, 3, 24⟩ := by kernel_rfl
theorem Trytf37 : tflds Try.prog 37 = some [(0, ⟨false, 1, 8⟩), (1, ⟨false, 1, 8⟩), (2, ⟨false, 1, 8⟩)] := by kernel_rfl
theorem Trytz37 : tzero Try.prog 37 = some (.agg [.int .i64 0, .int .i64 0, .int .i64 0]) := by kernel_rfl
theorem Trytp37 : tptr Try.prog 37 = false := by kernel_rfl
theorem Tryti38 : tinfo Try.prog 38 = some ⟨false, 1, 8⟩ := by kernel_rfl
theorem Trytz38 : tzero Try.prog 38 = some (.int .i64 0) := by kernel_rfl
theorem Trytp38 : tptr Try.prog 38 = false := by kernel_rfl
theorem Trytk38 : tint Try.prog 38 = some .i64 := by kernel_rfl
theorem Tryti41 : tinfo Try.prog 41 = some ⟨true, 2, 40⟩ := by kernel_rfl
theorem Trytf41 : tflds Try.prog 41 = some [(0, ⟨false, 1, 24⟩), (1, ⟨false, 1, 16⟩)] := by kernel_rfl
theorem Trytz41 : tzero Try.prog 41 = some (.agg [.slice [] .full, .str []]) := by kernel_rfl
theorem Trytp41 : tptr Try.prog 41 = false := by kernel_rfl
theorem Tryti42 : tinfo Try.prog 42 = some ⟨false, 1, 8⟩ := by kernel_rfl
theorem Trytz42 : tzero Try.prog 42 = some (.nilp) := by kernel_rfl
theorem Trytp42 : tptr Try.prog 42 = true := by kernel_rfl
theorem Tryti52 : tinfo Try.prog 52 = some ⟨true, 3, 24⟩ := by kernel_rfl
theorem Trytf52 : tflds Try.prog 52 = some [(0, ⟨false, 1, 8⟩), (1, ⟨false, 1, 8⟩), (2, ⟨false, 1, 8⟩)] := by kernel_rfl
theorem Trytz52 : tzero Try.prog 52 = some (.agg [.int .i64 0, .int .i64 0, .int .i64 0]) := by kernel_rfl
theorem Trytp52 : tptr Try.prog 52 = false := by kernel_rfl
theorem Tryti53 : tinfo Try.prog 53 = some ⟨false, 1, 24⟩ := by kernel_rfl
theorem Tryte53 : telem Try.prog 53 = some (52, ⟨true, 3, 24⟩) := by kernel_rfl
theorem Trytz53 : tzero Try.prog 53 = some (.slice [] .full) := by kernel_rfl
theorem Trytp53 : tptr Try.prog 53 = false := by kernel_rfl
theorem Tryti57 : tinfo Try.prog 57 = some ⟨false, 1, 8⟩ := by kernel_rfl
theorem Trytz57 : tzero Try.prog 57 = some (.nilp) := by kernel_rfl
theorem Trytp57 : tptr Try.prog 57 = true := by kernel_rfl
theorem Tryti59 : tinfo Try.prog 59 = some ⟨false, 1, 8⟩ := by kernel_rfl
theorem Trytz59 : tzero Try.prog 59 = some (.nilmap) := by kernel_rfl
theorem Trytp59 : tptr Try.prog 59 = false := by kernel_rfl
theorem Tryti60 : tinfo Try.prog 60 = some ⟨false, 1, 8⟩ := by kernel_rfl
theorem Trytz60 : tzero Try.prog 60 = some (.nilmap) := by kernel_rfl
theorem Trytp60 : tptr Try.prog 60 = false := by kernel_rfl
theorem Tryti62 : tinfo Try.prog 62 = some ⟨true, 7, 56⟩ := by kernel_rfl
theorem Trytf62 : tflds Try.prog 62 = some [(0, ⟨false, 1, 8⟩), (1, ⟨false, 1, 8⟩), (2, ⟨false, 1, 8⟩), (3, ⟨false, 1, 8⟩), (4, ⟨false, 1, 8⟩), (5, ⟨false, 1, 8⟩), (6, ⟨false, 1, 8⟩)] := by kernel_rfl
theorem Trytz62 : tzero Try.prog 62 = some (.agg [.nilfn, .nilp, .nilmap, .nilmap, .nilfn, .int .i64 0, .int .i64 0]) := by kernel_rfl
theorem Trytp62 : tptr Try.prog 62 = false := by kernel_rfl
theorem Tryti71 : tinfo Try.prog 71 = some ⟨false, 1, 4⟩ := by kernel_rfl
theorem Trytz71 : tzero Try.prog 71 = some (.int .u32 0) := by kernel_rfl
theorem Trytp71 : tptr Try.prog 71 = false := by kernel_rfl
theorem Trytk71 : tint Try.prog 71 = some .u32 := by kernel_rfl
theorem Tryti73 : tinfo Try.prog 73 = some ⟨true, 1, 4⟩ := by kernel_rfl
theorem Trytf73 : tflds Try.prog 73 = some [(0, ⟨true, 0, 0⟩), (0, ⟨false, 1, 4⟩)] := by kernel_rfl
theorem Trytz73 : tzero Try.prog 73 = some (.agg [.int .u32 0]) := by kernel_rfl
theorem Trytp73 : tptr Try.prog 73 = false := by kernel_rfl
theorem Tryti75 : tinfo Try.prog 75 = some ⟨true, 1, 4⟩ := by kernel_rfl
theorem Trytf75 : tflds Try.prog 75 = some [(0, ⟨true, 1, 4⟩)] := by kernel_rfl
theorem Trytz75 : tzero Try.prog 75 = some (.agg [.int .u32 0]) := by kernel_rfl
theorem Trytp75 : tptr Try.prog 75 = false := by kernel_rfl
theorem Tryti79 : tinfo Try.prog 79 = some ⟨true, 1, 8⟩ := by kernel_rfl
theorem Trytf79 : tflds Try.prog 79 = some [(0, ⟨false, 1, 8⟩)] := by kernel_rfl
theorem Trytz79 : tzero Try.prog 79 = some (.agg [.int .i64 0]) := by kernel_rfl
theorem Trytp79 : tptr Try.prog 79 = false := by kernel_rfl
theorem Tryti82 : tinfo Try.prog 82 = some ⟨false, 1, 24⟩ := by kernel_rfl
theorem Tryte82 : telem Try.prog 82 = some (37, ⟨true, 3, 24⟩) := by kernel_rfl
theorem Trytz82 : tzero Try.prog 82 = some (.slice [] .full) := by kernel_rfl
theorem Trytp82 : tptr Try.prog 82 = false := by kernel_rfl
theorem Tryti84 : tinfo Try.prog 84 = some ⟨true, 7, 96⟩ := by kernel_rfl
theorem Trytf84 : tflds Try.prog 84 = some [(0, ⟨true, 2, 40⟩), (2, ⟨false, 1, 8⟩), (3, ⟨false, 1, 8⟩), (4, ⟨false, 1, 8⟩), (5, ⟨false, 1, 24⟩), (6, ⟨false, 1, 8⟩)] := by kernel_rfl
theorem Trytz84 : tzero Try.prog 84 = some (.agg [.slice [] .full, .str [], .int .i64 0, .int .i64 0, .int .i64 0, .slice [] .full, .int .i64 0]) := by kernel_rfl
theorem Trytp84 : tptr Try.prog 84 = false := by kernel_rfl
theorem Tryti85 : tinfo Try.prog 85 = some ⟨false, 1, 8⟩ := by kernel_rfl
theorem Trytz85 : tzero Try.prog 85 = some (.nilp) := by kernel_rfl
theorem Trytp85 : tptr Try.prog 85 = true := by kernel_rfl
theorem Tryti93 : tinfo Try.prog 93 = some ⟨false, 1, 8⟩ := by kernel_rfl
theorem Trytz93 : tzero Try.prog 93 = some (.nilmap) := by kernel_rfl
theorem Trytp93 : tptr Try.prog 93 = false := by kernel_rfl
theorem Tryti96 : tinfo Try.prog 96 = some ⟨true, 5, 40⟩ := by kernel_rfl
theorem Trytf96 : tflds Try.prog 96 = some [(0, ⟨false, 1, 8⟩), (1, ⟨true, 3, 24⟩), (4, ⟨false, 1, 8⟩)] := by kernel_rfl
theorem Trytz96 : tzero Try.prog 96 = some (.agg [.int .i64 0, .int .i64 0, .int .i64 0, .int .i64 0, .nilmap]) := by kernel_rfl
theorem Trytp96 : tptr Try.prog 96 = false := by kernel_rfl
theorem Tryti101 : tinfo Try.prog 101 = some ⟨true, 4, 56⟩ := by kernel_rfl
theorem Trytf101 : tflds Try.prog 101 = some [(0, ⟨true, 2, 40⟩), (2, ⟨false, 1, 8⟩), (3, ⟨false, 1, 8⟩)] := by kernel_rfl
theorem Trytz101 : tzero Try.prog 101 = some (.agg [.slice [] .full, .str [], .int .i64 0, .int .i64 0]) := by kernel_rfl
theorem Trytp101 : tptr Try.prog 101 = false := by kernel_rfl
theorem Trytg59 : tmapg Try.prog 59 = some 85 := by kernel_rfl
theorem Trytg60 : tmapg Try.prog 60 = some 3 := by kernel_rfl
theorem Trytg93 : tmapg Try.prog 93 = some 101 := by kernel_rfl
theorem Tryti26 : tinfo Try.prog 26 = some ⟨false, 1, 8⟩ := by kernel_rfl
theorem Trytz26 : tzero Try.prog 26 = some .nilfn := by kernel_rfl
theorem Tryti30 : tinfo Try.prog 30 = some ⟨false, 1, 8⟩ := by kernel_rfl
theorem Trytz30 : tzero Try.prog 30 = some .nilfn := by kernel_rfl
theorem Tryti56 : tinfo Try.prog 56 = some ⟨false, 1, 8⟩ := by kernel_rfl
theorem Trytz56 : tzero Try.prog 56 = some .nilfn := by kernel_rfl
theorem Trygo4 : goFn Try.prog 4 = true := by kernel_rfl
theorem Trygo5 : goFn Try.prog 5 = true := by kernel_rfl
theorem Trygo6 : goFn Try.prog 6 = true := by kernel_rfl
theorem Trygo7 : goFn Try.prog 7 = true := by kernel_rfl
theorem Trygo8 : goFn Try.prog 8 = true := by kernel_rfl
theorem Trygo9 : goFn Try.prog 9 = true := by kernel_rfl
theorem Trygo10 : goFn Try.prog 10 = true := by kernel_rfl
theorem Trygo11 : goFn Try.prog 11 = true := by kernel_rfl
theorem Trygo12 : goFn Try.prog 12 = true := by kernel_rfl
theorem Trygo13 : goFn Try.prog 13 = true := by kernel_rfl
theorem Trygo14 : goFn Try.prog 14 = true := by kernel_rfl
theorem Trygo15 : goFn Try.prog 15 = true := by kernel_rfl
theorem Trygo16 : goFn Try.prog 16 = true := by kernel_rfl
theorem Trygo17 : goFn Try.prog 17 = true := by kernel_rfl
theorem Trygo18 : goFn Try.prog 18 = true := by kernel_rfl
theorem Trygo19 : goFn Try.prog 19 = true := by kernel_rfl
theorem Trygo20 : goFn Try.prog 20 = true := by kernel_rfl
theorem Trygo22 : goFn Try.prog 22 = true := by kernel_rfl
theorem Trygo23 : goFn Try.prog 23 = true := by kernel_rfl
theorem Trygo24 : goFn Try.prog 24 = true := by kernel_rfl
theorem Trygo25 : goFn Try.prog 25 = true := by kernel_rfl
theorem Trygo26 : goFn Try.prog 26 = true := by kernel_rfl
theorem Trygo27 : goFn Try.prog 27 = true := by kernel_rfl
theorem Trygo28 : goFn Try.prog 28 = true := by kernel_rfl
theorem Trygo29 : goFn Try.prog 29 = true := by kernel_rfl
theorem Trygo30 : goFn Try.prog 30 = true := by kernel_rfl
theorem Trygo31 : goFn Try.prog 31 = true := by kernel_rfl
theorem Trygo32 : goFn Try.prog 32 = true := by kernel_rfl
theorem Trygo33 : goFn Try.prog 33 = true := by kernel_rfl
theorem Trygo34 : goFn Try.prog 34 = true := by kernel_rfl
theorem Trygo35 : goFn Try.prog 35 = true := by kernel_rfl
theorem Trygo36 : goFn Try.prog 36 = true := by kernel_rfl
theorem Trygo37 : goFn Try.prog 37 = true := by kernel_rfl
theorem Trygo38 : goFn Try.prog 38 = true := by kernel_rfl
theorem Trygo39 : goFn Try.prog 39 = true := by kernel_rfl
theorem Trygo40 : goFn Try.prog 40 = true := by kernel_rfl
theorem Trygo41 : goFn Try.prog 41 = true := by kernel_rfl
theorem Trygo42 : goFn Try.prog 42 = true := by kernel_rfl
theorem Trygo43 : goFn Try.prog 43 = true := by kernel_rfl
theorem Trygo44 : goFn Try.prog 44 = true := by kernel_rfl
theorem Trygo45 : goFn Try.prog 45 = true := by kernel_rfl
theorem Trygo46 : goFn Try.prog 46 = true := by kernel_rfl
theorem Trygo47 : goFn Try.prog 47 = true := by kernel_rfl
theorem Trygo48 : goFn Try.prog 48 = true := by kernel_rfl
theorem Trygo50 : goFn Try.prog 50 = true := by kernel_rfl
theorem Trygo55 : goFn Try.prog 55 = true := by kernel_rfl
theorem Trygo56 : goFn Try.prog 56 = true := by kernel_rfl
theorem Trygo57 : goFn Try.prog 57 = true := by kernel_rfl
theorem Trygo58 : goFn Try.prog 58 = true := by kernel_rfl
theorem Trygo59 : goFn Try.prog 59 = true := by kernel_rfl
theorem Trygo60 : goFn Try.prog 60 = true := by kernel_rfl
theorem Trygo61 : goFn Try.prog 61 = true := by kernel_rfl
theorem Trygo62 : goFn Try.prog 62 = true := by kernel_rfl
theorem Trygo63 : goFn Try.prog 63 = true := by kernel_rfl
theorem Trygo67 : goFn Try.prog 67 = true := by kernel_rfl
theorem Trygo68 : goFn Try.prog 68 = true := by kernel_rfl
theorem Trygo69 : goFn Try.prog 69 = true := by kernel_rfl
theorem y2 : type_of% (And.intro @Tryti2 (And.intro @Trytz2 (And.intro @Trytp2 (@Trytk2)))) := And.intro @Tryti2 (And.intro @Trytz2 (And.intro @Trytp2 (@Trytk2)))
theorem y3 : type_of% (And.intro @Tryti3 (And.intro @Trytz3 (And.intro @Trytp3 (@Trytk3)))) := And.intro @Tryti3 (And.intro @Trytz3 (And.intro @Trytp3 (@Trytk3)))
theorem y4 : type_of% (And.intro @Tryti4 (And.intro @Trytz4 (And.intro @Trytp4 (@Trytb4)))) := And.intro @Tryti4 (And.intro @Trytz4 (And.intro @Trytp4 (@Trytb4)))
theorem y9 : type_of% (And.intro @Tryti9 (And.intro @Trytz9 (And.intro @Trytp9 (@Tryts9)))) := And.intro @Tryti9 (And.intro @Trytz9 (And.intro @Trytp9 (@Tryts9)))
theorem y22 : type_of% (And.intro @Tryti22 (And.intro @Tryte22 (And.intro @Trytz22 (@Trytp22)))) := And.intro @Tryti22 (And.intro @Tryte22 (And.intro @Trytz22 (@Trytp22)))
theorem y24 : type_of% (And.intro @Tryti24 (And.intro @Trytf24 (And.intro @Trytz24 (@Trytp24)))) := And.intro @Tryti24 (And.intro @Trytf24 (And.intro @Trytz24 (@Trytp24)))
theorem y25 : type_of% (And.intro @Tryti25 (And.intro @Tryte25 (And.intro @Trytz25 (@Trytp25)))) := And.intro @Tryti25 (And.intro @Tryte25 (And.intro @Trytz25 (@Trytp25)))
theorem y26 : type_of% (And.intro @Tryti26 (@Trytz26)) := And.intro @Tryti26 (@Trytz26)
theorem y28 : type_of% (And.intro @Tryti28 (And.intro @Trytz28 (@Trytp28))) := And.intro @Tryti28 (And.intro @Trytz28 (@Trytp28))
theorem y30 : type_of% (And.intro @Tryti30 (@Trytz30)) := And.intro @Tryti30 (@Trytz30)
theorem y32 : type_of% (And.intro @Tryti32 (And.intro @Tryte32 (And.intro @Trytz32 (@Trytp32)))) := And.intro @Tryti32 (And.intro @Tryte32 (And.intro @Trytz32 (@Trytp32)))
theorem y34 : type_of% (And.intro @Tryti34 (And.intro @Trytf34 (And.intro @Trytz34 (@Trytp34)))) := And.intro @Tryti34 (And.intro @Trytf34 (And.intro @Trytz34 (@Trytp34)))
theorem y37 : type_of% (And.intro @Tryti37 (And.intro @Trytf37 (And.intro @Trytz37 (@Trytp37)))) := And.intro @Tryti37 (And.intro @Trytf37 (And.intro @Trytz37 (@Trytp37)))
theorem y38 : type_of% (And.intro @Tryti38 (And.intro @Trytz38 (And.intro @Trytp38 (@Trytk38)))) := And.intro @Tryti38 (And.intro @Trytz38 (And.intro @Trytp38 (@Trytk38)))
theorem y41 : type_of% (And.intro @Tryti41 (And.intro @Trytf41 (And.intro @Trytz41 (@Trytp41)))) := And.intro @Tryti41 (And.intro @Trytf41 (And.intro @Trytz41 (@Trytp41)))
theorem y42 : type_of% (And.intro @Tryti42 (And.intro @Trytz42 (@Trytp42))) := And.intro @Tryti42 (And.intro @Trytz42 (@Trytp42))
theorem y52 : type_of% (And.intro @Tryti52 (And.intro @Trytf52 (And.intro @Trytz52 (@Trytp52)))) := And.intro @Tryti52 (And.intro @Trytf52 (And.intro @Trytz52 (@Trytp52)))
theorem y53 : type_of% (And.intro @Tryti53 (And.intro @Tryte53 (And.intro @Trytz53 (@Trytp53)))) := And.intro @Tryti53 (And.intro @Tryte53 (And.intro @Trytz53 (@Trytp53)))
theorem y56 : type_of% (And.intro @Tryti56 (@Trytz56)) := And.intro @Tryti56 (@Trytz56)
theorem y57 : type_of% (And.intro @Tryti57 (And.intro @Trytz57 (@Trytp57))) := And.intro @Tryti57 (And.intro @Trytz57 (@Trytp57))
theorem y59 : type_of% (And.intro @Tryti59 (And.intro @Trytz59 (And.intro @Trytp59 (@Trytg59)))) := And.intro @Tryti59 (And.intro @Trytz59 (And.intro @Trytp59 (@Trytg59)))
theorem y60 : type_of% (And.intro @Tryti60 (And.intro @Trytz60 (And.intro @Trytp60 (@Trytg60)))) := And.intro @Tryti60 (And.intro @Trytz60 (And.intro @Trytp60 (@Trytg60)))
theorem y62 : type_of% (And.intro @Tryti62 (And.intro @Trytf62 (And.intro @Trytz62 (@Trytp62)))) := And.intro @Tryti62 (And.intro @Trytf62 (And.intro @Trytz62 (@Trytp62)))
theorem y71 : type_of% (And.intro @Tryti71 (And.intro @Trytz71 (And.intro @Trytp71 (@Trytk71)))) := And.intro @Tryti71 (And.intro @Trytz71 (And.intro @Trytp71 (@Trytk71)))
theorem y73 : type_of% (And.intro @Tryti73 (And.intro @Trytf73 (And.intro @Trytz73 (@Trytp73)))) := And.intro @Tryti73 (And.intro @Trytf73 (And.intro @Trytz73 (@Trytp73)))
theorem y75 : type_of% (And.intro @Tryti75 (And.intro @Trytf75 (And.intro @Trytz75 (@Trytp75)))) := And.intro @Tryti75 (And.intro @Trytf75 (And.intro @Trytz75 (@Trytp75)))
theorem y79 : type_of% (And.intro @Tryti79 (And.intro @Trytf79 (And.intro @Trytz79 (@Trytp79)))) := And.intro @Tryti79 (And.intro @Trytf79 (And.intro @Trytz79 (@Trytp79)))
theorem y82 : type_of% (And.intro @Tryti82 (And.intro @Tryte82 (And.intro @Trytz82 (@Trytp82)))) := And.intro @Tryti82 (And.intro @Tryte82 (And.intro @Trytz82 (@Trytp82)))
theorem y84 : type_of% (And.intro @Tryti84 (And.intro @Trytf84 (And.intro @Trytz84 (@Trytp84)))) := And.intro @Tryti84 (And.intro @Trytf84 (And.intro @Trytz84 (@Trytp84)))
theorem y85 : type_of% (And.intro @Tryti85 (And.intro @Trytz85 (@Trytp85))) := And.intro @Tryti85 (And.intro @Trytz85 (@Trytp85))
theorem y93 : type_of% (And.intro @Tryti93 (And.intro @Trytz93 (And.intro @Trytp93 (@Trytg93)))) := And.intro @Tryti93 (And.intro @Trytz93 (And.intro @Trytp93 (@Trytg93)))
theorem y96 : type_of% (And.intro @Tryti96 (And.intro @Trytf96 (And.intro @Trytz96 (@Trytp96)))) := And.intro @Tryti96 (And.intro @Trytf96 (And.intro @Trytz96 (@Trytp96)))
theorem y101 : type_of% (And.intro @Tryti101 (And.intro @Trytf101 (And.intro @Trytz101 (@Trytp101)))) := And.intro @Tryti101 (And.intro @Trytf101 (And.intro @Trytz101 (@Trytp101)))
end Go.Abs
namespace Go.Abs
inductive Nd where
  | mk (kind value : Int) (text : List UInt8) (st en ns : Int) (kids : List Nd)
def Nd.kind : Nd → Int | .mk k _ _ _ _ _ _ => k
def Nd.value : Nd → Int | .mk _ v _ _ _ _ _ => v
def Nd.text : Nd → List UInt8 | .mk _ _ t _ _ _ _ => t
def Nd.st : Nd → Int | .mk _ _ _ s _ _ _ => s
def Nd.en : Nd → Int | .mk _ _ _ _ e _ _ => e
def Nd.ns : Nd → Int | .mk _ _ _ _ _ n _ => n
def Nd.kids : Nd → List Nd | .mk _ _ _ _ _ _ us => us
mutual
def Nd.enc : Nd → PV
  | .mk k v t s e n us => .agg [.int .i64 k, .int .i64 v, .str t, .int .i64 s, .int .i64 e, .int .i64 n, .slice (ndEncs us) .none]
def ndEncs : List Nd → List PV
  | [] => []
  | t :: ts => t.enc :: ndEncs ts
end
theorem ndEncs_eq (ts : List Nd) : ndEncs ts = ts.map Nd.enc := by
  induction ts with
  | nil => rfl
  | cons t ts ih => simp [ndEncs, ih]
theorem Nd.enc_eq (t : Nd) : t.enc = .agg [.int .i64 t.kind, .int .i64 t.value, .str t.text, .int .i64 t.st, .int .i64 t.en, .int .i64 t.ns, .slice (t.kids.map Nd.enc) .none] := by
  cases t; simp [Nd.enc, ndEncs_eq, Nd.kind, Nd.value, Nd.text, Nd.st, Nd.en, Nd.ns, Nd.kids]
theorem Nd.enc_cells (t : Nd) : t.enc.cells = [.int .i64 t.kind, .int .i64 t.value, .str t.text, .int .i64 t.st, .int .i64 t.en, .int .i64 t.ns, .slice (t.kids.map Nd.enc) .none] := by
  rw [Nd.enc_eq]; rfl
theorem Nd.enc_len (t : Nd) : t.enc.cells.length = 7 := by rw [Nd.enc_cells]; rfl
mutual
theorem Nd.bel (n : Nat) : ∀ t : Nd, Bel n t.enc
  | .mk k v t s e m us => .agg _ (by
      intro c hc
      simp only [List.mem_cons, List.not_mem_nil, or_false] at hc
      rcases hc with rfl | rfl | rfl | rfl | rfl | rfl | rfl
      · exact .int _ _
      · exact .int _ _
      · exact .str _
      · exact .int _ _
      · exact .int _ _
      · exact .int _ _
      · exact .slice _ _ (ndBelCs n us) (fun id h => by cases h))
theorem ndBelCs (n : Nat) : ∀ ts : List Nd, ∀ e ∈ ndEncs ts, ∀ c ∈ e.cells, Bel n c
  | [] => fun e he => by simp [ndEncs] at he
  | t :: ts => fun e he c hc => by
    simp only [ndEncs, List.mem_cons] at he
    rcases he with rfl | he
    · have h := Nd.bel n t
      rw [Nd.enc_eq] at h hc
      cases h with
      | agg _ q => exact q c hc
    · exact ndBelCs n ts e he c hc
end
mutual
def Nd.size : Nd → Nat
  | .mk _ _ _ _ _ _ us => 1 + ndSizes us
def ndSizes : List Nd → Nat
  | [] => 0
  | t :: ts => t.size + ndSizes ts
end
inductive Nd.W : Nd → Prop
  | mk {k v t s e n us} (hl : us.length * 80 ≤ 2 ^ 47) (h : ∀ u ∈ us, Nd.W u) : Nd.W (.mk k v t s e n us)
theorem Nd.W.len {t : Nd} (h : t.W) : t.kids.length * 80 ≤ 2 ^ 47 := by cases h with | mk h _ => exact h
mutual
def Nd.eqb : Nd → Nd → Bool
  | .mk k v t s e n us, .mk k' v' t' s' e' n' vs => decide (k = k') && decide (v = v') && decide (t = t') && decide (s = s') && decide (e = e') && decide (n = n') && ndEqbs us vs
def ndEqbs : List Nd → List Nd → Bool
  | [], [] => true
  | u :: us, v :: vs => u.eqb v && ndEqbs us vs
  | _, _ => false
end
mutual
theorem Nd.eqb_iff : ∀ a b : Nd, a.eqb b = true ↔ a = b
  | .mk k v t s e n us, .mk k' v' t' s' e' n' vs => by
    simp only [Nd.eqb, Bool.and_eq_true, decide_eq_true_eq, Nd.mk.injEq, ndEqbs_iff us vs, and_assoc]
theorem ndEqbs_iff : ∀ us vs : List Nd, ndEqbs us vs = true ↔ us = vs
  | [], [] => by simp [ndEqbs]
  | [], v :: vs => by simp [ndEqbs]
  | u :: us, [] => by simp [ndEqbs]
  | u :: us, v :: vs => by simp [ndEqbs, Nd.eqb_iff u v, ndEqbs_iff us vs]
end
end Go.Abs
namespace Go.Abs
def Ty.zero : Ty := .mk 0 0 []
abbrev MSt := List Ty × List Bool
structure MOk (n : Nat) (s : MSt) : Prop where
  l1 : s.1.length = n
  l2 : s.2.length = n
  w : ∀ a ∈ s.1, a.W
end Go.Abs
namespace Go.Abs
end Go.Abs
namespace Go.Abs
end Go.Abs
namespace Go.Abs
theorem dp_skip {P : Program} {N : Nat} {ops : Array Oper} {Q : Post} {k : Nat} {o : Oper} {l : List Oper} {T : Slots} {G : Nat → Bool} {H : Heap} {r : PV} (hc : gcond ops.toList T G N o = some false)
    (h : DP P N ops Q (k + 1) l (msk (.tup []) (updO T o.dst r) (ugO G o.dst false)) H) : DP P N ops Q k (o :: l) (msk (.tup []) T G) H := by
  intro prev hn
  rw [msk_put_false] at h
  exact dops_skipR [] (fun p hp => .inr ⟨by rw [hn p hp]; simp, by simp⟩) hc (h _ (hn.app _ _))
end Go.Abs
namespace Go.Abs
section
variable {P : Program} {N nb : Nat} {ops : Array Oper} {Q : Post}
end
end Go.Abs
namespace Go.Abs
section
variable {P : Program} {N nb : Nat} {ops : Array Oper} {Q : Post}
end
end Go.Abs
namespace Go.Abs
section
variable {E : Env} (ho : E.Ok) {H1 L : Heap} (hE : E.H = H1 ++ L) {ib id k cp sz : Nat} {es : List PV}
  (hib : H1.length ≤ ib) (hid : H1.length ≤ id) (hne : ib ≠ id) (hbox : E.H[ib]? = some (.row [.msl id 0 k cp])) (hrow : E.H[id]? = some (.row (flatE es))) (hk : k ≤ es.length) (hcp : es.length = cp)
  (hes : ∀ e ∈ es, e.cells.length = sz) (hb : ∀ e ∈ es, ∀ x ∈ e.cells, Bel H1.length x)
end
section
variable {P : Program} {N nb : Nat} {Q : Post}
end
end Go.Abs
set_option maxRecDepth 4000
namespace Go.Abs
open Go.Proofs Go.Memo
theorem bel_kE (n : Nat) (a b c : Int) : Bel n (.agg [vint a, vint b, vint c]) := .agg _ (by simp [Bel.int, vint])
theorem bel_vE (n : Nat) (l : List Int) (t : List UInt8) : Bel n (.agg [.slice (l.map vint) .none, .str t]) := .agg _ (by simp [bel_ints0, Bel.str])
def kE (k : QK) : PV := .agg [vint k.1, vint k.2.1, vint k.2.2]
theorem kE_cells (k : QK) : (kE k).cells = [vint k.1, vint k.2.1, vint k.2.2] := rfl
theorem bel_K (n : Nat) (l : List QK) : Bel n (.slice (l.map kE) .none) := .slice _ _ (fun e he c hc => by
  obtain ⟨s, _, rfl⟩ := List.mem_map.1 he
  have hc : c ∈ [vint s.1, vint s.2.1, vint s.2.2] := hc
  simp at hc
  rcases hc with rfl | rfl | rfl <;> exact .int _ _) (fun i e => by cases e)
def ksE (l : List QK) : PV := .slice (l.map kE) .none
theorem bel_KK (n : Nat) (l : List (List QK)) : Bel n (.slice (l.map ksE) .none) := .slice _ _ (fun e he c hc => by
  obtain ⟨s, _, rfl⟩ := List.mem_map.1 he
  have hc : c ∈ [ksE s] := hc
  rw [List.mem_singleton.1 hc]; exact bel_K _ _) (fun i e => by cases e)
theorem bel_pE (n : Nat) (i : Int) (l : List (List QK)) : Bel n (.agg [vint i, .slice (l.map ksE) .none]) := .agg _ (by simp [bel_KK, Bel.int, vint])
def redu (n : Int) : Int := n % 1000003
theorem redu_neg {n : Int} (h : n.tmod 1000003 < 0) : n.tmod 1000003 + 1000003 = redu n := by
  unfold redu; have := Int.tmod_eq_emod (a := n) (b := 1000003); split at this <;> omega
theorem redu_pos {n : Int} (h : ¬ n.tmod 1000003 < 0) : n.tmod 1000003 = redu n := by
  unfold redu; have := Int.tmod_eq_emod (a := n) (b := 1000003); split at this <;> omega
theorem redu_rng (n : Int) : 0 ≤ redu n ∧ redu n < 1000003 := by unfold redu; omega
theorem emod_neg' {n m : Int} (hm : 0 < m) (h : n.tmod m < 0) : n.tmod m + m = n % m := by
  have := Int.tmod_eq_emod (a := n) (b := m)
  have h2 := Int.emod_nonneg n (by omega : m ≠ 0)
  split at this
  · omega
  · have e : (m.natAbs : Int) = m := by omega
    rw [e] at this; omega
theorem emod_pos' {n m : Int} (hm : 0 < m) (h : ¬ n.tmod m < 0) : n.tmod m = n % m := by
  have := Int.tmod_eq_emod (a := n) (b := m)
  have h2 := Int.emod_lt_of_pos n hm
  split at this
  · omega
  · have e : (m.natAbs : Int) = m := by omega
    rw [e] at this; omega
def binQ (op x y : Int) : Int := if op = 6 then redu (x + y) else if op = 7 then redu (x - y) else if op = 8 then redu (x * y) else if op = 9 then min x y else if op = 10 then max x y else if x < y then 1 else 0
def opKey (o : QK) (idx n : Int) : Option QK := if o.1 = 2 then some (0, o.2.1, 0) else if o.1 = 3 then some (1, o.2.1, 0) else if o.1 = 4 then some (1, n.tmod idx, 0) else if o.1 = 5 ∧ n ≠ 0 then some (1, o.2.1, 0) else if o.1 = 5 then some (1, o.2.2, 0) else none
def keyD : Option QK → QK
  | some k => k
  | none => (0, 0, 0)
theorem reduce_c (n : Int) : PC Try.prog 27 [vint n] (vint (redu n)) := by
  have hm : (1000003 : Int) ≠ 0 := by decide
  have hr := Int.tmod_lt_of_pos n (by decide : (0 : Int) < 1000003)
  have hr2 : -1000003 < n.tmod 1000003 := by have := Int.lt_tmod_of_pos n (by decide : (0 : Int) < 1000003); omega
  have hw : IntKind.i64.wrap (n.tmod 1000003 + 1000003) = n.tmod 1000003 + 1000003 := wrap_id (by omega) (by omega)
  refine pc_of (N := 10) Try.func27 rfl rfl (by simp) (by simp [Bel.int, Bel.str, Bel.bool, bel_ints0, bel_kE, bel_vE, bel_K, bel_KK, bel_pE, Bel.nilp, bel_fn0]) (.int _ _) ?_
  repeat (refine awp_seq ?_)
  refine e_eval (by simp only [jA, jO, jN, seval, vint, hw, Int.cast_ofNat_Int, Int.reduceLT, Int.reduceLE, Int.reduceEq, Int.toNat_one, Int.toNat_zero, Int.reduceToNat, Int.reduceNeg, decide_true, decide_false] <;> with_reducible rfl) (by decide) ?_
  repeat (refine awp_seq ?_)
  refine e_eval (by simp only [jA, jO, jN, seval, y3, vint, hw, Int.cast_ofNat_Int, Int.reduceLT, Int.reduceLE, Int.reduceEq, Int.toNat_one, Int.toNat_zero, Int.reduceToNat, Int.reduceNeg, decide_true, decide_false] <;> with_reducible rfl) (by decide) ?_
  repeat (refine awp_seq ?_)
  refine e_eval (by simp only [jA, jO, jN, seval, y3, vint, hw, Int.cast_ofNat_Int, Int.reduceLT, Int.reduceLE, Int.reduceEq, Int.toNat_one, Int.toNat_zero, Int.reduceToNat, Int.reduceNeg, decide_true, decide_false] <;> with_reducible rfl) (by decide) ?_
  repeat (refine awp_seq ?_)
  refine awp_cond rfl (by simp only [jN, seval, vint, hw, Int.cast_ofNat_Int, Int.reduceLT, Int.reduceLE, Int.reduceEq, Int.toNat_one, Int.toNat_zero, Int.reduceToNat, Int.reduceNeg, decide_true, decide_false] <;> with_reducible rfl) (fun b0 => ?_) (fun b0 => ?_)
  ·
    have hv := redu_neg (of_decide_eq_true b0)
    repeat (refine awp_seq ?_)
    refine e_eval (by simp only [jA, jO, jN, seval, y3, vint, hw, Int.cast_ofNat_Int, Int.reduceLT, Int.reduceLE, Int.reduceEq, Int.toNat_one, Int.toNat_zero, Int.reduceToNat, Int.reduceNeg, decide_true, decide_false] <;> with_reducible rfl) (by decide) ?_
    repeat (refine awp_seq ?_)
    refine e_eval (by simp only [jA, jO, jN, seval, vint, hw, Int.cast_ofNat_Int, Int.reduceLT, Int.reduceLE, Int.reduceEq, Int.toNat_one, Int.toNat_zero, Int.reduceToNat, Int.reduceNeg, decide_true, decide_false] <;> with_reducible rfl) (by decide) ?_
    repeat (refine awp_seq ?_)
    refine awp_ret ⟨.inr rfl, _, rfl, ?_⟩
    simp only [jN, seval, vint, hv]
    try rfl
  ·
    have hv := redu_pos (of_decide_eq_false b0)
    repeat (refine awp_seq ?_)
    refine awp_skip ?_
    repeat (refine awp_seq ?_)
    refine e_eval (by simp only [jA, jO, jN, seval, vint, hw, Int.cast_ofNat_Int, Int.reduceLT, Int.reduceLE, Int.reduceEq, Int.toNat_one, Int.toNat_zero, Int.reduceToNat, Int.reduceNeg, decide_true, decide_false] <;> with_reducible rfl) (by decide) ?_
    repeat (refine awp_seq ?_)
    refine awp_ret ⟨.inr rfl, _, rfl, ?_⟩
    simp only [jN, seval, vint, hv]
    try rfl
theorem mod_c (n m : Int) (h0 : 0 < m) (h1 : m ≤ 1073741824) : PC Try.prog 8 [vint n, vint m] (vint (n % m)) := by
  have hm : (m = 0) = False := by simp; omega
  have hr := Int.tmod_lt_of_pos n h0
  have hr2 : -m < n.tmod m := Int.lt_tmod_of_pos n h0
  have hw : IntKind.i64.wrap (n.tmod m + m) = n.tmod m + m := wrap_id (by omega) (by omega)
  refine pc_of (N := 15) Try.func8 rfl rfl (by simp) (by simp [Bel.int, Bel.str, Bel.bool, bel_ints0, bel_kE, bel_vE, bel_K, bel_KK, bel_pE, Bel.nilp, bel_fn0]) (.int _ _) ?_
  repeat (refine awp_seq ?_)
  refine e_eval (by simp only [jA, jO, jN, seval, vint, hm, hw] <;> with_reducible rfl) (by decide) ?_
  repeat (refine awp_seq ?_)
  refine e_eval (by simp only [jA, jO, jN, seval, y3, vint, hm, hw] <;> with_reducible rfl) (by decide) ?_
  repeat (refine awp_seq ?_)
  refine e_eval (by simp only [jA, jO, jN, seval, y3, vint, hm, hw] <;> with_reducible rfl) (by decide) ?_
  repeat (refine awp_seq ?_)
  refine awp_cond rfl (by simp only [jN, seval, vint, hm, hw] <;> with_reducible rfl) (fun b0 => ?_) (fun b0 => ?_)
  ·
    have hv := emod_neg' h0 (of_decide_eq_true b0)
    repeat (refine awp_seq ?_)
    refine e_eval (by simp only [jA, jO, jN, seval, y3, vint, hm, hw] <;> with_reducible rfl) (by decide) ?_
    repeat (refine awp_seq ?_)
    refine e_eval (by simp only [jA, jO, jN, seval, vint, hm, hw] <;> with_reducible rfl) (by decide) ?_
    repeat (refine awp_seq ?_)
    refine awp_ret ⟨.inr rfl, _, rfl, ?_⟩
    simp only [jN, seval, vint, hv]
    try rfl
  ·
    have hv := emod_pos' h0 (of_decide_eq_false b0)
    repeat (refine awp_seq ?_)
    refine awp_skip ?_
    repeat (refine awp_seq ?_)
    refine e_eval (by simp only [jA, jO, jN, seval, vint, hm, hw] <;> with_reducible rfl) (by decide) ?_
    repeat (refine awp_seq ?_)
    refine awp_ret ⟨.inr rfl, _, rfl, ?_⟩
    simp only [jN, seval, vint, hv]
    try rfl
theorem binary_c (op x y : Int) (hx : 0 ≤ x ∧ x < 1000003) (hy : 0 ≤ y ∧ y < 1000003) : PC Try.prog 42 [vint op, vint x, vint y] (vint (binQ op x y)) := by
  have w1 : IntKind.i64.wrap (x + y) = x + y := wrap_id (by omega) (by omega)
  have w2 : IntKind.i64.wrap (x - y) = x - y := wrap_id (by omega) (by omega)
  have hm : 0 ≤ x * y ∧ x * y ≤ 1000003 * 1000003 := ⟨Int.mul_nonneg hx.1 hy.1, Int.mul_le_mul (by omega) (by omega) hy.1 (by omega)⟩
  have w3 : IntKind.i64.wrap (x * y) = x * y := wrap_id (by omega) (by omega)
  refine pc_of (N := 39) Try.func42 rfl rfl (by simp) (by simp [Bel.int, Bel.str, Bel.bool, bel_ints0, bel_kE, bel_vE, bel_K, bel_KK, bel_pE, Bel.nilp, bel_fn0]) (.int _ _) ?_
  repeat (refine awp_seq ?_)
  refine e_eval (by simp only [jA, jO, jN, seval, vint, w1, w2, w3] <;> with_reducible rfl) (by decide) ?_
  repeat (refine awp_seq ?_)
  refine e_eval (by simp only [jA, jO, jN, seval, vint, w1, w2, w3] <;> with_reducible rfl) (by decide) ?_
  repeat (refine awp_seq ?_)
  refine awp_block ?_
  repeat (refine awp_seq ?_)
  refine e_eval (by simp only [jA, jO, jN, seval, y3, vint, w1, w2, w3] <;> with_reducible rfl) (by decide) ?_
  repeat (refine awp_seq ?_)
  refine awp_cond rfl (by simp only [jN, seval, vint, w1, w2, w3] <;> with_reducible rfl) (fun b0 => ?_) (fun b0 => ?_)
  ·
    repeat (refine awp_seq ?_)
    refine awp_region ?_
    refine e_take 3 (by simp only [jA, jO, jN, seval, y3, vint, w1, w2, w3] <;> with_reducible rfl) (by decide) ?_
    refine aops_pure (by simp only [jC, jN, seval, vint, w1, w2, w3] <;> with_reducible rfl) (by simp only [jC, jN, seval, vint, w1, w2, w3]) (by decide) Trygo27 (reduce_c _ _) ?_
    refine e_end (by simp only [jA, jO, jN, seval, vint, w1, w2, w3] <;> with_reducible rfl) (by decide) ?_
    repeat (refine awp_seq ?_)
    refine awp_ret ⟨.inr rfl, _, rfl, ?_⟩
    simp only [jN, seval, vint]
    simp_all [binQ, vint]
    try omega
  ·
    repeat (refine awp_seq ?_)
    refine e_eval (by simp only [jA, jO, jN, seval, y3, vint, w1, w2, w3] <;> with_reducible rfl) (by decide) ?_
    repeat (refine awp_seq ?_)
    refine awp_cond rfl (by simp only [jN, seval, vint, w1, w2, w3] <;> with_reducible rfl) (fun b1 => ?_) (fun b1 => ?_)
    ·
      repeat (refine awp_seq ?_)
      refine awp_region ?_
      refine e_take 3 (by simp only [jA, jO, jN, seval, y3, vint, w1, w2, w3] <;> with_reducible rfl) (by decide) ?_
      refine aops_pure (by simp only [jC, jN, seval, vint, w1, w2, w3] <;> with_reducible rfl) (by simp only [jC, jN, seval, vint, w1, w2, w3]) (by decide) Trygo27 (reduce_c _ _) ?_
      refine e_end (by simp only [jA, jO, jN, seval, vint, w1, w2, w3] <;> with_reducible rfl) (by decide) ?_
      repeat (refine awp_seq ?_)
      refine awp_ret ⟨.inr rfl, _, rfl, ?_⟩
      simp only [jN, seval, vint]
      simp_all [binQ, vint]
      try omega
    ·
      repeat (refine awp_seq ?_)
      refine e_eval (by simp only [jA, jO, jN, seval, y3, vint, w1, w2, w3] <;> with_reducible rfl) (by decide) ?_
      repeat (refine awp_seq ?_)
      refine awp_cond rfl (by simp only [jN, seval, vint, w1, w2, w3] <;> with_reducible rfl) (fun b2 => ?_) (fun b2 => ?_)
      ·
        repeat (refine awp_seq ?_)
        refine awp_region ?_
        refine e_take 3 (by simp only [jA, jO, jN, seval, y3, vint, w1, w2, w3] <;> with_reducible rfl) (by decide) ?_
        refine aops_pure (by simp only [jC, jN, seval, vint, w1, w2, w3] <;> with_reducible rfl) (by simp only [jC, jN, seval, vint, w1, w2, w3]) (by decide) Trygo27 (reduce_c _ _) ?_
        refine e_end (by simp only [jA, jO, jN, seval, vint, w1, w2, w3] <;> with_reducible rfl) (by decide) ?_
        repeat (refine awp_seq ?_)
        refine awp_ret ⟨.inr rfl, _, rfl, ?_⟩
        simp only [jN, seval, vint]
        simp_all [binQ, vint]
        try omega
      ·
        repeat (refine awp_seq ?_)
        refine e_eval (by simp only [jA, jO, jN, seval, y3, vint, w1, w2, w3] <;> with_reducible rfl) (by decide) ?_
        repeat (refine awp_seq ?_)
        refine awp_cond rfl (by simp only [jN, seval, vint, w1, w2, w3] <;> with_reducible rfl) (fun b3 => ?_) (fun b3 => ?_)
        ·
          repeat (refine awp_seq ?_)
          refine e_eval (by simp only [jA, jO, jN, seval, y3, vint, w1, w2, w3] <;> with_reducible rfl) (by decide) ?_
          repeat (refine awp_seq ?_)
          refine awp_ret ⟨.inr rfl, _, rfl, ?_⟩
          simp only [jN, seval, vint]
          simp_all [binQ, vint]
          try omega
        ·
          repeat (refine awp_seq ?_)
          refine e_eval (by simp only [jA, jO, jN, seval, y3, vint, w1, w2, w3] <;> with_reducible rfl) (by decide) ?_
          repeat (refine awp_seq ?_)
          refine awp_cond rfl (by simp only [jN, seval, vint, w1, w2, w3] <;> with_reducible rfl) (fun b4 => ?_) (fun b4 => ?_)
          ·
            repeat (refine awp_seq ?_)
            refine e_eval (by simp only [jA, jO, jN, seval, y3, vint, w1, w2, w3] <;> with_reducible rfl) (by decide) ?_
            repeat (refine awp_seq ?_)
            refine awp_ret ⟨.inr rfl, _, rfl, ?_⟩
            simp only [jN, seval, vint]
            simp_all [binQ, vint]
            try omega
          ·
            repeat (refine awp_seq ?_)
            refine awp_skip ?_
            repeat (refine awp_seq ?_)
            refine e_eval (by simp only [jA, jO, jN, seval, y3, vint, w1, w2, w3] <;> with_reducible rfl) (by decide) ?_
            repeat (refine awp_seq ?_)
            refine awp_cond rfl (by simp only [jN, seval, vint, w1, w2, w3] <;> with_reducible rfl) (fun b5 => ?_) (fun b5 => ?_)
            ·
              refine awp_sel [] (by simp only [jN, seval, vint, w1, w2, w3] <;> with_reducible rfl) ?_
              repeat (refine awp_seq ?_)
              refine e_eval (by simp only [jA, jO, jN, seval, vint, w1, w2, w3] <;> with_reducible rfl) (by decide) ?_
              repeat (refine awp_seq ?_)
              refine awp_ret ⟨.inr rfl, _, rfl, ?_⟩
              simp only [jN, seval, vint]
              simp_all [binQ, vint]
              try omega
            ·
              repeat (refine awp_seq ?_)
              refine awp_skip ?_
              refine awp_sel [] (by simp only [jN, seval, vint, w1, w2, w3] <;> with_reducible rfl) ?_
              repeat (refine awp_seq ?_)
              refine e_eval (by simp only [jA, jO, jN, seval, vint, w1, w2, w3] <;> with_reducible rfl) (by decide) ?_
              repeat (refine awp_seq ?_)
              refine awp_ret ⟨.inr rfl, _, rfl, ?_⟩
              simp only [jN, seval, vint]
              simp_all [binQ, vint]
              try omega
theorem equalInts (us vs : List Int) (ha : us.length ≤ maxLen) : PC Try.prog 57 [.slice (us.map vint) .none, .slice (vs.map vint) .none] (.bool (decide (us = vs))) := by
  refine pc_of (N := 26) Try.func57 rfl rfl (by simp) (by simp [Bel.int, Bel.str, Bel.bool, bel_ints0, bel_kE, bel_vE, bel_K, bel_KK, bel_pE, Bel.nilp, bel_fn0]) (.bool _) ?_
  repeat (refine awp_seq ?_)
  refine e_eval (by simp only [jA, jO, jN, seval, vint] <;> with_reducible rfl) (by decide) ?_
  repeat (refine awp_seq ?_)
  refine e_eval (by simp only [jA, jO, jN, seval, y3, y32, vint] <;> with_reducible rfl) (by decide) ?_
  repeat (refine awp_seq ?_)
  refine awp_cond rfl (by simp only [jN, seval, vint] <;> with_reducible rfl) (fun bt10 => ?_) (fun bt10 => ?_)
  ·
    have hl : ¬ us.length = vs.length := by have := bt10; simp at this; omega
    have hf : decide (us = vs) = false := decide_eq_false fun h => hl (by rw [h])
    repeat (refine awp_seq ?_)
    refine e_eval (by simp only [jA, jO, jN, seval, vint] <;> with_reducible rfl) (by decide) ?_
    repeat (refine awp_seq ?_)
    refine awp_ret ⟨.inr rfl, _, rfl, ?_⟩
    simp only [jN, seval, vint, hf]
  ·
    have hl : us.length = vs.length := by have := bt10; simp at this; omega
    repeat (refine awp_seq ?_)
    refine awp_skip ?_
    repeat (refine awp_seq ?_)
    refine e_eval (by simp only [jA, jO, jN, seval, y3, y32, vint] <;> with_reducible rfl) (by decide) ?_
    repeat (refine awp_seq ?_)
    refine awp_forS (σ := Unit) (us.length) (fun (u_ : Unit) => [(0, .slice (us.map vint) .none), (1, .slice (vs.map vint) .none)]) [0, 1] ([]) (fun (u_ : Unit) => []) (fun (i : Nat) (u_ : Unit) => ∀ j (h1 : j < i) (h2 : j < us.length) (h3 : j < vs.length), us[j] = vs[j]) (()) ([]) rfl rfl rfl rfl rfl rfl rfl rfl rfl (by decide) (by decide) (by decide) (fun _ => rfl) (ha) ⟨(by first | rfl | (simp only [jN, seval, vint] <;> first | done | with_reducible rfl)), (by first | rfl | (simp only [jN, seval, vint] <;> first | done | with_reducible rfl)), (by first | rfl | (simp only [jN, seval, vint] <;> first | done | with_reducible rfl)), (by first | rfl | (simp only [jN, seval, vint] <;> first | done | with_reducible rfl)), trivial⟩ (by first | rfl | (simp only [jN, seval, vint] <;> first | done | with_reducible rfl)) (fun j h => absurd h (by omega)) (fun _ _ _ => by first | exact Nat.zero_le _ | (simp only [List.length_append]; omega)) ?_ ?_ ?_
    · exact fun i s hg => ⟨by first | exact hbel_nil _ | (simp only [List.append_nil]; assumption) | (refine hbel_app' hb' (by simp) ?_; repeat (first | exact hbel_nil _ | exact trivial | exact obel_row_nil _ | (refine HBel.cons ?_ ?_) | (refine obel_row_cons (by first | exact bel_ints0 _ _ | exact bel_kE _ _ _ _ | exact bel_vE _ _ _ | exact bel_K _ _ | exact bel_KK _ _ | exact Bel.int _ _ | exact Bel.bool _ | exact Bel.str _ | exact Bel.nilp | exact Bel.nilfn | exact Bel.optr _ _ (by simp) | exact bel_nil0 _ | exact bel_nil1 _ | exact bel_fn0 _ _ | assumption) ?_))), by repeat (first | exact BelL.nil | refine BelL.cons (by first | exact bel_ints0 _ _ | exact bel_kE _ _ _ _ | exact bel_vE _ _ _ | exact bel_K _ _ | exact bel_KK _ _ | exact Bel.int _ _ | exact Bel.bool _ | exact Bel.str _ | exact Bel.nilp | exact Bel.nilfn | exact Bel.optr _ _ (by simp) | exact bel_nil0 _ | exact bel_nil1 _ | exact bel_fn0 _ _ | assumption) ?_)⟩
    · intro i u_ hi hg
      have g1 := ix_nat hi
      have hi2 : i < vs.length := by omega
      have g3 := ix_nat hi2
      have g2 := get_enc vint hi
      have g4 := get_enc vint hi2
      repeat (refine awp_seq ?_)
      refine e_eval (by simp only [jA, jO, jN, seval, vint, g1, g2, g3, g4, Int.toNat_natCast] <;> with_reducible rfl) (by decide) ?_
      repeat (refine awp_seq ?_)
      refine dp_draw (by kernel_rfl) ?_
      refine dp_end (by simp only [jP, jO, jN, seval, y3, y32, vint, g1, g2, g3, g4, Int.toNat_natCast] <;> with_reducible rfl) (by decide) (by repeat (first | exact Fin.base _ | with_reducible apply Fin.keep | apply Fin.drop)) ?_
      repeat (refine awp_seq ?_)
      refine awp_cond rfl (by simp only [jN, seval, vint, g1, g2, g3, g4, Int.toNat_natCast] <;> with_reducible rfl) (fun bt24 => ?_) (fun bt24 => ?_)
      ·
        have hne : ¬ us[i] = vs[i] := by simpa using bt24
        have hf : decide (us = vs) = false := decide_eq_false fun h => hne (by subst h; rfl)
        repeat (refine awp_seq ?_)
        refine e_eval (by simp only [jA, jO, jN, seval, vint, g1, g2, g3, g4, Int.toNat_natCast] <;> with_reducible rfl) (by decide) ?_
        repeat (refine awp_seq ?_)
        refine awp_ret ⟨.inr rfl, _, rfl, ?_⟩
        simp only [jN, seval, vint, hf]
      ·
        have heq : us[i] = vs[i] := by simpa using bt24
        repeat (refine awp_seq ?_)
        refine awp_skip ?_
        exact ⟨⟨rfl, rfl, trivial⟩, (), _, ⟨rfl, rfl, trivial⟩, rfl, fun j h1 h2 h3 => by
          rcases Nat.lt_or_ge j i with q | q
          · exact hg j q h2 h3
          · obtain rfl : j = i := by omega
            exact heq⟩
    · intro u_ hg
      have hf : decide (us = vs) = true := decide_eq_true (List.ext_getElem hl fun j h1 h2 => hg j h1 h1 h2)
      repeat (refine awp_seq ?_)
      refine e_eval (by simp only [jA, jO, jN, seval, vint] <;> with_reducible rfl) (by decide) ?_
      repeat (refine awp_seq ?_)
      refine awp_ret ⟨.inr rfl, _, rfl, ?_⟩
      simp only [jN, seval, vint, hf]
theorem equalR (us vs : List Int) (ha : us.length ≤ maxLen) : PC Try.prog 19 [.slice (us.map vint) .none, .slice (vs.map vint) .none] (.bool (decide (us = vs))) := by
  refine pc_of (N := 26) Try.func19 rfl rfl (by simp) (by simp [Bel.int, Bel.str, Bel.bool, bel_ints0, bel_kE, bel_vE, bel_K, bel_KK, bel_pE, Bel.nilp, bel_fn0]) (.bool _) ?_
  repeat (refine awp_seq ?_)
  refine e_eval (by simp only [jA, jO, jN, seval, vint] <;> with_reducible rfl) (by decide) ?_
  repeat (refine awp_seq ?_)
  refine e_eval (by simp only [jA, jO, jN, seval, y3, y32, vint] <;> with_reducible rfl) (by decide) ?_
  repeat (refine awp_seq ?_)
  refine awp_cond rfl (by simp only [jN, seval, vint] <;> with_reducible rfl) (fun bt11 => ?_) (fun bt11 => ?_)
  ·
    have hl : ¬ us.length = vs.length := by have := bt11; simp at this; omega
    have hf : decide (us = vs) = false := decide_eq_false fun h => hl (by rw [h])
    repeat (refine awp_seq ?_)
    refine e_eval (by simp only [jA, jO, jN, seval, vint] <;> with_reducible rfl) (by decide) ?_
    repeat (refine awp_seq ?_)
    refine awp_ret ⟨.inr rfl, _, rfl, ?_⟩
    simp only [jN, seval, vint, hf]
  ·
    have hl : us.length = vs.length := by have := bt11; simp at this; omega
    repeat (refine awp_seq ?_)
    refine awp_skip ?_
    repeat (refine awp_seq ?_)
    refine e_eval (by simp only [jA, jO, jN, seval, y3, y32, vint] <;> with_reducible rfl) (by decide) ?_
    repeat (refine awp_seq ?_)
    refine awp_forS (σ := Unit) (us.length) (fun (u_ : Unit) => [(0, .slice (us.map vint) .none), (1, .slice (vs.map vint) .none), (12, .slice (us.map vint) .none)]) [0, 1, 12] ([]) (fun (u_ : Unit) => []) (fun (i : Nat) (u_ : Unit) => ∀ j (h1 : j < i) (h2 : j < us.length) (h3 : j < vs.length), us[j] = vs[j]) (()) ([]) rfl rfl rfl rfl rfl rfl rfl rfl rfl (by decide) (by decide) (by decide) (fun _ => rfl) (ha) ⟨(by first | rfl | (simp only [jN, seval, vint] <;> first | done | with_reducible rfl)), (by first | rfl | (simp only [jN, seval, vint] <;> first | done | with_reducible rfl)), (by first | rfl | (simp only [jN, seval, vint] <;> first | done | with_reducible rfl)), (by first | rfl | (simp only [jN, seval, vint] <;> first | done | with_reducible rfl)), (by first | rfl | (simp only [jN, seval, vint] <;> first | done | with_reducible rfl)), trivial⟩ (by first | rfl | (simp only [jN, seval, vint] <;> first | done | with_reducible rfl)) (fun j h => absurd h (by omega)) (fun _ _ _ => by first | exact Nat.zero_le _ | (simp only [List.length_append]; omega)) ?_ ?_ ?_
    · exact fun i s hg => ⟨by first | exact hbel_nil _ | (simp only [List.append_nil]; assumption) | (refine hbel_app' hb' (by simp) ?_; repeat (first | exact hbel_nil _ | exact trivial | exact obel_row_nil _ | (refine HBel.cons ?_ ?_) | (refine obel_row_cons (by first | exact bel_ints0 _ _ | exact bel_kE _ _ _ _ | exact bel_vE _ _ _ | exact bel_K _ _ | exact bel_KK _ _ | exact Bel.int _ _ | exact Bel.bool _ | exact Bel.str _ | exact Bel.nilp | exact Bel.nilfn | exact Bel.optr _ _ (by simp) | exact bel_nil0 _ | exact bel_nil1 _ | exact bel_fn0 _ _ | assumption) ?_))), by repeat (first | exact BelL.nil | refine BelL.cons (by first | exact bel_ints0 _ _ | exact bel_kE _ _ _ _ | exact bel_vE _ _ _ | exact bel_K _ _ | exact bel_KK _ _ | exact Bel.int _ _ | exact Bel.bool _ | exact Bel.str _ | exact Bel.nilp | exact Bel.nilfn | exact Bel.optr _ _ (by simp) | exact bel_nil0 _ | exact bel_nil1 _ | exact bel_fn0 _ _ | assumption) ?_)⟩
    · intro i u_ hi hg
      have g1 := ix_nat hi
      have hi2 : i < vs.length := by omega
      have g3 := ix_nat hi2
      have g2 := get_enc vint hi
      have g4 := get_enc vint hi2
      repeat (refine awp_seq ?_)
      refine e_eval (by simp only [jA, jO, jN, seval, y3, y32, vint, g1, g2, g3, g4, Int.toNat_natCast] <;> with_reducible rfl) (by decide) ?_
      repeat (refine awp_seq ?_)
      refine e_eval (by simp only [jA, jO, jN, seval, y3, y32, vint, g1, g2, g3, g4, Int.toNat_natCast] <;> with_reducible rfl) (by decide) ?_
      repeat (refine awp_seq ?_)
      refine awp_cond rfl (by simp only [jN, seval, vint, g1, g2, g3, g4, Int.toNat_natCast] <;> with_reducible rfl) (fun bt24 => ?_) (fun bt24 => ?_)
      ·
        have hne : ¬ us[i] = vs[i] := by simpa using bt24
        have hf : decide (us = vs) = false := decide_eq_false fun h => hne (by subst h; rfl)
        repeat (refine awp_seq ?_)
        refine e_eval (by simp only [jA, jO, jN, seval, vint, g1, g2, g3, g4, Int.toNat_natCast] <;> with_reducible rfl) (by decide) ?_
        repeat (refine awp_seq ?_)
        refine awp_ret ⟨.inr rfl, _, rfl, ?_⟩
        simp only [jN, seval, vint, hf]
      ·
        have heq : us[i] = vs[i] := by simpa using bt24
        repeat (refine awp_seq ?_)
        refine awp_skip ?_
        exact ⟨⟨rfl, rfl, trivial⟩, (), _, ⟨rfl, rfl, rfl, trivial⟩, rfl, fun j h1 h2 h3 => by
          rcases Nat.lt_or_ge j i with q | q
          · exact hg j q h2 h3
          · obtain rfl : j = i := by omega
            exact heq⟩
    · intro u_ hg
      have hf : decide (us = vs) = true := decide_eq_true (List.ext_getElem hl fun j h1 h2 => hg j h1 h1 h2)
      repeat (refine awp_seq ?_)
      refine e_eval (by simp only [jA, jO, jN, seval, vint] <;> with_reducible rfl) (by decide) ?_
      repeat (refine awp_seq ?_)
      refine awp_ret ⟨.inr rfl, _, rfl, ?_⟩
      simp only [jN, seval, vint, hf]
theorem inEqual (l m : List Int) (s t : List UInt8) (hl : l.length ≤ maxLen) : PC Try.prog 43 [(.agg [.slice (l.map vint) .none, .str s]), (.agg [.slice (m.map vint) .none, .str t])] (.bool (decide (s = t) && decide (l = m))) := by
  refine pc_of (N := 17) Try.func43 rfl rfl (by simp) (by simp [Bel.int, Bel.str, Bel.bool, bel_ints0, bel_kE, bel_vE, bel_K, bel_KK, bel_pE, Bel.nilp, bel_fn0]) (.bool _) ?_
  repeat (refine awp_seq ?_)
  refine e_eval (by simp only [jA, jO, jN, seval, y41, vint] <;> with_reducible rfl) (by decide) ?_
  repeat (refine awp_seq ?_)
  refine awp_region ?_
  refine aops_gstart ?_
  refine g_take 10 (by simp only [jG, jO, jN, seval, y3, y9, y32, y41, vint] <;> with_reducible rfl) (by decide) ?_
  refine aops_gpure (by simp only [jE, jN, seval, vint] <;> with_reducible rfl) (by simp only [jE, jN, seval, vint] <;> with_reducible rfl) (by simp only [jE, jN, seval, vint]) (by decide) Trygo57 (fun hc => equalInts l m hl _) ?_
  refine g_end (by simp only [jG, jO, jN, seval, vint] <;> with_reducible rfl) (by decide) (by repeat (first | exact Fin.base _ | with_reducible apply Fin.keep | apply Fin.drop)) ?_
  repeat (refine awp_seq ?_)
  refine awp_ret ⟨.inr rfl, _, rfl, ?_⟩
  simp only [jN, seval, vint]
theorem r3Equal (l m : List Int) (s t : List UInt8) (hl : l.length ≤ maxLen) : PC Try.prog 18 [(.agg [.slice (l.map vint) .none, .str s]), (.agg [.slice (m.map vint) .none, .str t])] (.bool (decide (s = t) && decide (l = m))) := by
  refine pc_of (N := 17) Try.func18 rfl rfl (by simp) (by simp [Bel.int, Bel.str, Bel.bool, bel_ints0, bel_kE, bel_vE, bel_K, bel_KK, bel_pE, Bel.nilp, bel_fn0]) (.bool _) ?_
  repeat (refine awp_seq ?_)
  refine e_eval (by simp only [jA, jO, jN, seval, y41, vint] <;> with_reducible rfl) (by decide) ?_
  repeat (refine awp_seq ?_)
  refine awp_region ?_
  refine aops_gstart ?_
  refine g_take 10 (by simp only [jG, jO, jN, seval, y3, y9, y32, y41, vint] <;> with_reducible rfl) (by decide) ?_
  refine aops_gpure (by simp only [jE, jN, seval, vint] <;> with_reducible rfl) (by simp only [jE, jN, seval, vint] <;> with_reducible rfl) (by simp only [jE, jN, seval, vint]) (by decide) Trygo19 (fun hc => equalR l m hl _) ?_
  refine g_end (by simp only [jG, jO, jN, seval, vint] <;> with_reducible rfl) (by decide) (by repeat (first | exact Fin.base _ | with_reducible apply Fin.keep | apply Fin.drop)) ?_
  repeat (refine awp_seq ?_)
  refine awp_ret ⟨.inr rfl, _, rfl, ?_⟩
  simp only [jN, seval, vint]
theorem cloneInt (xs : List Int) (hx : xs.length * 8 ≤ 2 ^ 47) : PC Try.prog 45 [.slice (xs.map vint) .none] (.slice (xs.map vint) .none) := by
  have em : maxLen = 9223372036854775807 := by decide
  have happ : xs.map vint ≠ [] → ∀ fr HH, aappend ⟨false, 1, 8⟩ fr HH (.slice [] .full) (.slice (xs.map vint) .none) = some (.slice (xs.map vint) (.tok fr), some (fr, .buf xs.length 1)) := fun hne fr HH => by
    have := aappend_all (i := ⟨false, 1, 8⟩) (fresh := fr) (H := HH) (tl := .none) hne (by simpa using hx) (by simp; omega) (fun e he => by obtain ⟨v, _, rfl⟩ := List.mem_map.1 he; exact ⟨rfl, rfl⟩) (by decide)
    simpa using this
  refine pc_of (N := 8) Try.func45 rfl rfl (by simp) (by simp [Bel.int, Bel.str, Bel.bool, bel_ints0, bel_kE, bel_vE, bel_K, bel_KK, bel_pE, Bel.nilp, bel_fn0]) (bel_ints0 _ _) ?_
  refine awp_ext ?_
  repeat (refine awp_seq ?_)
  refine e_eval (by simp only [jA, jO, jN, seval, vint] <;> with_reducible rfl) (by decide) ?_
  repeat (refine awp_seq ?_)
  refine awp_region ?_
  refine e_take 1 (by simp only [jA, jO, jN, seval, vint] <;> with_reducible rfl) (by decide) ?_
  refine aops_nilcmp (es := xs.map vint) (tl := .none) rfl (by simp only [jC, jN, seval, vint] <;> rfl) rfl (by decide) (by rw [Tryte32]; rfl) (fun b hb => ?_)
  refine aops_nil ?_
  repeat (refine awp_seq ?_)
  refine awp_cond rfl (by simp only [jN, seval, vint] <;> with_reducible rfl) (fun b0 => ?_) (fun b0 => ?_)
  ·
    have hxs : xs = [] := by
      cases xs with
      | nil => rfl
      | cons a l => rw [hb (by simp)] at b0; cases b0
    subst hxs
    repeat (refine awp_seq ?_)
    refine e_eval (by simp only [jA, jO, jN, seval, vint] <;> with_reducible rfl) (by decide) ?_
    repeat (refine awp_seq ?_)
    refine awp_ret ⟨.inr rfl, _, rfl, ?_⟩
    simp only [jN, seval, vint]
  ·
    repeat (refine awp_seq ?_)
    refine awp_skip ?_
    rcases Classical.em (xs = []) with hxs | hxs
    ·
      subst hxs
      repeat (refine awp_seq ?_)
      refine e_eval (by simp only [jA, jO, jN, seval, y3, y32, vint, List.map_nil, aappend] <;> with_reducible rfl) (by decide) ?_
      repeat (refine awp_seq ?_)
      refine awp_ret ⟨.inr rfl, _, rfl, ?_⟩
      simp only [jN, seval, vint]
    ·
      have ha := happ (by simpa using hxs)
      repeat (refine awp_seq ?_)
      refine awp_region ?_
      refine e_take 2 (by simp only [jA, jO, jN, seval, y3, y32, vint, ha] <;> with_reducible rfl) (by decide) ?_
      refine aops_opF false 0 rfl rfl (by decide) (v := .slice (xs.map vint) (.tok 0)) (e := some (0, .buf xs.length 1)) (by simp only [jN, seval, vint, ha, aop, abuiltin, y32, y3] <;> rfl) rfl ?_
      refine e_end (by simp only [jA, jO, jN, seval, vint, ha] <;> with_reducible rfl) (by decide) ?_
      repeat (refine awp_seq ?_)
      refine awp_ret ⟨.inr rfl, _, rfl, ?_⟩
      simp only [jN, seval, vint]
theorem cloneOps (xs : List QK) (hx : xs.length * 24 ≤ 2 ^ 47) : PC Try.prog 23 [.slice (xs.map kE) .none] (.slice (xs.map kE) .none) := by
  have em : maxLen = 9223372036854775807 := by decide
  have happ : xs.map kE ≠ [] → ∀ fr HH, aappend ⟨true, 3, 24⟩ fr HH (.slice [] .full) (.slice (xs.map kE) .none) = some (.slice (xs.map kE) (.tok fr), some (fr, .buf xs.length 3)) := fun hne fr HH => by
    have := aappend_all (i := ⟨true, 3, 24⟩) (fresh := fr) (H := HH) (tl := .none) hne (by simpa using hx) (by simp; omega) (fun e he => by obtain ⟨v, _, rfl⟩ := List.mem_map.1 he; exact ⟨rfl, rfl⟩) (by decide)
    simpa using this
  refine pc_of (N := 8) Try.func23 rfl rfl (by simp) (by simp [Bel.int, Bel.str, Bel.bool, bel_ints0, bel_kE, bel_vE, bel_K, bel_KK, bel_pE, Bel.nilp, bel_fn0]) (bel_K _ _) ?_
  refine awp_ext ?_
  repeat (refine awp_seq ?_)
  refine e_eval (by simp only [jA, jO, jN, seval, vint] <;> with_reducible rfl) (by decide) ?_
  repeat (refine awp_seq ?_)
  refine awp_region ?_
  refine e_take 1 (by simp only [jA, jO, jN, seval, vint] <;> with_reducible rfl) (by decide) ?_
  refine aops_nilcmp (es := xs.map kE) (tl := .none) rfl (by simp only [jC, jN, seval, vint] <;> rfl) rfl (by decide) (by rw [Tryte53]; rfl) (fun b hb => ?_)
  refine aops_nil ?_
  repeat (refine awp_seq ?_)
  refine awp_cond rfl (by simp only [jN, seval, vint] <;> with_reducible rfl) (fun b0 => ?_) (fun b0 => ?_)
  ·
    have hxs : xs = [] := by
      cases xs with
      | nil => rfl
      | cons a l => rw [hb (by simp)] at b0; cases b0
    subst hxs
    repeat (refine awp_seq ?_)
    refine e_eval (by simp only [jA, jO, jN, seval, vint] <;> with_reducible rfl) (by decide) ?_
    repeat (refine awp_seq ?_)
    refine awp_ret ⟨.inr rfl, _, rfl, ?_⟩
    simp only [jN, seval, vint]
  ·
    repeat (refine awp_seq ?_)
    refine awp_skip ?_
    rcases Classical.em (xs = []) with hxs | hxs
    ·
      subst hxs
      repeat (refine awp_seq ?_)
      refine e_eval (by simp only [jA, jO, jN, seval, y52, y53, vint, List.map_nil, aappend] <;> with_reducible rfl) (by decide) ?_
      repeat (refine awp_seq ?_)
      refine awp_ret ⟨.inr rfl, _, rfl, ?_⟩
      simp only [jN, seval, vint]
    ·
      have ha := happ (by simpa using hxs)
      repeat (refine awp_seq ?_)
      refine awp_region ?_
      refine e_take 2 (by simp only [jA, jO, jN, seval, y52, y53, vint, ha] <;> with_reducible rfl) (by decide) ?_
      refine aops_opF false 0 rfl rfl (by decide) (v := .slice (xs.map kE) (.tok 0)) (e := some (0, .buf xs.length 3)) (by simp only [jN, seval, vint, ha, aop, abuiltin, y53, y52] <;> rfl) rfl ?_
      refine e_end (by simp only [jA, jO, jN, seval, vint, ha] <;> with_reducible rfl) (by decide) ?_
      repeat (refine awp_seq ?_)
      refine awp_ret ⟨.inr rfl, _, rfl, ?_⟩
      simp only [jN, seval, vint]
end Go.Abs
namespace Go.Abs
section
variable {P : Program} {N nb : Nat} {ops : Array Oper} {Q : Post}
end
section
variable {P : Program} {N nb : Nat} {ops : Array Oper} {Q : Post}
end
end Go.Abs
namespace Go.Abs
open Go.RowKit
section
variable {P : Program} {f : FuncId} {args : List PV} {H : Heap} {r : PV}
end
end Go.Abs
namespace Go.Abs
open Go.RowKit
def Pre (G H : Heap) : Prop := ∀ (k : Nat) (o : AObj), G[k]? = some o → H[k]? = some o
theorem Pre.refl (G : Heap) : Pre G G := fun _ _ h => h
theorem Pre.app {G H : Heap} (h : Pre G H) (L : Heap) : Pre G (H ++ L) := fun k o hk => by
  have := h k o hk
  rw [List.getElem?_append_left (len_of_get this)]; exact this
section
variable {P : Program} {N : Nat}
end
end Go.Abs
namespace Go.Abs
structure ISAt (P : Program) (t : TypeId) where
  f0 : Field
  f1 : Field
  ut : P.underlying t = some (.struct #[f0, f1])
  held : P.stoodInHeld t = false
  n0 : f0.name ≠ "_"
  n1 : f1.name ≠ "_"
  o0 : f0.offset = 0
  o1 : f1.offset = 1
  u0 : P.underlying f0.type = some (.int .i64)
  u1 : P.underlying f1.type = some .string
  a0 : ∀ w, (isAgg f0.type).run P w = .ok false w
  a1 : ∀ w, (isAgg f1.type).run P w = .ok false w
  gu : P.eqGuardType P.depth t = false
end Go.Abs
namespace Go.Abs
theorem dp_val {P : Program} {N : Nat} {ops : Array Oper} {Q : Post} {k : Nat} {o : Oper} {l : List Oper} {T : Slots} {G : Nat → Bool} {H : Heap} {v : PV} (hc : gcond ops.toList T G N o = some true) (hg : o.op.operands.toList.all (gOk true G) = true)
    (hv : ∀ (E : Env) (a : Act), E.Ok → (∀ x ∈ o.op.operands.toList, okOpnd N x = true → VRel E.view (a.eval x) (aev T x)) → ∃ val, (execOp a.eval o).run P E.w = .ok (.value val) E.w ∧ VRel E.view val v)
    (h : DP P N ops Q (k + 1) l (msk (.tup []) (updO T o.dst v) (ugO G o.dst true)) H) : DP P N ops Q k (o :: l) (msk (.tup []) T G) H := by
  intro prev hn
  rw [msk_put_true] at h
  refine ⟨v, [], [], ?_, by simp, fun p hp => .inr ⟨by simp, by simp⟩, h _ (hn.app _ _)⟩
  intro T' H' hT hHd hlen E a ho hE ht
  refine .inr ⟨awanted_sound ht (wanted_agree hT ((gcond_sound hc).1 rfl _)), fun next Q hnx => ?_⟩
  obtain ⟨val, h1, h2⟩ := hv E a ho fun x hx hok => by
    have := vrel_eval ht x hok
    rwa [aev_agree hT x hx, aev_msk (List.all_eq_true.1 hg x hx)] at this
  unfold Oper.wp
  rw [h1]
  exact hnx E val (.refl E) ho hE h2
end Go.Abs
namespace Go.Abs
open Go.Lib (iterAt_size iterAt_other iterAt_heap run_next_any_at run_next_end_at)
section
variable {P : Program} {N nb : Nat} {ops : Array Oper} {Q : Post}
end
end Go.Abs
namespace Go.Abs
section
variable {P : Program} {N nb : Nat} {ops : Array Oper} {Q : Post}
theorem aops_appNew {o : Oper} {l : List Oper} {T : Slots} {H : Heap} {x y : Operand} {t u : TypeId} {ei : TypeId × TI} {z e1 : PV} {tl : Tail} {n : Nat} {oc : List PV} (hw : awanted ops.toList T N o = some true)
    (hop : o.op = .call ⟨.builtin .append, #[x, y], #[t, u]⟩) (okx : okOpnd N x = true) (oky : okOpnd N y = true) (hy : aev T y = .slice [e1] tl)
    (hb : (n + 1) * ei.2.bytes ≤ 2 ^ 47) (hm : n + 1 ≤ maxLen) (hxs : e1.cells.length = ei.2.sz)
    (hte : telem P t = some ei) (htu : (telem P u).isSome = true) (hz : tzero P ei.1 = some z) (hzf : z.fits ei.2 = true)
    (hold : ∀ (E : Env) (v : Value), E.Ok → E.H = H → VRel E.view v (aev T x) → ∃ ad, v = .slice ad n n ∧ ∃ arrs, (Builtin.firstCells ei.2.sz n (.slice ad n n)).run P E.w = .ok arrs E.w ∧ RL E.view arrs oc)
    (h : ∀ (c : Nat) (rest : List PV), n + 1 ≤ c → c ≤ maxLen → rest = (List.replicate (c - (n + 1)) z.cells).flatten → AOps P N nb ops Q l (updO T o.dst (.msl H.length 0 (n + 1) c)) (H ++ [.row (oc ++ e1.cells ++ rest)])) : AOps P N nb ops Q (o :: l) T H := by
  intro E a ho hH ht
  subst hH
  obtain ⟨e, i⟩ := ei
  obtain ⟨h1, h2⟩ := telem_some hte
  obtain ⟨dd, f, h3, h4, rfl⟩ := tinfo_some h2
  obtain ⟨f', zv, h5, h6, rfl⟩ := tzero_some hz
  simp only at h5 hzf hb hxs hold
  rw [h4] at h5; cases h5
  obtain ⟨hzs, hzj⟩ := PV.fits_spec hzf
  simp only at hzs
  obtain ⟨zc1, zc2⟩ := (vrel_ofConst E.view zv).not_junk_cells hzj
  obtain ⟨eu, hue⟩ := telem_isSome htu
  have hvx := vrel_eval ht x okx
  have hvy := vrel_eval ht y oky
  rw [hy] at hvy
  have hd := ho.drew
  obtain ⟨adx, vx, arrs, s1, s2⟩ := hold E.drew _ hd rfl hvx
  have hxs' : ∀ q ∈ [e1], q.cells.length = f.size := fun q hq => by rw [List.mem_singleton.1 hq]; exact hxs
  have em : maxLen = 9223372036854775807 := by decide
  obtain ⟨c, hc6, hc7, hc8⟩ := run_choose_cap (P := P) (w := E.w) (n + 1) n e
  have hcm : c ≤ maxLen := by
    have := hc8 (by have e2 : maxLen = 2 ^ 63 - 1 := rfl; omega)
    have e2 : maxLen = 2 ^ 63 - 1 := rfl
    omega
  obtain ⟨arrx, r1, r2, ady, capy, vy, hcy1, hcy2, _⟩ := run_first (P := P) (E := E.drew) hvy hxs'
  have hzl2 : RL E.drew.view (Builtin.zeroCells zv.cells (c - (n + 1))) ((List.replicate (c - (n + 1)) (ofConst zv).cells).flatten) := by
    have := rl_zero (V := E.drew.view) zv hzj (c - (n + 1))
    rw [flatE_replicate] at this
    exact this
  have hfe : flatE [e1] = e1.cells := by simp [flatE]
  rw [hfe] at r2
  let arr : Array Value := arrs ++ arrx ++ Builtin.zeroCells zv.cells (c - (n + 1))
  have hrl : RL E.drew.view arr (oc ++ e1.cells ++ (List.replicate (c - (n + 1)) (ofConst zv).cells).flatten) := rl_append (rl_append s2 r2) hzl2
  have hun : E.drew.ext.H[E.H.length]? = some .unborn := by simp [Env.ext, Env.drew]
  have hle' := E.drew.ext_le.trans (Env.newRow_le (E := E.drew.ext) hd.ext (id := E.H.length) hun arr e (oc ++ e1.cells ++ (List.replicate (c - (n + 1)) (ofConst zv).cells).flatten))
  have hok' := Env.Ok.newRow (E := E.drew.ext) hd.ext (id := E.H.length) hun arr e (oc ++ e1.cells ++ (List.replicate (c - (n + 1)) (ofConst zv).cells).flatten) hrl.1 (fun i hl => (hrl.2 i hl).mono E.drew.ext_view_le)
  have hH' : (E.drew.ext.newRow E.H.length arr e (oc ++ e1.cells ++ (List.replicate (c - (n + 1)) (ofConst zv).cells).flatten)).H = E.H ++ [.row (oc ++ e1.cells ++ (List.replicate (c - (n + 1)) (ofConst zv).cells).flatten)] := by
    simp only [Env.newRow, Env.ext, Env.drew]
    rw [List.set_append_right _ _ (Nat.le_refl _)]; simp
  have run1 : (execOp a.eval o).run P E.w = .ok (.value (.slice (some ⟨E.w.heap.size, 0, none⟩) (n + 1) c)) (E.drew.ext.newRow E.H.length arr e (oc ++ e1.cells ++ (List.replicate (c - (n + 1)) (ofConst zv).cells).flatten)).w := by
    unfold execOp
    rw [hop]
    simp only
    refine (run_builtin (c := ⟨.builtin .append, #[x, y], #[t, u]⟩) (a := a) (E := E) (P := P) (xs := [x, y]) (ts := [t, u]) (ty := o.type) rfl rfl rfl (s := Builtin.append_ #[t, u] o.type #[a.eval x, a.eval y]) rfl).trans ?_
    have hc6' : (choose (.appendCap (n + 1) n e)).run P E.w = .ok c E.drew.w := hc6
    have n2 : ¬ n + 1 ≤ n := by omega
    have n3 : ¬ ((n + 1 : Nat) : Int) > IntKind.i64.max := by
      have e1 : IntKind.i64.max = 9223372036854775807 := by decide
      rw [e1]; omega
    have n4 : ¬ Builtin.nextslicecap (n + 1) n * f.bytes > 2 ^ 48 := by
      have := nextslicecap_le (n + 1) n (by omega)
      have := Nat.mul_le_mul_right f.bytes this
      rw [Nat.mul_assoc] at this
      omega
    have r1' : (Builtin.firstCells f.size 1 (.slice ady 1 capy)).run P E.drew.w = .ok arrx E.drew.w := by have := r1; rw [vy] at this; exact this
    have vy' : a.eval y = .slice ady 1 capy := vy
    simp only [Builtin.append_, List.getElem?_toArray, List.getElem?_cons_zero, List.getElem?_cons_succ, Sem.run_bind, run_under h1, run_size h4, run_under hue, Result.andThen_ok, Sem.run_pure, vx, vy', Builtin.lenOf, n2, n3, n4, if_true, if_false, run_tinfo h4,
      Bool.not_false, Bool.false_eq_true, run_zero h4 h6, hc6', run_ask, s1, r1', Go.newRow, run_newObj, false_and]
    rfl
  have hv : VRel (E.drew.ext.newRow E.H.length arr e (oc ++ e1.cells ++ (List.replicate (c - (n + 1)) (ofConst zv).cells).flatten)).view (.slice (some ⟨E.w.heap.size, 0, none⟩) (n + 1) c) (.msl E.H.length 0 (n + 1) c) := by
    have := VRel.msl (V := (E.drew.ext.newRow E.H.length arr e (oc ++ e1.cells ++ (List.replicate (c - (n + 1)) (ofConst zv).cells).flatten)).view) E.H.length 0 (n + 1) c
      ⟨.row _, by rw [hH', List.getElem?_append_right (Nat.le_refl _), Nat.sub_self]; rfl, by simp⟩ hcm
    simpa [Env.view, Env.newRow, Env.drew, Env.ext] using this
  refine wpList_cons (awanted_sound ht hw) ?_
  unfold Oper.wp
  rw [run1]
  show wpList P ops _ _ (a.put o.dst _) _
  have hle := E.drew_le.trans hle'
  have hn := h c _ hc7 hcm rfl _ _ hok' hH' ((ht.mono hle.view).put o.dst hv)
  exact wpList_mono (fun e a w hl => lift_mono (hle.leN nb) (fun _ _ _ q => q) hl) l _ _ hn
theorem aops_appIn {o : Oper} {l : List Oper} {T : Slots} {H : Heap} {x y : Operand} {t u : TypeId} {ei : TypeId × TI} {e1 : PV} {tl : Tail} {id n c : Nat} {cs : List PV} (hid : H[id]? = some (.row cs)) (hw : awanted ops.toList T N o = some true)
    (hop : o.op = .call ⟨.builtin .append, #[x, y], #[t, u]⟩) (okx : okOpnd N x = true) (oky : okOpnd N y = true) (hx : aev T x = .msl id 0 n c) (hy : aev T y = .slice [e1] tl) (hn : n + 1 ≤ c) (hcs : cs.length = c * ei.2.sz)
    (hxs : e1.cells.length = ei.2.sz) (hcell : e1.cells.all PV.isCell = true)
    (hte : telem P t = some ei) (htu : (telem P u).isSome = true)
    (h : AOps P N nb ops Q l (updO T o.dst (.msl id 0 (n + 1) c)) (H.set id (.row (splice cs (n * ei.2.sz) e1.cells)))) : AOps P N nb ops Q (o :: l) T H := by
  refine aops_done hw (fun E a ho hH ht => ?_) h
  subst hH
  obtain ⟨e, i⟩ := ei
  obtain ⟨h1, h2⟩ := telem_some hte
  obtain ⟨dd, f, h3, h4, rfl⟩ := tinfo_some h2
  simp only at hxs hcs ⊢
  obtain ⟨eu, hue⟩ := telem_isSome htu
  have hvx := vrel_eval ht x okx
  have hvy := vrel_eval ht y oky
  rw [hx] at hvx
  rw [hy] at hvy
  have hxs' : ∀ q ∈ [e1], q.cells.length = f.size := fun q hq => by rw [List.mem_singleton.1 hq]; exact hxs
  obtain ⟨arrx, r1, r2, ady, capy, vy, hcy1, hcy2, _⟩ := run_first (P := P) (E := E) hvy hxs'
  have hfe : flatE [e1] = e1.cells := by simp [flatE]
  rw [hfe] at r2
  have vx : a.eval x = .slice (some ⟨E.ρ id, 0, none⟩) n c ∧ c ≤ maxLen ∧ E.view.born id := by
    generalize a.eval x = w at hvx
    cases hvx with
    | msl _ _ _ _ hbn hm => exact ⟨rfl, hm, hbn⟩
  obtain ⟨vx, hcm, hbn⟩ := vx
  obtain ⟨E', e1', e2, e3, e4⟩ := storeRow (P := P) (id := id) (off := n * f.size) arrx.toList e1.cells 0 E cs ho hid (by rw [Array.length_toList]; exact r2.1) (fun j hj => by
    have := r2.2 j hj
    rw [Array.getD_eq_getD_getElem?] at this
    rw [List.getD_eq_getElem?_getD, Array.getElem?_toList]; exact this) hcell (by
      rw [Array.length_toList, r2.1, hxs, hcs]
      have : (n + 1) * f.size ≤ c * f.size := Nat.mul_le_mul_right _ hn
      rw [Nat.add_mul] at this; omega)
  refine ⟨E', .slice (some ⟨E.ρ id, 0, none⟩) (n + 1) c, .inl ?_, e2, e3, by rw [e4, Nat.add_zero], ?_⟩
  · unfold execOp
    rw [hop]
    simp only
    refine (run_builtin (c := ⟨.builtin .append, #[x, y], #[t, u]⟩) (a := a) (E := E) (P := P) (xs := [x, y]) (ts := [t, u]) (ty := o.type) rfl rfl rfl (s := Builtin.append_ #[t, u] o.type #[a.eval x, a.eval y]) rfl).trans ?_
    have r1' : (Builtin.firstCells f.size 1 (.slice ady 1 capy)).run P E.w = .ok arrx E.w := by have := r1; rw [vy] at this; exact this
    have vy' : a.eval y = .slice ady 1 capy := vy
    have hadd : (⟨E.ρ id, 0, none⟩ : Addr).add (n * f.size) = ⟨E.ρ id, n * f.size, none⟩ := by rw [add_plain, Nat.zero_add]
    simp only [Builtin.append_, List.getElem?_toArray, List.getElem?_cons_zero, List.getElem?_cons_succ, Sem.run_bind, run_under h1, run_size h4, run_under hue, Result.andThen_ok, Sem.run_pure, vx, vy', Builtin.lenOf, hn, if_true, if_false,
      Bool.not_false, Bool.false_eq_true, r1', hadd, e1']
  · have := VRel.msl (V := E'.view) id 0 (n + 1) c (e2.view.born id hbn) hcm
    rw [e2.view.rho id hbn] at this
    exact this
theorem first_msl {E : Env} {v : Value} {id n sz : Nat} {cs : List PV} (ho : E.Ok) (hid : E.H[id]? = some (.row cs)) (hcs : cs.length = n * sz) (hv : VRel E.view v (.msl id 0 n n)) : ∃ ad, v = .slice ad n n ∧ ∃ arrs, (Builtin.firstCells sz n (.slice ad n n)).run P E.w = .ok arrs E.w ∧ RL E.view arrs cs := by
  cases hv with
  | msl _ _ _ _ hbn hm =>
    obtain ⟨arr, elem, h1, h2, h3, h4⟩ := ho.rows id cs hid
    refine ⟨_, rfl, _, run_loadCells E.w ⟨E.ρ id, 0, none⟩ (n * sz) (fun k => arr.getD k undef) (fun k hk => ?_), ⟨by simp [hcs], fun i hi => ?_⟩⟩
    · rw [add_plain, Nat.zero_add, cell_row h1, Array.getD_eq_getD_getElem?, Array.getElem?_eq_getElem (by omega)]; rfl
    · rw [Array.getD_eq_getD_getElem?]
      have hi' : i < n * sz := by omega
      simp only [List.getElem?_toArray, List.getElem?_map, List.getElem?_range hi', Option.map_some, Option.getD_some]
      exact h3 i hi
end
end Go.Abs
namespace Go.Abs
structure IIAt (P : Program) (t : TypeId) where
  f0 : Field
  f1 : Field
  ut : P.underlying t = some (.struct #[f0, f1])
  held : P.stoodInHeld t = false
  n0 : f0.name ≠ "_"
  n1 : f1.name ≠ "_"
  o0 : f0.offset = 0
  o1 : f1.offset = 1
  u0 : P.underlying f0.type = some (.int .i64)
  u1 : P.underlying f1.type = some (.int .i64)
  a0 : ∀ w, (isAgg f0.type).run P w = .ok false w
  a1 : ∀ w, (isAgg f1.type).run P w = .ok false w
  gu : P.eqGuardType P.depth t = false
section
variable {P : Program} {N nb : Nat} {ops : Array Oper} {Q : Post} {o : Oper} {l : List Oper} {T : Slots} {G : Nat → Bool} {H : Heap} {t y' : TypeId} {x y : Operand} {a b c d : Int}
end
end Go.Abs
namespace Go.Abs
open Go.ChangeMaps (setBlock)
section
variable {P : Program} {N nb : Nat} {ops : Array Oper} {Q : Post}
theorem MRel.length {V : View} : ∀ {ms : List MapEntry} {es : List (Int × PV)}, MRel V ms es → ms.length = es.length
  | [], [], _ => rfl
  | m :: ms, e :: es, h => by rw [List.length_cons, List.length_cons, MRel.length h.2.2]
  | [], _ :: _, h => h.elim
  | _ :: _, [], h => h.elim
theorem MRel.get {V : View} : ∀ {ms : List MapEntry} {es : List (Int × PV)}, MRel V ms es → ∀ (i : Nat) (h : i < ms.length) (h' : i < es.length), ms[i].key = .int .i64 es[i].1 ∧ VRel V ms[i].val es[i].2
  | m :: ms, e :: es, h, 0, _, _ => ⟨h.1, h.2.1⟩
  | m :: ms, e :: es, h, i + 1, h1, h2 => MRel.get h.2.2 i _ _
  | [], [], _, i, h, _ => absurd h (Nat.not_lt_zero _)
  | [], _ :: _, h, _, _, _ => h.elim
  | _ :: _, [], h, _, _, _ => h.elim
end
end Go.Abs
namespace Go.Abs
structure World.Re (w w' : World) (b : Nat) : Prop where
  os : w'.os = w.os
  tape : w'.tape = w.tape
  output : w'.output = w.output
  size : w.heap.size ≤ w'.heap.size
  other : ∀ x, x < w.heap.size → x ≠ b → w'.heap[x]? = w.heap[x]?
section
variable {E : Env} (h : E.Ok) {id : Nat} {cs : List PV} (hi : E.H[id]? = some (.row cs)) {w' : World} (ht : World.Re E.w w' (E.ρ id)) (cs' : List PV)
include h hi ht
end
end Go.Abs
namespace Go.Abs
section
variable {P : Program} {N nb : Nat} {Q : Post}
end
end Go.Abs
namespace Go.Abs
structure TraceS (P : Program) (N : Nat) (ops : Array Oper) (m : Nat) (S : List Stp) (x : Slots × Heap) : Prop where
  ops_eq : ∀ i s, S[i]? = some s → ops.toList[m + i]? = some s.o
  rob : ∀ i s, S[i]? = some s → Rob P N ops s.o (runD (fun j => decide (j < m + i)) m S x).1 (runD (fun j => decide (j < m + i)) m S x).2 s.v s.eff s.rd
  own : ∀ s ∈ S, ∀ e ∈ s.eff, e.1 ∈ s.rd
  apart : ∀ i j s s', i < j → S[i]? = some s → S[j]? = some s' → ((bmasks ops.toList).getD (m + j) 0).testBit (m + i) = true ∨ ((∀ e ∈ s.eff, e.1 ∉ s'.rd) ∧ ∀ e ∈ s'.eff, e.1 ∉ s.rd)
section
variable {P : Program} {N nb : Nat} {ops : Array Oper} {S : List Stp} {x : Slots × Heap}
theorem draw_seg {m : Nat} {K : Exit → Act → World → Prop} (hb : edgesBack ops.toList = true) (hs : slotsApart ops.toList (bmasks ops.toList) = true) (tr : TraceS P N ops m S x) (hmS : m + S.length ≤ ops.size)
    (hbar : ∀ j i, m + S.length ≤ j → j < ops.size → m ≤ i → i < m + S.length → ((bmasks ops.toList).getD j 0).testBit i = true) (E0 : Env)
    (hnext : ∀ (fuel t : Nat) (listed : Array Bool) (E : Env) (a : Act), listed.size = ops.size → ((List.range ops.size).filter fun i => !listed.getD i true).length ≤ fuel → (∀ j, j < ops.size → listed.getD j false = decide (j < m + S.length)) →
      E0.leN nb E → E.Ok → E.H = (runD (fun _ => true) m S x).2 → TRel E.view N a (runD (fun _ => true) m S x).1 → wpOps P ops K (goRem ops fuel t listed) a E.w) :
    ∀ (q fuel t : Nat) (listed : Array Bool) (E : Env) (a : Act), listed.size = ops.size → ((List.range ops.size).filter fun i => !listed.getD i true).length ≤ fuel → ((List.range ops.size).filter fun i => !listed.getD i true).length ≤ q →
      (∀ j o, ops.toList[j]? = some o → listed.getD j false = true → ∀ e ∈ o.after.toList, Region.binds .any e = true → listed.getD e.on false = true) →
      (∀ j, j < m → listed.getD j false = true) → (∀ j, m + S.length ≤ j → listed.getD j false = false) →
      E0.leN nb E → E.Ok → E.H = (runD (fun j => listed.getD j false) m S x).2 → TRel E.view N a (runD (fun j => listed.getD j false) m S x).1 → wpOps P ops K (goRem ops fuel t listed) a E.w := by
  intro q
  induction q with
  | zero =>
    intro fuel t listed E a hsz hcnt hq hcl hlo hhi hle ho hH ht
    have hall : ∀ j, j < ops.size → listed.getD j false = true := by
      intro j hj
      cases hqq : listed.getD j false with
      | true => rfl
      | false =>
        have hm : j ∈ (List.range ops.size).filter fun i => !listed.getD i true := by
          rw [List.mem_filter]
          refine ⟨List.mem_range.2 (by omega), ?_⟩
          rw [Array.getD_eq_getD_getElem?, Array.getElem?_eq_getElem (by omega)] at hqq ⊢
          simpa using hqq
        have := List.length_pos_of_mem hm; omega
    have hend : ops.size ≤ m + S.length := by
      rcases Nat.lt_or_ge (m + S.length) ops.size with h | h
      · have h1 := hall _ h
        rw [hhi _ (Nat.le_refl _)] at h1; cases h1
      · exact h
    rw [runD_congr (D' := fun _ => true) S m x (fun j hj => by simpa using hall (m + j) (by omega))] at hH ht
    exact hnext fuel t listed E a hsz hcnt (fun j hj => by rw [hall j hj, decide_eq_true (by omega : j < m + S.length)]) hle ho hH ht
  | succ q ih =>
    intro fuel t listed E a hsz hcnt hq hcl hlo hhi hle ho hH ht
    by_cases hdone : ∀ j, j < m + S.length → listed.getD j false = true
    · rw [runD_congr (D' := fun _ => true) S m x (fun j hj => by simpa using hdone (m + j) (by omega))] at hH ht
      refine hnext fuel t listed E a hsz hcnt (fun j hj => ?_) hle ho hH ht
      rcases Nat.lt_or_ge j (m + S.length) with h | h
      · rw [hdone j h, decide_eq_true h]
      · rw [hhi j h, decide_eq_false (by omega)]
    · have hex : ∃ j, j < ops.size ∧ listed.getD j false = false := by
        apply Classical.byContradiction
        intro hno
        apply hdone
        intro j hj
        cases hqq : listed.getD j false with
        | true => rfl
        | false => exact (hno ⟨j, by omega, hqq⟩).elim
      obtain ⟨j0, ⟨hj0, hl0⟩, hmin⟩ := nat_least hex
      have hdT : ∀ (j : Nat), j < ops.size → ∀ b c : Bool, listed.getD j b = listed.getD j c := by
        intro j hj b c
        rw [Array.getD_eq_getD_getElem?, Array.getD_eq_getD_getElem?, Array.getElem?_eq_getElem (by omega)]; rfl
      have hfuel : ∃ f, fuel = f + 1 := by
        have hm : j0 ∈ (List.range ops.size).filter fun i => !listed.getD i true := by
          rw [List.mem_filter]
          exact ⟨List.mem_range.2 hj0, by rw [hdT j0 hj0 true false, hl0]; rfl⟩
        have := List.length_pos_of_mem hm
        exact ⟨fuel - 1, by omega⟩
      obtain ⟨fuel, rfl⟩ := hfuel
      unfold goRem
      have hready : ready ops listed j0 = true := by
        unfold ready
        rw [hdT j0 hj0 true false, hl0, Array.getElem?_eq_getElem hj0]
        simp only [Bool.not_false, Bool.true_and, Option.map_some, Option.getD_some]
        rw [Array.all_eq_true']
        intro e he
        cases hbd : Region.binds .any e with
        | false => rfl
        | true =>
          have hon := edgesBack_spec hb (i := j0) (o := ops[j0]) (by simp [hj0]) (e := e) (by simpa using he) hbd
          simp only [Bool.not_true, Bool.false_or]
          cases hqq : listed.getD e.on false with
          | true => rfl
          | false => have := hmin e.on ⟨by omega, hqq⟩; omega
      have hne : (List.range ops.size).filter (ready ops listed) ≠ [] := by
        intro hnil
        have : j0 ∈ (List.range ops.size).filter (ready ops listed) := List.mem_filter.2 ⟨List.mem_range.2 hj0, hready⟩
        rw [hnil] at this; cases this
      have hpos : 0 < ((List.range ops.size).filter (ready ops listed)).length := List.length_pos_iff.2 hne
      have hlt := Nat.mod_lt t hpos
      rw [List.getElem?_eq_getElem hlt]
      simp only
      generalize hi : ((List.range ops.size).filter (ready ops listed))[t % ((List.range ops.size).filter (ready ops listed)).length] = i
      have him : i ∈ (List.range ops.size).filter (ready ops listed) := by rw [← hi]; exact List.getElem_mem hlt
      obtain ⟨him1, him2⟩ := List.mem_filter.1 him
      rw [List.mem_range] at him1
      unfold ready at him2
      rw [hdT i him1 true false, Array.getElem?_eq_getElem him1] at him2
      simp only [Bool.and_eq_true, Bool.not_eq_true', Option.map_some, Option.getD_some] at him2
      obtain ⟨hnl, hpre⟩ := him2
      rw [Array.all_eq_true'] at hpre
      have hso0 : ops.toList[i]? = some ops[i] := by rw [Array.getElem?_toList, Array.getElem?_eq_getElem him1]
      have hprei : ∀ e ∈ (ops[i]).after.toList, Region.binds .any e = true → listed.getD e.on false = true := by
        intro e he hbd
        have := hpre e (by simpa using he)
        rw [hbd] at this; simpa using this
      have hBfD : ∀ {k j : Nat}, Bf ops.toList k j → listed.getD j false = true → listed.getD k false = true := fun hbf hj => hbf.closed (listed := fun j => listed.getD j false) hcl hj
      have hBfI : ∀ {k : Nat}, Bf ops.toList k i → listed.getD k false = true := fun hbf => Bf.pre (listed := fun j => listed.getD j false) (i := i) (fun j o hoo hj e he hbd => by
        rcases hj with hj | rfl
        · exact hcl j o hoo hj e he hbd
        · rw [hso0] at hoo; cases hoo; exact hprei e he hbd) hbf
      have hbmB : ∀ {k j : Nat}, ((bmasks ops.toList).getD j 0).testBit k = true → Bf ops.toList k j := fun h => (bmasks_sound ops.toList _ ops.toList [] rfl (by simp)).2 _ _ h
      have hge : m ≤ i := by
        rcases Nat.lt_or_ge i m with h | h
        · rw [hlo i h] at hnl; cases hnl
        · exact h
      have hltS : i < m + S.length := by
        rcases Nat.lt_or_ge i (m + S.length) with h | h
        · exact h
        · exact (hdone fun j hj => by
            rcases Nat.lt_or_ge j m with h1 | h1
            · exact hlo j h1
            · exact hBfI (hbmB (hbar i j h him1 h1 hj))).elim
      obtain ⟨d, rfl⟩ : ∃ d, i = m + d := ⟨i - m, by omega⟩
      obtain ⟨s, hs_i⟩ : ∃ s, S[d]? = some s := ⟨S[d]'(by omega), List.getElem?_eq_getElem _⟩
      have hop := tr.ops_eq
      have hso := hop d s hs_i
      have hop_i : ops[m + d]? = some s.o := by rw [Array.getElem?_toList] at hso; exact hso
      have hso' : ops[m + d] = s.o := by rw [Array.getElem?_eq_getElem him1] at hop_i; simpa using hop_i
      have hun1 : ∀ j, m + d < j → listed.getD j false = true → ((bmasks ops.toList).getD j 0).testBit (m + d) = false := by
        intro j hij hj
        cases hqq : ((bmasks ops.toList).getD j 0).testBit (m + d) with
        | false => rfl
        | true => have := hBfD (hbmB hqq) hj; rw [hnl] at this; cases this
      have hun2 : ∀ k, k < m + d → listed.getD k false = false → ((bmasks ops.toList).getD (m + d) 0).testBit k = false := by
        intro k hki hk
        cases hqq : ((bmasks ops.toList).getD (m + d) 0).testBit k with
        | false => rfl
        | true => have := hBfI (hbmB hqq); rw [hk] at this; cases this
      let D : Nat → Bool := fun j => listed.getD j false
      have hslot : ∀ t ∈ otmps ops.toList s.o, (runD D m S x).1 t = (runD (fun j => decide (j < m + d)) m S x).1 t := by
        intro t htm
        refine runD_slot S m x x rfl (fun j s' hj hD => ?_)
        have hoj := hop j s' hj
        by_cases hji : m + j < m + d
        · have hDj : D (m + j) = false := by
            cases hqq : D (m + j) with
            | false => rfl
            | true => rw [hqq] at hD; simp [hji] at hD
          exact (slotsApart_spec hs hji hoj hso (hun2 _ hji hDj)).2.1 t htm
        · have hDj : D (m + j) = true := by
            cases hqq : D (m + j) with
            | true => rfl
            | false => rw [hqq] at hD; simp [hji] at hD
          have hne : m + j ≠ m + d := by intro e; rw [e, show D (m + d) = false from hnl] at hDj; cases hDj
          exact (slotsApart_spec hs (by omega : m + d < m + j) hso hoj (hun1 _ (by omega) hDj)).2.2 t htm
      have hheap : ∀ id ∈ s.rd, (runD D m S x).2[id]? = (runD (fun j => decide (j < m + d)) m S x).2[id]? := by
        intro id hid
        refine runD_heap S m x x rfl rfl (fun j s' hj hD e he heq => ?_)
        by_cases hji : m + j < m + d
        · have hDj : D (m + j) = false := by
            cases hqq : D (m + j) with
            | false => rfl
            | true => rw [hqq] at hD; simp [hji] at hD
          rcases tr.apart j d s' s (by omega) hj hs_i with h | h
          · rw [hun2 _ hji hDj] at h; cases h
          · exact h.1 e he (heq ▸ hid)
        · have hDj : D (m + j) = true := by
            cases hqq : D (m + j) with
            | true => rfl
            | false => rw [hqq] at hD; simp [hji] at hD
          have hne : m + j ≠ m + d := by intro e; rw [e, show D (m + d) = false from hnl] at hDj; cases hDj
          rcases tr.apart d j s s' (by omega) hs_i hj with h | h
          · rw [hun1 _ (by omega) hDj] at h; cases h
          · exact h.2 e he (heq ▸ hid)
      have hlenr : (runD D m S x).2.length = (runD (fun j => decide (j < m + d)) m S x).2.length := by rw [runD_len, runD_len]
      have hins : runD (fun j => (listed.setIfInBounds (m + d) true).getD j false) m S x = s.app (runD D m S x) := by
        rw [← runD_insert D (i := m + d) hnl S m x s (by omega) (by rw [show m + d - m = d by omega]; exact hs_i)]
        · refine runD_congr S m x (fun j hj => ?_)
          simp only [D]
          rw [Array.getD_eq_getD_getElem?, Array.getD_eq_getD_getElem?]
          by_cases e : m + j = m + d
          · rw [e, Array.getElem?_setIfInBounds_self_of_lt (by omega)]; simp
          · rw [Array.getElem?_setIfInBounds_ne (fun q => e q.symm)]
            have : (m + j == m + d) = false := by simpa using e
            rw [this]; simp
        · intro j s' hij hj hDj
          have hb' := hun1 _ hij hDj
          refine ⟨(slotsApart_spec hs hij hso (hop j s' hj) hb').1, fun e he y hy heq => ?_⟩
          rcases tr.apart d j s s' (by omega) hs_i hj with h | h
          · rw [hb'] at h; cases h
          · exact h.1 e he (heq ▸ tr.own s' (List.mem_of_getElem? hj) y hy)
      have hcnt0 : ((List.range ops.size).filter fun k => !(listed.setIfInBounds (m + d) true).getD k true).length < ((List.range ops.size).filter fun k => !listed.getD k true).length := by
        have e1 : (List.range ops.size).filter (fun k => !(listed.setIfInBounds (m + d) true).getD k true) = ((List.range ops.size).filter fun k => !listed.getD k true).filter fun k => k != m + d := by
          rw [List.filter_filter]
          apply List.filter_congr
          intro k hk
          rw [Array.getD_eq_getD_getElem?, Array.getD_eq_getD_getElem?]
          by_cases e : k = m + d
          · rw [e, Array.getElem?_setIfInBounds_self_of_lt (by omega)]; simp
          · rw [Array.getElem?_setIfInBounds_ne (fun q => e q.symm)]; simp [e]
        rw [e1]
        refine List.length_filter_lt_length_iff_exists.2 ⟨m + d, ?_, by simp⟩
        rw [List.mem_filter]
        exact ⟨List.mem_range.2 him1, by rw [hdT _ him1 true false, hnl]; rfl⟩
      have hup : ∀ k, listed.getD k false = true → (listed.setIfInBounds (m + d) true).getD k false = true := by
        intro k hk
        rw [Array.getD_eq_getD_getElem?] at hk ⊢
        by_cases q : k = m + d
        · rw [q, Array.getElem?_setIfInBounds_self_of_lt (by omega)]; rfl
        · rw [Array.getElem?_setIfInBounds_ne (fun z => q z.symm)]; exact hk
      have hdn : ∀ k, k ≠ m + d → (listed.setIfInBounds (m + d) true).getD k false = listed.getD k false := by
        intro k hk
        rw [Array.getD_eq_getD_getElem?, Array.getElem?_setIfInBounds_ne (fun z => hk z.symm), ← Array.getD_eq_getD_getElem?]
      have hcl' : ∀ j o, ops.toList[j]? = some o → (listed.setIfInBounds (m + d) true).getD j false = true → ∀ e ∈ o.after.toList, Region.binds .any e = true → (listed.setIfInBounds (m + d) true).getD e.on false = true := by
        intro j o hoo hj e he hbd
        apply hup
        by_cases q : j = m + d
        · subst q; rw [hso] at hoo; cases hoo; exact hprei e (by rw [hso']; exact he) hbd
        · rw [hdn j q] at hj
          exact hcl j o hoo hj e he hbd
      have hlo' : ∀ j, j < m → (listed.setIfInBounds (m + d) true).getD j false = true := fun j hj => hup j (hlo j hj)
      have hhi' : ∀ j, m + S.length ≤ j → (listed.setIfInBounds (m + d) true).getD j false = false := fun j hj => by rw [hdn j (by omega)]; exact hhi j hj
      have hrob := tr.rob d s hs_i (runD D m S x).1 (runD D m S x).2 hslot hheap hlenr E a ho hH ht
      refine wpOps_cons hop_i ?_
      rcases hrob with ⟨hw, he0, hv0⟩ | ⟨hw, hgo⟩
      · rw [if_neg (by rw [hw]; simp)]
        refine ih _ _ _ E _ (by simp [hsz]) (by omega) (by omega) hcl' hlo' hhi' hle ho ?_ ?_
        · rw [hins]; simp only [Stp.app, he0, effs, List.foldl_nil]; exact hH
        · rw [hins]; simp only [Stp.app]
          rcases hv0 with e | e
          · rw [e]; exact ht.put s.o.dst (.junk _)
          · rw [e]; exact ht.put s.o.dst (.tup _ _ rfl (fun i h => absurd h (by simp)))
      · rw [if_pos hw]
        refine hgo _ _ (fun E' val hle' ho' hH' hv' => ?_)
        refine ih _ _ _ E' _ (by simp [hsz]) (by omega) (by omega) hcl' hlo' hhi' (hle.trans (hle'.leN nb)) ho' ?_ ?_
        · rw [hins]; simp only [Stp.app]; exact hH'
        · rw [hins]; simp only [Stp.app]; exact (ht.mono hle'.view).put s.o.dst hv'
def DSeg (P : Program) (N : Nat) (ops : Array Oper) (nx : Slots → Heap → Prop) : Nat → List Oper → Prev → Slots → Heap → Prop
  | _, [], _, T, H => nx T H
  | k, o :: l, prev, T, H => ∃ v eff rd, Rob P N ops o T H v eff rd ∧ (∀ e ∈ eff, e.1 ∈ rd) ∧
      (∀ p ∈ prev, ((bmasks ops.toList).getD k 0).testBit p.1 = true ∨ ((∀ id ∈ p.2.2, id ∉ rd) ∧ ∀ e ∈ eff, e.1 ∉ p.2.1)) ∧
      DSeg P N ops nx (k + 1) l (prev ++ [(k, rd, eff.map (·.1))]) (updO T o.dst v) (effs H eff)
theorem dseg_trace {nx : Slots → Heap → Prop} {m : Nat} : ∀ (l : List Oper) (k : Nat) (prev : Prev) (S0 : List Stp), m + S0.length = k → (∀ i s, S0[i]? = some s → ops.toList[m + i]? = some s.o) → (∀ i o, l[i]? = some o → ops.toList[k + i]? = some o) →
    (∀ (i : Nat) (s : Stp), S0[i]? = some s → Rob P N ops s.o (runD (fun j => decide (j < m + i)) m S0 x).1 (runD (fun j => decide (j < m + i)) m S0 x).2 s.v s.eff s.rd) →
    (∀ s ∈ S0, ∀ e ∈ s.eff, e.1 ∈ s.rd) →
    (∀ (i j : Nat) (s s' : Stp), i < j → S0[i]? = some s → S0[j]? = some s' → ((bmasks ops.toList).getD (m + j) 0).testBit (m + i) = true ∨ ((∀ e ∈ s.eff, e.1 ∉ s'.rd) ∧ ∀ e ∈ s'.eff, e.1 ∉ s.rd)) →
    (∀ (i : Nat) (s : Stp), S0[i]? = some s → (m + i, s.rd, s.eff.map (·.1)) ∈ prev) →
    DSeg P N ops nx k l prev (runD (fun _ => true) m S0 x).1 (runD (fun _ => true) m S0 x).2 →
    ∃ S, S.length = S0.length + l.length ∧ TraceS P N ops m S x ∧ nx (runD (fun _ => true) m S x).1 (runD (fun _ => true) m S x).2
  | [], k, prev, S0, hk, ho, ho2, h1, h2, h3, h4, hd => ⟨S0, rfl, ⟨ho, h1, h2, h3⟩, hd⟩
  | o :: l, k, prev, S0, hk, ho, ho2, h1, h2, h3, h4, hd => by
    obtain ⟨v, eff, rd, hr, how, hap, hd'⟩ := hd
    let s : Stp := ⟨o, v, eff, rd⟩
    have hpre : ∀ i, m + i ≤ k → runD (fun j => decide (j < m + i)) m (S0 ++ [s]) x = runD (fun j => decide (j < m + i)) m S0 x := by
      intro i hi
      rw [runD_append]
      exact runD_none _ _ _ (fun j hj => by simp at hj; subst hj; simp; omega)
    have hfull : runD (fun j => decide (j < k)) m S0 x = runD (fun _ => true) m S0 x := runD_congr S0 m x (fun j hj => by simp; omega)
    have hext : runD (fun _ => true) m (S0 ++ [s]) x = s.app (runD (fun _ => true) m S0 x) := by
      rw [runD_append]; rfl
    have hk1 : m + (S0 ++ [s]).length = k + 1 := by rw [List.length_append, List.length_singleton]; omega
    have key := dseg_trace l (k + 1) (prev ++ [(k, rd, eff.map (·.1))]) (S0 ++ [s]) hk1 ?_ (fun i o' h => by have := ho2 (i + 1) o' (by simpa using h); rw [show k + 1 + i = k + (i + 1) by omega]; exact this) ?_ ?_ ?_ ?_ (by rw [hext]; exact hd')
    · obtain ⟨S, q1, q2, q3⟩ := key
      refine ⟨S, ?_, q2, q3⟩
      rw [q1, List.length_append, List.length_singleton, List.length_cons]; omega
    · intro i s' hs'
      by_cases hi : i < S0.length
      · rw [List.getElem?_append_left hi] at hs'; exact ho i s' hs'
      · have hik : i = S0.length := by have := len_of_get hs'; simp at this; omega
        subst hik
        rw [List.getElem?_append_right (Nat.le_refl _)] at hs'
        simp at hs'
        subst hs'
        have := ho2 0 o rfl
        rw [hk]; simpa using this
    · intro i s' hs'
      by_cases hi : i < S0.length
      · rw [List.getElem?_append_left hi] at hs'
        rw [hpre i (by omega)]
        exact h1 i s' hs'
      · have hik : i = S0.length := by have := len_of_get hs'; simp at this; omega
        subst hik
        rw [List.getElem?_append_right (Nat.le_refl _)] at hs'
        simp at hs'
        subst hs'
        rw [hpre _ (by omega), hk, hfull]
        exact hr
    · intro s' hs'
      rcases List.mem_append.1 hs' with hs' | hs'
      · exact h2 s' hs'
      · simp at hs'; subst hs'; exact how
    · intro i j s1 s2 hij hs1 hs2
      have hi : i < S0.length := by have := len_of_get hs2; simp at this; omega
      rw [List.getElem?_append_left hi] at hs1
      by_cases hj : j < S0.length
      · rw [List.getElem?_append_left hj] at hs2
        exact h3 i j s1 s2 hij hs1 hs2
      · have hjk : j = S0.length := by have := len_of_get hs2; simp at this; omega
        subst hjk
        rw [List.getElem?_append_right (Nat.le_refl _)] at hs2
        simp at hs2
        subst hs2
        rw [hk]
        rcases hap _ (h4 i s1 hs1) with h | h
        · exact .inl h
        · refine .inr ⟨fun e he => h.1 _ (List.mem_map.2 ⟨e, he, rfl⟩), h.2⟩
    · intro i s' hs'
      by_cases hi : i < S0.length
      · rw [List.getElem?_append_left hi] at hs'
        exact List.mem_append.2 (.inl (h4 i s' hs'))
      · have hik : i = S0.length := by have := len_of_get hs'; simp at this; omega
        subst hik
        rw [List.getElem?_append_right (Nat.le_refl _)] at hs'
        simp at hs'
        subst hs'
        exact List.mem_append.2 (.inr (by simp [s, hk]))
def GoAt (P : Program) (N nb : Nat) (ops : Array Oper) (Q : Post) (k : Nat) (T : Slots) (H : Heap) : Prop :=
  ∀ (E0 : Env) (fuel t : Nat) (listed : Array Bool) (E : Env) (a : Act), listed.size = ops.size → ((List.range ops.size).filter fun i => !listed.getD i true).length ≤ fuel → (∀ j, j < ops.size → listed.getD j false = decide (j < k)) →
    E0.leN nb E → E.Ok → E.H = H → TRel E.view N a T → wpOps P ops (lift N nb E0 Q) (goRem ops fuel t listed) a E.w
variable {Q : Post} {T : Slots} {H : Heap}
theorem goat_closed {k : Nat} {listed : Array Bool} (hb : edgesBack ops.toList = true) (hsz : listed.size = ops.size) (hl : ∀ j, j < ops.size → listed.getD j false = decide (j < k)) :
    ∀ j o, ops.toList[j]? = some o → listed.getD j false = true → ∀ e ∈ o.after.toList, Region.binds .any e = true → listed.getD e.on false = true := by
  intro j o hj hlj e he hbd
  have hjs : j < ops.size := by have := len_of_get hj; simpa using this
  have hon := edgesBack_spec hb hj he hbd
  rw [hl j hjs] at hlj
  have := of_decide_eq_true hlj
  rw [hl e.on (by omega), decide_eq_true (by omega : e.on < k)]
theorem goat_end (h : Q .normal T H) : GoAt P N nb ops Q ops.size T H := by
  intro E0 fuel t listed E a hsz hcnt hl hle ho hH ht
  have hrs : (List.range ops.size).filter (ready ops listed) = [] := by
    rw [List.filter_eq_nil_iff]
    intro j hj
    rw [List.mem_range] at hj
    have := hl j hj
    rw [decide_eq_true hj, Array.getD_eq_getD_getElem?, Array.getElem?_eq_getElem (by omega)] at this
    unfold ready
    rw [Array.getD_eq_getD_getElem?, Array.getElem?_eq_getElem (by omega)]
    simp only [Option.getD_some] at this ⊢
    simp [this]
  have hnil : goRem ops fuel t listed = [] := by
    cases fuel with
    | zero => rfl
    | succ f => unfold goRem; rw [hrs]; rfl
  rw [hnil]
  exact ⟨E, T, rfl, hle, ho, ht, hH ▸ h⟩
theorem goat_seg {m n : Nat} (hb : edgesBack ops.toList = true) (hs : slotsApart ops.toList (bmasks ops.toList) = true) (hn : m + n ≤ ops.size)
    (hbar : ((List.range ops.size).all fun j => decide (j < m + n) || (List.range n).all fun i => ((bmasks ops.toList).getD j 0).testBit (m + i)) = true)
    (h : DSeg P N ops (GoAt P N nb ops Q (m + n)) m ((ops.toList.drop m).take n) [] T H) : GoAt P N nb ops Q m T H := by
  intro E0 fuel t listed E a hsz hcnt hl hle ho hH ht
  obtain ⟨S, q1, q2, q3⟩ := dseg_trace (x := (T, H)) (m := m) _ m [] [] (by simp) (fun i s h => by simp at h) (fun i o h => by
    rw [List.getElem?_take] at h
    split at h
    · rw [List.getElem?_drop] at h; exact h
    · cases h) (fun i s h => by simp at h) (fun s h => by simp at h) (fun i j s s' _ h => by simp at h) (fun i s h => by simp at h) h
  have hlen : S.length = n := by rw [q1]; simp; omega
  have hbar' : ∀ j i, m + S.length ≤ j → j < ops.size → m ≤ i → i < m + S.length → ((bmasks ops.toList).getD j 0).testBit i = true := by
    intro j i h1 h2 h3 h4
    rw [List.all_eq_true] at hbar
    have := hbar j (List.mem_range.2 h2)
    rw [decide_eq_false (by omega : ¬ j < m + n), Bool.false_or, List.all_eq_true] at this
    have := this (i - m) (List.mem_range.2 (by omega))
    rwa [show m + (i - m) = i by omega] at this
  have hD : runD (fun j => listed.getD j false) m S (T, H) = (T, H) := runD_none S m _ fun j hj => by rw [hl _ (by omega)]; exact decide_eq_false (by omega)
  refine draw_seg hb hs q2 (by omega) hbar' E0 ?_ _ fuel t listed E a hsz hcnt (Nat.le_refl _) (goat_closed hb hsz hl) (fun j hj => by rw [hl j (by omega)]; exact decide_eq_true hj) ?_ hle ho (by rw [hD]; exact hH) (by rw [hD]; exact ht)
  · intro fuel t listed E a hsz hcnt hl hle ho hH ht
    rw [hlen] at hl
    exact q3 E0 fuel t listed E a hsz hcnt hl hle ho hH ht
  · intro j hj
    rcases Nat.lt_or_ge j ops.size with h | h
    · rw [hl j h]; exact decide_eq_false (by omega)
    · rw [Array.getD_eq_getD_getElem?, Array.getElem?_eq_none (by omega)]; rfl
theorem goat_op {k : Nat} {o : Oper} (hb : edgesBack ops.toList = true) (hok : ops.toList[k]? = some o)
    (hbar : ((List.range ops.size).all fun j => decide (j ≤ k) || ((bmasks ops.toList).getD j 0).testBit k) = true)
    (h : AOps P N nb ops (thenQ (GoAt P N nb ops Q (k + 1)) Q) [o] T H) : GoAt P N nb ops Q k T H := by
  intro E0 fuel t listed E a hsz hcnt hl hle ho hH ht
  have hk : k < ops.size := by have := len_of_get hok; simpa using this
  have hdT : ∀ (j : Nat), j < ops.size → ∀ b c : Bool, listed.getD j b = listed.getD j c := by
    intro j hj b c
    rw [Array.getD_eq_getD_getElem?, Array.getD_eq_getD_getElem?, Array.getElem?_eq_getElem (by omega)]; rfl
  have hcl := goat_closed hb hsz hl
  have hok' : ops[k]? = some o := by rw [Array.getElem?_toList] at hok; exact hok
  have hbar' : ∀ j, k < j → j < ops.size → ((bmasks ops.toList).getD j 0).testBit k = true := by
    intro j h1 h2
    rw [List.all_eq_true] at hbar
    have := hbar j (List.mem_range.2 h2)
    rwa [decide_eq_false (by omega : ¬ j ≤ k), Bool.false_or] at this
  have hready : ∀ j, j < ops.size → ready ops listed j = decide (j = k) := by
    intro j hj
    rcases Nat.lt_trichotomy j k with hlt | rfl | hgt
    · rw [decide_eq_false (by omega : ¬ j = k)]
      unfold ready
      rw [hdT j hj true false, hl j hj, decide_eq_true hlt]; rfl
    · rw [decide_eq_true rfl]
      unfold ready
      rw [hdT j hj true false, hl j hj, decide_eq_false (Nat.lt_irrefl _), Array.getElem?_eq_getElem hj]
      simp only [Bool.not_false, Bool.true_and, Option.map_some, Option.getD_some]
      rw [Array.all_eq_true']
      intro e he
      cases hbd : Region.binds .any e with
      | false => rfl
      | true =>
        have hon := edgesBack_spec hb (i := j) (o := ops[j]) (by simp [hj]) (e := e) (by simpa using he) hbd
        rw [hl e.on (by omega), decide_eq_true hon]; rfl
    · rw [decide_eq_false (by omega : ¬ j = k)]
      cases hr : ready ops listed j with
      | false => rfl
      | true =>
        unfold ready at hr
        rw [hdT j hj true false, Array.getElem?_eq_getElem hj] at hr
        simp only [Bool.and_eq_true, Bool.not_eq_true', Option.map_some, Option.getD_some] at hr
        obtain ⟨_, hpre⟩ := hr
        rw [Array.all_eq_true'] at hpre
        have hso0 : ops.toList[j]? = some ops[j] := by rw [Array.getElem?_toList, Array.getElem?_eq_getElem hj]
        have hbf : Bf ops.toList k j := (bmasks_sound ops.toList _ ops.toList [] rfl (by simp)).2 _ _ (hbar' j hgt hj)
        have := Bf.pre (listed := fun j => listed.getD j false) (i := j) (fun j' o' hoo hj' e he hbd => by
          rcases hj' with hj' | rfl
          · exact hcl j' o' hoo hj' e he hbd
          · rw [hso0] at hoo; cases hoo
            have := hpre e (by simpa using he)
            rw [hbd] at this; simpa using this) hbf
        rw [hl k hk, decide_eq_false (Nat.lt_irrefl _)] at this; cases this
  have hfilt : (List.range ops.size).filter (ready ops listed) = [k] := by
    have e1 : (List.range ops.size).filter (ready ops listed) = (List.range ops.size).filter (fun j => decide (j = k)) := List.filter_congr fun j hj => hready j (List.mem_range.1 hj)
    rw [e1]
    have hnd : ((List.range ops.size).filter fun j => decide (j = k)).Nodup := List.nodup_range.sublist List.filter_sublist
    have hm : ∀ x, x ∈ (List.range ops.size).filter (fun j => decide (j = k)) ↔ x = k := by
      intro x
      rw [List.mem_filter, List.mem_range]
      constructor
      · rintro ⟨_, h⟩; exact of_decide_eq_true h
      · rintro rfl; exact ⟨hk, decide_eq_true rfl⟩
    generalize (List.range ops.size).filter (fun j => decide (j = k)) = L at hnd hm
    match L, hnd, hm with
    | [], _, hm => exact absurd ((hm k).2 rfl) (by simp)
    | [x], _, hm => rw [(hm x).1 (by simp)]
    | x :: y :: l, hnd, hm =>
      have h1 := (hm x).1 (by simp)
      have h2 := (hm y).1 (by simp)
      rw [List.nodup_cons] at hnd
      exact absurd (by rw [h1, h2]; simp) hnd.1
  have hfuel : ∃ f, fuel = f + 1 := by
    have hm : k ∈ (List.range ops.size).filter fun i => !listed.getD i true := by
      rw [List.mem_filter]
      exact ⟨List.mem_range.2 hk, by rw [hdT k hk true false, hl k hk, decide_eq_false (Nat.lt_irrefl _)]; rfl⟩
    have := List.length_pos_of_mem hm
    exact ⟨fuel - 1, by omega⟩
  obtain ⟨fuel, rfl⟩ := hfuel
  unfold goRem
  rw [hfilt]
  simp only [List.length_singleton, Nat.mod_one, List.getElem?_cons_zero, Nat.div_one]
  have hgk : listed.getD k true = false := by rw [hdT k hk true false, hl k hk, decide_eq_false (Nat.lt_irrefl _)]
  have hsz' : (listed.setIfInBounds k true).size = ops.size := by simp [hsz]
  have hl' : ∀ j, j < ops.size → (listed.setIfInBounds k true).getD j false = decide (j < k + 1) := by
    intro j hj
    rw [Array.getD_eq_getD_getElem?]
    by_cases e : j = k
    · subst e; rw [Array.getElem?_setIfInBounds_self_of_lt (by omega), decide_eq_true (by omega : j < j + 1)]; rfl
    · rw [Array.getElem?_setIfInBounds_ne (fun q => e q.symm), ← Array.getD_eq_getD_getElem?, hl j hj]
      by_cases h : j < k
      · rw [decide_eq_true h, decide_eq_true (by omega : j < k + 1)]
      · rw [decide_eq_false h, decide_eq_false (by omega : ¬ j < k + 1)]
  have hcnt' : ((List.range ops.size).filter fun i => !(listed.setIfInBounds k true).getD i true).length ≤ fuel := by
    have e1 : (List.range ops.size).filter (fun j => !(listed.setIfInBounds k true).getD j true) = ((List.range ops.size).filter fun j => !listed.getD j true).filter fun j => j != k := by
      rw [List.filter_filter]
      apply List.filter_congr
      intro j hj
      rw [Array.getD_eq_getD_getElem?, Array.getD_eq_getD_getElem?]
      by_cases e : j = k
      · rw [e, Array.getElem?_setIfInBounds_self_of_lt (by omega)]; simp
      · rw [Array.getElem?_setIfInBounds_ne (fun q => e q.symm)]; simp [e]
    have hm : k ∈ (List.range ops.size).filter fun i => !listed.getD i true := by
      rw [List.mem_filter]
      exact ⟨List.mem_range.2 hk, by rw [hgk]; rfl⟩
    have : ((List.range ops.size).filter fun i => !(listed.setIfInBounds k true).getD i true).length < ((List.range ops.size).filter fun i => !listed.getD i true).length := by
      rw [e1]
      exact List.length_filter_lt_length_iff_exists.2 ⟨k, hm, by simp⟩
    omega
  have hgo := h E a ho hH ht
  unfold wpList at hgo
  unfold wpOps
  rw [hok']
  simp only
  have hnorm : ∀ a w, lift N nb E (thenQ (GoAt P N nb ops Q (k + 1)) Q) .normal a w → wpOps P ops (lift N nb E0 Q) (goRem ops fuel t (listed.setIfInBounds k true)) a w := by
    rintro a w ⟨E', T', rfl, h2, h3, h4, h5⟩
    exact h5 E0 fuel t _ E' a hsz' hcnt' hl' (hle.trans h2) h3 rfl h4
  have hbad : ∀ e a w, e ≠ .normal → lift N nb E (thenQ (GoAt P N nb ops Q (k + 1)) Q) e a w → lift N nb E0 Q e a w := by
    intro e a w hne hx
    obtain ⟨E', T', h1, h2, h3, h4, h5⟩ := hx
    refine ⟨E', T', h1, hle.trans h2, h3, h4, ?_⟩
    cases e with
    | normal => exact (hne rfl).elim
    | _ => exact h5
  have hout : LetsOut (lift N nb E (thenQ (GoAt P N nb ops Q (k + 1)) Q)) → LetsOut (lift N nb E0 Q) := fun ⟨a, w, x⟩ => ⟨a, w, hbad _ _ _ (by simp) x⟩
  split at hgo
  · rename_i hw
    rw [if_pos hw]
    rcases hgo with hgo | ⟨h1, h2⟩
    · left
      unfold Oper.wp at hgo ⊢
      generalize (execOp a.eval o).run P E.w = r at hgo ⊢
      unfold Oper.upon at hgo ⊢
      split at hgo
      · exact hnorm _ _ hgo
      · exact hnorm _ _ hgo
      · exact hnorm _ _ hgo
      · refine hgo.mono fun e w'' he => ?_
        cases e with
        | returned v => exact hnorm _ _ he
        | panicked ch => exact hbad _ _ _ (by simp) he
        | outgrown => exact hout he
      · exact hgo.mono fun v w'' he => hnorm _ _ he
      · exact hbad _ _ _ (by simp) hgo
      · exact hgo.elim
    · exact .inr ⟨h1, hout h2⟩
  · rename_i hw
    rw [if_neg hw]
    exact hnorm _ _ hgo
theorem awp_drawB {id : Nat} (n : Nat) (hok : drawOk P ops.toList = true) (h : GoAt P N nb ops Q 0 T (H ++ List.replicate n .unborn)) : AWP P N nb (.region id ops true) Q T H := by
  refine awp_extN n ?_
  unfold drawOk at hok
  simp only [Bool.and_eq_true] at hok
  intro E a ho hH ht
  refine wp_region_draw fun t => ?_
  rw [hok.1.1]
  simp only [Region.schedule, Bool.true_or, if_true, Region.linearise, go_eq, List.reverse_nil, List.nil_append]
  refine h E ops.size t (Array.replicate ops.size false) E.drew a (by simp) (Nat.le_trans (List.length_filter_le _ _) (by simp)) (fun j hj => ?_) (E.drew_le.leN nb) ho.drew hH ht
  rw [Array.getD_eq_getD_getElem?, Array.getElem?_eq_getElem (by simpa using hj)]; simp
theorem dops_seg {nx : Slots → Heap → Prop} : ∀ (l : List Oper) (k : Nat) (prev : Prev) (T : Slots) (H : Heap), DOps P N ops (fun _ => nx) k l prev T H → DSeg P N ops nx k l prev T H
  | [], _, _, _, _, h => h
  | o :: l, k, prev, T, H, ⟨v, eff, rd, h1, h2, h3, h4⟩ => ⟨v, eff, rd, h1, h2, h3, dops_seg l _ _ _ _ h4⟩
def barL (m n : Nat) : Nat → List Nat → Bool
  | _, [] => true
  | j, b :: l => (Nat.blt j (m + n) || Nat.beq ((b / 2 ^ m) % 2 ^ n) (2 ^ n - 1)) && barL m n (j + 1) l
theorem barL_spec {m n : Nat} : ∀ (l : List Nat) (j0 : Nat), barL m n j0 l = true → ∀ j, j < l.length → m + n ≤ j0 + j → ∀ i, i < n → (l.getD j 0).testBit (m + i) = true
  | [], j0, h, j, hj, _, i, hi => absurd hj (by simp)
  | b :: l, j0, h, j, hj, hm, i, hi => by
    simp only [barL, Bool.and_eq_true, Bool.or_eq_true] at h
    cases j with
    | zero =>
      rcases h.1 with h1 | h1
      · have : j0 < m + n := by simpa [Nat.blt_eq] using h1
        omega
      · have h2 : (b / 2 ^ m) % 2 ^ n = 2 ^ n - 1 := by simpa using h1
        have h3 := congrArg (fun z => Nat.testBit z i) h2
        simp only [Nat.testBit_mod_two_pow, Nat.testBit_two_pow_sub_one, hi, decide_true, Bool.true_and, Nat.testBit_div_two_pow] at h3
        rw [List.getD_cons_zero, Nat.add_comm]; exact h3
    | succ j =>
      rw [List.getD_cons_succ]
      exact barL_spec l (j0 + 1) h.2 j (by simpa using hj) (by omega) i hi
theorem bmasks_len (l : List Oper) : (bmasks l).length = l.length := (bmasks_sound l _ l [] rfl (by simp)).1
theorem seg_draw {m : Nat} (n : Nat) {bm : List Nat} (hok : drawOk P ops.toList = true) (hn : decide (m + n ≤ ops.size) = true) (hbm : bmasks ops.toList = bm) (hbar : barL m n 0 bm = true)
    (h : DOps P N ops (fun _ => GoAt P N nb ops Q (m + n)) m ((ops.toList.drop m).take n) [] T H) : GoAt P N nb ops Q m T H := by
  unfold drawOk at hok
  simp only [Bool.and_eq_true] at hok
  refine goat_seg hok.1.2 hok.2 (of_decide_eq_true hn) ?_ (dops_seg _ _ _ _ _ h)
  rw [hbm, List.all_eq_true]
  intro j hj
  have hlen : bm.length = ops.size := by rw [← hbm, bmasks_len]; simp
  rcases Nat.lt_or_ge j (m + n) with h | h
  · rw [decide_eq_true h]; rfl
  · rw [decide_eq_false (by omega : ¬ j < m + n), Bool.false_or, List.all_eq_true]
    intro i hi
    exact barL_spec bm 0 hbar j (by rw [hlen]; exact List.mem_range.1 hj) (by omega) i (List.mem_range.1 hi)
theorem seg_op {k : Nat} {o : Oper} {bm : List Nat} (hok : drawOk P ops.toList = true) (ho : ops.toList[k]? = some o) (hbm : bmasks ops.toList = bm) (hbar : barL k 1 0 bm = true)
    (h : AOps P N nb ops (thenQ (GoAt P N nb ops Q (k + 1)) Q) [o] T H) : GoAt P N nb ops Q k T H := by
  unfold drawOk at hok
  simp only [Bool.and_eq_true] at hok
  refine goat_op hok.1.2 ho ?_ h
  rw [hbm, List.all_eq_true]
  intro j hj
  have hlen : bm.length = ops.size := by rw [← hbm, bmasks_len]; simp
  rcases Nat.lt_or_ge k j with h | h
  · rw [decide_eq_false (by omega : ¬ j ≤ k), Bool.false_or]
    exact barL_spec bm 0 hbar j (by rw [hlen]; exact List.mem_range.1 hj) (by omega) 0 (by omega)
  · rw [decide_eq_true h]; rfl
theorem GoAt.weak {k : Nat} {T2 : Slots} (h : GoAt P N nb ops Q k T2 H) (hw : ∀ i, T2 i = .junk ∨ T2 i = T i) : GoAt P N nb ops Q k T H :=
  fun E0 fuel t listed E a hsz hcnt hl hle ho hH ht => h E0 fuel t listed E a hsz hcnt hl hle ho hH (trel_weak ht hw)
theorem DSeg.mono {nx nx' : Slots → Heap → Prop} (hn : ∀ T H, nx T H → nx' T H) : ∀ (l : List Oper) (k : Nat) (prev : Prev) (T : Slots) (H : Heap), DSeg P N ops nx k l prev T H → DSeg P N ops nx' k l prev T H
  | [], _, _, _, _, h => hn _ _ h
  | o :: l, k, prev, T, H, ⟨v, eff, rd, h1, h2, h3, h4⟩ => ⟨v, eff, rd, h1, h2, h3, DSeg.mono hn l _ _ _ _ h4⟩
theorem seg_pure {m : Nat} (n : Nat) {bm : List Nat} (hok : drawOk P ops.toList = true) (hn : decide (m + n ≤ ops.size) = true) (hbm : bmasks ops.toList = bm) (hbar : barL m n 0 bm = true)
    (h : DP P N ops (fun _ => GoAt P N nb ops Q (m + n)) m ((ops.toList.drop m).take n) (msk (.tup []) T allG) H) : GoAt P N nb ops Q m T H := by
  have hok' := hok
  unfold drawOk at hok'
  simp only [Bool.and_eq_true] at hok'
  refine goat_seg hok'.1.2 hok'.2 (of_decide_eq_true hn) ?_ ?_
  · rw [hbm, List.all_eq_true]
    intro j hj
    have hlen : bm.length = ops.size := by rw [← hbm, bmasks_len]; simp
    rcases Nat.lt_or_ge j (m + n) with h | h
    · rw [decide_eq_true h]; rfl
    · rw [decide_eq_false (by omega : ¬ j < m + n), Bool.false_or, List.all_eq_true]
      intro i hi
      exact barL_spec bm 0 hbar j (by rw [hlen]; exact List.mem_range.1 hj) (by omega) i (List.mem_range.1 hi)
  · refine DSeg.mono ?_ _ _ _ _ _ (dops_seg _ _ _ _ _ (h [] (by intro p hp; cases hp)))
    rintro T1 H1 ⟨T2, h1, h2⟩
    exact h2.weak h1
end
end Go.Abs
set_option linter.unusedSectionVars false
namespace Go.Abs
def dead : AObj := .glob 0 []
def Env.frz1 (E : Env) (id : Nat) : Env := { E with κ := fun b => if b = E.ρ id then .fixed else E.κ b, H := E.H.set id dead }
section
variable {E : Env} (ho : E.Ok) {id : Nat} {cs : List PV} (hid : E.H[id]? = some (.row cs))
include ho hid
theorem Env.frz1_mut : E.κ (E.ρ id) = .mut := by obtain ⟨_, _, _, _, _, h⟩ := ho.rows id cs hid; exact h
theorem Env.frz1_get {x : Nat} (hx : x ≠ id) : (E.frz1 id).H[x]? = E.H[x]? := by
  show (E.H.set id dead)[x]? = _
  rw [List.getElem?_set_ne (Ne.symm hx)]
theorem Env.frz1_at : (E.frz1 id).H[id]? = some dead := by
  show (E.H.set id dead)[id]? = _
  rw [List.getElem?_set_self (len_of_get hid)]
theorem Env.frz1_row {x : Nat} {r : List PV} (h : (E.frz1 id).H[x]? = some (.row r)) : x ≠ id ∧ E.H[x]? = some (.row r) := by
  by_cases e : x = id
  · subst e; rw [Env.frz1_at ho hid] at h; cases h
  · exact ⟨e, by rw [← Env.frz1_get ho hid e]; exact h⟩
theorem Env.frz1_buf {x n sz : Nat} (h : (E.frz1 id).H[x]? = some (.buf n sz)) : E.H[x]? = some (.buf n sz) := by
  by_cases e : x = id
  · subst e; rw [Env.frz1_at ho hid] at h; cases h
  · rw [← Env.frz1_get ho hid e]; exact h
theorem Env.frz1_obj {x : Nat} {k : OKind} (h : (E.frz1 id).H[x]? = some (.obj k)) : x ≠ id ∧ E.H[x]? = some (.obj k) := by
  by_cases e : x = id
  · subst e; rw [Env.frz1_at ho hid] at h; cases h
  · exact ⟨e, by rw [← Env.frz1_get ho hid e]; exact h⟩
theorem Env.frz1_cell (a : Addr) (v : Value) (h : E.view.cell a = some v) : (E.frz1 id).view.cell a = some v := by
  simp only [Env.view] at h ⊢
  split at h
  · rename_i hs
    have : ((E.frz1 id).κ a.block).stable a.off = true := by
      simp only [Env.frz1]
      split
      · rfl
      · exact hs
    rw [if_pos this]; exact h
  · cases h
theorem Env.frz1_view : E.view.le (E.frz1 id).view := by
  refine ⟨Env.frz1_cell ho hid, fun x ⟨o, h1, h2⟩ => ?_, fun x _ => rfl, fun x t' _ ht => ⟨t', ?_, .inl rfl⟩⟩
  · by_cases e : x = id
    · subst e; exact ⟨dead, Env.frz1_at ho hid, by simp [dead]⟩
    · exact ⟨o, by rw [Env.frz1_get ho hid e]; exact h1, h2⟩
  · simp only [Env.view] at ht ⊢
    by_cases e : x = id
    · subst e; rw [Env.frz1_at ho hid] at ht; simp [dead] at ht
    · rw [Env.frz1_get ho hid e] at ht
      cases hx : E.H[x]? with
      | none => rw [hx] at ht; simp at ht
      | some o =>
        rw [hx] at ht
        cases o with
        | buf n sz =>
          simp only at ht ⊢
          rw [← ht]
          show some (TokI.mk n sz ((E.tb x).bind _)) = some (TokI.mk n sz ((E.tb x).bind _))
          cases htb : E.tb x with
          | none => rfl
          | some b =>
            simp only [Option.bind_some]
            obtain ⟨_, _, pos, _, hk⟩ := ho.bufs x n sz b hx htb
            have hne : b ≠ E.ρ id := fun e => by rw [e, Env.frz1_mut ho hid] at hk; cases hk
            have : (E.frz1 id).κ b = E.κ b := by simp only [Env.frz1]; rw [if_neg hne]
            rw [this]
        | _ => simp at ht
theorem Env.Ok.frz1 : (E.frz1 id).Ok := by
  have hv := Env.frz1_view ho hid
  refine ⟨?_, ?_, ?_, ?_, ?_, ⟨?_, ?_⟩⟩
  · intro x r hx
    obtain ⟨hne, hx⟩ := Env.frz1_row ho hid hx
    obtain ⟨arr, el, h1, h2, h3, h4⟩ := ho.rows x r hx
    refine ⟨arr, el, h1, h2, fun i hi => (h3 i hi).mono hv, ?_⟩
    show (if E.ρ x = E.ρ id then Kind.fixed else E.κ (E.ρ x)) = .mut
    rw [if_neg fun e => hne (ho.injr x id r cs hx hid e)]; exact h4
  · intro x n sz b hx hb
    have hx := Env.frz1_buf ho hid hx
    obtain ⟨arr, el, pos, h1, h2⟩ := ho.bufs x n sz b hx hb
    refine ⟨arr, el, pos, h1, ?_⟩
    show (if b = E.ρ id then Kind.fixed else E.κ b) = _
    rw [if_neg fun e => by rw [e, Env.frz1_mut ho hid] at h2; cases h2]; exact h2
  · intro x x' r r' hx hx' e
    exact ho.injr x x' r r' (Env.frz1_row ho hid hx).2 (Env.frz1_row ho hid hx').2 e
  · intro x x' n sz n' sz' b hx hx' hb hb'
    exact ho.injb x x' n sz n' sz' b (Env.frz1_buf ho hid hx) (Env.frz1_buf ho hid hx') hb hb'
  · intro x b vs hx i hi
    by_cases e : x = id
    · subst e
      rw [Env.frz1_at ho hid] at hx
      injection hx with hx
      injection hx with _ hx
      subst hx
      exact absurd hi (Nat.not_lt_zero _)
    · rw [Env.frz1_get ho hid e] at hx
      exact hv.cell _ _ (ho.globs x b vs hx i hi)
  · intro x k hx
    obtain ⟨hne, hx⟩ := Env.frz1_obj ho hid hx
    obtain ⟨⟨o, h1, h2⟩, h3⟩ := ho.objs.at_ x k hx
    refine ⟨⟨o, h1, h2.mono hv⟩, ?_⟩
    show (if E.ρ x = E.ρ id then Kind.fixed else E.κ (E.ρ x)) = .mut
    rw [if_neg fun e => by
      obtain ⟨arr, el, a1, _⟩ := ho.rows id cs hid
      rw [e, a1] at h1; cases h1
      exact h2.cells]
    exact h3
  · intro x x' k k' hx hx' e
    exact ho.objs.inj x x' k k' (Env.frz1_obj ho hid hx).2 (Env.frz1_obj ho hid hx').2 e
end
theorem Env.frz1_msl {E : Env} (ho : E.Ok) {v : Value} {id k c sz : Nat} {es : List PV} (h : VRel E.view v (.msl id 0 k c)) (hrow : E.H[id]? = some (.row (flatE es))) (hk : k ≤ es.length) (hkc : k ≤ c)
    (hes : ∀ e ∈ es, e.cells.length = sz) : VRel (E.frz1 id).view v (.slice (es.take k) .none) := by
  obtain ⟨arr, elem, h1, h2, h3, h4⟩ := ho.rows id _ hrow
  have hv := Env.frz1_view ho hrow
  cases h with
  | msl _ _ _ _ hbn hm =>
    have hlenf := flatE_length es hes
    have hfix : (E.frz1 id).κ (E.ρ id) = .fixed := by simp [Env.frz1]
    have hadd : ∀ n, (⟨E.ρ id, 0, none⟩ : Addr).add n = ⟨E.ρ id, n, none⟩ := by
      intro n; rw [add_plain]; simp
    have hbound : ∀ i j, i < k → j < sz → i * sz + j < es.length * sz := by
      intro i j hi hj
      have : (i + 1) * sz ≤ es.length * sz := Nat.mul_le_mul_right _ (by omega)
      rw [Nat.add_mul] at this; omega
    refine .slice _ k c sz (es.take k) .none (fun i j => arr.getD (i * sz + j) undef) (by rw [List.length_take]; omega) hkc hm (fun i hi => ?_) (fun i j hi hj => ?_) (fun i j hi hj => ?_) trivial
    · rw [List.getElem_take]; exact hes _ (List.getElem_mem _)
    · show (E.frz1 id).view.cell ((⟨E.ρ id, 0, none⟩ : Addr).add (i * sz + j)) = _
      rw [hadd]
      simp only [Env.view, hfix, Kind.stable, if_true]
      show E.w.cell? _ = _
      have := hbound i j hi hj
      rw [cell_row h1, Array.getD_eq_getD_getElem?, Array.getElem?_eq_getElem (by omega)]; rfl
    · have hi' : i < es.length := by rw [List.length_take] at hi; omega
      simp only [List.getElem_take] at hj ⊢
      have hj' : j < sz := by rw [hes _ (List.getElem_mem hi')] at hj; exact hj
      have hb := hbound i j (by rw [List.length_take] at hi; omega) hj'
      have hf : i * sz + j < (flatE es).length := by rw [hlenf]; exact hb
      have hr := (h3 (i * sz + j) hf).mono hv
      have he : (flatE es)[i * sz + j] = (es[i].cells)[j] := by
        have hget := flatE_get es hes i j hi' hj'
        rw [List.getElem?_eq_getElem hf, List.getElem?_eq_getElem (by rw [hes _ (List.getElem_mem _)]; exact hj')] at hget
        exact Option.some.inj hget
      rw [he] at hr
      exact hr
inductive Fz (id k : Nat) (es : List PV) : PV → PV → Prop
  | same (p : PV) : Fz id k es p p
  | msl (c : Nat) (h : k ≤ c) : Fz id k es (.msl id 0 k c) (.slice (es.take k) .none)
  | agg (ps qs : List PV) (hl : ps.length = qs.length) (h : ∀ i (h1 : i < ps.length) (h2 : i < qs.length), Fz id k es ps[i] qs[i]) : Fz id k es (.agg ps) (.agg qs)
theorem Fz.rel {E : Env} (ho : E.Ok) {id k sz : Nat} {es : List PV} (hrow : E.H[id]? = some (.row (flatE es))) (hk : k ≤ es.length) (hes : ∀ e ∈ es, e.cells.length = sz) {p q : PV} (h : Fz id k es p q) : ∀ {v : Value}, VRel E.view v p → VRel (E.frz1 id).view v q := by
  induction h with
  | same p => intro v hv; exact hv.mono (Env.frz1_view ho hrow)
  | msl c hc => intro v hv; exact Env.frz1_msl ho hv hrow hk hc hes
  | agg ps qs hl _ ih =>
    intro v hv
    cases hv with
    | agg arr _ ha hr => exact .agg arr qs (by omega) fun i hi => ih i (by omega) hi (hr i (by omega))
section
variable {P : Program} {N nb : Nat} {Q : Post}
end
end Go.Abs
namespace Go.Abs
section
variable {P : Program} {N nb : Nat} {ops : Array Oper} {Q : Post}
theorem aops_sliceM {o : Oper} {l : List Oper} {T : Slots} {H : Heap} {t : TypeId} {x y : Operand} {ei : TypeId × TI} {id n c : Nat} {kk : IntKind} {k : Nat} (hw : awanted ops.toList T N o = some true)
    (hop : o.op = .slice t x none (some y) none) (okx : okOpnd N x = true) (oky : okOpnd N y = true) (hte : telem P t = some ei) (hx : aev T x = .msl id 0 n c) (hy : aev T y = .int kk k) (hk : k ≤ c)
    (h : AOps P N nb ops Q l (updO T o.dst (.msl id 0 k c)) H) : AOps P N nb ops Q (o :: l) T H := by
  refine aops_done hw (fun E a ho hH ht => ?_) h
  obtain ⟨e, i⟩ := ei
  obtain ⟨hu, hti⟩ := telem_some hte
  obtain ⟨d, f, h3, h4, rfl⟩ := tinfo_some hti
  have hvx := vrel_eval ht x okx
  have hvy := vrel_eval ht y oky
  rw [hx] at hvx
  rw [hy] at hvy
  have vy := hvy.int_inv
  obtain ⟨vx, hcm, hbn⟩ : a.eval x = .slice (some ⟨E.ρ id, 0, none⟩) n c ∧ c ≤ maxLen ∧ E.view.born id := by
    generalize a.eval x = w at hvx
    cases hvx with
    | msl _ _ _ _ hbn hm => exact ⟨rfl, hm, hbn⟩
  refine ⟨E, .slice (some ⟨E.ρ id, 0, none⟩) k c, .inl ?_, .refl E, ho, hH, .msl id 0 k c hbn hcm⟩
  have hb : (Instr.sliceBound (.int kk (k : Int)) c .sliceAcap).run P E.w = .ok k E.w := by
    have hb0 : (0 : Int) ≤ (k : Int) ∧ (k : Int) ≤ c := ⟨by omega, by omega⟩
    simp only [Instr.sliceBound, asIntOf, Sem.run_bind, Sem.run_pure, Result.andThen_ok, if_pos hb0, Sem.run_ite, Int.toNat_natCast]
  unfold execOp
  rw [hop]
  have e1 : (if c = 0 then (some (⟨E.ρ id, 0, none⟩ : Addr)) else Option.map (fun z : Addr => z.add (0 * f.size)) (some ⟨E.ρ id, 0, none⟩)) = some ⟨E.ρ id, 0, none⟩ := by
    split
    · rfl
    · simp [Nat.zero_mul, add_zero']
  simp only [Sem.run_bind, Instr.sliceAt, run_under hu, Result.andThen_ok, Instr.slice, Instr.sliceBounds, Option.map_none, Option.map_some, Option.isSome_none, Bool.false_eq_true, if_false, vx, vy, if_true, hb, Sem.run_pure, run_size h4, Nat.sub_zero]
  rw [show (if c = 0 then (some (⟨E.ρ id, 0, none⟩ : Addr)) else some ((⟨E.ρ id, 0, none⟩ : Addr).add (0 * f.size))) = some ⟨E.ρ id, 0, none⟩ from e1]
theorem awp_loopX {c : Code} {T : Slots} {H : Heap} {σ : Type} (rep : σ → List (Nat × PV)) (I : σ → Heap → Prop) (m : σ → Nat) (s0 : σ) (hT : Fits T (rep s0)) (hI : I s0 H)
    (round : ∀ s H, I s H → AWP P N nb c (thenQ (fun T' H' => ∃ s', m s' < m s ∧ Fits T' (rep s') ∧ I s' H') Q) (mkS (rep s)) H) : AWP P N nb (.loop c) Q T H := by
  intro E a ho hE ht
  let J : Nat → Act → World → Prop := fun n a w => ∃ E' s, E'.w = w ∧ E.leN nb E' ∧ E'.Ok ∧ n = m s ∧ TRel E'.view N a (mkS (rep s)) ∧ I s E'.H
  refine wp_loop (fun a w => ∃ n, J n a w) (fun a w => least (fun n => J n a w)) ⟨m s0, E, s0, rfl, .refl nb E, ho, rfl, trel_weak ht (mkS_weak hT), hE ▸ hI⟩ ?_
  intro a1 w1 hJ
  obtain ⟨E1, s, hw1, hle, ho1, hms, ht1, hI1⟩ := least_spec hJ
  have hr := round s E1.H hI1 E1 a1 ho1 rfl ht1
  rw [hw1] at hr
  refine wp_mono hr ?_
  intro e a' w' hl
  obtain ⟨E', T', rfl, h2, h3, h4, h5⟩ := hl
  cases e with
  | normal =>
    obtain ⟨s', hlt, hf, hI'⟩ := h5
    have hJ' : J (m s') a' E'.w := ⟨E', s', rfl, hle.trans h2, h3, rfl, trel_weak h4 (mkS_weak hf), hI'⟩
    exact ⟨⟨m s', hJ'⟩, Nat.lt_of_le_of_lt (least_le hJ') (by rw [hms]; exact hlt)⟩
  | _ => exact ⟨E', T', rfl, hle.trans h2, h3, h4, h5⟩
end
end Go.Abs
namespace Go.Abs
section
variable {P : Program} {N nb : Nat} {ops : Array Oper} {Q : Post}
end
end Go.Abs
namespace Go.Abs
section
variable {P : Program} {N nb : Nat} {ops : Array Oper} {Q : Post} {E : Env} {a : Act} {T : Slots}
section
variable (ht : TRel E.view N a T)
include ht
end
end
section
variable {P : Program} {N nb : Nat} {ops : Array Oper} {Q : Post}
end
section
variable {P : Program} {N nb : Nat} {ops : Array Oper} {Q : Post}
end
section
variable {E : Env} (ho : E.Ok) {j : Nat} {cs cs' : List PV} (hj : E.H[j]? = some (.row cs))
include ho hj
end
section
variable {P : Program} {N nb : Nat} {Q : Post}
end
section
variable {P : Program} {N nb : Nat} {ops : Array Oper} {Q : Post}
end
end Go.Abs
set_option maxRecDepth 8000
namespace Go.Abs
section
variable {P : Program} {N nb : Nat} {ops : Array Oper} {Q : Post}
theorem aops_val {o : Oper} {l : List Oper} {T : Slots} {H : Heap} {v : PV} (hw : awanted ops.toList T N o = some true)
    (hv : ∀ (E : Env) (a : Act), E.Ok → (∀ x ∈ o.op.operands.toList, okOpnd N x = true → VRel E.view (a.eval x) (aev T x)) → ∃ val, (execOp a.eval o).run P E.w = .ok (.value val) E.w ∧ VRel E.view val v)
    (h : AOps P N nb ops Q l (updO T o.dst v) H) : AOps P N nb ops Q (o :: l) T H := by
  refine aops_done hw (fun E a ho hE ht => ?_) h
  obtain ⟨val, h1, h2⟩ := hv E a ho fun x hx hok => vrel_eval ht x hok
  exact ⟨E, val, .inl h1, .refl E, ho, hE, h2⟩
end
end Go.Abs
namespace Go.Abs
def tarr (P : Program) (t : TypeId) : Option (Nat × TypeId × TI) :=
  match P.underlying t with
  | some (.array n e) => (tinfo P e).map fun i => (n, e, i)
  | _ => none
theorem tarr_some {P : Program} {t : TypeId} {n : Nat} {e : TypeId} {i : TI} (h : tarr P t = some (n, e, i)) : P.underlying t = some (.array n e) ∧ tinfo P e = some i := by
  unfold tarr at h
  split at h
  · rename_i n' e' hu
    cases hi : tinfo P e' with
    | none => rw [hi] at h; cases h
    | some j => rw [hi] at h; cases h; exact ⟨hu, hi⟩
  · cases h
section
variable {P : Program} {N nb : Nat} {ops : Array Oper} {Q : Post}
theorem aops_idxA {o : Oper} {l : List Oper} {T : Slots} {H : Heap} {t e : TypeId} {n : Nat} {i : TI} {x y : Operand} {id off : Nat} {kk : IntKind} {k : Nat} (hop : o.op = .indexAddr t x y) (hw : awanted ops.toList T N o = some true) (hok : okOp N o.op = true)
    (ht : tarr P t = some (n, e, i)) (hx : aev T x = .optr id off) (hy : aev T y = .int kk (k : Nat)) (hk : k < n)
    (h : AOps P N nb ops Q l (updO T o.dst (.optr id (off + k * i.sz))) H) : AOps P N nb ops Q (o :: l) T H := by
  refine aops_val hw (fun E a ho hvs => ?_) h
  obtain ⟨hu, hi⟩ := tarr_some ht
  obtain ⟨d', f', h5, h6, rfl⟩ := tinfo_some hi
  rw [hop] at hok hvs
  have okx : okOpnd N x = true := List.all_eq_true.1 hok _ (by simp [Op.operands])
  have oky : okOpnd N y = true := List.all_eq_true.1 hok _ (by simp [Op.operands])
  have rx := hvs x (by simp [Op.operands]) okx
  have ry := hvs y (by simp [Op.operands]) oky
  rw [hx] at rx
  rw [hy] at ry
  obtain ⟨e1, e2⟩ := rx.optr_inv
  have e3 := ry.int_inv
  refine ⟨.pointer (some ⟨E.view.rho id, off + k * f'.size, none⟩), ?_, .optr _ _ e2⟩
  unfold execOp
  rw [hop]
  have hkk : (0 : Int) ≤ (k : Nat) ∧ ((k : Nat) : Int) < (n : Nat) := ⟨Int.natCast_nonneg k, by omega⟩
  simp only [e1, e3, Instr.indexAt, Instr.sureAddr, asIntOf, Sem.run_bind, Sem.run_pure, Result.andThen_ok, run_under hu, run_size h6, if_pos hkk, Sem.run_ite, add_plain, Int.toNat_natCast]
end
end Go.Abs
namespace Go.Abs
inductive FT where
  | int | str | bool
def FT.ty (P : Program) : FT → TypeId → Prop
  | .int, t => P.underlying t = some (.int .i64)
  | .str, t => P.underlying t = some .string
  | .bool, t => P.underlying t = some .bool
def FT.fit : FT → PV → Bool
  | .int, .int .i64 _ => true
  | .str, .str _ => true
  | .bool, .bool _ => true
  | _, _ => false
def flatEq : PV → PV → Bool
  | .int _ a, .int _ b => decide (a = b)
  | .str a, .str b => decide (a = b)
  | .bool a, .bool b => decide (a = b)
  | _, _ => false
def flatsEq : List PV → List PV → Bool
  | [], [] => true
  | x :: xs, y :: ys => flatEq x y && flatsEq xs ys
  | _, _ => false
structure FlatAt (P : Program) (t : TypeId) (ks : List FT) : Prop where
  ex : ∃ fs : List Field, P.underlying t = some (.struct fs.toArray) ∧ fs.length = ks.length ∧ ∀ (i : Nat) (h : i < fs.length) (h2 : i < ks.length), fs[i].name ≠ "_" ∧ fs[i].offset = i ∧ (ks[i]).ty P fs[i].type
  held : P.stoodInHeld t = false
  gu : P.eqGuardType P.depth t = false
section
variable {P : Program} {V : View}
theorem isAgg_flat {k : FT} {t : TypeId} (h : k.ty P t) (w : World) : (isAgg t).run P w = .ok false w := by
  cases k <;> (unfold FT.ty at h; unfold isAgg; simp only [Sem.run_bind, run_underlying h, Result.andThen_ok]; rfl)
theorem part_flat {k : FT} {t : TypeId} (h : k.ty P t) {xs : Array Value} {i : Nat} (hi : i < xs.size) (w : World) : (part t xs i).run P w = .ok (xs.getD i undef) w := by
  unfold part
  simp only [Sem.run_bind, isAgg_flat h, Result.andThen_ok, Bool.false_eq_true, if_false, Array.getD_eq_getD_getElem?, Array.getElem?_eq_getElem hi]
  rfl
theorem eq_flat {k : FT} {t : TypeId} (h : k.ty P t) {v v' : Value} {p p' : PV} (hv : VRel V v p) (hv' : VRel V v' p') (hf : k.fit p = true) (hf' : k.fit p' = true) (d : Nat) (w : World) :
    (Op.equalIn (d + 1) t v v').run P w = .ok (flatEq p p') w := by
  cases k with
  | int =>
    cases hv with
    | int k n =>
      cases hv' with
      | int k' n' =>
        have e : k = .i64 := by cases k <;> first | rfl | simp [FT.fit] at hf
        have e' : k' = .i64 := by cases k' <;> first | rfl | simp [FT.fit] at hf'
        subst e; subst e'
        rw [run_equalIn_int w d t _ _ _ _ h]
        have e : (n == n') = decide (n = n') := by rw [Bool.eq_iff_iff]; simp
        rw [e]; rfl
      | _ => simp [FT.fit] at hf'
    | _ => simp [FT.fit] at hf
  | str =>
    cases hv with
    | str s =>
      cases hv' with
      | str s' =>
        rw [run_equalIn_string w d t _ _ h]
        congr 1
        show (s.toList == s'.toList) = decide (s.data.toList = s'.data.toList)
        rw [ByteArray.toList_eq, ByteArray.toList_eq, Bool.eq_iff_iff]; simp
      | _ => simp [FT.fit] at hf'
    | _ => simp [FT.fit] at hf
  | bool =>
    cases hv with
    | bool b =>
      cases hv' with
      | bool b' =>
        rw [run_equalIn_bool w d t _ _ h]
        have e : (b == b') = decide (b = b') := by rw [Bool.eq_iff_iff]; simp
        rw [e]; rfl
      | _ => simp [FT.fit] at hf'
    | _ => simp [FT.fit] at hf
theorem run_flats {xs ys : Array Value} {ps qs : List PV} (hx : VRel V (.agg xs) (.agg ps)) (hy : VRel V (.agg ys) (.agg qs)) (d : Nat) (w : World) : ∀ (fs : List Field) (ks : List FT) (off : Nat), fs.length = ks.length →
    (∀ (i : Nat) (h : i < fs.length) (h2 : i < ks.length), fs[i].name ≠ "_" ∧ fs[i].offset = off + i ∧ (ks[i]).ty P fs[i].type) → ps.length = off + fs.length → qs.length = off + fs.length →
    (∀ (i : Nat) (h : i < ks.length) (h1 : off + i < ps.length) (h2 : off + i < qs.length), (ks[i]).fit ps[off + i] = true ∧ (ks[i]).fit qs[off + i] = true) →
    (Op.eqFields (d + 1) xs ys fs).run P w = .ok (flatsEq (ps.drop off) (qs.drop off)) w
  | [], ks, off, hl, _, hp, hq, _ => by
    rw [List.drop_eq_nil_of_le (by simp at hp; omega), List.drop_eq_nil_of_le (by simp at hq; omega)]
    rfl
  | f :: fs, [], off, hl, _, _, _, _ => by simp at hl
  | f :: fs, k :: ks, off, hl, hF, hp, hq, hfit => by
    have h0 := hF 0 (by simp) (by simp)
    simp only [List.getElem_cons_zero, Nat.add_zero] at h0
    obtain ⟨n0, o0, t0⟩ := h0
    have lp : off < ps.length := by simp at hp; omega
    have lq : off < qs.length := by simp at hq; omega
    have ff := hfit 0 (by simp) lp lq
    simp only [List.getElem_cons_zero, Nat.add_zero] at ff
    obtain ⟨sx, rx⟩ : xs.size = ps.length ∧ VRel V (xs.getD off undef) ps[off] := by cases hx with | agg _ _ a b => exact ⟨a, b off lp⟩
    obtain ⟨sy, ry⟩ : ys.size = qs.length ∧ VRel V (ys.getD off undef) qs[off] := by cases hy with | agg _ _ a b => exact ⟨a, b off lq⟩
    have ih := run_flats hx hy d w fs ks (off + 1) (by simpa using hl) (fun i h h2 => by
      have := hF (i + 1) (by simp; omega) (by simp; omega)
      simp only [List.getElem_cons_succ] at this
      rw [show off + 1 + i = off + (i + 1) by omega]; exact this) (by simp at hp; omega) (by simp at hq; omega) (fun i h h1 h2 => by
      have := hfit (i + 1) (by simp; omega) (by omega) (by omega)
      simp only [List.getElem_cons_succ] at this
      have e : off + 1 + i = off + (i + 1) := by omega
      simp only [e]; exact this)
    rw [List.drop_eq_getElem_cons lp, List.drop_eq_getElem_cons lq]
    simp only [Op.eqFields, if_pos n0, Sem.run_bind, o0, part_flat t0 (show off < xs.size by omega), part_flat t0 (show off < ys.size by omega), Result.andThen_ok, eq_flat t0 rx ry ff.1 ff.2, Sem.run_ite, Sem.run_pure, ih, flatsEq]
    cases flatEq ps[off] qs[off] <;> simp
theorem run_flat {t : TypeId} {ks : List FT} (F : FlatAt P t ks) {xs ys : Array Value} {ps qs : List PV} (hx : VRel V (.agg xs) (.agg ps)) (hy : VRel V (.agg ys) (.agg qs)) (hp : ps.length = ks.length) (hq : qs.length = ks.length)
    (fp : ∀ (i : Nat) (h : i < ks.length) (h1 : i < ps.length) (h2 : i < qs.length), (ks[i]).fit ps[i] = true ∧ (ks[i]).fit qs[i] = true) (w : World) : (Op.equal t (.agg xs) (.agg ys)).run P w = .ok (flatsEq ps qs) w := by
  obtain ⟨fs, ut, hl, hF⟩ := F.ex
  have hf : P.fieldsOf t = fs.toArray := by unfold Program.fieldsOf; rw [ut]
  show (Op.equalIn (9999 + 1) t _ _).run P w = _
  rw [run_equalIn_struct w 9999 t _ _ (by rw [hf]; exact ut) F.held, hf]
  have := run_flats (P := P) hx hy 9998 w fs ks 0 hl (fun i h h2 => by rw [Nat.zero_add]; exact hF i h h2) (by omega) (by omega) (fun i h h1 h2 => by simp only [Nat.zero_add]; exact fp i h (by omega) (by omega))
  simpa using this
def fitsB : List FT → List PV → Bool
  | [], [] => true
  | k :: ks, p :: ps => k.fit p && fitsB ks ps
  | _, _ => false
theorem fitsB_len : ∀ {ks : List FT} {ps : List PV}, fitsB ks ps = true → ps.length = ks.length
  | [], [], _ => rfl
  | [], _ :: _, h => by cases h
  | _ :: _, [], h => by cases h
  | k :: ks, p :: ps, h => by simp only [fitsB, Bool.and_eq_true] at h; simp [fitsB_len h.2]
theorem fitsB_at : ∀ {ks : List FT} {ps : List PV}, fitsB ks ps = true → ∀ (i : Nat) (h : i < ks.length) (h1 : i < ps.length), (ks[i]).fit ps[i] = true
  | [], _, _ => fun i h => by simp at h
  | _ :: _, [], h => by cases h
  | k :: ks, p :: ps, h => fun i h1 h2 => by
    simp only [fitsB, Bool.and_eq_true] at h
    cases i with
    | zero => exact h.1
    | succ i => exact fitsB_at h.2 i (by simpa using h1) (by simpa using h2)
end
end Go.Abs
namespace Go.Abs
section
variable {P : Program} {N : Nat} {ops : Array Oper} {Q : Post}
theorem dp_eqlFlat {k : Nat} {o : Oper} {l : List Oper} {T : Slots} {G : Nat → Bool} {H : Heap} {t y' : TypeId} {x y : Operand} {ks : List FT} {ps qs : List PV} (F : FlatAt P t ks)
    (hop : o.op = .binOp .eql t x y y') (hx : aev T x = .agg ps) (hy : aev T y = .agg qs) (fx : fitsB ks ps = true) (fy : fitsB ks qs = true) (hc : gcond ops.toList T G N o = some true) (hg : o.op.operands.toList.all (gOk true G) = true) (okx : okOpnd N x = true) (oky : okOpnd N y = true)
    (h : DP P N ops Q (k + 1) l (msk (.tup []) (updO T o.dst (.bool (flatsEq ps qs))) (ugO G o.dst true)) H) : DP P N ops Q k (o :: l) (msk (.tup []) T G) H := by
  refine dp_val hc hg (fun E A ho he => ?_) h
  have rx := he x (by rw [hop]; simp [Op.operands]) okx
  have ry := he y (by rw [hop]; simp [Op.operands]) oky
  rw [hx] at rx; rw [hy] at ry
  generalize hvx : A.eval x = vx at rx
  generalize hvy : A.eval y = vy at ry
  cases rx with
  | agg xs _ a1 a2 =>
    cases ry with
    | agg ys _ b1 b2 =>
      have g : ∀ w, (eqGuard .eql t x y (.agg xs) (.agg ys)).run P w = .ok () w := fun w => by
        unfold eqGuard
        simp only [Sem.run_bind, run_program, Result.andThen_ok, F.gu, Bool.not_false, if_true, Sem.run_ite, Sem.run_pure]
        split <;> rfl
      refine ⟨.bool (flatsEq ps qs), ?_, .bool _⟩
      unfold execOp
      rw [hop]
      simp only [Sem.run_bind, hvx, hvy, g, Result.andThen_ok, binOp, run_flat F (.agg xs _ a1 a2) (.agg ys _ b1 b2) (fitsB_len fx) (fitsB_len fy) (fun i h h1 h2 => ⟨fitsB_at fx i h h1, fitsB_at fy i h h2⟩), Sem.run_pure]
end
end Go.Abs
set_option maxRecDepth 4000
namespace Go.Abs
open Go.Proofs Go.Memo
theorem qk_at : FlatAt Try.prog 37 [.int, .int, .int] := ⟨⟨_, Try.underlying37, rfl, fun i h h2 => by
  match i, h2 with
  | 0, _ => exact ⟨by simp, rfl, Try.underlying3⟩
  | 1, _ => exact ⟨by simp, rfl, Try.underlying3⟩
  | 2, _ => exact ⟨by simp, rfl, Try.underlying3⟩⟩, by kernel_rfl, by kernel_rfl⟩
theorem qk_eq (k d : QK) : flatsEq [vint k.1, vint k.2.1, vint k.2.2] [vint d.1, vint d.2.1, vint d.2.2] = decide (k = d) := by
  obtain ⟨a, b, c⟩ := k; obtain ⟨x, y, z⟩ := d
  simp only [flatsEq, flatEq, vint, Bool.and_true, Prod.mk.injEq]
  by_cases h1 : a = x <;> by_cases h2 : b = y <;> by_cases h3 : c = z <;> simp [h1, h2, h3]
def earl (idx q : Int) : Bool := decide (q ≥ 0) && decide (q < idx)
def opnd (inp idx : Int) (o : QK) : Int × Bool :=
  if o.1 = 1 then (0, decide (o.2.2 = 0)) else if o.1 = 2 then (0, decide (o.2.2 = 0) && decide (o.2.1 ≥ 0) && decide (o.2.1 < inp))
  else if o.1 = 3 then (0, decide (o.2.2 = 0) && earl idx o.2.1) else if o.1 = 4 then (1, decide (o.2.1 = 0) && decide (o.2.2 = 0) && decide (idx > 0))
  else if o.1 = 5 then (1, earl idx o.2.1 && earl idx o.2.2) else (2, decide (o.2.1 = 0) && decide (o.2.2 = 0))
theorem operandKey_c (o : QK) (idx n : Int) (hi : o.1 = 4 → 0 < idx) : PC Try.prog 41 [kE o, vint idx, vint n] (.tup [kE (keyD (opKey o idx n)), .bool (opKey o idx n).isSome]) := by
  obtain ⟨a, b, c⟩ := o
  simp only at hi
  refine pc_of (N := 49) Try.func41 rfl rfl (by simp) (by simp [Bel.int, Bel.str, Bel.bool, bel_ints0, bel_kE, bel_vE, bel_K, bel_KK, bel_pE, Bel.nilp, bel_fn0, kE]) (.tup _ (by simp [bel_kE, kE, Bel.bool])) ?_
  repeat (refine awp_seq ?_)
  refine e_eval (by simp only [jA, jO, jN, seval, y37, y52, vint, kE] <;> with_reducible rfl) (by decide) ?_
  repeat (refine awp_seq ?_)
  refine awp_block ?_
  repeat (refine awp_seq ?_)
  refine e_eval (by simp only [jA, jO, jN, seval, y3, y52, vint, kE] <;> with_reducible rfl) (by decide) ?_
  repeat (refine awp_seq ?_)
  refine awp_cond rfl (by simp only [jN, seval, vint, kE] <;> with_reducible rfl) (fun bt8 => ?_) (fun bt8 => ?_)
  ·
    have h2 : a = 2 := of_decide_eq_true bt8
    have hv : opKey (a, b, c) idx n = some (0, b, 0) := by unfold opKey; rw [if_pos h2]
    repeat (refine awp_seq ?_)
    refine e_eval (by simp only [jA, jO, jN, seval, y3, y37, y52, vint, kE] <;> with_reducible rfl) (by decide) ?_
    repeat (refine awp_seq ?_)
    refine awp_ret ⟨.inr rfl, _, (ares_two (.cell 6 37) (.tmp 7) rfl (ares_cell1 Tryti37 (by decide) (by simp only [jL, jN, seval, vint, kE] <;> with_reducible rfl)) (ares_tmp1 (by decide))), ?_⟩
    simp only [jN, seval, vint, hv]
    rfl
  ·
    have h2 : ¬ a = 2 := of_decide_eq_false bt8
    repeat (refine awp_seq ?_)
    refine e_eval (by simp only [jA, jO, jN, seval, y3, y52, vint, kE] <;> with_reducible rfl) (by decide) ?_
    repeat (refine awp_seq ?_)
    refine awp_cond rfl (by simp only [jN, seval, vint, kE] <;> with_reducible rfl) (fun bt15 => ?_) (fun bt15 => ?_)
    ·
      have h3 : a = 3 := of_decide_eq_true bt15
      have hv : opKey (a, b, c) idx n = some (1, b, 0) := by unfold opKey; rw [if_neg h2, if_pos h3]
      repeat (refine awp_seq ?_)
      refine e_eval (by simp only [jA, jO, jN, seval, y3, y37, y52, vint, kE] <;> with_reducible rfl) (by decide) ?_
      repeat (refine awp_seq ?_)
      refine awp_ret ⟨.inr rfl, _, (ares_two (.cell 6 37) (.tmp 7) rfl (ares_cell1 Tryti37 (by decide) (by simp only [jL, jN, seval, vint, kE] <;> with_reducible rfl)) (ares_tmp1 (by decide))), ?_⟩
      simp only [jN, seval, vint, hv]
      rfl
    ·
      have h3 : ¬ a = 3 := of_decide_eq_false bt15
      repeat (refine awp_seq ?_)
      refine e_eval (by simp only [jA, jO, jN, seval, y3, y52, vint, kE] <;> with_reducible rfl) (by decide) ?_
      repeat (refine awp_seq ?_)
      refine awp_cond rfl (by simp only [jN, seval, vint, kE] <;> with_reducible rfl) (fun bt22 => ?_) (fun bt22 => ?_)
      ·
        have h4 : a = 4 := of_decide_eq_true bt22
        have hz : (idx = 0) = False := by have := hi h4; simp; omega
        have hv : opKey (a, b, c) idx n = some (1, n.tmod idx, 0) := by unfold opKey; rw [if_neg h2, if_neg h3, if_pos h4]
        refine awp_sel [1, 2, 6] (by simp only [jN, seval, vint, kE] <;> with_reducible rfl) ?_
        repeat (refine awp_seq ?_)
        refine e_eval (by simp only [jA, jO, jN, seval, y3, y37, vint, kE, hz] <;> with_reducible rfl) (by decide) ?_
        repeat (refine awp_seq ?_)
        refine awp_ret ⟨.inr rfl, _, (ares_two (.cell 6 37) (.tmp 7) rfl (ares_cell1 Tryti37 (by decide) (by simp only [jL, jN, seval, vint, kE] <;> with_reducible rfl)) (ares_tmp1 (by decide))), ?_⟩
        simp only [jN, seval, vint, hv]
        rfl
      ·
        have h4 : ¬ a = 4 := of_decide_eq_false bt22
        refine awp_sel [2, 3, 6] (by simp only [jN, seval, vint, kE] <;> with_reducible rfl) ?_
        repeat (refine awp_seq ?_)
        refine g_eval (by simp only [jG, jO, jN, seval, y3, y52, vint, kE] <;> with_reducible rfl) (by decide) (by repeat (first | exact Fin.base _ | with_reducible apply Fin.keep | apply Fin.drop)) ?_
        repeat (refine awp_seq ?_)
        refine awp_cond rfl (by simp only [jN, seval, vint, kE] <;> with_reducible rfl) (fun bt30 => ?_) (fun bt30 => ?_)
        ·
          have h5 : a = 5 ∧ n ≠ 0 := by simpa using bt30
          have hv : opKey (a, b, c) idx n = some (1, b, 0) := by unfold opKey; rw [if_neg h2, if_neg h3, if_neg h4, if_pos h5]
          repeat (refine awp_seq ?_)
          refine e_eval (by simp only [jA, jO, jN, seval, y3, y37, y52, vint, kE] <;> with_reducible rfl) (by decide) ?_
          repeat (refine awp_seq ?_)
          refine awp_ret ⟨.inr rfl, _, (ares_two (.cell 6 37) (.tmp 7) rfl (ares_cell1 Tryti37 (by decide) (by simp only [jL, jN, seval, vint, kE] <;> with_reducible rfl)) (ares_tmp1 (by decide))), ?_⟩
          simp only [jN, seval, vint, hv]
          rfl
        ·
          have h5 : ¬ (a = 5 ∧ n ≠ 0) := by intro h; simp [h.1, h.2] at bt30
          repeat (refine awp_seq ?_)
          refine e_eval (by simp only [jA, jO, jN, seval, y3, y52, vint, kE] <;> with_reducible rfl) (by decide) ?_
          repeat (refine awp_seq ?_)
          refine awp_cond rfl (by simp only [jN, seval, vint, kE] <;> with_reducible rfl) (fun bt41 => ?_) (fun bt41 => ?_)
          ·
            have h6 : a = 5 := of_decide_eq_true bt41
            have hv : opKey (a, b, c) idx n = some (1, c, 0) := by unfold opKey; rw [if_neg h2, if_neg h3, if_neg h4, if_neg h5, if_pos h6]
            repeat (refine awp_seq ?_)
            refine e_eval (by simp only [jA, jO, jN, seval, y3, y37, y52, vint, kE] <;> with_reducible rfl) (by decide) ?_
            repeat (refine awp_seq ?_)
            refine awp_ret ⟨.inr rfl, _, (ares_two (.cell 6 37) (.tmp 7) rfl (ares_cell1 Tryti37 (by decide) (by simp only [jL, jN, seval, vint, kE] <;> with_reducible rfl)) (ares_tmp1 (by decide))), ?_⟩
            simp only [jN, seval, vint, hv]
            rfl
          ·
            have h6 : ¬ a = 5 := of_decide_eq_false bt41
            have hv : opKey (a, b, c) idx n = none := by unfold opKey; rw [if_neg h2, if_neg h3, if_neg h4, if_neg h5, if_neg h6]
            repeat (refine awp_seq ?_)
            refine awp_skip ?_
            repeat (refine awp_seq ?_)
            refine e_eval (by simp only [jA, jO, jN, seval, y37, vint, kE] <;> with_reducible rfl) (by decide) ?_
            repeat (refine awp_seq ?_)
            refine awp_ret ⟨.inr rfl, _, (ares_two (.cell 6 37) (.tmp 7) rfl (ares_cell1 Tryti37 (by decide) (by simp only [jL, jN, seval, vint, kE] <;> with_reducible rfl)) (ares_tmp1 (by decide))), ?_⟩
            simp only [jN, seval, vint, hv]
            rfl
theorem operands1 (idx q : Int) (H : Heap) (id : Nat) (h1 : H[id]? = some (.row [vint idx])) : ACalls Try.prog 67 [vint q, .optr id 0] H fun r' H' => r' = .bool (earl idx q) ∧ H' = H := by
  have q1 : ∀ L, (H ++ L)[id]? = some (.row [.int .i64 idx]) := fun L => by rw [List.getElem?_append_left (len_of_get h1)]; exact h1
  refine keeps_of (N := 11) Try.func67 rfl rfl (by simp) (.bool _) fun hb' => ?_
  repeat (refine awp_seq ?_)
  refine e_eval (by simp only [jA, jO, jN, seval, vint, q1, h1] <;> with_reducible rfl) (by decide) ?_
  repeat (refine awp_seq ?_)
  refine g_eval (by simp only [jG, jO, jN, seval, y3, vint, q1, h1] <;> with_reducible rfl) (by decide) (by repeat (first | exact Fin.base _ | with_reducible apply Fin.keep | apply Fin.drop)) ?_
  repeat (refine awp_seq ?_)
  refine awp_ret ⟨.inr rfl, _, _, rfl, ?_, (by first | exact (List.append_nil _).symm | rfl)⟩
  simp only [jN, seval, vint]
  rfl
theorem operands_c (inp idx : Int) (qs : List (List QK)) (o : QK) : PC Try.prog 56 [.agg [vint inp, .slice (qs.map ksE) .none], vint idx, kE o] (.tup [vint (opnd inp idx o).1, .bool (opnd inp idx o).2]) := by
  obtain ⟨a, b, c⟩ := o
  refine pc_of (N := 79) Try.func56 rfl rfl (by simp) (by simp [Bel.int, Bel.str, Bel.bool, bel_ints0, bel_kE, bel_vE, bel_K, bel_KK, bel_pE, Bel.nilp, bel_fn0, kE]) (.tup _ (by simp [Bel.int, Bel.bool])) ?_
  repeat (refine awp_seq ?_)
  refine e_eval (by simp only [jA, jO, jN, seval, y3, y24, y52, vint, kE] <;> with_reducible rfl) (by decide) ?_
  repeat (refine awp_seq ?_)
  refine e_eval (by simp only [jA, jO, jN, seval, vint, kE] <;> with_reducible rfl) (by decide) ?_
  repeat (refine awp_seq ?_)
  refine e_eval (by simp only [jA, jO, jN, seval, y3, y52, vint, kE] <;> with_reducible rfl) (by decide) ?_
  repeat (refine awp_seq ?_)
  refine awp_block ?_
  repeat (refine awp_seq ?_)
  refine e_eval (by simp only [jA, jO, jN, seval, y3, vint, kE] <;> with_reducible rfl) (by decide) ?_
  repeat (refine awp_seq ?_)
  refine awp_cond rfl (by simp only [jN, seval, vint, kE] <;> with_reducible rfl) (fun bt12 => ?_) (fun bt12 => ?_)
  ·
    have h1 : a = 1 := of_decide_eq_true bt12
    have hv : opnd inp idx (a, b, c) = (0, decide (c = 0)) := by unfold opnd; rw [if_pos h1]
    repeat (refine awp_seq ?_)
    refine dp_draw (by kernel_rfl) ?_
    refine dp_end (by simp only [jP, jO, jN, seval, y3, y52, vint, kE] <;> with_reducible rfl) (by decide) (by repeat (first | exact Fin.base _ | with_reducible apply Fin.keep | apply Fin.drop)) ?_
    repeat (refine awp_seq ?_)
    refine awp_ret ⟨.inr rfl, _, (ares_two (.tmp 6) (.tmp 7) rfl (ares_tmp1 (by decide)) (ares_tmp1 (by decide))), ?_⟩
    simp only [jN, seval, vint, hv]
    try rfl
  ·
    have h1 : ¬ a = 1 := of_decide_eq_false bt12
    repeat (refine awp_seq ?_)
    refine e_eval (by simp only [jA, jO, jN, seval, y3, vint, kE] <;> with_reducible rfl) (by decide) ?_
    repeat (refine awp_seq ?_)
    refine awp_cond rfl (by simp only [jN, seval, vint, kE] <;> with_reducible rfl) (fun bt17 => ?_) (fun bt17 => ?_)
    ·
      have h2 : a = 2 := of_decide_eq_true bt17
      have hv : opnd inp idx (a, b, c) = (0, decide (c = 0) && decide (b ≥ 0) && decide (b < inp)) := by unfold opnd; rw [if_neg h1, if_pos h2]
      repeat (refine awp_seq ?_)
      refine dp_draw (by kernel_rfl) ?_
      refine dp_end (by simp only [jP, jO, jN, seval, y3, y24, y52, vint, kE] <;> with_reducible rfl) (by decide) (by repeat (first | exact Fin.base _ | with_reducible apply Fin.keep | apply Fin.drop)) ?_
      repeat (refine awp_seq ?_)
      refine awp_ret ⟨.inr rfl, _, (ares_two (.tmp 6) (.tmp 7) rfl (ares_tmp1 (by decide)) (ares_tmp1 (by decide))), ?_⟩
      simp only [jN, seval, vint, hv]
      try rfl
    ·
      have h2 : ¬ a = 2 := of_decide_eq_false bt17
      repeat (refine awp_seq ?_)
      refine e_eval (by simp only [jA, jO, jN, seval, y3, vint, kE] <;> with_reducible rfl) (by decide) ?_
      repeat (refine awp_seq ?_)
      refine awp_cond rfl (by simp only [jN, seval, vint, kE] <;> with_reducible rfl) (fun bt34 => ?_) (fun bt34 => ?_)
      ·
        have h3 : a = 3 := of_decide_eq_true bt34
        have hv : opnd inp idx (a, b, c) = (0, decide (c = 0) && earl idx b) := by unfold opnd; rw [if_neg h1, if_neg h2, if_pos h3]
        refine awp_sel [5, 8] (by simp only [jN, seval, vint, kE] <;> with_reducible rfl) ?_
        repeat (refine awp_seq ?_)
        refine awp_region ?_
        refine aops_gstart ?_
        refine g_take 7 (by simp only [jG, jO, jN, seval, y3, y52, vint, kE] <;> with_reducible rfl) (by decide) ?_
        refine aops_gpure (by simp only [jE, jN, seval, vint, kE] <;> with_reducible rfl) (by simp only [jE, jN, seval, vint, kE] <;> with_reducible rfl) (by simp only [jE, jN, seval, vint, kE]) (by decide) Trygo67 (fun hc => operands1 idx _ _ 1 rfl) ?_
        refine g_end (by simp only [jG, jO, jN, seval, vint, kE] <;> with_reducible rfl) (by decide) (by repeat (first | exact Fin.base _ | with_reducible apply Fin.keep | apply Fin.drop)) ?_
        repeat (refine awp_seq ?_)
        refine awp_ret ⟨.inr rfl, _, (ares_two (.tmp 6) (.tmp 7) rfl (ares_tmp1 (by decide)) (ares_tmp1 (by decide))), ?_⟩
        simp only [jN, seval, vint, hv]
        try rfl
      ·
        have h3 : ¬ a = 3 := of_decide_eq_false bt34
        refine awp_sel [4, 5, 8, 11] (by simp only [jN, seval, vint, kE] <;> with_reducible rfl) ?_
        repeat (refine awp_seq ?_)
        refine e_eval (by simp only [jA, jO, jN, seval, y3, vint, kE] <;> with_reducible rfl) (by decide) ?_
        repeat (refine awp_seq ?_)
        refine awp_cond rfl (by simp only [jN, seval, vint, kE] <;> with_reducible rfl) (fun bt45 => ?_) (fun bt45 => ?_)
        ·
          have h4 : a = 4 := of_decide_eq_true bt45
          have hv : opnd inp idx (a, b, c) = (1, decide (b = 0) && decide (c = 0) && decide (idx > 0)) := by unfold opnd; rw [if_neg h1, if_neg h2, if_neg h3, if_pos h4]
          repeat (refine awp_seq ?_)
          refine dp_draw (by kernel_rfl) ?_
          refine dp_end (by simp only [jP, jO, jN, seval, y3, y52, vint, kE] <;> with_reducible rfl) (by decide) (by repeat (first | exact Fin.base _ | with_reducible apply Fin.keep | apply Fin.drop)) ?_
          repeat (refine awp_seq ?_)
          refine awp_ret ⟨.inr rfl, _, (ares_two (.tmp 6) (.tmp 7) rfl (ares_tmp1 (by decide)) (ares_tmp1 (by decide))), ?_⟩
          simp only [jN, seval, vint, hv]
          try rfl
        ·
          have h4 : ¬ a = 4 := of_decide_eq_false bt45
          repeat (refine awp_seq ?_)
          refine e_eval (by simp only [jA, jO, jN, seval, y3, vint, kE] <;> with_reducible rfl) (by decide) ?_
          repeat (refine awp_seq ?_)
          refine awp_cond rfl (by simp only [jN, seval, vint, kE] <;> with_reducible rfl) (fun bt59 => ?_) (fun bt59 => ?_)
          ·
            have h5 : a = 5 := of_decide_eq_true bt59
            have hv : opnd inp idx (a, b, c) = (1, earl idx b && earl idx c) := by unfold opnd; rw [if_neg h1, if_neg h2, if_neg h3, if_neg h4, if_pos h5]
            repeat (refine awp_seq ?_)
            refine awp_region ?_
            refine aops_gstart ?_
            refine g_take 3 (by simp only [jG, jO, jN, seval, y3, y52, vint, kE] <;> with_reducible rfl) (by decide) ?_
            refine aops_gpure (by simp only [jE, jN, seval, vint, kE] <;> with_reducible rfl) (by simp only [jE, jN, seval, vint, kE] <;> with_reducible rfl) (by simp only [jE, jN, seval, vint, kE]) (by decide) Trygo67 (fun hc => operands1 idx _ _ 1 rfl) ?_
            refine g_take 4 (by simp only [jG, jO, jN, seval, y3, y52, vint, kE] <;> with_reducible rfl) (by decide) ?_
            refine aops_gpure (by simp only [jE, jN, seval, vint, kE] <;> with_reducible rfl) (by simp only [jE, jN, seval, vint, kE] <;> with_reducible rfl) (by simp only [jE, jN, seval, vint, kE]) (by decide) Trygo67 (fun hc => operands1 idx _ _ 1 rfl) ?_
            refine g_end (by simp only [jG, jO, jN, seval, vint, kE] <;> with_reducible rfl) (by decide) (by repeat (first | exact Fin.base _ | with_reducible apply Fin.keep | apply Fin.drop)) ?_
            repeat (refine awp_seq ?_)
            refine awp_ret ⟨.inr rfl, _, (ares_two (.tmp 6) (.tmp 7) rfl (ares_tmp1 (by decide)) (ares_tmp1 (by decide))), ?_⟩
            simp only [jN, seval, vint, hv]
            try rfl
          ·
            have h5 : ¬ a = 5 := of_decide_eq_false bt59
            have hv : opnd inp idx (a, b, c) = (2, decide (b = 0) && decide (c = 0)) := by unfold opnd; rw [if_neg h1, if_neg h2, if_neg h3, if_neg h4, if_neg h5]
            repeat (refine awp_seq ?_)
            refine awp_skip ?_
            repeat (refine awp_seq ?_)
            refine dp_draw (by kernel_rfl) ?_
            refine dp_end (by simp only [jP, jO, jN, seval, y3, y52, vint, kE] <;> with_reducible rfl) (by decide) (by repeat (first | exact Fin.base _ | with_reducible apply Fin.keep | apply Fin.drop)) ?_
            repeat (refine awp_seq ?_)
            refine awp_ret ⟨.inr rfl, _, (ares_two (.tmp 6) (.tmp 7) rfl (ares_tmp1 (by decide)) (ares_tmp1 (by decide))), ?_⟩
            simp only [jN, seval, vint, hv]
            try rfl
end Go.Abs
set_option maxRecDepth 4000
namespace Go.Abs
open Go.Proofs Go.Memo
theorem bel_qs (n : Nat) (l : List (List QK)) : Bel n (.slice (l.map ksE) .none) := bel_KK n l
def chkQ (inp idx : Int) : List QK → Int → Int
  | [], d => if d = 1 then 0 else 3
  | o :: os, d => if o.1 < 1 ∨ o.1 ≥ 12 then 7 else if (opnd inp idx o).2 = false ∨ d < (opnd inp idx o).1 then 3 else chkQ inp idx os (d + (1 - (opnd inp idx o).1))
def chkAll (inp : Int) : List (List QK) → Nat → Int
  | [], _ => 0
  | q :: qs, i => if chkQ inp i q 0 = 0 then chkAll inp qs (i + 1) else chkQ inp i q 0
def chkP (inp : Int) (qs : List (List QK)) : Int := if inp > 40 ∨ qs.length > 40 ∨ (qs.any fun q => decide ((q.length : Int) > 20)) = true then 2 else if inp < 0 then 1 else chkAll inp qs 0
theorem opnd_rng (inp idx : Int) (o : QK) : 0 ≤ (opnd inp idx o).1 ∧ (opnd inp idx o).1 ≤ 2 := by
  unfold opnd
  repeat' split
  all_goals simp
theorem ksE_cells (l : List QK) : (ksE l).cells = [ksE l] := rfl
theorem ksE_drop1 (l : List QK) : (ksE l).drop1 = ksE l := rfl
theorem kE_drop1 (k : QK) : (kE k).drop1 = kE k := rfl
theorem check1 (q : List QK) : PC Try.prog 37 [ksE q] (.bool (decide ((q.length : Int) > 20))) := by
  refine pc_of (N := 6) Try.func37 rfl rfl (by simp) (by simp [Bel.int, Bel.str, Bel.bool, bel_ints0, bel_kE, bel_vE, bel_K, bel_KK, bel_pE, Bel.nilp, bel_fn0, ksE]) (.bool _) ?_
  repeat (refine awp_seq ?_)
  refine e_eval (by simp only [jA, jO, jN, seval, vint, ksE_cells, kE_cells, ksE_drop1, kE_drop1, ksE] <;> with_reducible rfl) (by decide) ?_
  repeat (refine awp_seq ?_)
  refine e_eval (by simp only [jA, jO, jN, seval, y3, y52, y53, vint, ksE_cells, kE_cells, ksE_drop1, kE_drop1, ksE] <;> with_reducible rfl) (by decide) ?_
  repeat (refine awp_seq ?_)
  refine awp_ret ⟨.inr rfl, _, rfl, ?_⟩
  simp only [jN, seval, vint, ksE_cells, kE_cells, ksE_drop1, kE_drop1]
  try rfl
theorem indexFuncqs {f : FuncId} {caps : List PV} {H : Heap} {us : List (List QK)} {p : (List QK) → Bool} (hc : CloB Try.prog ksE f caps H us p) (hl : us.length ≤ maxLen) : ACalls Try.prog 55 [.slice (us.map ksE) .none, .fn (.func f) [] caps] H fun r' H' => r' = vint (idxI p us) ∧ H' = H := by
  have hgo := hc.go
  refine keeps_of (N := 19) Try.func55 rfl rfl (by simp) (.int _ _) fun hb' => ?_
  repeat (refine awp_seq ?_)
  refine e_eval (by simp only [jA, jO, jN, seval, vint, ksE_cells, kE_cells, ksE_drop1, kE_drop1] <;> with_reducible rfl) (by decide) ?_
  repeat (refine awp_seq ?_)
  refine e_eval (by simp only [jA, jO, jN, seval, y22, y53, vint, ksE_cells, kE_cells, ksE_drop1, kE_drop1] <;> with_reducible rfl) (by decide) ?_
  repeat (refine awp_seq ?_)
  refine awp_forS (σ := Unit) (us.length) (fun (s : Unit) => [(0, .slice (us.map ksE) .none), (1, .fn (.func f) [] caps)]) [0, 1] (H) (fun (s : Unit) => []) (fun (i : Nat) (s : Unit) => (us.take i).any p = false) (()) ([]) rfl rfl rfl rfl rfl rfl rfl rfl rfl (by decide) (by decide) (by decide) (fun _ => rfl) (hl) ⟨(by first | rfl | (simp only [jN, seval, vint, ksE_cells, kE_cells, ksE_drop1, kE_drop1] <;> first | done | with_reducible rfl)), (by first | rfl | (simp only [jN, seval, vint, ksE_cells, kE_cells, ksE_drop1, kE_drop1] <;> first | done | with_reducible rfl)), (by first | rfl | (simp only [jN, seval, vint, ksE_cells, kE_cells, ksE_drop1, kE_drop1] <;> first | done | with_reducible rfl)), (by first | rfl | (simp only [jN, seval, vint, ksE_cells, kE_cells, ksE_drop1, kE_drop1] <;> first | done | with_reducible rfl)), trivial⟩ (by first | rfl | (simp only [jN, seval, vint, ksE_cells, kE_cells, ksE_drop1, kE_drop1] <;> first | done | with_reducible rfl)) (by simp) (fun _ _ _ => by first | exact Nat.zero_le _ | (simp only [List.length_append]; omega)) ?_ ?_ ?_
  · exact fun i s hg => ⟨by simp only [List.append_nil]; exact hb', .cons (bel_qs _ _) (.cons (.fn _ _ _ (by simp) (fun c hc' => (hc.bel c hc').mono (by simp))) .nil)⟩
  · intro i s hi hg
    have g1 := ix_nat hi
    have g2 := get_enc ksE hi
    repeat (refine awp_seq ?_)
    refine e_eval (by simp only [jA, jO, jN, seval, vint, ksE_cells, kE_cells, ksE_drop1, kE_drop1, g1, Int.toNat_natCast, g2] <;> with_reducible rfl) (by decide) ?_
    repeat (refine awp_seq ?_)
    refine awp_region ?_
    refine e_take 5 (by simp only [jA, jO, jN, seval, y22, y52, y53, vint, ksE_cells, kE_cells, ksE_drop1, kE_drop1, g1, Int.toNat_natCast, g2] <;> with_reducible rfl) (by decide) ?_
    refine aops_pure (by simp only [jC, jN, seval, vint, ksE_cells, kE_cells, ksE_drop1, kE_drop1, g1, Int.toNat_natCast, g2] <;> with_reducible rfl) (by simp only [jC, jN, seval, vint, ksE_cells, kE_cells, ksE_drop1, kE_drop1, g1, Int.toNat_natCast, g2]) (by decide) (by assumption) (hc.call _ (List.getElem_mem hi)) ?_
    refine aops_nil ?_
    repeat (refine awp_seq ?_)
    refine awp_cond rfl (by simp only [jN, seval, vint, ksE_cells, kE_cells, ksE_drop1, kE_drop1, g1, Int.toNat_natCast, g2] <;> with_reducible rfl) (fun b0 => ?_) (fun b0 => ?_)
    ·
      repeat (refine awp_seq ?_)
      refine e_eval (by simp only [jA, jO, jN, seval, vint, ksE_cells, kE_cells, ksE_drop1, kE_drop1, g1, Int.toNat_natCast, g2] <;> with_reducible rfl) (by decide) ?_
      repeat (refine awp_seq ?_)
      refine awp_ret ⟨.inr rfl, _, _, rfl, ?_, (by first | exact (List.append_nil _).symm | rfl)⟩
      rw [idxI_at hi b0 hg]; rfl
    ·
      repeat (refine awp_seq ?_)
      refine awp_skip ?_
      exact ⟨⟨rfl, rfl, trivial⟩, (), [], ⟨rfl, rfl, trivial⟩, by simp only [List.append_nil], any_take_succ hi hg b0⟩
  · intro s hg
    rw [List.take_length] at hg
    repeat (refine awp_seq ?_)
    refine e_eval (by simp only [jA, jO, jN, seval, vint, ksE_cells, kE_cells, ksE_drop1, kE_drop1] <;> with_reducible rfl) (by decide) ?_
    repeat (refine awp_seq ?_)
    refine awp_ret ⟨.inr rfl, _, _, rfl, ?_, (by first | exact (List.append_nil _).symm | rfl)⟩
    rw [idxI_none hg]; rfl
theorem containsFuncqs {f : FuncId} {caps : List PV} {H : Heap} {us : List (List QK)} {p : (List QK) → Bool} (hc : CloB Try.prog ksE f caps H us p) (hl : us.length ≤ maxLen) : ACalls Try.prog 38 [.slice (us.map ksE) .none, .fn (.func f) [] caps] H fun r' H' => r' = .bool (us.any p) ∧ H' = H := by
  refine keeps_of (N := 9) Try.func38 rfl rfl (by simp) (.bool _) fun hb' => ?_
  repeat (refine awp_seq ?_)
  refine e_eval (by simp only [jA, jO, jN, seval, vint, ksE_cells, kE_cells, ksE_drop1, kE_drop1] <;> with_reducible rfl) (by decide) ?_
  repeat (refine awp_seq ?_)
  refine awp_region ?_
  refine e_take 2 (by simp only [jA, jO, jN, seval, vint, ksE_cells, kE_cells, ksE_drop1, kE_drop1] <;> with_reducible rfl) (by decide) ?_
  refine aops_pure (by simp only [jC, jN, seval, vint, ksE_cells, kE_cells, ksE_drop1, kE_drop1] <;> with_reducible rfl) (by simp only [jC, jN, seval, vint, ksE_cells, kE_cells, ksE_drop1, kE_drop1]) (by decide) Trygo55 (indexFuncqs hc hl) ?_
  refine e_end (by simp only [jA, jO, jN, seval, y3, vint, ksE_cells, kE_cells, ksE_drop1, kE_drop1] <;> with_reducible rfl) (by decide) ?_
  repeat (refine awp_seq ?_)
  refine awp_ret ⟨.inr rfl, _, _, rfl, ?_, (by first | exact (List.append_nil _).symm | rfl)⟩
  rw [← idxI_nonneg]; rfl
theorem checkQuery_c (inp : Int) (qs : List (List QK)) (x : Nat) (hx : x < qs.length) (hl : qs.length ≤ 40) (h20 : (qs[x]).length ≤ 20) : PC Try.prog 39 [.agg [vint inp, .slice (qs.map ksE) .none], vint (x : Int)] (vint (chkQ inp x qs[x] 0)) := by
  have em : maxLen = 9223372036854775807 := by decide
  have gx := ix_nat hx
  have gq := get_enc ksE hx
  obtain ⟨ops, ho⟩ : ∃ ops, ops = qs[x] := ⟨_, rfl⟩
  rw [← ho] at gq h20 ⊢
  refine pc_of (N := 49) Try.func39 rfl rfl (by simp) (by simp [Bel.int, Bel.str, Bel.bool, bel_ints0, bel_kE, bel_vE, bel_K, bel_KK, bel_pE, Bel.nilp, bel_fn0]) (.int _ _) ?_
  repeat (refine awp_seq ?_)
  refine e_eval (by simp only [jA, jO, jN, seval, y24, vint, ksE_cells, kE_cells, ksE_drop1, kE_drop1, gx, gq, Int.toNat_natCast, ksE] <;> with_reducible rfl) (by decide) ?_
  repeat (refine awp_seq ?_)
  refine e_eval (by simp only [jA, jO, jN, seval, vint, ksE_cells, kE_cells, ksE_drop1, kE_drop1, gx, gq, Int.toNat_natCast, ksE] <;> with_reducible rfl) (by decide) ?_
  repeat (refine awp_seq ?_)
  refine e_eval (by simp only [jA, jO, jN, seval, y22, y24, y52, y53, vint, ksE_cells, kE_cells, ksE_drop1, kE_drop1, gx, gq, Int.toNat_natCast, ksE] <;> with_reducible rfl) (by decide) ?_
  repeat (refine awp_seq ?_)
  refine awp_forS (σ := Int) (ops.length) (fun (q : Int) => [(1, vint (x : Int)), (2, .optr 0 0), (5, vint q), (14, .slice (ops.map kE) .none)]) [1, 2, 5, 14] ([]) (fun (q : Int) => [.row [vint inp, .slice (qs.map ksE) .none]]) (fun (i : Nat) (q : Int) => 0 ≤ q ∧ q ≤ i ∧ chkQ inp x ops 0 = chkQ inp x (ops.drop i) q) (0) (_) rfl rfl rfl rfl rfl rfl rfl rfl rfl (by decide) (by decide) (by decide) (fun _ => rfl) ((by omega)) ⟨(by first | rfl | (simp only [jN, seval, vint, ksE_cells, kE_cells, ksE_drop1, kE_drop1, gx, gq, Int.toNat_natCast, ksE] <;> first | done | with_reducible rfl)), (by first | rfl | (simp only [jN, seval, vint, ksE_cells, kE_cells, ksE_drop1, kE_drop1, gx, gq, Int.toNat_natCast, ksE] <;> first | done | with_reducible rfl)), (by first | rfl | (simp only [jN, seval, vint, ksE_cells, kE_cells, ksE_drop1, kE_drop1, gx, gq, Int.toNat_natCast, ksE] <;> first | done | with_reducible rfl)), (by first | rfl | (simp only [jN, seval, vint, ksE_cells, kE_cells, ksE_drop1, kE_drop1, gx, gq, Int.toNat_natCast, ksE] <;> first | done | with_reducible rfl)), (by first | rfl | (simp only [jN, seval, vint, ksE_cells, kE_cells, ksE_drop1, kE_drop1, gx, gq, Int.toNat_natCast, ksE] <;> first | done | with_reducible rfl)), (by first | rfl | (simp only [jN, seval, vint, ksE_cells, kE_cells, ksE_drop1, kE_drop1, gx, gq, Int.toNat_natCast, ksE] <;> first | done | with_reducible rfl)), trivial⟩ (by first | rfl | (simp only [jN, seval, vint, ksE_cells, kE_cells, ksE_drop1, kE_drop1, gx, gq, Int.toNat_natCast, ksE] <;> first | done | with_reducible rfl)) (⟨Int.le_refl _, Int.le_refl _, rfl⟩) (fun _ _ _ => by first | exact Nat.zero_le _ | (simp only [List.length_append]; omega)) ?_ ?_ ?_
  · exact fun i s hg => ⟨by simp only [List.nil_append]; repeat (first | exact hbel_nil _ | exact trivial | exact obel_row_nil _ | (refine HBel.cons ?_ ?_) | (refine obel_row_cons (by first | exact bel_qs _ _ | exact bel_ints0 _ _ | exact bel_kE _ _ _ _ | exact bel_vE _ _ _ | exact bel_K _ _ | exact bel_KK _ _ | exact Bel.int _ _ | exact Bel.bool _ | exact Bel.str _ | exact Bel.nilp | exact Bel.nilfn | exact Bel.optr _ _ (by simp) | exact bel_nil0 _ | exact bel_nil1 _ | exact bel_fn0 _ _ | assumption) ?_)), by repeat (first | exact BelL.nil | refine BelL.cons (by first | exact bel_qs _ _ | exact bel_ints0 _ _ | exact bel_kE _ _ _ _ | exact bel_vE _ _ _ | exact bel_K _ _ | exact bel_KK _ _ | exact Bel.int _ _ | exact Bel.bool _ | exact Bel.str _ | exact Bel.nilp | exact Bel.nilfn | exact Bel.optr _ _ (by simp) | exact bel_nil0 _ | exact bel_nil1 _ | exact bel_fn0 _ _ | assumption) ?_)⟩
  · intro i q hi hg
    have g1 := ix_nat hi
    have g2 := get_enc kE hi
    obtain ⟨h0, h1, h2⟩ := hg
    rw [List.drop_eq_getElem_cons hi] at h2
    obtain ⟨o, hoo⟩ : ∃ o, o = ops[i] := ⟨_, rfl⟩
    rw [← hoo] at g2 h2
    obtain ⟨a, b, c⟩ := o
    rw [chkQ] at h2
    have hr := opnd_rng inp x (a, b, c)
    have w1 : IntKind.i64.wrap (1 - (opnd inp x (a, b, c)).1) = 1 - (opnd inp x (a, b, c)).1 := wrap_id (by omega) (by omega)
    have w2 : IntKind.i64.wrap (q + (1 - (opnd inp x (a, b, c)).1)) = q + (1 - (opnd inp x (a, b, c)).1) := wrap_id (by omega) (by omega)
    repeat (refine awp_seq ?_)
    refine e_eval (by simp only [jA, jO, jN, seval, y52, y53, vint, ksE_cells, kE_cells, ksE_drop1, kE_drop1, gx, gq, Int.toNat_natCast, ksE, g1, g2, w1, w2, Int.toNat_natCast, kE] <;> with_reducible rfl) (by decide) ?_
    repeat (refine awp_seq ?_)
    refine g_eval (by simp only [jG, jO, jN, seval, y3, y52, vint, ksE_cells, kE_cells, ksE_drop1, kE_drop1, gx, gq, Int.toNat_natCast, ksE, g1, g2, w1, w2, Int.toNat_natCast, kE] <;> with_reducible rfl) (by decide) (by repeat (first | exact Fin.base _ | with_reducible apply Fin.keep | apply Fin.drop)) ?_
    repeat (refine awp_seq ?_)
    refine awp_cond rfl (by simp only [jN, seval, vint, ksE_cells, kE_cells, ksE_drop1, kE_drop1, gx, gq, Int.toNat_natCast, ksE, g1, g2, w1, w2, Int.toNat_natCast, kE] <;> with_reducible rfl) (fun bt27 => ?_) (fun bt27 => ?_)
    ·
      have hc : a < 1 ∨ a ≥ 12 := by simpa using bt27
      rw [if_pos hc] at h2
      repeat (refine awp_seq ?_)
      refine e_eval (by simp only [jA, jO, jN, seval, vint, ksE_cells, kE_cells, ksE_drop1, kE_drop1, gx, gq, Int.toNat_natCast, ksE, g1, g2, w1, w2, Int.toNat_natCast, kE] <;> with_reducible rfl) (by decide) ?_
      repeat (refine awp_seq ?_)
      refine awp_ret ⟨.inr rfl, _, rfl, ?_⟩
      simp only [jN, seval, vint, ksE_cells, kE_cells, ksE_drop1, kE_drop1, h2]
    ·
      have hc : ¬ (a < 1 ∨ a ≥ 12) := by intro h; simp only [Bool.or_eq_false_iff, decide_eq_false_iff_not] at bt27; omega
      rw [if_neg hc] at h2
      repeat (refine awp_seq ?_)
      refine awp_skip ?_
      repeat (refine awp_seq ?_)
      refine awp_region ?_
      refine e_take 3 (by simp only [jA, jO, jN, seval, y24, y52, vint, ksE_cells, kE_cells, ksE_drop1, kE_drop1, gx, gq, Int.toNat_natCast, ksE, g1, g2, w1, w2, Int.toNat_natCast, kE] <;> with_reducible rfl) (by decide) ?_
      refine aops_pure (by simp only [jC, jN, seval, vint, ksE_cells, kE_cells, ksE_drop1, kE_drop1, gx, gq, Int.toNat_natCast, ksE, g1, g2, w1, w2, Int.toNat_natCast, kE] <;> with_reducible rfl) (by simp only [jC, jN, seval, vint, ksE_cells, kE_cells, ksE_drop1, kE_drop1, gx, gq, Int.toNat_natCast, ksE, g1, g2, w1, w2, Int.toNat_natCast, kE]) (by decide) Trygo56 (operands_c inp x qs (a, b, c) _) ?_
      refine e_end (by simp only [jA, jO, jN, seval, vint, ksE_cells, kE_cells, ksE_drop1, kE_drop1, gx, gq, Int.toNat_natCast, ksE, g1, g2, w1, w2, Int.toNat_natCast, kE] <;> with_reducible rfl) (by decide) ?_
      refine awp_sel [1, 2, 5, 8, 9, 14, 15, 16] (by simp only [jN, seval, vint, ksE_cells, kE_cells, ksE_drop1, kE_drop1, gx, gq, Int.toNat_natCast, ksE, g1, g2, w1, w2, Int.toNat_natCast, kE] <;> with_reducible rfl) ?_
      repeat (refine awp_seq ?_)
      refine g_eval (by simp only [jG, jO, jN, seval, y3, vint, ksE_cells, kE_cells, ksE_drop1, kE_drop1, gx, gq, Int.toNat_natCast, ksE, g1, g2, w1, w2, Int.toNat_natCast, kE] <;> with_reducible rfl) (by decide) (by repeat (first | exact Fin.base _ | with_reducible apply Fin.keep | apply Fin.drop)) ?_
      repeat (refine awp_seq ?_)
      refine awp_cond rfl (by simp only [jN, seval, vint, ksE_cells, kE_cells, ksE_drop1, kE_drop1, gx, gq, Int.toNat_natCast, ksE, g1, g2, w1, w2, Int.toNat_natCast, kE] <;> with_reducible rfl) (fun bt41 => ?_) (fun bt41 => ?_)
      ·
        have hc2 : (opnd inp x (a, b, c)).2 = false ∨ q < (opnd inp x (a, b, c)).1 := by simpa using bt41
        rw [if_pos hc2] at h2
        repeat (refine awp_seq ?_)
        refine e_eval (by simp only [jA, jO, jN, seval, vint, ksE_cells, kE_cells, ksE_drop1, kE_drop1, gx, gq, Int.toNat_natCast, ksE, g1, g2, w1, w2, Int.toNat_natCast, kE] <;> with_reducible rfl) (by decide) ?_
        repeat (refine awp_seq ?_)
        refine awp_ret ⟨.inr rfl, _, rfl, ?_⟩
        simp only [jN, seval, vint, ksE_cells, kE_cells, ksE_drop1, kE_drop1, h2]
      ·
        have hc2 : ¬ ((opnd inp x (a, b, c)).2 = false ∨ q < (opnd inp x (a, b, c)).1) := by
          intro h
          cases hv : (opnd inp x (a, b, c)).2 <;> simp [hv] at bt41 h
          omega
        rw [if_neg hc2] at h2
        repeat (refine awp_seq ?_)
        refine awp_skip ?_
        repeat (refine awp_seq ?_)
        refine e_eval (by simp only [jA, jO, jN, seval, y3, vint, ksE_cells, kE_cells, ksE_drop1, kE_drop1, gx, gq, Int.toNat_natCast, ksE, g1, g2, w1, w2, Int.toNat_natCast, kE] <;> with_reducible rfl) (by decide) ?_
        exact ⟨⟨rfl, rfl, trivial⟩, q + (1 - (opnd inp x (a, b, c)).1), _, ⟨rfl, rfl, rfl, rfl, trivial⟩, rfl, by omega, by omega, h2⟩
  · intro q hg
    obtain ⟨h0, h1, h2⟩ := hg
    rw [List.drop_length, chkQ] at h2
    repeat (refine awp_seq ?_)
    refine e_eval (by simp only [jA, jO, jN, seval, y3, vint, ksE_cells, kE_cells, ksE_drop1, kE_drop1, gx, gq, Int.toNat_natCast, ksE] <;> with_reducible rfl) (by decide) ?_
    repeat (refine awp_seq ?_)
    refine awp_cond rfl (by simp only [jN, seval, vint, ksE_cells, kE_cells, ksE_drop1, kE_drop1, gx, gq, Int.toNat_natCast, ksE] <;> with_reducible rfl) (fun bt48 => ?_) (fun bt48 => ?_)
    ·
      have hd : ¬ q = 1 := by simpa using bt48
      rw [if_neg hd] at h2
      repeat (refine awp_seq ?_)
      refine e_eval (by simp only [jA, jO, jN, seval, vint, ksE_cells, kE_cells, ksE_drop1, kE_drop1, gx, gq, Int.toNat_natCast, ksE] <;> with_reducible rfl) (by decide) ?_
      repeat (refine awp_seq ?_)
      refine awp_ret ⟨.inr rfl, _, rfl, ?_⟩
      simp only [jN, seval, vint, ksE_cells, kE_cells, ksE_drop1, kE_drop1, h2]
    ·
      have hd : q = 1 := by simpa using bt48
      rw [if_pos hd] at h2
      repeat (refine awp_seq ?_)
      refine awp_skip ?_
      repeat (refine awp_seq ?_)
      refine e_eval (by simp only [jA, jO, jN, seval, vint, ksE_cells, kE_cells, ksE_drop1, kE_drop1, gx, gq, Int.toNat_natCast, ksE] <;> with_reducible rfl) (by decide) ?_
      repeat (refine awp_seq ?_)
      refine awp_ret ⟨.inr rfl, _, rfl, ?_⟩
      simp only [jN, seval, vint, ksE_cells, kE_cells, ksE_drop1, kE_drop1, h2]
end Go.Abs
set_option maxRecDepth 4000
namespace Go.Abs
open Go.Proofs Go.Memo
theorem check_c (inp : Int) (qs : List (List QK)) (hq : qs.length ≤ maxLen) : PC Try.prog 20 [.agg [vint inp, .slice (qs.map ksE) .none]] (vint (chkP inp qs)) := by
  have em : maxLen = 9223372036854775807 := by decide
  refine pc_of (N := 37) Try.func20 rfl rfl (by simp) (by simp [Bel.int, Bel.str, Bel.bool, bel_ints0, bel_kE, bel_vE, bel_K, bel_KK, bel_pE, Bel.nilp, bel_fn0]) (.int _ _) ?_
  repeat (refine awp_seq ?_)
  refine e_eval (by simp only [jA, jO, jN, seval, y24, vint, ksE_cells, kE_cells, ksE_drop1, kE_drop1] <;> with_reducible rfl) (by decide) ?_
  repeat (refine awp_seq ?_)
  refine e_eval (by simp only [jA, jO, jN, seval, vint, ksE_cells, kE_cells, ksE_drop1, kE_drop1] <;> with_reducible rfl) (by decide) ?_
  repeat (refine awp_seq ?_)
  refine awp_region ?_
  refine aops_gstart ?_
  refine g_take 13 (by simp only [jG, jO, jN, seval, y3, y22, y24, y53, vint, ksE_cells, kE_cells, ksE_drop1, kE_drop1] <;> with_reducible rfl) (by decide) ?_
  refine aops_gpure (by simp only [jE, jN, seval, vint, ksE_cells, kE_cells, ksE_drop1, kE_drop1] <;> with_reducible rfl) (by simp only [jE, jN, seval, vint, ksE_cells, kE_cells, ksE_drop1, kE_drop1] <;> with_reducible rfl) (by simp only [jE, jN, seval, vint, ksE_cells, kE_cells, ksE_drop1, kE_drop1]) (by decide) Trygo38 (fun hc => containsFuncqs ⟨Trygo37, by simp, fun u hu => check1 u _⟩ hq) ?_
  refine g_end (by simp only [jG, jO, jN, seval, vint, ksE_cells, kE_cells, ksE_drop1, kE_drop1] <;> with_reducible rfl) (by decide) (by repeat (first | exact Fin.base _ | with_reducible apply Fin.keep | apply Fin.drop)) ?_
  repeat (refine awp_seq ?_)
  refine awp_cond rfl (by simp only [jN, seval, vint, ksE_cells, kE_cells, ksE_drop1, kE_drop1] <;> with_reducible rfl) (fun bt20 => ?_) (fun bt20 => ?_)
  ·
    have hc : inp > 40 ∨ qs.length > 40 ∨ (qs.any fun q => decide ((q.length : Int) > 20)) = true := by simp only [Bool.or_eq_true, decide_eq_true_eq] at bt20; exact bt20.elim (fun h => h.elim .inl (fun h => .inr (.inl (by omega)))) (fun h => .inr (.inr h))
    have hv : chkP inp qs = 2 := by unfold chkP; rw [if_pos hc]
    refine awp_sel [] (by simp only [jN, seval, vint, ksE_cells, kE_cells, ksE_drop1, kE_drop1] <;> with_reducible rfl) ?_
    repeat (refine awp_seq ?_)
    refine e_eval (by simp only [jA, jO, jN, seval, vint, ksE_cells, kE_cells, ksE_drop1, kE_drop1] <;> with_reducible rfl) (by decide) ?_
    repeat (refine awp_seq ?_)
    refine awp_ret ⟨.inr rfl, _, rfl, ?_⟩
    simp only [jN, seval, vint, ksE_cells, kE_cells, ksE_drop1, kE_drop1, hv]
  ·
    have hc : ¬ (inp > 40 ∨ qs.length > 40 ∨ (qs.any fun q => decide ((q.length : Int) > 20)) = true) := by
      simp only [Bool.or_eq_false_iff, decide_eq_false_iff_not] at bt20
      rintro (h | h | h)
      · exact bt20.1.1 h
      · exact bt20.1.2 (by omega)
      · rw [h] at bt20; exact absurd bt20.2 (by simp)
    have h40 : qs.length ≤ 40 := by omega
    have h20 : ∀ q ∈ qs, q.length ≤ 20 := fun q hm => by
      rcases Nat.lt_or_ge 20 q.length with h | h
      · exact (hc (.inr (.inr (List.any_eq_true.2 ⟨q, hm, by simp; omega⟩)))).elim
      · exact h
    repeat (refine awp_seq ?_)
    refine awp_skip ?_
    refine awp_sel [1] (by simp only [jN, seval, vint, ksE_cells, kE_cells, ksE_drop1, kE_drop1] <;> with_reducible rfl) ?_
    repeat (refine awp_seq ?_)
    refine e_eval (by simp only [jA, jO, jN, seval, y3, y24, vint, ksE_cells, kE_cells, ksE_drop1, kE_drop1] <;> with_reducible rfl) (by decide) ?_
    repeat (refine awp_seq ?_)
    refine awp_cond rfl (by simp only [jN, seval, vint, ksE_cells, kE_cells, ksE_drop1, kE_drop1] <;> with_reducible rfl) (fun bt23 => ?_) (fun bt23 => ?_)
    ·
      have hv : chkP inp qs = 1 := by unfold chkP; rw [if_neg hc, if_pos (of_decide_eq_true bt23)]
      repeat (refine awp_seq ?_)
      refine e_eval (by simp only [jA, jO, jN, seval, vint, ksE_cells, kE_cells, ksE_drop1, kE_drop1] <;> with_reducible rfl) (by decide) ?_
      repeat (refine awp_seq ?_)
      refine awp_ret ⟨.inr rfl, _, rfl, ?_⟩
      simp only [jN, seval, vint, ksE_cells, kE_cells, ksE_drop1, kE_drop1, hv]
    ·
      have hv : chkP inp qs = chkAll inp qs 0 := by unfold chkP; rw [if_neg hc, if_neg (of_decide_eq_false bt23)]
      repeat (refine awp_seq ?_)
      refine awp_skip ?_
      repeat (refine awp_seq ?_)
      refine e_eval (by simp only [jA, jO, jN, seval, y22, y24, y53, vint, ksE_cells, kE_cells, ksE_drop1, kE_drop1] <;> with_reducible rfl) (by decide) ?_
      repeat (refine awp_seq ?_)
      refine awp_forS (σ := Unit) (qs.length) (fun (u_ : Unit) => [(1, .optr 0 0)]) [1] ([]) (fun (u_ : Unit) => [.row [vint inp, .slice (qs.map ksE) .none]]) (fun (i : Nat) (u_ : Unit) => chkAll inp qs 0 = chkAll inp (qs.drop i) i) (()) (_) rfl rfl rfl rfl rfl rfl rfl rfl rfl (by decide) (by decide) (by decide) (fun _ => rfl) (hq) ⟨(by first | rfl | (simp only [jN, seval, vint, ksE_cells, kE_cells, ksE_drop1, kE_drop1] <;> first | done | with_reducible rfl)), (by first | rfl | (simp only [jN, seval, vint, ksE_cells, kE_cells, ksE_drop1, kE_drop1] <;> first | done | with_reducible rfl)), (by first | rfl | (simp only [jN, seval, vint, ksE_cells, kE_cells, ksE_drop1, kE_drop1] <;> first | done | with_reducible rfl)), trivial⟩ (by first | rfl | (simp only [jN, seval, vint, ksE_cells, kE_cells, ksE_drop1, kE_drop1] <;> first | done | with_reducible rfl)) (rfl) (fun _ _ _ => by first | exact Nat.zero_le _ | (simp only [List.length_append]; omega)) ?_ ?_ ?_
      · exact fun i s hg => ⟨by simp only [List.nil_append]; repeat (first | exact hbel_nil _ | exact trivial | exact obel_row_nil _ | (refine HBel.cons ?_ ?_) | (refine obel_row_cons (by first | exact bel_qs _ _ | exact bel_ints0 _ _ | exact bel_kE _ _ _ _ | exact bel_vE _ _ _ | exact bel_K _ _ | exact bel_KK _ _ | exact Bel.int _ _ | exact Bel.bool _ | exact Bel.str _ | exact Bel.nilp | exact Bel.nilfn | exact Bel.optr _ _ (by simp) | exact bel_nil0 _ | exact bel_nil1 _ | exact bel_fn0 _ _ | assumption) ?_)), by repeat (first | exact BelL.nil | refine BelL.cons (by first | exact bel_qs _ _ | exact bel_ints0 _ _ | exact bel_kE _ _ _ _ | exact bel_vE _ _ _ | exact bel_K _ _ | exact bel_KK _ _ | exact Bel.int _ _ | exact Bel.bool _ | exact Bel.str _ | exact Bel.nilp | exact Bel.nilfn | exact Bel.optr _ _ (by simp) | exact bel_nil0 _ | exact bel_nil1 _ | exact bel_fn0 _ _ | assumption) ?_)⟩
      · intro i u_ hi hg
        have g1 := ix_nat hi
        rw [List.drop_eq_getElem_cons hi, chkAll] at hg
        repeat (refine awp_seq ?_)
        refine e_eval (by simp only [jA, jO, jN, seval, vint, ksE_cells, kE_cells, ksE_drop1, kE_drop1, g1, Int.toNat_natCast] <;> with_reducible rfl) (by decide) ?_
        repeat (refine awp_seq ?_)
        refine awp_region ?_
        refine e_take 2 (by simp only [jA, jO, jN, seval, y24, vint, ksE_cells, kE_cells, ksE_drop1, kE_drop1, g1, Int.toNat_natCast] <;> with_reducible rfl) (by decide) ?_
        refine aops_pure (by simp only [jC, jN, seval, vint, ksE_cells, kE_cells, ksE_drop1, kE_drop1, g1, Int.toNat_natCast] <;> with_reducible rfl) (by simp only [jC, jN, seval, vint, ksE_cells, kE_cells, ksE_drop1, kE_drop1, g1, Int.toNat_natCast]) (by decide) Trygo39 (checkQuery_c inp qs i hi h40 (h20 _ (List.getElem_mem hi)) _) ?_
        refine e_end (by simp only [jA, jO, jN, seval, vint, ksE_cells, kE_cells, ksE_drop1, kE_drop1, g1, Int.toNat_natCast] <;> with_reducible rfl) (by decide) ?_
        repeat (refine awp_seq ?_)
        refine e_eval (by simp only [jA, jO, jN, seval, y38, vint, ksE_cells, kE_cells, ksE_drop1, kE_drop1, g1, Int.toNat_natCast] <;> with_reducible rfl) (by decide) ?_
        repeat (refine awp_seq ?_)
        refine awp_cond rfl (by simp only [jN, seval, vint, ksE_cells, kE_cells, ksE_drop1, kE_drop1, g1, Int.toNat_natCast] <;> with_reducible rfl) (fun bt34 => ?_) (fun bt34 => ?_)
        ·
          have hn : ¬ chkQ inp i qs[i] 0 = 0 := by simpa using bt34
          rw [if_neg hn] at hg
          rw [hg] at hv
          repeat (refine awp_seq ?_)
          refine e_eval (by simp only [jA, jO, jN, seval, vint, ksE_cells, kE_cells, ksE_drop1, kE_drop1, g1, Int.toNat_natCast] <;> with_reducible rfl) (by decide) ?_
          repeat (refine awp_seq ?_)
          refine awp_ret ⟨.inr rfl, _, rfl, ?_⟩
          simp only [jN, seval, vint, ksE_cells, kE_cells, ksE_drop1, kE_drop1, hv]
        ·
          have hn : chkQ inp i qs[i] 0 = 0 := by simpa using bt34
          rw [if_pos hn] at hg
          repeat (refine awp_seq ?_)
          refine awp_skip ?_
          exact ⟨⟨rfl, rfl, trivial⟩, (), _, ⟨rfl, trivial⟩, rfl, hg⟩
      · intro u_ hg
        rw [List.drop_length, chkAll] at hg
        repeat (refine awp_seq ?_)
        refine e_eval (by simp only [jA, jO, jN, seval, vint, ksE_cells, kE_cells, ksE_drop1, kE_drop1] <;> with_reducible rfl) (by decide) ?_
        repeat (refine awp_seq ?_)
        refine awp_ret ⟨.inr rfl, _, rfl, ?_⟩
        rw [hg] at hv
        simp only [jN, seval, vint, ksE_cells, kE_cells, ksE_drop1, kE_drop1, hv]
theorem usable_c (inp : Int) (qs : List (List QK)) (hq : qs.length ≤ maxLen) : PC Try.prog 5 [.agg [vint inp, .slice (qs.map ksE) .none]] (.bool (decide (chkP inp qs = 0) && decide ((qs.length : Int) > 0) && decide (inp > 0))) := by
  refine pc_of (N := 17) Try.func5 rfl rfl (by simp) (by simp [Bel.int, Bel.str, Bel.bool, bel_ints0, bel_kE, bel_vE, bel_K, bel_KK, bel_pE, Bel.nilp, bel_fn0]) (.bool _) ?_
  repeat (refine awp_seq ?_)
  refine e_eval (by simp only [jA, jO, jN, seval, y24, vint, ksE_cells, kE_cells, ksE_drop1, kE_drop1] <;> with_reducible rfl) (by decide) ?_
  repeat (refine awp_seq ?_)
  refine awp_region ?_
  refine aops_gstart ?_
  refine g_take 1 (by simp only [jG, jO, jN, seval, y24, vint, ksE_cells, kE_cells, ksE_drop1, kE_drop1] <;> with_reducible rfl) (by decide) ?_
  refine aops_gpure (by simp only [jE, jN, seval, vint, ksE_cells, kE_cells, ksE_drop1, kE_drop1] <;> with_reducible rfl) (by simp only [jE, jN, seval, vint, ksE_cells, kE_cells, ksE_drop1, kE_drop1] <;> with_reducible rfl) (by simp only [jE, jN, seval, vint, ksE_cells, kE_cells, ksE_drop1, kE_drop1]) (by decide) Trygo20 (fun hc => check_c inp qs hq _) ?_
  refine g_end (by simp only [jG, jO, jN, seval, y3, y22, y24, y38, y53, vint, ksE_cells, kE_cells, ksE_drop1, kE_drop1] <;> with_reducible rfl) (by decide) (by repeat (first | exact Fin.base _ | with_reducible apply Fin.keep | apply Fin.drop)) ?_
  repeat (refine awp_seq ?_)
  refine awp_ret ⟨.inr rfl, _, rfl, ?_⟩
  simp only [jN, seval, vint, ksE_cells, kE_cells, ksE_drop1, kE_drop1]
theorem indexK (xs : List QK) (k : QK) (hx : xs.length ≤ maxLen) : PC Try.prog 69 [.slice (xs.map kE) .none, kE k] (vint (idxI (fun x => decide (k = x)) xs)) := by
  refine pc_of (N := 19) Try.func69 rfl rfl (by simp) (by simp [Bel.int, Bel.str, Bel.bool, bel_ints0, bel_kE, bel_vE, bel_K, bel_KK, bel_pE, Bel.nilp, bel_fn0, kE]) (.int _ _) ?_
  repeat (refine awp_seq ?_)
  refine e_eval (by simp only [jA, jO, jN, seval, y37, vint, ksE_cells, kE_cells, ksE_drop1, kE_drop1, kE] <;> with_reducible rfl) (by decide) ?_
  repeat (refine awp_seq ?_)
  refine e_eval (by simp only [jA, jO, jN, seval, y37, y82, vint, ksE_cells, kE_cells, ksE_drop1, kE_drop1, kE] <;> with_reducible rfl) (by decide) ?_
  repeat (refine awp_seq ?_)
  refine awp_forS (σ := Unit) (xs.length) (fun (u_ : Unit) => [(0, .slice (xs.map kE) .none), (3, .optr 0 0)]) [0, 3] ([]) (fun (u_ : Unit) => [.row [vint k.1, vint k.2.1, vint k.2.2]]) (fun (i : Nat) (u_ : Unit) => (xs.take i).any (fun x => decide (k = x)) = false) (()) (_) rfl rfl rfl rfl rfl rfl rfl rfl rfl (by decide) (by decide) (by decide) (fun _ => rfl) (hx) ⟨(by first | rfl | (simp only [jN, seval, vint, ksE_cells, kE_cells, ksE_drop1, kE_drop1, kE] <;> first | done | with_reducible rfl)), (by first | rfl | (simp only [jN, seval, vint, ksE_cells, kE_cells, ksE_drop1, kE_drop1, kE] <;> first | done | with_reducible rfl)), (by first | rfl | (simp only [jN, seval, vint, ksE_cells, kE_cells, ksE_drop1, kE_drop1, kE] <;> first | done | with_reducible rfl)), (by first | rfl | (simp only [jN, seval, vint, ksE_cells, kE_cells, ksE_drop1, kE_drop1, kE] <;> first | done | with_reducible rfl)), trivial⟩ (by first | rfl | (simp only [jN, seval, vint, ksE_cells, kE_cells, ksE_drop1, kE_drop1, kE] <;> first | done | with_reducible rfl)) (by simp) (fun _ _ _ => by first | exact Nat.zero_le _ | (simp only [List.length_append]; omega)) ?_ ?_ ?_
  · exact fun i s hg => ⟨by simp only [List.nil_append]; repeat (first | exact hbel_nil _ | exact trivial | exact obel_row_nil _ | (refine HBel.cons ?_ ?_) | (refine obel_row_cons (by first | exact bel_qs _ _ | exact bel_ints0 _ _ | exact bel_kE _ _ _ _ | exact bel_vE _ _ _ | exact bel_K _ _ | exact bel_KK _ _ | exact Bel.int _ _ | exact Bel.bool _ | exact Bel.str _ | exact Bel.nilp | exact Bel.nilfn | exact Bel.optr _ _ (by simp) | exact bel_nil0 _ | exact bel_nil1 _ | exact bel_fn0 _ _ | assumption) ?_)), by repeat (first | exact BelL.nil | refine BelL.cons (by first | exact bel_qs _ _ | exact bel_ints0 _ _ | exact bel_kE _ _ _ _ | exact bel_vE _ _ _ | exact bel_K _ _ | exact bel_KK _ _ | exact Bel.int _ _ | exact Bel.bool _ | exact Bel.str _ | exact Bel.nilp | exact Bel.nilfn | exact Bel.optr _ _ (by simp) | exact bel_nil0 _ | exact bel_nil1 _ | exact bel_fn0 _ _ | assumption) ?_)⟩
  · intro i u_ hi hg
    have g1 := ix_nat hi
    have g2 := get_enc kE hi
    repeat (refine awp_seq ?_)
    refine e_eval (by simp only [jA, jO, jN, seval, vint, ksE_cells, kE_cells, ksE_drop1, kE_drop1, kE, g1, Int.toNat_natCast, g2, kE] <;> with_reducible rfl) (by decide) ?_
    repeat (refine awp_seq ?_)
    refine dp_draw (by kernel_rfl) ?_
    refine dp_take 5 (by simp only [jP, jO, jN, seval, y37, y82, vint, ksE_cells, kE_cells, ksE_drop1, kE_drop1, kE, g1, Int.toNat_natCast, g2, kE] <;> with_reducible rfl) (by decide) ?_
    refine dp_eqlFlat (ps := [vint k.1, vint k.2.1, vint k.2.2]) (qs := [vint xs[i].1, vint xs[i].2.1, vint xs[i].2.2]) qk_at rfl (by simp only [jC, jN, seval, vint, ksE_cells, kE_cells, ksE_drop1, kE_drop1, g1, g2, Int.toNat_natCast, kE] <;> first | done | rfl) (by simp only [jC, jN, seval, vint, ksE_cells, kE_cells, ksE_drop1, kE_drop1, g1, g2, Int.toNat_natCast, kE] <;> first | done | rfl) rfl rfl (by simp only [jE, jN, seval, vint, ksE_cells, kE_cells, ksE_drop1, kE_drop1] <;> with_reducible rfl) (by simp only [jE, jN, seval, vint, ksE_cells, kE_cells, ksE_drop1, kE_drop1]) (by decide) (by decide) ?_
    rw [qk_eq]
    refine dp_end (by simp only [jP, jO, jN, seval, vint, ksE_cells, kE_cells, ksE_drop1, kE_drop1, kE, g1, Int.toNat_natCast, g2, kE] <;> with_reducible rfl) (by decide) (by repeat (first | exact Fin.base _ | with_reducible apply Fin.keep | apply Fin.drop)) ?_
    repeat (refine awp_seq ?_)
    refine awp_cond rfl (by simp only [jN, seval, vint, ksE_cells, kE_cells, ksE_drop1, kE_drop1, kE, g1, Int.toNat_natCast, g2, kE] <;> with_reducible rfl) (fun bt16 => ?_) (fun bt16 => ?_)
    ·
      skip
      repeat (refine awp_seq ?_)
      refine e_eval (by simp only [jA, jO, jN, seval, vint, ksE_cells, kE_cells, ksE_drop1, kE_drop1, kE, g1, Int.toNat_natCast, g2, kE] <;> with_reducible rfl) (by decide) ?_
      repeat (refine awp_seq ?_)
      refine awp_ret ⟨.inr rfl, _, rfl, ?_⟩
      rw [idxI_at hi bt16 hg]; rfl
    ·
      skip
      repeat (refine awp_seq ?_)
      refine awp_skip ?_
      exact ⟨⟨rfl, rfl, trivial⟩, (), _, ⟨rfl, rfl, trivial⟩, rfl, any_take_succ hi hg bt16⟩
  · intro u_ hg
    rw [List.take_length] at hg
    repeat (refine awp_seq ?_)
    refine e_eval (by simp only [jA, jO, jN, seval, vint, ksE_cells, kE_cells, ksE_drop1, kE_drop1, kE] <;> with_reducible rfl) (by decide) ?_
    repeat (refine awp_seq ?_)
    refine awp_ret ⟨.inr rfl, _, rfl, ?_⟩
    rw [idxI_none hg]; rfl
theorem containsK (xs : List QK) (k : QK) (hx : xs.length ≤ maxLen) : PC Try.prog 63 [.slice (xs.map kE) .none, kE k] (.bool (decide (k ∈ xs))) := by
  refine pc_of (N := 9) Try.func63 rfl rfl (by simp) (by simp [Bel.int, Bel.str, Bel.bool, bel_ints0, bel_kE, bel_vE, bel_K, bel_KK, bel_pE, Bel.nilp, bel_fn0, kE]) (.bool _) ?_
  repeat (refine awp_seq ?_)
  refine e_eval (by simp only [jA, jO, jN, seval, y37, vint, ksE_cells, kE_cells, ksE_drop1, kE_drop1, kE] <;> with_reducible rfl) (by decide) ?_
  repeat (refine awp_seq ?_)
  refine awp_region ?_
  refine e_take 2 (by simp only [jA, jO, jN, seval, y37, vint, ksE_cells, kE_cells, ksE_drop1, kE_drop1, kE] <;> with_reducible rfl) (by decide) ?_
  refine aops_pure (by simp only [jC, jN, seval, vint, ksE_cells, kE_cells, ksE_drop1, kE_drop1, kE] <;> with_reducible rfl) (by simp only [jC, jN, seval, vint, ksE_cells, kE_cells, ksE_drop1, kE_drop1, kE]) (by decide) Trygo69 (indexK xs k hx _) ?_
  refine e_end (by simp only [jA, jO, jN, seval, y3, vint, ksE_cells, kE_cells, ksE_drop1, kE_drop1, kE] <;> with_reducible rfl) (by decide) ?_
  repeat (refine awp_seq ?_)
  refine awp_ret ⟨.inr rfl, _, rfl, ?_⟩
  rw [show decide (k ∈ xs) = (xs.any fun x => decide (k = x)) from by rw [Bool.eq_iff_iff]; simp, ← idxI_nonneg]; rfl
theorem inClone (l : List Int) (t : List UInt8) (hl : l.length * 8 ≤ 2 ^ 47) : PC Try.prog 44 [(.agg [.slice (l.map vint) .none, .str t])] (.agg [.slice (l.map vint) .none, .str t]) := by
  refine pc_of (N := 9) Try.func44 rfl rfl (by simp) (by simp [Bel.int, Bel.str, Bel.bool, bel_ints0, bel_kE, bel_vE, bel_K, bel_KK, bel_pE, Bel.nilp, bel_fn0]) (bel_vE _ _ _) ?_
  repeat (refine awp_seq ?_)
  refine e_eval (by simp only [jA, jO, jN, seval, y41, vint, ksE_cells, kE_cells, ksE_drop1, kE_drop1] <;> with_reducible rfl) (by decide) ?_
  repeat (refine awp_seq ?_)
  refine x_draw 0 rfl (by kernel_rfl) ?_
  refine x1_take 2 rfl (by simp only [jP, jO, jN, seval, y3, y32, y41, vint, ksE_cells, kE_cells, ksE_drop1, kE_drop1] <;> with_reducible rfl) (by decide) (by decide) (by decide) ?_
  refine x1_keep rfl (by simp only [jE, jN, seval, vint, ksE_cells, kE_cells, ksE_drop1, kE_drop1] <;> with_reducible rfl) (by simp only [jE, jN, seval, vint, ksE_cells, kE_cells, ksE_drop1, kE_drop1] <;> with_reducible rfl) (by simp only [jE, jN, seval, vint, ksE_cells, kE_cells, ksE_drop1, kE_drop1]) (by decide) Trygo45 (fun hc L => cloneInt l hl _) ?_
  refine x1_take 3 rfl (by simp only [jP, jO, jN, seval, y9, y41, vint, ksE_cells, kE_cells, ksE_drop1, kE_drop1] <;> with_reducible rfl) (by decide) (by decide) (by decide) ?_
  refine x_mid (by first | (simp only [LS, HS, List.append_assoc, List.cons_append, List.nil_append] <;> with_reducible rfl) | rfl) ?_
  refine x2_end (bm := [0, 1, 3, 0, 8, 31, 63]) (fresh := 0) (by kernel_rfl) (by simp only [jX, jO, jN, seval, y41, vint, ksE_cells, kE_cells, ksE_drop1, kE_drop1] <;> with_reducible rfl) (by decide) (by repeat (first | exact Fin.base _ | with_reducible apply Fin.keep | apply Fin.drop)) ?_
  repeat (refine awp_seq ?_)
  refine awp_ret ⟨.inr rfl, _, (ares_cell 2 41 rfl Tryti41 (by decide) (by simp only [jL, jN, seval, vint, ksE_cells, kE_cells, ksE_drop1, kE_drop1] <;> with_reducible rfl)), ?_⟩
  simp only [jN, seval, vint, ksE_cells, kE_cells, ksE_drop1, kE_drop1]
  try rfl
theorem meClone (l : List Int) (t : List UInt8) (hl : l.length * 8 ≤ 2 ^ 47) : PC Try.prog 31 [(.agg [.slice (l.map vint) .none, .str t])] (.agg [.slice (l.map vint) .none, .str t]) := by
  refine pc_of (N := 9) Try.func31 rfl rfl (by simp) (by simp [Bel.int, Bel.str, Bel.bool, bel_ints0, bel_kE, bel_vE, bel_K, bel_KK, bel_pE, Bel.nilp, bel_fn0]) (bel_vE _ _ _) ?_
  repeat (refine awp_seq ?_)
  refine e_eval (by simp only [jA, jO, jN, seval, y41, vint, ksE_cells, kE_cells, ksE_drop1, kE_drop1] <;> with_reducible rfl) (by decide) ?_
  repeat (refine awp_seq ?_)
  refine x_draw 0 rfl (by kernel_rfl) ?_
  refine x1_take 2 rfl (by simp only [jP, jO, jN, seval, y3, y32, y41, vint, ksE_cells, kE_cells, ksE_drop1, kE_drop1] <;> with_reducible rfl) (by decide) (by decide) (by decide) ?_
  refine x1_keep rfl (by simp only [jE, jN, seval, vint, ksE_cells, kE_cells, ksE_drop1, kE_drop1] <;> with_reducible rfl) (by simp only [jE, jN, seval, vint, ksE_cells, kE_cells, ksE_drop1, kE_drop1] <;> with_reducible rfl) (by simp only [jE, jN, seval, vint, ksE_cells, kE_cells, ksE_drop1, kE_drop1]) (by decide) Trygo45 (fun hc L => cloneInt l hl _) ?_
  refine x1_take 3 rfl (by simp only [jP, jO, jN, seval, y9, y41, vint, ksE_cells, kE_cells, ksE_drop1, kE_drop1] <;> with_reducible rfl) (by decide) (by decide) (by decide) ?_
  refine x_mid (by first | (simp only [LS, HS, List.append_assoc, List.cons_append, List.nil_append] <;> with_reducible rfl) | rfl) ?_
  refine x2_end (bm := [0, 1, 3, 0, 8, 31, 63]) (fresh := 0) (by kernel_rfl) (by simp only [jX, jO, jN, seval, y41, vint, ksE_cells, kE_cells, ksE_drop1, kE_drop1] <;> with_reducible rfl) (by decide) (by repeat (first | exact Fin.base _ | with_reducible apply Fin.keep | apply Fin.drop)) ?_
  repeat (refine awp_seq ?_)
  refine awp_ret ⟨.inr rfl, _, (ares_cell 2 41 rfl Tryti41 (by decide) (by simp only [jL, jN, seval, vint, ksE_cells, kE_cells, ksE_drop1, kE_drop1] <;> with_reducible rfl)), ?_⟩
  simp only [jN, seval, vint, ksE_cells, kE_cells, ksE_drop1, kE_drop1]
  try rfl
end Go.Abs
namespace Go.Abs
section
variable {P : Program} {N nb : Nat} {ops : Array Oper} {Q : Post} {T : Slots} {H : Heap}
def XCalls (P : Program) (ch : List PanicEntry) (f : FuncId) (args : List PV) (H : Heap) (R : PV → Heap → Prop) (Rp : Heap → Prop) : Prop :=
  ∀ (E : Env) (vargs : Array Value), E.Ok → E.H = H → RL E.view vargs args → Calls P f vargs E.w fun e w' =>
    (∃ (E' : Env) (v : Value) (r : PV), e = .returned v ∧ E'.w = w' ∧ E.le E' ∧ E'.Ok ∧ VRel E'.view v r ∧ R r E'.H) ∨ (∃ E' : Env, e = .panicked ch ∧ E'.w = w' ∧ E.le E' ∧ E'.Ok ∧ Rp E'.H)
theorem XCalls.mono {ch : List PanicEntry} {f : FuncId} {args : List PV} {R R' : PV → Heap → Prop} {Rp Rp' : Heap → Prop} (h : XCalls P ch f args H R Rp) (hr : ∀ r H, R r H → R' r H) (hp : ∀ H, Rp H → Rp' H) : XCalls P ch f args H R' Rp' :=
  fun E vargs ho hH hl => (h E vargs ho hH hl).mono fun e w' hx => by
    rcases hx with ⟨E', v, r, h1, h2, h3, h4, h5, h6⟩ | ⟨E', h1, h2, h3, h4, h5⟩
    · exact .inl ⟨E', v, r, h1, h2, h3, h4, h5, hr _ _ h6⟩
    · exact .inr ⟨E', h1, h2, h3, h4, hp _ h5⟩
theorem ACalls.x {ch : List PanicEntry} {f : FuncId} {args : List PV} {R : PV → Heap → Prop} (h : ACalls P f args H R) : XCalls P ch f args H R fun _ => False :=
  fun E vargs ho hH hl => (h E vargs ho hH hl).mono fun e w' hx => .inl hx
theorem XCalls.a {ch : List PanicEntry} {f : FuncId} {args : List PV} {R : PV → Heap → Prop} (h : XCalls P ch f args H R fun _ => False) : ACalls P f args H R :=
  fun E vargs ho hH hl => (h E vargs ho hH hl).mono fun e w' hx => by
    rcases hx with hx | ⟨E', h1, h2, h3, h4, h5⟩
    · exact hx
    · exact h5.elim
theorem aops_xcall {ch : List PanicEntry} {o : Oper} {l : List Oper} {fo : Operand} {xs : Array Operand} {ts : Array TypeId} (hop : o.op = .call ⟨.value fo, xs, ts⟩) (hw : awanted ops.toList T N o = some true) (hok : okOp N o.op = true)
    {f : FuncId} {pf pc : List PV} (hf : aev T fo = .fn (.func f) pf pc) (hgo : goFn P f = true) {args : List PV} (hargs : pf ++ (xs.toList.map fun x => (aev T x).drop1) ++ pc = args) {R : PV → Heap → Prop} {Rp : Heap → Prop} (hc : XCalls P ch f args H R Rp)
    (h : ∀ r H', R r H' → AOps P N nb ops Q l (updO T o.dst r) H') (hp : ∀ H', Rp H' → Q (.panic ch) T H') : AOps P N nb ops Q (o :: l) T H := by
  intro E a ho hH ht
  refine wpList_cons (awanted_sound ht hw) ?_
  have hall : ∀ x ∈ o.op.operands.toList, okOpnd N x = true := fun x hx => List.all_eq_true.1 hok x hx
  rw [hop] at hall
  simp only [Op.operands, Call.operands] at hall
  have hr := vrel_eval ht fo (hall fo (by simp))
  rw [hf] at hr
  obtain ⟨first, caps, hval, h1, h2⟩ : ∃ first caps, a.eval fo = .func (.func f) first caps ∧ RL E.view first pf ∧ RL E.view caps pc := by
    generalize a.eval fo = y at hr
    cases hr with
    | fn _ first caps _ _ hf hc hrf hrc => exact ⟨first, caps, rfl, ⟨hf, hrf⟩, ⟨hc, hrc⟩⟩
  have h3 := rl_map ht xs (List.all_eq_true.2 fun x hx => hall x (by simp; right; simpa using hx))
  have hrl := rl_append' (rl_append' h1 h3) h2
  rw [hargs] at hrl
  have hrun : (execOp a.eval o).run P E.w = .ok (.enter f (first ++ xs.map a.eval ++ caps)) E.w := by
    unfold execOp
    rw [hop]
    simp only [resolve, hval, Deferred.ofValue, Sem.run_bind, Sem.run_pure, Result.andThen_ok, invoke, run_callFunc hgo]
  unfold Oper.wp
  rw [hrun]
  refine (hc E _ ho hH hrl).mono ?_
  rintro e w' (⟨E', v, r, rfl, rfl, h5, h6, h7, h8⟩ | ⟨E', rfl, rfl, h5, h6, h7⟩)
  · exact wpList_mono (fun e a w hl => lift_mono (h5.leN nb) (fun _ _ _ q => q) hl) l _ _ (h r E'.H h8 E' (a.put o.dst v) h6 rfl ((ht.mono h5.view).put o.dst h7))
  · exact ⟨E', T, rfl, h5.leN nb, h6, ht.mono h5.view, hp _ h7⟩
theorem aops_xc {ch : List PanicEntry} {o : Oper} {l : List Oper} {f : FuncId} {args : List PV} (hcall : acall T o.op = some (f, args)) (hw : awanted ops.toList T N o = some true) (hok : okOp N o.op = true)
    (hgo : goFn P f = true) {R : PV → Heap → Prop} {Rp : Heap → Prop} (hc : XCalls P ch f args H R Rp) (h : ∀ r H', R r H' → AOps P N nb ops Q l (updO T o.dst r) H') (hp : ∀ H', Rp H' → Q (.panic ch) T H') : AOps P N nb ops Q (o :: l) T H := by
  obtain ⟨fo, xs, ts, pf, pc, h1, h2, h3⟩ := acall_spec hcall
  exact aops_xcall h1 hw hok h2 hgo h3 hc h hp
theorem xcalls_of {ch : List PanicEntry} {f : FuncId} {fn : Func} {c : Code} {args : List PV} {R : PV → Heap → Prop} {Rp : Heap → Prop} (hf : P.funcs[f]? = some fn) (hb : fn.body = some c) (hN : fn.ntmps = N) (hl : args.length ≤ N)
    (h : HBel H.length H → AWP P N H.length c (fun e T H => ((e = .normal ∨ e = .ret) ∧ ∃ r, aresults P N T H fn.results.toList = some r ∧ R r H) ∨ (e = .panic ch ∧ Rp H)) (enter args) H) : XCalls P ch f args H R Rp := by
  intro E vargs ho hH hrl
  refine calls_of_wp hf hb (wp_mono (h (by have := ho.hbel; rw [hH] at this; exact this) E _ ho hH ⟨by simp [hrl.1, hN]; omega, rfl, fun i hi => ?_⟩) ?_)
  · rw [Array.getD_eq_getD_getElem?, Array.getElem?_append]
    unfold enter
    by_cases hia : i < args.length
    · rw [if_pos (by rw [hrl.1]; exact hia), ← Array.getD_eq_getD_getElem?, List.getD_eq_getElem?_getD, List.getElem?_eq_getElem hia]
      exact hrl.2 i hia
    · rw [List.getD_eq_getElem?_getD, List.getElem?_eq_none (by omega)]
      exact .junk _
  · rintro e a w ⟨E', T', rfl, h2, h3, h4, hcs⟩
    rcases hcs with ⟨he, r, hr, hR⟩ | ⟨rfl, hR⟩
    · obtain ⟨val, h5, h6⟩ := aresults_sound (P := P) (fn := fn) h3 h4 hr
      rcases he with rfl | rfl
      · exact ⟨h4.defers, val, h5, .inl ⟨E', val, r, rfl, rfl, (hH ▸ h2 : E.leN E.H.length E').le, h3, h6, hR⟩⟩
      · exact ⟨h4.defers, val, h5, .inl ⟨E', val, r, rfl, rfl, (hH ▸ h2 : E.leN E.H.length E').le, h3, h6, hR⟩⟩
    · exact ⟨h4.defers, .inr ⟨E', rfl, rfl, (hH ▸ h2 : E.leN E.H.length E').le, h3, hR⟩⟩
theorem guard_fn {w : World} (op : BinOp) (t : TypeId) (x y : Operand) (f : Fn) (a b : Array Value) : (eqGuard op t x y (.func f a b) .nilFunc).run P w = .ok () w := by
  cases op <;> rfl
theorem guard_nf {w : World} (op : BinOp) (t : TypeId) (x y : Operand) : (eqGuard op t x y .nilFunc .nilFunc).run P w = .ok () w := by
  cases op <;> rfl
theorem aops_fncmp {o : Oper} {l : List Oper} {t y : TypeId} {x : Operand} {op : BinOp} {f : Fn} {pf pc : List PV} (hop : o.op = .binOp op t x (.const .nilFunc) y) (hop2 : op = .eql ∨ op = .neq) (hw : awanted ops.toList T N o = some true) (hok : okOpnd N x = true) {d1 d2 : Array TypeId} {d3 : Bool} (hu : P.underlying t = some (.func d1 d2 d3))
    {v : Bool} (hx : (aev T x = .fn f pf pc ∧ v = false) ∨ (aev T x = .nilfn ∧ v = true)) (h : AOps P N nb ops Q l (updO T o.dst (.bool (if op = .eql then v else !v))) H) : AOps P N nb ops Q (o :: l) T H := by
  refine aops_done hw (fun E A ho hH ht => ?_) h
  have rx := vrel_eval ht x hok
  have hc : A.eval (.const .nilFunc) = .nilFunc := rfl
  refine ⟨E, .bool (if op = .eql then v else !v), .inl ?_, .refl E, ho, hH, .bool _⟩
  unfold execOp
  rw [hop]
  rcases hx with ⟨hx, rfl⟩ | ⟨hx, rfl⟩
  · rw [hx] at rx
    generalize hv : A.eval x = w at rx
    cases rx with
    | fn _ first caps _ _ h1 h2 h3 h4 =>
      have he : ∀ w, (Op.equal t (.func f first caps) .nilFunc).run P w = .ok false w := fun w => by
        have key : ∀ d, (Op.equalIn (d + 1) t (.func f first caps) .nilFunc).run P w = .ok false w := by
          intro d; simp only [Op.equalIn, Sem.run_bind, run_under hu, Result.andThen_ok, Sem.run_pure]
        exact key 9999
      rcases hop2 with rfl | rfl <;> simp only [Sem.run_bind, hv, hc, guard_fn, Result.andThen_ok, binOp, he, Sem.run_pure, if_true] <;> rfl
  · rw [hx] at rx
    generalize hv : A.eval x = w at rx
    cases rx
    have he : ∀ w, (Op.equal t .nilFunc .nilFunc).run P w = .ok true w := fun w => by
      have key : ∀ d, (Op.equalIn (d + 1) t .nilFunc .nilFunc).run P w = .ok true w := by
        intro d; simp only [Op.equalIn, Sem.run_bind, run_under hu, Result.andThen_ok, Sem.run_pure]
      exact key 9999
    rcases hop2 with rfl | rfl <;> simp only [Sem.run_bind, hv, hc, guard_nf, Result.andThen_ok, binOp, he, Sem.run_pure, if_true] <;> rfl
theorem aops_del {o : Oper} {l : List Oper} {x y : Operand} {t u : TypeId} {id : Nat} {es : List GE} {clk : Nat} {a b c : Int} (hop : o.op = .call ⟨.builtin .delete, #[x, y], #[t, u]⟩) (hw : awanted ops.toList T N o = some true) (hok : okOp N o.op = true)
    (hm : (tmapg P t).isSome = true) (hx : aev T x = .mapp id) (hy : aev T y = .agg [.int .i64 a, .int .i64 b, .int .i64 c]) (hid : H[id]? = some (.obj (.mapg es clk)))
    (h : AOps P N nb ops Q l (updO T o.dst (.tup [])) (H.set id (.obj (.mapg (gdel es (a, b, c)) clk)))) : AOps P N nb ops Q (o :: l) T H := by
  refine aops_done hw (fun E A ho hH ht => ?_) h
  have hall : ∀ x ∈ o.op.operands.toList, okOpnd N x = true := fun x hx => List.all_eq_true.1 hok x hx
  rw [hop] at hall
  have rx := vrel_eval ht x (hall x (by simp [Op.operands, Call.operands]))
  have ry := vrel_eval ht y (hall y (by simp [Op.operands, Call.operands]))
  rw [hx] at rx; rw [hy] at ry
  have ex : A.eval x = .map (some (E.ρ id)) := by
    generalize A.eval x = v at rx
    cases rx; rfl
  obtain ⟨E', h1, h2, h3, h4⟩ := sound_delete ho (t := t) (ts := #[t, u]) (ty := o.type) rfl hm (by rw [hH]; exact hid) ry
  refine ⟨E', .tuple #[], .inl ?_, h2, h3, by rw [h4, hH], .tup _ _ rfl (fun i hi => absurd hi (Nat.not_lt_zero _))⟩
  unfold execOp
  rw [hop]
  refine (run_builtin (c := ⟨.builtin .delete, #[x, y], #[t, u]⟩) (xs := [x, y]) (ts := [t, u]) (ty := o.type) rfl rfl rfl (s := Builtin.delete_ #[t, u] o.type #[A.eval x, A.eval y]) rfl).trans ?_
  rw [ex]
  simp only [Sem.run_bind, h1, Result.andThen_ok, Sem.run_pure]
theorem aops_clr {o : Oper} {l : List Oper} {x : Operand} {t k e : TypeId} {id : Nat} {es : List GE} {clk : Nat} (hop : o.op = .call ⟨.builtin .clear, #[x], #[t]⟩) (hw : awanted ops.toList T N o = some true) (hok : okOp N o.op = true)
    (hm : P.underlying t = some (.map k e)) (hx : aev T x = .mapp id) (hid : H[id]? = some (.obj (.mapg es clk)))
    (h : AOps P N nb ops Q l (updO T o.dst (.tup [])) (H.set id (.obj (.mapg [] clk)))) : AOps P N nb ops Q (o :: l) T H := by
  refine aops_done hw (fun E A ho hH ht => ?_) h
  have hall : ∀ x ∈ o.op.operands.toList, okOpnd N x = true := fun x hx => List.all_eq_true.1 hok x hx
  rw [hop] at hall
  have rx := vrel_eval ht x (hall x (by simp [Op.operands, Call.operands]))
  rw [hx] at rx
  have ex : A.eval x = .map (some (E.ρ id)) := by
    generalize A.eval x = v at rx
    cases rx; rfl
  obtain ⟨E', h1, h2, h3, h4⟩ := sound_clear ho (t := t) (ts := #[t]) (ty := o.type) rfl hm (by rw [hH]; exact hid)
  refine ⟨E', .tuple #[], .inl ?_, h2, h3, by rw [h4, hH], .tup _ _ rfl (fun i hi => absurd hi (Nat.not_lt_zero _))⟩
  unfold execOp
  rw [hop]
  refine (run_builtin (c := ⟨.builtin .clear, #[x], #[t]⟩) (xs := [x]) (ts := [t]) (ty := o.type) rfl rfl rfl (s := Builtin.clear_ #[t] o.type #[A.eval x]) rfl).trans ?_
  rw [ex]
  simp only [Sem.run_bind, h1, Result.andThen_ok, Sem.run_pure]
theorem aops_iface1 {o : Oper} {l : List Oper} {t : TypeId} {x : Operand} {n : Int} (hop : o.op = .makeInterface t x) (hw : awanted ops.toList T N o = some true) (hok : okOp N o.op = true) {d : TypeDesc} (hu : P.underlying t = some d) (hd : ∀ m, d ≠ .interface m)
    (hx : aev T x = .agg [.int .i64 n]) (h : AOps P N nb ops Q l (updO T o.dst (.ifc (some (t, .agg #[.int .i64 n])))) H) : AOps P N nb ops Q (o :: l) T H := by
  refine aops_done hw (fun E A ho hH ht => ?_) h
  have hall : ∀ x ∈ o.op.operands.toList, okOpnd N x = true := fun x hx => List.all_eq_true.1 hok x hx
  rw [hop] at hall
  have rx := vrel_eval ht x (hall x (by simp [Op.operands]))
  rw [hx] at rx
  have ex : A.eval x = .agg #[.int .i64 n] := by
    generalize A.eval x = v at rx
    cases rx with
    | agg arr _ hl hr =>
      have h0 := (hr 0 (by simp)).int_inv
      have hs : arr.size = 1 := hl
      have : arr = #[arr.getD 0 undef] := by
        apply Array.ext (by simp [hs])
        intro i h1 h2
        obtain rfl : i = 0 := by omega
        simp [Array.getD, hs]
      rw [this, h0]
  refine ⟨E, .iface t (.agg #[.int .i64 n]), .inl ?_, .refl E, ho, hH, .ifc _ _⟩
  unfold execOp
  rw [hop]
  simp only [Instr.makeInterface, Sem.run_bind, run_under hu, Result.andThen_ok, ex]
  cases d with
  | interface m => exact (hd m rfl).elim
  | _ => simp only [Sem.run_pure, Result.andThen_ok]
theorem aops_panic {o : Oper} {l : List Oper} {x : Operand} {t : TypeId} {v : Value} (hop : o.op = .panic x) (hw : awanted ops.toList T N o = some true) (hok : okOp N o.op = true)
    (hx : aev T x = .ifc (some (t, v))) (h : Q (.panic [{ v := .iface t v, recovered := false }]) T H) : AOps P N nb ops Q (o :: l) T H := by
  intro E a ho hH ht
  refine wpList_cons (awanted_sound ht hw) ?_
  have hall : ∀ x ∈ o.op.operands.toList, okOpnd N x = true := fun x hx => List.all_eq_true.1 hok x hx
  rw [hop] at hall
  have rx := vrel_eval ht x (hall x (by simp [Op.operands]))
  rw [hx] at rx
  have ex : a.eval x = .iface t v := by
    generalize a.eval x = y at rx
    cases rx; rfl
  have hrun : (execOp a.eval o).run P E.w = .halt (.panic (.iface t v)) E.w := by
    unfold execOp
    rw [hop]
    simp only [Instr.panic, ex, Sem.run_bind]
    rfl
  unfold Oper.wp
  rw [hrun]
  exact ⟨E, T, rfl, .refl nb E, ho, ht, hH ▸ h⟩
end
end Go.Abs
namespace Go.Memo
section
variable (cp : QK → Prog) (rk : QK → Nat) (Good : (QK → QV) → Prop)
def vals (h : QK → Cell) : QK → QV := fun x => (h x).val
abbrev Ev (hist : Nat → QK → Cell) (t : Nat) : QK → QV := sem cp rk (vals (hist t))
structure RecOk (st : St) (hist : Nat → QK → Cell) (k : QK) (r : Rec) : Prop where
  q : k.1 ≠ 0
  cv : r.c ≤ r.v
  vn : r.v ≤ st.now
  d2 : r.D ≤ 2
  val : r.val = Ev cp rk hist r.v k
  deps : ∀ d, d ∈ r.deps ↔ d ∈ (cp k).reads (Ev cp rk hist r.v)
  i3 : ∀ x, Clo cp (Ev cp rk hist r.v) k x → x.1 = 0 → r.D ≤ (hist r.v x).d
  i5 : ∀ d ∈ r.deps, d.1 ≠ 0 → ∀ rd, st.res d = some rd → rd.c ≤ r.v → rd.val = Ev cp rk hist r.v d ∧ r.D ≤ rd.D
  i6 : ∀ y, Clo cp (Ev cp rk hist r.v) k y → y.1 ≠ 0 → (∀ x, Clo cp (Ev cp rk hist r.v) y x → x.1 = 0 → (st.cell x).c ≤ r.v) → ∀ ry, st.res y = some ry → r.D ≤ ry.D
structure Inv (st : St) (hist : Nat → QK → Cell) : Prop where
  hnow : hist st.now = st.cell
  hold : ∀ x t, t ≤ st.now → (st.cell x).c ≤ t → hist t x = st.cell x
  hlc : ∀ x t D, t < (st.cell x).c → D ≤ (hist t x).d → t < st.lc D
  hc : ∀ x, (st.cell x).c ≤ st.now
  good : ∀ t, t ≤ st.now → Good (vals (hist t))
  recs : ∀ k r, st.res k = some r → RecOk cp rk st hist k r
structure Bnd : Prop where
  rank : Ranked cp rk
  okv : ∀ inp, Good inp → ∀ k, okV (sem cp rk inp k) = true
  okr : ∀ inp, Good inp → ∀ k : QK, k.1 ≠ 0 → ((cp k).reads (sem cp rk inp)).length ≤ lim
variable {cp rk Good}
theorem Clo.rank (h : Ranked cp rk) {e : QK → QV} {k y : QK} (hc : Clo cp e k y) : y.1 ≠ 0 → rk y < rk k := by
  induction hc with
  | dir hk hd => exact fun h0 => (Prog.bel_reads _ (h.below _ hk) _ hd).resolve_left h0
  | step hk hd h1 ih => exact fun h0 => Nat.lt_trans (ih h0) ((Prog.bel_reads _ (h.below _ hk) _ hd).resolve_left h1.src)
theorem Inv.clk {st : St} {hist : Nat → QK → Cell} (hi : Inv cp rk Good st hist) (n : Nat) : Inv cp rk Good { st with clk := n } hist :=
  ⟨hi.hnow, hi.hold, hi.hlc, hi.hc, hi.good, fun q r hq => by
    have ho := hi.recs q r hq
    exact ⟨ho.q, ho.cv, ho.vn, ho.d2, ho.val, ho.deps, ho.i3, ho.i5, ho.i6⟩⟩
structure Fr (rk : QK → Nat) (b : Nat) (st st' : St) : Prop where
  now : st'.now = st.now
  lc : st'.lc = st.lc
  cell : st'.cell = st.cell
  stay : ∀ q r, st.res q = some r → r.v = st.now → st'.res q = some r
  high : ∀ q, b ≤ rk q → st'.res q = st.res q
theorem Fr.refl (b : Nat) (st : St) : Fr rk b st st := ⟨rfl, rfl, rfl, fun _ _ h _ => h, fun _ _ => rfl⟩
theorem Fr.trans {b : Nat} {s1 s2 s3 : St} (h : Fr rk b s1 s2) (k : Fr rk b s2 s3) : Fr rk b s1 s3 :=
  ⟨k.now.trans h.now, k.lc.trans h.lc, k.cell.trans h.cell, fun q r hq hv => k.stay q r (h.stay q r hq hv) (by rw [h.now]; exact hv), fun q hq => (k.high q hq).trans (h.high q hq)⟩
theorem Fr.mono {b c : Nat} {s1 s2 : St} (h : Fr rk b s1 s2) (hb : b ≤ c) : Fr rk c s1 s2 :=
  ⟨h.now, h.lc, h.cell, h.stay, fun q hq => h.high q (Nat.le_trans hb hq)⟩
section
variable (hB : Bnd cp rk Good) {hist : Nat → QK → Cell}
include hB
theorem Inv.stab {st : St} (hi : Inv cp rk Good st hist) {k : QK} (hk : k.1 ≠ 0) {v : Nat} (hv : v ≤ st.now) (hs : ∀ x, Clo cp (Ev cp rk hist v) k x → x.1 = 0 → (st.cell x).c ≤ v) {t : Nat} (h1 : v ≤ t) (h2 : t ≤ st.now) :
    Ev cp rk hist t k = Ev cp rk hist v k ∧ (cp k).reads (Ev cp rk hist t) = (cp k).reads (Ev cp rk hist v) ∧ ∀ y, Clo cp (Ev cp rk hist t) k y ↔ Clo cp (Ev cp rk hist v) k y :=
  agree hB.rank (rk k + 1) k (Nat.lt_succ_self _) hk fun x hx h0 => by
    have := hs x hx h0
    simp only [vals]
    rw [hi.hold x t h2 (Nat.le_trans this h1), hi.hold x v hv this]
def USpec (cp : QK → Prog) (rk : QK → Nat) (Good : (QK → QV) → Prop) (hist : Nat → QK → Cell) (b : Nat) (u : QK → St → Out Rec) : Prop :=
  ∀ (d : QK) (st : St), d.1 ≠ 0 → rk d < b → Inv cp rk Good st hist → ∃ o st', u d st = some (o, st') ∧ Inv cp rk Good st' hist ∧ Fr rk (rk d + 1) st st' ∧ ∀ r, o = some r → st'.res d = some r ∧ r.v = st.now
omit hB in
theorem chk_ok {b : Nat} {u : QK → St → Out Rec} (hu : USpec cp rk Good hist b u) (v : Nat) : ∀ (ds : List QK) (st : St), (∀ d ∈ ds, d.1 = 0 ∨ rk d < b) → Inv cp rk Good st hist →
    ∃ o st', chk u v ds st = some (o, st') ∧ Inv cp rk Good st' hist ∧ Fr rk b st st' ∧ (o = some false → ∀ d ∈ ds, (d.1 = 0 → (st.cell d).c ≤ v) ∧ (d.1 ≠ 0 → ∃ rd, st'.res d = some rd ∧ rd.v = st.now ∧ rd.c ≤ v))
  | [], st, _, hi => ⟨some false, st, rfl, hi, .refl _ _, fun _ d hd => by cases hd⟩
  | d :: ds, st, hr, hi => by
    unfold chk
    by_cases h0 : d.1 = 0
    · rw [if_pos h0]
      by_cases hc : v < (st.cell d).c
      · rw [if_pos hc]
        exact ⟨some true, st, rfl, hi, .refl _ _, fun h => by cases h⟩
      · rw [if_neg hc]
        obtain ⟨o, st', h1, h2, h3, h4⟩ := chk_ok hu v ds st (fun x hx => hr x (by simp [hx])) hi
        refine ⟨o, st', h1, h2, h3, fun ho x hx => ?_⟩
        rcases List.mem_cons.1 hx with rfl | hx
        · exact ⟨fun _ => by omega, fun h => absurd h0 h⟩
        · exact h4 ho x hx
    · rw [if_neg h0]
      have hlt : rk d < b := (hr d (by simp)).resolve_left h0
      obtain ⟨o, s1, h1, h2, h3, h4⟩ := hu d st h0 hlt hi
      have h3' : Fr rk b st s1 := h3.mono hlt
      rw [h1]
      cases o with
      | none => exact ⟨none, s1, rfl, h2, h3', fun h => by cases h⟩
      | some r =>
        obtain ⟨h5, h6⟩ := h4 r rfl
        dsimp only
        by_cases hc : v < r.c
        · rw [if_pos hc]
          exact ⟨some true, s1, rfl, h2, h3', fun h => by cases h⟩
        · rw [if_neg hc]
          obtain ⟨o, st', g1, g2, g3, g4⟩ := chk_ok hu v ds s1 (fun x hx => hr x (by simp [hx])) h2
          refine ⟨o, st', g1, g2, h3'.trans g3, fun ho x hx => ?_⟩
          rcases List.mem_cons.1 hx with rfl | hx
          · exact ⟨fun h => absurd h h0, fun _ => ⟨r, g3.stay _ _ h5 (by rw [h3.now]; exact h6), h6, by omega⟩⟩
          · have := g4 ho x hx
            rw [h3.now, h3.cell] at this
            exact this
theorem run_ok {b : Nat} {u : QK → St → Out Rec} (hu : USpec cp rk Good hist b u) : ∀ (p : Prog) (a : Acc) (st : St), p.bel (fun d => d.1 = 0 ∨ rk d < b) → Inv cp rk Good st hist → a.deps.length + (p.reads (Ev cp rk hist st.now)).length ≤ lim →
    ∃ o a' st', runP (getStep u) p (a, st) = some (o, (a', st')) ∧ Inv cp rk Good st' hist ∧ Fr rk b st st' ∧ ∀ v, o = some v → v = p.den (Ev cp rk hist st.now) ∧ (∀ d, d ∈ a'.deps ↔ d ∈ a.deps ∨ d ∈ p.reads (Ev cp rk hist st.now)) ∧ a'.D ≤ a.D ∧
      (∀ d ∈ p.reads (Ev cp rk hist st.now), d.1 = 0 → a'.D ≤ (st.cell d).d) ∧ (∀ d ∈ p.reads (Ev cp rk hist st.now), d.1 ≠ 0 → ∃ rd, st'.res d = some rd ∧ rd.v = st.now ∧ a'.D ≤ rd.D) ∧
      (∀ m, m ≤ a.D → (∀ d ∈ p.reads (Ev cp rk hist st.now), d.1 = 0 → m ≤ (st.cell d).d) → (∀ d ∈ p.reads (Ev cp rk hist st.now), d.1 ≠ 0 → ∀ rd, st'.res d = some rd → m ≤ rd.D) → m ≤ a'.D)
  | .ret v, a, st, _, hi, _ => ⟨some v, a, st, rfl, hi, .refl _ _, fun w hw => by
      cases hw
      exact ⟨rfl, fun d => by simp [Prog.reads], Nat.le_refl _, fun d hd => by simp [Prog.reads] at hd, fun d hd => by simp [Prog.reads] at hd, fun m hm _ _ => hm⟩⟩
  | .get k c, a, st, hp, hi, hl => by
    have hal : okA a = true := by
      simp only [Prog.reads, List.length_cons] at hl
      simp only [okA, decide_eq_true_eq]; omega
    have hnew : ∀ d, (a.add k d).deps.length ≤ a.deps.length + 1 := by
      intro d
      simp only [Acc.add]
      split <;> simp
    have hmem : ∀ d x, x ∈ (a.add k d).deps ↔ x ∈ a.deps ∨ x = k := by
      intro d x
      simp only [Acc.add]
      split
      · rename_i hk
        exact ⟨.inl, fun h => h.elim id (fun e => e ▸ hk)⟩
      · simp
    unfold runP getStep
    by_cases h0 : k.1 = 0
    · have hval : Ev cp rk hist st.now k = (st.cell k).val := by
        rw [Ev, sem_in _ h0, vals, hi.hnow]
      have hov : okV (st.cell k).val = true := by
        rw [← hval]; exact hB.okv _ (hi.good _ (Nat.le_refl _)) k
      dsimp only
      rw [if_pos h0, if_pos (show (okV (st.cell k).val && okA a) = true by rw [hov, hal]; rfl)]
      dsimp only
      simp only [Prog.reads, hval] at hl ⊢
      obtain ⟨o, a', st', h1, h2, h3, h4⟩ := run_ok hu (c (st.cell k).val) (a.add k (st.cell k).d) st (hp.2 _) hi (by have := hnew (st.cell k).d; simp only [List.length_cons] at hl; omega)
      refine ⟨o, a', st', h1, h2, h3, fun v hv => ?_⟩
      obtain ⟨g1, g2, g3, g4, g5, g6⟩ := h4 v hv
      have g3' : a'.D ≤ a.D ∧ a'.D ≤ (st.cell k).d := by
        have : (a.add k (st.cell k).d).D = min a.D (st.cell k).d := rfl
        omega
      refine ⟨by rw [g1, Prog.den, hval], fun d => ?_, g3'.1, fun d hd h => ?_, fun d hd h => ?_, fun m hm p1 p2 => ?_⟩
      · rw [g2, hmem, List.mem_cons]
        constructor
        · rintro ((h | h) | h)
          · exact .inl h
          · exact .inr (.inl h)
          · exact .inr (.inr h)
        · rintro (h | h | h)
          · exact .inl (.inl h)
          · exact .inl (.inr h)
          · exact .inr h
      · rcases List.mem_cons.1 hd with rfl | hd
        · exact g3'.2
        · exact g4 d hd h
      · rcases List.mem_cons.1 hd with rfl | hd
        · exact absurd h0 h
        · exact g5 d hd h
      · refine g6 m ?_ (fun d hd => p1 d (List.mem_cons_of_mem _ hd)) (fun d hd => p2 d (List.mem_cons_of_mem _ hd))
        have := p1 k (by simp) h0
        have : (a.add k (st.cell k).d).D = min a.D (st.cell k).d := rfl
        omega
    · have hlt : rk k < b := hp.1.resolve_left h0
      obtain ⟨o, s1, h1, h2, h3, h4⟩ := hu k st h0 hlt hi
      have h3' : Fr rk b st s1 := h3.mono hlt
      dsimp only
      rw [if_neg h0, h1]
      cases o with
      | none => exact ⟨none, a, s1, rfl, h2, h3', fun v hv => by cases hv⟩
      | some r =>
        obtain ⟨h5, h6⟩ := h4 r rfl
        have hval : Ev cp rk hist st.now k = r.val := by
          have := (h2.recs k r h5).val
          rw [h6] at this; exact this.symm
        have hov : okV r.val = true := by
          rw [← hval]; exact hB.okv _ (hi.good _ (Nat.le_refl _)) k
        dsimp only
        rw [if_pos (show (okV r.val && okA a) = true by rw [hov, hal]; rfl)]
        dsimp only
        simp only [Prog.reads, hval] at hl ⊢
        have ih := run_ok hu (c r.val) (a.add k r.D) s1 (hp.2 _) h2 (by rw [h3.now]; have := hnew r.D; simp only [List.length_cons] at hl; omega)
        rw [h3.now, h3.cell] at ih
        obtain ⟨o, a', st', h1, h2', h3'', h4⟩ := ih
        refine ⟨o, a', st', h1, h2', h3'.trans h3'', fun v hv => ?_⟩
        obtain ⟨g1, g2, g3, g4, g5, g6⟩ := h4 v hv
        have hst : st'.res k = some r := h3''.stay k r h5 (by rw [h3.now]; exact h6)
        have g3' : a'.D ≤ a.D ∧ a'.D ≤ r.D := by
          have : (a.add k r.D).D = min a.D r.D := rfl
          omega
        refine ⟨by rw [g1, Prog.den, hval], fun d => ?_, g3'.1, fun d hd h => ?_, fun d hd h => ?_, fun m hm p1 p2 => ?_⟩
        · rw [g2, hmem, List.mem_cons]
          constructor
          · rintro ((h | h) | h)
            · exact .inl h
            · exact .inr (.inl h)
            · exact .inr (.inr h)
          · rintro (h | h | h)
            · exact .inl (.inl h)
            · exact .inl (.inr h)
            · exact .inr h
        · rcases List.mem_cons.1 hd with rfl | hd
          · exact absurd h h0
          · exact g4 d hd h
        · rcases List.mem_cons.1 hd with rfl | hd
          · exact ⟨r, hst, h6, g3'.2⟩
          · exact g5 d hd h
        · refine g6 m ?_ (fun d hd => p1 d (List.mem_cons_of_mem _ hd)) (fun d hd => p2 d (List.mem_cons_of_mem _ hd))
          have := p2 k (by simp) h0 r hst
          have : (a.add k r.D).D = min a.D r.D := rfl
          omega
omit hB in
theorem recs_put {s : St} (hi : Inv cp rk Good s hist) {k : QK} {R : Rec} {n : Int} (hR : RecOk cp rk { s with res := setF s.res k (some R), comps := n } hist k R)
    (h5 : ∀ q r, q ≠ k → s.res q = some r → k ∈ r.deps → R.c ≤ r.v → R.val = Ev cp rk hist r.v k ∧ r.D ≤ R.D)
    (h6 : ∀ q r, q ≠ k → s.res q = some r → Clo cp (Ev cp rk hist r.v) q k → (∀ x, Clo cp (Ev cp rk hist r.v) k x → x.1 = 0 → (s.cell x).c ≤ r.v) → r.D ≤ R.D) :
    Inv cp rk Good { s with res := setF s.res k (some R), comps := n } hist := by
  refine ⟨hi.hnow, hi.hold, hi.hlc, hi.hc, hi.good, fun q r hq => ?_⟩
  by_cases e : q = k
  · subst e
    have : some R = some r := by simpa [setF] using hq
    cases this
    exact hR
  · have hq' : s.res q = some r := by simpa [setF, e] using hq
    have ho := hi.recs q r hq'
    refine ⟨ho.q, ho.cv, ho.vn, ho.d2, ho.val, ho.deps, ho.i3, fun d hd h0 rd hrd hc => ?_, fun y hy h0 hs ry hry => ?_⟩
    · by_cases e2 : d = k
      · subst e2
        have : some R = some rd := by simpa [setF] using hrd
        cases this
        exact h5 q r e hq' hd hc
      · exact ho.i5 d hd h0 rd (by simpa [setF, e2] using hrd) hc
    · by_cases e2 : y = k
      · subst e2
        have : some R = some ry := by simpa [setF] using hry
        cases this
        exact h6 q r e hq' hy hs
      · exact ho.i6 y hy h0 hs ry (by simpa [setF, e2] using hry)
end
end
end Go.Memo
