/- Own words and walks of this claim, part 3: what the program's functions compute, for all the arguments that are named; no further conditions. -/
import Derived.Shelf.SlSortCmp.NoneTotal
import Derived.Test.YtejpklajfcngbaaM2
import Derived.Test.YtejpklajfcngbaaProg
import Derived.KernelRfl
import Derived.Shelf.Sort.Plain
import Derived.Shelf.Slices.In.SortNone
import Derived.Shelf.Slices.CompactI
section
namespace Go.Proofs.Ytejpklajfcngbaa.En
open Go.RowKit Go.Shelf Go.Sort
set_option linter.unusedSimpArgs false
set_option linter.unusedVariables false
set_option linter.unusedSectionVars false
section
variable {α : Type} [Inhabited α]
def rowsK (enc : α → List Value) (xs : List α) : List (List AV) := xs.map fun x => (enc x).map AV.v
@[simp] theorem rowsK_len (enc : α → List Value) (xs : List α) : (rowsK enc xs).length = xs.length := by simp [rowsK]
def sortedBy (cf : α → α → Int) (xs : List α) : List α := xs.mergeSort fun x y => !(ltOf cf) y x
omit [Inhabited α] in
@[simp] theorem sortedBy_len (cf : α → α → Int) (xs : List α) : (sortedBy cf xs).length = xs.length := by simp [sortedBy]
end
end Go.Proofs.Ytejpklajfcngbaa.En
end
section
namespace Go.Proofs.Ytejpklajfcngbaa.En
theorem mixed : Try.prog.follows .mixedOrders = true := by kernel_rfl
@[go_sem] theorem ti1 : ti Try.prog 1 = some ⟨false, 1, 8⟩ := by kernel_rfl
@[go_sem] theorem zc1 : zc Try.prog 1 = some [.v .nilFunc] := by kernel_rfl
@[go_sem] theorem ti2 : ti Try.prog 2 = some ⟨false, 1, 8⟩ := by kernel_rfl
@[go_sem] theorem zc2 : zc Try.prog 2 = some [.v (.int .i64 0)] := by kernel_rfl
@[go_sem] theorem un2 : Try.prog.underlying 2 = some (.int .i64) := Try.underlying2
@[go_sem] theorem ti3 : ti Try.prog 3 = some ⟨false, 1, 8⟩ := by kernel_rfl
@[go_sem] theorem zc3 : zc Try.prog 3 = some [.v (.int .i64 0)] := by kernel_rfl
@[go_sem] theorem un3 : Try.prog.underlying 3 = some (.int .i64) := Try.underlying3
@[go_sem] theorem ti4 : ti Try.prog 4 = some ⟨false, 1, 1⟩ := by kernel_rfl
@[go_sem] theorem zc4 : zc Try.prog 4 = some [.v (.bool false)] := by kernel_rfl
@[go_sem] theorem bo4 : isBoolT Try.prog 4 = true := by kernel_rfl
@[go_sem] theorem ti5 : ti Try.prog 5 = some ⟨false, 1, 1⟩ := by kernel_rfl
@[go_sem] theorem zc5 : zc Try.prog 5 = some [.v (.int .u8 0)] := by kernel_rfl
@[go_sem] theorem un5 : Try.prog.underlying 5 = some (.int .u8) := Try.underlying5
@[go_sem] theorem ti6 : ti Try.prog 6 = some ⟨false, 1, 1⟩ := by kernel_rfl
@[go_sem] theorem zc6 : zc Try.prog 6 = some [.v (.int .u8 0)] := by kernel_rfl
@[go_sem] theorem un6 : Try.prog.underlying 6 = some (.int .u8) := Try.underlying6
@[go_sem] theorem ti9 : ti Try.prog 9 = some ⟨false, 1, 16⟩ := by kernel_rfl
@[go_sem] theorem zc9 : zc Try.prog 9 = some [.v (.string ⟨#[]⟩)] := by kernel_rfl
@[go_sem] theorem is9 : isStrT Try.prog 9 = true := by kernel_rfl
@[go_sem] theorem el9 : elT Try.prog 9 = none := by kernel_rfl
@[go_sem] theorem un9 : Try.prog.underlying 9 = some .string := Try.underlying9
@[go_sem] theorem ti10 : ti Try.prog 10 = some ⟨false, 1, 16⟩ := by kernel_rfl
@[go_sem] theorem zc10 : zc Try.prog 10 = some [.v (.string ⟨#[]⟩)] := by kernel_rfl
@[go_sem] theorem is10 : isStrT Try.prog 10 = true := by kernel_rfl
@[go_sem] theorem el10 : elT Try.prog 10 = none := by kernel_rfl
@[go_sem] theorem un10 : Try.prog.underlying 10 = some .string := Try.underlying10
@[go_sem] theorem ti11 : ti Try.prog 11 = some ⟨false, 1, 16⟩ := by kernel_rfl
@[go_sem] theorem zc11 : zc Try.prog 11 = some [.v (.string ⟨#[]⟩)] := by kernel_rfl
@[go_sem] theorem is11 : isStrT Try.prog 11 = true := by kernel_rfl
@[go_sem] theorem el11 : elT Try.prog 11 = none := by kernel_rfl
@[go_sem] theorem un11 : Try.prog.underlying 11 = some .string := Try.underlying11
@[go_sem] theorem ti12 : ti Try.prog 12 = some ⟨false, 1, 8⟩ := by kernel_rfl
@[go_sem] theorem zc12 : zc Try.prog 12 = some [.v (.int .u64 0)] := by kernel_rfl
@[go_sem] theorem ti15 : ti Try.prog 15 = some ⟨false, 1, 8⟩ := by kernel_rfl
@[go_sem] theorem zc15 : zc Try.prog 15 = some [.v (.pointer none)] := by kernel_rfl
@[go_sem] theorem ti16 : ti Try.prog 16 = some ⟨false, 1, 8⟩ := by kernel_rfl
@[go_sem] theorem zc16 : zc Try.prog 16 = some [.v (.pointer none)] := by kernel_rfl
@[go_sem] theorem ti17 : ti Try.prog 17 = some ⟨false, 1, 8⟩ := by kernel_rfl
@[go_sem] theorem zc17 : zc Try.prog 17 = some [.v (.pointer none)] := by kernel_rfl
@[go_sem] theorem ti21 : ti Try.prog 21 = some ⟨false, 1, 4⟩ := by kernel_rfl
@[go_sem] theorem zc21 : zc Try.prog 21 = some [.v (.int .i32 0)] := by kernel_rfl
@[go_sem] theorem un21 : Try.prog.underlying 21 = some (.int .i32) := Try.underlying21
@[go_sem] theorem ti22 : ti Try.prog 22 = some ⟨false, 1, 24⟩ := by kernel_rfl
@[go_sem] theorem zc22 : zc Try.prog 22 = some [.v (.slice none 0 0)] := by kernel_rfl
@[go_sem] theorem el22 : elT Try.prog 22 = some 101 := by kernel_rfl
@[go_sem] theorem ti23 : ti Try.prog 23 = some ⟨true, 3, 40⟩ := by kernel_rfl
@[go_sem] theorem zc23 : zc Try.prog 23 = some [.v (.int .i64 0), .v (.int .i64 0), .v (.slice none 0 0)] := by kernel_rfl
@[go_sem] theorem fo23_0 : fo Try.prog 23 0 = some (0, 3) := by kernel_rfl
@[go_sem] theorem fo23_1 : fo Try.prog 23 1 = some (1, 3) := by kernel_rfl
@[go_sem] theorem fo23_2 : fo Try.prog 23 2 = some (2, 22) := by kernel_rfl
@[go_sem] theorem ti24 : ti Try.prog 24 = some ⟨true, 3, 40⟩ := by kernel_rfl
@[go_sem] theorem zc24 : zc Try.prog 24 = some [.v (.int .i64 0), .v (.int .i64 0), .v (.slice none 0 0)] := by kernel_rfl
@[go_sem] theorem fo24_0 : fo Try.prog 24 0 = some (0, 3) := by kernel_rfl
@[go_sem] theorem fo24_1 : fo Try.prog 24 1 = some (1, 3) := by kernel_rfl
@[go_sem] theorem fo24_2 : fo Try.prog 24 2 = some (2, 22) := by kernel_rfl
@[go_sem] theorem ti25 : ti Try.prog 25 = some ⟨false, 1, 8⟩ := by kernel_rfl
@[go_sem] theorem zc25 : zc Try.prog 25 = some [.v .nilFunc] := by kernel_rfl
@[go_sem] theorem ti26 : ti Try.prog 26 = some ⟨false, 1, 24⟩ := by kernel_rfl
@[go_sem] theorem zc26 : zc Try.prog 26 = some [.v (.slice none 0 0)] := by kernel_rfl
@[go_sem] theorem el26 : elT Try.prog 26 = some 3 := by kernel_rfl
@[go_sem] theorem ti28 : ti Try.prog 28 = some ⟨false, 1, 8⟩ := by kernel_rfl
@[go_sem] theorem zc28 : zc Try.prog 28 = some [.v .nilFunc] := by kernel_rfl
@[go_sem] theorem ti29 : ti Try.prog 29 = some ⟨false, 1, 24⟩ := by kernel_rfl
@[go_sem] theorem zc29 : zc Try.prog 29 = some [.v (.slice none 0 0)] := by kernel_rfl
@[go_sem] theorem el29 : elT Try.prog 29 = some 94 := by kernel_rfl
@[go_sem] theorem ti30 : ti Try.prog 30 = some ⟨true, 3, 40⟩ := by kernel_rfl
@[go_sem] theorem zc30 : zc Try.prog 30 = some [.v (.int .i64 0), .v (.int .i64 0), .v (.slice none 0 0)] := by kernel_rfl
@[go_sem] theorem fo30_0 : fo Try.prog 30 0 = some (0, 3) := by kernel_rfl
@[go_sem] theorem fo30_1 : fo Try.prog 30 1 = some (1, 3) := by kernel_rfl
@[go_sem] theorem fo30_2 : fo Try.prog 30 2 = some (2, 29) := by kernel_rfl
@[go_sem] theorem ti31 : ti Try.prog 31 = some ⟨true, 3, 40⟩ := by kernel_rfl
@[go_sem] theorem zc31 : zc Try.prog 31 = some [.v (.int .i64 0), .v (.int .i64 0), .v (.slice none 0 0)] := by kernel_rfl
@[go_sem] theorem fo31_0 : fo Try.prog 31 0 = some (0, 3) := by kernel_rfl
@[go_sem] theorem fo31_1 : fo Try.prog 31 1 = some (1, 3) := by kernel_rfl
@[go_sem] theorem fo31_2 : fo Try.prog 31 2 = some (2, 29) := by kernel_rfl
@[go_sem] theorem ti32 : ti Try.prog 32 = some ⟨false, 1, 8⟩ := by kernel_rfl
@[go_sem] theorem zc32 : zc Try.prog 32 = some [.v .nilFunc] := by kernel_rfl
@[go_sem] theorem ti33 : ti Try.prog 33 = some ⟨false, 1, 8⟩ := by kernel_rfl
@[go_sem] theorem zc33 : zc Try.prog 33 = some [.v .nilFunc] := by kernel_rfl
@[go_sem] theorem ti34 : ti Try.prog 34 = some ⟨false, 1, 8⟩ := by kernel_rfl
@[go_sem] theorem zc34 : zc Try.prog 34 = some [.v .nilFunc] := by kernel_rfl
@[go_sem] theorem ti35 : ti Try.prog 35 = some ⟨false, 1, 8⟩ := by kernel_rfl
@[go_sem] theorem zc35 : zc Try.prog 35 = some [.v .nilFunc] := by kernel_rfl
@[go_sem] theorem ti36 : ti Try.prog 36 = some ⟨false, 1, 8⟩ := by kernel_rfl
@[go_sem] theorem zc36 : zc Try.prog 36 = some [.v .nilFunc] := by kernel_rfl
@[go_sem] theorem ti37 : ti Try.prog 37 = some ⟨false, 1, 8⟩ := by kernel_rfl
@[go_sem] theorem zc37 : zc Try.prog 37 = some [.v .nilFunc] := by kernel_rfl
@[go_sem] theorem ti38 : ti Try.prog 38 = some ⟨false, 1, 24⟩ := by kernel_rfl
@[go_sem] theorem zc38 : zc Try.prog 38 = some [.v (.slice none 0 0)] := by kernel_rfl
@[go_sem] theorem el38 : elT Try.prog 38 = some 5 := by kernel_rfl
@[go_sem] theorem ti39 : ti Try.prog 39 = some ⟨false, 1, 8⟩ := by kernel_rfl
@[go_sem] theorem zc39 : zc Try.prog 39 = some [.v .nilFunc] := by kernel_rfl
@[go_sem] theorem ti40 : ti Try.prog 40 = some ⟨false, 1, 24⟩ := by kernel_rfl
@[go_sem] theorem zc40 : zc Try.prog 40 = some [.v (.slice none 0 0)] := by kernel_rfl
@[go_sem] theorem el40 : elT Try.prog 40 = some 26 := by kernel_rfl
@[go_sem] theorem ti41 : ti Try.prog 41 = some ⟨true, 4, 64⟩ := by kernel_rfl
@[go_sem] theorem zc41 : zc Try.prog 41 = some [.v (.int .i64 0), .v (.int .i64 0), .v (.slice none 0 0), .v (.slice none 0 0)] := by kernel_rfl
@[go_sem] theorem fo41_0 : fo Try.prog 41 0 = some (0, 3) := by kernel_rfl
@[go_sem] theorem fo41_1 : fo Try.prog 41 1 = some (1, 3) := by kernel_rfl
@[go_sem] theorem fo41_2 : fo Try.prog 41 2 = some (2, 40) := by kernel_rfl
@[go_sem] theorem fo41_3 : fo Try.prog 41 3 = some (3, 26) := by kernel_rfl
@[go_sem] theorem ti42 : ti Try.prog 42 = some ⟨true, 4, 64⟩ := by kernel_rfl
@[go_sem] theorem zc42 : zc Try.prog 42 = some [.v (.int .i64 0), .v (.int .i64 0), .v (.slice none 0 0), .v (.slice none 0 0)] := by kernel_rfl
@[go_sem] theorem fo42_0 : fo Try.prog 42 0 = some (0, 3) := by kernel_rfl
@[go_sem] theorem fo42_1 : fo Try.prog 42 1 = some (1, 3) := by kernel_rfl
@[go_sem] theorem fo42_2 : fo Try.prog 42 2 = some (2, 40) := by kernel_rfl
@[go_sem] theorem fo42_3 : fo Try.prog 42 3 = some (3, 26) := by kernel_rfl
@[go_sem] theorem ti44 : ti Try.prog 44 = some ⟨false, 1, 8⟩ := by kernel_rfl
@[go_sem] theorem zc44 : zc Try.prog 44 = some [.v .nilFunc] := by kernel_rfl
@[go_sem] theorem ti46 : ti Try.prog 46 = some ⟨false, 1, 8⟩ := by kernel_rfl
@[go_sem] theorem zc46 : zc Try.prog 46 = some [.v .nilFunc] := by kernel_rfl
@[go_sem] theorem ti48 : ti Try.prog 48 = some ⟨false, 1, 8⟩ := by kernel_rfl
@[go_sem] theorem zc48 : zc Try.prog 48 = some [.v .nilFunc] := by kernel_rfl
@[go_sem] theorem ti49 : ti Try.prog 49 = some ⟨false, 1, 8⟩ := by kernel_rfl
@[go_sem] theorem zc49 : zc Try.prog 49 = some [.v .nilFunc] := by kernel_rfl
@[go_sem] theorem ti51 : ti Try.prog 51 = some ⟨false, 1, 8⟩ := by kernel_rfl
@[go_sem] theorem zc51 : zc Try.prog 51 = some [.v .nilFunc] := by kernel_rfl
@[go_sem] theorem ti52 : ti Try.prog 52 = some ⟨false, 1, 8⟩ := by kernel_rfl
@[go_sem] theorem zc52 : zc Try.prog 52 = some [.v .nilFunc] := by kernel_rfl
@[go_sem] theorem ti53 : ti Try.prog 53 = some ⟨false, 1, 8⟩ := by kernel_rfl
@[go_sem] theorem zc53 : zc Try.prog 53 = some [.v .nilFunc] := by kernel_rfl
@[go_sem] theorem ti55 : ti Try.prog 55 = some ⟨false, 1, 8⟩ := by kernel_rfl
@[go_sem] theorem zc55 : zc Try.prog 55 = some [.v .nilFunc] := by kernel_rfl
@[go_sem] theorem ti56 : ti Try.prog 56 = some ⟨false, 1, 8⟩ := by kernel_rfl
@[go_sem] theorem zc56 : zc Try.prog 56 = some [.v .nilFunc] := by kernel_rfl
@[go_sem] theorem ti57 : ti Try.prog 57 = some ⟨false, 1, 8⟩ := by kernel_rfl
@[go_sem] theorem zc57 : zc Try.prog 57 = some [.v .nilFunc] := by kernel_rfl
@[go_sem] theorem ti59 : ti Try.prog 59 = some ⟨false, 1, 8⟩ := by kernel_rfl
@[go_sem] theorem zc59 : zc Try.prog 59 = some [.v .nilFunc] := by kernel_rfl
@[go_sem] theorem ti60 : ti Try.prog 60 = some ⟨false, 1, 8⟩ := by kernel_rfl
@[go_sem] theorem zc60 : zc Try.prog 60 = some [.v .nilFunc] := by kernel_rfl
@[go_sem] theorem ti61 : ti Try.prog 61 = some ⟨false, 1, 8⟩ := by kernel_rfl
@[go_sem] theorem zc61 : zc Try.prog 61 = some [.v .nilFunc] := by kernel_rfl
@[go_sem] theorem ti62 : ti Try.prog 62 = some ⟨false, 1, 8⟩ := by kernel_rfl
@[go_sem] theorem zc62 : zc Try.prog 62 = some [.v .nilFunc] := by kernel_rfl
@[go_sem] theorem ti63 : ti Try.prog 63 = some ⟨false, 1, 8⟩ := by kernel_rfl
@[go_sem] theorem zc63 : zc Try.prog 63 = some [.v .nilFunc] := by kernel_rfl
@[go_sem] theorem ti64 : ti Try.prog 64 = some ⟨false, 1, 8⟩ := by kernel_rfl
@[go_sem] theorem zc64 : zc Try.prog 64 = some [.v (.pointer none)] := by kernel_rfl
@[go_sem] theorem ti65 : ti Try.prog 65 = some ⟨true, 6, 88⟩ := by kernel_rfl
@[go_sem] theorem zc65 : zc Try.prog 65 = some [.v (.int .i64 0), .v (.int .i64 0), .v (.slice none 0 0), .v (.string ⟨#[]⟩), .v (.int .i64 0), .v (.slice none 0 0)] := by kernel_rfl
@[go_sem] theorem fo65_0 : fo Try.prog 65 0 = some (0, 31) := by kernel_rfl
@[go_sem] theorem fo65_1 : fo Try.prog 65 1 = some (3, 9) := by kernel_rfl
@[go_sem] theorem fo65_2 : fo Try.prog 65 2 = some (4, 3) := by kernel_rfl
@[go_sem] theorem fo65_3 : fo Try.prog 65 3 = some (5, 26) := by kernel_rfl
@[go_sem] theorem ti66 : ti Try.prog 66 = some ⟨true, 6, 88⟩ := by kernel_rfl
@[go_sem] theorem zc66 : zc Try.prog 66 = some [.v (.int .i64 0), .v (.int .i64 0), .v (.slice none 0 0), .v (.string ⟨#[]⟩), .v (.int .i64 0), .v (.slice none 0 0)] := by kernel_rfl
@[go_sem] theorem fo66_0 : fo Try.prog 66 0 = some (0, 31) := by kernel_rfl
@[go_sem] theorem fo66_1 : fo Try.prog 66 1 = some (3, 9) := by kernel_rfl
@[go_sem] theorem fo66_2 : fo Try.prog 66 2 = some (4, 3) := by kernel_rfl
@[go_sem] theorem fo66_3 : fo Try.prog 66 3 = some (5, 26) := by kernel_rfl
@[go_sem] theorem ti67 : ti Try.prog 67 = some ⟨false, 1, 8⟩ := by kernel_rfl
@[go_sem] theorem zc67 : zc Try.prog 67 = some [.v .nilFunc] := by kernel_rfl
@[go_sem] theorem ti68 : ti Try.prog 68 = some ⟨false, 1, 8⟩ := by kernel_rfl
@[go_sem] theorem zc68 : zc Try.prog 68 = some [.v .nilFunc] := by kernel_rfl
@[go_sem] theorem ti70 : ti Try.prog 70 = some ⟨false, 1, 8⟩ := by kernel_rfl
@[go_sem] theorem zc70 : zc Try.prog 70 = some [.v .nilFunc] := by kernel_rfl
@[go_sem] theorem ti71 : ti Try.prog 71 = some ⟨false, 1, 8⟩ := by kernel_rfl
@[go_sem] theorem zc71 : zc Try.prog 71 = some [.v .nilFunc] := by kernel_rfl
@[go_sem] theorem ti72 : ti Try.prog 72 = some ⟨false, 1, 8⟩ := by kernel_rfl
@[go_sem] theorem zc72 : zc Try.prog 72 = some [.v .nilFunc] := by kernel_rfl
@[go_sem] theorem ti73 : ti Try.prog 73 = some ⟨false, 1, 8⟩ := by kernel_rfl
@[go_sem] theorem zc73 : zc Try.prog 73 = some [.v (.pointer none)] := by kernel_rfl
@[go_sem] theorem ti74 : ti Try.prog 74 = some ⟨false, 1, 8⟩ := by kernel_rfl
@[go_sem] theorem zc74 : zc Try.prog 74 = some [.v (.int .u64 0)] := by kernel_rfl
@[go_sem] theorem ti75 : ti Try.prog 75 = some ⟨true, 3, 40⟩ := by kernel_rfl
@[go_sem] theorem zc75 : zc Try.prog 75 = some [.v (.slice none 0 0), .v (.int .i64 0), .v (.int .u64 0)] := by kernel_rfl
@[go_sem] theorem fo75_0 : fo Try.prog 75 0 = some (0, 38) := by kernel_rfl
@[go_sem] theorem fo75_1 : fo Try.prog 75 1 = some (1, 3) := by kernel_rfl
@[go_sem] theorem fo75_2 : fo Try.prog 75 2 = some (2, 74) := by kernel_rfl
@[go_sem] theorem ti76 : ti Try.prog 76 = some ⟨true, 3, 40⟩ := by kernel_rfl
@[go_sem] theorem zc76 : zc Try.prog 76 = some [.v (.slice none 0 0), .v (.int .i64 0), .v (.int .u64 0)] := by kernel_rfl
@[go_sem] theorem fo76_0 : fo Try.prog 76 0 = some (0, 38) := by kernel_rfl
@[go_sem] theorem fo76_1 : fo Try.prog 76 1 = some (1, 3) := by kernel_rfl
@[go_sem] theorem fo76_2 : fo Try.prog 76 2 = some (2, 74) := by kernel_rfl
@[go_sem] theorem ti77 : ti Try.prog 77 = some ⟨false, 1, 8⟩ := by kernel_rfl
@[go_sem] theorem zc77 : zc Try.prog 77 = some [.v .nilFunc] := by kernel_rfl
@[go_sem] theorem ti78 : ti Try.prog 78 = some ⟨false, 1, 8⟩ := by kernel_rfl
@[go_sem] theorem zc78 : zc Try.prog 78 = some [.v .nilFunc] := by kernel_rfl
@[go_sem] theorem ti79 : ti Try.prog 79 = some ⟨false, 1, 8⟩ := by kernel_rfl
@[go_sem] theorem zc79 : zc Try.prog 79 = some [.v .nilFunc] := by kernel_rfl
@[go_sem] theorem ti80 : ti Try.prog 80 = some ⟨false, 1, 8⟩ := by kernel_rfl
@[go_sem] theorem zc80 : zc Try.prog 80 = some [.v .nilFunc] := by kernel_rfl
@[go_sem] theorem ti82 : ti Try.prog 82 = some ⟨false, 1, 8⟩ := by kernel_rfl
@[go_sem] theorem zc82 : zc Try.prog 82 = some [.v .nilFunc] := by kernel_rfl
@[go_sem] theorem ti83 : ti Try.prog 83 = some ⟨false, 1, 8⟩ := by kernel_rfl
@[go_sem] theorem zc83 : zc Try.prog 83 = some [.v .nilFunc] := by kernel_rfl
@[go_sem] theorem ti84 : ti Try.prog 84 = some ⟨false, 1, 8⟩ := by kernel_rfl
@[go_sem] theorem zc84 : zc Try.prog 84 = some [.v .nilFunc] := by kernel_rfl
@[go_sem] theorem ti85 : ti Try.prog 85 = some ⟨false, 1, 8⟩ := by kernel_rfl
@[go_sem] theorem zc85 : zc Try.prog 85 = some [.v .nilFunc] := by kernel_rfl
@[go_sem] theorem ti86 : ti Try.prog 86 = some ⟨false, 1, 8⟩ := by kernel_rfl
@[go_sem] theorem zc86 : zc Try.prog 86 = some [.v .nilFunc] := by kernel_rfl
@[go_sem] theorem ti87 : ti Try.prog 87 = some ⟨false, 1, 8⟩ := by kernel_rfl
@[go_sem] theorem zc87 : zc Try.prog 87 = some [.v .nilFunc] := by kernel_rfl
@[go_sem] theorem ti88 : ti Try.prog 88 = some ⟨false, 1, 8⟩ := by kernel_rfl
@[go_sem] theorem zc88 : zc Try.prog 88 = some [.v .nilFunc] := by kernel_rfl
@[go_sem] theorem ti89 : ti Try.prog 89 = some ⟨false, 1, 8⟩ := by kernel_rfl
@[go_sem] theorem zc89 : zc Try.prog 89 = some [.v .nilFunc] := by kernel_rfl
@[go_sem] theorem ti90 : ti Try.prog 90 = some ⟨false, 1, 24⟩ := by kernel_rfl
@[go_sem] theorem zc90 : zc Try.prog 90 = some [.v (.slice none 0 0)] := by kernel_rfl
@[go_sem] theorem el90 : elT Try.prog 90 = some 120 := by kernel_rfl
@[go_sem] theorem ti91 : ti Try.prog 91 = some ⟨false, 1, 8⟩ := by kernel_rfl
@[go_sem] theorem zc91 : zc Try.prog 91 = some [.v .nilFunc] := by kernel_rfl
@[go_sem] theorem ti92 : ti Try.prog 92 = some ⟨false, 1, 8⟩ := by kernel_rfl
@[go_sem] theorem zc92 : zc Try.prog 92 = some [.v .nilFunc] := by kernel_rfl
@[go_sem] theorem ti93 : ti Try.prog 93 = some ⟨true, 2, 32⟩ := by kernel_rfl
@[go_sem] theorem zc93 : zc Try.prog 93 = some [.v (.int .i64 0), .v (.slice none 0 0)] := by kernel_rfl
@[go_sem] theorem fo93_0 : fo Try.prog 93 0 = some (0, 3) := by kernel_rfl
@[go_sem] theorem fo93_1 : fo Try.prog 93 1 = some (1, 26) := by kernel_rfl
@[go_sem] theorem ti94 : ti Try.prog 94 = some ⟨true, 2, 32⟩ := by kernel_rfl
@[go_sem] theorem zc94 : zc Try.prog 94 = some [.v (.int .i64 0), .v (.slice none 0 0)] := by kernel_rfl
@[go_sem] theorem fo94_0 : fo Try.prog 94 0 = some (0, 3) := by kernel_rfl
@[go_sem] theorem fo94_1 : fo Try.prog 94 1 = some (1, 26) := by kernel_rfl
@[go_sem] theorem ti95 : ti Try.prog 95 = some ⟨false, 1, 8⟩ := by kernel_rfl
@[go_sem] theorem zc95 : zc Try.prog 95 = some [.v .nilFunc] := by kernel_rfl
@[go_sem] theorem ti96 : ti Try.prog 96 = some ⟨false, 1, 8⟩ := by kernel_rfl
@[go_sem] theorem zc96 : zc Try.prog 96 = some [.v .nilFunc] := by kernel_rfl
@[go_sem] theorem ti97 : ti Try.prog 97 = some ⟨false, 1, 8⟩ := by kernel_rfl
@[go_sem] theorem zc97 : zc Try.prog 97 = some [.v .nilFunc] := by kernel_rfl
@[go_sem] theorem ti98 : ti Try.prog 98 = some ⟨false, 1, 8⟩ := by kernel_rfl
@[go_sem] theorem zc98 : zc Try.prog 98 = some [.v .nilFunc] := by kernel_rfl
@[go_sem] theorem ti99 : ti Try.prog 99 = some ⟨false, 1, 8⟩ := by kernel_rfl
@[go_sem] theorem zc99 : zc Try.prog 99 = some [.v .nilFunc] := by kernel_rfl
@[go_sem] theorem ti100 : ti Try.prog 100 = some ⟨false, 1, 8⟩ := by kernel_rfl
@[go_sem] theorem zc100 : zc Try.prog 100 = some [.v .nilFunc] := by kernel_rfl
@[go_sem] theorem ti101 : ti Try.prog 101 = some ⟨true, 2, 32⟩ := by kernel_rfl
@[go_sem] theorem zc101 : zc Try.prog 101 = some [.v (.int .i64 0), .v (.slice none 0 0)] := by kernel_rfl
@[go_sem] theorem fo101_0 : fo Try.prog 101 0 = some (0, 3) := by kernel_rfl
@[go_sem] theorem fo101_1 : fo Try.prog 101 1 = some (1, 26) := by kernel_rfl
@[go_sem] theorem ti102 : ti Try.prog 102 = some ⟨false, 1, 8⟩ := by kernel_rfl
@[go_sem] theorem zc102 : zc Try.prog 102 = some [.v .nilFunc] := by kernel_rfl
@[go_sem] theorem ti103 : ti Try.prog 103 = some ⟨false, 1, 8⟩ := by kernel_rfl
@[go_sem] theorem zc103 : zc Try.prog 103 = some [.v .nilFunc] := by kernel_rfl
@[go_sem] theorem ti104 : ti Try.prog 104 = some ⟨false, 1, 8⟩ := by kernel_rfl
@[go_sem] theorem zc104 : zc Try.prog 104 = some [.v .nilFunc] := by kernel_rfl
@[go_sem] theorem ti105 : ti Try.prog 105 = some ⟨false, 1, 8⟩ := by kernel_rfl
@[go_sem] theorem zc105 : zc Try.prog 105 = some [.v .nilFunc] := by kernel_rfl
@[go_sem] theorem ti106 : ti Try.prog 106 = some ⟨false, 1, 8⟩ := by kernel_rfl
@[go_sem] theorem zc106 : zc Try.prog 106 = some [.v .nilFunc] := by kernel_rfl
@[go_sem] theorem ti107 : ti Try.prog 107 = some ⟨false, 1, 8⟩ := by kernel_rfl
@[go_sem] theorem zc107 : zc Try.prog 107 = some [.v .nilFunc] := by kernel_rfl
@[go_sem] theorem ti108 : ti Try.prog 108 = some ⟨false, 1, 8⟩ := by kernel_rfl
@[go_sem] theorem zc108 : zc Try.prog 108 = some [.v .nilFunc] := by kernel_rfl
@[go_sem] theorem ti109 : ti Try.prog 109 = some ⟨false, 1, 8⟩ := by kernel_rfl
@[go_sem] theorem zc109 : zc Try.prog 109 = some [.v .nilFunc] := by kernel_rfl
@[go_sem] theorem ti110 : ti Try.prog 110 = some ⟨false, 1, 8⟩ := by kernel_rfl
@[go_sem] theorem zc110 : zc Try.prog 110 = some [.v .nilFunc] := by kernel_rfl
@[go_sem] theorem ti111 : ti Try.prog 111 = some ⟨false, 1, 8⟩ := by kernel_rfl
@[go_sem] theorem zc111 : zc Try.prog 111 = some [.v .nilFunc] := by kernel_rfl
@[go_sem] theorem ti112 : ti Try.prog 112 = some ⟨false, 1, 8⟩ := by kernel_rfl
@[go_sem] theorem zc112 : zc Try.prog 112 = some [.v .nilFunc] := by kernel_rfl
@[go_sem] theorem ti113 : ti Try.prog 113 = some ⟨false, 1, 8⟩ := by kernel_rfl
@[go_sem] theorem zc113 : zc Try.prog 113 = some [.v .nilFunc] := by kernel_rfl
@[go_sem] theorem ti114 : ti Try.prog 114 = some ⟨false, 1, 8⟩ := by kernel_rfl
@[go_sem] theorem zc114 : zc Try.prog 114 = some [.v .nilFunc] := by kernel_rfl
@[go_sem] theorem ti115 : ti Try.prog 115 = some ⟨false, 1, 8⟩ := by kernel_rfl
@[go_sem] theorem zc115 : zc Try.prog 115 = some [.v .nilFunc] := by kernel_rfl
@[go_sem] theorem ti116 : ti Try.prog 116 = some ⟨false, 1, 8⟩ := by kernel_rfl
@[go_sem] theorem zc116 : zc Try.prog 116 = some [.v .nilFunc] := by kernel_rfl
@[go_sem] theorem ti117 : ti Try.prog 117 = some ⟨false, 1, 8⟩ := by kernel_rfl
@[go_sem] theorem zc117 : zc Try.prog 117 = some [.v .nilFunc] := by kernel_rfl
@[go_sem] theorem ti118 : ti Try.prog 118 = some ⟨false, 1, 8⟩ := by kernel_rfl
@[go_sem] theorem zc118 : zc Try.prog 118 = some [.v .nilFunc] := by kernel_rfl
@[go_sem] theorem ti119 : ti Try.prog 119 = some ⟨true, 3, 24⟩ := by kernel_rfl
@[go_sem] theorem zc119 : zc Try.prog 119 = some [.v (.int .i64 0), .v (.int .i64 0), .v (.int .i64 0)] := by kernel_rfl
@[go_sem] theorem fo119_0 : fo Try.prog 119 0 = some (0, 3) := by kernel_rfl
@[go_sem] theorem fo119_1 : fo Try.prog 119 1 = some (1, 3) := by kernel_rfl
@[go_sem] theorem fo119_2 : fo Try.prog 119 2 = some (2, 3) := by kernel_rfl
@[go_sem] theorem ti120 : ti Try.prog 120 = some ⟨true, 3, 24⟩ := by kernel_rfl
@[go_sem] theorem zc120 : zc Try.prog 120 = some [.v (.int .i64 0), .v (.int .i64 0), .v (.int .i64 0)] := by kernel_rfl
@[go_sem] theorem fo120_0 : fo Try.prog 120 0 = some (0, 3) := by kernel_rfl
@[go_sem] theorem fo120_1 : fo Try.prog 120 1 = some (1, 3) := by kernel_rfl
@[go_sem] theorem fo120_2 : fo Try.prog 120 2 = some (2, 3) := by kernel_rfl
@[go_sem] theorem ti121 : ti Try.prog 121 = some ⟨false, 1, 24⟩ := by kernel_rfl
@[go_sem] theorem zc121 : zc Try.prog 121 = some [.v (.slice none 0 0)] := by kernel_rfl
@[go_sem] theorem el121 : elT Try.prog 121 = some 4 := by kernel_rfl
@[go_sem] theorem ti123 : ti Try.prog 123 = some ⟨false, 1, 8⟩ := by kernel_rfl
@[go_sem] theorem zc123 : zc Try.prog 123 = some [.v .nilFunc] := by kernel_rfl
@[go_sem] theorem ti124 : ti Try.prog 124 = some ⟨false, 1, 8⟩ := by kernel_rfl
@[go_sem] theorem zc124 : zc Try.prog 124 = some [.v .nilFunc] := by kernel_rfl
@[go_sem] theorem ti125 : ti Try.prog 125 = some ⟨false, 1, 8⟩ := by kernel_rfl
@[go_sem] theorem zc125 : zc Try.prog 125 = some [.v .nilFunc] := by kernel_rfl
@[go_sem] theorem ti126 : ti Try.prog 126 = some ⟨false, 1, 8⟩ := by kernel_rfl
@[go_sem] theorem zc126 : zc Try.prog 126 = some [.v .nilFunc] := by kernel_rfl
@[go_sem] theorem ti127 : ti Try.prog 127 = some ⟨false, 1, 8⟩ := by kernel_rfl
@[go_sem] theorem zc127 : zc Try.prog 127 = some [.v .nilFunc] := by kernel_rfl
@[go_sem] theorem ti128 : ti Try.prog 128 = some ⟨false, 1, 8⟩ := by kernel_rfl
@[go_sem] theorem zc128 : zc Try.prog 128 = some [.v .nilFunc] := by kernel_rfl
@[go_sem] theorem ti129 : ti Try.prog 129 = some ⟨false, 1, 8⟩ := by kernel_rfl
@[go_sem] theorem zc129 : zc Try.prog 129 = some [.v .nilFunc] := by kernel_rfl
@[go_sem] theorem ti130 : ti Try.prog 130 = some ⟨false, 1, 8⟩ := by kernel_rfl
@[go_sem] theorem zc130 : zc Try.prog 130 = some [.v .nilFunc] := by kernel_rfl
@[go_sem] theorem ti131 : ti Try.prog 131 = some ⟨false, 1, 8⟩ := by kernel_rfl
@[go_sem] theorem zc131 : zc Try.prog 131 = some [.v (.int .u64 0)] := by kernel_rfl
@[go_sem] theorem ti132 : ti Try.prog 132 = some ⟨false, 1, 8⟩ := by kernel_rfl
@[go_sem] theorem zc132 : zc Try.prog 132 = some [.v .nilFunc] := by kernel_rfl
@[go_sem] theorem ti133 : ti Try.prog 133 = some ⟨false, 1, 8⟩ := by kernel_rfl
@[go_sem] theorem zc133 : zc Try.prog 133 = some [.v .nilFunc] := by kernel_rfl
@[go_sem] theorem ti134 : ti Try.prog 134 = some ⟨false, 1, 8⟩ := by kernel_rfl
@[go_sem] theorem zc134 : zc Try.prog 134 = some [.v .nilFunc] := by kernel_rfl
@[go_sem] theorem ti135 : ti Try.prog 135 = some ⟨false, 1, 8⟩ := by kernel_rfl
@[go_sem] theorem zc135 : zc Try.prog 135 = some [.v .nilFunc] := by kernel_rfl
@[go_sem] theorem ti136 : ti Try.prog 136 = some ⟨false, 1, 8⟩ := by kernel_rfl
@[go_sem] theorem zc136 : zc Try.prog 136 = some [.v .nilFunc] := by kernel_rfl
@[go_sem] theorem ti137 : ti Try.prog 137 = some ⟨false, 1, 8⟩ := by kernel_rfl
@[go_sem] theorem zc137 : zc Try.prog 137 = some [.v .nilFunc] := by kernel_rfl
@[go_sem] theorem ti138 : ti Try.prog 138 = some ⟨false, 1, 8⟩ := by kernel_rfl
@[go_sem] theorem zc138 : zc Try.prog 138 = some [.v (.pointer none)] := by kernel_rfl
@[go_sem] theorem ti139 : ti Try.prog 139 = some ⟨false, 1, 8⟩ := by kernel_rfl
@[go_sem] theorem zc139 : zc Try.prog 139 = some [.v .nilFunc] := by kernel_rfl
@[go_sem] theorem ti140 : ti Try.prog 140 = some ⟨true, 4, 4⟩ := by kernel_rfl
@[go_sem] theorem zc140 : zc Try.prog 140 = some [.v (.bool false), .v (.bool false), .v (.bool false), .v (.bool false)] := by kernel_rfl
@[go_sem] theorem ar140 : arT Try.prog 140 = some (4, 4) := by kernel_rfl
@[go_sem] theorem ti142 : ti Try.prog 142 = some ⟨false, 1, 8⟩ := by kernel_rfl
@[go_sem] theorem zc142 : zc Try.prog 142 = some [.v .nilFunc] := by kernel_rfl
@[go_sem] theorem ti143 : ti Try.prog 143 = some ⟨true, 6, 6⟩ := by kernel_rfl
@[go_sem] theorem zc143 : zc Try.prog 143 = some [.v (.bool false), .v (.bool false), .v (.bool false), .v (.bool false), .v (.bool false), .v (.bool false)] := by kernel_rfl
@[go_sem] theorem ar143 : arT Try.prog 143 = some (6, 4) := by kernel_rfl
@[go_sem] theorem ti144 : ti Try.prog 144 = some ⟨true, 24, 24⟩ := by kernel_rfl
@[go_sem] theorem zc144 : zc Try.prog 144 = some [.v (.bool false), .v (.bool false), .v (.bool false), .v (.bool false), .v (.bool false), .v (.bool false), .v (.bool false), .v (.bool false), .v (.bool false), .v (.bool false), .v (.bool false), .v (.bool false), .v (.bool false), .v (.bool false), .v (.bool false), .v (.bool false), .v (.bool false), .v (.bool false), .v (.bool false), .v (.bool false), .v (.bool false), .v (.bool false), .v (.bool false), .v (.bool false)] := by kernel_rfl
@[go_sem] theorem ar144 : arT Try.prog 144 = some (6, 140) := by kernel_rfl
@[go_sem] theorem ti145 : ti Try.prog 145 = some ⟨true, 66, 66⟩ := by kernel_rfl
@[go_sem] theorem zc145 : zc Try.prog 145 = some [.v (.bool false), .v (.bool false), .v (.bool false), .v (.bool false), .v (.bool false), .v (.bool false), .v (.bool false), .v (.bool false), .v (.bool false), .v (.bool false), .v (.bool false), .v (.bool false), .v (.bool false), .v (.bool false), .v (.bool false), .v (.bool false), .v (.bool false), .v (.bool false), .v (.bool false), .v (.bool false), .v (.bool false), .v (.bool false), .v (.bool false), .v (.bool false), .v (.bool false), .v (.bool false), .v (.bool false), .v (.bool false), .v (.bool false), .v (.bool false), .v (.bool false), .v (.bool false), .v (.bool false), .v (.bool false), .v (.bool false), .v (.bool false), .v (.bool false), .v (.bool false), .v (.bool false), .v (.bool false), .v (.bool false), .v (.bool false), .v (.bool false), .v (.bool false), .v (.bool false), .v (.bool false), .v (.bool false), .v (.bool false), .v (.bool false), .v (.bool false), .v (.bool false), .v (.bool false), .v (.bool false), .v (.bool false), .v (.bool false), .v (.bool false), .v (.bool false), .v (.bool false), .v (.bool false), .v (.bool false), .v (.bool false), .v (.bool false), .v (.bool false), .v (.bool false), .v (.bool false), .v (.bool false)] := by kernel_rfl
@[go_sem] theorem fo145_0 : fo Try.prog 145 0 = some (0, 143) := by kernel_rfl
@[go_sem] theorem fo145_1 : fo Try.prog 145 1 = some (6, 143) := by kernel_rfl
@[go_sem] theorem fo145_2 : fo Try.prog 145 2 = some (12, 144) := by kernel_rfl
@[go_sem] theorem fo145_3 : fo Try.prog 145 3 = some (36, 144) := by kernel_rfl
@[go_sem] theorem fo145_4 : fo Try.prog 145 4 = some (60, 143) := by kernel_rfl
@[go_sem] theorem ti146 : ti Try.prog 146 = some ⟨true, 66, 66⟩ := by kernel_rfl
@[go_sem] theorem zc146 : zc Try.prog 146 = some [.v (.bool false), .v (.bool false), .v (.bool false), .v (.bool false), .v (.bool false), .v (.bool false), .v (.bool false), .v (.bool false), .v (.bool false), .v (.bool false), .v (.bool false), .v (.bool false), .v (.bool false), .v (.bool false), .v (.bool false), .v (.bool false), .v (.bool false), .v (.bool false), .v (.bool false), .v (.bool false), .v (.bool false), .v (.bool false), .v (.bool false), .v (.bool false), .v (.bool false), .v (.bool false), .v (.bool false), .v (.bool false), .v (.bool false), .v (.bool false), .v (.bool false), .v (.bool false), .v (.bool false), .v (.bool false), .v (.bool false), .v (.bool false), .v (.bool false), .v (.bool false), .v (.bool false), .v (.bool false), .v (.bool false), .v (.bool false), .v (.bool false), .v (.bool false), .v (.bool false), .v (.bool false), .v (.bool false), .v (.bool false), .v (.bool false), .v (.bool false), .v (.bool false), .v (.bool false), .v (.bool false), .v (.bool false), .v (.bool false), .v (.bool false), .v (.bool false), .v (.bool false), .v (.bool false), .v (.bool false), .v (.bool false), .v (.bool false), .v (.bool false), .v (.bool false), .v (.bool false), .v (.bool false)] := by kernel_rfl
@[go_sem] theorem fo146_0 : fo Try.prog 146 0 = some (0, 143) := by kernel_rfl
@[go_sem] theorem fo146_1 : fo Try.prog 146 1 = some (6, 143) := by kernel_rfl
@[go_sem] theorem fo146_2 : fo Try.prog 146 2 = some (12, 144) := by kernel_rfl
@[go_sem] theorem fo146_3 : fo Try.prog 146 3 = some (36, 144) := by kernel_rfl
@[go_sem] theorem fo146_4 : fo Try.prog 146 4 = some (60, 143) := by kernel_rfl
@[go_sem] theorem ti147 : ti Try.prog 147 = some ⟨false, 1, 8⟩ := by kernel_rfl
@[go_sem] theorem zc147 : zc Try.prog 147 = some [.v .nilFunc] := by kernel_rfl
@[go_sem] theorem ti148 : ti Try.prog 148 = some ⟨false, 1, 8⟩ := by kernel_rfl
@[go_sem] theorem zc148 : zc Try.prog 148 = some [.v .nilFunc] := by kernel_rfl
@[go_sem] theorem ti149 : ti Try.prog 149 = some ⟨false, 1, 8⟩ := by kernel_rfl
@[go_sem] theorem zc149 : zc Try.prog 149 = some [.v .nilFunc] := by kernel_rfl
@[go_sem] theorem ti150 : ti Try.prog 150 = some ⟨false, 1, 8⟩ := by kernel_rfl
@[go_sem] theorem zc150 : zc Try.prog 150 = some [.v .nilFunc] := by kernel_rfl
@[go_sem] theorem ti151 : ti Try.prog 151 = some ⟨false, 1, 8⟩ := by kernel_rfl
@[go_sem] theorem zc151 : zc Try.prog 151 = some [.v (.int .i64 0)] := by kernel_rfl
@[go_sem] theorem un151 : Try.prog.underlying 151 = some (.int .i64) := Try.underlying151
@[go_sem] theorem ti153 : ti Try.prog 153 = some ⟨false, 1, 8⟩ := by kernel_rfl
@[go_sem] theorem zc153 : zc Try.prog 153 = some [.v .nilFunc] := by kernel_rfl
@[go_sem] theorem ti154 : ti Try.prog 154 = some ⟨false, 1, 8⟩ := by kernel_rfl
@[go_sem] theorem zc154 : zc Try.prog 154 = some [.v .nilFunc] := by kernel_rfl
@[go_sem] theorem ti155 : ti Try.prog 155 = some ⟨false, 1, 8⟩ := by kernel_rfl
@[go_sem] theorem zc155 : zc Try.prog 155 = some [.v .nilFunc] := by kernel_rfl
@[go_sem] theorem ti156 : ti Try.prog 156 = some ⟨false, 1, 8⟩ := by kernel_rfl
@[go_sem] theorem zc156 : zc Try.prog 156 = some [.v .nilFunc] := by kernel_rfl
@[go_sem] theorem ti157 : ti Try.prog 157 = some ⟨false, 1, 8⟩ := by kernel_rfl
@[go_sem] theorem zc157 : zc Try.prog 157 = some [.v .nilFunc] := by kernel_rfl
@[go_sem] theorem ti158 : ti Try.prog 158 = some ⟨false, 1, 4⟩ := by kernel_rfl
@[go_sem] theorem zc158 : zc Try.prog 158 = some [.v (.int .u32 0)] := by kernel_rfl
@[go_sem] theorem ti159 : ti Try.prog 159 = some ⟨false, 1, 8⟩ := by kernel_rfl
@[go_sem] theorem zc159 : zc Try.prog 159 = some [.v .nilFunc] := by kernel_rfl
@[go_sem] theorem ti160 : ti Try.prog 160 = some ⟨false, 1, 8⟩ := by kernel_rfl
@[go_sem] theorem zc160 : zc Try.prog 160 = some [.v .nilFunc] := by kernel_rfl
@[go_sem] theorem ti161 : ti Try.prog 161 = some ⟨false, 1, 8⟩ := by kernel_rfl
@[go_sem] theorem zc161 : zc Try.prog 161 = some [.v .nilFunc] := by kernel_rfl
@[go_sem] theorem ti162 : ti Try.prog 162 = some ⟨false, 1, 8⟩ := by kernel_rfl
@[go_sem] theorem zc162 : zc Try.prog 162 = some [.v .nilFunc] := by kernel_rfl
@[go_sem] theorem ti163 : ti Try.prog 163 = some ⟨false, 1, 8⟩ := by kernel_rfl
@[go_sem] theorem zc163 : zc Try.prog 163 = some [.v .nilFunc] := by kernel_rfl
@[go_sem] theorem ti164 : ti Try.prog 164 = some ⟨false, 1, 8⟩ := by kernel_rfl
@[go_sem] theorem zc164 : zc Try.prog 164 = some [.v .nilFunc] := by kernel_rfl
@[go_sem] theorem ti165 : ti Try.prog 165 = some ⟨false, 1, 8⟩ := by kernel_rfl
@[go_sem] theorem zc165 : zc Try.prog 165 = some [.v .nilFunc] := by kernel_rfl
@[go_sem] theorem ti166 : ti Try.prog 166 = some ⟨false, 1, 8⟩ := by kernel_rfl
@[go_sem] theorem zc166 : zc Try.prog 166 = some [.v .nilFunc] := by kernel_rfl
@[go_sem] theorem ti167 : ti Try.prog 167 = some ⟨false, 1, 8⟩ := by kernel_rfl
@[go_sem] theorem zc167 : zc Try.prog 167 = some [.v (.int .u64 0)] := by kernel_rfl
@[go_sem] theorem ti168 : ti Try.prog 168 = some ⟨false, 1, 8⟩ := by kernel_rfl
@[go_sem] theorem zc168 : zc Try.prog 168 = some [.v .nilFunc] := by kernel_rfl
@[go_sem] theorem ti169 : ti Try.prog 169 = some ⟨false, 1, 8⟩ := by kernel_rfl
@[go_sem] theorem zc169 : zc Try.prog 169 = some [.v .nilFunc] := by kernel_rfl
@[go_sem] theorem ti170 : ti Try.prog 170 = some ⟨false, 1, 8⟩ := by kernel_rfl
@[go_sem] theorem zc170 : zc Try.prog 170 = some [.v .nilFunc] := by kernel_rfl
@[go_sem] theorem ti171 : ti Try.prog 171 = some ⟨false, 1, 8⟩ := by kernel_rfl
@[go_sem] theorem zc171 : zc Try.prog 171 = some [.v (.pointer none)] := by kernel_rfl
@[go_sem] theorem ti172 : ti Try.prog 172 = some ⟨false, 1, 8⟩ := by kernel_rfl
@[go_sem] theorem zc172 : zc Try.prog 172 = some [.v .nilFunc] := by kernel_rfl
@[go_sem] theorem ti173 : ti Try.prog 173 = some ⟨false, 1, 8⟩ := by kernel_rfl
@[go_sem] theorem zc173 : zc Try.prog 173 = some [.v .nilFunc] := by kernel_rfl
@[go_sem] theorem ti174 : ti Try.prog 174 = some ⟨false, 1, 8⟩ := by kernel_rfl
@[go_sem] theorem zc174 : zc Try.prog 174 = some [.v .nilFunc] := by kernel_rfl
@[go_sem] theorem ti175 : ti Try.prog 175 = some ⟨false, 1, 8⟩ := by kernel_rfl
@[go_sem] theorem zc175 : zc Try.prog 175 = some [.v .nilFunc] := by kernel_rfl
@[go_sem] theorem ti176 : ti Try.prog 176 = some ⟨false, 1, 8⟩ := by kernel_rfl
@[go_sem] theorem zc176 : zc Try.prog 176 = some [.v .nilFunc] := by kernel_rfl
@[go_sem] theorem ti177 : ti Try.prog 177 = some ⟨false, 1, 8⟩ := by kernel_rfl
@[go_sem] theorem zc177 : zc Try.prog 177 = some [.v .nilFunc] := by kernel_rfl
@[go_sem] theorem ti178 : ti Try.prog 178 = some ⟨false, 1, 8⟩ := by kernel_rfl
@[go_sem] theorem zc178 : zc Try.prog 178 = some [.v .nilFunc] := by kernel_rfl
@[go_sem] theorem ti179 : ti Try.prog 179 = some ⟨false, 1, 8⟩ := by kernel_rfl
@[go_sem] theorem zc179 : zc Try.prog 179 = some [.v .nilFunc] := by kernel_rfl
@[go_sem] theorem ti180 : ti Try.prog 180 = some ⟨false, 1, 8⟩ := by kernel_rfl
@[go_sem] theorem zc180 : zc Try.prog 180 = some [.v .nilFunc] := by kernel_rfl
@[go_sem] theorem ti181 : ti Try.prog 181 = some ⟨false, 1, 8⟩ := by kernel_rfl
@[go_sem] theorem zc181 : zc Try.prog 181 = some [.v .nilFunc] := by kernel_rfl
@[go_sem] theorem ti182 : ti Try.prog 182 = some ⟨false, 1, 8⟩ := by kernel_rfl
@[go_sem] theorem zc182 : zc Try.prog 182 = some [.v (.pointer none)] := by kernel_rfl
@[go_sem] theorem ti184 : ti Try.prog 184 = some ⟨false, 1, 8⟩ := by kernel_rfl
@[go_sem] theorem zc184 : zc Try.prog 184 = some [.v .nilFunc] := by kernel_rfl
@[go_sem] theorem ti185 : ti Try.prog 185 = some ⟨false, 1, 8⟩ := by kernel_rfl
@[go_sem] theorem zc185 : zc Try.prog 185 = some [.v .nilFunc] := by kernel_rfl
@[go_sem] theorem ti186 : ti Try.prog 186 = some ⟨false, 1, 8⟩ := by kernel_rfl
@[go_sem] theorem zc186 : zc Try.prog 186 = some [.v .nilFunc] := by kernel_rfl
@[go_sem] theorem ti187 : ti Try.prog 187 = some ⟨false, 1, 8⟩ := by kernel_rfl
@[go_sem] theorem zc187 : zc Try.prog 187 = some [.v .nilFunc] := by kernel_rfl
@[go_sem] theorem ti188 : ti Try.prog 188 = some ⟨false, 1, 8⟩ := by kernel_rfl
@[go_sem] theorem zc188 : zc Try.prog 188 = some [.v .nilFunc] := by kernel_rfl
@[go_sem] theorem ti189 : ti Try.prog 189 = some ⟨false, 1, 8⟩ := by kernel_rfl
@[go_sem] theorem zc189 : zc Try.prog 189 = some [.v .nilFunc] := by kernel_rfl
@[go_sem] theorem ti195 : ti Try.prog 195 = some ⟨false, 1, 1⟩ := by kernel_rfl
@[go_sem] theorem zc195 : zc Try.prog 195 = some [.v (.int .u8 0)] := by kernel_rfl
@[go_sem] theorem un195 : Try.prog.underlying 195 = some (.int .u8) := Try.underlying195
@[go_sem] theorem ti196 : ti Try.prog 196 = some ⟨false, 1, 1⟩ := by kernel_rfl
@[go_sem] theorem zc196 : zc Try.prog 196 = some [.v (.int .u8 0)] := by kernel_rfl
@[go_sem] theorem un196 : Try.prog.underlying 196 = some (.int .u8) := Try.underlying196
@[go_sem] theorem ti197 : ti Try.prog 197 = some ⟨false, 1, 8⟩ := by kernel_rfl
@[go_sem] theorem zc197 : zc Try.prog 197 = some [.v .nilFunc] := by kernel_rfl
@[go_sem] theorem ti198 : ti Try.prog 198 = some ⟨false, 1, 8⟩ := by kernel_rfl
@[go_sem] theorem zc198 : zc Try.prog 198 = some [.v (.pointer none)] := by kernel_rfl
@[go_sem] theorem ti199 : ti Try.prog 199 = some ⟨false, 1, 4⟩ := by kernel_rfl
@[go_sem] theorem zc199 : zc Try.prog 199 = some [.v (.int .i32 0)] := by kernel_rfl
@[go_sem] theorem un199 : Try.prog.underlying 199 = some (.int .i32) := Try.underlying199
@[go_sem] theorem ti200 : ti Try.prog 200 = some ⟨false, 1, 4⟩ := by kernel_rfl
@[go_sem] theorem zc200 : zc Try.prog 200 = some [.v (.int .i32 0)] := by kernel_rfl
@[go_sem] theorem un200 : Try.prog.underlying 200 = some (.int .i32) := Try.underlying200
@[go_sem] theorem ti201 : ti Try.prog 201 = some ⟨true, 11, 48⟩ := by kernel_rfl
@[go_sem] theorem zc201 : zc Try.prog 201 = some [.v (.int .u64 0), .v (.int .u64 0), .v (.int .u32 0), .v (.int .u8 0), .v (.int .u8 0), .v (.int .u8 0), .v (.int .u8 0), .v .nilFunc, .v (.pointer none), .v (.int .i32 0), .v (.int .i32 0)] := by kernel_rfl
@[go_sem] theorem fo201_0 : fo Try.prog 201 0 = some (0, 12) := by kernel_rfl
@[go_sem] theorem fo201_1 : fo Try.prog 201 1 = some (1, 12) := by kernel_rfl
@[go_sem] theorem fo201_2 : fo Try.prog 201 2 = some (2, 158) := by kernel_rfl
@[go_sem] theorem fo201_3 : fo Try.prog 201 3 = some (3, 195) := by kernel_rfl
@[go_sem] theorem fo201_4 : fo Try.prog 201 4 = some (4, 5) := by kernel_rfl
@[go_sem] theorem fo201_5 : fo Try.prog 201 5 = some (5, 5) := by kernel_rfl
@[go_sem] theorem fo201_6 : fo Try.prog 201 6 = some (6, 196) := by kernel_rfl
@[go_sem] theorem fo201_7 : fo Try.prog 201 7 = some (7, 197) := by kernel_rfl
@[go_sem] theorem fo201_8 : fo Try.prog 201 8 = some (8, 198) := by kernel_rfl
@[go_sem] theorem fo201_9 : fo Try.prog 201 9 = some (9, 199) := by kernel_rfl
@[go_sem] theorem fo201_10 : fo Try.prog 201 10 = some (10, 200) := by kernel_rfl
@[go_sem] theorem ti202 : ti Try.prog 202 = some ⟨true, 11, 48⟩ := by kernel_rfl
@[go_sem] theorem zc202 : zc Try.prog 202 = some [.v (.int .u64 0), .v (.int .u64 0), .v (.int .u32 0), .v (.int .u8 0), .v (.int .u8 0), .v (.int .u8 0), .v (.int .u8 0), .v .nilFunc, .v (.pointer none), .v (.int .i32 0), .v (.int .i32 0)] := by kernel_rfl
@[go_sem] theorem fo202_0 : fo Try.prog 202 0 = some (0, 12) := by kernel_rfl
@[go_sem] theorem fo202_1 : fo Try.prog 202 1 = some (1, 12) := by kernel_rfl
@[go_sem] theorem fo202_2 : fo Try.prog 202 2 = some (2, 158) := by kernel_rfl
@[go_sem] theorem fo202_3 : fo Try.prog 202 3 = some (3, 195) := by kernel_rfl
@[go_sem] theorem fo202_4 : fo Try.prog 202 4 = some (4, 5) := by kernel_rfl
@[go_sem] theorem fo202_5 : fo Try.prog 202 5 = some (5, 5) := by kernel_rfl
@[go_sem] theorem fo202_6 : fo Try.prog 202 6 = some (6, 196) := by kernel_rfl
@[go_sem] theorem fo202_7 : fo Try.prog 202 7 = some (7, 197) := by kernel_rfl
@[go_sem] theorem fo202_8 : fo Try.prog 202 8 = some (8, 198) := by kernel_rfl
@[go_sem] theorem fo202_9 : fo Try.prog 202 9 = some (9, 199) := by kernel_rfl
@[go_sem] theorem fo202_10 : fo Try.prog 202 10 = some (10, 200) := by kernel_rfl
end Go.Proofs.Ytejpklajfcngbaa.En
end
section
namespace Go.Proofs.Ytejpklajfcngbaa.En
open Go.RowKit
set_option linter.unusedSimpArgs false
set_option linter.unusedVariables false
set_option maxHeartbeats 4000000
def ints (xs : List Int) : List (List AV) := xs.map fun n => [.v (.int .i64 n)]
@[simp] theorem ints_len (xs : List Int) : (ints xs).length = xs.length := by simp [ints]
@[simp] theorem ints_get (xs : List Int) (i : Nat) : (ints xs)[i]? = (xs[i]?).map fun n => [.v (.int .i64 n)] := by simp [ints]
@[simp] theorem ints_gE (xs : List Int) (i : Nat) (h : i < (ints xs).length) : (ints xs)[i] = [.v (.int .i64 (xs[i]'(by simpa using h)))] := by simp [ints]
@[simp] theorem ints_set (xs : List Int) (i : Nat) (n : Int) : (ints xs).set i [.v (.int .i64 n)] = ints (xs.set i n) := by simp [ints]
@[simp] theorem ints_rep (n : Nat) (x : Int) : List.replicate n [AV.v (.int .i64 x)] = ints (List.replicate n x) := by simp [ints]
theorem ints_nf (xs : List Int) : ∀ row ∈ ints xs, ∀ x ∈ row, nf x = true := by
  intro row hr x hx
  simp only [ints, List.mem_map] at hr
  obtain ⟨n, _, rfl⟩ := hr
  simp at hx; subst hx; rfl
theorem ints_cl (xs : List Int) : ∀ row ∈ ints xs, ∀ x ∈ row, cl1 x = true := by
  intro row hr x hx
  simp only [ints, List.mem_map] at hr
  obtain ⟨n, _, rfl⟩ := hr
  simp at hx; subst hx; rfl

def half {α : Type} (xs : List α) (z : α) (i : Nat) : List α := xs.take i ++ List.replicate (xs.length - i) z
theorem take_next {α : Type} {xs ys : List α} {i : Nat} {x y : α} (hx : xs[i]? = some x) (hy : ys[i]? = some y) (ht : xs.take i = ys.take i) : (xs.take (i + 1) = ys.take (i + 1)) ↔ x = y := by
  rw [show xs.take (i + 1) = xs.take i ++ [x] by rw [List.take_add_one, hx]; rfl, show ys.take (i + 1) = ys.take i ++ [y] by rw [List.take_add_one, hy]; rfl, ht]
  exact ⟨fun h => by simpa using List.append_cancel_left h, fun h => by rw [h]⟩
theorem ne_at {α : Type} {xs ys : List α} {i : Nat} {x y : α} (hx : xs[i]? = some x) (hy : ys[i]? = some y) (h : x ≠ y) : ¬ xs = ys := by
  rintro rfl
  rw [hx] at hy
  exact h (Option.some.inj hy)

def less (n : Int) (k : Nat) : Int := if n - k < 0 then -1 else n - k
end Go.Proofs.Ytejpklajfcngbaa.En
end
section
namespace Go.Proofs.Ytejpklajfcngbaa.En
open Go.RowKit
set_option linter.unusedSimpArgs false
set_option linter.unusedVariables false
set_option maxHeartbeats 4000000
abbrev Node3 := Int × Int × Int
abbrev Edge3 := Int × Int × List Int
def nodeC (n : Node3) : List AV := [.v (.int .i64 n.1), .v (.int .i64 n.2.1), .v (.int .i64 n.2.2)]
def edgeC (e : Edge3) : List AV := [.v (.int .i64 e.1), .v (.int .i64 e.2.1), .im 1 (ints e.2.2)]
def nodes (ns : List Node3) : List (List AV) := ns.map nodeC
def edges (es : List Edge3) : List (List AV) := es.map edgeC
@[simp] theorem nodes_len (xs : List Node3) : (nodes xs).length = xs.length := by simp [nodes]
@[simp] theorem nodes_get (xs : List Node3) (i : Nat) : (nodes xs)[i]? = (xs[i]?).map nodeC := by simp [nodes]
@[simp] theorem nodes_gE (xs : List Node3) (i : Nat) (h : i < (nodes xs).length) : (nodes xs)[i] = nodeC (xs[i]'(by simpa using h)) := by simp [nodes]
@[simp] theorem edges_len (xs : List Edge3) : (edges xs).length = xs.length := by simp [edges]
@[simp] theorem edges_get (xs : List Edge3) (i : Nat) : (edges xs)[i]? = (xs[i]?).map edgeC := by simp [edges]
@[simp] theorem edges_gE (xs : List Edge3) (i : Nat) (h : i < (edges xs).length) : (edges xs)[i] = edgeC (xs[i]'(by simpa using h)) := by simp [edges]
def rowsOk (xs : List (List AV)) : Prop := ∀ row ∈ xs, ∀ x ∈ row, cl1 x = true
theorem cl1_nf {x : AV} (h : cl1 x = true) : nf x = true := by cases x <;> simp_all [cl1, nf]
theorem rowsOk.nf {xs : List (List AV)} (h : rowsOk xs) : ∀ row ∈ xs, ∀ x ∈ row, En.nf x = true := fun row hr x hx => cl1_nf (h row hr x hx)
end Go.Proofs.Ytejpklajfcngbaa.En
end
section
namespace Go.Proofs.Ytejpklajfcngbaa.En
open Go.RowKit
set_option linter.unusedSimpArgs false
set_option linter.unusedVariables false
set_option maxHeartbeats 4000000

end Go.Proofs.Ytejpklajfcngbaa.En
end
section
namespace Go.Proofs.Ytejpklajfcngbaa.En
open Go.RowKit
set_option linter.unusedSimpArgs false
set_option linter.unusedVariables false
set_option maxHeartbeats 4000000
end Go.Proofs.Ytejpklajfcngbaa.En
end
section
namespace Go.Proofs.Ytejpklajfcngbaa.En
open Go.RowKit
set_option linter.unusedSimpArgs false
set_option linter.unusedVariables false
set_option maxHeartbeats 4000000
theorem l1Same (xs ys : List Int) (hx : xs.length < 4611686018427387904) : Pure Try.prog 56 [.im 1 (ints xs), .im 1 (ints ys)] (.v (.bool (decide (xs = ys)))) := by
  refine Pure.mk (rs := [.tmp 4]) (nt := 26) Try.func56 (by kernel_rfl) rfl rfl rfl (by simp) ?_
  simp only [sl]
  refine wkd0 _ ?_
  refine Holds.cond rfl (fun hl => ?_) (fun hl => ?_)
  · have : ¬ xs = ys := by rintro rfl; simp at hl
    simp only [this, decide_false]
    refine wkd0 _ ?_
    refine Out.mk (xs := ?_) ?_ ?_ (by first | exact .inr rfl | exact .inl rfl)
    rotate_left
    · simp [go_sem, List.take_of_length_le] <;> with_reducible rfl
    exact .v _
  · have hlen : xs.length = ys.length := by
      have : (xs.length : Int) = ys.length := by simpa using hl
      omega
    refine wkd0 _ ?_
    refine Holds.loop (ι := Nat) (fun i => ⟨[(0, .im 1 (ints xs)), (1, .im 1 (ints ys)), (12, .v (.int .i64 xs.length)), (13, .v (.int .i64 i))], [], 0⟩) (fun i => i ≤ xs.length ∧ xs.take i = ys.take i) (fun i => xs.length - i) 0 ⟨Nat.zero_le _, rfl⟩ ?_ ?_
    · exact Cov.of id (by simp [ChkT, okr, okr1, lk, ren, ren1]) (by simp [ChkB])
    rintro i ⟨hi, htk⟩
    refine wkd0 _ ?_
    refine Holds.cond rfl (fun hl => ?_) (fun hl => ?_)
    · have hlt : i < xs.length := by simpa using hl
      have hxi : xs[i]? = some xs[i] := List.getElem?_eq_getElem hlt
      have hyi : ys[i]? = some ys[i] := List.getElem?_eq_getElem (by omega)
      refine wkd (And.intro @hxi (@hyi)) _ ?_
      refine Holds.cond rfl (fun hl => ?_) (fun hl => ?_)
      · have hne : ¬ xs = ys := ne_at hxi hyi (by simpa using hl)
        simp only [hne, decide_false]
        refine wkd0 _ ?_
        refine Out.mk (xs := ?_) ?_ ?_ (by first | exact .inr rfl | exact .inl rfl)
        rotate_left
        · simp [go_sem, List.take_of_length_le] <;> with_reducible rfl
        exact .v _
      · have he : xs[i] = ys[i] := by simpa using hl
        refine wkd0 _ ?_
        refine ⟨i + 1, ⟨by omega, (take_next hxi hyi htk).2 he⟩, by omega, ?_⟩
        rw [wr64_id (by omega) (by omega)]
        exact Cov.of id (by simp [ChkT, okr, okr1, lk, ren, ren1]) (by simp [ChkB])
    · have hle : i = xs.length := by
        have : ¬ i < xs.length := by simpa using hl
        omega
      have he : xs = ys := by
        subst hle
        rw [List.take_length, hlen, List.take_length] at htk
        exact htk
      simp only [he, decide_true]
      refine wkd0 _ ?_
      refine Out.mk (xs := ?_) ?_ ?_ (by first | exact .inr rfl | exact .inl rfl)
      rotate_left
      · simp [go_sem, List.take_of_length_le] <;> with_reducible rfl
      exact .v _

theorem equalInts (xs ys : List Int) (hx : xs.length < 4611686018427387904) : Pure Try.prog 54 [.im 1 (ints xs), .im 1 (ints ys)] (.v (.bool (decide (xs = ys)))) := by
  refine Pure.mk (rs := [.tmp 4]) (nt := 26) Try.func54 (by kernel_rfl) rfl rfl rfl (by simp) ?_
  simp only [sl]
  refine wkd0 _ ?_
  refine Holds.cond rfl (fun hl => ?_) (fun hl => ?_)
  · have : ¬ xs = ys := by rintro rfl; simp at hl
    simp only [this, decide_false]
    refine wkd0 _ ?_
    refine Out.mk (xs := ?_) ?_ ?_ (by first | exact .inr rfl | exact .inl rfl)
    rotate_left
    · simp [go_sem, List.take_of_length_le] <;> with_reducible rfl
    exact .v _
  · have hlen : xs.length = ys.length := by
      have : (xs.length : Int) = ys.length := by simpa using hl
      omega
    refine wkd0 _ ?_
    refine Holds.loop (ι := Nat) (fun i => ⟨[(0, .im 1 (ints xs)), (1, .im 1 (ints ys)), (12, .v (.int .i64 xs.length)), (13, .v (.int .i64 i))], [], 0⟩) (fun i => i ≤ xs.length ∧ xs.take i = ys.take i) (fun i => xs.length - i) 0 ⟨Nat.zero_le _, rfl⟩ ?_ ?_
    · exact Cov.of id (by simp [ChkT, okr, okr1, lk, ren, ren1]) (by simp [ChkB])
    rintro i ⟨hi, htk⟩
    refine wkd0 _ ?_
    refine Holds.cond rfl (fun hl => ?_) (fun hl => ?_)
    · have hlt : i < xs.length := by simpa using hl
      have hxi : xs[i]? = some xs[i] := List.getElem?_eq_getElem hlt
      have hyi : ys[i]? = some ys[i] := List.getElem?_eq_getElem (by omega)
      refine wkd (And.intro @hxi (@hyi)) _ ?_
      refine Holds.cond rfl (fun hl => ?_) (fun hl => ?_)
      · have hne : ¬ xs = ys := ne_at hxi hyi (by simpa using hl)
        simp only [hne, decide_false]
        refine wkd0 _ ?_
        refine Out.mk (xs := ?_) ?_ ?_ (by first | exact .inr rfl | exact .inl rfl)
        rotate_left
        · simp [go_sem, List.take_of_length_le] <;> with_reducible rfl
        exact .v _
      · have he : xs[i] = ys[i] := by simpa using hl
        refine wkd0 _ ?_
        refine ⟨i + 1, ⟨by omega, (take_next hxi hyi htk).2 he⟩, by omega, ?_⟩
        rw [wr64_id (by omega) (by omega)]
        exact Cov.of id (by simp [ChkT, okr, okr1, lk, ren, ren1]) (by simp [ChkB])
    · have hle : i = xs.length := by
        have : ¬ i < xs.length := by simpa using hl
        omega
      have he : xs = ys := by
        subst hle
        rw [List.take_length, hlen, List.take_length] at htk
        exact htk
      simp only [he, decide_true]
      refine wkd0 _ ?_
      refine Out.mk (xs := ?_) ?_ ?_ (by first | exact .inr rfl | exact .inl rfl)
      rotate_left
      · simp [go_sem, List.take_of_length_le] <;> with_reducible rfl
      exact .v _

end Go.Proofs.Ytejpklajfcngbaa.En
end
section
namespace Go.Proofs.Ytejpklajfcngbaa.En
open Go.RowKit
set_option linter.unusedSimpArgs false
set_option linter.unusedVariables false
set_option maxHeartbeats 4000000
def intsC (xs : List Int) : List AV := [.im 1 (ints xs)]
def intss (xs : List (List Int)) : List (List AV) := xs.map intsC
@[simp] theorem intss_len (xs : List (List Int)) : (intss xs).length = xs.length := by simp [intss]
@[simp] theorem intss_get (xs : List (List Int)) (i : Nat) : (intss xs)[i]? = (xs[i]?).map intsC := by simp [intss]
@[simp] theorem intss_gE (xs : List (List Int)) (i : Nat) (h : i < (intss xs).length) : (intss xs)[i] = intsC (xs[i]'(by simpa using h)) := by simp [intss]
theorem intss_ok (ns : List (List Int)) : rowsOk (intss ns) := by
  intro row hr x hx
  simp only [intss, List.mem_map] at hr
  obtain ⟨n, _, rfl⟩ := hr
  simp only [intsC, List.mem_cons, List.not_mem_nil, or_false] at hx
  subst hx; rfl
def machine (m : Int × Int × List (List Int) × List Int) : AV := .ag [.v (.int .i64 m.1), .v (.int .i64 m.2.1), .im 1 (intss m.2.2.1), .im 1 (ints m.2.2.2)]
end Go.Proofs.Ytejpklajfcngbaa.En
end
section
namespace Go.Proofs.Ytejpklajfcngbaa.En
open Go.RowKit
@[simp] theorem nfr_ints (xs : List Int) : nfr (ints xs) := ints_nf xs
@[simp] theorem nfr_intss (xs : List (List Int)) : nfr (intss xs) := nfr_of_ok (intss_ok xs)
@[simp] theorem nfr_half {xs : List (List AV)} {z : List AV} {i : Nat} (h : nfr xs) (hz : ∀ x ∈ z, nf x = true) : nfr (half xs z i) := by
  unfold half
  rw [nfr_append]
  exact ⟨h.take _, .rep hz⟩
def upTo (f : Nat → Int) (i : Nat) : List Int := (List.range i).map f
@[simp] theorem upTo_len (f : Nat → Int) (i : Nat) : (upTo f i).length = i := by simp [upTo]
@[simp] theorem upTo_zero (f : Nat → Int) : upTo f 0 = [] := rfl
@[simp] theorem ints_nil : ints [] = [] := rfl
theorem ints_snoc (xs : List Int) (n : Int) : ints xs ++ [[.v (.int .i64 n)]] = ints (xs ++ [n]) := by simp [ints]
end Go.Proofs.Ytejpklajfcngbaa.En
end
section
namespace Go.Proofs.Ytejpklajfcngbaa.En
open Go.RowKit
set_option linter.unusedSimpArgs false
set_option linter.unusedVariables false
set_option maxHeartbeats 4000000
abbrev DoneT := Int × Int × Int × Int
def doneC (x : DoneT) : List AV := [.v (.int .i64 x.1), .v (.int .i64 x.2.1), .v (.int .i64 x.2.2.1), .v (.int .i64 x.2.2.2)]
def dones (l : List DoneT) : List (List AV) := l.map doneC
@[simp] theorem dones_len (l : List DoneT) : (dones l).length = l.length := by simp [dones]
@[simp] theorem dones_get (l : List DoneT) (i : Nat) : (dones l)[i]? = (l[i]?).map doneC := by simp [dones]
@[simp] theorem dones_gE (l : List DoneT) (i : Nat) (h : i < (dones l).length) : (dones l)[i] = doneC (l[i]'(by simpa using h)) := by simp [dones]
theorem dones_ok (l : List DoneT) : rowsOk (dones l) := by
  intro row hr x hx
  simp only [dones, List.mem_map] at hr
  obtain ⟨n, _, rfl⟩ := hr
  simp only [doneC, List.mem_cons, List.not_mem_nil, or_false] at hx
  rcases hx with rfl | rfl | rfl | rfl <;> rfl
@[simp] theorem nfr_dones (l : List DoneT) : nfr (dones l) := nfr_of_ok (dones_ok l)
abbrev RuleT := Int × List Int
def ruleC (x : RuleT) : List AV := [.v (.int .i64 x.1), .im 1 (ints x.2)]
def rules (l : List RuleT) : List (List AV) := l.map ruleC
@[simp] theorem rules_len (l : List RuleT) : (rules l).length = l.length := by simp [rules]
@[simp] theorem rules_get (l : List RuleT) (i : Nat) : (rules l)[i]? = (l[i]?).map ruleC := by simp [rules]
@[simp] theorem rules_gE (l : List RuleT) (i : Nat) (h : i < (rules l).length) : (rules l)[i] = ruleC (l[i]'(by simpa using h)) := by simp [rules]
theorem rules_ok (l : List RuleT) : rowsOk (rules l) := by
  intro row hr x hx
  simp only [rules, List.mem_map] at hr
  obtain ⟨n, _, rfl⟩ := hr
  simp only [ruleC, List.mem_cons, List.not_mem_nil, or_false] at hx
  rcases hx with rfl | rfl <;> rfl
@[simp] theorem nfr_rules (l : List RuleT) : nfr (rules l) := nfr_of_ok (rules_ok l)
abbrev GrammarT := Int × Int × List RuleT
end Go.Proofs.Ytejpklajfcngbaa.En
end
section
namespace Go.Proofs.Ytejpklajfcngbaa.En
open Go.RowKit
set_option linter.unusedSimpArgs false
set_option linter.unusedVariables false
set_option maxHeartbeats 4000000
def mid {α : Type} (ys xs : List α) (i : Nat) : List α := ys.take i ++ xs.drop i
@[simp] theorem mid_zero {α : Type} (ys xs : List α) : mid ys xs 0 = xs := by simp [mid]
def wtL {α : Type} (w : α → Nat) : List α → Nat
  | [] => 0
  | x :: xs => w x + wtL w xs
def mkL {α : Type} (w : α → Nat) (f : Int → α → α) : Int → List α → List α
  | _, [] => []
  | k, x :: xs => f k x :: mkL w f (k + w x) xs
@[simp] theorem mkL_len {α : Type} (w : α → Nat) (f : Int → α → α) : ∀ (xs : List α) (k : Int), (mkL w f k xs).length = xs.length
  | [], _ => rfl
  | x :: xs, k => by simp [mkL, mkL_len w f xs]
theorem mkL_get {α : Type} (w : α → Nat) (f : Int → α → α) : ∀ (xs : List α) (k : Int) (i : Nat), (mkL w f k xs)[i]? = (xs[i]?).map (f (k + wtL w (xs.take i)))
  | [], _, i => by simp [mkL]
  | x :: xs, k, 0 => by simp [mkL, wtL]
  | x :: xs, k, i + 1 => by
    simp only [mkL, List.getElem?_cons_succ, mkL_get w f xs, List.take_succ_cons, wtL]
    congr 2; omega
def w1 (_ : Int) : Nat := 1
def m1 (k : Int) (_ : Int) : Int := k
@[simp] theorem wtL_w1 : ∀ xs : List Int, wtL w1 xs = xs.length
  | [] => rfl
  | x :: xs => by simp [wtL, w1, wtL_w1 xs]; omega
def cnt (k : Int) (xs : List Int) : List Int := mkL w1 m1 k xs
@[simp] theorem cnt_len (k : Int) (xs : List Int) : (cnt k xs).length = xs.length := mkL_len _ _ _ _
theorem cnt_get (k : Int) (xs : List Int) {i : Nat} (h : i < xs.length) : (cnt k xs)[i]? = some (k + i) := by
  unfold cnt
  rw [mkL_get, List.getElem?_eq_getElem h, wtL_w1, List.length_take]
  simp [m1]; omega
@[simp] theorem cnt_gE (k : Int) (xs : List Int) (i : Nat) (h : i < (cnt k xs).length) : (cnt k xs)[i] = k + i := by
  have := cnt_get k xs (i := i) (by simpa using h)
  rw [List.getElem?_eq_getElem h] at this
  exact Option.some.inj this
@[simp] theorem onyR_ints (xs : List Int) : onyR (ints xs) := fun row hr x hx => by
  simp only [ints, List.mem_map] at hr
  obtain ⟨n, _, rfl⟩ := hr
  simp at hx; subst hx; exact .v _
theorem get_E {α : Type} {l : List α} {i : Nat} {a : α} (h : l[i]? = some a) : ∀ g : i < l.length, l[i] = a := fun g => by
  rw [List.getElem?_eq_getElem g] at h; exact Option.some.inj h
theorem set_get {α : Type} {l : List α} {i : Nat} {a b : α} (h : l[i]? = some b) : (l.set i a)[i]? = some a := by
  have := (List.getElem?_eq_some_iff.1 h).1
  simp [this]
theorem Fz.owI {bl : List (Nat × Blk)} {e : TypeId} {sz : Nat} {xs : List (List AV)} (h : ∀ row ∈ xs, ∀ x ∈ row, En.cl1 x = true) : Fz bl (.ow e sz xs) (.im sz xs) :=
  .ow e sz xs xs rfl (fun j r r' h1 h2 => by rw [h1] at h2; cases h2; rfl) fun j r r' i x y h1 h2 h3 h4 => by
    rw [h1] at h2; cases h2
    rw [h3] at h4; cases h4
    exact .cl1 (h r (List.mem_of_getElem? h1) x (List.mem_of_getElem? h3))
theorem map_both {α β γ : Type} {xs : List α} {f : α → β} {g : α → γ} {j : Nat} {b : β} {c : γ} (h1 : (xs.map f)[j]? = some b) (h2 : (xs.map g)[j]? = some c) : ∃ x ∈ xs, b = f x ∧ c = g x := by
  simp only [List.getElem?_map, Option.map_eq_some_iff] at h1 h2
  obtain ⟨x, hx, rfl⟩ := h1
  obtain ⟨y, hy, rfl⟩ := h2
  rw [hx] at hy; cases hy
  exact ⟨x, List.mem_of_getElem? hx, rfl, rfl⟩
theorem Fz.rowsO {bl : List (Nat × Blk)} {α : Type} {n sz len : Nat} {k : Blk} (l : List α) (fO fI : α → List AV) (hk : lb bl n = some k) (hx : k.xs = l.map fO) (hs : k.sz = sz) (hz : ∀ x ∈ l, FzL bl (fO x) (fI x)) (hl : len = l.length) : Fz bl (.own n sz 0 len) (.im sz (l.map fI)) := by
  subst hs hl
  refine .own n 0 l.length k (l.map fI) _ hk (by simp [hx]) (fun j r r' h1 h2 => ?_) (fun j r r' i x y h1 h2 h3 h4 => ?_) (by simp) (by simp [List.take_of_length_le])
  · rw [hx] at h1
    obtain ⟨x, hx, rfl, rfl⟩ := map_both h1 h2
    exact (hz x hx).len
  · rw [hx] at h1
    obtain ⟨x, hx, rfl, rfl⟩ := map_both h1 h2
    exact (hz x hx).get i _ _ h3 h4
end Go.Proofs.Ytejpklajfcngbaa.En
end
section
namespace Go.Proofs.Ytejpklajfcngbaa.En
open Go.RowKit
set_option linter.unusedSimpArgs false
set_option linter.unusedVariables false
set_option maxHeartbeats 4000000
def ruleO (x : RuleT) : List AV := [.v (.int .i64 x.1), .ow 3 1 (ints x.2)]
def rulesO (l : List RuleT) : List (List AV) := l.map ruleO
@[simp] theorem rulesO_len (l : List (RuleT)) : (rulesO l).length = l.length := by simp [rulesO]
@[simp] theorem rulesO_get (l : List (RuleT)) (i : Nat) : (rulesO l)[i]? = (l[i]?).map ruleO := by simp [rulesO]
@[simp] theorem rulesO_gE (l : List (RuleT)) (i : Nat) (h : i < (rulesO l).length) : (rulesO l)[i] = ruleO (l[i]'(by simpa using h)) := by simp [rulesO]
theorem rulesO_all (p : AV → Prop) (l : List (RuleT)) (h : ∀ x ∈ l, ∀ y ∈ ruleO x, p y) : ∀ row ∈ rulesO l, ∀ y ∈ row, p y := by
  intro row hr y hy
  simp only [rulesO, List.mem_map] at hr
  obtain ⟨n, hn, rfl⟩ := hr
  exact h n hn y hy
@[simp] theorem nfr_rulesO (l : List (RuleT)) : nfr (rulesO l) := rulesO_all _ l fun x _ y hy => by simp only [ruleO, List.mem_cons, List.not_mem_nil, or_false] at hy; rcases hy with rfl | rfl <;> rfl
@[simp] theorem onyR_rulesO (l : List (RuleT)) : onyR (rulesO l) := rulesO_all _ l fun x _ y hy => by simp only [ruleO, List.mem_cons, List.not_mem_nil, or_false] at hy; rcases hy with rfl | rfl <;> simp
end Go.Proofs.Ytejpklajfcngbaa.En
end
section
namespace Go.Proofs.Ytejpklajfcngbaa.En
open Go.RowKit
set_option linter.unusedSimpArgs false
set_option linter.unusedVariables false
set_option maxHeartbeats 4000000
def wIntS (x : List Int) : Nat := wtL w1 x
def intsO1 (x : List Int) : List AV := [.ow 3 1 (ints x)]
def intssO (l : List (List Int)) : List (List AV) := l.map intsO1
@[simp] theorem intssO_len (l : List (List Int)) : (intssO l).length = l.length := by simp [intssO]
@[simp] theorem intssO_get (l : List (List Int)) (i : Nat) : (intssO l)[i]? = (l[i]?).map intsO1 := by simp [intssO]
@[simp] theorem intssO_gE (l : List (List Int)) (i : Nat) (h : i < (intssO l).length) : (intssO l)[i] = intsO1 (l[i]'(by simpa using h)) := by simp [intssO]
theorem intssO_all (p : AV → Prop) (l : List (List Int)) (h : ∀ x ∈ l, ∀ y ∈ intsO1 x, p y) : ∀ row ∈ intssO l, ∀ y ∈ row, p y := by
  intro row hr y hy
  simp only [intssO, List.mem_map] at hr
  obtain ⟨n, hn, rfl⟩ := hr
  exact h n hn y hy
@[simp] theorem nfr_intssO (l : List (List Int)) : nfr (intssO l) := intssO_all _ l fun x _ y hy => by simp only [intsO1, List.mem_cons, List.not_mem_nil, or_false] at hy; rcases hy with rfl <;> rfl
@[simp] theorem onyR_intssO (l : List (List Int)) : onyR (intssO l) := intssO_all _ l fun x _ y hy => by simp only [intsO1, List.mem_cons, List.not_mem_nil, or_false] at hy; rcases hy with rfl <;> simp
theorem fz_intssO {bl : List (Nat × Blk)} {n len : Nat} {e : TypeId} (l : List (List Int)) (hk : lb bl n = some ⟨e, 1, intssO l⟩) (hl : len = l.length) : Fz bl (.own n 1 0 len) (.im 1 (intss l)) := Fz.rowsO l intsO1 intsC hk rfl rfl (fun x _ => show FzL bl (intsO1 x) (intsC x) from by simp only [intsO1, intsC]; exact .cons (Fz.owI (ints_cl _)) (.nil)) hl
end Go.Proofs.Ytejpklajfcngbaa.En
end
section
namespace Go.Proofs.Ytejpklajfcngbaa.En
open Go.RowKit
set_option linter.unusedSimpArgs false
set_option linter.unusedVariables false
set_option maxHeartbeats 4000000
def inR (x lo hi : Int) : Bool := decide (lo ≤ x) && decide (x ≤ hi)
theorem l1In (x lo hi : Int) : Pure Try.prog 73 [.v (.int .i64 x), .v (.int .i64 lo), .v (.int .i64 hi)] (.v (.bool (inR x lo hi))) := by
  refine Pure.mk (rs := [.tmp 6]) (nt := 15) Try.func73 (by kernel_rfl) rfl rfl rfl (by simp) ?_
  simp only [sl]
  refine wk0 _ ?_
  refine GS.guard (t := 10) rfl (fun h => ?_) (fun h => ?_)
  · have h : lo ≤ x := by simpa using h
    rw [show inR x lo hi = decide (x ≤ hi) by simp [inR, h]]
    refine wk0 _ ?_
    refine Out.mk (xs := ?_) ?_ ?_ (by first | exact .inr rfl | exact .inl rfl)
    rotate_left
    · simp [go_sem, List.take_of_length_le] <;> with_reducible rfl
    exact .v _
  · have h : ¬ lo ≤ x := by simpa using h
    rw [show inR x lo hi = false by simp [inR, h]]
    refine wk0 _ ?_
    refine Out.mk (xs := ?_) ?_ ?_ (by first | exact .inr rfl | exact .inl rfl)
    rotate_left
    · simp [go_sem, List.take_of_length_le] <;> with_reducible rfl
    exact .v _
theorem implIn (x lo hi : Int) : Pure Try.prog 78 [.v (.int .i64 x), .v (.int .i64 lo), .v (.int .i64 hi)] (.v (.bool (inR x lo hi))) := by
  refine Pure.mk (rs := [.tmp 6]) (nt := 15) Try.func78 (by kernel_rfl) rfl rfl rfl (by simp) ?_
  simp only [sl]
  refine wk0 _ ?_
  refine GS.guard (t := 10) rfl (fun h => ?_) (fun h => ?_)
  · have h : lo ≤ x := by simpa using h
    rw [show inR x lo hi = decide (x ≤ hi) by simp [inR, h]]
    refine wk0 _ ?_
    refine Out.mk (xs := ?_) ?_ ?_ (by first | exact .inr rfl | exact .inl rfl)
    rotate_left
    · simp [go_sem, List.take_of_length_le] <;> with_reducible rfl
    exact .v _
  · have h : ¬ lo ≤ x := by simpa using h
    rw [show inR x lo hi = false by simp [inR, h]]
    refine wk0 _ ?_
    refine Out.mk (xs := ?_) ?_ ?_ (by first | exact .inr rfl | exact .inl rfl)
    rotate_left
    · simp [go_sem, List.take_of_length_le] <;> with_reducible rfl
    exact .v _
def allB (p : Nat → Bool) : Nat → Bool
  | 0 => true
  | n + 1 => allB p n && p n
theorem allB_no {p : Nat → Bool} {n i : Nat} (hi : i < n) (h : p i = false) : allB p n = false := by
  induction n with
  | zero => omega
  | succ n ih =>
    unfold allB
    by_cases e : i = n
    · subst e; simp [h]
    · simp [ih (by omega)]
def risAt (xs : List Int) (lo hi : Int) (i : Nat) : Bool := inR (xs.getD i 0) lo hi && (decide (i = 0) || decide (xs.getD (i - 1) 0 < xs.getD i 0))
def rising (xs : List Int) (lo hi : Int) : Bool := allB (risAt xs lo hi) xs.length
theorem l1Rising (xs : List Int) (lo hi : Int) (hx : xs.length < 4611686018427387904) : Pure Try.prog 92 [.im 1 (ints xs), .v (.int .i64 lo), .v (.int .i64 hi)] (.v (.bool (rising xs lo hi))) := by
  refine Pure.mk (rs := [.tmp 6]) (nt := 35) Try.func92 (by kernel_rfl) rfl rfl rfl (by simp) ?_
  simp only [sl]
  refine wk0 _ ?_
  refine Holds.loop (ι := Nat) (fun i => ⟨[(0, .im 1 (ints xs)), (1, .v (.int .i64 lo)), (2, .v (.int .i64 hi)), (9, .im 1 (ints xs)), (10, .v (.int .i64 xs.length)), (11, .v (.int .i64 i))], [], 0⟩) (fun i => i ≤ xs.length ∧ allB (risAt xs lo hi) i = true) (fun i => xs.length - i) 0 ⟨Nat.zero_le _, rfl⟩ ?_ ?_
  · exact Cov.of id (by simp [ChkT, okr, okr1, lk, ren, ren1]) (by simp [ChkB])
  rintro i ⟨hi', hall⟩
  refine wk0 _ ?_
  refine Holds.cond rfl (fun hl => ?_) (fun hl => ?_)
  · have hlt : i < xs.length := by simpa using hl
    have hxi : xs[i]? = some xs[i] := List.getElem?_eq_getElem hlt
    have hd : xs.getD i 0 = xs[i] := by simp [hlt]
    have no : risAt xs lo hi i = false → Out Try.prog [.tmp 6] (.v (.bool (rising xs lo hi))) = Out Try.prog [.tmp 6] (.v (.bool false)) := fun h => by rw [rising, allB_no hlt h]
    refine wk (@hxi) _ ?_
    refine GS.cc (l1In xs[i] lo hi) rfl rfl rfl rfl (by simp [go_sem, List.take_of_length_le] <;> with_reducible rfl) rfl (by simp [go_sem, List.take_of_length_le]) ?_
    refine wk (@hxi) _ ?_
    refine GS.guard (t := 21) rfl (fun h => ?_) (fun h => ?_)
    · rw [no (by have h : inR xs[i] lo hi = false := by simpa using h
                 rw [risAt, hd, h]; rfl)]
      refine wk0 _ ?_
      refine Holds.cond rfl (fun h => ?_) (fun h => ?_)
      · refine wk0 _ ?_
        refine Out.mk (xs := ?_) ?_ ?_ (by first | exact .inr rfl | exact .inl rfl)
        rotate_left
        · simp [go_sem, List.take_of_length_le] <;> with_reducible rfl
        exact .v _
      · cases h
    have h1 : inR xs[i] lo hi = true := by simpa using h
    refine wk0 _ ?_
    have next : risAt xs lo hi i = true → ∃ j, (j ≤ xs.length ∧ allB (risAt xs lo hi) j = true) ∧ xs.length - j < xs.length - i ∧ j = i + 1 := fun h => ⟨i + 1, ⟨hlt, by unfold allB; rw [hall, h]; rfl⟩, by omega, rfl⟩
    refine GS.guard (t := 24) rfl (fun h => ?_) (fun h => ?_)
    · have h2 : 0 < i := by simpa using h
      have hw : wr64 ((i : Int) - 1) = ((i - 1 : Nat) : Int) := by rw [wr64_id (by omega) (by omega)]; omega
      have hxp : xs[i - 1]? = some xs[i - 1] := List.getElem?_eq_getElem (by omega)
      have hdp : xs.getD (i - 1) 0 = xs[i - 1] := by simp [show i - 1 < xs.length by omega]
      refine wk (And.intro @hw (@hxp)) _ ?_
      refine Holds.cond rfl (fun h => ?_) (fun h => ?_)
      · have h3 : xs[i] ≤ xs[i - 1] := by simpa using h
        rw [no (by simp only [risAt, hd, hdp, h1, Bool.true_and, Bool.or_eq_false_iff, decide_eq_false_iff_not]; omega)]
        refine wk0 _ ?_
        refine Out.mk (xs := ?_) ?_ ?_ (by first | exact .inr rfl | exact .inl rfl)
        rotate_left
        · simp [go_sem, List.take_of_length_le] <;> with_reducible rfl
        exact .v _
      · have h3 : ¬ xs[i] ≤ xs[i - 1] := by simpa using h
        obtain ⟨j, hj1, hj2, rfl⟩ := next (by simp only [risAt, hd, hdp, h1, Bool.true_and, Bool.or_eq_true, decide_eq_true_eq]; omega)
        refine wk0 _ ?_
        refine ⟨i + 1, hj1, hj2, ?_⟩
        rw [wr64_id (by omega) (by omega)]
        exact Cov.of id (by simp [ChkT, okr, okr1, lk, ren, ren1]) (by simp [ChkB])
    · have h2 : i = 0 := by have : ¬ 0 < i := by simpa using h
                            omega
      refine wk0 _ ?_
      refine Holds.cond rfl (fun h => ?_) (fun h => ?_)
      · cases h
      · obtain ⟨j, hj1, hj2, rfl⟩ := next (by rw [risAt, hd, h1]; simp [h2])
        refine wk0 _ ?_
        refine ⟨i + 1, hj1, hj2, ?_⟩
        rw [wr64_id (by omega) (by omega)]
        exact Cov.of id (by simp [ChkT, okr, okr1, lk, ren, ren1]) (by simp [ChkB])
  · have hle : i = xs.length := by
      have : ¬ i < xs.length := by simpa using hl
      omega
    subst hle
    rw [rising, hall]
    refine wk0 _ ?_
    refine Out.mk (xs := ?_) ?_ ?_ (by first | exact .inr rfl | exact .inl rfl)
    rotate_left
    · simp [go_sem, List.take_of_length_le] <;> with_reducible rfl
    exact .v _
end Go.Proofs.Ytejpklajfcngbaa.En
end
section
namespace Go.Proofs.Ytejpklajfcngbaa.En
open Go.RowKit
set_option linter.unusedSimpArgs false
set_option linter.unusedVariables false
set_option maxHeartbeats 4000000
def hasN (xs : List Int) (n : Int) : Bool := xs.contains n
theorem not_has_take {xs : List Int} {n : Int} (h : ∀ (i : Nat) (x : Int), xs[i]? = some x → x ≠ n) : hasN xs n = false := by
  rw [hasN, List.contains_eq_any_beq, List.any_eq_false]
  intro x hx
  obtain ⟨i, hi⟩ := List.mem_iff_getElem?.1 hx
  have := h i x hi
  simp; exact fun e => this e.symm
theorem has_at {xs : List Int} {n : Int} {i : Nat} (h : xs[i]? = some n) : hasN xs n = true := by
  rw [hasN, List.contains_eq_any_beq, List.any_eq_true]
  exact ⟨n, List.mem_of_getElem? h, by simp⟩
theorem l1Has (xs : List Int) (n : Int) (hx : xs.length < 4611686018427387904) : Pure Try.prog 98 [.im 1 (ints xs), .v (.int .i64 n)] (.v (.bool (hasN xs n))) := by
  refine Pure.mk (rs := [.tmp 4]) (nt := 17) Try.func98 (by kernel_rfl) rfl rfl rfl (by simp) ?_
  simp only [sl]
  refine wk0 _ ?_
  refine Holds.loop (ι := Nat) (fun i => ⟨[(1, .v (.int .i64 n)), (7, .im 1 (ints xs)), (8, .v (.int .i64 xs.length)), (9, .v (.int .i64 i))], [], 0⟩) (fun i => i ≤ xs.length ∧ ∀ j, j < i → ∀ x, xs[j]? = some x → x ≠ n) (fun i => xs.length - i) 0 ⟨Nat.zero_le _, fun j hj => absurd hj (Nat.not_lt_zero j)⟩ ?_ ?_
  · exact Cov.ofn (id) rfl (by simp [go_sem, List.take_of_length_le, ren, ren1, ren2, okr, okr1, okr2, ChkT, ChkN, BlkN, nf]) (by simp [go_sem, List.take_of_length_le, ren, ren1, ren2, okr, okr1, okr2, ChkT, ChkN, BlkN, nf])
  rintro i ⟨hi, hno⟩
  refine wk0 _ ?_
  refine Holds.cond rfl (fun hl => ?_) (fun hl => ?_)
  · have hlt : i < xs.length := by simpa using hl
    have hxi : xs[i]? = some xs[i] := List.getElem?_eq_getElem hlt
    refine wk (@hxi) _ ?_
    refine Holds.cond rfl (fun hl => ?_) (fun hl => ?_)
    · have he : xs[i] = n := by simpa using hl
      rw [has_at (hxi.trans (by rw [he]))]
      refine wk0 _ ?_
      refine Out.mk (xs := ?_) ?_ ?_ (by first | exact .inr rfl | exact .inl rfl)
      rotate_left
      · simp [go_sem, List.take_of_length_le] <;> with_reducible rfl
      exact .v _
    · have he : xs[i] ≠ n := by simpa using hl
      refine wk0 _ ?_
      refine ⟨i + 1, ⟨by omega, fun j hj x hxj => ?_⟩, by omega, ?_⟩
      · by_cases e : j = i
        · subst e; rw [hxi] at hxj; cases hxj; exact he
        · exact hno j (by omega) x hxj
      rw [wr64_id (by omega) (by omega)]
      exact Cov.ofn (id) rfl (by simp [go_sem, List.take_of_length_le, ren, ren1, ren2, okr, okr1, okr2, ChkT, ChkN, BlkN, nf]) (by simp [go_sem, List.take_of_length_le, ren, ren1, ren2, okr, okr1, okr2, ChkT, ChkN, BlkN, nf])
  · have hle : i = xs.length := by
      have : ¬ i < xs.length := by simpa using hl
      omega
    rw [not_has_take (n := n) fun j x hj => hno j (by have := (List.getElem?_eq_some_iff.1 hj).1; omega) x hj]
    refine wk0 _ ?_
    refine Out.mk (xs := ?_) ?_ ?_ (by first | exact .inr rfl | exact .inl rfl)
    rotate_left
    · simp [go_sem, List.take_of_length_le] <;> with_reducible rfl
    exact .v _
end Go.Proofs.Ytejpklajfcngbaa.En
end
section
namespace Go.Proofs.Ytejpklajfcngbaa.En
open Go.RowKit
set_option linter.unusedSimpArgs false
set_option linter.unusedVariables false
set_option maxHeartbeats 4000000
def handC (long : Nat) (h : Nat × Bool) : List AV := [.v (.int .i64 long), .v (.int .i64 h.1), .v (.bool h.2)]
def hands (long : Nat) (hs : List (Nat × Bool)) : List (List AV) := hs.map (handC long)
@[simp] theorem hands_len (long : Nat) (hs : List (Nat × Bool)) : (hands long hs).length = hs.length := by simp [hands]
@[simp] theorem hands_get (long : Nat) (hs : List (Nat × Bool)) (i : Nat) : (hands long hs)[i]? = (hs[i]?).map (handC long) := by simp [hands]
@[simp] theorem hands_gE (long : Nat) (hs : List (Nat × Bool)) (i : Nat) (h : i < (hands long hs).length) : (hands long hs)[i] = handC long (hs[i]'(by simpa using h)) := by simp [hands]
@[simp] theorem nfr_hands (long : Nat) (hs : List (Nat × Bool)) : nfr (hands long hs) := by
  intro row hr x hx
  simp only [hands, List.mem_map] at hr
  obtain ⟨n, _, rfl⟩ := hr
  simp only [handC, List.mem_cons, List.not_mem_nil, or_false] at hx
  rcases hx with rfl | rfl | rfl <;> rfl
def mix {α : Type} (xs ys : List α) (i : Nat) : List α := xs.take i ++ ys.drop i
@[simp] theorem mix_zero {α : Type} (xs ys : List α) : mix xs ys 0 = ys := by simp [mix]
@[simp] theorem nfr.mix {xs ys : List (List AV)} (h : nfr xs) (h' : nfr ys) (i : Nat) : nfr (En.mix xs ys i) := by
  unfold En.mix
  rw [nfr_append]
  exact ⟨h.take i, h'.drop i⟩
@[simp] theorem nfr_mixHands (a b : Nat) (xs ys : List (Nat × Bool)) (i : Nat) : nfr (mix (hands a xs) (hands b ys) i) := (nfr_hands a xs).mix (nfr_hands b ys) i

end Go.Proofs.Ytejpklajfcngbaa.En
end
section
namespace Go.Proofs.Ytejpklajfcngbaa.En
open Go.RowKit
set_option linter.unusedSimpArgs false
set_option linter.unusedVariables false
set_option maxHeartbeats 4000000
end Go.Proofs.Ytejpklajfcngbaa.En
end
section
namespace Go.Proofs.Ytejpklajfcngbaa.En
open Go.RowKit
set_option linter.unusedSimpArgs false
set_option linter.unusedVariables false
set_option maxHeartbeats 4000000
def fstI {α : Type} [DecidableEq α] : List α → α → Nat → Int
  | [], _, _ => -1
  | x :: xs, n, k => if x = n then (k : Int) else fstI xs n (k + 1)
theorem fstI_at {α : Type} [DecidableEq α] {n : α} : ∀ (xs : List α) (i k : Nat), xs[i]? = some n → (∀ j, j < i → ∀ x, xs[j]? = some x → x ≠ n) → fstI xs n k = ((k + i : Nat) : Int)
  | [], i, k, h, _ => by simp at h
  | x :: xs, 0, k, h, _ => by simp at h; simp [fstI, h]
  | x :: xs, i + 1, k, h, hno => by
    have h0 : x ≠ n := hno 0 (by omega) x (by simp)
    unfold fstI
    rw [if_neg h0, fstI_at xs i (k + 1) (by simpa using h) fun j hj y hy => hno (j + 1) (by omega) y (by simpa using hy)]
    congr 1; omega
theorem fstI_no {α : Type} [DecidableEq α] {n : α} : ∀ (xs : List α) (k : Nat), n ∉ xs → fstI xs n k = -1
  | [], k, _ => rfl
  | x :: xs, k, h => by
    unfold fstI
    rw [if_neg (fun e => h (by simp [e])), fstI_no xs (k + 1) fun g => h (.tail _ g)]
theorem fstI_has {α : Type} [DecidableEq α] (n : α) : ∀ (xs : List α) (k : Nat), decide (fstI xs n k ≥ 0) = decide (n ∈ xs)
  | [], k => by simp [fstI]
  | x :: xs, k => by
    unfold fstI
    by_cases h : x = n
    · simp [h]
    · rw [if_neg h, fstI_has n xs (k + 1)]
      simp [Ne.symm h]
theorem not_mem_of {α : Type} {xs : List α} {n : α} (h : ∀ (i : Nat) (x : α), xs[i]? = some x → x ≠ n) : n ∉ xs := fun hm => by
  obtain ⟨i, hi⟩ := List.mem_iff_getElem?.1 hm
  exact h i n hi rfl
theorem hasN_dec (xs : List Int) (n : Int) : hasN xs n = decide (n ∈ xs) := by simp [hasN, List.contains_eq_mem]
def bools (xs : List Bool) : List (List AV) := xs.map fun b => [.v (.bool b)]
@[simp] theorem bools_len (xs : List Bool) : (bools xs).length = xs.length := by simp [bools]
@[simp] theorem bools_get (xs : List Bool) (i : Nat) : (bools xs)[i]? = (xs[i]?).map fun n => [.v (.bool n)] := by simp [bools]
@[simp] theorem bools_gE (xs : List Bool) (i : Nat) (h : i < (bools xs).length) : (bools xs)[i] = [.v (.bool (xs[i]'(by simpa using h)))] := by simp [bools]
@[simp] theorem bools_set (xs : List Bool) (i : Nat) (n : Bool) : (bools xs).set i [.v (.bool n)] = bools (xs.set i n) := by simp [bools, List.map_set]
@[simp] theorem bools_rep (n : Nat) (x : Bool) : List.replicate n [AV.v (.bool x)] = bools (List.replicate n x) := by simp [bools]
theorem bools_cl (xs : List Bool) : ∀ row ∈ bools xs, ∀ x ∈ row, cl1 x = true := by
  intro row hr x hx
  simp only [bools, List.mem_map] at hr
  obtain ⟨n, _, rfl⟩ := hr
  simp at hx; subst hx; rfl
@[simp] theorem nfr_bools (xs : List Bool) : nfr (bools xs) := nfr_of_ok (bools_cl xs)
theorem indexInt (xs : List Int) (n : Int) (hx : xs.length < 4611686018427387904) : Pure Try.prog 118 [.im 1 (ints xs), .v (.int .i64 n)] (.v (.int .i64 (fstI xs n 0))) := by
  refine Pure.mk (rs := [.tmp 4]) (nt := 19) Try.func118 (by kernel_rfl) rfl rfl rfl (by simp) ?_
  simp only [sl]
  refine wk0 _ ?_
  refine Holds.loop (ι := Nat) (fun i => ⟨[(0, .im 1 (ints xs)), (1, .v (.int .i64 n)), (7, .v (.int .i64 xs.length)), (8, .v (.int .i64 i))], [], 0⟩) (fun i => i ≤ xs.length ∧ ∀ j, j < i → ∀ x, xs[j]? = some x → x ≠ n) (fun i => xs.length - i) 0 ⟨Nat.zero_le _, fun j hj => absurd hj (Nat.not_lt_zero j)⟩ ?_ ?_
  · exact Cov.ofn (id) rfl (by simp [go_sem, List.take_of_length_le, ren, ren1, ren2, okr, okr1, okr2, ChkT, ChkN, BlkN, nf]) (by simp [go_sem, List.take_of_length_le, ren, ren1, ren2, okr, okr1, okr2, ChkT, ChkN, BlkN, nf])
  rintro i ⟨hi, hno⟩
  refine wk0 _ ?_
  refine Holds.cond rfl (fun hl => ?_) (fun hl => ?_)
  · have hlt : i < xs.length := by simpa using hl
    have hxi : xs[i]? = some xs[i] := List.getElem?_eq_getElem hlt
    refine wk (@hxi) _ ?_
    refine Holds.cond rfl (fun hl => ?_) (fun hl => ?_)
    · have he : n = xs[i] := by simpa using hl
      rw [fstI_at xs i 0 (hxi.trans (by rw [he])) hno, Nat.zero_add]
      refine wk0 _ ?_
      refine Out.mk (xs := ?_) ?_ ?_ (by first | exact .inr rfl | exact .inl rfl)
      rotate_left
      · simp [go_sem, List.take_of_length_le] <;> with_reducible rfl
      exact .v _
    · have he : ¬ n = xs[i] := by simpa using hl
      refine wk0 _ ?_
      refine ⟨i + 1, ⟨by omega, fun j hj x hxj => ?_⟩, by omega, ?_⟩
      · by_cases e : j = i
        · subst e; rw [hxi] at hxj; cases hxj; exact fun e => he e.symm
        · exact hno j (by omega) x hxj
      rw [wr64_id (by omega) (by omega)]
      exact Cov.ofn (id) rfl (by simp [go_sem, List.take_of_length_le, ren, ren1, ren2, okr, okr1, okr2, ChkT, ChkN, BlkN, nf]) (by simp [go_sem, List.take_of_length_le, ren, ren1, ren2, okr, okr1, okr2, ChkT, ChkN, BlkN, nf])
  · have hle : i = xs.length := by
      have : ¬ i < xs.length := by simpa using hl
      omega
    rw [fstI_no xs 0 (not_mem_of fun j x hj => hno j (by have := (List.getElem?_eq_some_iff.1 hj).1; omega) x hj)]
    refine wk0 _ ?_
    refine Out.mk (xs := ?_) ?_ ?_ (by first | exact .inr rfl | exact .inl rfl)
    rotate_left
    · simp [go_sem, List.take_of_length_le] <;> with_reducible rfl
    exact .v _
theorem containsInt (xs : List Int) (n : Int) (hx : xs.length < 4611686018427387904) : Pure Try.prog 97 [.im 1 (ints xs), .v (.int .i64 n)] (.v (.bool (decide (n ∈ xs)))) := by
  refine Pure.mk (rs := [.tmp 4]) (nt := 9) Try.func97 (by kernel_rfl) rfl rfl rfl (by simp) ?_
  simp only [sl]
  refine wk0 _ ?_
  refine GS.cc (indexInt xs n hx) rfl rfl rfl rfl (by simp [go_sem, List.take_of_length_le] <;> with_reducible rfl) rfl (by simp [go_sem, List.take_of_length_le]) ?_
  rw [← fstI_has n xs 0]
  refine wk0 _ ?_
  refine Out.mk (xs := ?_) ?_ ?_ (by first | exact .inr rfl | exact .inl rfl)
  rotate_left
  · simp [go_sem, List.take_of_length_le] <;> with_reducible rfl
  exact .v _
end Go.Proofs.Ytejpklajfcngbaa.En
end
section
namespace Go.Proofs.Ytejpklajfcngbaa.En
open Go.RowKit
set_option linter.unusedSimpArgs false
set_option linter.unusedVariables false
set_option maxHeartbeats 4000000
def fstP {α : Type} (p : α → Bool) : List α → Nat → Int
  | [], _ => -1
  | x :: xs, k => if p x then (k : Int) else fstP p xs (k + 1)
theorem fstP_at {α : Type} {p : α → Bool} : ∀ (xs : List α) (i k : Nat) {n : α}, xs[i]? = some n → p n = true → (∀ j, j < i → ∀ x, xs[j]? = some x → p x = false) → fstP p xs k = ((k + i : Nat) : Int)
  | [], i, k, n, h, _, _ => by simp at h
  | x :: xs, 0, k, n, h, hp, _ => by simp at h; subst h; simp [fstP, hp]
  | x :: xs, i + 1, k, n, h, hp, hno => by
    have h0 : p x = false := hno 0 (by omega) x (by simp)
    unfold fstP
    rw [if_neg (by simp [h0]), fstP_at xs i (k + 1) (by simpa using h) hp fun j hj y hy => hno (j + 1) (by omega) y (by simpa using hy)]
    congr 1; omega
theorem fstP_no {α : Type} {p : α → Bool} : ∀ (xs : List α) (k : Nat), (∀ (j : Nat) (x : α), xs[j]? = some x → p x = false) → fstP p xs k = -1
  | [], k, _ => rfl
  | x :: xs, k, h => by
    unfold fstP
    rw [if_neg (by simp [h 0 x (by simp)]), fstP_no xs (k + 1) fun j y hy => h (j + 1) y (by simpa using hy)]
theorem fstP_any {α : Type} (p : α → Bool) : ∀ (xs : List α) (k : Nat), decide (fstP p xs k ≥ 0) = xs.any p
  | [], k => by simp [fstP]
  | x :: xs, k => by
    unfold fstP
    cases h : p x
    · rw [if_neg (by simp), fstP_any p xs (k + 1)]; simp [h]
    · simp [h]
theorem okr1_cl {nx : Nat} {x : AV} (h : cl1 x = true) : okr1 nx x = true := by cases x <;> simp_all [cl1, okr1]
theorem ren1_cl {ρ : Nat → Nat} {x : AV} (h : cl1 x = true) : ren1 ρ x = x := by cases x <;> simp_all [cl1, ren1]
theorem all_cl1 {cap : List AV} (h : cap.all cl1 = true) : cap.all cl = true := by
  rw [List.all_eq_true] at h ⊢
  intro x hx
  have := h x hx
  cases x <;> simp_all [cl, cl1]
theorem okr1_cap {cap : List AV} (h : cap.all cl1 = true) (nx : Nat) : cap.all (okr1 nx) = true := by
  rw [List.all_eq_true] at h ⊢
  exact fun x hx => okr1_cl (h x hx)
theorem ren1_cap {cap : List AV} (h : cap.all cl1 = true) (ρ : Nat → Nat) : cap.map (ren1 ρ) = cap := by
  rw [List.all_eq_true] at h
  have : ∀ x ∈ cap, ren1 ρ x = id x := fun x hx => ren1_cl (h x hx)
  rw [List.map_congr_left this]; simp
theorem Fz.box {bl : List (Nat × Blk)} {n sz : Nat} {k : Blk} {cs : List AV} (hk : lb bl n = some k) (hx : k.xs = [cs]) (hz : k.sz = sz) (hc : cs.all En.cl1 = true) : Fz bl (.pb n sz 0 0) (.pi cs) := by
  subst hz
  refine .pb n 0 0 k cs cs hk (by rw [hx]; rfl) (by simp) (fun q x y h1 h2 => ?_)
  rw [List.drop_zero, h2] at h1
  have e := Option.some.inj h1
  subst e
  rw [List.all_eq_true] at hc
  exact .cl1 (hc _ (List.mem_of_getElem? h2))
theorem all_not_any {α : Type} (p : α → Bool) (xs : List α) : xs.all p = !xs.any (fun x => !p x) := by
  induction xs with
  | nil => rfl
  | cons x xs ih => simp only [List.all_cons, List.any_cons, ih, Bool.not_or, Bool.not_not]
theorem indexFuncInt (g : FuncId) (cap : List AV) (p : Int → Bool) (xs : List Int) (hx : xs.length < 4611686018427387904) (hcap : cap.all cl1 = true) (hg : ∀ x ∈ xs, Pure Try.prog g (.v (.int .i64 x) :: cap) (.v (.bool (p x)))) : Pure Try.prog 117 [.im 1 (ints xs), .fn g cap] (.v (.int .i64 (fstP p xs 0))) := by
  refine Pure.mk (rs := [.tmp 4]) (nt := 19) Try.func117 (by kernel_rfl) rfl rfl rfl (by simp) ?_
  simp only [sl]
  refine wk0 _ ?_
  refine Holds.loop (ι := Nat) (fun i => ⟨[(0, .im 1 (ints xs)), (1, .fn g cap), (7, .v (.int .i64 xs.length)), (8, .v (.int .i64 i))], [], 0⟩) (fun i => i ≤ xs.length ∧ ∀ j, j < i → ∀ x, xs[j]? = some x → p x = false) (fun i => xs.length - i) 0 ⟨Nat.zero_le _, fun j hj => absurd hj (Nat.not_lt_zero j)⟩ ?_ ?_
  · exact Cov.ofn id rfl (by simp [go_sem, ren, ren1, okr, okr1, ChkT, okr1_cap hcap, ren1_cap hcap]) (by simp [ChkN])
  rintro i ⟨hi, hno⟩
  refine wk0 _ ?_
  refine Holds.cond rfl (fun hl => ?_) (fun hl => ?_)
  · have hlt : i < xs.length := by simpa using hl
    have hxi : xs[i]? = some xs[i] := List.getElem?_eq_getElem hlt
    have hgi := hg _ (List.getElem_mem hlt)
    refine wk (@hxi) _ ?_
    refine GS.cc (hgi) rfl rfl rfl rfl (by simp [go_sem, List.take_of_length_le, hcap, all_cl1 hcap] <;> with_reducible rfl) rfl (by simp [go_sem, List.take_of_length_le, hcap, all_cl1 hcap]) ?_
    refine wk0 _ ?_
    refine Holds.cond rfl (fun hl => ?_) (fun hl => ?_)
    · rw [fstP_at xs i 0 hxi hl hno, Nat.zero_add]
      refine wk0 _ ?_
      refine Out.mk (xs := ?_) ?_ ?_ (by first | exact .inr rfl | exact .inl rfl)
      rotate_left
      · simp [go_sem, List.take_of_length_le] <;> with_reducible rfl
      exact .v _
    · refine wk0 _ ?_
      refine ⟨i + 1, ⟨by omega, fun j hj x hxj => ?_⟩, by omega, ?_⟩
      · by_cases e : j = i
        · subst e; rw [hxi] at hxj; cases hxj; exact hl
        · exact hno j (by omega) x hxj
      rw [wr64_id (by omega) (by omega)]
      exact Cov.ofn id rfl (by simp [go_sem, ren, ren1, okr, okr1, ChkT, okr1_cap hcap, ren1_cap hcap]) (by simp [ChkN])
  · have hle : i = xs.length := by
      have : ¬ i < xs.length := by simpa using hl
      omega
    rw [fstP_no xs 0 fun j x hj => hno j (by have := (List.getElem?_eq_some_iff.1 hj).1; omega) x hj]
    refine wk0 _ ?_
    refine Out.mk (xs := ?_) ?_ ?_ (by first | exact .inr rfl | exact .inl rfl)
    rotate_left
    · simp [go_sem, List.take_of_length_le] <;> with_reducible rfl
    exact .v _
theorem containsFuncInt (g : FuncId) (cap : List AV) (p : Int → Bool) (xs : List Int) (hx : xs.length < 4611686018427387904) (hcap : cap.all cl1 = true) (hg : ∀ x ∈ xs, Pure Try.prog g (.v (.int .i64 x) :: cap) (.v (.bool (p x)))) : Pure Try.prog 95 [.im 1 (ints xs), .fn g cap] (.v (.bool (xs.any p))) := by
  refine Pure.mk (rs := [.tmp 4]) (nt := 9) Try.func95 (by kernel_rfl) rfl rfl rfl (by simp) ?_
  simp only [sl]
  refine wk0 _ ?_
  refine GS.cc (indexFuncInt g cap p xs hx hcap hg) rfl rfl rfl rfl (by simp [go_sem, List.take_of_length_le, hcap, all_cl1 hcap] <;> with_reducible rfl) rfl (by simp [go_sem, List.take_of_length_le, hcap, all_cl1 hcap]) ?_
  rw [← fstP_any p xs 0]
  refine wk0 _ ?_
  refine Out.mk (xs := ?_) ?_ ?_ (by first | exact .inr rfl | exact .inl rfl)
  rotate_left
  · simp [go_sem, List.take_of_length_le] <;> with_reducible rfl
  exact .v _
end Go.Proofs.Ytejpklajfcngbaa.En
end
section
namespace Go.Proofs.Ytejpklajfcngbaa.En
open Go.RowKit
set_option linter.unusedSimpArgs false
set_option linter.unusedVariables false
set_option maxHeartbeats 4000000
theorem oAt (xs : List (List Int)) (r : List AV) : (intssO xs ++ [r])[xs.length]? = some r := by simp
theorem oSnoc (xs : List (List Int)) (r : List AV) (q : List Int) : (intssO xs ++ [r]).set xs.length [.ow 3 1 (ints q)] = intssO (xs ++ [q]) := by
  have h : (intssO xs).length = xs.length := intssO_len xs
  rw [List.set_append_right _ _ (by omega), h, Nat.sub_self]; simp [intssO, intsO1]
theorem oApp (xs : List (List Int)) (q : List Int) : intssO xs ++ [[.ow 3 1 (ints q)]] = intssO (xs ++ [q]) := by simp [intssO, intsO1]
theorem oSet (xs : List (List Int)) {i : Nat} {q : List Int} (h : xs[i]? = some q) : (intssO xs).set i [.ow 3 1 (ints q)] = intssO xs := by
  obtain ⟨hi, e⟩ := List.getElem?_eq_some_iff.1 h
  subst e
  refine List.ext_getElem? fun k => ?_
  by_cases hk : i = k
  · subst hk; simp [List.getElem?_set, hi, intsO1]
  · simp [List.getElem?_set, hk]
theorem oGet {xs : List (List Int)} {i : Nat} {q : List Int} (h : xs[i]? = some q) : (intssO xs)[i]? = some [.ow 3 1 (ints q)] := by simp [h, intsO1]
theorem Fz.pbM {bl : List (Nat × Blk)} {n sz : Nat} {k : Blk} {row ys : List AV} (hk : lb bl n = some k) (hx : k.xs = [row]) (hz : k.sz = sz) (h : FzL bl row ys) : Fz bl (.pb n sz 0 0) (.pi ys) := by
  subst hz
  exact .pb n 0 0 k row ys hk (by rw [hx]; rfl) (by rw [List.drop_zero]; exact Nat.le_of_eq h.len) (fun q x y h1 h2 => h.get q x y (by simpa using h1) h2)
theorem indexFuncIntS (g : FuncId) (cap : List AV) (p : (List Int) → Bool) (xs : List (List Int)) (hx : xs.length < 4611686018427387904) (hcap : cap.all cl1 = true) (hg : ∀ x ∈ xs, Pure Try.prog g (.im 1 (ints x) :: cap) (.v (.bool (p x)))) : Pure Try.prog 52 [.im 1 (intss xs), .fn g cap] (.v (.int .i64 (fstP p xs 0))) := by
  refine Pure.mk (rs := [.tmp 4]) (nt := 19) Try.func52 (by kernel_rfl) rfl rfl rfl (by simp) ?_
  simp only [sl]
  refine wk0 _ ?_
  refine Holds.loop (ι := Nat) (fun i => ⟨[(0, .im 1 (intss xs)), (1, .fn g cap), (7, .v (.int .i64 xs.length)), (8, .v (.int .i64 i))], [], 0⟩) (fun i => i ≤ xs.length ∧ ∀ j, j < i → ∀ x, xs[j]? = some x → p x = false) (fun i => xs.length - i) 0 ⟨Nat.zero_le _, fun j hj => absurd hj (Nat.not_lt_zero j)⟩ ?_ ?_
  · exact Cov.ofn id rfl (by simp [go_sem, ren, ren1, okr, okr1, ChkT, okr1_cap hcap, ren1_cap hcap]) (by simp [ChkN])
  rintro i ⟨hi, hno⟩
  refine wk0 _ ?_
  refine Holds.cond rfl (fun hl => ?_) (fun hl => ?_)
  · have hlt : i < xs.length := by simpa using hl
    have hxi : xs[i]? = some xs[i] := List.getElem?_eq_getElem hlt
    have hgi := hg _ (List.getElem_mem hlt)
    refine wk (And.intro @hxi (@intsC.eq_1)) _ ?_
    refine GS.cc (hgi) rfl rfl rfl rfl (by simp [go_sem, List.take_of_length_le, hcap, all_cl1 hcap , intsC] <;> with_reducible rfl) rfl (by simp [go_sem, List.take_of_length_le, hcap, all_cl1 hcap , intsC]) ?_
    refine wk0 _ ?_
    refine Holds.cond rfl (fun hl => ?_) (fun hl => ?_)
    · rw [fstP_at xs i 0 hxi hl hno, Nat.zero_add]
      refine wk0 _ ?_
      refine Out.mk (xs := ?_) ?_ ?_ (by first | exact .inr rfl | exact .inl rfl)
      rotate_left
      · simp [go_sem, List.take_of_length_le] <;> with_reducible rfl
      exact .v _
    · refine wk0 _ ?_
      refine ⟨i + 1, ⟨by omega, fun j hj x hxj => ?_⟩, by omega, ?_⟩
      · by_cases e : j = i
        · subst e; rw [hxi] at hxj; cases hxj; exact hl
        · exact hno j (by omega) x hxj
      rw [wr64_id (by omega) (by omega)]
      exact Cov.ofn id rfl (by simp [go_sem, ren, ren1, okr, okr1, ChkT, okr1_cap hcap, ren1_cap hcap]) (by simp [ChkN])
  · have hle : i = xs.length := by
      have : ¬ i < xs.length := by simpa using hl
      omega
    rw [fstP_no xs 0 fun j x hj => hno j (by have := (List.getElem?_eq_some_iff.1 hj).1; omega) x hj]
    refine wk0 _ ?_
    refine Out.mk (xs := ?_) ?_ ?_ (by first | exact .inr rfl | exact .inl rfl)
    rotate_left
    · simp [go_sem, List.take_of_length_le] <;> with_reducible rfl
    exact .v _
end Go.Proofs.Ytejpklajfcngbaa.En
end
section
namespace Go.Proofs.Ytejpklajfcngbaa.En
open Go.RowKit Go.Shelf Go.Sort
set_option linter.unusedSimpArgs false
set_option linter.unusedVariables false
set_option linter.unusedSectionVars false
set_option maxHeartbeats 4000000
def rowsOw (ti : TypeId) (xs : List (List Int)) : List (List AV) := xs.map fun x => [.ow ti 1 (ints x)]
@[simp] theorem rowsOw_len (ti : TypeId) (xs : List (List Int)) : (rowsOw ti xs).length = xs.length := by simp [rowsOw]
end Go.Proofs.Ytejpklajfcngbaa.En
end
section
namespace Go.Proofs.Ytejpklajfcngbaa.En
open Go.RowKit
set_option linter.unusedSimpArgs false
set_option linter.unusedVariables false
set_option maxHeartbeats 4000000
end Go.Proofs.Ytejpklajfcngbaa.En
end
section
namespace Go.Proofs.Ytejpklajfcngbaa.En
open Go.RowKit Go.Shelf
set_option linter.unusedSimpArgs false
set_option linter.unusedVariables false
set_option maxHeartbeats 4000000
def cmpRow : List Int → List Int → Int
  | [], [] => 0
  | [], _ :: _ => -1
  | _ :: _, [] => 1
  | a :: x, b :: y => if a < b then -1 else if b < a then 1 else cmpRow x y
end Go.Proofs.Ytejpklajfcngbaa.En
end
section
namespace Go.Proofs.Ytejpklajfcngbaa.En
open Go.RowKit Go.Shelf
set_option linter.unusedVariables false
def sort189_ren : Go.Shelf.Ren := ⟨fun | 189 => 71 | 125 => 109 | 257 => 111 | 128 => 136 | 129 => 137 | 294 => 139 | 295 => 140 | 296 => 141 | 297 => 142 | 298 => 143 | 299 => 144 | 216 => 145 | 300 => 146 | 301 => 147 | 328 => 158 | 329 => 154 | 330 => 155 | 331 => 159 | 332 => 160 | 215 => 138 | 343 => 176 | n => n, fun | 28 => 26 | 3 => 3 | 46 => 131 | 0 => 0 | 51 => 158 | 53 => 74 | 4 => 4 | 183 => 152 | 182 => 151 | 131 => 47 | 5 => 5 | 9 => 9 | 218 => 167 | 222 => 171 | 228 => 182 | 229 => 183 | n => n, fun n => n⟩
theorem sort189 : Go.Proofs.Lays.n189 Try.prog sort189_ren where
  mixed := by kernel_rfl
  f125 := Try.func109.trans (congrArg some (by kernel_rfl))
  f128 := Try.func136.trans (congrArg some (by kernel_rfl))
  f129 := Try.func137.trans (congrArg some (by kernel_rfl))
  f189 := Try.func71.trans (congrArg some (by kernel_rfl))
  f215 := Try.func138.trans (congrArg some (by kernel_rfl))
  f216 := Try.func145.trans (congrArg some (by kernel_rfl))
  f257 := Try.func111.trans (congrArg some (by kernel_rfl))
  f294 := Try.func139.trans (congrArg some (by kernel_rfl))
  f295 := Try.func140.trans (congrArg some (by kernel_rfl))
  f296 := Try.func141.trans (congrArg some (by kernel_rfl))
  f297 := Try.func142.trans (congrArg some (by kernel_rfl))
  f298 := Try.func143.trans (congrArg some (by kernel_rfl))
  f299 := Try.func144.trans (congrArg some (by kernel_rfl))
  f300 := Try.func146.trans (congrArg some (by kernel_rfl))
  f301 := Try.func147.trans (congrArg some (by kernel_rfl))
  f328 := Try.func158.trans (congrArg some (by kernel_rfl))
  f329 := Try.func154.trans (congrArg some (by kernel_rfl))
  f330 := Try.func155.trans (congrArg some (by kernel_rfl))
  f331 := Try.func159.trans (congrArg some (by kernel_rfl))
  f332 := Try.func160.trans (congrArg some (by kernel_rfl))
  f343 := Try.func176.trans (congrArg some (by kernel_rfl))
  t0 := Try.underlying0
  a0 := Try.isAgg0
  z0 := Try.sizeOf0
  v0 := Try.zeroValue0
  t3 := Try.underlying3
  a3 := Try.isAgg3
  z3 := Try.sizeOf3
  v3 := Try.zeroValue3
  t4 := Try.underlying4
  a4 := Try.isAgg4
  z4 := Try.sizeOf4
  v4 := Try.zeroValue4
  t5 := Try.underlying5
  a5 := Try.isAgg5
  z5 := Try.sizeOf5
  v5 := Try.zeroValue5
  t9 := Try.underlying9
  a9 := Try.isAgg9
  z9 := Try.sizeOf9
  v9 := Try.zeroValue9
  t28 := Try.underlying26
  a28 := Try.isAgg26
  z28 := Try.sizeOf26
  v28 := Try.zeroValue26
  t46 := Try.underlying131
  a46 := Try.isAgg131
  z46 := Try.sizeOf131
  v46 := Try.zeroValue131
  t51 := Try.underlying158
  a51 := Try.isAgg158
  z51 := Try.sizeOf158
  v51 := Try.zeroValue158
  t53 := Try.underlying74
  a53 := Try.isAgg74
  z53 := Try.sizeOf74
  v53 := Try.zeroValue74
  t131 := Try.underlying47
  a131 := Try.isAgg47
  z131 := Try.sizeOf47
  v131 := Try.zeroValue47
  t182 := Try.underlying151
  a182 := Try.isAgg151
  z182 := Try.sizeOf151
  v182 := Try.zeroValue151
  t183 := Try.underlying152
  a183 := Try.isAgg152
  z183 := Try.sizeOf152
  v183 := Try.zeroValue152
  t218 := Try.underlying167
  a218 := Try.isAgg167
  z218 := Try.sizeOf167
  v218 := Try.zeroValue167
  t222 := Try.underlying171
  a222 := Try.isAgg171
  z222 := Try.sizeOf171
  v222 := Try.zeroValue171
  t228 := Try.underlying182
  a228 := Try.isAgg182
  z228 := Try.sizeOf182
  v228 := Try.zeroValue182
  t229 := Try.underlying183
  a229 := Try.isAgg183
  z229 := Try.sizeOf183
  v229 := Try.zeroValue183
end Go.Proofs.Ytejpklajfcngbaa.En
end
section
namespace Go.Proofs.Ytejpklajfcngbaa.En
open Go.RowKit Go.Shelf Go.Sort
set_option linter.unusedSimpArgs false
set_option linter.unusedVariables false
def sorted (xs : List Int) : List Int := xs.mergeSort fun x y => decide (x ≤ y)
@[simp] theorem sorted_len (xs : List Int) : (sorted xs).length = xs.length := by simp [sorted]
theorem ints_row {xs : List Int} {j : Nat} {row : List AV} (h : (ints xs)[j]? = some row) : ∃ x, xs[j]? = some x ∧ row = [.v (.int .i64 x)] := by
  rw [ints_get] at h
  simp only [Option.map_eq_some_iff] at h
  obtain ⟨x, h1, h2⟩ := h
  exact ⟨x, h1, h2.symm⟩
theorem blk_sorted {w w' : World} {S : Nat → Prop} {Ow : Owners} {L : Names} {n : Nat} {t : TypeId} {xs ys : List Int} {b o cap : Nat} (hl : ys.length = xs.length) (hB : BlkRep w S Ow L n ⟨t, 1, ints xs⟩ (some (b, o, cap, false)))
    (hh : ∀ cs fr, w.heap[b]? = some (.cells cs t fr) → w'.heap[b]? = some (.cells (putCells (Value.int .i64) o ys.toArray cs) t fr)) : BlkRep w' S Ow L n ⟨t, 1, ints ys⟩ (some (b, o, cap, false)) := by
  obtain ⟨hO, cs, us, hc, hs, hle, hrow, hcell, hrep⟩ := hB
  rw [objOf_cells] at hc
  simp only [ints_len, Nat.mul_one] at hs hle hrow hcell hrep
  refine ⟨hO, putCells (Value.int .i64) o ys.toArray cs, fun j _ => .int .i64 (ys.getD j 0), hh _ _ hc, by simp [putCells, hs], by simp only [ints_len]; omega, ?_, ?_, ?_⟩
  · intro j row hj
    obtain ⟨x, _, rfl⟩ := ints_row hj
    rfl
  · intro j row i x hj hi
    obtain ⟨y, hy, rfl⟩ := ints_row hj
    have hlt := (List.getElem?_eq_some_iff.1 hy).1
    have hi0 : i = 0 := by
      have := (List.getElem?_eq_some_iff.1 hi).1
      simp at this; exact this
    subst hi0
    have hlt2 : o + j < cs.size := by omega
    simp only [Nat.mul_one, Nat.add_zero, putCells, Array.getElem?_mapIdx, Array.getElem?_eq_getElem hlt2, Option.map_some, Option.some.injEq, List.size_toArray]
    rw [if_pos ⟨by omega, by omega⟩, show o + j - o = j by omega]
    simp [List.getD_eq_getElem?_getD, hlt]
  · intro j row i x hj hi
    obtain ⟨y, hy, rfl⟩ := ints_row hj
    have hi0 : i = 0 := by
      have := (List.getElem?_eq_some_iff.1 hi).1
      simp at this; exact this
    subst hi0
    simp only [List.getElem?_cons_zero, Option.some.injEq] at hi
    subst hi
    dsimp only
    rw [show ys.getD j 0 = y by rw [List.getD_eq_getElem?_getD, hy]; rfl]
    exact .v _ rfl
theorem sortInts (xs : List Int) (hx : xs.length < 4611686018427387904) : Fn Try.prog 71 1 [.own 0 1 0 xs.length] [(0, ⟨3, 1, ints xs⟩)] (.tu []) 1 [(0, ⟨3, 1, ints (sorted xs)⟩)] := by
  unfold Fn
  refine ⟨⟨_, Try.func71, by kernel_rfl, by kernel_rfl⟩, fun W X S Ow L us hR hl hrep => ?_⟩
  obtain ⟨u, rfl⟩ : ∃ u, us = [u] := by
    match us, hl with
    | [u], _ => exact ⟨u, rfl⟩
  have hu := hrep 0 _ u rfl rfl
  have same : xs.length = 0 → (Calls Try.prog 71 [u].toArray W fun e w' => e = Ending.returned (Value.tuple #[]) ∧ w' = W) → Calls Try.prog 71 [u].toArray W fun e w' => ∃ v, e = .returned v ∧ ∃ S' Ow' L', RelX ⟨W, X, S, ⟨0, 1⟩, fixOf 1 L⟩ ⟨[], [(0, ⟨3, 1, ints (sorted xs)⟩)], 1⟩ a0 w' S' Ow' L' ∧ Rep w' S' Ow' L' [0] (.tu []) v := by
    intro h0 hc cs
    obtain ⟨e, w', fr, ⟨rfl, rfl⟩, rest⟩ := hc cs
    have hx0 : xs = [] := List.length_eq_zero_iff.1 h0
    subst hx0
    rw [show sorted [] = [] by simp [sorted]]
    exact ⟨_, _, fr, ⟨_, rfl, S, Ow, L, hR, .tu [] [] rfl (fun i x u hx hu => by simp at hx)⟩, rest⟩
  have hn : ∀ (p : Option Addr) (cap : Nat), Calls Try.prog 71 #[.slice p 0 cap] W fun e w' => e = Ending.returned (Value.tuple #[]) ∧ w' = W := fun p cap => Any.slices_Sort_int_none sort189 p cap W
  rcases own_inv hu with ⟨b, o, cap, hL, hle, rfl⟩ | ⟨b, o, cap, ad, hL, hoff, hlen, rfl⟩ | ⟨hL, _, hlen, A, rfl⟩ | hL
  · obtain ⟨loc, hl0, hB⟩ := hR.blk 0 _ rfl
    rw [hL] at hl0
    cases hl0
    have hB' := hB
    obtain ⟨hO, cs, us, hc, hs, hle', hrow, hcell, hrep'⟩ := hB'
    rw [objOf_cells] at hc
    simp only [ints_len, Nat.mul_one] at hs hle'
    have hblk : b < W.heap.size := (Array.getElem?_eq_some_iff.1 hc).1
    have hH : Go.Sort.Holds (Value.int .i64) W b o xs.toArray := by
      intro j hj
      have hj' : j < xs.length := by simpa using hj
      have hxj : (ints xs)[j]? = some [.v (.int .i64 xs[j])] := by simp [hj']
      have h1 := hcell j _ 0 _ hxj rfl
      have h2 := hrep' j _ 0 _ hxj rfl
      have h3 : us j 0 = .int .i64 xs[j] := by clear h1; generalize us j 0 = q at h2 ⊢; cases h2; rfl
      simp only [Nat.mul_one, Nat.add_zero] at h1
      refine ⟨?_, ?_⟩
      · simp only [World.cell?, hc, Option.isSome_none, Bool.false_eq_true, if_false, h1, h3]
        simp [hj']
      · simp [World.frozen?, hc]
    have hcall := Any.slices_Sort_int sort189 b o cap xs W hH hblk hx
    intro cs'
    obtain ⟨e, w', fr, ⟨rfl, n, os, rfl⟩, rest⟩ := hcall cs'
    refine ⟨_, Go.Sort.grow (putRow (Value.int .i64) (Go.Sort.ahead W n) b o (sorted xs).toArray) os, fr, ⟨_, rfl, S, Ow, L, ?_, .tu [] [] rfl (fun i x u hx hu => by simp at hx)⟩, ?_⟩
    · have h1 := hR.drawn (w' := Go.Sort.ahead W n) rfl rfl rfl rfl
      have h2 := h1.write 0 _ ⟨3, 1, ints (sorted xs)⟩ b o cap hL rfl (putRow (Value.int .i64) (Go.Sort.ahead W n) b o (sorted xs).toArray) rfl rfl rfl (by simp [putRow, mapBlock]) (fun c hcb => by simp [putRow, mapBlock, Array.getElem?_modify, Ne.symm hcb])
        (fun hB1 _ => blk_sorted (by simp) hB1 (fun cs2 fr2 h2 => by have h3 : W.heap[b]? = _ := h2; simp [putRow, mapBlock, Array.getElem?_modify, h3, onCells]))
      refine h2.grown ⟨⟨rfl, rfl, rfl, by simp [Go.Sort.grow], fun k hk => ?_⟩, Nat.le_refl _⟩
      exact Array.getElem?_append_left hk
    · simp only [Nat.add_zero, Nat.mul_one, Nat.sub_zero]
      exact rest
  · exact same (by omega) (by have := hn (some ad) 0; simpa [hlen] using this)
  · exact same (by omega) (by have := hn A 0; simpa [hlen] using this)
  · obtain ⟨loc, hl0, hB⟩ := hR.blk 0 _ rfl
    rw [hL] at hl0
    cases hl0
end Go.Proofs.Ytejpklajfcngbaa.En
end
section
namespace Go.Proofs.Ytejpklajfcngbaa.En
open Go.RowKit Go.Shelf
set_option linter.unusedVariables false
def compact20_ren : Go.Shelf.Ren := ⟨fun | 20 => 100 | n => n, fun | 22 => 26 | 3 => 3 | 4 => 4 | 0 => 0 | n => n, fun n => n⟩
theorem compact20 : Go.Proofs.Lays2.n20 Try.prog compact20_ren where
  mixed := by kernel_rfl
  f20 := Try.func100.trans (congrArg some (by kernel_rfl))
  t0 := Try.underlying0
  a0 := Try.isAgg0
  z0 := Try.sizeOf0
  v0 := Try.zeroValue0
  t3 := Try.underlying3
  a3 := Try.isAgg3
  z3 := Try.sizeOf3
  v3 := Try.zeroValue3
  t4 := Try.underlying4
  a4 := Try.isAgg4
  z4 := Try.sizeOf4
  v4 := Try.zeroValue4
  t22 := Try.underlying26
  a22 := Try.isAgg26
  z22 := Try.sizeOf26
  v22 := Try.zeroValue26
  i3 := by kernel_rfl
end Go.Proofs.Ytejpklajfcngbaa.En
end
section
namespace Go.Proofs.Ytejpklajfcngbaa.En
open Go.RowKit Go.Shelf Go.Sort
set_option linter.unusedSimpArgs false
set_option linter.unusedVariables false
def compacted (xs : List Int) : List Int := Go.Lib.compact xs
theorem compacted_len (xs : List Int) : (compacted xs).length ≤ xs.length := by
  unfold compacted Go.Lib.compact Go.Lib.compactUpTo
  rw [List.length_map]
  exact Nat.le_trans (List.length_filter_le _ _) (by simp)
theorem blk_prefix {w : World} {S : Nat → Prop} {Ow : Owners} {L : Names} {n : Nat} {t : TypeId} {xs ys : List Int} {b o cap : Nat} (hl : ys.length ≤ xs.length) (hp : ∀ j, j < ys.length → ys[j]? = xs[j]?) (hB : BlkRep w S Ow L n ⟨t, 1, ints xs⟩ (some (b, o, cap, false))) : BlkRep w S Ow L n ⟨t, 1, ints ys⟩ (some (b, o, cap, false)) := by
  obtain ⟨hO, cs, us, hc, hs, hle, hrow, hcell, hrep⟩ := hB
  have up : ∀ (j : Nat) (row : List AV), (ints ys)[j]? = some row → (ints xs)[j]? = some row := by
    intro j row hj
    obtain ⟨x, hx, rfl⟩ := ints_row hj
    rw [ints_get, ← hp j (List.getElem?_eq_some_iff.1 hx).1, hx]; rfl
  refine ⟨hO, cs, us, hc, hs, ?_, fun j row hj => hrow j row (up j row hj), fun j row i x hj hi => hcell j row i x (up j row hj) hi, fun j row i x hj hi => hrep j row i x (up j row hj) hi⟩
  have : (ints xs).length ≤ cap := hle
  simp only [ints_len] at this ⊢; omega
theorem put_rel {W : World} {S : Nat → Prop} {Ow : Owners} {L : Names} {t : TypeId} {xs ys zs : List Int} {b o cap : Nat} {C : Ctx} (hR : RelX C ⟨[], [(0, ⟨t, 1, ints xs⟩)], 1⟩ a0 W S Ow L) (hL : L 0 = .at (some (b, o, cap, false))) (hz : zs.length = xs.length) (hy : ys.length ≤ zs.length) (hp : ∀ j, j < ys.length → ys[j]? = zs[j]?) (n : Nat) :
    RelX C ⟨[], [(0, ⟨t, 1, ints ys⟩)], 1⟩ a0 (putRow (Value.int .i64) (Go.Sort.ahead W n) b o zs.toArray) S Ow L := by
  have h1 := hR.drawn (w' := Go.Sort.ahead W n) rfl rfl rfl rfl
  exact h1.write 0 _ ⟨t, 1, ints ys⟩ b o cap hL rfl (putRow (Value.int .i64) (Go.Sort.ahead W n) b o zs.toArray) rfl rfl rfl (by simp [putRow, mapBlock]) (fun c hcb => by simp [putRow, mapBlock, Array.getElem?_modify, Ne.symm hcb])
    (fun hB1 _ => blk_prefix hy hp (blk_sorted hz hB1 (fun cs2 fr2 h2 => by have h3 : W.heap[b]? = _ := h2; simp [putRow, mapBlock, Array.getElem?_modify, h3, onCells])))
set_option maxHeartbeats 1000000
theorem compactInts (xs : List Int) (hx : xs.length < 4611686018427387904) : Fn Try.prog 100 1 [.own 0 1 0 xs.length] [(0, ⟨3, 1, ints xs⟩)] (.own 0 1 0 (compacted xs).length) 1 [(0, ⟨3, 1, ints (compacted xs)⟩)] := by
  have hcl := compacted_len xs
  unfold Fn
  refine ⟨⟨_, Try.func100, by kernel_rfl, by kernel_rfl⟩, fun W X S Ow L us hR hl hrep => ?_⟩
  obtain ⟨u, rfl⟩ : ∃ u, us = [u] := by
    match us, hl with
    | [u], _ => exact ⟨u, rfl⟩
  have hu := hrep 0 _ u rfl rfl
  have same : xs.length = 0 → (Calls Try.prog 100 [u].toArray W fun e w' => e = Ending.returned u ∧ w' = W) → Calls Try.prog 100 [u].toArray W fun e w' => ∃ v, e = .returned v ∧ ∃ S' Ow' L', RelX ⟨W, X, S, ⟨0, 1⟩, fixOf 1 L⟩ ⟨[], [(0, ⟨3, 1, ints (compacted xs)⟩)], 1⟩ a0 w' S' Ow' L' ∧ Rep w' S' Ow' L' [0] (.own 0 1 0 (compacted xs).length) v := by
    intro h0 hc cs
    obtain ⟨e, w', fr, ⟨rfl, rfl⟩, rest⟩ := hc cs
    have hx0 : xs = [] := List.length_eq_zero_iff.1 h0
    subst hx0
    rw [show compacted [] = [] from rfl]
    exact ⟨_, _, fr, ⟨_, rfl, S, Ow, L, hR, hu⟩, rest⟩
  have hn : ∀ (p : Option Addr) (cap : Nat), Calls Try.prog 100 #[.slice p 0 cap] W fun e w' => e = Ending.returned (.slice p 0 cap) ∧ w' = W := fun p cap => Any.slices_Compact_int_empty compact20 p cap W
  rcases own_inv hu with ⟨b, o, cap, hL, hle, rfl⟩ | ⟨b, o, cap, ad, hL, hoff, hlen, rfl⟩ | ⟨hL, _, hlen, A, rfl⟩ | hL
  · obtain ⟨loc, hl0, hB⟩ := hR.blk 0 _ rfl
    rw [hL] at hl0
    cases hl0
    have hB' := hB
    obtain ⟨hO, cs, us, hc, hs, hle', hrow, hcell, hrep'⟩ := hB'
    rw [objOf_cells] at hc
    simp only [ints_len, Nat.mul_one] at hs hle'
    have hblk : b < W.heap.size := (Array.getElem?_eq_some_iff.1 hc).1
    have hH : Go.Sort.Holds (Value.int .i64) W b o xs.toArray := by
      intro j hj
      have hj' : j < xs.length := by simpa using hj
      have hxj : (ints xs)[j]? = some [.v (.int .i64 xs[j])] := by simp [hj']
      have h1 := hcell j _ 0 _ hxj rfl
      have h2 := hrep' j _ 0 _ hxj rfl
      have h3 : us j 0 = .int .i64 xs[j] := by clear h1; generalize us j 0 = q at h2 ⊢; cases h2; rfl
      simp only [Nat.mul_one, Nat.add_zero] at h1
      refine ⟨?_, ?_⟩
      · simp only [World.cell?, hc, Option.isSome_none, Bool.false_eq_true, if_false, h1, h3]
        simp [hj']
      · simp [World.frozen?, hc]
    have hcall := Any.slices_Compact_int compact20 b o cap xs W hH (by omega) (by omega)
    intro cs'
    obtain ⟨e, w', fr, ⟨he, n, hw⟩, rest⟩ := hcall cs'
    have he' : e = Ending.returned (.slice (some ⟨b, o, none⟩) (compacted xs).length cap) := he
    have hw' : w' = putRow (Value.int .i64) (Go.Sort.ahead W n) b o (compacted xs ++ List.replicate (xs.length - (compacted xs).length) 0).toArray := hw
    clear he hw
    have hlen2 : (compacted xs ++ List.replicate (xs.length - (compacted xs).length) 0).length = xs.length := by rw [List.length_append, List.length_replicate]; omega
    have hpre : ∀ j, j < (compacted xs).length → (compacted xs)[j]? = (compacted xs ++ List.replicate (xs.length - (compacted xs).length) 0)[j]? := fun j hj => (List.getElem?_append_left hj).symm
    generalize compacted xs ++ List.replicate (xs.length - (compacted xs).length) 0 = zs at hw' hlen2 hpre
    generalize compacted xs = ys at he' hpre hcl ⊢
    subst he' hw'
    have h4 := put_rel hR hL hlen2 (by omega) hpre n
    have h5 := Rep.own (w := putRow (Value.int .i64) (Go.Sort.ahead W n) b o zs.toArray) (S := S) (Ow := Ow) (L := L) (p := [0]) 0 1 0 ys.length b o cap hL (by omega)
    simp only [Nat.add_zero, Nat.mul_one, Nat.sub_zero] at h5 ⊢
    exact ⟨_, _, fr, ⟨_, rfl, S, Ow, L, h4, h5⟩, rest⟩
  · exact same (by omega) (by have := hn (some ad) 0; simpa [hlen] using this)
  · exact same (by omega) (by have := hn A 0; simpa [hlen] using this)
  · obtain ⟨loc, hl0, hB⟩ := hR.blk 0 _ rfl
    rw [hL] at hl0
    cases hl0
end Go.Proofs.Ytejpklajfcngbaa.En
end
section
namespace Go.Proofs.Ytejpklajfcngbaa.En
open Go.RowKit
set_option linter.unusedSimpArgs false
set_option linter.unusedVariables false
def putL : List Int → Int → List Int
  | [], n => [n]
  | x :: xs, n => if x < n then x :: putL xs n else if x = n then x :: xs else n :: x :: xs
theorem putL_mem (n z : Int) : ∀ l : List Int, z ∈ putL l n ↔ z = n ∨ z ∈ l
  | [] => by simp [putL]
  | x :: xs => by
    have ih := putL_mem n z xs
    unfold putL
    split
    · simp only [List.mem_cons, ih]
      constructor
      · rintro (h | h | h) <;> simp [h]
      · rintro (h | h | h) <;> simp [h]
    · split
      · rename_i h; subst h
        simp only [List.mem_cons]
        constructor
        · intro h; exact .inr h
        · rintro (h | h)
          · exact .inl h
          · exact h
      · simp only [List.mem_cons]
theorem putL_incr (n : Int) : ∀ l : List Int, l.Pairwise (· < ·) → (putL l n).Pairwise (· < ·)
  | [], _ => by simp [putL]
  | x :: xs, h => by
    have ih := putL_incr n xs (List.pairwise_cons.1 h).2
    have hx := (List.pairwise_cons.1 h).1
    unfold putL
    split
    · rename_i hl
      refine List.pairwise_cons.2 ⟨fun z hz => ?_, ih⟩
      rcases (putL_mem n z xs).1 hz with e | e
      · omega
      · exact hx z e
    · split
      · exact h
      · rename_i h1 h2
        refine List.pairwise_cons.2 ⟨fun z hz => ?_, h⟩
        rcases List.mem_cons.1 hz with e | e
        · omega
        · have := hx z e; omega
theorem incr_ext : ∀ {a b : List Int}, a.Pairwise (· < ·) → b.Pairwise (· < ·) → (∀ z, z ∈ a ↔ z ∈ b) → a = b
  | [], [], _, _, _ => rfl
  | [], y :: b, _, _, h => by have := (h y).2 (by simp); cases this
  | x :: a, [], _, _, h => by have := (h x).1 (by simp); cases this
  | x :: a, y :: b, ha, hb, h => by
    have ha1 := (List.pairwise_cons.1 ha).1
    have hb1 := (List.pairwise_cons.1 hb).1
    have hxy : x = y := by
      rcases List.mem_cons.1 ((h x).1 (by simp)) with e | e
      · exact e
      · have h1 := hb1 x e
        rcases List.mem_cons.1 ((h y).2 (by simp)) with e2 | e2
        · exact e2.symm
        · have h2 := ha1 y e2; omega
    subst hxy
    rw [incr_ext (List.pairwise_cons.1 ha).2 (List.pairwise_cons.1 hb).2 fun z => ?_]
    constructor
    · intro hz
      rcases List.mem_cons.1 ((h z).1 (List.mem_cons_of_mem _ hz)) with e | e
      · have := ha1 z hz; omega
      · exact e
    · intro hz
      rcases List.mem_cons.1 ((h z).2 (List.mem_cons_of_mem _ hz)) with e | e
      · have := hb1 z hz; omega
      · exact e
theorem foldl_put : ∀ (xs l : List Int), l.Pairwise (· < ·) → (xs.foldl putL l).Pairwise (· < ·) ∧ ∀ z, z ∈ xs.foldl putL l ↔ z ∈ l ∨ z ∈ xs
  | [], l, h => ⟨h, fun z => by simp⟩
  | x :: xs, l, h => by
    obtain ⟨h1, h2⟩ := foldl_put xs (putL l x) (putL_incr x l h)
    refine ⟨h1, fun z => ?_⟩
    rw [List.foldl_cons, h2 z, putL_mem, List.mem_cons]
    constructor
    · rintro ((h | h) | h) <;> simp [h]
    · rintro (h | h | h) <;> simp [h]
theorem upTo_incr (d : Array Int) (hd : ∀ i j, i ≤ j → j < d.size → d[i]! ≤ d[j]!) : ∀ m, m ≤ d.size → (Go.Lib.compactUpTo d m).Pairwise (· < ·) ∧ (∀ z, z ∈ Go.Lib.compactUpTo d m ↔ ∃ j, j < m ∧ d[j]! = z)
  | 0, _ => ⟨by simp [Go.Lib.compactUpTo], fun z => by simp [Go.Lib.compactUpTo]⟩
  | m + 1, hm => by
    obtain ⟨h1, h2⟩ := upTo_incr d hd m (by omega)
    rw [Go.Lib.compactUpTo_succ]
    by_cases hk : Go.Lib.keeps d m = true
    · rw [if_pos hk]
      refine ⟨List.pairwise_append.2 ⟨h1, by simp, fun z hz y hy => ?_⟩, fun z => ?_⟩
      · obtain ⟨j, hj, rfl⟩ := (h2 z).1 hz
        simp only [List.mem_singleton] at hy
        subst hy
        have hne : d[m]! ≠ d[m - 1]! := by
          simp only [Go.Lib.keeps, decide_eq_true_eq] at hk
          rcases hk with e | e
          · omega
          · exact e
        have a1 := hd j (m - 1) (by omega) (by omega)
        have a2 := hd (m - 1) m (by omega) (by omega)
        omega
      · rw [List.mem_append, h2 z, List.mem_singleton]
        constructor
        · rintro (⟨j, hj, e⟩ | e)
          · exact ⟨j, by omega, e⟩
          · exact ⟨m, by omega, e.symm⟩
        · rintro ⟨j, hj, e⟩
          by_cases hjm : j = m
          · subst hjm; exact .inr e.symm
          · exact .inl ⟨j, by omega, e⟩
    · rw [if_neg hk, List.append_nil]
      refine ⟨h1, fun z => ?_⟩
      rw [h2 z]
      have hme : m ≠ 0 ∧ d[m]! = d[m - 1]! := by
        simp only [Go.Lib.keeps, decide_eq_true_eq] at hk
        refine ⟨fun e => hk (.inl e), ?_⟩
        by_cases e : d[m]! = d[m - 1]!
        · exact e
        · exact absurd (.inr e) hk
      constructor
      · rintro ⟨j, hj, e⟩
        exact ⟨j, by omega, e⟩
      · rintro ⟨j, hj, e⟩
        by_cases hjm : j = m
        · subst hjm; exact ⟨j - 1, by omega, by rw [← hme.2, e]⟩
        · exact ⟨j, by omega, e⟩
theorem bangI (l : List Int) (i : Nat) (h : i < l.length) : l.toArray[i]! = l[i] := by
  rw [getElem!_pos _ i (by simpa using h)]; simp
theorem sorted_le (xs : List Int) (i j : Nat) (hij : i ≤ j) (hj : j < (sorted xs).toArray.size) : (sorted xs).toArray[i]! ≤ (sorted xs).toArray[j]! := by
  have hp : (sorted xs).Pairwise (fun a b => decide (a ≤ b) = true) := List.pairwise_mergeSort (fun a b c h1 h2 => by simp at *; omega) (fun a b => by simp; omega) xs
  have hj' : j < (sorted xs).length := by simpa using hj
  have hi' : i < (sorted xs).length := by omega
  have e1 : (sorted xs).toArray[i]! = (sorted xs)[i] := bangI _ _ hi'
  have e2 : (sorted xs).toArray[j]! = (sorted xs)[j] := bangI _ _ hj'
  rw [e1, e2]
  by_cases h : i = j
  · subst h; omega
  · have := List.pairwise_iff_getElem.1 hp i j hi' hj' (by omega)
    simpa using this
theorem compacted_sorted (xs : List Int) : compacted (sorted xs) = xs.foldl putL [] := by
  obtain ⟨h1, h2⟩ := upTo_incr (sorted xs).toArray (sorted_le xs) (sorted xs).length (by simp)
  obtain ⟨h3, h4⟩ := foldl_put xs [] List.Pairwise.nil
  refine incr_ext h1 h3 fun z => ?_
  rw [h4 z]
  refine (h2 z).trans ?_
  have hm : z ∈ sorted xs ↔ z ∈ xs := by simp [sorted, List.mem_mergeSort]
  constructor
  · rintro ⟨j, hj, e⟩
    refine .inr (hm.1 ?_)
    have : (sorted xs).toArray[j]! = (sorted xs)[j] := bangI _ _ hj
    rw [← e, this]
    exact List.getElem_mem hj
  · rintro (h | h)
    · cases h
    · obtain ⟨j, hj, e⟩ := List.mem_iff_getElem.1 (hm.2 h)
      exact ⟨j, hj, by rw [← e]; exact bangI _ _ hj⟩
end Go.Proofs.Ytejpklajfcngbaa.En
end
section
namespace Go.Proofs.Ytejpklajfcngbaa.En
open Go.RowKit
set_option linter.unusedSimpArgs false
set_option linter.unusedVariables false
set_option maxHeartbeats 4000000
theorem areRising (xs : List Int) (n : Int) (h0 : -1000000 ≤ n) (h1 : n ≤ 1000000) (hx : xs.length < 4611686018427387904) : Pure Try.prog 90 [.im 1 (ints xs), .v (.int .i64 n)] (.v (.bool (rising xs 0 (n - 1)))) := by
  refine Pure.mk (rs := [.tmp 4]) (nt := 33) Try.func90 (by kernel_rfl) rfl rfl rfl (by simp) ?_
  simp only [sl]
  have hn : wr64 (n - 1) = n - 1 := wr64_id (by omega) (by omega)
  refine wk0 _ ?_
  refine Holds.loop (ι := Nat) (fun i => ⟨[(0, .im 1 (ints xs)), (1, .v (.int .i64 n)), (7, .im 1 (ints xs)), (8, .v (.int .i64 xs.length)), (9, .v (.int .i64 i))], [], 0⟩) (fun i => i ≤ xs.length ∧ allB (risAt xs 0 (n - 1)) i = true) (fun i => xs.length - i) 0 ⟨Nat.zero_le _, rfl⟩ ?_ ?_
  · exact Cov.of id (by simp [ChkT, okr, okr1, lk, ren, ren1]) (by simp [ChkB])
  rintro i ⟨hi', hall⟩
  refine wk0 _ ?_
  refine Holds.cond rfl (fun hl => ?_) (fun hl => ?_)
  · have hlt : i < xs.length := by simpa using hl
    have hxi : xs[i]? = some xs[i] := List.getElem?_eq_getElem hlt
    have hd : xs.getD i 0 = xs[i] := by simp [hlt]
    have no : risAt xs 0 (n - 1) i = false → Out Try.prog [.tmp 4] (.v (.bool (rising xs 0 (n - 1)))) = Out Try.prog [.tmp 4] (.v (.bool false)) := fun h => by rw [rising, allB_no hlt h]
    refine wk (And.intro @hxi (@hn)) _ ?_
    refine GS.cc (implIn xs[i] 0 (n - 1)) rfl rfl rfl rfl (by simp [go_sem, List.take_of_length_le] <;> with_reducible rfl) rfl (by simp [go_sem, List.take_of_length_le]) ?_
    refine wk (@hxi) _ ?_
    refine GS.guard (t := 19) rfl (fun h => ?_) (fun h => ?_)
    · rw [no (by have h : inR xs[i] 0 (n - 1) = false := by simpa using h
                 rw [risAt, hd, h]; rfl)]
      refine wk0 _ ?_
      refine Holds.cond rfl (fun h => ?_) (fun h => ?_)
      · refine wk0 _ ?_
        refine Out.mk (xs := ?_) ?_ ?_ (by first | exact .inr rfl | exact .inl rfl)
        rotate_left
        · simp [go_sem, List.take_of_length_le] <;> with_reducible rfl
        exact .v _
      · cases h
    have h1 : inR xs[i] 0 (n - 1) = true := by simpa using h
    refine wk0 _ ?_
    have next : risAt xs 0 (n - 1) i = true → ∃ j, (j ≤ xs.length ∧ allB (risAt xs 0 (n - 1)) j = true) ∧ xs.length - j < xs.length - i ∧ j = i + 1 := fun h => ⟨i + 1, ⟨hlt, by unfold allB; rw [hall, h]; rfl⟩, by omega, rfl⟩
    refine GS.guard (t := 22) rfl (fun h => ?_) (fun h => ?_)
    · have h2 : 0 < i := by simpa using h
      have hw : wr64 ((i : Int) - 1) = ((i - 1 : Nat) : Int) := by rw [wr64_id (by omega) (by omega)]; omega
      have hxp : xs[i - 1]? = some xs[i - 1] := List.getElem?_eq_getElem (by omega)
      have hdp : xs.getD (i - 1) 0 = xs[i - 1] := by simp [show i - 1 < xs.length by omega]
      refine wk (And.intro @hw (@hxp)) _ ?_
      refine Holds.cond rfl (fun h => ?_) (fun h => ?_)
      · have h3 : xs[i] ≤ xs[i - 1] := by simpa using h
        rw [no (by simp only [risAt, hd, hdp, h1, Bool.true_and, Bool.or_eq_false_iff, decide_eq_false_iff_not]; omega)]
        refine wk0 _ ?_
        refine Out.mk (xs := ?_) ?_ ?_ (by first | exact .inr rfl | exact .inl rfl)
        rotate_left
        · simp [go_sem, List.take_of_length_le] <;> with_reducible rfl
        exact .v _
      · have h3 : ¬ xs[i] ≤ xs[i - 1] := by simpa using h
        obtain ⟨j, hj1, hj2, rfl⟩ := next (by simp only [risAt, hd, hdp, h1, Bool.true_and, Bool.or_eq_true, decide_eq_true_eq]; omega)
        refine wk0 _ ?_
        refine ⟨i + 1, hj1, hj2, ?_⟩
        rw [wr64_id (by omega) (by omega)]
        exact Cov.of id (by simp [ChkT, okr, okr1, lk, ren, ren1]) (by simp [ChkB])
    · have h2 : i = 0 := by have : ¬ 0 < i := by simpa using h
                            omega
      refine wk0 _ ?_
      refine Holds.cond rfl (fun h => ?_) (fun h => ?_)
      · cases h
      · obtain ⟨j, hj1, hj2, rfl⟩ := next (by rw [risAt, hd, h1]; simp [h2])
        refine wk0 _ ?_
        refine ⟨i + 1, hj1, hj2, ?_⟩
        rw [wr64_id (by omega) (by omega)]
        exact Cov.of id (by simp [ChkT, okr, okr1, lk, ren, ren1]) (by simp [ChkB])
  · have hle : i = xs.length := by
      have : ¬ i < xs.length := by simpa using hl
      omega
    subst hle
    rw [rising, hall]
    refine wk0 _ ?_
    refine Out.mk (xs := ?_) ?_ ?_ (by first | exact .inr rfl | exact .inl rfl)
    rotate_left
    · simp [go_sem, List.take_of_length_le] <;> with_reducible rfl
    exact .v _

def lessL : List Int → List Int → Bool
  | x :: xs, y :: ys => if x = y then lessL xs ys else decide (x < y)
  | _, _ => false
theorem l5Less (xs ys : List Int) (hx : xs.length < 4611686018427387904) (hxy : xs.length ≤ ys.length) : Pure Try.prog 93 [.im 1 (ints xs), .im 1 (ints ys)] (.v (.bool (lessL xs ys))) := by
  refine Pure.mk (rs := [.tmp 4]) (nt := 30) Try.func93 (by kernel_rfl) rfl rfl rfl (by simp) ?_
  simp only [sl]
  refine wkd0 _ ?_
  refine Holds.loop (ι := Nat) (fun i => ⟨[(0, .im 1 (ints xs)), (1, .im 1 (ints ys)), (7, .v (.int .i64 xs.length)), (8, .v (.int .i64 i))], [], 0⟩) (fun i => i ≤ xs.length ∧ lessL (xs.drop i) (ys.drop i) = lessL xs ys) (fun i => xs.length - i) 0 ⟨Nat.zero_le _, rfl⟩ ?_ ?_
  · exact Cov.of id (by simp [ChkT, okr, okr1, lk, ren, ren1]) (by simp [ChkB])
  rintro i ⟨hi, hless⟩
  refine wkd0 _ ?_
  refine Holds.cond rfl (fun hl => ?_) (fun hl => ?_)
  · have hlt : i < xs.length := by simpa using hl
    have hly : i < ys.length := by omega
    have hxi : xs[i]? = some xs[i] := List.getElem?_eq_getElem hlt
    have hyi : ys[i]? = some ys[i] := List.getElem?_eq_getElem hly
    rw [List.drop_eq_getElem_cons hlt, List.drop_eq_getElem_cons hly, lessL] at hless
    refine wkd (And.intro @hxi (@hyi)) _ ?_
    refine Holds.cond rfl (fun hl => ?_) (fun hl => ?_)
    · have hne : ¬ xs[i] = ys[i] := by simpa using hl
      rw [if_neg hne] at hless
      rw [← hless]
      refine wkd (And.intro @hxi (@hyi)) _ ?_
      refine Out.mk (xs := ?_) ?_ ?_ (by first | exact .inr rfl | exact .inl rfl)
      rotate_left
      · simp [go_sem, List.take_of_length_le] <;> with_reducible rfl
      exact .v _
    · have he : xs[i] = ys[i] := by simpa using hl
      rw [if_pos he] at hless
      refine wkd0 _ ?_
      refine ⟨i + 1, ⟨by omega, hless⟩, by omega, ?_⟩
      rw [wr64_id (by omega) (by omega)]
      exact Cov.of id (by simp [ChkT, okr, okr1, lk, ren, ren1]) (by simp [ChkB])
  · have hle : i = xs.length := by
      have : ¬ i < xs.length := by simpa using hl
      omega
    subst hle
    rw [List.drop_length, lessL] at hless
    · rw [← hless]
      refine wkd0 _ ?_
      refine Out.mk (xs := ?_) ?_ ?_ (by first | exact .inr rfl | exact .inl rfl)
      rotate_left
      · simp [go_sem, List.take_of_length_le] <;> with_reducible rfl
      exact .v _
    · intro x xs y ys h; cases h
theorem isNaN (n : Int) : Pure Try.prog 138 [.v (.int .i64 n)] (.v (.bool false)) := by
  refine Pure.mk (rs := [.tmp 2]) (nt := 6) Try.func138 (by kernel_rfl) rfl rfl rfl (by simp) ?_
  simp only [sl]
  refine wk0 _ ?_
  refine Out.mk (xs := ?_) ?_ ?_ (by first | exact .inr rfl | exact .inl rfl)
  rotate_left
  · simp [go_sem, List.take_of_length_le] <;> with_reducible rfl
  exact .v _
def cmp1 (x y : Int) : Int := if x < y then -1 else if x > y then 1 else 0
theorem cmpInt (x y : Int) : Pure Try.prog 110 [.v (.int .i64 x), .v (.int .i64 y)] (.v (.int .i64 (cmp1 x y))) := by
  refine Pure.mk (rs := [.tmp 4]) (nt := 20) Try.func110 (by kernel_rfl) rfl rfl rfl (by simp) ?_
  simp only [sl]
  refine wk0 _ ?_
  refine GS.cc (isNaN x) rfl rfl rfl rfl (by simp [go_sem, List.take_of_length_le] <;> with_reducible rfl) rfl (by simp [go_sem, List.take_of_length_le]) ?_
  refine wk0 _ ?_
  refine GS.cc (isNaN y) rfl rfl rfl rfl (by simp [go_sem, List.take_of_length_le] <;> with_reducible rfl) rfl (by simp [go_sem, List.take_of_length_le]) ?_
  refine wk0 _ ?_
  refine Holds.cond rfl (fun h => by cases h) (fun _ => ?_)
  refine wk0 _ ?_
  refine Holds.cond rfl (fun h => by cases h) (fun _ => ?_)
  refine wk0 _ ?_
  refine Holds.cond rfl (fun h => ?_) (fun h => ?_)
  · have h : x < y := by simpa using h
    rw [cmp1, if_pos h]
    refine wk0 _ ?_
    refine Out.mk (xs := ?_) ?_ ?_ (by first | exact .inr rfl | exact .inl rfl)
    rotate_left
    · simp [go_sem, List.take_of_length_le] <;> with_reducible rfl
    exact .v _
  have h1 : ¬ x < y := by simpa using h
  refine wk0 _ ?_
  refine Holds.cond rfl (fun h => ?_) (fun h => ?_)
  · have h : y < x := by simpa using h
    rw [cmp1, if_neg h1, if_pos h]
    refine wk0 _ ?_
    refine Out.mk (xs := ?_) ?_ ?_ (by first | exact .inr rfl | exact .inl rfl)
    rotate_left
    · simp [go_sem, List.take_of_length_le] <;> with_reducible rfl
    exact .v _
  · have h : ¬ y < x := by simpa using h
    rw [cmp1, if_neg h1, if_neg h]
    refine wk0 _ ?_
    refine Out.mk (xs := ?_) ?_ ?_ (by first | exact .inr rfl | exact .inl rfl)
    rotate_left
    · simp [go_sem, List.take_of_length_le] <;> with_reducible rfl
    exact .v _
def cmpL : List Int → List Int → Int
  | [], [] => 0
  | [], _ :: _ => -1
  | _ :: _, [] => 1
  | x :: xs, y :: ys => if cmp1 x y ≠ 0 then cmp1 x y else cmpL xs ys
end Go.Proofs.Ytejpklajfcngbaa.En
end
section
namespace Go.Proofs.Ytejpklajfcngbaa.En
open Go.RowKit
set_option linter.unusedSimpArgs false
set_option linter.unusedVariables false
set_option maxHeartbeats 8000000
theorem compareInts (xs ys : List Int) (hx : xs.length < 4611686018427387904) : Pure Try.prog 70 [.im 1 (ints xs), .im 1 (ints ys)] (.v (.int .i64 (cmpL xs ys))) := by
  refine Pure.mk (rs := [.tmp 4]) (nt := 36) Try.func70 (by kernel_rfl) rfl rfl rfl (by simp) ?_
  simp only [sl]
  refine wk0 _ ?_
  refine Holds.loop (ι := Nat) (fun i => ⟨[(0, .im 1 (ints xs)), (1, .im 1 (ints ys)), (9, .im 1 (ints xs)), (10, .v (.int .i64 xs.length)), (11, .v (.int .i64 i))], [], 0⟩) (fun i => i ≤ xs.length ∧ i ≤ ys.length ∧ cmpL (xs.drop i) (ys.drop i) = cmpL xs ys) (fun i => xs.length - i) 0 ⟨Nat.zero_le _, Nat.zero_le _, rfl⟩ ?_ ?_
  · exact Cov.of id (by simp [ChkT, okr, okr1, lk, ren, ren1]) (by simp [ChkB])
  rintro i ⟨hi, hiy, hc⟩
  refine wk0 _ ?_
  refine Holds.cond rfl (fun hl => ?_) (fun hl => ?_)
  · have hlt : i < xs.length := by simpa using hl
    have hxi : xs[i]? = some xs[i] := List.getElem?_eq_getElem hlt
    refine wk (@hxi) _ ?_
    refine Holds.cond rfl (fun h => ?_) (fun h => ?_)
    · have h : ys.length ≤ i := by simpa using h
      rw [List.drop_eq_getElem_cons hlt, List.drop_eq_nil_of_le h, cmpL] at hc
      rw [← hc]
      refine wk0 _ ?_
      refine Out.mk (xs := ?_) ?_ ?_ (by first | exact .inr rfl | exact .inl rfl)
      rotate_left
      · simp [go_sem, List.take_of_length_le] <;> with_reducible rfl
      exact .v _
    have hly : i < ys.length := by
      have : ¬ ys.length ≤ i := by simpa using h
      omega
    have hyi : ys[i]? = some ys[i] := List.getElem?_eq_getElem hly
    rw [List.drop_eq_getElem_cons hlt, List.drop_eq_getElem_cons hly, cmpL] at hc
    refine wk (@hyi) _ ?_
    refine GS.cc (cmpInt xs[i] ys[i]) rfl rfl rfl rfl (by simp [go_sem, List.take_of_length_le] <;> with_reducible rfl) rfl (by simp [go_sem, List.take_of_length_le]) ?_
    refine wk0 _ ?_
    refine Holds.cond rfl (fun h => ?_) (fun h => ?_)
    · have h : cmp1 xs[i] ys[i] ≠ 0 := by simpa using h
      rw [if_pos h] at hc
      rw [← hc]
      refine wk0 _ ?_
      refine Out.mk (xs := ?_) ?_ ?_ (by first | exact .inr rfl | exact .inl rfl)
      rotate_left
      · simp [go_sem, List.take_of_length_le] <;> with_reducible rfl
      exact .v _
    · have h : ¬ cmp1 xs[i] ys[i] ≠ 0 := by simpa using h
      rw [if_neg h] at hc
      refine wk0 _ ?_
      refine ⟨i + 1, ⟨by omega, by omega, hc⟩, by omega, ?_⟩
      rw [wr64_id (by omega) (by omega)]
      exact Cov.of id (by simp [ChkT, okr, okr1, lk, ren, ren1]) (by simp [ChkB])
  · have hle : i = xs.length := by
      have : ¬ i < xs.length := by simpa using hl
      omega
    subst hle
    rw [List.drop_length] at hc
    refine wk0 _ ?_
    refine Holds.cond rfl (fun h => ?_) (fun h => ?_)
    · have h : xs.length < ys.length := by simpa using h
      rw [List.drop_eq_getElem_cons h, cmpL] at hc
      rw [← hc]
      refine wk0 _ ?_
      refine Out.mk (xs := ?_) ?_ ?_ (by first | exact .inr rfl | exact .inl rfl)
      rotate_left
      · simp [go_sem, List.take_of_length_le] <;> with_reducible rfl
      exact .v _
    · have h : ¬ xs.length < ys.length := by simpa using h
      rw [List.drop_eq_nil_of_le (by omega), cmpL] at hc
      rw [← hc]
      refine wk0 _ ?_
      refine Out.mk (xs := ?_) ?_ ?_ (by first | exact .inr rfl | exact .inl rfl)
      rotate_left
      · simp [go_sem, List.take_of_length_le] <;> with_reducible rfl
      exact .v _
theorem lessL_cmp : ∀ (xs ys : List Int), xs.length = ys.length → lessL xs ys = decide (cmpL xs ys < 0)
  | [], [], _ => rfl
  | x :: xs, y :: ys, h => by
    have ih := lessL_cmp xs ys (by simpa using h)
    unfold lessL cmpL cmp1
    by_cases h1 : x = y
    · subst h1; simp [ih]
    · by_cases h2 : x < y
      · simp [h1, h2]
      · have : y < x := by omega
        simp [h1, h2, this]
  | [], _ :: _, h => by cases h
  | _ :: _, [], h => by cases h
abbrev Mach := Int × Int × List (List Int) × List Int
def goodAt (m : Mach) (i : Nat) : Bool :=
  let r := m.2.2.1.getD i []
  decide (r.length = 3) && inR (r.getD 0 0) 0 (m.1 - 1) && inR (r.getD 1 0) 0 (m.2.1 - 1) && inR (r.getD 2 0) 0 (m.1 - 1) && (decide (i = 0) || lessL (m.2.2.1.getD (i - 1) []) r)
def goodM (m : Mach) : Bool := inR m.1 1 6 && inR m.2.1 1 4 && rising m.2.2.2 0 (m.1 - 1) && allB (goodAt m) m.2.2.1.length
theorem goodAt_len {m : Mach} {n i : Nat} (h : allB (goodAt m) n = true) (hi : i < n) : (m.2.2.1.getD i []).length = 3 := by
  cases e : goodAt m i with
  | true =>
    simp only [goodAt, Bool.and_eq_true, decide_eq_true_eq] at e
    exact e.1.1.1.1
  | false => rw [allB_no hi e] at h; cases h
end Go.Proofs.Ytejpklajfcngbaa.En
end
section
namespace Go.Proofs.Ytejpklajfcngbaa.En
open Go.RowKit
set_option linter.unusedSimpArgs false
set_option linter.unusedVariables false
set_option maxHeartbeats 8000000
theorem specGood (m : Mach) (hx : m.2.2.1.length < 4611686018427387904) (hs : ∀ e ∈ m.2.2.1, e.length < 4611686018427387904) (hy : m.2.2.2.length < 4611686018427387904) : Pure Try.prog 49 [machine m] (.v (.bool (goodM m))) := by
  refine Pure.mk (rs := [.tmp 2]) (nt := 81) Try.func49 (by kernel_rfl) rfl rfl rfl (by simp) ?_
  simp only [sl, machine]
  refine wkd0 _ ?_
  first | refine GS.cc (l1In m.1 1 6) rfl rfl rfl rfl (by simp [go_sem, List.take_of_length_le] <;> with_reducible rfl) rfl (by simp [go_sem, List.take_of_length_le]) ?_ | refine Gd.cc (l1In m.1 1 6) rfl rfl rfl rfl (by simp [go_sem, List.take_of_length_le] <;> with_reducible rfl) rfl (by simp [go_sem, List.take_of_length_le]) ?_
  refine wkd0 _ ?_
  refine GS.guard (t := 9) rfl (fun h => ?_) (fun h => ?_)
  · rw [show goodM m = false by have h : inR m.1 1 6 = false := (by simpa using h); rw [goodM, h]; rfl]
    refine wkd0 _ ?_
    refine Holds.cond rfl (fun h => ?_) (fun h => ?_)
    · refine wkd0 _ ?_
      refine Out.mk (xs := ?_) ?_ ?_ (by first | exact .inr rfl | exact .inl rfl)
      rotate_left
      · simp [go_sem, List.take_of_length_le] <;> with_reducible rfl
      exact .v _
    · cases h
  have hA : inR m.1 1 6 = true := by simpa using h
  have hA' : 1 ≤ m.1 ∧ m.1 ≤ 6 := by simpa [inR] using hA
  have hw : wr64 (m.1 - 1) = m.1 - 1 := wr64_id (by omega) (by omega)
  refine wkd0 _ ?_
  first | refine GS.cc (l1In m.2.1 1 4) rfl rfl rfl rfl (by simp [go_sem, List.take_of_length_le] <;> with_reducible rfl) rfl (by simp [go_sem, List.take_of_length_le]) ?_ | refine Gd.cc (l1In m.2.1 1 4) rfl rfl rfl rfl (by simp [go_sem, List.take_of_length_le] <;> with_reducible rfl) rfl (by simp [go_sem, List.take_of_length_le]) ?_
  refine wkd0 _ ?_
  refine GS.guard (t := 15) rfl (fun h => ?_) (fun h => ?_)
  · rw [show goodM m = false by have h : inR m.2.1 1 4 = false := (by simpa using h); rw [goodM, hA, h]; rfl]
    refine wkd0 _ ?_
    refine Holds.cond rfl (fun h => ?_) (fun h => ?_)
    · refine wkd0 _ ?_
      refine Out.mk (xs := ?_) ?_ ?_ (by first | exact .inr rfl | exact .inl rfl)
      rotate_left
      · simp [go_sem, List.take_of_length_le] <;> with_reducible rfl
      exact .v _
    · cases h
  have hB : inR m.2.1 1 4 = true := by simpa using h
  have hB' : 1 ≤ m.2.1 ∧ m.2.1 ≤ 4 := by simpa [inR] using hB
  have hw2 : wr64 (m.2.1 - 1) = m.2.1 - 1 := wr64_id (by omega) (by omega)
  refine wkd (@hw) _ ?_
  first | refine GS.cc (l1Rising m.2.2.2 0 (m.1 - 1) hy) rfl rfl rfl rfl (by simp [go_sem, List.take_of_length_le] <;> with_reducible rfl) rfl (by simp [go_sem, List.take_of_length_le]) ?_ | refine Gd.cc (l1Rising m.2.2.2 0 (m.1 - 1) hy) rfl rfl rfl rfl (by simp [go_sem, List.take_of_length_le] <;> with_reducible rfl) rfl (by simp [go_sem, List.take_of_length_le]) ?_
  refine wkd0 _ ?_
  refine Holds.cond rfl (fun h => ?_) (fun h => ?_)
  · rw [show goodM m = false by have h : rising m.2.2.2 0 (m.1 - 1) = false := (by simpa using h); rw [goodM, hA, hB, h]; rfl]
    refine wkd0 _ ?_
    refine Out.mk (xs := ?_) ?_ ?_ (by first | exact .inr rfl | exact .inl rfl)
    rotate_left
    · simp [go_sem, List.take_of_length_le] <;> with_reducible rfl
    exact .v _
  have hC : rising m.2.2.2 0 (m.1 - 1) = true := by simpa using h
  have hG : goodM m = allB (goodAt m) m.2.2.1.length := by rw [goodM, hA, hB, hC]; rfl
  rw [hG]
  refine wkd0 _ ?_
  refine Holds.loop (ι := Nat) (fun i => ⟨[(1, .pb 0 4 0 0), (25, .im 1 (intss m.2.2.1)), (26, .v (.int .i64 m.2.2.1.length)), (27, .v (.int .i64 i))], [(0, ⟨42, 4, [[.v (.int .i64 m.1), .v (.int .i64 m.2.1), .im 1 (intss m.2.2.1), .im 1 (ints m.2.2.2)]]⟩)], 1⟩) (fun i => i ≤ m.2.2.1.length ∧ allB (goodAt m) i = true) (fun i => m.2.2.1.length - i) 0 ⟨Nat.zero_le _, rfl⟩ ?_ ?_
  · exact Cov.of id (by simp [ChkT, okr, okr1, lk, ren, ren1]) (by simp [ChkB, lb, BlkC, nf])
  rintro i ⟨hi, hall⟩
  refine wkd0 _ ?_
  refine Holds.cond rfl (fun hl => ?_) (fun hl => ?_)
  · have hlt : i < m.2.2.1.length := by simpa using hl
    have hxi : m.2.2.1[i]? = some m.2.2.1[i] := List.getElem?_eq_getElem hlt
    have hd : m.2.2.1.getD i [] = m.2.2.1[i] := by simp [hlt]
    have no : goodAt m i = false → Out Try.prog [.tmp 2] (.v (.bool (allB (goodAt m) m.2.2.1.length))) = Out Try.prog [.tmp 2] (.v (.bool false)) := fun h => by rw [allB_no hlt h]
    have hlen := hs _ (List.getElem_mem hlt)
    have hgA : goodAt m i = (decide (m.2.2.1[i].length = 3) && inR (m.2.2.1[i].getD 0 0) 0 (m.1 - 1) && inR (m.2.2.1[i].getD 1 0) 0 (m.2.1 - 1) && inR (m.2.2.1[i].getD 2 0) 0 (m.1 - 1) && (decide (i = 0) || lessL (m.2.2.1.getD (i - 1) []) m.2.2.1[i])) := by simp only [goodAt, hd]
    generalize hr : m.2.2.1[i] = r at hxi hd hlen hgA
    refine wkd (And.intro @hxi (@intsC.eq_1)) _ ?_
    refine Gd.guard (t := 35) rfl (fun h => ?_) (fun h => ?_)
    · rw [no (by have h : ¬ r.length = 3 := (by simp at h; omega); rw [hgA]; simp [h])]
      refine wkd0 _ ?_
      refine Holds.cond rfl (fun h => ?_) (fun h => ?_)
      · refine wkd0 _ ?_
        refine Out.mk (xs := ?_) ?_ ?_ (by first | exact .inr rfl | exact .inl rfl)
        rotate_left
        · simp [go_sem, List.take_of_length_le] <;> with_reducible rfl
        exact .v _
      · cases h
    have h3 : r.length = 3 := by simp at h; omega
    obtain ⟨x, y, z, rfl⟩ : ∃ x y z, r = [x, y, z] := by
      match r, h3 with
      | [x, y, z], _ => exact ⟨x, y, z, rfl⟩
    simp only [List.getD_cons_zero, List.getD_cons_succ, List.length_cons, List.length_nil, decide_true, Bool.true_and] at hgA
    refine wkd (@hw) _ ?_
    first | refine GS.cc (l1In x 0 (m.1 - 1)) rfl rfl rfl rfl (by simp [go_sem, List.take_of_length_le] <;> with_reducible rfl) rfl (by simp [go_sem, List.take_of_length_le]) ?_ | refine Gd.cc (l1In x 0 (m.1 - 1)) rfl rfl rfl rfl (by simp [go_sem, List.take_of_length_le] <;> with_reducible rfl) rfl (by simp [go_sem, List.take_of_length_le]) ?_
    refine wkd0 _ ?_
    refine Gd.guard (t := 45) rfl (fun h => ?_) (fun h => ?_)
    · rw [no (by have h : inR x 0 (m.1 - 1) = false := (by simpa using h); rw [hgA, h]; rfl)]
      refine wkd0 _ ?_
      refine Holds.cond rfl (fun h => ?_) (fun h => ?_)
      · refine wkd0 _ ?_
        refine Out.mk (xs := ?_) ?_ ?_ (by first | exact .inr rfl | exact .inl rfl)
        rotate_left
        · simp [go_sem, List.take_of_length_le] <;> with_reducible rfl
        exact .v _
      · cases h
    have g1 : inR x 0 (m.1 - 1) = true := by simpa using h
    rw [g1] at hgA
    refine wkd (@hw2) _ ?_
    first | refine GS.cc (l1In y 0 (m.2.1 - 1)) rfl rfl rfl rfl (by simp [go_sem, List.take_of_length_le] <;> with_reducible rfl) rfl (by simp [go_sem, List.take_of_length_le]) ?_ | refine Gd.cc (l1In y 0 (m.2.1 - 1)) rfl rfl rfl rfl (by simp [go_sem, List.take_of_length_le] <;> with_reducible rfl) rfl (by simp [go_sem, List.take_of_length_le]) ?_
    refine wkd0 _ ?_
    refine Gd.guard (t := 55) rfl (fun h => ?_) (fun h => ?_)
    · rw [no (by have h : inR y 0 (m.2.1 - 1) = false := (by simpa using h); rw [hgA, h]; rfl)]
      refine wkd0 _ ?_
      refine Holds.cond rfl (fun h => ?_) (fun h => ?_)
      · refine wkd0 _ ?_
        refine Out.mk (xs := ?_) ?_ ?_ (by first | exact .inr rfl | exact .inl rfl)
        rotate_left
        · simp [go_sem, List.take_of_length_le] <;> with_reducible rfl
        exact .v _
      · cases h
    have g2 : inR y 0 (m.2.1 - 1) = true := by simpa using h
    rw [g2] at hgA
    refine wkd (@hw) _ ?_
    first | refine GS.cc (l1In z 0 (m.1 - 1)) rfl rfl rfl rfl (by simp [go_sem, List.take_of_length_le] <;> with_reducible rfl) rfl (by simp [go_sem, List.take_of_length_le]) ?_ | refine Gd.cc (l1In z 0 (m.1 - 1)) rfl rfl rfl rfl (by simp [go_sem, List.take_of_length_le] <;> with_reducible rfl) rfl (by simp [go_sem, List.take_of_length_le]) ?_
    refine wkd0 _ ?_
    refine Gd.guard (t := 65) rfl (fun h => ?_) (fun h => ?_)
    · rw [no (by have h : inR z 0 (m.1 - 1) = false := (by simpa using h); rw [hgA, h]; rfl)]
      refine wkd0 _ ?_
      refine Holds.cond rfl (fun h => ?_) (fun h => ?_)
      · refine wkd0 _ ?_
        refine Out.mk (xs := ?_) ?_ ?_ (by first | exact .inr rfl | exact .inl rfl)
        rotate_left
        · simp [go_sem, List.take_of_length_le] <;> with_reducible rfl
        exact .v _
      · cases h
    have g3 : inR z 0 (m.1 - 1) = true := by simpa using h
    rw [g3] at hgA
    simp only [Bool.true_and] at hgA
    refine wkd0 _ ?_
    refine Gd.guard (t := 68) rfl (fun h => ?_) (fun h => ?_)
    · have h2 : 0 < i := by simpa using h
      have hwi : wr64 ((i : Int) - 1) = ((i - 1 : Nat) : Int) := by rw [wr64_id (by omega) (by omega)]; omega
      have hxp : m.2.2.1[i - 1]? = some m.2.2.1[i - 1] := List.getElem?_eq_getElem (by omega)
      have hdp : m.2.2.1.getD (i - 1) [] = m.2.2.1[i - 1] := by simp [show i - 1 < m.2.2.1.length by omega]
      have hlp : m.2.2.1[i - 1].length = 3 := by rw [← hdp]; exact goodAt_len hall (by omega)
      rw [hdp, show decide (i = 0) = false by simp; omega, Bool.false_or] at hgA
      generalize m.2.2.1[i - 1] = q at hxp hlp hgA
      refine wkd (And.intro @hwi (And.intro @hxp (@intsC.eq_1))) _ ?_
      first | refine GS.cc (l5Less q [x, y, z] (by omega) (by simp [hlp])) rfl rfl rfl rfl (by simp [go_sem, List.take_of_length_le] <;> with_reducible rfl) rfl (by simp [go_sem, List.take_of_length_le]) ?_ | refine Gd.cc (l5Less q [x, y, z] (by omega) (by simp [hlp])) rfl rfl rfl rfl (by simp [go_sem, List.take_of_length_le] <;> with_reducible rfl) rfl (by simp [go_sem, List.take_of_length_le]) ?_
      refine wkd0 _ ?_
      refine Holds.cond rfl (fun h => ?_) (fun h => ?_)
      · rw [no (by rw [hgA]; simpa using h)]
        refine wkd0 _ ?_
        refine Out.mk (xs := ?_) ?_ ?_ (by first | exact .inr rfl | exact .inl rfl)
        rotate_left
        · simp [go_sem, List.take_of_length_le] <;> with_reducible rfl
        exact .v _
      · have hgood : goodAt m i = true := by rw [hgA]; simpa using h
        refine wkd0 _ ?_
        refine ⟨i + 1, ⟨by omega, by unfold allB; rw [hall, hgood]; rfl⟩, by omega, ?_⟩
        rw [wr64_id (by omega) (by omega)]
        exact Cov.of id (by simp [ChkT, okr, okr1, lk, ren, ren1]) (by simp [ChkB, lb, BlkC, nf])
    · have h2 : i = 0 := by
        have : ¬ 0 < i := by simpa using h
        omega
      have hgood : goodAt m i = true := by rw [hgA]; simp [h2]
      refine wkd0 _ ?_
      refine Holds.cond rfl (fun h => ?_) (fun h => ?_)
      · cases h
      · refine wkd0 _ ?_
        refine ⟨i + 1, ⟨by omega, by unfold allB; rw [hall, hgood]; rfl⟩, by omega, ?_⟩
        rw [wr64_id (by omega) (by omega)]
        exact Cov.of id (by simp [ChkT, okr, okr1, lk, ren, ren1]) (by simp [ChkB, lb, BlkC, nf])
  · have hle : i = m.2.2.1.length := by
      have : ¬ i < m.2.2.1.length := by simpa using hl
      omega
    subst hle
    rw [hall]
    refine wkd0 _ ?_
    refine Out.mk (xs := ?_) ?_ ?_ (by first | exact .inr rfl | exact .inl rfl)
    rotate_left
    · simp [go_sem, List.take_of_length_le] <;> with_reducible rfl
    exact .v _
theorem implGood0 (m : Mach) (hx : m.2.2.1.length < 4611686018427387904) (hs : ∀ e ∈ m.2.2.1, e.length < 4611686018427387904) (hy : m.2.2.2.length < 4611686018427387904) : Pure Try.prog 47 [machine m] (.v (.bool (goodM m))) := by
  refine Pure.mk (rs := [.tmp 2]) (nt := 80) Try.func47 (by kernel_rfl) rfl rfl rfl (by simp) ?_
  simp only [sl, machine]
  refine wkd0 _ ?_
  first | refine GS.cc (implIn m.1 1 6) rfl rfl rfl rfl (by simp [go_sem, List.take_of_length_le] <;> with_reducible rfl) rfl (by simp [go_sem, List.take_of_length_le]) ?_ | refine Gd.cc (implIn m.1 1 6) rfl rfl rfl rfl (by simp [go_sem, List.take_of_length_le] <;> with_reducible rfl) rfl (by simp [go_sem, List.take_of_length_le]) ?_
  refine wkd0 _ ?_
  refine GS.guard (t := 9) rfl (fun h => ?_) (fun h => ?_)
  · rw [show goodM m = false by have h : inR m.1 1 6 = false := (by simpa using h); rw [goodM, h]; rfl]
    refine wkd0 _ ?_
    refine Holds.cond rfl (fun h => ?_) (fun h => ?_)
    · refine wkd0 _ ?_
      refine Out.mk (xs := ?_) ?_ ?_ (by first | exact .inr rfl | exact .inl rfl)
      rotate_left
      · simp [go_sem, List.take_of_length_le] <;> with_reducible rfl
      exact .v _
    · cases h
  have hA : inR m.1 1 6 = true := by simpa using h
  have hA' : 1 ≤ m.1 ∧ m.1 ≤ 6 := by simpa [inR] using hA
  have hw : wr64 (m.1 - 1) = m.1 - 1 := wr64_id (by omega) (by omega)
  refine wkd0 _ ?_
  first | refine GS.cc (implIn m.2.1 1 4) rfl rfl rfl rfl (by simp [go_sem, List.take_of_length_le] <;> with_reducible rfl) rfl (by simp [go_sem, List.take_of_length_le]) ?_ | refine Gd.cc (implIn m.2.1 1 4) rfl rfl rfl rfl (by simp [go_sem, List.take_of_length_le] <;> with_reducible rfl) rfl (by simp [go_sem, List.take_of_length_le]) ?_
  refine wkd0 _ ?_
  refine GS.guard (t := 15) rfl (fun h => ?_) (fun h => ?_)
  · rw [show goodM m = false by have h : inR m.2.1 1 4 = false := (by simpa using h); rw [goodM, hA, h]; rfl]
    refine wkd0 _ ?_
    refine Holds.cond rfl (fun h => ?_) (fun h => ?_)
    · refine wkd0 _ ?_
      refine Out.mk (xs := ?_) ?_ ?_ (by first | exact .inr rfl | exact .inl rfl)
      rotate_left
      · simp [go_sem, List.take_of_length_le] <;> with_reducible rfl
      exact .v _
    · cases h
  have hB : inR m.2.1 1 4 = true := by simpa using h
  have hB' : 1 ≤ m.2.1 ∧ m.2.1 ≤ 4 := by simpa [inR] using hB
  have hw2 : wr64 (m.2.1 - 1) = m.2.1 - 1 := wr64_id (by omega) (by omega)
  refine wkd (@hw) _ ?_
  first | refine GS.cc (areRising m.2.2.2 m.1 (by omega) (by omega) hy) rfl rfl rfl rfl (by simp [go_sem, List.take_of_length_le] <;> with_reducible rfl) rfl (by simp [go_sem, List.take_of_length_le]) ?_ | refine Gd.cc (areRising m.2.2.2 m.1 (by omega) (by omega) hy) rfl rfl rfl rfl (by simp [go_sem, List.take_of_length_le] <;> with_reducible rfl) rfl (by simp [go_sem, List.take_of_length_le]) ?_
  refine wkd0 _ ?_
  refine Holds.cond rfl (fun h => ?_) (fun h => ?_)
  · rw [show goodM m = false by have h : rising m.2.2.2 0 (m.1 - 1) = false := (by simpa using h); rw [goodM, hA, hB, h]; rfl]
    refine wkd0 _ ?_
    refine Out.mk (xs := ?_) ?_ ?_ (by first | exact .inr rfl | exact .inl rfl)
    rotate_left
    · simp [go_sem, List.take_of_length_le] <;> with_reducible rfl
    exact .v _
  have hC : rising m.2.2.2 0 (m.1 - 1) = true := by simpa using h
  have hG : goodM m = allB (goodAt m) m.2.2.1.length := by rw [goodM, hA, hB, hC]; rfl
  rw [hG]
  refine wkd0 _ ?_
  refine Holds.loop (ι := Nat) (fun i => ⟨[(1, .pb 0 4 0 0), (24, .im 1 (intss m.2.2.1)), (25, .v (.int .i64 m.2.2.1.length)), (26, .v (.int .i64 i))], [(0, ⟨42, 4, [[.v (.int .i64 m.1), .v (.int .i64 m.2.1), .im 1 (intss m.2.2.1), .im 1 (ints m.2.2.2)]]⟩)], 1⟩) (fun i => i ≤ m.2.2.1.length ∧ allB (goodAt m) i = true) (fun i => m.2.2.1.length - i) 0 ⟨Nat.zero_le _, rfl⟩ ?_ ?_
  · exact Cov.of id (by simp [ChkT, okr, okr1, lk, ren, ren1]) (by simp [ChkB, lb, BlkC, nf])
  rintro i ⟨hi, hall⟩
  refine wkd0 _ ?_
  refine Holds.cond rfl (fun hl => ?_) (fun hl => ?_)
  · have hlt : i < m.2.2.1.length := by simpa using hl
    have hxi : m.2.2.1[i]? = some m.2.2.1[i] := List.getElem?_eq_getElem hlt
    have hd : m.2.2.1.getD i [] = m.2.2.1[i] := by simp [hlt]
    have no : goodAt m i = false → Out Try.prog [.tmp 2] (.v (.bool (allB (goodAt m) m.2.2.1.length))) = Out Try.prog [.tmp 2] (.v (.bool false)) := fun h => by rw [allB_no hlt h]
    have hlen := hs _ (List.getElem_mem hlt)
    have hgA : goodAt m i = (decide (m.2.2.1[i].length = 3) && inR (m.2.2.1[i].getD 0 0) 0 (m.1 - 1) && inR (m.2.2.1[i].getD 1 0) 0 (m.2.1 - 1) && inR (m.2.2.1[i].getD 2 0) 0 (m.1 - 1) && (decide (i = 0) || lessL (m.2.2.1.getD (i - 1) []) m.2.2.1[i])) := by simp only [goodAt, hd]
    generalize hr : m.2.2.1[i] = r at hxi hd hlen hgA
    refine wkd (And.intro @hxi (@intsC.eq_1)) _ ?_
    refine Gd.guard (t := 34) rfl (fun h => ?_) (fun h => ?_)
    · rw [no (by have h : ¬ r.length = 3 := (by simp at h; omega); rw [hgA]; simp [h])]
      refine wkd0 _ ?_
      refine Holds.cond rfl (fun h => ?_) (fun h => ?_)
      · refine wkd0 _ ?_
        refine Out.mk (xs := ?_) ?_ ?_ (by first | exact .inr rfl | exact .inl rfl)
        rotate_left
        · simp [go_sem, List.take_of_length_le] <;> with_reducible rfl
        exact .v _
      · cases h
    have h3 : r.length = 3 := by simp at h; omega
    obtain ⟨x, y, z, rfl⟩ : ∃ x y z, r = [x, y, z] := by
      match r, h3 with
      | [x, y, z], _ => exact ⟨x, y, z, rfl⟩
    simp only [List.getD_cons_zero, List.getD_cons_succ, List.length_cons, List.length_nil, decide_true, Bool.true_and] at hgA
    refine wkd (@hw) _ ?_
    first | refine GS.cc (implIn x 0 (m.1 - 1)) rfl rfl rfl rfl (by simp [go_sem, List.take_of_length_le] <;> with_reducible rfl) rfl (by simp [go_sem, List.take_of_length_le]) ?_ | refine Gd.cc (implIn x 0 (m.1 - 1)) rfl rfl rfl rfl (by simp [go_sem, List.take_of_length_le] <;> with_reducible rfl) rfl (by simp [go_sem, List.take_of_length_le]) ?_
    refine wkd0 _ ?_
    refine Gd.guard (t := 44) rfl (fun h => ?_) (fun h => ?_)
    · rw [no (by have h : inR x 0 (m.1 - 1) = false := (by simpa using h); rw [hgA, h]; rfl)]
      refine wkd0 _ ?_
      refine Holds.cond rfl (fun h => ?_) (fun h => ?_)
      · refine wkd0 _ ?_
        refine Out.mk (xs := ?_) ?_ ?_ (by first | exact .inr rfl | exact .inl rfl)
        rotate_left
        · simp [go_sem, List.take_of_length_le] <;> with_reducible rfl
        exact .v _
      · cases h
    have g1 : inR x 0 (m.1 - 1) = true := by simpa using h
    rw [g1] at hgA
    refine wkd (@hw2) _ ?_
    first | refine GS.cc (implIn y 0 (m.2.1 - 1)) rfl rfl rfl rfl (by simp [go_sem, List.take_of_length_le] <;> with_reducible rfl) rfl (by simp [go_sem, List.take_of_length_le]) ?_ | refine Gd.cc (implIn y 0 (m.2.1 - 1)) rfl rfl rfl rfl (by simp [go_sem, List.take_of_length_le] <;> with_reducible rfl) rfl (by simp [go_sem, List.take_of_length_le]) ?_
    refine wkd0 _ ?_
    refine Gd.guard (t := 54) rfl (fun h => ?_) (fun h => ?_)
    · rw [no (by have h : inR y 0 (m.2.1 - 1) = false := (by simpa using h); rw [hgA, h]; rfl)]
      refine wkd0 _ ?_
      refine Holds.cond rfl (fun h => ?_) (fun h => ?_)
      · refine wkd0 _ ?_
        refine Out.mk (xs := ?_) ?_ ?_ (by first | exact .inr rfl | exact .inl rfl)
        rotate_left
        · simp [go_sem, List.take_of_length_le] <;> with_reducible rfl
        exact .v _
      · cases h
    have g2 : inR y 0 (m.2.1 - 1) = true := by simpa using h
    rw [g2] at hgA
    refine wkd (@hw) _ ?_
    first | refine GS.cc (implIn z 0 (m.1 - 1)) rfl rfl rfl rfl (by simp [go_sem, List.take_of_length_le] <;> with_reducible rfl) rfl (by simp [go_sem, List.take_of_length_le]) ?_ | refine Gd.cc (implIn z 0 (m.1 - 1)) rfl rfl rfl rfl (by simp [go_sem, List.take_of_length_le] <;> with_reducible rfl) rfl (by simp [go_sem, List.take_of_length_le]) ?_
    refine wkd0 _ ?_
    refine Gd.guard (t := 64) rfl (fun h => ?_) (fun h => ?_)
    · rw [no (by have h : inR z 0 (m.1 - 1) = false := (by simpa using h); rw [hgA, h]; rfl)]
      refine wkd0 _ ?_
      refine Holds.cond rfl (fun h => ?_) (fun h => ?_)
      · refine wkd0 _ ?_
        refine Out.mk (xs := ?_) ?_ ?_ (by first | exact .inr rfl | exact .inl rfl)
        rotate_left
        · simp [go_sem, List.take_of_length_le] <;> with_reducible rfl
        exact .v _
      · cases h
    have g3 : inR z 0 (m.1 - 1) = true := by simpa using h
    rw [g3] at hgA
    simp only [Bool.true_and] at hgA
    refine wkd0 _ ?_
    refine Gd.guard (t := 67) rfl (fun h => ?_) (fun h => ?_)
    · have h2 : 0 < i := by simpa using h
      have hwi : wr64 ((i : Int) - 1) = ((i - 1 : Nat) : Int) := by rw [wr64_id (by omega) (by omega)]; omega
      have hxp : m.2.2.1[i - 1]? = some m.2.2.1[i - 1] := List.getElem?_eq_getElem (by omega)
      have hdp : m.2.2.1.getD (i - 1) [] = m.2.2.1[i - 1] := by simp [show i - 1 < m.2.2.1.length by omega]
      have hlp : m.2.2.1[i - 1].length = 3 := by rw [← hdp]; exact goodAt_len hall (by omega)
      rw [hdp, show decide (i = 0) = false by simp; omega, Bool.false_or] at hgA
      generalize m.2.2.1[i - 1] = q at hxp hlp hgA
      refine wkd (And.intro @hwi (And.intro @hxp (@intsC.eq_1))) _ ?_
      first | refine GS.cc (compareInts q [x, y, z] (by omega)) rfl rfl rfl rfl (by simp [go_sem, List.take_of_length_le] <;> with_reducible rfl) rfl (by simp [go_sem, List.take_of_length_le]) ?_ | refine Gd.cc (compareInts q [x, y, z] (by omega)) rfl rfl rfl rfl (by simp [go_sem, List.take_of_length_le] <;> with_reducible rfl) rfl (by simp [go_sem, List.take_of_length_le]) ?_
      rw [lessL_cmp q [x, y, z] (by simp [hlp])] at hgA
      refine wkd0 _ ?_
      refine Holds.cond rfl (fun h => ?_) (fun h => ?_)
      · rw [no (by rw [hgA]; simpa using h)]
        refine wkd0 _ ?_
        refine Out.mk (xs := ?_) ?_ ?_ (by first | exact .inr rfl | exact .inl rfl)
        rotate_left
        · simp [go_sem, List.take_of_length_le] <;> with_reducible rfl
        exact .v _
      · have hgood : goodAt m i = true := by rw [hgA]; simpa using h
        refine wkd0 _ ?_
        refine ⟨i + 1, ⟨by omega, by unfold allB; rw [hall, hgood]; rfl⟩, by omega, ?_⟩
        rw [wr64_id (by omega) (by omega)]
        exact Cov.of id (by simp [ChkT, okr, okr1, lk, ren, ren1]) (by simp [ChkB, lb, BlkC, nf])
    · have h2 : i = 0 := by
        have : ¬ 0 < i := by simpa using h
        omega
      have hgood : goodAt m i = true := by rw [hgA]; simp [h2]
      refine wkd0 _ ?_
      refine Holds.cond rfl (fun h => ?_) (fun h => ?_)
      · cases h
      · refine wkd0 _ ?_
        refine ⟨i + 1, ⟨by omega, by unfold allB; rw [hall, hgood]; rfl⟩, by omega, ?_⟩
        rw [wr64_id (by omega) (by omega)]
        exact Cov.of id (by simp [ChkT, okr, okr1, lk, ren, ren1]) (by simp [ChkB, lb, BlkC, nf])
  · have hle : i = m.2.2.1.length := by
      have : ¬ i < m.2.2.1.length := by simpa using hl
      omega
    subst hle
    rw [hall]
    refine wkd0 _ ?_
    refine Out.mk (xs := ?_) ?_ ?_ (by first | exact .inr rfl | exact .inl rfl)
    rotate_left
    · simp [go_sem, List.take_of_length_le] <;> with_reducible rfl
    exact .v _
end Go.Proofs.Ytejpklajfcngbaa.En
end
section
namespace Go.Proofs.Ytejpklajfcngbaa.En
open Go.RowKit
set_option linter.unusedSimpArgs false
set_option linter.unusedVariables false
end Go.Proofs.Ytejpklajfcngbaa.En
end
section
namespace Go.Proofs.Ytejpklajfcngbaa.En
open Go.RowKit
set_option linter.unusedSimpArgs false
set_option linter.unusedVariables false
set_option maxHeartbeats 8000000
theorem any_at {α : Type} {p : α → Bool} {xs : List α} {i : Nat} {x : α} (h : xs[i]? = some x) (hp : p x = true) : xs.any p = true := List.any_eq_true.2 ⟨x, List.mem_of_getElem? h, hp⟩
end Go.Proofs.Ytejpklajfcngbaa.En
end
section
namespace Go.Proofs.Ytejpklajfcngbaa.En
open Go.RowKit
set_option linter.unusedSimpArgs false
set_option linter.unusedVariables false
set_option maxHeartbeats 8000000
end Go.Proofs.Ytejpklajfcngbaa.En
end
section
namespace Go.Proofs.Ytejpklajfcngbaa.En
open Go.RowKit
set_option linter.unusedSimpArgs false
set_option linter.unusedVariables false
set_option maxHeartbeats 4000000
abbrev MachineT := Int × Int × List (List Int) × List Int
def machineC (m : MachineT) : List AV := [.v (.int .i64 m.1), .v (.int .i64 m.2.1), .im 1 (intss m.2.2.1), .im 1 (ints m.2.2.2)]
theorem specGoodX (m : MachineT) (hx : m.2.2.1.length < 4611686018427387904) (hs : ∀ e ∈ m.2.2.1, e.length < 4611686018427387904) (hy : m.2.2.2.length < 4611686018427387904) : Pure Try.prog 49 [.ag (machineC m)] (.v (.bool (goodM m))) := specGood m hx hs hy
theorem implGoodX (m : MachineT) (hx : m.2.2.1.length < 4611686018427387904) (hs : ∀ e ∈ m.2.2.1, e.length < 4611686018427387904) (hy : m.2.2.2.length < 4611686018427387904) : Pure Try.prog 47 [.ag (machineC m)] (.v (.bool (goodM m))) := implGood0 m hx hs hy
theorem wtL_boundX {α : Type} {w : α → Nat} {c : Nat} : ∀ {xs : List α}, (∀ x ∈ xs, w x ≤ c) → wtL w xs ≤ c * xs.length
  | [], _ => by simp [wtL]
  | x :: xs, h => by
    have h1 := h x (by simp)
    have h2 := wtL_boundX (xs := xs) (fun y hy => h y (by simp [hy]))
    simp only [wtL, List.length_cons, Nat.mul_succ]; omega
theorem good_arrow {m : MachineT} (h : goodM m = true) {i : Nat} (hi : i < m.2.2.1.length) : ∃ x y z : Int, m.2.2.1[i] = [x, y, z] ∧ 0 ≤ y ∧ y ≤ 3 := by
  have hB : 1 ≤ m.2.1 ∧ m.2.1 ≤ 4 := by
    simp only [goodM, Bool.and_eq_true] at h
    have := h.1.1.2
    simpa [inR] using this
  simp only [goodM, Bool.and_eq_true] at h
  have ha : goodAt m i = true := by
    cases e : goodAt m i with
    | true => rfl
    | false => have := h.2; rw [allB_no hi e] at this; cases this
  have hd : m.2.2.1.getD i [] = m.2.2.1[i] := by simp [hi]
  simp only [goodAt, hd, Bool.and_eq_true, decide_eq_true_eq] at ha
  obtain ⟨⟨⟨⟨h3, _⟩, hy⟩, _⟩, _⟩ := ha
  generalize m.2.2.1[i] = r at h3 hy
  match r, h3 with
  | [x, y, z], _ =>
    simp only [List.getD_cons_zero, List.getD_cons_succ] at hy
    have hy : 0 ≤ y ∧ y ≤ m.2.1 - 1 := by simpa [inR] using hy
    exact ⟨x, y, z, rfl, hy.1, by omega⟩
end Go.Proofs.Ytejpklajfcngbaa.En
end
section
namespace Go.Proofs.Ytejpklajfcngbaa.En
open Go.RowKit
set_option linter.unusedSimpArgs false
set_option linter.unusedVariables false
set_option maxHeartbeats 8000000
end Go.Proofs.Ytejpklajfcngbaa.En
end
section
namespace Go.Proofs.Ytejpklajfcngbaa.En
open Go.RowKit
set_option linter.unusedSimpArgs false
set_option linter.unusedVariables false
def intc (xs : List Int) : List AV := xs.map fun n => .v (.int .i64 n)
@[simp] theorem intc_len (xs : List Int) : (intc xs).length = xs.length := by simp [intc]
@[simp] theorem intc_get (xs : List Int) (i : Nat) : (intc xs)[i]? = (xs[i]?).map fun n => .v (.int .i64 n) := by simp [intc]
@[simp] theorem intc_gE (xs : List Int) (i : Nat) (h : i < (intc xs).length) : (intc xs)[i] = .v (.int .i64 (xs[i]'(by simpa using h))) := by simp [intc]
@[simp] theorem intc_set (xs : List Int) (i : Nat) (n : Int) : (intc xs).set i (.v (.int .i64 n)) = intc (xs.set i n) := by simp [intc, List.map_set]
@[simp] theorem nfc_intc (xs : List Int) : nfc (intc xs) := fun x hx => by
  simp only [intc, List.mem_map] at hx
  obtain ⟨n, _, rfl⟩ := hx
  rfl
def gB (B : List Int) (x : Int) : Int := B.getD x.toNat 0
def stI (B : List Int) (n x : Int) : Int := if x < 0 ∨ n = 0 then n else if gB B x = 0 then 0 else n + gB B x
def stS (B : List Int) (n x : Int) : Int := if 0 ≤ x ∧ gB B x = 0 then -1000000 else if 0 ≤ x then n + gB B x else n
def sumB (B : List Int) (c : Int) (right : List Int) : Int := right.foldl (stI B) c
def sumS (B : List Int) (c : Int) (right : List Int) : Int := right.foldl (stS B) c
theorem gB_in {B : List Int} {V : Int} (h : ∀ b ∈ B, 0 ≤ b ∧ b ≤ V) (hV : 0 ≤ V) (x : Int) : 0 ≤ gB B x ∧ gB B x ≤ V := by
  unfold gB
  by_cases hx : x.toNat < B.length
  · rw [List.getD_eq_getElem?_getD, List.getElem?_eq_getElem hx]
    exact h _ (List.getElem_mem hx)
  · rw [List.getD_eq_getElem?_getD, List.getElem?_eq_none (by omega)]
    exact ⟨Int.le_refl 0, hV⟩
theorem sums (B : List Int) (V c : Int) (h : ∀ b ∈ B, 0 ≤ b ∧ b ≤ V) (hV : 0 ≤ V) (hV1 : V ≤ 136500) : ∀ (r : List Int) (t : Nat) (n s : Int), t + r.length ≤ 4 → n ≤ c + V * t → ((0 < n ∧ s = n) ∨ (n = 0 ∧ s ≤ -1000000 + V * t)) →
    r.foldl (stI B) n ≤ c + V * (t + r.length : Nat) ∧ ((0 < r.foldl (stI B) n ∧ r.foldl (stS B) s = r.foldl (stI B) n) ∨ (r.foldl (stI B) n = 0 ∧ r.foldl (stS B) s ≤ -1000000 + V * 4)) := by
  intro r
  induction r with
  | nil =>
    intro t n s ht hn hr
    refine ⟨by simpa using hn, ?_⟩
    rcases hr with hr | ⟨h1, h2⟩
    · exact .inl hr
    · refine .inr ⟨h1, ?_⟩
      have : V * t ≤ V * 4 := Int.mul_le_mul_of_nonneg_left (by simp at ht; omega) hV
      simp only [List.foldl_nil]; omega
  | cons x r ih =>
    intro t n s ht hn hr
    obtain ⟨g0, g1⟩ := gB_in h hV x
    simp only [List.length_cons] at ht
    have e : V * ((t + 1 : Nat) : Int) = V * t + V := by rw [Int.natCast_add, Int.mul_add]; simp
    have key := ih (t + 1) (stI B n x) (stS B s x) (by omega) (by rw [e]; unfold stI; split; · omega
                                                                  · split <;> omega) (by
      rw [e]
      have e4 : V * (t : Int) ≤ 136500 * 4 := by
        have h1 : V * (t : Int) ≤ 136500 * (t : Int) := Int.mul_le_mul_of_nonneg_right hV1 (by omega)
        omega
      have e5 : 0 ≤ V * (t : Int) := Int.mul_nonneg hV (by omega)
      unfold stI stS
      rcases hr with ⟨h1, rfl⟩ | ⟨rfl, h2⟩
      · by_cases hx : x < 0
        · rw [if_pos (.inl hx), if_neg (by omega), if_neg (by omega)]; exact .inl ⟨h1, rfl⟩
        · rw [if_neg (by omega)]
          by_cases hg : gB B x = 0
          · rw [if_pos hg, if_pos ⟨by omega, hg⟩]; right; omega
          · rw [if_neg hg, if_neg (by omega), if_pos (by omega)]; left; omega
      · rw [if_pos (.inr rfl)]
        by_cases hx : 0 ≤ x
        · by_cases hg : gB B x = 0
          · rw [if_pos ⟨hx, hg⟩]; right; omega
          · rw [if_neg (by omega), if_pos hx]; right; omega
        · rw [if_neg (by omega), if_neg hx]; right; omega)
    rw [List.foldl_cons, List.foldl_cons, List.length_cons, show t + (r.length + 1) = t + 1 + r.length by omega]
    exact key
def VV : Nat → Int
  | 0 => 0
  | m + 1 => 100 + 4 * VV m
theorem VV_nonneg : ∀ m, 0 ≤ VV m
  | 0 => Int.le_refl 0
  | m + 1 => by have := VV_nonneg m; unfold VV; omega
theorem VV_le : ∀ m, VV m ≤ VV (m + 1) := fun m => by have := VV_nonneg m; show VV m ≤ 100 + 4 * VV m; omega
theorem VV_mono {a b : Nat} (h : a ≤ b) : VV a ≤ VV b := by
  induction h with
  | refl => exact Int.le_refl _
  | step _ ih => exact Int.le_trans ih (VV_le _)
theorem VV_six {m : Nat} (h : m ≤ 6) : VV m ≤ 136500 := Int.le_trans (VV_mono h) (by decide)
def nz (B : List Int) : Nat := B.countP (fun b => decide (b ≠ 0))
def tot : List Int → Int
  | [] => 0
  | x :: xs => x + tot xs
theorem tot_set : ∀ (B : List Int) (k : Nat) (s : Int) (h : k < B.length), tot (B.set k s) = tot B - B[k] + s
  | [], k, s, h => by simp at h
  | x :: xs, 0, s, h => by simp [tot]; omega
  | x :: xs, k + 1, s, h => by
    have := tot_set xs k s (by simpa using h)
    simp only [List.set_cons_succ, tot, List.getElem_cons_succ, this]; omega
theorem tot_in (V : Int) : ∀ (B : List Int), (∀ b ∈ B, 0 ≤ b ∧ b ≤ V) → 0 ≤ tot B ∧ tot B ≤ V * B.length
  | [], _ => by simp [tot]
  | x :: xs, h => by
    have h1 := h x (.head _)
    have h2 := tot_in V xs fun b hb => h b (.tail _ hb)
    rw [List.length_cons, Int.natCast_add, Int.mul_add]
    simp only [tot]
    omega
theorem nz_le (B : List Int) : nz B ≤ B.length := List.countP_le_length
theorem nz_set (B : List Int) (k : Nat) (s : Int) (h : k < B.length) (hs : s ≠ 0) : nz (B.set k s) = nz B + if B[k] = 0 then 1 else 0 := by
  unfold nz
  rw [List.countP_set h]
  by_cases hk : B[k] = 0
  · simp [hk, hs]
  · have hp : 0 < List.countP (fun b => decide (b ≠ 0)) B := List.countP_pos_iff.2 ⟨_, List.getElem_mem h, by simpa using hk⟩
    have e1 : decide (B[k] ≠ 0) = true := by simpa using hk
    have e2 : decide (s ≠ 0) = true := by simpa using hs
    rw [e1, e2, if_neg hk]
    simp only [if_true]
    omega
structure InvB (nons : Nat) (B : List Int) : Prop where
  len : B.length = 6
  low : ∀ b ∈ B, 0 ≤ b
  up : ∀ b ∈ B, b ≤ VV (nz B)
  out : ∀ k, nons ≤ k → B.getD k 0 = 0
theorem InvB.all {nons : Nat} {B : List Int} (h : InvB nons B) : ∀ b ∈ B, 0 ≤ b ∧ b ≤ VV (nz B) := fun b hb => ⟨h.low b hb, h.up b hb⟩
theorem InvB.nz6 {nons : Nat} {B : List Int} (h : InvB nons B) : nz B ≤ 6 := by have := nz_le B; rw [h.len] at this; exact this
def muB (B : List Int) : Nat := (6 - nz B) * 10000000 + (tot B).toNat
theorem InvB.set {nons : Nat} {B : List Int} (h : InvB nons B) {k : Nat} (hk : k < nons) (hn : nons ≤ 6) {s : Int} (hs0 : 0 < s) (hs : s ≤ 100 + 4 * VV (nz B)) (hb : B.getD k 0 = 0 ∨ s < B.getD k 0) : InvB nons (B.set k s) ∧ muB (B.set k s) < muB B := by
  have hkl : k < B.length := by rw [h.len]; omega
  have hg : B.getD k 0 = B[k] := by simp [hkl]
  rw [hg] at hb
  have hk0 := h.low _ (List.getElem_mem hkl)
  have hk1 := h.up _ (List.getElem_mem hkl)
  have hnz := nz_set B k s hkl (by omega)
  have ht := tot_set B k s hkl
  have hnn := VV_nonneg (nz B)
  have h6 := h.nz6
  have htl := tot_in (VV (nz B)) B h.all
  have hinv : InvB nons (B.set k s) := by
    refine ⟨by simpa using h.len, fun b hbm => ?_, fun b hbm => ?_, fun j hj => ?_⟩
    · rcases List.mem_or_eq_of_mem_set hbm with g | g
      · exact h.low b g
      · rw [g]; omega
    · rcases List.mem_or_eq_of_mem_set hbm with g | g
      · exact Int.le_trans (h.up b g) (VV_mono (by rw [hnz]; omega))
      · rw [hnz, g]
        split
        · exact hs
        · rename_i g
          have : s < B[k] := hb.resolve_left g
          simp only [Nat.add_zero]; omega
    · have := h.out j hj
      rw [List.getD_eq_getElem?_getD, List.getElem?_set_ne (by omega), ← List.getD_eq_getElem?_getD]
      exact this
  refine ⟨hinv, ?_⟩
  have h62 := hinv.nz6
  have hnew := (tot_in _ _ hinv.all).1
  rw [ht] at hnew
  unfold muB
  rw [hnz, ht]
  rw [hnz] at h62
  have hv6 := VV_six h6
  have hs2 : s ≤ 1000000 := by omega
  split
  · rename_i g
    rw [if_pos g] at h62
    rw [g]
    have : (6 - nz B) = (6 - (nz B + 1)) + 1 := by omega
    rw [this, Nat.add_mul]
    omega
  · rename_i g
    have : s < B[k] := hb.resolve_left g
    simp only [Nat.add_zero]
    omega
def stepB (p : List Int × Bool) (rc : RuleT × Int) : List Int × Bool :=
  if 0 < sumB p.1 rc.2 rc.1.2 ∧ (gB p.1 rc.1.1 = 0 ∨ sumB p.1 rc.2 rc.1.2 < gB p.1 rc.1.1) then (p.1.set rc.1.1.toNat (sumB p.1 rc.2 rc.1.2), true) else p
def roundB (rs : List (RuleT × Int)) (B : List Int) : List Int × Bool := rs.foldl stepB (B, false)
def iterB (rs : List (RuleT × Int)) : Nat → List Int → List Int
  | 0, B => B
  | n + 1, B => if (roundB rs B).2 then iterB rs n (roundB rs B).1 else (roundB rs B).1
def zeroB : List Int := [0, 0, 0, 0, 0, 0]
def fuelB : Nat := muB zeroB + 1
def bestB (rs : List (RuleT × Int)) : List Int := iterB rs fuelB zeroB
theorem InvB.zero (nons : Nat) : InvB nons zeroB := ⟨rfl, fun b hb => by simp [zeroB] at hb; omega, fun b hb => by simp [zeroB] at hb; have := VV_nonneg (nz zeroB); omega, fun k _ => by
  unfold zeroB
  match k with
  | 0 | 1 | 2 | 3 | 4 | 5 => rfl
  | k + 6 => rfl⟩
def okRC (nons : Nat) (rc : RuleT × Int) : Prop := 0 ≤ rc.1.1 ∧ rc.1.1 < nons ∧ rc.1.2.length ≤ 4 ∧ (∀ x ∈ rc.1.2, x < nons) ∧ 1 ≤ rc.2 ∧ rc.2 ≤ 100
theorem sum_facts {nons : Nat} {B : List Int} (h : InvB nons B) {rc : RuleT × Int} (hr : okRC nons rc) : sumB B rc.2 rc.1.2 ≤ 100 + 4 * VV (nz B) ∧ ((0 < sumB B rc.2 rc.1.2 ∧ sumS B rc.2 rc.1.2 = sumB B rc.2 rc.1.2) ∨ (sumB B rc.2 rc.1.2 = 0 ∧ sumS B rc.2 rc.1.2 ≤ 0)) := by
  obtain ⟨_, _, h3, _, h5, h6⟩ := hr
  have hv6 := VV_six h.nz6
  have hnn := VV_nonneg (nz B)
  have := sums B (VV (nz B)) rc.2 h.all hnn hv6 rc.1.2 0 rc.2 rc.2 (by omega) (by simp) (.inl ⟨by omega, rfl⟩)
  have e : VV (nz B) * ((0 + rc.1.2.length : Nat) : Int) ≤ VV (nz B) * 4 := Int.mul_le_mul_of_nonneg_left (by omega) hnn
  refine ⟨by unfold sumB; omega, ?_⟩
  rcases this.2 with g | ⟨g1, g2⟩
  · exact .inl g
  · refine .inr ⟨g1, ?_⟩
    unfold sumS
    omega
theorem InvB.stepB {nons : Nat} (hn : nons ≤ 6) {p : List Int × Bool} (h : InvB nons p.1) {rc : RuleT × Int} (hr : okRC nons rc) : InvB nons (En.stepB p rc).1 ∧ muB (En.stepB p rc).1 ≤ muB p.1 ∧ ((En.stepB p rc).2 = true → p.2 = true ∨ muB (En.stepB p rc).1 < muB p.1) := by
  unfold En.stepB
  split
  · rename_i hc
    have := h.set (k := rc.1.1.toNat) (by have := hr.1; have := hr.2.1; omega) hn hc.1 (sum_facts h hr).1 hc.2
    exact ⟨this.1, Nat.le_of_lt this.2, fun _ => .inr this.2⟩
  · exact ⟨h, Nat.le_refl _, fun h => .inl h⟩
attribute [irreducible] fuelB bestB iterB roundB
end Go.Proofs.Ytejpklajfcngbaa.En
end
section
namespace Go.Proofs.Ytejpklajfcngbaa.En
open Go.RowKit
set_option linter.unusedSimpArgs false
set_option linter.unusedVariables false
set_option maxHeartbeats 8000000
structure OkG (g : GrammarT) : Prop where
  n0 : 1 ≤ g.1
  n1 : g.1 ≤ 6
  t0 : 1 ≤ g.2.1
  t1 : g.2.1 ≤ 4
  len : g.2.2.length ≤ 16
  l0 : ∀ r ∈ g.2.2, 0 ≤ r.1
  l1 : ∀ r ∈ g.2.2, r.1 < g.1
  r4 : ∀ r ∈ g.2.2, r.2.length ≤ 4
  s0 : ∀ r ∈ g.2.2, ∀ x ∈ r.2, -g.2.1 ≤ x
  s1 : ∀ r ∈ g.2.2, ∀ x ∈ r.2, x < g.1
end Go.Proofs.Ytejpklajfcngbaa.En
end
section
namespace Go.Proofs.Ytejpklajfcngbaa.En
open Go.RowKit
set_option linter.unusedSimpArgs false
set_option linter.unusedVariables false
def kposF (x : List Int) (l : List (List Int)) : Nat → Nat
  | 0 => 0
  | n + 1 => if cmpRow x (l.getD n []) < 0 then kposF x l n else n + 1
theorem kposF_le (x : List Int) (l : List (List Int)) : ∀ n, kposF x l n ≤ n
  | 0 => Nat.le_refl _
  | n + 1 => by
    have := kposF_le x l n
    unfold kposF
    split <;> omega
theorem kposF_gt (x : List Int) (l : List (List Int)) : ∀ n j, kposF x l n ≤ j → j < n → cmpRow x (l.getD j []) < 0
  | 0, j, _, h => by omega
  | n + 1, j, h1, h2 => by
    unfold kposF at h1
    split at h1
    · by_cases e : j = n
      · subst e; assumption
      · exact kposF_gt x l n j h1 (by omega)
    · omega
def insA (l : List (List Int)) (x : List Int) : List (List Int) := l.take (kposF x l l.length) ++ [x] ++ l.drop (kposF x l l.length)
theorem insA_perm (l : List (List Int)) (x : List Int) : (insA l x).Perm (x :: l) := by
  unfold insA
  rw [List.append_assoc]
  have := (List.perm_middle (a := x) (l₁ := l.take (kposF x l l.length)) (l₂ := l.drop (kposF x l l.length)))
  rw [List.take_append_drop] at this
  exact this
theorem lessL_row : ∀ x y : List Int, x.length = y.length → lessL x y = decide (cmpRow x y < 0)
  | [], [], _ => rfl
  | [], _ :: _, h => by simp at h
  | _ :: _, [], h => by simp at h
  | a :: x, b :: y, h => by
    simp only [List.length_cons, Nat.add_right_cancel_iff] at h
    have ih := lessL_row x y h
    unfold lessL cmpRow
    by_cases e : a = b
    · rw [if_pos e, if_neg (show ¬ a < b by omega), if_neg (show ¬ b < a by omega), ih]
    · rw [if_neg e]
      by_cases g : a < b
      · rw [if_pos g]; simp [g]
      · rw [if_neg g, if_pos (show b < a by omega)]; simp [g]
end Go.Proofs.Ytejpklajfcngbaa.En
end
section
namespace Go.Proofs.Ytejpklajfcngbaa.En
open Go.RowKit
set_option linter.unusedSimpArgs false
set_option linter.unusedVariables false
section
attribute [local semireducible] G Gq Holds GS thenA
variable {P : Program} {nt : NT} {s : AS} {K : AS → Prop} {ops : Array Oper} {o : Oper} {l : List Oper} {i : Nat}
theorem Holds.join {ι : Type} {c d : Code} {Q Q2 : Exit → AS → Prop} (I : ι → AS) (V : ι → Prop) (h1 : Holds P nt c (thenA (fun s1 => ∃ i, V i ∧ Cov nt.k (I i) s1) Q) s) (h2 : ∀ i, V i → Holds P nt d Q2 (I i)) : Holds P nt c (thenA (Holds P nt d Q2) Q) s := by
  refine h1.mono fun e s1 h => ?_
  cases e with
  | normal =>
    have h : ∃ i, V i ∧ Cov nt.k (I i) s1 := h
    obtain ⟨i, hi, hc⟩ := h
    exact Holds.cov hc (h2 i hi)
  | _ => exact h
end
end Go.Proofs.Ytejpklajfcngbaa.En
end
section
namespace Go.Proofs.Ytejpklajfcngbaa.En
open Go.RowKit
set_option linter.unusedSimpArgs false
set_option linter.unusedVariables false
section
attribute [local semireducible] G Gq Holds GS thenA
variable {P : Program} {nt : NT} {s s' : AS} {K : AS → Prop} {ops : Array Oper} {l : List Oper}
def ownsN (n : Nat) : Option AV → Bool
  | some (.own k _ _ _) => k == n
  | _ => false
theorem own_slot {tm : List (Nat × AV)} {n : Nat} (h : (tm.any fun p => ownsN n (lk tm p.1)) = true) : ∃ t z off len, lk tm t = some (.own n z off len) := by
  rw [List.any_eq_true] at h
  obtain ⟨p, _, hp⟩ := h
  unfold ownsN at hp
  split at hp
  · rename_i k z off len e
    have : k = n := by simpa using hp
    subst this
    exact ⟨_, _, _, _, e⟩
  · cases hp
theorem Cov.short {q : Nat} (n m : Nat) {b : Blk} (hb : lb s.bl n = some b) (ho : (s.tm.any fun p => ownsN n (lk s.tm p.1)) = true) : Cov q { s with bl := st s.bl n { b with xs := b.xs.take m } } s :=
  fun _ _ _ S _ _ _ h => by
    obtain ⟨t, z, off, len, ht⟩ := own_slot ho
    obtain ⟨u, _, hu⟩ := h.slot t _ ht
    exact ⟨S, _, _, h.short hb hu⟩
theorem GS.short (n m : Nat) {b : Blk} (hb : lb s.bl n = some b) (hs : ({ s with bl := st s.bl n { b with xs := b.xs.take m } } : AS) = s') {p : Nat} (h : GS P nt ops K l p s') (ho : (s.tm.any fun p => ownsN n (lk s.tm p.1)) = true := by rfl) : GS P nt ops K l p s :=
  GS.cov (Cov.short n m hb ho) (by rw [hs]; exact h)
theorem Holds.short {c : Code} {Q : Exit → AS → Prop} (n m : Nat) {b : Blk} (hb : lb s.bl n = some b) (hs : ({ s with bl := st s.bl n { b with xs := b.xs.take m } } : AS) = s') (h : Holds P nt c Q s') (ho : (s.tm.any fun p => ownsN n (lk s.tm p.1)) = true := by rfl) : Holds P nt c Q s :=
  Holds.cov (Cov.short n m hb ho) (by rw [hs]; exact h)
end
end Go.Proofs.Ytejpklajfcngbaa.En
end
section
namespace Go.Proofs.Ytejpklajfcngbaa.En
open Go.RowKit
set_option linter.unusedSimpArgs false
set_option linter.unusedVariables false
variable {P : Program} {s : AS}
def byteRows (cs : List Int) : List (List AV) := cs.map fun c => [.v (.int .u8 c)]
end Go.Proofs.Ytejpklajfcngbaa.En
end
section
namespace Go.Proofs.Ytejpklajfcngbaa.En
open Go.RowKit
set_option linter.unusedSimpArgs false
set_option linter.unusedVariables false
variable {P : Program} {s : AS}
theorem Calm.bin64 {op : Op} {r : AV} {o : BinOp} {t t' : TypeId} {x y : Operand} {kx ky : IntKind} {p q : Int} {v : Value} (hop : op = .binOp o t x y t') (hx : ev s x = some (.v (.int kx p))) (hy : ev s y = some (.v (.int ky q))) (h1 : v.oneCell' = true)
    (hg : ∀ w, (eqGuard o t x y (.int kx p) (.int ky q)).run P w = .ok () w) (hrun : ∀ w, (binOp o t (.int kx p) (.int ky q)).run P w = .ok v w) (hr : r = .v v) : Calm P s op r := by
  refine .val h1 hr fun s' hs' hb' o2 C a w S Ow L ho hR => ?_
  subst hop
  have ex := ev_rep hR ((hs' x (by simp [Op.operands])).trans hx)
  have ey := ev_rep hR ((hs' y (by simp [Op.operands])).trans hy)
  obtain ⟨ex, _⟩ := ex.v_inv
  obtain ⟨ey, _⟩ := ey.v_inv
  unfold execOp
  simp [ho, ex, ey, hg, hrun]
def mulU (x y : Int) : Int := IntKind.u64.wrap (x * y)
def addU (x y : Int) : Int := IntKind.u64.wrap (x + y)
def andU (x y : Int) : Int := IntKind.u64.wrap ((BitVec.ofInt 64 x &&& BitVec.ofInt 64 y).toNat)
def shrU (x : Int) (n : Nat) : Int := x.fdiv (2 ^ n)
theorem Calm.mul64 {op : Op} {t t' : TypeId} {x y : Operand} {p q : Int} (hop : op = .binOp .mul t x y t') (hx : ev s x = some (.v (.int .u64 p))) (hy : ev s y = some (.v (.int .u64 q))) : Calm P s op (.v (.int .u64 (mulU p q))) :=
  .bin64 hop hx hy rfl (fun w => by simp [eqGuard]) (fun w => by simp [binOp, Op.intArith, mulU]) rfl
theorem Calm.add64 {op : Op} {t t' : TypeId} {x y : Operand} {p q : Int} (hop : op = .binOp .add t x y t') (hx : ev s x = some (.v (.int .u64 p))) (hy : ev s y = some (.v (.int .u64 q))) : Calm P s op (.v (.int .u64 (addU p q))) :=
  .bin64 hop hx hy rfl (fun w => by simp [eqGuard]) (fun w => by simp [binOp, Op.intArith, addU]) rfl
theorem Calm.and64 {op : Op} {t t' : TypeId} {x y : Operand} {p q : Int} (hop : op = .binOp .and t x y t') (hx : ev s x = some (.v (.int .u64 p))) (hy : ev s y = some (.v (.int .u64 q))) : Calm P s op (.v (.int .u64 (andU p q))) :=
  .bin64 hop hx hy rfl (fun w => by simp [eqGuard]) (fun w => by simp only [binOp, Op.intBits, andU, IntKind.bits]; rfl) rfl
theorem Calm.shr64 {op : Op} {t t' : TypeId} {x y : Operand} {p : Int} {k : IntKind} (hop : op = .binOp .shr t x y t') (hx : ev s x = some (.v (.int .u64 p))) (hy : ev s y = some (.v (.int k 40))) : Calm P s op (.v (.int .u64 (shrU p 40))) :=
  .bin64 hop hx hy rfl (fun w => by simp [eqGuard]) (fun w => by simp [binOp, Op.shift, shrU, IntKind.bits]) rfl
theorem andU_rng (x : Int) : 0 ≤ andU x 255 ∧ andU x 255 ≤ 255 := by
  have h : (BitVec.ofInt 64 x &&& BitVec.ofInt 64 255).toNat ≤ 255 := by
    rw [BitVec.toNat_and]
    have : (BitVec.ofInt 64 255).toNat = 255 := by decide
    rw [this]
    exact Nat.and_le_right
  unfold andU
  generalize (BitVec.ofInt 64 x &&& BitVec.ofInt 64 255).toNat = n at h
  have : IntKind.u64.wrap (n : Int) = n := by
    simp [IntKind.wrap, IntKind.signed, IntKind.bits]
    omega
  rw [this]
  omega
abbrev St2 := Nat × Int
def byteAt (code : List Int) (i : Nat) : Int := (code[i]?).getD 0
def seedN (code : List Int) (st : St2) : Int := addU (addU (mulU st.2 6364136223846793005) (IntKind.u64.wrap (byteAt code st.1))) 1442695040888963407
def nextV (code : List Int) (st : St2) : Int := if st.1 + 1 ≤ code.length then byteAt code st.1 else andU (shrU (seedN code st) 40) 255
def nextS (code : List Int) (st : St2) : St2 := (st.1 + 1, seedN code st)
theorem byteAt_rng {code : List Int} (h : ∀ b ∈ code, 0 ≤ b ∧ b ≤ 255) (i : Nat) : 0 ≤ byteAt code i ∧ byteAt code i ≤ 255 := by
  unfold byteAt
  by_cases hi : i < code.length
  · rw [List.getElem?_eq_getElem hi]; exact h _ (List.getElem_mem hi)
  · rw [List.getElem?_eq_none (by omega)]; simp
theorem nextV_rng {code : List Int} (h : ∀ b ∈ code, 0 ≤ b ∧ b ≤ 255) (st : St2) : 0 ≤ nextV code st ∧ nextV code st ≤ 255 := by
  unfold nextV
  split
  · exact byteAt_rng h _
  · exact andU_rng _
def pickV (code : List Int) (n : Int) (st : St2) : Int := if n ≤ 1 then 0 else (nextV code st) % n
def pickS (code : List Int) (n : Int) (st : St2) : St2 := if n ≤ 1 then st else nextS code st
theorem pickV_rng {code : List Int} (h : ∀ b ∈ code, 0 ≤ b ∧ b ≤ 255) (n : Int) (hn : 1 ≤ n) (st : St2) : 0 ≤ pickV code n st ∧ pickV code n st < n := by
  unfold pickV
  split
  · omega
  · exact ⟨Int.emod_nonneg _ (by omega), Int.emod_lt_of_pos _ (by omega)⟩
theorem pickS_at (code : List Int) (n : Int) (st : St2) : (pickS code n st).1 ≤ st.1 + 1 := by
  unfold pickS nextS
  split <;> simp
end Go.Proofs.Ytejpklajfcngbaa.En
end
section
namespace Go.Proofs.Ytejpklajfcngbaa.En
open Go.RowKit
set_option linter.unusedSimpArgs false
set_option linter.unusedVariables false
set_option maxHeartbeats 8000000
theorem putL_split (n : Int) : ∀ (l : List Int) (k : Nat), k ≤ l.length → (∀ j, j < k → ∀ x, l[j]? = some x → x < n) → putL l n = l.take k ++ putL (l.drop k) n
  | l, 0, _, _ => by simp
  | [], k + 1, h, _ => by simp at h
  | x :: xs, k + 1, h, hp => by
    have hx : x < n := hp 0 (by omega) x (by simp)
    have ih := putL_split n xs k (by simpa using h) (fun j hj y hy => hp (j + 1) (by omega) y (by simpa using hy))
    rw [List.take_succ_cons, List.drop_succ_cons, putL, if_pos hx, ih]; rfl
theorem ints_all (l : List Int) (P : List AV → Prop) : (∀ x, x ∈ ints l → P x) ↔ ∀ n, n ∈ l → P [.v (.int .i64 n)] := by simp [ints]
theorem l1Put (l : List Int) (n : Int) (hl : l.length ≤ 4000000) : Pure Try.prog 65 [.im 1 (ints l), .v (.int .i64 n)] (.im 1 (ints (putL l n))) := by
  refine Pure.mk (rs := [.tmp 4]) (nt := 48) Try.func65 (by kernel_rfl) rfl rfl rfl (by simp) ?_
  simp only [sl]
  refine wkc0 _ ?_
  refine Holds.loop (ι := Nat) (fun k => ⟨[(0, .im 1 (ints l)), (1, .v (.int .i64 n)), (5, .v (.int .i64 k))], [], 0⟩) (fun k => k ≤ l.length ∧ ∀ j, j < k → ∀ x, l[j]? = some x → x < n) (fun k => l.length - k) 0 ⟨Nat.zero_le _, fun j hj => absurd hj (Nat.not_lt_zero j)⟩ ?_ ?_
  · exact Cov.ofn (id) rfl (by simp [go_sem, List.take_of_length_le, ren, ren1, ren2, okr, okr1, okr2, ChkT, ChkN, BlkN, nf]) (by simp [go_sem, List.take_of_length_le, ren, ren1, ren2, okr, okr1, okr2, ChkT, ChkN, BlkN, nf])
  rintro k ⟨hk, hall⟩
  have stepk : wr64 ((k : Int) + 1) = ((k + 1 : Nat) : Int) := wr64_id (by omega) (by omega)
  have hsp := putL_split n l k hk hall
  have htk : (ints l).take k = ints (l.take k) := by simp [ints, List.map_take]
  have hdk : (ints l).drop k = ints (l.drop k) := by simp [ints, List.map_drop]
  have hi00 : (List.length l - k) = (l.drop k).length := by simp
  by_cases hlt : k < l.length
  · have hxi : l[k]? = some l[k] := List.getElem?_eq_getElem hlt
    have hdr : l.drop k = l[k] :: l.drop (k + 1) := List.drop_eq_getElem_cons hlt
    by_cases hx : l[k] < n
    · refine wkc (And.intro @hlt (@hx)) _ ?_
      refine ⟨k + 1, ⟨by omega, fun j hj y hy => ?_⟩, by omega, ?_⟩
      · by_cases e : j = k
        · subst e; rw [hxi] at hy; cases hy; exact hx
        · exact hall j (by omega) y hy
      rw [stepk]
      exact Cov.ofn (id) rfl (by simp [go_sem, List.take_of_length_le, ren, ren1, ren2, okr, okr1, okr2, ChkT, ChkN, BlkN, nf]) (by simp [go_sem, List.take_of_length_le, ren, ren1, ren2, okr, okr1, okr2, ChkT, ChkN, BlkN, nf])
    · by_cases he : l[k] = n
      · have hv : putL l n = l := by
          rw [hsp, hdr, putL, if_neg hx, if_pos he, ← hdr, List.take_append_drop]
        have he' : (l[k] == n) = true := by simp [he]
        rw [hv]
        refine wkc (And.intro @hlt (And.intro @hx (@he'))) _ ?_
        refine Out.mk (xs := ?_) ?_ ?_ (by first | exact .inr rfl | exact .inl rfl)
        rotate_left
        · simp [go_sem, List.take_of_length_le] <;> with_reducible rfl
        exact .im _ _
      · have hv : ints (putL l n) = ints (l.take k) ++ [.v (.int .i64 n)] :: ints (l.drop k) := by
          rw [hsp, hdr, putL, if_neg hx, if_neg he]; simp [ints]
        have he' : (l[k] == n) = false := by simp [he]
        have hm : min k l.length = k := Nat.min_eq_left hk
        have hb1 : k * 8 ≤ 140737488355328 := by omega
        have hb2 : (k + 1) * 8 ≤ 140737488355328 := by omega
        have hb3 : (k + 1 + (l.length - k)) * 8 ≤ 140737488355328 := by omega
        rw [hv]
        refine wkc (And.intro @hlt (And.intro @hx (And.intro @he' (And.intro @htk (And.intro @hdk (And.intro @hk (And.intro @hm (And.intro @hb1 (And.intro @hb2 (And.intro @hb3 (@ints_all))))))))))) _ ?_
        refine Out.mk (xs := ?_) ?_ ?_ (by first | exact .inr rfl | exact .inl rfl)
        rotate_left
        · simp [go_sem, List.take_of_length_le] <;> with_reducible rfl
        exact Fz.all rfl rfl (by simp; omega) rfl (by rw [← hv]; exact ints_cl _)
  · have hke : k = l.length := by omega
    subst hke
    have hv : ints (putL l n) = ints l ++ [[.v (.int .i64 n)]] := by
      rw [hsp, List.take_length, List.drop_length]; simp [ints, putL]
    have hb1 : l.length * 8 ≤ 140737488355328 := by omega
    have hb2 : (l.length + 1) * 8 ≤ 140737488355328 := by omega
    have hnl : ¬ l.length < l.length := by omega
    rw [List.take_length] at htk
    rw [List.drop_length] at hdk
    rw [hv]
    refine wkc (And.intro @hnl (And.intro @htk (And.intro @hdk (And.intro @hb1 (And.intro @hb2 (@ints_all)))))) _ ?_
    refine Out.mk (xs := ?_) ?_ ?_ (by first | exact .inr rfl | exact .inl rfl)
    rotate_left
    · simp [go_sem, List.take_of_length_le] <;> with_reducible rfl
    exact Fz.all rfl rfl (by simp) rfl (by rw [← hv]; exact ints_cl _)
end Go.Proofs.Ytejpklajfcngbaa.En
end
section
namespace Go.Proofs.Ytejpklajfcngbaa.En
open Go.RowKit
set_option linter.unusedSimpArgs false
set_option linter.unusedVariables false
set_option maxHeartbeats 8000000
def takesA (set : List Int) (t : Int) (a : List Int) : Bool := a.getD 1 0 == t && decide (a.getD 0 0 ∈ set)
def addsA (set : List Int) (t : Int) (ar : List (List Int)) : List Int := (ar.filter (takesA set t)).map fun a => a.getD 2 0
def nextL (m : MachineT) (set : List Int) (t : Int) : List Int := (addsA set t m.2.2.1).foldl putL []
theorem adds_snoc (set : List Int) (t : Int) {arr : List (List Int)} {i : Nat} {a : List Int} (h : arr[i]? = some a) : addsA set t (arr.take (i + 1)) = addsA set t (arr.take i) ++ if takesA set t a then [a.getD 2 0] else [] := by
  rw [addsA, addsA, List.take_add_one, h, Option.toList_some, List.filter_append, List.map_append]
  cases hh : takesA set t a <;> simp [hh]
theorem adds_len (set : List Int) (t : Int) (arr : List (List Int)) : (addsA set t arr).length ≤ arr.length := by
  rw [addsA, List.length_map]; exact List.length_filter_le _ _
theorem putL_len (n : Int) : ∀ l : List Int, (putL l n).length ≤ l.length + 1
  | [] => by simp [putL]
  | x :: xs => by
    have := putL_len n xs
    unfold putL
    split
    · simp only [List.length_cons]; omega
    · split <;> simp only [List.length_cons] <;> omega
theorem foldl_len : ∀ (xs l : List Int), (xs.foldl putL l).length ≤ l.length + xs.length
  | [], l => by simp
  | x :: xs, l => by
    have h1 := foldl_len xs (putL l x)
    have h2 := putL_len x l
    simp only [List.foldl_cons, List.length_cons]; omega
theorem l16Next (m : MachineT) (hg : goodM m = true) (hx : m.2.2.1.length ≤ 1048576) (set : List Int) (t : Int) (hs : set.length ≤ 4000000) : Pure Try.prog 94 [.ag (machineC m), .im 1 (ints set), .v (.int .i64 t)] (.im 1 (ints (nextL m set t))) := by
  refine Pure.mk (rs := [.tmp 6]) (nt := 36) Try.func94 (by kernel_rfl) rfl rfl rfl (by simp) ?_
  simp only [sl, machineC]
  refine wkc0 _ ?_
  refine Holds.niw 7 3 1 rfl ?_
  refine Holds.frz [1] [(7, .im 1 (ints []))] (.cons rfl (Fz.all rfl rfl rfl rfl (ints_cl [])) .nil) ?_
  refine Holds.loop (ι := Nat × List Int) (fun i => ⟨[(1, .im 1 (ints set)), (2, .v (.int .i64 t)), (3, .pb 0 4 0 0), (7, .im 1 (ints i.2)), (11, .im 1 (intss m.2.2.1)), (12, .v (.int .i64 m.2.2.1.length)), (13, .v (.int .i64 i.1))], [(0, ⟨42, 4, [machineC m]⟩)], 1⟩)
    (fun i => i.1 ≤ m.2.2.1.length ∧ i.2 = (addsA set t (m.2.2.1.take i.1)).foldl putL []) (fun i => m.2.2.1.length - i.1) (0, []) ⟨Nat.zero_le _, rfl⟩ ?_ ?_
  · exact Cov.ofn (id) rfl (by simp [go_sem, List.take_of_length_le, ren, ren1, ren2, okr, okr1, okr2, ChkT, ChkN, BlkN, nf, niw, frz, machineC]) (by simp [go_sem, List.take_of_length_le, ren, ren1, ren2, okr, okr1, okr2, ChkT, ChkN, BlkN, nf, niw, frz, machineC])
  rintro ⟨i, L⟩ ⟨hi, hL⟩
  dsimp only at hi hL ⊢
  have stepi : wr64 ((i : Int) + 1) = ((i + 1 : Nat) : Int) := wr64_id (by omega) (by omega)
  have hll : L.length ≤ i := by
    have h1 := foldl_len (addsA set t (m.2.2.1.take i)) []
    have h2 := adds_len set t (m.2.2.1.take i)
    rw [List.length_take] at h2
    rw [hL]; simp only [List.length_nil] at h1; omega
  refine wkc0 _ ?_
  refine Holds.cond rfl (fun h => ?_) (fun h => ?_)
  · have hlt : i < m.2.2.1.length := by simp at h; omega
    have hxi : m.2.2.1[i]? = some m.2.2.1[i] := List.getElem?_eq_getElem hlt
    obtain ⟨x, y, z, hr, hy0, hy3⟩ := good_arrow hg hlt
    rw [hr] at hxi
    have hsn := adds_snoc set t hxi
    have hta : takesA set t [x, y, z] = (y == t && decide (x ∈ set)) := rfl
    rw [hta] at hsn
    have ch := l1Has set x (by omega)
    have cp := l1Put L z (by omega)
    rw [hasN_dec] at ch
    by_cases hyt : y = t
    · have hyt' : (y == t) = true := by simp [hyt]
      refine wkc (And.intro @hxi (And.intro @intsC.eq_1 (@hyt'))) _ ?_
      refine GS.cc (ch) rfl rfl rfl rfl (by simp [go_sem, List.take_of_length_le] <;> with_reducible rfl) rfl (by simp [go_sem, List.take_of_length_le]) ?_
      rw [hyt', Bool.true_and] at hsn
      cases hm : decide (x ∈ set) with
      | true =>
        rw [hm, if_pos rfl] at hsn
        refine wkc (And.intro @hxi (@intsC.eq_1)) _ ?_
        refine GS.cc (cp) rfl rfl rfl rfl (by simp [go_sem, List.take_of_length_le] <;> with_reducible rfl) rfl (by simp [go_sem, List.take_of_length_le]) ?_
        refine wkc0 _ ?_
        refine ⟨(i + 1, putL L z), ⟨by dsimp only; omega, by dsimp only; rw [hsn, List.foldl_append, ← hL]; rfl⟩, by dsimp only; omega, ?_⟩
        rw [stepi]
        exact Cov.ofn (id) rfl (by simp [go_sem, List.take_of_length_le, ren, ren1, ren2, okr, okr1, okr2, ChkT, ChkN, BlkN, nf, machineC]) (by simp [go_sem, List.take_of_length_le, ren, ren1, ren2, okr, okr1, okr2, ChkT, ChkN, BlkN, nf, machineC])
      | false =>
        rw [hm] at hsn
        refine wkc (And.intro @hxi (@intsC.eq_1)) _ ?_
        refine ⟨(i + 1, L), ⟨by dsimp only; omega, by dsimp only; rw [hsn]; simpa using hL⟩, by dsimp only; omega, ?_⟩
        rw [stepi]
        exact Cov.ofn (id) rfl (by simp [go_sem, List.take_of_length_le, ren, ren1, ren2, okr, okr1, okr2, ChkT, ChkN, BlkN, nf, machineC]) (by simp [go_sem, List.take_of_length_le, ren, ren1, ren2, okr, okr1, okr2, ChkT, ChkN, BlkN, nf, machineC])
    · have hyt' : (y == t) = false := by simp [hyt]
      rw [hyt', Bool.false_and] at hsn
      refine wkc (And.intro @hxi (And.intro @intsC.eq_1 (@hyt'))) _ ?_
      refine ⟨(i + 1, L), ⟨by dsimp only; omega, by dsimp only; rw [hsn]; simpa using hL⟩, by dsimp only; omega, ?_⟩
      rw [stepi]
      exact Cov.ofn (id) rfl (by simp [go_sem, List.take_of_length_le, ren, ren1, ren2, okr, okr1, okr2, ChkT, ChkN, BlkN, nf, machineC]) (by simp [go_sem, List.take_of_length_le, ren, ren1, ren2, okr, okr1, okr2, ChkT, ChkN, BlkN, nf, machineC])
  · have hle : i = m.2.2.1.length := by simp at h; omega
    subst hle
    rw [List.take_length] at hL
    subst hL
    refine wkc0 _ ?_
    refine Out.mk (xs := ?_) ?_ ?_ (by first | exact .inr rfl | exact .inl rfl)
    rotate_left
    · simp [go_sem, List.take_of_length_le] <;> with_reducible rfl
    exact .im _ _
theorem implNext (m : MachineT) (hg : goodM m = true) (hx : m.2.2.1.length ≤ 1048576) (set : List Int) (t : Int) (hs : set.length ≤ 4000000) : Fn Try.prog 59 0 [.ag (machineC m), .im 1 (ints set), .v (.int .i64 t)] [] (.own 0 1 0 (nextL m set t).length) 1 [(0, ⟨3, 1, ints (nextL m set t)⟩)] := by
  refine Fn.mk (rs := [.tmp 6]) (nt := 41) Try.func59 (by kernel_rfl) rfl rfl rfl (by simp) ?_
  simp only [sl, machineC]
  refine wkc0 _ ?_
  refine Holds.loop (ι := Nat × List Int) (fun i => ⟨[(1, .im 1 (ints set)), (2, .v (.int .i64 t)), (3, .pb 0 4 0 0), (7, .own 1 1 0 i.2.length), (12, .im 1 (intss m.2.2.1)), (13, .v (.int .i64 m.2.2.1.length)), (14, .v (.int .i64 i.1))], [(1, ⟨3, 1, ints i.2⟩), (0, ⟨42, 4, [machineC m]⟩)], 2⟩)
    (fun i => i.1 ≤ m.2.2.1.length ∧ i.2 = addsA set t (m.2.2.1.take i.1)) (fun i => m.2.2.1.length - i.1) (0, []) ⟨Nat.zero_le _, rfl⟩ ?_ ?_
  · exact Cov.ofn (id) rfl (by simp [go_sem, List.take_of_length_le, ren, ren1, ren2, okr, okr1, okr2, ChkT, ChkN, BlkN, nf, machineC]) (by simp [go_sem, List.take_of_length_le, ren, ren1, ren2, okr, okr1, okr2, ChkT, ChkN, BlkN, nf, machineC])
  rintro ⟨i, L⟩ ⟨hi, hL⟩
  dsimp only at hi hL ⊢
  have stepi : wr64 ((i : Int) + 1) = ((i + 1 : Nat) : Int) := wr64_id (by omega) (by omega)
  have hll : L.length ≤ i := by
    have h2 := adds_len set t (m.2.2.1.take i)
    rw [List.length_take] at h2
    rw [hL]; omega
  refine wkc0 _ ?_
  refine Holds.cond rfl (fun h => ?_) (fun h => ?_)
  · have hlt : i < m.2.2.1.length := by simp at h; omega
    have hxi : m.2.2.1[i]? = some m.2.2.1[i] := List.getElem?_eq_getElem hlt
    obtain ⟨x, y, z, hr, hy0, hy3⟩ := good_arrow hg hlt
    rw [hr] at hxi
    have hsn := adds_snoc set t hxi
    have hta : takesA set t [x, y, z] = (y == t && decide (x ∈ set)) := rfl
    rw [hta] at hsn
    have ch := containsInt set x (by omega)
    have hb : (L.length + 1) * 8 ≤ 140737488355328 := by omega
    by_cases hyt : y = t
    · have hyt' : (y == t) = true := by simp [hyt]
      refine wkc (And.intro @hxi (And.intro @intsC.eq_1 (@hyt'))) _ ?_
      refine GS.cc (ch) rfl rfl rfl rfl (by simp [go_sem, List.take_of_length_le] <;> with_reducible rfl) rfl (by simp [go_sem, List.take_of_length_le]) ?_
      rw [hyt', Bool.true_and] at hsn
      cases hm : decide (x ∈ set) with
      | true =>
        rw [hm, if_pos rfl] at hsn
        refine wkc (And.intro @hxi (And.intro @intsC.eq_1 (@hb))) _ ?_
        refine ⟨(i + 1, L ++ [z]), ⟨by dsimp only; omega, by dsimp only; rw [hsn, ← hL]; rfl⟩, by dsimp only; omega, ?_⟩
        rw [stepi]
        exact Cov.ofn (nm [0, 4]) rfl (by simp [go_sem, List.take_of_length_le, ren, ren1, ren2, okr, okr1, okr2, ChkT, ChkN, BlkN, nf, machineC, ints_snoc]) (by simp [go_sem, List.take_of_length_le, ren, ren1, ren2, okr, okr1, okr2, ChkT, ChkN, BlkN, nf, machineC, ints_snoc])
      | false =>
        rw [hm] at hsn
        refine wkc (And.intro @hxi (@intsC.eq_1)) _ ?_
        refine ⟨(i + 1, L), ⟨by dsimp only; omega, by dsimp only; rw [hsn]; simpa using hL⟩, by dsimp only; omega, ?_⟩
        rw [stepi]
        exact Cov.ofn (id) rfl (by simp [go_sem, List.take_of_length_le, ren, ren1, ren2, okr, okr1, okr2, ChkT, ChkN, BlkN, nf, machineC]) (by simp [go_sem, List.take_of_length_le, ren, ren1, ren2, okr, okr1, okr2, ChkT, ChkN, BlkN, nf, machineC])
    · have hyt' : (y == t) = false := by simp [hyt]
      rw [hyt', Bool.false_and] at hsn
      refine wkc (And.intro @hxi (And.intro @intsC.eq_1 (@hyt'))) _ ?_
      refine ⟨(i + 1, L), ⟨by dsimp only; omega, by dsimp only; rw [hsn]; simpa using hL⟩, by dsimp only; omega, ?_⟩
      rw [stepi]
      exact Cov.ofn (id) rfl (by simp [go_sem, List.take_of_length_le, ren, ren1, ren2, okr, okr1, okr2, ChkT, ChkN, BlkN, nf, machineC]) (by simp [go_sem, List.take_of_length_le, ren, ren1, ren2, okr, okr1, okr2, ChkT, ChkN, BlkN, nf, machineC])
  · have hle : i = m.2.2.1.length := by simp at h; omega
    subst hle
    rw [List.take_length] at hL
    have cs := sortInts L (by omega)
    have cc := compactInts (sorted L) (by simp; omega)
    have hv : compacted (sorted L) = nextL m set t := by rw [compacted_sorted, hL]; rfl
    rw [hv] at cc
    simp only [sorted_len] at cc
    refine wkc0 _ ?_
    refine GS.fnn [1] (cs) rfl rfl rfl rfl (by simp [go_sem, List.take_of_length_le, ren, ren1, ren2, okr, okr1, okr2, ChkN, BlkN, List.range_succ, nf] <;> with_reducible rfl) (by simp [go_sem, List.take_of_length_le, ren, ren1, ren2, okr, okr1, okr2, ChkN, BlkN, List.range_succ, nf]) (by simp [go_sem, List.take_of_length_le, ren, ren1, ren2, okr, okr1, okr2, ChkN, BlkN, List.range_succ, nf]) (by simp [List.range_succ, lb]) (ChkN.toB (by simp [go_sem, List.take_of_length_le, ren, ren1, ren2, okr, okr1, okr2, ChkN, BlkN, List.range_succ, nf])) (by decide) (by simp) rfl (.nfr (by simp) .nil) (by simp [go_sem, List.take_of_length_le, ren, ren1, ren2, okr, okr1, okr2, ChkN, BlkN, List.range_succ, nf] <;> with_reducible rfl) ?_
    refine wkc0 _ ?_
    refine GS.fnn [1] (cc) rfl rfl rfl rfl (by simp [go_sem, List.take_of_length_le, ren, ren1, ren2, okr, okr1, okr2, ChkN, BlkN, List.range_succ, nf] <;> with_reducible rfl) (by simp [go_sem, List.take_of_length_le, ren, ren1, ren2, okr, okr1, okr2, ChkN, BlkN, List.range_succ, nf]) (by simp [go_sem, List.take_of_length_le, ren, ren1, ren2, okr, okr1, okr2, ChkN, BlkN, List.range_succ, nf]) (by simp [List.range_succ, lb]) (ChkN.toB (by simp [go_sem, List.take_of_length_le, ren, ren1, ren2, okr, okr1, okr2, ChkN, BlkN, List.range_succ, nf])) (by decide) (by simp) rfl (.nfr (by simp) .nil) (by simp [go_sem, List.take_of_length_le, ren, ren1, ren2, okr, okr1, okr2, ChkN, BlkN, List.range_succ, nf] <;> with_reducible rfl) ?_
    refine wkc0 _ ?_
    refine OutF.mkn (xs := ?_) (nm [1]) ?_ ?_ ?_ ?_ ?_ (by first | exact .inr rfl | exact .inl rfl)
    rotate_left
    · simp [go_sem, List.take_of_length_le] <;> with_reducible rfl
    · simp [go_sem, List.take_of_length_le, ren, ren1, ren2, okr, okr1, okr2, ChkN, BlkN, List.range_succ, nf]
    · simp [go_sem, List.take_of_length_le, ren, ren1, ren2, okr, okr1, okr2, ChkN, BlkN, List.range_succ, nf]
    · simp [go_sem, List.take_of_length_le, ren, ren1, ren2, okr, okr1, okr2, ChkN, BlkN, List.range_succ, nf]
    · rfl
end Go.Proofs.Ytejpklajfcngbaa.En
end
section
namespace Go.Proofs.Ytejpklajfcngbaa.En
open Go.RowKit
set_option linter.unusedSimpArgs false
set_option linter.unusedVariables false
set_option maxHeartbeats 4000000
def subsL : List Int → List (List Int)
  | [] => [[]]
  | a :: r => subsL r ++ (subsL r).map (a :: ·)
theorem subsL_len : ∀ l, (subsL l).length = 2 ^ l.length
  | [] => rfl
  | a :: r => by simp only [subsL, List.length_append, List.length_map, subsL_len r, List.length_cons, Nat.pow_succ]; omega
theorem subsL_mem : ∀ (L s : List Int), L.Pairwise (· < ·) → s.Pairwise (· < ·) → (∀ x ∈ s, x ∈ L) → s ∈ subsL L
  | [], s, _, _, h => by
    cases s with
    | nil => simp [subsL]
    | cons x s => have := h x (by simp); cases this
  | a :: r, s, hL, hs, h => by
    have ha := (List.pairwise_cons.1 hL).1
    have hr := (List.pairwise_cons.1 hL).2
    simp only [subsL, List.mem_append, List.mem_map]
    cases s with
    | nil => exact .inl (subsL_mem r [] hr (by simp) (fun x hx => by cases hx))
    | cons x s =>
      have hx := (List.pairwise_cons.1 hs).1
      have hs' := (List.pairwise_cons.1 hs).2
      by_cases e : x = a
      · subst e
        refine .inr ⟨s, subsL_mem r s hr hs' (fun y hy => ?_), rfl⟩
        have h1 := hx y hy
        rcases List.mem_cons.1 (h y (by simp [hy])) with e | e
        · omega
        · exact e
      · refine .inl (subsL_mem r (x :: s) hr hs (fun y hy => ?_))
        have hax : a < x := by
          rcases List.mem_cons.1 (h x (by simp)) with e' | e'
          · exact absurd e' e
          · exact ha x e'
        rcases List.mem_cons.1 (h y hy) with e' | e'
        · subst e'
          rcases List.mem_cons.1 hy with e2 | e2
          · omega
          · have := hx y e2; omega
        · exact e'
theorem nodup_le {α : Type} [DecidableEq α] : ∀ (l L : List α), l.Nodup → (∀ x ∈ l, x ∈ L) → l.length ≤ L.length
  | [], _, _, _ => Nat.zero_le _
  | x :: l, L, hn, h => by
    have hx : x ∈ L := h x (by simp)
    have hn' := List.nodup_cons.1 hn
    have := nodup_le l (L.erase x) hn'.2 (fun y hy => (List.mem_erase_of_ne (fun e => by subst e; exact hn'.1 hy)).2 (h y (by simp [hy])))
    rw [List.length_erase_of_mem hx] at this
    have hp : 0 < L.length := List.length_pos_of_mem hx
    simp only [List.length_cons]; omega
def six : List Int := [0, 1, 2, 3, 4, 5]
def okS (s : List Int) : Prop := s.Pairwise (· < ·) ∧ ∀ x ∈ s, x ∈ six
theorem six_incr : six.Pairwise (· < ·) := by decide
theorem mem_six {x : Int} (h0 : 0 ≤ x) (h1 : x ≤ 5) : x ∈ six := by
  have : x = 0 ∨ x = 1 ∨ x = 2 ∨ x = 3 ∨ x = 4 ∨ x = 5 := by omega
  rcases this with rfl | rfl | rfl | rfl | rfl | rfl <;> decide
theorem okS_sub {s : List Int} (h : okS s) : s ∈ subsL six := subsL_mem six s six_incr h.1 h.2
theorem sets_few {sets : List (List Int)} (hn : sets.Nodup) (h : ∀ s ∈ sets, okS s) : sets.length ≤ 64 := by
  have := nodup_le sets (subsL six) hn (fun s hs => okS_sub (h s hs))
  rwa [subsL_len] at this
theorem good_arrow2 {m : MachineT} (h : goodM m = true) {a : List Int} (ha : a ∈ m.2.2.1) : 0 ≤ a.getD 2 0 ∧ a.getD 2 0 ≤ 5 := by
  obtain ⟨i, hi, rfl⟩ := List.mem_iff_getElem.1 ha
  have hB : 1 ≤ m.1 ∧ m.1 ≤ 6 := by
    simp only [goodM, Bool.and_eq_true] at h
    have := h.1.1.1
    simpa [inR] using this
  simp only [goodM, Bool.and_eq_true] at h
  have ha : goodAt m i = true := by
    cases e : goodAt m i with
    | true => rfl
    | false => have := h.2; rw [allB_no hi e] at this; cases this
  have hd : m.2.2.1.getD i [] = m.2.2.1[i] := by simp [hi]
  simp only [goodAt, hd, Bool.and_eq_true, decide_eq_true_eq] at ha
  have hz : 0 ≤ (m.2.2.1[i]).getD 2 0 ∧ (m.2.2.1[i]).getD 2 0 ≤ m.1 - 1 := by simpa [inR] using ha.1.2
  exact ⟨hz.1, by omega⟩
theorem next_ok {m : MachineT} (hg : goodM m = true) (set : List Int) (t : Int) : okS (nextL m set t) := by
  have h := foldl_put (addsA set t m.2.2.1) [] (by simp)
  refine ⟨h.1, fun x hx => ?_⟩
  rcases (h.2 x).1 hx with e | e
  · cases e
  · simp only [addsA, List.mem_map, List.mem_filter] at e
    obtain ⟨a, ⟨ha, _⟩, rfl⟩ := e
    have := good_arrow2 hg ha
    exact mem_six this.1 this.2
theorem okS_len {s : List Int} (h : okS s) : s.length ≤ 6 := nodup_le s six (h.1.imp (fun h e => by omega)) h.2
def plS (sets : List (List Int)) (s : List Int) : Int := fstP (fun o => decide (o = s)) sets 0
def atS (sets : List (List Int)) (s : List Int) : Int := if plS sets s < 0 then (sets.length : Int) else plS sets s
def addS (sets : List (List Int)) (s : List Int) : List (List Int) := if plS sets s < 0 then sets ++ [s] else sets
theorem plS_no {sets : List (List Int)} {s : List Int} (h : s ∉ sets) : plS sets s = -1 :=
  fstP_no sets 0 fun j x hj => by
    have hx : x ∈ sets := List.mem_of_getElem? hj
    simp only [decide_eq_false_iff_not]; rintro rfl; exact h hx
theorem plS_at {sets : List (List Int)} {s : List Int} (hn : sets.Nodup) {i : Nat} (h : sets[i]? = some s) : plS sets s = (i : Int) := by
  have := fstP_at (p := fun o => decide (o = s)) sets i 0 h (by simp) (fun j hj x hx => by
    simp only [decide_eq_false_iff_not]; rintro rfl
    obtain ⟨h1, e1⟩ := List.getElem?_eq_some_iff.1 h
    obtain ⟨h2, e2⟩ := List.getElem?_eq_some_iff.1 hx
    exact (List.pairwise_iff_getElem.1 hn j i h2 h1 hj) (e2.trans e1.symm))
  rw [plS, this, Nat.zero_add]
theorem plS_cases {sets : List (List Int)} (s : List Int) (hn : sets.Nodup) : (s ∉ sets ∧ plS sets s = -1) ∨ ∃ i, i < sets.length ∧ sets[i]? = some s ∧ plS sets s = (i : Int) := by
  by_cases h : s ∈ sets
  · obtain ⟨i, hi, e⟩ := List.mem_iff_getElem.1 h
    have hi' : sets[i]? = some s := by rw [List.getElem?_eq_getElem hi, e]
    exact .inr ⟨i, hi, hi', plS_at hn hi'⟩
  · exact .inl ⟨h, plS_no h⟩
theorem nodup_snoc {α : Type} {l : List α} {a : α} (h : l.Nodup) (ha : a ∉ l) : (l ++ [a]).Nodup := by
  refine List.pairwise_append.2 ⟨h, by simp, fun x hx y hy => ?_⟩
  rw [List.mem_singleton] at hy; subst hy
  rintro rfl; exact ha hx
structure OkSets (sets : List (List Int)) : Prop where
  nd : sets.Nodup
  ok : ∀ s ∈ sets, okS s
theorem OkSets.few {sets : List (List Int)} (h : OkSets sets) : sets.length ≤ 64 := sets_few h.nd h.ok
theorem OkSets.add {sets : List (List Int)} (h : OkSets sets) {s : List Int} (hs : okS s) : OkSets (addS sets s) := by
  unfold addS
  rcases plS_cases s h.nd with ⟨h1, h2⟩ | ⟨i, hi, h1, h2⟩
  · rw [h2, if_pos (by decide)]
    refine ⟨nodup_snoc h.nd h1, fun x hx => ?_⟩
    rcases List.mem_append.1 hx with e | e
    · exact h.ok x e
    · rw [List.mem_singleton] at e; rw [e]; exact hs
  · rw [h2, if_neg (by omega)]; exact h
theorem addS_get {sets : List (List Int)} {s x : List Int} {i : Nat} (h : sets[i]? = some x) : (addS sets s)[i]? = some x := by
  unfold addS
  split
  · rw [List.getElem?_append_left (List.getElem?_eq_some_iff.1 h).1, h]
  · exact h
theorem addS_len (sets : List (List Int)) (s : List Int) : sets.length ≤ (addS sets s).length := by
  unfold addS; split <;> simp
theorem atS_in {sets : List (List Int)} (s : List Int) (hn : sets.Nodup) : 0 ≤ atS sets s ∧ atS sets s < (addS sets s).length := by
  unfold atS addS
  rcases plS_cases s hn with ⟨h1, h2⟩ | ⟨i, hi, h1, h2⟩
  · simp [h2]; omega
  · rw [h2, if_neg (by omega), if_neg (by omega)]; omega
def colS (m : MachineT) (cur : List Int) (p : List (List Int) × List Int) (t : Nat) : List (List Int) × List Int := (addS p.1 (nextL m cur t), p.2 ++ [atS p.1 (nextL m cur t)])
def rowS (m : MachineT) (cur : List Int) (sets : List (List Int)) (n : Nat) : List (List Int) × List Int := (List.range n).foldl (colS m cur) (sets, [])
theorem rowS_next (m : MachineT) (cur : List Int) (sets : List (List Int)) (n : Nat) : rowS m cur sets (n + 1) = colS m cur (rowS m cur sets n) n := by
  simp [rowS, List.range_succ]
theorem rowS_ok {m : MachineT} (hg : goodM m = true) (cur : List Int) {sets : List (List Int)} (h : OkSets sets) : ∀ n, OkSets (rowS m cur sets n).1 ∧ (rowS m cur sets n).2.length = n ∧ sets.length ≤ (rowS m cur sets n).1.length ∧
    (∀ (i : Nat) (x : List Int), sets[i]? = some x → (rowS m cur sets n).1[i]? = some x) ∧ ∀ y ∈ (rowS m cur sets n).2, 0 ≤ y ∧ y < (rowS m cur sets n).1.length
  | 0 => ⟨h, rfl, Nat.le_refl _, fun i x hx => hx, fun y hy => by cases hy⟩
  | n + 1 => by
    obtain ⟨h1, h2, h3, h4, h5⟩ := rowS_ok hg cur h n
    rw [rowS_next]
    refine ⟨h1.add (next_ok hg cur n), by simp [colS, h2], Nat.le_trans h3 (addS_len _ _), fun i x hx => addS_get (h4 i x hx), fun y hy => ?_⟩
    have hle := addS_len (rowS m cur sets n).1 (nextL m cur n)
    simp only [colS] at hy ⊢
    rcases List.mem_append.1 hy with e | e
    · have := h5 y e; omega
    · rw [List.mem_singleton] at e; rw [e]; exact atS_in _ h1.nd
def setsF (m : MachineT) : Nat → Nat → List (List Int) → List (List Int) → List (List Int) × List (List Int)
  | 0, _, sets, next => (sets, next)
  | f + 1, k, sets, next => match sets[k]? with
    | none => (sets, next)
    | some cur => setsF m f (k + 1) (rowS m cur sets m.2.1.toNat).1 (next ++ [(rowS m cur sets m.2.1.toNat).2])
def setsM (m : MachineT) : List (List Int) × List (List Int) := setsF m 64 0 [[0]] []
structure SetsI (m : MachineT) (k : Nat) (sets next : List (List Int)) : Prop where
  ok : OkSets sets
  le : k ≤ sets.length
  ln : next.length = k
  rows : ∀ r ∈ next, r.length = m.2.1.toNat ∧ ∀ y ∈ r, 0 ≤ y ∧ y < sets.length
  fin : setsF m (64 - k) k sets next = setsM m
theorem SetsI.zero (m : MachineT) : SetsI m 0 [[0]] [] :=
  ⟨⟨by simp, fun s hs => by rw [List.mem_singleton] at hs; subst hs; exact ⟨by simp, fun x hx => by rw [List.mem_singleton] at hx; subst hx; decide⟩⟩, Nat.zero_le _, rfl, fun r hr => (by cases hr), rfl⟩
theorem SetsI.step {m : MachineT} (hg : goodM m = true) {k : Nat} {sets next : List (List Int)} (h : SetsI m k sets next) {cur : List Int} (hc : sets[k]? = some cur) :
    SetsI m (k + 1) (rowS m cur sets m.2.1.toNat).1 (next ++ [(rowS m cur sets m.2.1.toNat).2]) := by
  obtain ⟨h1, h2, h3, h4, h5⟩ := rowS_ok hg cur h.ok m.2.1.toNat
  have hk := (List.getElem?_eq_some_iff.1 hc).1
  have hf := h.ok.few
  refine ⟨h1, by omega, by simp [h.ln], fun r hr => ?_, ?_⟩
  · rcases List.mem_append.1 hr with e | e
    · refine ⟨(h.rows r e).1, fun y hy => ?_⟩
      have := (h.rows r e).2 y hy; omega
    · rw [List.mem_singleton] at e; rw [e]; exact ⟨h2, h5⟩
  · have e := h.fin
    rw [show 64 - k = (64 - (k + 1)) + 1 by omega] at e
    rw [setsF, hc] at e
    exact e
theorem SetsI.end {m : MachineT} {k : Nat} {sets next : List (List Int)} (h : SetsI m k sets next) (hk : sets.length ≤ k) : setsM m = (sets, next) := by
  have e := h.fin
  cases hf : 64 - k with
  | zero => rw [hf, setsF] at e; exact e.symm
  | succ f =>
    rw [hf, setsF, List.getElem?_eq_none_iff.2 hk] at e
    exact e.symm
def setsV (m : MachineT) : List (List Int) × List (List Int) × Bool := if goodM m then ((setsM m).1, (setsM m).2, true) else ([], [], false)
structure SetsO (m : MachineT) (sets next : List (List Int)) : Prop where
  ok : OkSets sets
  ln : next.length = sets.length
  rows : ∀ r ∈ next, r.length = m.2.1.toNat ∧ ∀ y ∈ r, 0 ≤ y ∧ y < sets.length
theorem setsM_ok {m : MachineT} (hg : goodM m = true) : SetsO m (setsM m).1 (setsM m).2 := by
  have H : ∀ (f k : Nat) (sets next : List (List Int)), SetsI m k sets next → 64 - k = f → SetsO m (setsM m).1 (setsM m).2 := by
    intro f
    induction f with
    | zero =>
      intro k sets next h hf
      have := h.ok.few
      have hle := h.le
      rw [h.end (by omega)]
      exact ⟨h.ok, by rw [h.ln]; show k = sets.length; omega, h.rows⟩
    | succ f ih =>
      intro k sets next h hf
      cases hc : sets[k]? with
      | none =>
        have hk := List.getElem?_eq_none_iff.1 hc
        have hle := h.le
        rw [h.end hk]
        exact ⟨h.ok, by rw [h.ln]; show k = sets.length; omega, h.rows⟩
      | some cur => exact ih (k + 1) _ _ (h.step hg hc) (by omega)
  exact H 64 0 _ _ (SetsI.zero m) rfl
end Go.Proofs.Ytejpklajfcngbaa.En
end
section
namespace Go.Proofs.Ytejpklajfcngbaa.En
open Go.RowKit
set_option linter.unusedSimpArgs false
set_option linter.unusedVariables false
set_option maxHeartbeats 8000000
def wordX (toks : Int) (w : List Int) : Bool := decide (w.length ≤ 10) && w.all fun n => inR n 0 (toks - 1)
theorem isWord1X (n t : Int) (h0 : -1000000 ≤ t) (h1 : t ≤ 1000000) : Pure Try.prog 99 [.v (.int .i64 n), .pi [.v (.int .i64 t)]] (.v (.bool (!inR n 0 (t - 1)))) := by
  refine Pure.mk (rs := [.tmp 3]) (nt := 9) Try.func99 (by kernel_rfl) rfl rfl rfl (by simp) ?_
  simp only [sl]
  have hw : wr64 (t - 1) = t - 1 := wr64_id (by omega) (by omega)
  refine wk (@hw) _ ?_
  refine GS.cc (implIn n 0 (t - 1)) rfl rfl rfl rfl (by simp [go_sem, List.take_of_length_le] <;> with_reducible rfl) rfl (by simp [go_sem, List.take_of_length_le]) ?_
  refine wk0 _ ?_
  refine Out.mk (xs := ?_) ?_ ?_ (by first | exact .inr rfl | exact .inl rfl)
  rotate_left
  · simp [go_sem, List.take_of_length_le] <;> with_reducible rfl
  exact .v _
theorem isWordX (t : Int) (w : List Int) (h0 : -1000000 ≤ t) (h1 : t ≤ 1000000) (hw : w.length < 4611686018427387904) : Pure Try.prog 58 [.v (.int .i64 t), .im 1 (ints w)] (.v (.bool (wordX t w))) := by
  refine Pure.mk (rs := [.tmp 4]) (nt := 14) Try.func58 (by kernel_rfl) rfl rfl rfl (by simp) ?_
  simp only [sl]
  have hc := containsFuncInt 99 [.pi [.v (.int .i64 t)]] (fun n => !inR n 0 (t - 1)) w hw rfl (fun x _ => isWord1X x t h0 h1)
  unfold wordX
  rw [all_not_any (fun n => inR n 0 (t - 1)) w, show decide (w.length ≤ 10) = decide ((w.length : Int) ≤ 10) by rw [decide_eq_decide]; omega]
  generalize (w.any fun n => !inR n 0 (t - 1)) = b at hc
  refine wk0 _ ?_
  refine GS.guard (t := 8) rfl (fun h => ?_) (fun h => ?_)
  · refine wk0 _ ?_
    refine GS.cd (hc) rfl rfl rfl rfl (by simp [go_sem, List.take_of_length_le] <;> with_reducible rfl) rfl (by exact .cons (.im _ _) (.cons (Fz.fnL (.cons (Fz.box rfl rfl rfl rfl) .nil)) .nil)) rfl ?_
    refine wk0 _ ?_
    rw [h]
    refine Out.mk (xs := ?_) ?_ ?_ (by first | exact .inr rfl | exact .inl rfl)
    rotate_left
    · simp [go_sem, List.take_of_length_le] <;> with_reducible rfl
    exact .v _
  · refine wk0 _ ?_
    rw [h]
    refine Out.mk (xs := ?_) ?_ ?_ (by first | exact .inr rfl | exact .inl rfl)
    rotate_left
    · simp [go_sem, List.take_of_length_le] <;> with_reducible rfl
    exact .v _
def endsV (m : MachineT) (set : List Int) : Bool := set.any fun k => decide (k ∈ m.2.2.2)
theorem l16End (m : MachineT) (hy : m.2.2.2.length ≤ 1048576) (set : List Int) (hs : set.length ≤ 4000000) : Pure Try.prog 55 [.ag (machineC m), .im 1 (ints set)] (.v (.bool (endsV m set))) := by
  refine Pure.mk (rs := [.tmp 4]) (nt := 18) Try.func55 (by kernel_rfl) rfl rfl rfl (by simp) ?_
  simp only [sl, machineC]
  refine wkc0 _ ?_
  refine Holds.loop (ι := Nat) (fun i => ⟨[(2, .pb 0 4 0 0), (7, .im 1 (ints set)), (8, .v (.int .i64 set.length)), (9, .v (.int .i64 i))], [(0, ⟨42, 4, [machineC m]⟩)], 1⟩) (fun i => i ≤ set.length ∧ (set.take i).any (fun k => decide (k ∈ m.2.2.2)) = false) (fun i => set.length - i) 0 ⟨Nat.zero_le _, rfl⟩ ?_ ?_
  · exact Cov.ofn (id) rfl (by simp [go_sem, List.take_of_length_le, ren, ren1, ren2, okr, okr1, okr2, ChkT, ChkN, BlkN, nf, machineC]) (by simp [go_sem, List.take_of_length_le, ren, ren1, ren2, okr, okr1, okr2, ChkT, ChkN, BlkN, nf, machineC])
  rintro i ⟨hi, hno⟩
  refine wkc0 _ ?_
  refine Holds.cond rfl (fun h => ?_) (fun h => ?_)
  · have hlt : i < set.length := by simp at h; omega
    have hxi : set[i]? = some set[i] := List.getElem?_eq_getElem hlt
    generalize set[i] = x at hxi
    have ch := l1Has m.2.2.2 x (by omega)
    rw [hasN_dec] at ch
    refine wkc (And.intro @hxi (@machineC.eq_1)) _ ?_
    refine GS.cc (ch) rfl rfl rfl rfl (by simp [go_sem, List.take_of_length_le] <;> with_reducible rfl) rfl (by simp [go_sem, List.take_of_length_le]) ?_
    cases hm : decide (x ∈ m.2.2.2) with
    | true =>
      rw [show endsV m set = true from any_at hxi hm]
      refine wkc0 _ ?_
      refine Out.mk (xs := ?_) ?_ ?_ (by first | exact .inr rfl | exact .inl rfl)
      rotate_left
      · simp [go_sem, List.take_of_length_le] <;> with_reducible rfl
      exact .v _
    | false =>
      refine wkc0 _ ?_
      refine ⟨i + 1, ⟨by omega, ?_⟩, by omega, ?_⟩
      · rw [List.take_add_one, hxi, List.any_append, hno]; simpa using hm
      rw [wr64_id (by omega) (by omega)]
      exact Cov.ofn (id) rfl (by simp [go_sem, List.take_of_length_le, ren, ren1, ren2, okr, okr1, okr2, ChkT, ChkN, BlkN, nf, machineC]) (by simp [go_sem, List.take_of_length_le, ren, ren1, ren2, okr, okr1, okr2, ChkT, ChkN, BlkN, nf, machineC])
  · have hle : i = set.length := by simp at h; omega
    subst hle
    rw [List.take_length] at hno
    rw [show endsV m set = false from hno]
    refine wkc0 _ ?_
    refine Out.mk (xs := ?_) ?_ ?_ (by first | exact .inr rfl | exact .inl rfl)
    rotate_left
    · simp [go_sem, List.take_of_length_le] <;> with_reducible rfl
    exact .v _
theorem ends1 (m : MachineT) (hy : m.2.2.2.length ≤ 1048576) (k : Int) : Pure Try.prog 96 [.v (.int .i64 k), .pi (machineC m)] (.v (.bool (decide (k ∈ m.2.2.2)))) := by
  refine Pure.mk (rs := [.tmp 3]) (nt := 8) Try.func96 (by kernel_rfl) rfl rfl rfl (by simp) ?_
  simp only [sl, machineC]
  have ch := containsInt m.2.2.2 k (by omega)
  refine wkc0 _ ?_
  refine GS.cc (ch) rfl rfl rfl rfl (by simp [go_sem, List.take_of_length_le] <;> with_reducible rfl) rfl (by simp [go_sem, List.take_of_length_le]) ?_
  refine wkc0 _ ?_
  refine Out.mk (xs := ?_) ?_ ?_ (by first | exact .inr rfl | exact .inl rfl)
  rotate_left
  · simp [go_sem, List.take_of_length_le] <;> with_reducible rfl
  exact .v _
theorem implEnds (m : MachineT) (hy : m.2.2.2.length ≤ 1048576) (set : List Int) (hs : set.length ≤ 4000000) : Pure Try.prog 51 [.ag (machineC m), .im 1 (ints set)] (.v (.bool (endsV m set))) := by
  refine Pure.mk (rs := [.tmp 4]) (nt := 8) Try.func51 (by kernel_rfl) rfl rfl rfl (by simp) ?_
  simp only [sl, machineC]
  have hcf := containsFuncInt 96 [.pi (machineC m)] (fun k => decide (k ∈ m.2.2.2)) set (by omega) rfl (fun x hx => ends1 m hy x)
  refine wkc0 _ ?_
  refine GS.cd (hcf) rfl rfl rfl rfl (by simp [go_sem, List.take_of_length_le] <;> with_reducible rfl) rfl (by exact .cons (.im _ _) (.cons (Fz.fnL (.cons (Fz.box rfl rfl rfl rfl) .nil)) .nil)) rfl ?_
  refine wkc0 _ ?_
  refine Out.mk (xs := ?_) ?_ ?_ (by first | exact .inr rfl | exact .inl rfl)
  rotate_left
  · simp [go_sem, List.take_of_length_le] <;> with_reducible rfl
  exact .v _
def takesV (m : MachineT) (w : List Int) : Bool × Bool := if goodM m && wordX m.2.1 w then (endsV m (w.foldl (nextL m) [0]), true) else (false, false)
theorem next_len (m : MachineT) (hx : m.2.2.1.length ≤ 1048576) (set : List Int) (t : Int) : (nextL m set t).length ≤ 4000000 := by
  have h1 := foldl_len (addsA set t m.2.2.1) []
  have h2 := adds_len set t m.2.2.1
  simp only [List.length_nil] at h1
  unfold nextL; omega
theorem fold_snoc (m : MachineT) {w : List Int} {i : Nat} {t : Int} (h : w[i]? = some t) : (w.take (i + 1)).foldl (nextL m) [0] = nextL m ((w.take i).foldl (nextL m) [0]) t := by
  rw [List.take_add_one, h, List.foldl_append]; rfl
theorem implTakes (m : MachineT) (w : List Int) (hx : m.2.2.1.length ≤ 1048576) (hs : ∀ e ∈ m.2.2.1, e.length < 4611686018427387904) (hy : m.2.2.2.length ≤ 1048576) (hw : w.length < 4611686018427387904) : Pure Try.prog 23 [.ag (machineC m), .im 1 (ints w)] (.tu [.v (.bool (takesV m w).1), .v (.bool (takesV m w).2)]) := by
  refine Pure.mk (rs := [.tmp 4, .tmp 5]) (nt := 34) Try.func23 (by kernel_rfl) rfl rfl rfl (by simp) ?_
  simp only [sl, machineC]
  have c1 := implGoodX m (by omega) hs (by omega)
  simp only [machineC] at c1
  unfold takesV
  refine wkc0 _ ?_
  cases hg : goodM m with
  | false =>
    rw [hg] at c1
    refine GS.cc (c1) rfl rfl rfl rfl (by simp [go_sem, List.take_of_length_le] <;> with_reducible rfl) rfl (by simp [go_sem, List.take_of_length_le]) ?_
    refine wkc0 _ ?_
    refine Out.mk (xs := ?_) ?_ ?_ (by first | exact .inr rfl | exact .inl rfl)
    rotate_left
    · simp [go_sem, List.take_of_length_le] <;> with_reducible rfl
    exact Fz.tuL (.cons (.v _) (.cons (.v _) .nil))
  | true =>
    rw [hg] at c1
    rw [Bool.true_and]
    have hT : 1 ≤ m.2.1 ∧ m.2.1 ≤ 4 := by
      simp only [goodM, Bool.and_eq_true] at hg
      have := hg.1.1.2
      simpa [inR] using this
    have hw1 : wr64 (m.2.1 - 1) = m.2.1 - 1 := wr64_id (by omega) (by omega)
    refine GS.cc (c1) rfl rfl rfl rfl (by simp [go_sem, List.take_of_length_le] <;> with_reducible rfl) rfl (by simp [go_sem, List.take_of_length_le]) ?_
    have ca := isWordX m.2.1 w (by omega) (by omega) hw
    refine wkc0 _ ?_
    generalize wordX m.2.1 w = b at ca ⊢
    refine GS.cc (ca) rfl rfl rfl rfl (by simp [go_sem, List.take_of_length_le] <;> with_reducible rfl) rfl (by simp [go_sem, List.take_of_length_le]) ?_
    cases b with
    | false =>
      refine wkc0 _ ?_
      refine Out.mk (xs := ?_) ?_ ?_ (by first | exact .inr rfl | exact .inl rfl)
      rotate_left
      · simp [go_sem, List.take_of_length_le] <;> with_reducible rfl
      exact Fz.tuL (.cons (.v _) (.cons (.v _) .nil))
    | true =>
      simp only [if_true]
      refine wkc0 _ ?_
      refine Holds.loop (ι := Nat × List Int) (fun i => ⟨[(2, .pb 0 4 0 0), (6, .own 1 1 0 i.2.length), (20, .im 1 (ints w)), (21, .v (.int .i64 w.length)), (22, .v (.int .i64 i.1))], [(1, ⟨3, 1, ints i.2⟩), (0, ⟨42, 4, [machineC m]⟩)], 2⟩)
        (fun i => i.1 ≤ w.length ∧ i.2.length ≤ 4000000 ∧ i.2 = (w.take i.1).foldl (nextL m) [0]) (fun i => w.length - i.1) (0, [0]) ⟨Nat.zero_le _, by simp, rfl⟩ ?_ ?_
      · exact Cov.ofn (id) rfl (by simp [go_sem, List.take_of_length_le, ren, ren1, ren2, okr, okr1, okr2, ChkT, ChkN, BlkN, nf, machineC, ints]) (by simp [go_sem, List.take_of_length_le, ren, ren1, ren2, okr, okr1, okr2, ChkT, ChkN, BlkN, nf, machineC, ints])
      rintro ⟨i, L⟩ ⟨hi, hLl, hL⟩
      dsimp only at hi hL hLl ⊢
      have stepi : wr64 ((i : Int) + 1) = ((i + 1 : Nat) : Int) := wr64_id (by omega) (by omega)
      refine wkc0 _ ?_
      refine Holds.cond rfl (fun h => ?_) (fun h => ?_)
      · have hlt : i < w.length := by simp at h; omega
        have hxi : w[i]? = some w[i] := List.getElem?_eq_getElem hlt
        generalize w[i] = t at hxi
        have hsn := fold_snoc m hxi
        have cn := implNext m hg hx L t hLl
        refine wkc (And.intro @hxi (@machineC.eq_1)) _ ?_
        refine GS.fnnd (cn) rfl rfl rfl rfl (by simp [go_sem, List.take_of_length_le, ren, ren1, ren2, okr, okr1, okr2, List.range_succ, nf, machineC] <;> with_reducible rfl) (by exact (.cons (Fz.cl rfl) (.cons (Fz.all rfl rfl (by simp) rfl (ints_cl _)) (.cons (.v _) .nil)))) (by simp) (by simp [go_sem, List.take_of_length_le, ren, ren1, ren2, okr, okr1, okr2, List.range_succ, nf, machineC]) (by simp [go_sem, List.take_of_length_le, ren, ren1, ren2, okr, okr1, okr2, List.range_succ, nf, machineC]) rfl (.nfr (by simp) .nil) (by simp [go_sem, List.take_of_length_le, ren, ren1, ren2, okr, okr1, okr2, List.range_succ, nf, machineC] <;> with_reducible rfl) ?_
        refine wkc0 _ ?_
        refine ⟨(i + 1, nextL m L t), ⟨by dsimp only; omega, next_len m hx L t, by dsimp only; rw [hsn, ← hL]⟩, by dsimp only; omega, ?_⟩
        rw [stepi]
        exact Cov.ofn (nm [0, 2]) rfl (by simp [go_sem, List.take_of_length_le, ren, ren1, ren2, okr, okr1, okr2, ChkT, ChkN, BlkN, nf, machineC]) (by simp [go_sem, List.take_of_length_le, ren, ren1, ren2, okr, okr1, okr2, ChkT, ChkN, BlkN, nf, machineC])
      · have hle : i = w.length := by simp at h; omega
        subst hle
        rw [List.take_length] at hL
        have ce := implEnds m hy L hLl
        rw [hL] at ce
        subst hL
        refine wkc (@machineC.eq_1) _ ?_
        refine GS.cd (ce) rfl rfl rfl rfl (by simp [go_sem, List.take_of_length_le, machineC] <;> with_reducible rfl) rfl (by exact .cons (Fz.cl rfl) (.cons (Fz.all rfl rfl (by simp) rfl (ints_cl _)) .nil)) rfl ?_
        refine wkc0 _ ?_
        refine Out.mk (xs := ?_) ?_ ?_ (by first | exact .inr rfl | exact .inl rfl)
        rotate_left
        · simp [go_sem, List.take_of_length_le] <;> with_reducible rfl
        exact Fz.tuL (.cons (.v _) (.cons (.v _) .nil))
end Go.Proofs.Ytejpklajfcngbaa.En
end
section
namespace Go.Proofs.Ytejpklajfcngbaa.En
open Go.RowKit
set_option linter.unusedSimpArgs false
set_option linter.unusedVariables false
set_option maxHeartbeats 4000000
def keyTail (cls row : List Int) : List Int := row.map fun to => cls.getD to.toNat 0
def keyAt (cls : List Int) (next : List (List Int)) (i : Nat) : List Int := cls.getD i 0 :: keyTail cls (next.getD i [])
def putK (cls : List Int) (next : List (List Int)) (p : List (List Int) × List Int) (i : Nat) : List (List Int) × List Int := (addS p.1 (keyAt cls next i), p.2 ++ [atS p.1 (keyAt cls next i)])
def rndS (cls : List Int) (next : List (List Int)) (n : Nat) : List (List Int) × List Int := (List.range n).foldl (putK cls next) ([], [])
theorem rndS_next (cls : List Int) (next : List (List Int)) (n : Nat) : rndS cls next (n + 1) = putK cls next (rndS cls next n) n := by simp [rndS, List.range_succ]
theorem addS_mem (sets : List (List Int)) (s : List Int) : s ∈ addS sets s := by
  unfold addS
  split
  · simp
  · rename_i h
    by_cases hm : s ∈ sets
    · exact hm
    · rw [plS_no hm] at h; exact absurd (by decide) h
theorem addS_sub {sets : List (List Int)} {s x : List Int} (h : x ∈ sets) : x ∈ addS sets s := by
  unfold addS; split
  · exact List.mem_append_left _ h
  · exact h
theorem addS_nd {sets : List (List Int)} {s : List Int} (h : sets.Nodup) : (addS sets s).Nodup := by
  unfold addS
  split
  · rename_i hn
    refine nodup_snoc h fun hm => ?_
    obtain ⟨i, hi, e⟩ := List.mem_iff_getElem.1 hm
    have := plS_at h (show sets[i]? = some s by rw [List.getElem?_eq_getElem hi, e])
    omega
  · exact h
theorem addS_len1 (sets : List (List Int)) (s : List Int) : (addS sets s).length ≤ sets.length + 1 := by unfold addS; split <;> simp
structure RndO (cls : List Int) (next : List (List Int)) (n : Nat) (K : List (List Int)) (F : List Int) : Prop where
  nd : K.Nodup
  ln : F.length = n
  kl : K.length ≤ n
  all : ∀ i, i < n → keyAt cls next i ∈ K
  rg : ∀ y ∈ F, 0 ≤ y ∧ y < K.length
  cov : ∀ j : Nat, j < K.length → (j : Int) ∈ F
  from_ : ∀ s ∈ K, ∃ i, i < n ∧ s = keyAt cls next i
theorem rndS_ok (cls : List Int) (next : List (List Int)) : ∀ n, RndO cls next n (rndS cls next n).1 (rndS cls next n).2
  | 0 => ⟨List.nodup_nil, rfl, Nat.le_refl _, fun i hi => absurd hi (Nat.not_lt_zero i), fun y hy => (by cases hy), fun j hj => absurd hj (Nat.not_lt_zero j), fun s hs => (by cases hs)⟩
  | n + 1 => by
    have h := rndS_ok cls next n
    rw [rndS_next]
    generalize rndS cls next n = p at h
    obtain ⟨K, F⟩ := p
    dsimp only [putK] at h ⊢
    generalize hs : keyAt cls next n = s
    have hle := addS_len K s
    have hl1 := addS_len1 K s
    have hat := atS_in s h.nd
    refine ⟨addS_nd h.nd, by simp [h.ln], by have := h.kl; omega, fun i hi => ?_, fun y hy => ?_, fun j hj => ?_, fun x hx => ?_⟩
    · by_cases e : i = n
      · subst e; rw [hs]; exact addS_mem K s
      · exact addS_sub (h.all i (by omega))
    · rcases List.mem_append.1 hy with e | e
      · have := h.rg y e; omega
      · rw [List.mem_singleton] at e; omega
    · by_cases hj' : j < K.length
      · exact List.mem_append_left _ (h.cov j hj')
      · have hn : plS K s < 0 := by
          unfold addS at hj
          split at hj
          · assumption
          · omega
        refine List.mem_append_right _ (List.mem_singleton.2 ?_)
        unfold atS; rw [if_pos hn]; omega
    · have : x ∈ K ∨ x = s := by
        unfold addS at hx
        split at hx
        · rcases List.mem_append.1 hx with e | e
          · exact .inl e
          · exact .inr (List.mem_singleton.1 e)
        · exact .inl hx
      rcases this with e | e
      · obtain ⟨i, hi, e⟩ := h.from_ x e
        exact ⟨i, by omega, e⟩
      · exact ⟨n, by omega, by rw [e, hs]⟩
theorem nodup_upTo : ∀ n : Nat, ((List.range n).map (fun j : Nat => (j : Int))).Nodup
  | 0 => by simp
  | n + 1 => by
    rw [List.range_succ, List.map_append]
    refine nodup_snoc (nodup_upTo n) fun h => ?_
    obtain ⟨j, hj, e⟩ := List.mem_map.1 h
    have := List.mem_range.1 hj
    dsimp only at e
    omega
theorem keyAt_len (cls : List Int) {next : List (List Int)} (h : ∀ r ∈ next, r.length ≤ 6) (i : Nat) : (keyAt cls next i).length ≤ 7 := by
  simp only [keyAt, keyTail, List.length_cons, List.length_map]
  rw [List.getD_eq_getElem?_getD]
  cases e : next[i]? with
  | none => simp
  | some r => have := h r (List.mem_of_getElem? e); simp; omega
def leastF (next : List (List Int)) (n : Nat) : Nat → Nat → List Int → Nat
  | 0, many, _ => many
  | f + 1, many, cls => if (rndS cls next n).1.length = many then many else leastF next n f (rndS cls next n).1.length (rndS cls next n).2
def covd (many : Nat) (cls : List Int) : Prop := ∀ j : Nat, j < many → (j : Int) ∈ cls
theorem more_classes {cls : List Int} {next : List (List Int)} {n many : Nat} (hl : cls.length = n) (hc : covd many cls) : many ≤ (rndS cls next n).1.length := by
  have h := rndS_ok cls next n
  have := nodup_le ((List.range many).map (fun j : Nat => (j : Int))) ((rndS cls next n).1.map fun k => k.getD 0 0) (nodup_upTo many) (fun x hx => by
    obtain ⟨j, hj, rfl⟩ := List.mem_map.1 hx
    obtain ⟨i, hi, e⟩ := List.mem_iff_getElem.1 (hc j (List.mem_range.1 hj))
    refine List.mem_map.2 ⟨_, h.all i (by omega), ?_⟩
    simp [keyAt, hi, e])
  simpa using this
structure LI (next : List (List Int)) (n L : Nat) (many : Nat) (cls : List Int) : Prop where
  ln : cls.length = n
  cov : covd many cls
  le : many ≤ n
  fin : ∃ f, 65 ≤ f + many ∧ leastF next n f many cls = L
theorem LI.end {next : List (List Int)} {n L many : Nat} {cls : List Int} (h : LI next n L many cls) (hn : n ≤ 64) (he : (rndS cls next n).1.length = many) : L = many := by
  obtain ⟨f, hf, e⟩ := h.fin
  have hle := h.le
  cases f with
  | zero => omega
  | succ f => rw [leastF, if_pos he] at e; exact e.symm
theorem LI.step {next : List (List Int)} {n L many : Nat} {cls : List Int} (h : LI next n L many cls) (hn : n ≤ 64) (he : (rndS cls next n).1.length ≠ many) : many < (rndS cls next n).1.length ∧ LI next n L (rndS cls next n).1.length (rndS cls next n).2 := by
  obtain ⟨f, hf, e⟩ := h.fin
  have hle := h.le
  have hr := rndS_ok cls next n
  have hm := more_classes (next := next) h.ln h.cov
  refine ⟨by omega, hr.ln, hr.cov, hr.kl, ?_⟩
  cases f with
  | zero => omega
  | succ f => rw [leastF, if_neg he] at e; exact ⟨f, by omega, e⟩
def cls0 (m : MachineT) (sets : List (List Int)) : List Int := sets.map fun s => if endsV m s then 1 else 0
def leastM (m : MachineT) : Nat := leastF (setsM m).2 (setsM m).1.length 65 0 (cls0 m (setsM m).1)
theorem LI.zero (m : MachineT) : LI (setsM m).2 (setsM m).1.length (leastM m) 0 (cls0 m (setsM m).1) :=
  ⟨by simp [cls0], fun j hj => absurd hj (Nat.not_lt_zero j), Nat.zero_le _, 65, Nat.le_refl _, rfl⟩
def leastV (m : MachineT) : Int × Bool := if goodM m then ((leastM m : Int), true) else (0, false)
def padI (xs : List Int) (n : Nat) : List Int := xs ++ List.replicate (n - xs.length) 0
theorem padI_len {xs : List Int} {n : Nat} (h : xs.length ≤ n) : (padI xs n).length = n := by simp [padI]; omega
theorem padI_nil (n : Nat) : padI [] n = List.replicate n 0 := by simp [padI]
theorem padI_all {xs : List Int} {n : Nat} (h : xs.length = n) : padI xs n = xs := by simp [padI, h]
theorem padI_set {xs : List Int} {n : Nat} (h : xs.length < n) (x : Int) : (padI xs n).set xs.length x = padI (xs ++ [x]) n := by
  unfold padI
  rw [List.set_append_right _ _ (Nat.le_refl _), Nat.sub_self, List.length_append, show n - xs.length = (n - (xs.length + 1)) + 1 by omega, List.replicate_succ, List.set_cons_zero]
  simp
theorem padI_skip {xs : List Int} {n : Nat} (h : xs.length < n) : padI xs n = padI (xs ++ [0]) n := by
  unfold padI
  rw [List.length_append, show n - xs.length = (n - (xs.length + 1)) + 1 by omega, List.replicate_succ]
  simp
end Go.Proofs.Ytejpklajfcngbaa.En
end
