/- Own words and walks of this claim, part 3: what the program's functions compute, for all the arguments that are named; no further conditions. -/
import Derived.Shelf.SlSortCmp.NoneTotal
import Derived.Test.YtejpklajfcngbaaM2
import Derived.Test.YtejpklajfcngbaaProg
import Derived.KernelRfl
import Derived.Shelf.Sort.Plain
import Derived.Shelf.Slices.In.SortNone
import Derived.Shelf.Slices.CompactI
section
namespace Go.Proofs.Ytejpklajfcngbaa.En
open Go.RowKit Go.Shelf Go.Sort
set_option linter.unusedSimpArgs false
set_option linter.unusedVariables false
set_option linter.unusedSectionVars false
theorem belowD_grow {w w' : World} (h : BelowD w.heap.size w w') : ∃ q os', w' = Go.Sort.grow (w.drewN q) os' := by
  refine ⟨w'.drawn - w.drawn, w'.heap.extract w.heap.size w'.heap.size, ?_⟩
  have h1 := h.os
  have h2 := h.tape
  have h3 := h.output
  have h4 := h.drawn
  have h5 := h.size
  have h6 := h.block
  obtain ⟨heap, tape, drawn, os, output⟩ := w
  obtain ⟨heap', tape', drawn', os', output'⟩ := w'
  dsimp only at h1 h2 h3 h4 h5 h6
  subst h1 h2 h3
  have e1 : drawn + (drawn' - drawn) = drawn' := by omega
  have e2 : heap' = heap ++ heap'.extract heap.size heap'.size := by
    refine Array.ext_getElem? fun k => ?_
    by_cases hk : k < heap.size
    · rw [Array.getElem?_append_left hk]; exact h6 k hk
    · rw [Array.getElem?_append_right (by omega), Array.getElem?_extract]
      by_cases hk2 : k < heap'.size
      · rw [if_pos (by omega), show heap.size + (k - heap.size) = k by omega]
      · rw [if_neg (by omega), Array.getElem?_eq_none (by omega)]
  unfold Go.Sort.grow World.drewN
  dsimp only
  rw [e1, ← e2]
section
variable {α : Type} [Inhabited α]
def rowsK (enc : α → List Value) (xs : List α) : List (List AV) := xs.map fun x => (enc x).map AV.v
@[simp] theorem rowsK_len (enc : α → List Value) (xs : List α) : (rowsK enc xs).length = xs.length := by simp [rowsK]
def sortedBy (cf : α → α → Int) (xs : List α) : List α := xs.mergeSort fun x y => !(ltOf cf) y x
omit [Inhabited α] in
@[simp] theorem sortedBy_len (cf : α → α → Int) (xs : List α) : (sortedBy cf xs).length = xs.length := by simp [sortedBy]
end
end Go.Proofs.Ytejpklajfcngbaa.En
end
section
namespace Go.Proofs.Ytejpklajfcngbaa.En
theorem mixed : Try.prog.follows .mixedOrders = true := by kernel_rfl
@[go_sem] theorem ti1 : ti Try.prog 1 = some ⟨false, 1, 8⟩ := by kernel_rfl
@[go_sem] theorem zc1 : zc Try.prog 1 = some [.v .nilFunc] := by kernel_rfl
@[go_sem] theorem ti2 : ti Try.prog 2 = some ⟨false, 1, 8⟩ := by kernel_rfl
@[go_sem] theorem zc2 : zc Try.prog 2 = some [.v (.int .i64 0)] := by kernel_rfl
@[go_sem] theorem un2 : Try.prog.underlying 2 = some (.int .i64) := Try.underlying2
@[go_sem] theorem ti3 : ti Try.prog 3 = some ⟨false, 1, 8⟩ := by kernel_rfl
@[go_sem] theorem zc3 : zc Try.prog 3 = some [.v (.int .i64 0)] := by kernel_rfl
@[go_sem] theorem un3 : Try.prog.underlying 3 = some (.int .i64) := Try.underlying3
@[go_sem] theorem ti4 : ti Try.prog 4 = some ⟨false, 1, 1⟩ := by kernel_rfl
@[go_sem] theorem zc4 : zc Try.prog 4 = some [.v (.bool false)] := by kernel_rfl
@[go_sem] theorem bo4 : isBoolT Try.prog 4 = true := by kernel_rfl
@[go_sem] theorem ti5 : ti Try.prog 5 = some ⟨false, 1, 1⟩ := by kernel_rfl
@[go_sem] theorem zc5 : zc Try.prog 5 = some [.v (.int .u8 0)] := by kernel_rfl
@[go_sem] theorem un5 : Try.prog.underlying 5 = some (.int .u8) := Try.underlying5
@[go_sem] theorem ti6 : ti Try.prog 6 = some ⟨false, 1, 1⟩ := by kernel_rfl
@[go_sem] theorem zc6 : zc Try.prog 6 = some [.v (.int .u8 0)] := by kernel_rfl
@[go_sem] theorem un6 : Try.prog.underlying 6 = some (.int .u8) := Try.underlying6
@[go_sem] theorem ti9 : ti Try.prog 9 = some ⟨false, 1, 16⟩ := by kernel_rfl
@[go_sem] theorem zc9 : zc Try.prog 9 = some [.v (.string ⟨#[]⟩)] := by kernel_rfl
@[go_sem] theorem is9 : isStrT Try.prog 9 = true := by kernel_rfl
@[go_sem] theorem el9 : elT Try.prog 9 = none := by kernel_rfl
@[go_sem] theorem un9 : Try.prog.underlying 9 = some .string := Try.underlying9
@[go_sem] theorem ti10 : ti Try.prog 10 = some ⟨false, 1, 16⟩ := by kernel_rfl
@[go_sem] theorem zc10 : zc Try.prog 10 = some [.v (.string ⟨#[]⟩)] := by kernel_rfl
@[go_sem] theorem is10 : isStrT Try.prog 10 = true := by kernel_rfl
@[go_sem] theorem el10 : elT Try.prog 10 = none := by kernel_rfl
@[go_sem] theorem un10 : Try.prog.underlying 10 = some .string := Try.underlying10
@[go_sem] theorem ti11 : ti Try.prog 11 = some ⟨false, 1, 16⟩ := by kernel_rfl
@[go_sem] theorem zc11 : zc Try.prog 11 = some [.v (.string ⟨#[]⟩)] := by kernel_rfl
@[go_sem] theorem is11 : isStrT Try.prog 11 = true := by kernel_rfl
@[go_sem] theorem el11 : elT Try.prog 11 = none := by kernel_rfl
@[go_sem] theorem un11 : Try.prog.underlying 11 = some .string := Try.underlying11
@[go_sem] theorem ti12 : ti Try.prog 12 = some ⟨false, 1, 8⟩ := by kernel_rfl
@[go_sem] theorem zc12 : zc Try.prog 12 = some [.v (.int .u64 0)] := by kernel_rfl
@[go_sem] theorem ti15 : ti Try.prog 15 = some ⟨false, 1, 8⟩ := by kernel_rfl
@[go_sem] theorem zc15 : zc Try.prog 15 = some [.v (.pointer none)] := by kernel_rfl
@[go_sem] theorem ti16 : ti Try.prog 16 = some ⟨false, 1, 8⟩ := by kernel_rfl
@[go_sem] theorem zc16 : zc Try.prog 16 = some [.v (.pointer none)] := by kernel_rfl
@[go_sem] theorem ti17 : ti Try.prog 17 = some ⟨false, 1, 8⟩ := by kernel_rfl
@[go_sem] theorem zc17 : zc Try.prog 17 = some [.v (.pointer none)] := by kernel_rfl
@[go_sem] theorem ti21 : ti Try.prog 21 = some ⟨false, 1, 4⟩ := by kernel_rfl
@[go_sem] theorem zc21 : zc Try.prog 21 = some [.v (.int .i32 0)] := by kernel_rfl
@[go_sem] theorem un21 : Try.prog.underlying 21 = some (.int .i32) := Try.underlying21
@[go_sem] theorem ti22 : ti Try.prog 22 = some ⟨false, 1, 24⟩ := by kernel_rfl
@[go_sem] theorem zc22 : zc Try.prog 22 = some [.v (.slice none 0 0)] := by kernel_rfl
@[go_sem] theorem el22 : elT Try.prog 22 = some 101 := by kernel_rfl
@[go_sem] theorem ti23 : ti Try.prog 23 = some ⟨true, 3, 40⟩ := by kernel_rfl
@[go_sem] theorem zc23 : zc Try.prog 23 = some [.v (.int .i64 0), .v (.int .i64 0), .v (.slice none 0 0)] := by kernel_rfl
@[go_sem] theorem fo23_0 : fo Try.prog 23 0 = some (0, 3) := by kernel_rfl
@[go_sem] theorem fo23_1 : fo Try.prog 23 1 = some (1, 3) := by kernel_rfl
@[go_sem] theorem fo23_2 : fo Try.prog 23 2 = some (2, 22) := by kernel_rfl
@[go_sem] theorem ti24 : ti Try.prog 24 = some ⟨true, 3, 40⟩ := by kernel_rfl
@[go_sem] theorem zc24 : zc Try.prog 24 = some [.v (.int .i64 0), .v (.int .i64 0), .v (.slice none 0 0)] := by kernel_rfl
@[go_sem] theorem fo24_0 : fo Try.prog 24 0 = some (0, 3) := by kernel_rfl
@[go_sem] theorem fo24_1 : fo Try.prog 24 1 = some (1, 3) := by kernel_rfl
@[go_sem] theorem fo24_2 : fo Try.prog 24 2 = some (2, 22) := by kernel_rfl
@[go_sem] theorem ti25 : ti Try.prog 25 = some ⟨false, 1, 8⟩ := by kernel_rfl
@[go_sem] theorem zc25 : zc Try.prog 25 = some [.v .nilFunc] := by kernel_rfl
@[go_sem] theorem ti26 : ti Try.prog 26 = some ⟨false, 1, 24⟩ := by kernel_rfl
@[go_sem] theorem zc26 : zc Try.prog 26 = some [.v (.slice none 0 0)] := by kernel_rfl
@[go_sem] theorem el26 : elT Try.prog 26 = some 3 := by kernel_rfl
@[go_sem] theorem ti28 : ti Try.prog 28 = some ⟨false, 1, 8⟩ := by kernel_rfl
@[go_sem] theorem zc28 : zc Try.prog 28 = some [.v .nilFunc] := by kernel_rfl
@[go_sem] theorem ti29 : ti Try.prog 29 = some ⟨false, 1, 24⟩ := by kernel_rfl
@[go_sem] theorem zc29 : zc Try.prog 29 = some [.v (.slice none 0 0)] := by kernel_rfl
@[go_sem] theorem el29 : elT Try.prog 29 = some 94 := by kernel_rfl
@[go_sem] theorem ti30 : ti Try.prog 30 = some ⟨true, 3, 40⟩ := by kernel_rfl
@[go_sem] theorem zc30 : zc Try.prog 30 = some [.v (.int .i64 0), .v (.int .i64 0), .v (.slice none 0 0)] := by kernel_rfl
@[go_sem] theorem fo30_0 : fo Try.prog 30 0 = some (0, 3) := by kernel_rfl
@[go_sem] theorem fo30_1 : fo Try.prog 30 1 = some (1, 3) := by kernel_rfl
@[go_sem] theorem fo30_2 : fo Try.prog 30 2 = some (2, 29) := by kernel_rfl
@[go_sem] theorem ti31 : ti Try.prog 31 = some ⟨true, 3, 40⟩ := by kernel_rfl
@[go_sem] theorem zc31 : zc Try.prog 31 = some [.v (.int .i64 0), .v (.int .i64 0), .v (.slice none 0 0)] := by kernel_rfl
@[go_sem] theorem fo31_0 : fo Try.prog 31 0 = some (0, 3) := by kernel_rfl
@[go_sem] theorem fo31_1 : fo Try.prog 31 1 = some (1, 3) := by kernel_rfl
@[go_sem] theorem fo31_2 : fo Try.prog 31 2 = some (2, 29) := by kernel_rfl
@[go_sem] theorem ti32 : ti Try.prog 32 = some ⟨false, 1, 8⟩ := by kernel_rfl
@[go_sem] theorem zc32 : zc Try.prog 32 = some [.v .nilFunc] := by kernel_rfl
@[go_sem] theorem ti33 : ti Try.prog 33 = some ⟨false, 1, 8⟩ := by kernel_rfl
@[go_sem] theorem zc33 : zc Try.prog 33 = some [.v .nilFunc] := by kernel_rfl
@[go_sem] theorem ti34 : ti Try.prog 34 = some ⟨false, 1, 8⟩ := by kernel_rfl
@[go_sem] theorem zc34 : zc Try.prog 34 = some [.v .nilFunc] := by kernel_rfl
@[go_sem] theorem ti35 : ti Try.prog 35 = some ⟨false, 1, 8⟩ := by kernel_rfl
@[go_sem] theorem zc35 : zc Try.prog 35 = some [.v .nilFunc] := by kernel_rfl
@[go_sem] theorem ti36 : ti Try.prog 36 = some ⟨false, 1, 8⟩ := by kernel_rfl
@[go_sem] theorem zc36 : zc Try.prog 36 = some [.v .nilFunc] := by kernel_rfl
@[go_sem] theorem ti37 : ti Try.prog 37 = some ⟨false, 1, 8⟩ := by kernel_rfl
@[go_sem] theorem zc37 : zc Try.prog 37 = some [.v .nilFunc] := by kernel_rfl
@[go_sem] theorem ti38 : ti Try.prog 38 = some ⟨false, 1, 24⟩ := by kernel_rfl
@[go_sem] theorem zc38 : zc Try.prog 38 = some [.v (.slice none 0 0)] := by kernel_rfl
@[go_sem] theorem el38 : elT Try.prog 38 = some 5 := by kernel_rfl
@[go_sem] theorem ti39 : ti Try.prog 39 = some ⟨false, 1, 8⟩ := by kernel_rfl
@[go_sem] theorem zc39 : zc Try.prog 39 = some [.v .nilFunc] := by kernel_rfl
@[go_sem] theorem ti40 : ti Try.prog 40 = some ⟨false, 1, 24⟩ := by kernel_rfl
@[go_sem] theorem zc40 : zc Try.prog 40 = some [.v (.slice none 0 0)] := by kernel_rfl
@[go_sem] theorem el40 : elT Try.prog 40 = some 26 := by kernel_rfl
@[go_sem] theorem ti41 : ti Try.prog 41 = some ⟨true, 4, 64⟩ := by kernel_rfl
@[go_sem] theorem zc41 : zc Try.prog 41 = some [.v (.int .i64 0), .v (.int .i64 0), .v (.slice none 0 0), .v (.slice none 0 0)] := by kernel_rfl
@[go_sem] theorem fo41_0 : fo Try.prog 41 0 = some (0, 3) := by kernel_rfl
@[go_sem] theorem fo41_1 : fo Try.prog 41 1 = some (1, 3) := by kernel_rfl
@[go_sem] theorem fo41_2 : fo Try.prog 41 2 = some (2, 40) := by kernel_rfl
@[go_sem] theorem fo41_3 : fo Try.prog 41 3 = some (3, 26) := by kernel_rfl
@[go_sem] theorem ti42 : ti Try.prog 42 = some ⟨true, 4, 64⟩ := by kernel_rfl
@[go_sem] theorem zc42 : zc Try.prog 42 = some [.v (.int .i64 0), .v (.int .i64 0), .v (.slice none 0 0), .v (.slice none 0 0)] := by kernel_rfl
@[go_sem] theorem fo42_0 : fo Try.prog 42 0 = some (0, 3) := by kernel_rfl
@[go_sem] theorem fo42_1 : fo Try.prog 42 1 = some (1, 3) := by kernel_rfl
@[go_sem] theorem fo42_2 : fo Try.prog 42 2 = some (2, 40) := by kernel_rfl
@[go_sem] theorem fo42_3 : fo Try.prog 42 3 = some (3, 26) := by kernel_rfl
@[go_sem] theorem ti44 : ti Try.prog 44 = some ⟨false, 1, 8⟩ := by kernel_rfl
@[go_sem] theorem zc44 : zc Try.prog 44 = some [.v .nilFunc] := by kernel_rfl
@[go_sem] theorem ti46 : ti Try.prog 46 = some ⟨false, 1, 8⟩ := by kernel_rfl
@[go_sem] theorem zc46 : zc Try.prog 46 = some [.v .nilFunc] := by kernel_rfl
@[go_sem] theorem ti48 : ti Try.prog 48 = some ⟨false, 1, 8⟩ := by kernel_rfl
@[go_sem] theorem zc48 : zc Try.prog 48 = some [.v .nilFunc] := by kernel_rfl
@[go_sem] theorem ti49 : ti Try.prog 49 = some ⟨false, 1, 8⟩ := by kernel_rfl
@[go_sem] theorem zc49 : zc Try.prog 49 = some [.v .nilFunc] := by kernel_rfl
@[go_sem] theorem ti51 : ti Try.prog 51 = some ⟨false, 1, 8⟩ := by kernel_rfl
@[go_sem] theorem zc51 : zc Try.prog 51 = some [.v .nilFunc] := by kernel_rfl
@[go_sem] theorem ti52 : ti Try.prog 52 = some ⟨false, 1, 8⟩ := by kernel_rfl
@[go_sem] theorem zc52 : zc Try.prog 52 = some [.v .nilFunc] := by kernel_rfl
@[go_sem] theorem ti53 : ti Try.prog 53 = some ⟨false, 1, 8⟩ := by kernel_rfl
@[go_sem] theorem zc53 : zc Try.prog 53 = some [.v .nilFunc] := by kernel_rfl
@[go_sem] theorem ti55 : ti Try.prog 55 = some ⟨false, 1, 8⟩ := by kernel_rfl
@[go_sem] theorem zc55 : zc Try.prog 55 = some [.v .nilFunc] := by kernel_rfl
@[go_sem] theorem ti56 : ti Try.prog 56 = some ⟨false, 1, 8⟩ := by kernel_rfl
@[go_sem] theorem zc56 : zc Try.prog 56 = some [.v .nilFunc] := by kernel_rfl
@[go_sem] theorem ti57 : ti Try.prog 57 = some ⟨false, 1, 8⟩ := by kernel_rfl
@[go_sem] theorem zc57 : zc Try.prog 57 = some [.v .nilFunc] := by kernel_rfl
@[go_sem] theorem ti59 : ti Try.prog 59 = some ⟨false, 1, 8⟩ := by kernel_rfl
@[go_sem] theorem zc59 : zc Try.prog 59 = some [.v .nilFunc] := by kernel_rfl
@[go_sem] theorem ti60 : ti Try.prog 60 = some ⟨false, 1, 8⟩ := by kernel_rfl
@[go_sem] theorem zc60 : zc Try.prog 60 = some [.v .nilFunc] := by kernel_rfl
@[go_sem] theorem ti61 : ti Try.prog 61 = some ⟨false, 1, 8⟩ := by kernel_rfl
@[go_sem] theorem zc61 : zc Try.prog 61 = some [.v .nilFunc] := by kernel_rfl
@[go_sem] theorem ti62 : ti Try.prog 62 = some ⟨false, 1, 8⟩ := by kernel_rfl
@[go_sem] theorem zc62 : zc Try.prog 62 = some [.v .nilFunc] := by kernel_rfl
@[go_sem] theorem ti63 : ti Try.prog 63 = some ⟨false, 1, 8⟩ := by kernel_rfl
@[go_sem] theorem zc63 : zc Try.prog 63 = some [.v .nilFunc] := by kernel_rfl
@[go_sem] theorem ti64 : ti Try.prog 64 = some ⟨false, 1, 8⟩ := by kernel_rfl
@[go_sem] theorem zc64 : zc Try.prog 64 = some [.v (.pointer none)] := by kernel_rfl
@[go_sem] theorem ti65 : ti Try.prog 65 = some ⟨true, 6, 88⟩ := by kernel_rfl
@[go_sem] theorem zc65 : zc Try.prog 65 = some [.v (.int .i64 0), .v (.int .i64 0), .v (.slice none 0 0), .v (.string ⟨#[]⟩), .v (.int .i64 0), .v (.slice none 0 0)] := by kernel_rfl
@[go_sem] theorem fo65_0 : fo Try.prog 65 0 = some (0, 31) := by kernel_rfl
@[go_sem] theorem fo65_1 : fo Try.prog 65 1 = some (3, 9) := by kernel_rfl
@[go_sem] theorem fo65_2 : fo Try.prog 65 2 = some (4, 3) := by kernel_rfl
@[go_sem] theorem fo65_3 : fo Try.prog 65 3 = some (5, 26) := by kernel_rfl
@[go_sem] theorem ti66 : ti Try.prog 66 = some ⟨true, 6, 88⟩ := by kernel_rfl
@[go_sem] theorem zc66 : zc Try.prog 66 = some [.v (.int .i64 0), .v (.int .i64 0), .v (.slice none 0 0), .v (.string ⟨#[]⟩), .v (.int .i64 0), .v (.slice none 0 0)] := by kernel_rfl
@[go_sem] theorem fo66_0 : fo Try.prog 66 0 = some (0, 31) := by kernel_rfl
@[go_sem] theorem fo66_1 : fo Try.prog 66 1 = some (3, 9) := by kernel_rfl
@[go_sem] theorem fo66_2 : fo Try.prog 66 2 = some (4, 3) := by kernel_rfl
@[go_sem] theorem fo66_3 : fo Try.prog 66 3 = some (5, 26) := by kernel_rfl
@[go_sem] theorem ti67 : ti Try.prog 67 = some ⟨false, 1, 8⟩ := by kernel_rfl
@[go_sem] theorem zc67 : zc Try.prog 67 = some [.v .nilFunc] := by kernel_rfl
@[go_sem] theorem ti68 : ti Try.prog 68 = some ⟨false, 1, 8⟩ := by kernel_rfl
@[go_sem] theorem zc68 : zc Try.prog 68 = some [.v .nilFunc] := by kernel_rfl
@[go_sem] theorem ti70 : ti Try.prog 70 = some ⟨false, 1, 8⟩ := by kernel_rfl
@[go_sem] theorem zc70 : zc Try.prog 70 = some [.v .nilFunc] := by kernel_rfl
@[go_sem] theorem ti71 : ti Try.prog 71 = some ⟨false, 1, 8⟩ := by kernel_rfl
@[go_sem] theorem zc71 : zc Try.prog 71 = some [.v .nilFunc] := by kernel_rfl
@[go_sem] theorem ti72 : ti Try.prog 72 = some ⟨false, 1, 8⟩ := by kernel_rfl
@[go_sem] theorem zc72 : zc Try.prog 72 = some [.v .nilFunc] := by kernel_rfl
@[go_sem] theorem ti73 : ti Try.prog 73 = some ⟨false, 1, 8⟩ := by kernel_rfl
@[go_sem] theorem zc73 : zc Try.prog 73 = some [.v (.pointer none)] := by kernel_rfl
@[go_sem] theorem ti74 : ti Try.prog 74 = some ⟨false, 1, 8⟩ := by kernel_rfl
@[go_sem] theorem zc74 : zc Try.prog 74 = some [.v (.int .u64 0)] := by kernel_rfl
@[go_sem] theorem ti75 : ti Try.prog 75 = some ⟨true, 3, 40⟩ := by kernel_rfl
@[go_sem] theorem zc75 : zc Try.prog 75 = some [.v (.slice none 0 0), .v (.int .i64 0), .v (.int .u64 0)] := by kernel_rfl
@[go_sem] theorem fo75_0 : fo Try.prog 75 0 = some (0, 38) := by kernel_rfl
@[go_sem] theorem fo75_1 : fo Try.prog 75 1 = some (1, 3) := by kernel_rfl
@[go_sem] theorem fo75_2 : fo Try.prog 75 2 = some (2, 74) := by kernel_rfl
@[go_sem] theorem ti76 : ti Try.prog 76 = some ⟨true, 3, 40⟩ := by kernel_rfl
@[go_sem] theorem zc76 : zc Try.prog 76 = some [.v (.slice none 0 0), .v (.int .i64 0), .v (.int .u64 0)] := by kernel_rfl
@[go_sem] theorem fo76_0 : fo Try.prog 76 0 = some (0, 38) := by kernel_rfl
@[go_sem] theorem fo76_1 : fo Try.prog 76 1 = some (1, 3) := by kernel_rfl
@[go_sem] theorem fo76_2 : fo Try.prog 76 2 = some (2, 74) := by kernel_rfl
@[go_sem] theorem ti77 : ti Try.prog 77 = some ⟨false, 1, 8⟩ := by kernel_rfl
@[go_sem] theorem zc77 : zc Try.prog 77 = some [.v .nilFunc] := by kernel_rfl
@[go_sem] theorem ti78 : ti Try.prog 78 = some ⟨false, 1, 8⟩ := by kernel_rfl
@[go_sem] theorem zc78 : zc Try.prog 78 = some [.v .nilFunc] := by kernel_rfl
@[go_sem] theorem ti79 : ti Try.prog 79 = some ⟨false, 1, 8⟩ := by kernel_rfl
@[go_sem] theorem zc79 : zc Try.prog 79 = some [.v .nilFunc] := by kernel_rfl
@[go_sem] theorem ti80 : ti Try.prog 80 = some ⟨false, 1, 8⟩ := by kernel_rfl
@[go_sem] theorem zc80 : zc Try.prog 80 = some [.v .nilFunc] := by kernel_rfl
@[go_sem] theorem ti82 : ti Try.prog 82 = some ⟨false, 1, 8⟩ := by kernel_rfl
@[go_sem] theorem zc82 : zc Try.prog 82 = some [.v .nilFunc] := by kernel_rfl
@[go_sem] theorem ti83 : ti Try.prog 83 = some ⟨false, 1, 8⟩ := by kernel_rfl
@[go_sem] theorem zc83 : zc Try.prog 83 = some [.v .nilFunc] := by kernel_rfl
@[go_sem] theorem ti84 : ti Try.prog 84 = some ⟨false, 1, 8⟩ := by kernel_rfl
@[go_sem] theorem zc84 : zc Try.prog 84 = some [.v .nilFunc] := by kernel_rfl
@[go_sem] theorem ti85 : ti Try.prog 85 = some ⟨false, 1, 8⟩ := by kernel_rfl
@[go_sem] theorem zc85 : zc Try.prog 85 = some [.v .nilFunc] := by kernel_rfl
@[go_sem] theorem ti86 : ti Try.prog 86 = some ⟨false, 1, 8⟩ := by kernel_rfl
@[go_sem] theorem zc86 : zc Try.prog 86 = some [.v .nilFunc] := by kernel_rfl
@[go_sem] theorem ti87 : ti Try.prog 87 = some ⟨false, 1, 8⟩ := by kernel_rfl
@[go_sem] theorem zc87 : zc Try.prog 87 = some [.v .nilFunc] := by kernel_rfl
@[go_sem] theorem ti88 : ti Try.prog 88 = some ⟨false, 1, 8⟩ := by kernel_rfl
@[go_sem] theorem zc88 : zc Try.prog 88 = some [.v .nilFunc] := by kernel_rfl
@[go_sem] theorem ti89 : ti Try.prog 89 = some ⟨false, 1, 8⟩ := by kernel_rfl
@[go_sem] theorem zc89 : zc Try.prog 89 = some [.v .nilFunc] := by kernel_rfl
@[go_sem] theorem ti90 : ti Try.prog 90 = some ⟨false, 1, 24⟩ := by kernel_rfl
@[go_sem] theorem zc90 : zc Try.prog 90 = some [.v (.slice none 0 0)] := by kernel_rfl
@[go_sem] theorem el90 : elT Try.prog 90 = some 120 := by kernel_rfl
@[go_sem] theorem ti91 : ti Try.prog 91 = some ⟨false, 1, 8⟩ := by kernel_rfl
@[go_sem] theorem zc91 : zc Try.prog 91 = some [.v .nilFunc] := by kernel_rfl
@[go_sem] theorem ti92 : ti Try.prog 92 = some ⟨false, 1, 8⟩ := by kernel_rfl
@[go_sem] theorem zc92 : zc Try.prog 92 = some [.v .nilFunc] := by kernel_rfl
@[go_sem] theorem ti93 : ti Try.prog 93 = some ⟨true, 2, 32⟩ := by kernel_rfl
@[go_sem] theorem zc93 : zc Try.prog 93 = some [.v (.int .i64 0), .v (.slice none 0 0)] := by kernel_rfl
@[go_sem] theorem fo93_0 : fo Try.prog 93 0 = some (0, 3) := by kernel_rfl
@[go_sem] theorem fo93_1 : fo Try.prog 93 1 = some (1, 26) := by kernel_rfl
@[go_sem] theorem ti94 : ti Try.prog 94 = some ⟨true, 2, 32⟩ := by kernel_rfl
@[go_sem] theorem zc94 : zc Try.prog 94 = some [.v (.int .i64 0), .v (.slice none 0 0)] := by kernel_rfl
@[go_sem] theorem fo94_0 : fo Try.prog 94 0 = some (0, 3) := by kernel_rfl
@[go_sem] theorem fo94_1 : fo Try.prog 94 1 = some (1, 26) := by kernel_rfl
@[go_sem] theorem ti95 : ti Try.prog 95 = some ⟨false, 1, 8⟩ := by kernel_rfl
@[go_sem] theorem zc95 : zc Try.prog 95 = some [.v .nilFunc] := by kernel_rfl
@[go_sem] theorem ti96 : ti Try.prog 96 = some ⟨false, 1, 8⟩ := by kernel_rfl
@[go_sem] theorem zc96 : zc Try.prog 96 = some [.v .nilFunc] := by kernel_rfl
@[go_sem] theorem ti97 : ti Try.prog 97 = some ⟨false, 1, 8⟩ := by kernel_rfl
@[go_sem] theorem zc97 : zc Try.prog 97 = some [.v .nilFunc] := by kernel_rfl
@[go_sem] theorem ti98 : ti Try.prog 98 = some ⟨false, 1, 8⟩ := by kernel_rfl
@[go_sem] theorem zc98 : zc Try.prog 98 = some [.v .nilFunc] := by kernel_rfl
@[go_sem] theorem ti99 : ti Try.prog 99 = some ⟨false, 1, 8⟩ := by kernel_rfl
@[go_sem] theorem zc99 : zc Try.prog 99 = some [.v .nilFunc] := by kernel_rfl
@[go_sem] theorem ti100 : ti Try.prog 100 = some ⟨false, 1, 8⟩ := by kernel_rfl
@[go_sem] theorem zc100 : zc Try.prog 100 = some [.v .nilFunc] := by kernel_rfl
@[go_sem] theorem ti101 : ti Try.prog 101 = some ⟨true, 2, 32⟩ := by kernel_rfl
@[go_sem] theorem zc101 : zc Try.prog 101 = some [.v (.int .i64 0), .v (.slice none 0 0)] := by kernel_rfl
@[go_sem] theorem fo101_0 : fo Try.prog 101 0 = some (0, 3) := by kernel_rfl
@[go_sem] theorem fo101_1 : fo Try.prog 101 1 = some (1, 26) := by kernel_rfl
@[go_sem] theorem ti102 : ti Try.prog 102 = some ⟨false, 1, 8⟩ := by kernel_rfl
@[go_sem] theorem zc102 : zc Try.prog 102 = some [.v .nilFunc] := by kernel_rfl
@[go_sem] theorem ti103 : ti Try.prog 103 = some ⟨false, 1, 8⟩ := by kernel_rfl
@[go_sem] theorem zc103 : zc Try.prog 103 = some [.v .nilFunc] := by kernel_rfl
@[go_sem] theorem ti104 : ti Try.prog 104 = some ⟨false, 1, 8⟩ := by kernel_rfl
@[go_sem] theorem zc104 : zc Try.prog 104 = some [.v .nilFunc] := by kernel_rfl
@[go_sem] theorem ti105 : ti Try.prog 105 = some ⟨false, 1, 8⟩ := by kernel_rfl
@[go_sem] theorem zc105 : zc Try.prog 105 = some [.v .nilFunc] := by kernel_rfl
@[go_sem] theorem ti106 : ti Try.prog 106 = some ⟨false, 1, 8⟩ := by kernel_rfl
@[go_sem] theorem zc106 : zc Try.prog 106 = some [.v .nilFunc] := by kernel_rfl
@[go_sem] theorem ti107 : ti Try.prog 107 = some ⟨false, 1, 8⟩ := by kernel_rfl
@[go_sem] theorem zc107 : zc Try.prog 107 = some [.v .nilFunc] := by kernel_rfl
@[go_sem] theorem ti108 : ti Try.prog 108 = some ⟨false, 1, 8⟩ := by kernel_rfl
@[go_sem] theorem zc108 : zc Try.prog 108 = some [.v .nilFunc] := by kernel_rfl
@[go_sem] theorem ti109 : ti Try.prog 109 = some ⟨false, 1, 8⟩ := by kernel_rfl
@[go_sem] theorem zc109 : zc Try.prog 109 = some [.v .nilFunc] := by kernel_rfl
@[go_sem] theorem ti110 : ti Try.prog 110 = some ⟨false, 1, 8⟩ := by kernel_rfl
@[go_sem] theorem zc110 : zc Try.prog 110 = some [.v .nilFunc] := by kernel_rfl
@[go_sem] theorem ti111 : ti Try.prog 111 = some ⟨false, 1, 8⟩ := by kernel_rfl
@[go_sem] theorem zc111 : zc Try.prog 111 = some [.v .nilFunc] := by kernel_rfl
@[go_sem] theorem ti112 : ti Try.prog 112 = some ⟨false, 1, 8⟩ := by kernel_rfl
@[go_sem] theorem zc112 : zc Try.prog 112 = some [.v .nilFunc] := by kernel_rfl
@[go_sem] theorem ti113 : ti Try.prog 113 = some ⟨false, 1, 8⟩ := by kernel_rfl
@[go_sem] theorem zc113 : zc Try.prog 113 = some [.v .nilFunc] := by kernel_rfl
@[go_sem] theorem ti114 : ti Try.prog 114 = some ⟨false, 1, 8⟩ := by kernel_rfl
@[go_sem] theorem zc114 : zc Try.prog 114 = some [.v .nilFunc] := by kernel_rfl
@[go_sem] theorem ti115 : ti Try.prog 115 = some ⟨false, 1, 8⟩ := by kernel_rfl
@[go_sem] theorem zc115 : zc Try.prog 115 = some [.v .nilFunc] := by kernel_rfl
@[go_sem] theorem ti116 : ti Try.prog 116 = some ⟨false, 1, 8⟩ := by kernel_rfl
@[go_sem] theorem zc116 : zc Try.prog 116 = some [.v .nilFunc] := by kernel_rfl
@[go_sem] theorem ti117 : ti Try.prog 117 = some ⟨false, 1, 8⟩ := by kernel_rfl
@[go_sem] theorem zc117 : zc Try.prog 117 = some [.v .nilFunc] := by kernel_rfl
@[go_sem] theorem ti118 : ti Try.prog 118 = some ⟨false, 1, 8⟩ := by kernel_rfl
@[go_sem] theorem zc118 : zc Try.prog 118 = some [.v .nilFunc] := by kernel_rfl
@[go_sem] theorem ti119 : ti Try.prog 119 = some ⟨true, 3, 24⟩ := by kernel_rfl
@[go_sem] theorem zc119 : zc Try.prog 119 = some [.v (.int .i64 0), .v (.int .i64 0), .v (.int .i64 0)] := by kernel_rfl
@[go_sem] theorem fo119_0 : fo Try.prog 119 0 = some (0, 3) := by kernel_rfl
@[go_sem] theorem fo119_1 : fo Try.prog 119 1 = some (1, 3) := by kernel_rfl
@[go_sem] theorem fo119_2 : fo Try.prog 119 2 = some (2, 3) := by kernel_rfl
@[go_sem] theorem ti120 : ti Try.prog 120 = some ⟨true, 3, 24⟩ := by kernel_rfl
@[go_sem] theorem zc120 : zc Try.prog 120 = some [.v (.int .i64 0), .v (.int .i64 0), .v (.int .i64 0)] := by kernel_rfl
@[go_sem] theorem fo120_0 : fo Try.prog 120 0 = some (0, 3) := by kernel_rfl
@[go_sem] theorem fo120_1 : fo Try.prog 120 1 = some (1, 3) := by kernel_rfl
@[go_sem] theorem fo120_2 : fo Try.prog 120 2 = some (2, 3) := by kernel_rfl
@[go_sem] theorem ti121 : ti Try.prog 121 = some ⟨false, 1, 24⟩ := by kernel_rfl
@[go_sem] theorem zc121 : zc Try.prog 121 = some [.v (.slice none 0 0)] := by kernel_rfl
@[go_sem] theorem el121 : elT Try.prog 121 = some 4 := by kernel_rfl
@[go_sem] theorem ti123 : ti Try.prog 123 = some ⟨false, 1, 8⟩ := by kernel_rfl
@[go_sem] theorem zc123 : zc Try.prog 123 = some [.v .nilFunc] := by kernel_rfl
@[go_sem] theorem ti124 : ti Try.prog 124 = some ⟨false, 1, 8⟩ := by kernel_rfl
@[go_sem] theorem zc124 : zc Try.prog 124 = some [.v .nilFunc] := by kernel_rfl
@[go_sem] theorem ti125 : ti Try.prog 125 = some ⟨false, 1, 8⟩ := by kernel_rfl
@[go_sem] theorem zc125 : zc Try.prog 125 = some [.v .nilFunc] := by kernel_rfl
@[go_sem] theorem ti126 : ti Try.prog 126 = some ⟨false, 1, 8⟩ := by kernel_rfl
@[go_sem] theorem zc126 : zc Try.prog 126 = some [.v .nilFunc] := by kernel_rfl
@[go_sem] theorem ti127 : ti Try.prog 127 = some ⟨false, 1, 8⟩ := by kernel_rfl
@[go_sem] theorem zc127 : zc Try.prog 127 = some [.v .nilFunc] := by kernel_rfl
@[go_sem] theorem ti128 : ti Try.prog 128 = some ⟨false, 1, 8⟩ := by kernel_rfl
@[go_sem] theorem zc128 : zc Try.prog 128 = some [.v .nilFunc] := by kernel_rfl
@[go_sem] theorem ti129 : ti Try.prog 129 = some ⟨false, 1, 8⟩ := by kernel_rfl
@[go_sem] theorem zc129 : zc Try.prog 129 = some [.v .nilFunc] := by kernel_rfl
@[go_sem] theorem ti130 : ti Try.prog 130 = some ⟨false, 1, 8⟩ := by kernel_rfl
@[go_sem] theorem zc130 : zc Try.prog 130 = some [.v .nilFunc] := by kernel_rfl
@[go_sem] theorem ti131 : ti Try.prog 131 = some ⟨false, 1, 8⟩ := by kernel_rfl
@[go_sem] theorem zc131 : zc Try.prog 131 = some [.v (.int .u64 0)] := by kernel_rfl
@[go_sem] theorem ti132 : ti Try.prog 132 = some ⟨false, 1, 8⟩ := by kernel_rfl
@[go_sem] theorem zc132 : zc Try.prog 132 = some [.v .nilFunc] := by kernel_rfl
@[go_sem] theorem ti133 : ti Try.prog 133 = some ⟨false, 1, 8⟩ := by kernel_rfl
@[go_sem] theorem zc133 : zc Try.prog 133 = some [.v .nilFunc] := by kernel_rfl
@[go_sem] theorem ti134 : ti Try.prog 134 = some ⟨false, 1, 8⟩ := by kernel_rfl
@[go_sem] theorem zc134 : zc Try.prog 134 = some [.v .nilFunc] := by kernel_rfl
@[go_sem] theorem ti135 : ti Try.prog 135 = some ⟨false, 1, 8⟩ := by kernel_rfl
@[go_sem] theorem zc135 : zc Try.prog 135 = some [.v .nilFunc] := by kernel_rfl
@[go_sem] theorem ti136 : ti Try.prog 136 = some ⟨false, 1, 8⟩ := by kernel_rfl
@[go_sem] theorem zc136 : zc Try.prog 136 = some [.v .nilFunc] := by kernel_rfl
@[go_sem] theorem ti137 : ti Try.prog 137 = some ⟨false, 1, 8⟩ := by kernel_rfl
@[go_sem] theorem zc137 : zc Try.prog 137 = some [.v .nilFunc] := by kernel_rfl
@[go_sem] theorem ti138 : ti Try.prog 138 = some ⟨false, 1, 8⟩ := by kernel_rfl
@[go_sem] theorem zc138 : zc Try.prog 138 = some [.v (.pointer none)] := by kernel_rfl
@[go_sem] theorem ti139 : ti Try.prog 139 = some ⟨false, 1, 8⟩ := by kernel_rfl
@[go_sem] theorem zc139 : zc Try.prog 139 = some [.v .nilFunc] := by kernel_rfl
@[go_sem] theorem ti140 : ti Try.prog 140 = some ⟨true, 4, 4⟩ := by kernel_rfl
@[go_sem] theorem zc140 : zc Try.prog 140 = some [.v (.bool false), .v (.bool false), .v (.bool false), .v (.bool false)] := by kernel_rfl
@[go_sem] theorem ar140 : arT Try.prog 140 = some (4, 4) := by kernel_rfl
@[go_sem] theorem ti142 : ti Try.prog 142 = some ⟨false, 1, 8⟩ := by kernel_rfl
@[go_sem] theorem zc142 : zc Try.prog 142 = some [.v .nilFunc] := by kernel_rfl
@[go_sem] theorem ti143 : ti Try.prog 143 = some ⟨true, 6, 6⟩ := by kernel_rfl
@[go_sem] theorem zc143 : zc Try.prog 143 = some [.v (.bool false), .v (.bool false), .v (.bool false), .v (.bool false), .v (.bool false), .v (.bool false)] := by kernel_rfl
@[go_sem] theorem ar143 : arT Try.prog 143 = some (6, 4) := by kernel_rfl
@[go_sem] theorem ti144 : ti Try.prog 144 = some ⟨true, 24, 24⟩ := by kernel_rfl
@[go_sem] theorem zc144 : zc Try.prog 144 = some [.v (.bool false), .v (.bool false), .v (.bool false), .v (.bool false), .v (.bool false), .v (.bool false), .v (.bool false), .v (.bool false), .v (.bool false), .v (.bool false), .v (.bool false), .v (.bool false), .v (.bool false), .v (.bool false), .v (.bool false), .v (.bool false), .v (.bool false), .v (.bool false), .v (.bool false), .v (.bool false), .v (.bool false), .v (.bool false), .v (.bool false), .v (.bool false)] := by kernel_rfl
@[go_sem] theorem ar144 : arT Try.prog 144 = some (6, 140) := by kernel_rfl
@[go_sem] theorem ti145 : ti Try.prog 145 = some ⟨true, 66, 66⟩ := by kernel_rfl
@[go_sem] theorem zc145 : zc Try.prog 145 = some [.v (.bool false), .v (.bool false), .v (.bool false), .v (.bool false), .v (.bool false), .v (.bool false), .v (.bool false), .v (.bool false), .v (.bool false), .v (.bool false), .v (.bool false), .v (.bool false), .v (.bool false), .v (.bool false), .v (.bool false), .v (.bool false), .v (.bool false), .v (.bool false), .v (.bool false), .v (.bool false), .v (.bool false), .v (.bool false), .v (.bool false), .v (.bool false), .v (.bool false), .v (.bool false), .v (.bool false), .v (.bool false), .v (.bool false), .v (.bool false), .v (.bool false), .v (.bool false), .v (.bool false), .v (.bool false), .v (.bool false), .v (.bool false), .v (.bool false), .v (.bool false), .v (.bool false), .v (.bool false), .v (.bool false), .v (.bool false), .v (.bool false), .v (.bool false), .v (.bool false), .v (.bool false), .v (.bool false), .v (.bool false), .v (.bool false), .v (.bool false), .v (.bool false), .v (.bool false), .v (.bool false), .v (.bool false), .v (.bool false), .v (.bool false), .v (.bool false), .v (.bool false), .v (.bool false), .v (.bool false), .v (.bool false), .v (.bool false), .v (.bool false), .v (.bool false), .v (.bool false), .v (.bool false)] := by kernel_rfl
@[go_sem] theorem fo145_0 : fo Try.prog 145 0 = some (0, 143) := by kernel_rfl
@[go_sem] theorem fo145_1 : fo Try.prog 145 1 = some (6, 143) := by kernel_rfl
@[go_sem] theorem fo145_2 : fo Try.prog 145 2 = some (12, 144) := by kernel_rfl
@[go_sem] theorem fo145_3 : fo Try.prog 145 3 = some (36, 144) := by kernel_rfl
@[go_sem] theorem fo145_4 : fo Try.prog 145 4 = some (60, 143) := by kernel_rfl
@[go_sem] theorem ti146 : ti Try.prog 146 = some ⟨true, 66, 66⟩ := by kernel_rfl
@[go_sem] theorem zc146 : zc Try.prog 146 = some [.v (.bool false), .v (.bool false), .v (.bool false), .v (.bool false), .v (.bool false), .v (.bool false), .v (.bool false), .v (.bool false), .v (.bool false), .v (.bool false), .v (.bool false), .v (.bool false), .v (.bool false), .v (.bool false), .v (.bool false), .v (.bool false), .v (.bool false), .v (.bool false), .v (.bool false), .v (.bool false), .v (.bool false), .v (.bool false), .v (.bool false), .v (.bool false), .v (.bool false), .v (.bool false), .v (.bool false), .v (.bool false), .v (.bool false), .v (.bool false), .v (.bool false), .v (.bool false), .v (.bool false), .v (.bool false), .v (.bool false), .v (.bool false), .v (.bool false), .v (.bool false), .v (.bool false), .v (.bool false), .v (.bool false), .v (.bool false), .v (.bool false), .v (.bool false), .v (.bool false), .v (.bool false), .v (.bool false), .v (.bool false), .v (.bool false), .v (.bool false), .v (.bool false), .v (.bool false), .v (.bool false), .v (.bool false), .v (.bool false), .v (.bool false), .v (.bool false), .v (.bool false), .v (.bool false), .v (.bool false), .v (.bool false), .v (.bool false), .v (.bool false), .v (.bool false), .v (.bool false), .v (.bool false)] := by kernel_rfl
@[go_sem] theorem fo146_0 : fo Try.prog 146 0 = some (0, 143) := by kernel_rfl
@[go_sem] theorem fo146_1 : fo Try.prog 146 1 = some (6, 143) := by kernel_rfl
@[go_sem] theorem fo146_2 : fo Try.prog 146 2 = some (12, 144) := by kernel_rfl
@[go_sem] theorem fo146_3 : fo Try.prog 146 3 = some (36, 144) := by kernel_rfl
@[go_sem] theorem fo146_4 : fo Try.prog 146 4 = some (60, 143) := by kernel_rfl
@[go_sem] theorem ti147 : ti Try.prog 147 = some ⟨false, 1, 8⟩ := by kernel_rfl
@[go_sem] theorem zc147 : zc Try.prog 147 = some [.v .nilFunc] := by kernel_rfl
@[go_sem] theorem ti148 : ti Try.prog 148 = some ⟨false, 1, 8⟩ := by kernel_rfl
@[go_sem] theorem zc148 : zc Try.prog 148 = some [.v .nilFunc] := by kernel_rfl
@[go_sem] theorem ti149 : ti Try.prog 149 = some ⟨false, 1, 8⟩ := by kernel_rfl
@[go_sem] theorem zc149 : zc Try.prog 149 = some [.v .nilFunc] := by kernel_rfl
@[go_sem] theorem ti150 : ti Try.prog 150 = some ⟨false, 1, 8⟩ := by kernel_rfl
@[go_sem] theorem zc150 : zc Try.prog 150 = some [.v .nilFunc] := by kernel_rfl
@[go_sem] theorem ti151 : ti Try.prog 151 = some ⟨false, 1, 8⟩ := by kernel_rfl
@[go_sem] theorem zc151 : zc Try.prog 151 = some [.v (.int .i64 0)] := by kernel_rfl
@[go_sem] theorem un151 : Try.prog.underlying 151 = some (.int .i64) := Try.underlying151
@[go_sem] theorem ti153 : ti Try.prog 153 = some ⟨false, 1, 8⟩ := by kernel_rfl
@[go_sem] theorem zc153 : zc Try.prog 153 = some [.v .nilFunc] := by kernel_rfl
@[go_sem] theorem ti154 : ti Try.prog 154 = some ⟨false, 1, 8⟩ := by kernel_rfl
@[go_sem] theorem zc154 : zc Try.prog 154 = some [.v .nilFunc] := by kernel_rfl
@[go_sem] theorem ti155 : ti Try.prog 155 = some ⟨false, 1, 8⟩ := by kernel_rfl
@[go_sem] theorem zc155 : zc Try.prog 155 = some [.v .nilFunc] := by kernel_rfl
@[go_sem] theorem ti156 : ti Try.prog 156 = some ⟨false, 1, 8⟩ := by kernel_rfl
@[go_sem] theorem zc156 : zc Try.prog 156 = some [.v .nilFunc] := by kernel_rfl
@[go_sem] theorem ti157 : ti Try.prog 157 = some ⟨false, 1, 8⟩ := by kernel_rfl
@[go_sem] theorem zc157 : zc Try.prog 157 = some [.v .nilFunc] := by kernel_rfl
@[go_sem] theorem ti158 : ti Try.prog 158 = some ⟨false, 1, 4⟩ := by kernel_rfl
@[go_sem] theorem zc158 : zc Try.prog 158 = some [.v (.int .u32 0)] := by kernel_rfl
@[go_sem] theorem ti159 : ti Try.prog 159 = some ⟨false, 1, 8⟩ := by kernel_rfl
@[go_sem] theorem zc159 : zc Try.prog 159 = some [.v .nilFunc] := by kernel_rfl
@[go_sem] theorem ti160 : ti Try.prog 160 = some ⟨false, 1, 8⟩ := by kernel_rfl
@[go_sem] theorem zc160 : zc Try.prog 160 = some [.v .nilFunc] := by kernel_rfl
@[go_sem] theorem ti161 : ti Try.prog 161 = some ⟨false, 1, 8⟩ := by kernel_rfl
@[go_sem] theorem zc161 : zc Try.prog 161 = some [.v .nilFunc] := by kernel_rfl
@[go_sem] theorem ti162 : ti Try.prog 162 = some ⟨false, 1, 8⟩ := by kernel_rfl
@[go_sem] theorem zc162 : zc Try.prog 162 = some [.v .nilFunc] := by kernel_rfl
@[go_sem] theorem ti163 : ti Try.prog 163 = some ⟨false, 1, 8⟩ := by kernel_rfl
@[go_sem] theorem zc163 : zc Try.prog 163 = some [.v .nilFunc] := by kernel_rfl
@[go_sem] theorem ti164 : ti Try.prog 164 = some ⟨false, 1, 8⟩ := by kernel_rfl
@[go_sem] theorem zc164 : zc Try.prog 164 = some [.v .nilFunc] := by kernel_rfl
@[go_sem] theorem ti165 : ti Try.prog 165 = some ⟨false, 1, 8⟩ := by kernel_rfl
@[go_sem] theorem zc165 : zc Try.prog 165 = some [.v .nilFunc] := by kernel_rfl
@[go_sem] theorem ti166 : ti Try.prog 166 = some ⟨false, 1, 8⟩ := by kernel_rfl
@[go_sem] theorem zc166 : zc Try.prog 166 = some [.v .nilFunc] := by kernel_rfl
@[go_sem] theorem ti167 : ti Try.prog 167 = some ⟨false, 1, 8⟩ := by kernel_rfl
@[go_sem] theorem zc167 : zc Try.prog 167 = some [.v (.int .u64 0)] := by kernel_rfl
@[go_sem] theorem ti168 : ti Try.prog 168 = some ⟨false, 1, 8⟩ := by kernel_rfl
@[go_sem] theorem zc168 : zc Try.prog 168 = some [.v .nilFunc] := by kernel_rfl
@[go_sem] theorem ti169 : ti Try.prog 169 = some ⟨false, 1, 8⟩ := by kernel_rfl
@[go_sem] theorem zc169 : zc Try.prog 169 = some [.v .nilFunc] := by kernel_rfl
@[go_sem] theorem ti170 : ti Try.prog 170 = some ⟨false, 1, 8⟩ := by kernel_rfl
@[go_sem] theorem zc170 : zc Try.prog 170 = some [.v .nilFunc] := by kernel_rfl
@[go_sem] theorem ti171 : ti Try.prog 171 = some ⟨false, 1, 8⟩ := by kernel_rfl
@[go_sem] theorem zc171 : zc Try.prog 171 = some [.v (.pointer none)] := by kernel_rfl
@[go_sem] theorem ti172 : ti Try.prog 172 = some ⟨false, 1, 8⟩ := by kernel_rfl
@[go_sem] theorem zc172 : zc Try.prog 172 = some [.v .nilFunc] := by kernel_rfl
@[go_sem] theorem ti173 : ti Try.prog 173 = some ⟨false, 1, 8⟩ := by kernel_rfl
@[go_sem] theorem zc173 : zc Try.prog 173 = some [.v .nilFunc] := by kernel_rfl
@[go_sem] theorem ti174 : ti Try.prog 174 = some ⟨false, 1, 8⟩ := by kernel_rfl
@[go_sem] theorem zc174 : zc Try.prog 174 = some [.v .nilFunc] := by kernel_rfl
@[go_sem] theorem ti175 : ti Try.prog 175 = some ⟨false, 1, 8⟩ := by kernel_rfl
@[go_sem] theorem zc175 : zc Try.prog 175 = some [.v .nilFunc] := by kernel_rfl
@[go_sem] theorem ti176 : ti Try.prog 176 = some ⟨false, 1, 8⟩ := by kernel_rfl
@[go_sem] theorem zc176 : zc Try.prog 176 = some [.v .nilFunc] := by kernel_rfl
@[go_sem] theorem ti177 : ti Try.prog 177 = some ⟨false, 1, 8⟩ := by kernel_rfl
@[go_sem] theorem zc177 : zc Try.prog 177 = some [.v .nilFunc] := by kernel_rfl
@[go_sem] theorem ti178 : ti Try.prog 178 = some ⟨false, 1, 8⟩ := by kernel_rfl
@[go_sem] theorem zc178 : zc Try.prog 178 = some [.v .nilFunc] := by kernel_rfl
@[go_sem] theorem ti179 : ti Try.prog 179 = some ⟨false, 1, 8⟩ := by kernel_rfl
@[go_sem] theorem zc179 : zc Try.prog 179 = some [.v .nilFunc] := by kernel_rfl
@[go_sem] theorem ti180 : ti Try.prog 180 = some ⟨false, 1, 8⟩ := by kernel_rfl
@[go_sem] theorem zc180 : zc Try.prog 180 = some [.v .nilFunc] := by kernel_rfl
@[go_sem] theorem ti181 : ti Try.prog 181 = some ⟨false, 1, 8⟩ := by kernel_rfl
@[go_sem] theorem zc181 : zc Try.prog 181 = some [.v .nilFunc] := by kernel_rfl
@[go_sem] theorem ti182 : ti Try.prog 182 = some ⟨false, 1, 8⟩ := by kernel_rfl
@[go_sem] theorem zc182 : zc Try.prog 182 = some [.v (.pointer none)] := by kernel_rfl
@[go_sem] theorem ti184 : ti Try.prog 184 = some ⟨false, 1, 8⟩ := by kernel_rfl
@[go_sem] theorem zc184 : zc Try.prog 184 = some [.v .nilFunc] := by kernel_rfl
@[go_sem] theorem ti185 : ti Try.prog 185 = some ⟨false, 1, 8⟩ := by kernel_rfl
@[go_sem] theorem zc185 : zc Try.prog 185 = some [.v .nilFunc] := by kernel_rfl
@[go_sem] theorem ti186 : ti Try.prog 186 = some ⟨false, 1, 8⟩ := by kernel_rfl
@[go_sem] theorem zc186 : zc Try.prog 186 = some [.v .nilFunc] := by kernel_rfl
@[go_sem] theorem ti187 : ti Try.prog 187 = some ⟨false, 1, 8⟩ := by kernel_rfl
@[go_sem] theorem zc187 : zc Try.prog 187 = some [.v .nilFunc] := by kernel_rfl
@[go_sem] theorem ti188 : ti Try.prog 188 = some ⟨false, 1, 8⟩ := by kernel_rfl
@[go_sem] theorem zc188 : zc Try.prog 188 = some [.v .nilFunc] := by kernel_rfl
@[go_sem] theorem ti189 : ti Try.prog 189 = some ⟨false, 1, 8⟩ := by kernel_rfl
@[go_sem] theorem zc189 : zc Try.prog 189 = some [.v .nilFunc] := by kernel_rfl
@[go_sem] theorem ti195 : ti Try.prog 195 = some ⟨false, 1, 1⟩ := by kernel_rfl
@[go_sem] theorem zc195 : zc Try.prog 195 = some [.v (.int .u8 0)] := by kernel_rfl
@[go_sem] theorem un195 : Try.prog.underlying 195 = some (.int .u8) := Try.underlying195
@[go_sem] theorem ti196 : ti Try.prog 196 = some ⟨false, 1, 1⟩ := by kernel_rfl
@[go_sem] theorem zc196 : zc Try.prog 196 = some [.v (.int .u8 0)] := by kernel_rfl
@[go_sem] theorem un196 : Try.prog.underlying 196 = some (.int .u8) := Try.underlying196
@[go_sem] theorem ti197 : ti Try.prog 197 = some ⟨false, 1, 8⟩ := by kernel_rfl
@[go_sem] theorem zc197 : zc Try.prog 197 = some [.v .nilFunc] := by kernel_rfl
@[go_sem] theorem ti198 : ti Try.prog 198 = some ⟨false, 1, 8⟩ := by kernel_rfl
@[go_sem] theorem zc198 : zc Try.prog 198 = some [.v (.pointer none)] := by kernel_rfl
@[go_sem] theorem ti199 : ti Try.prog 199 = some ⟨false, 1, 4⟩ := by kernel_rfl
@[go_sem] theorem zc199 : zc Try.prog 199 = some [.v (.int .i32 0)] := by kernel_rfl
@[go_sem] theorem un199 : Try.prog.underlying 199 = some (.int .i32) := Try.underlying199
@[go_sem] theorem ti200 : ti Try.prog 200 = some ⟨false, 1, 4⟩ := by kernel_rfl
@[go_sem] theorem zc200 : zc Try.prog 200 = some [.v (.int .i32 0)] := by kernel_rfl
@[go_sem] theorem un200 : Try.prog.underlying 200 = some (.int .i32) := Try.underlying200
@[go_sem] theorem ti201 : ti Try.prog 201 = some ⟨true, 11, 48⟩ := by kernel_rfl
@[go_sem] theorem zc201 : zc Try.prog 201 = some [.v (.int .u64 0), .v (.int .u64 0), .v (.int .u32 0), .v (.int .u8 0), .v (.int .u8 0), .v (.int .u8 0), .v (.int .u8 0), .v .nilFunc, .v (.pointer none), .v (.int .i32 0), .v (.int .i32 0)] := by kernel_rfl
@[go_sem] theorem fo201_0 : fo Try.prog 201 0 = some (0, 12) := by kernel_rfl
@[go_sem] theorem fo201_1 : fo Try.prog 201 1 = some (1, 12) := by kernel_rfl
@[go_sem] theorem fo201_2 : fo Try.prog 201 2 = some (2, 158) := by kernel_rfl
@[go_sem] theorem fo201_3 : fo Try.prog 201 3 = some (3, 195) := by kernel_rfl
@[go_sem] theorem fo201_4 : fo Try.prog 201 4 = some (4, 5) := by kernel_rfl
@[go_sem] theorem fo201_5 : fo Try.prog 201 5 = some (5, 5) := by kernel_rfl
@[go_sem] theorem fo201_6 : fo Try.prog 201 6 = some (6, 196) := by kernel_rfl
@[go_sem] theorem fo201_7 : fo Try.prog 201 7 = some (7, 197) := by kernel_rfl
@[go_sem] theorem fo201_8 : fo Try.prog 201 8 = some (8, 198) := by kernel_rfl
@[go_sem] theorem fo201_9 : fo Try.prog 201 9 = some (9, 199) := by kernel_rfl
@[go_sem] theorem fo201_10 : fo Try.prog 201 10 = some (10, 200) := by kernel_rfl
@[go_sem] theorem ti202 : ti Try.prog 202 = some ⟨true, 11, 48⟩ := by kernel_rfl
@[go_sem] theorem zc202 : zc Try.prog 202 = some [.v (.int .u64 0), .v (.int .u64 0), .v (.int .u32 0), .v (.int .u8 0), .v (.int .u8 0), .v (.int .u8 0), .v (.int .u8 0), .v .nilFunc, .v (.pointer none), .v (.int .i32 0), .v (.int .i32 0)] := by kernel_rfl
@[go_sem] theorem fo202_0 : fo Try.prog 202 0 = some (0, 12) := by kernel_rfl
@[go_sem] theorem fo202_1 : fo Try.prog 202 1 = some (1, 12) := by kernel_rfl
@[go_sem] theorem fo202_2 : fo Try.prog 202 2 = some (2, 158) := by kernel_rfl
@[go_sem] theorem fo202_3 : fo Try.prog 202 3 = some (3, 195) := by kernel_rfl
@[go_sem] theorem fo202_4 : fo Try.prog 202 4 = some (4, 5) := by kernel_rfl
@[go_sem] theorem fo202_5 : fo Try.prog 202 5 = some (5, 5) := by kernel_rfl
@[go_sem] theorem fo202_6 : fo Try.prog 202 6 = some (6, 196) := by kernel_rfl
@[go_sem] theorem fo202_7 : fo Try.prog 202 7 = some (7, 197) := by kernel_rfl
@[go_sem] theorem fo202_8 : fo Try.prog 202 8 = some (8, 198) := by kernel_rfl
@[go_sem] theorem fo202_9 : fo Try.prog 202 9 = some (9, 199) := by kernel_rfl
@[go_sem] theorem fo202_10 : fo Try.prog 202 10 = some (10, 200) := by kernel_rfl
end Go.Proofs.Ytejpklajfcngbaa.En
end
section
namespace Go.Proofs.Ytejpklajfcngbaa.En
open Go.RowKit
set_option linter.unusedSimpArgs false
set_option linter.unusedVariables false
set_option maxHeartbeats 4000000
def ints (xs : List Int) : List (List AV) := xs.map fun n => [.v (.int .i64 n)]
@[simp] theorem ints_len (xs : List Int) : (ints xs).length = xs.length := by simp [ints]
@[simp] theorem ints_get (xs : List Int) (i : Nat) : (ints xs)[i]? = (xs[i]?).map fun n => [.v (.int .i64 n)] := by simp [ints]
@[simp] theorem ints_gE (xs : List Int) (i : Nat) (h : i < (ints xs).length) : (ints xs)[i] = [.v (.int .i64 (xs[i]'(by simpa using h)))] := by simp [ints]
@[simp] theorem ints_set (xs : List Int) (i : Nat) (n : Int) : (ints xs).set i [.v (.int .i64 n)] = ints (xs.set i n) := by simp [ints]
@[simp] theorem ints_rep (n : Nat) (x : Int) : List.replicate n [AV.v (.int .i64 x)] = ints (List.replicate n x) := by simp [ints]
theorem ints_nf (xs : List Int) : ∀ row ∈ ints xs, ∀ x ∈ row, nf x = true := by
  intro row hr x hx
  simp only [ints, List.mem_map] at hr
  obtain ⟨n, _, rfl⟩ := hr
  simp at hx; subst hx; rfl
theorem ints_cl (xs : List Int) : ∀ row ∈ ints xs, ∀ x ∈ row, cl1 x = true := by
  intro row hr x hx
  simp only [ints, List.mem_map] at hr
  obtain ⟨n, _, rfl⟩ := hr
  simp at hx; subst hx; rfl

def half {α : Type} (xs : List α) (z : α) (i : Nat) : List α := xs.take i ++ List.replicate (xs.length - i) z
theorem half_all {α : Type} (xs : List α) (z : α) : half xs z xs.length = xs := by simp [half]
theorem half_get {α : Type} (xs : List α) (z : α) (i : Nat) (h : i < xs.length) : (half xs z i)[i]? = some z := by
  unfold half
  rw [List.getElem?_append_right (by simp; omega), List.getElem?_replicate]
  simp; omega
theorem half_set {α : Type} (xs : List α) (z : α) (i : Nat) (h : i < xs.length) (x : α) (hx : xs[i]? = some x) : (half xs z i).set i x = half xs z (i + 1) := by
  unfold half
  rw [List.set_append_right _ _ (by simp; omega), List.take_add_one, hx]
  have e : xs.length - i = (xs.length - (i + 1)) + 1 := by omega
  have e2 : i - (xs.take i).length = 0 := by simp; omega
  rw [e2, e, List.replicate_succ, List.set_cons_zero]
  simp

theorem toIntS (xs : List Int) (hx : xs.length < 35184372088832) : Pure Try.prog 113 [.im 1 (ints xs)] (.im 1 (ints xs)) := by
  refine Pure.mk (rs := [.tmp 2]) (nt := 22) Try.func113 rfl rfl rfl rfl (by simp) ?_
  simp only [sl]
  refine wk (And.intro ((show (0:Int) ≤ (xs.length : Int) by omega)) (And.intro ((show (8:Int) * xs.length ≤ 281474976710656 by omega)) ((show (xs.length : Int) ≤ 281474976710656 by omega)))) _ ?_
  refine Holds.loop (ι := Nat) (fun i => ⟨[(0, .im 1 (ints xs)), (3, .own 0 1 0 xs.length), (4, .v (.int .i64 i))], [(0, ⟨3, 1, ints (half xs 0 i)⟩)], 1⟩) (fun i => i ≤ xs.length) (fun i => xs.length - i) 0 (Nat.zero_le _) ?_ ?_
  · exact Cov.of id (by simp [ChkT, okr, okr1, lk, ren, ren1]) (by simp [ChkB, lb, BlkC, half, ints_nf]; exact .inl (ints_nf _))
  intro i hi
  refine wk0 _ ?_
  refine Holds.cond rfl (fun hl => ?_) (fun hl => ?_)
  · have hlt : i < xs.length := by simpa using hl
    have hxi : xs[i]? = some xs[i] := List.getElem?_eq_getElem hlt
    have hhi := half_get xs 0 i hlt
    have hhs := half_set xs 0 i hlt _ hxi
    refine wk (And.intro @hxi (And.intro @hlt (And.intro @hhi (@hhs)))) _ ?_
    refine ⟨i + 1, by omega, by omega, ?_⟩
    rw [wr64_id (by omega) (by omega)]
    exact Cov.of id (by simp [ChkT, okr, okr1, lk, ren, ren1]) (by simp [ChkB, lb, BlkC]; exact .inl (ints_nf _))
  · have hle : i = xs.length := by
      have : ¬ i < xs.length := by simpa using hl
      omega
    subst hle
    rw [half_all]
    refine wk0 _ ?_
    refine Out.mk (xs := ?_) ?_ ?_ (by first | exact .inr rfl | exact .inl rfl)
    rotate_left
    · simp [go_sem, List.take_of_length_le] <;> with_reducible rfl
    exact Fz.all rfl rfl (by simp) rfl (ints_cl xs)

theorem take_next {α : Type} {xs ys : List α} {i : Nat} {x y : α} (hx : xs[i]? = some x) (hy : ys[i]? = some y) (ht : xs.take i = ys.take i) : (xs.take (i + 1) = ys.take (i + 1)) ↔ x = y := by
  rw [show xs.take (i + 1) = xs.take i ++ [x] by rw [List.take_add_one, hx]; rfl, show ys.take (i + 1) = ys.take i ++ [y] by rw [List.take_add_one, hy]; rfl, ht]
  exact ⟨fun h => by simpa using List.append_cancel_left h, fun h => by rw [h]⟩
theorem ne_at {α : Type} {xs ys : List α} {i : Nat} {x y : α} (hx : xs[i]? = some x) (hy : ys[i]? = some y) (h : x ≠ y) : ¬ xs = ys := by
  rintro rfl
  rw [hx] at hy
  exact h (Option.some.inj hy)

theorem eqIntS (xs ys : List Int) (hx : xs.length < 4611686018427387904) : Pure Try.prog 11 [.im 1 (ints xs), .im 1 (ints ys)] (.v (.bool (decide (xs = ys)))) := by
  refine Pure.mk (rs := [.tmp 4]) (nt := 26) Try.func11 rfl rfl rfl rfl (by simp) ?_
  simp only [sl]
  refine wkd0 _ ?_
  refine Holds.cond rfl (fun hl => ?_) (fun hl => ?_)
  · have : ¬ xs = ys := by rintro rfl; simp at hl
    simp only [this, decide_false]
    refine wkd0 _ ?_
    refine Out.mk (xs := ?_) ?_ ?_ (by first | exact .inr rfl | exact .inl rfl)
    rotate_left
    · simp [go_sem, List.take_of_length_le] <;> with_reducible rfl
    exact .v _
  · have hlen : xs.length = ys.length := by
      have : (xs.length : Int) = ys.length := by simpa using hl
      omega
    refine wkd0 _ ?_
    refine Holds.loop (ι := Nat) (fun i => ⟨[(0, .im 1 (ints xs)), (1, .im 1 (ints ys)), (5, .v (.int .i64 i))], [], 0⟩) (fun i => i ≤ xs.length ∧ xs.take i = ys.take i) (fun i => xs.length - i) 0 ⟨Nat.zero_le _, rfl⟩ ?_ ?_
    · exact Cov.of id (by simp [ChkT, okr, okr1, lk, ren, ren1]) (by simp [ChkB])
    rintro i ⟨hi, htk⟩
    refine wkd0 _ ?_
    refine Holds.cond rfl (fun hl => ?_) (fun hl => ?_)
    · have hlt : i < xs.length := by simpa using hl
      have hxi : xs[i]? = some xs[i] := List.getElem?_eq_getElem hlt
      have hyi : ys[i]? = some ys[i] := List.getElem?_eq_getElem (by omega)
      refine wkd (And.intro @hxi (@hyi)) _ ?_
      refine Holds.cond rfl (fun hl => ?_) (fun hl => ?_)
      · have hne : ¬ xs = ys := ne_at hxi hyi (by simpa using hl)
        simp only [hne, decide_false]
        refine wkd0 _ ?_
        refine Out.mk (xs := ?_) ?_ ?_ (by first | exact .inr rfl | exact .inl rfl)
        rotate_left
        · simp [go_sem, List.take_of_length_le] <;> with_reducible rfl
        exact .v _
      · have he : xs[i] = ys[i] := by simpa using hl
        refine wkd0 _ ?_
        refine ⟨i + 1, ⟨by omega, (take_next hxi hyi htk).2 he⟩, by omega, ?_⟩
        rw [wr64_id (by omega) (by omega)]
        exact Cov.of id (by simp [ChkT, okr, okr1, lk, ren, ren1]) (by simp [ChkB])
    · have hle : i = xs.length := by
        have : ¬ i < xs.length := by simpa using hl
        omega
      have he : xs = ys := by
        subst hle
        rw [List.take_length, hlen, List.take_length] at htk
        exact htk
      simp only [he, decide_true]
      refine wkd0 _ ?_
      refine Out.mk (xs := ?_) ?_ ?_ (by first | exact .inr rfl | exact .inl rfl)
      rotate_left
      · simp [go_sem, List.take_of_length_le] <;> with_reducible rfl
      exact .v _

def less (n : Int) (k : Nat) : Int := if n - k < 0 then -1 else n - k
theorem szIntS (xs : List Int) (n : Int) (h0 : -1 ≤ n) (h1 : n ≤ 1048576) (hx : xs.length < 4611686018427387904) : Pure Try.prog 112 [.im 1 (ints xs), .v (.int .i64 n)] (.v (.int .i64 (less n xs.length))) := by
  refine Pure.mk (rs := [.tmp 4]) (nt := 12) Try.func112 rfl rfl rfl rfl (by simp) ?_
  simp only [sl]
  have hw : wr64 (n - xs.length) = n - xs.length := wr64_id (by omega) (by omega)
  refine wk (@hw) _ ?_
  refine Holds.cond (by simp [go_sem, hw]; with_reducible rfl) (fun hl => ?_) (fun hl => ?_)
  · have : n - xs.length < 0 := by simpa using hl
    simp only [less, if_pos this]
    refine wk0 _ ?_
    refine Out.mk (xs := ?_) ?_ ?_ (by first | exact .inr rfl | exact .inl rfl)
    rotate_left
    · simp [go_sem, List.take_of_length_le] <;> with_reducible rfl
    exact .v _
  · have : ¬ n - xs.length < 0 := by simpa using hl
    simp only [less, if_neg this]
    refine wk0 _ ?_
    refine Out.mk (xs := ?_) ?_ ?_ (by first | exact .inr rfl | exact .inl rfl)
    rotate_left
    · simp [go_sem, List.take_of_length_le] <;> with_reducible rfl
    exact .v _
end Go.Proofs.Ytejpklajfcngbaa.En
end
section
namespace Go.Proofs.Ytejpklajfcngbaa.En
open Go.RowKit
set_option linter.unusedSimpArgs false
set_option linter.unusedVariables false
set_option maxHeartbeats 4000000
abbrev Node3 := Int × Int × Int
abbrev Edge3 := Int × Int × List Int
def nodeC (n : Node3) : List AV := [.v (.int .i64 n.1), .v (.int .i64 n.2.1), .v (.int .i64 n.2.2)]
def edgeC (e : Edge3) : List AV := [.v (.int .i64 e.1), .v (.int .i64 e.2.1), .im 1 (ints e.2.2)]
def nodes (ns : List Node3) : List (List AV) := ns.map nodeC
def edges (es : List Edge3) : List (List AV) := es.map edgeC
@[simp] theorem nodes_len (xs : List Node3) : (nodes xs).length = xs.length := by simp [nodes]
@[simp] theorem nodes_get (xs : List Node3) (i : Nat) : (nodes xs)[i]? = (xs[i]?).map nodeC := by simp [nodes]
@[simp] theorem nodes_gE (xs : List Node3) (i : Nat) (h : i < (nodes xs).length) : (nodes xs)[i] = nodeC (xs[i]'(by simpa using h)) := by simp [nodes]
@[simp] theorem edges_len (xs : List Edge3) : (edges xs).length = xs.length := by simp [edges]
@[simp] theorem edges_get (xs : List Edge3) (i : Nat) : (edges xs)[i]? = (xs[i]?).map edgeC := by simp [edges]
@[simp] theorem edges_gE (xs : List Edge3) (i : Nat) (h : i < (edges xs).length) : (edges xs)[i] = edgeC (xs[i]'(by simpa using h)) := by simp [edges]
def rowsOk (xs : List (List AV)) : Prop := ∀ row ∈ xs, ∀ x ∈ row, cl1 x = true
theorem cl1_nf {x : AV} (h : cl1 x = true) : nf x = true := by cases x <;> simp_all [cl1, nf]
theorem rowsOk.nf {xs : List (List AV)} (h : rowsOk xs) : ∀ row ∈ xs, ∀ x ∈ row, En.nf x = true := fun row hr x hx => cl1_nf (h row hr x hx)
theorem nodes_ok (ns : List Node3) : rowsOk (nodes ns) := by
  intro row hr x hx
  simp only [nodes, List.mem_map] at hr
  obtain ⟨n, _, rfl⟩ := hr
  simp only [nodeC, List.mem_cons, List.not_mem_nil, or_false] at hx
  rcases hx with rfl | rfl | rfl <;> rfl
theorem edges_ok (ns : List Edge3) : rowsOk (edges ns) := by
  intro row hr x hx
  simp only [edges, List.mem_map] at hr
  obtain ⟨n, _, rfl⟩ := hr
  simp only [edgeC, List.mem_cons, List.not_mem_nil, or_false] at hx
  rcases hx with rfl | rfl | rfl <;> rfl
theorem half_ok {xs : List (List AV)} {z : List AV} {i : Nat} (h : rowsOk xs) (hz : ∀ x ∈ z, cl1 x = true) : rowsOk (half xs z i) := by
  intro row hr x hx
  simp only [half, List.mem_append, List.mem_replicate] at hr
  rcases hr with hr | ⟨_, rfl⟩
  · exact h row (List.mem_of_mem_take hr) x hx
  · exact hz x hx

end Go.Proofs.Ytejpklajfcngbaa.En
end
section
namespace Go.Proofs.Ytejpklajfcngbaa.En
open Go.RowKit
set_option linter.unusedSimpArgs false
set_option linter.unusedVariables false
set_option maxHeartbeats 4000000

end Go.Proofs.Ytejpklajfcngbaa.En
end
section
namespace Go.Proofs.Ytejpklajfcngbaa.En
open Go.RowKit
set_option linter.unusedSimpArgs false
set_option linter.unusedVariables false
set_option maxHeartbeats 4000000
theorem less_in {n : Int} {k : Nat} (h1 : n ≤ 1048576) : -1 ≤ less n k ∧ less n k ≤ 1048576 := by
  unfold less; split <;> omega
end Go.Proofs.Ytejpklajfcngbaa.En
end
section
namespace Go.Proofs.Ytejpklajfcngbaa.En
open Go.RowKit
set_option linter.unusedSimpArgs false
set_option linter.unusedVariables false
set_option maxHeartbeats 4000000
theorem l1Same (xs ys : List Int) (hx : xs.length < 4611686018427387904) : Pure Try.prog 56 [.im 1 (ints xs), .im 1 (ints ys)] (.v (.bool (decide (xs = ys)))) := by
  refine Pure.mk (rs := [.tmp 4]) (nt := 26) Try.func56 (by kernel_rfl) rfl rfl rfl (by simp) ?_
  simp only [sl]
  refine wkd0 _ ?_
  refine Holds.cond rfl (fun hl => ?_) (fun hl => ?_)
  · have : ¬ xs = ys := by rintro rfl; simp at hl
    simp only [this, decide_false]
    refine wkd0 _ ?_
    refine Out.mk (xs := ?_) ?_ ?_ (by first | exact .inr rfl | exact .inl rfl)
    rotate_left
    · simp [go_sem, List.take_of_length_le] <;> with_reducible rfl
    exact .v _
  · have hlen : xs.length = ys.length := by
      have : (xs.length : Int) = ys.length := by simpa using hl
      omega
    refine wkd0 _ ?_
    refine Holds.loop (ι := Nat) (fun i => ⟨[(0, .im 1 (ints xs)), (1, .im 1 (ints ys)), (12, .v (.int .i64 xs.length)), (13, .v (.int .i64 i))], [], 0⟩) (fun i => i ≤ xs.length ∧ xs.take i = ys.take i) (fun i => xs.length - i) 0 ⟨Nat.zero_le _, rfl⟩ ?_ ?_
    · exact Cov.of id (by simp [ChkT, okr, okr1, lk, ren, ren1]) (by simp [ChkB])
    rintro i ⟨hi, htk⟩
    refine wkd0 _ ?_
    refine Holds.cond rfl (fun hl => ?_) (fun hl => ?_)
    · have hlt : i < xs.length := by simpa using hl
      have hxi : xs[i]? = some xs[i] := List.getElem?_eq_getElem hlt
      have hyi : ys[i]? = some ys[i] := List.getElem?_eq_getElem (by omega)
      refine wkd (And.intro @hxi (@hyi)) _ ?_
      refine Holds.cond rfl (fun hl => ?_) (fun hl => ?_)
      · have hne : ¬ xs = ys := ne_at hxi hyi (by simpa using hl)
        simp only [hne, decide_false]
        refine wkd0 _ ?_
        refine Out.mk (xs := ?_) ?_ ?_ (by first | exact .inr rfl | exact .inl rfl)
        rotate_left
        · simp [go_sem, List.take_of_length_le] <;> with_reducible rfl
        exact .v _
      · have he : xs[i] = ys[i] := by simpa using hl
        refine wkd0 _ ?_
        refine ⟨i + 1, ⟨by omega, (take_next hxi hyi htk).2 he⟩, by omega, ?_⟩
        rw [wr64_id (by omega) (by omega)]
        exact Cov.of id (by simp [ChkT, okr, okr1, lk, ren, ren1]) (by simp [ChkB])
    · have hle : i = xs.length := by
        have : ¬ i < xs.length := by simpa using hl
        omega
      have he : xs = ys := by
        subst hle
        rw [List.take_length, hlen, List.take_length] at htk
        exact htk
      simp only [he, decide_true]
      refine wkd0 _ ?_
      refine Out.mk (xs := ?_) ?_ ?_ (by first | exact .inr rfl | exact .inl rfl)
      rotate_left
      · simp [go_sem, List.take_of_length_le] <;> with_reducible rfl
      exact .v _

theorem equalInts (xs ys : List Int) (hx : xs.length < 4611686018427387904) : Pure Try.prog 54 [.im 1 (ints xs), .im 1 (ints ys)] (.v (.bool (decide (xs = ys)))) := by
  refine Pure.mk (rs := [.tmp 4]) (nt := 26) Try.func54 (by kernel_rfl) rfl rfl rfl (by simp) ?_
  simp only [sl]
  refine wkd0 _ ?_
  refine Holds.cond rfl (fun hl => ?_) (fun hl => ?_)
  · have : ¬ xs = ys := by rintro rfl; simp at hl
    simp only [this, decide_false]
    refine wkd0 _ ?_
    refine Out.mk (xs := ?_) ?_ ?_ (by first | exact .inr rfl | exact .inl rfl)
    rotate_left
    · simp [go_sem, List.take_of_length_le] <;> with_reducible rfl
    exact .v _
  · have hlen : xs.length = ys.length := by
      have : (xs.length : Int) = ys.length := by simpa using hl
      omega
    refine wkd0 _ ?_
    refine Holds.loop (ι := Nat) (fun i => ⟨[(0, .im 1 (ints xs)), (1, .im 1 (ints ys)), (12, .v (.int .i64 xs.length)), (13, .v (.int .i64 i))], [], 0⟩) (fun i => i ≤ xs.length ∧ xs.take i = ys.take i) (fun i => xs.length - i) 0 ⟨Nat.zero_le _, rfl⟩ ?_ ?_
    · exact Cov.of id (by simp [ChkT, okr, okr1, lk, ren, ren1]) (by simp [ChkB])
    rintro i ⟨hi, htk⟩
    refine wkd0 _ ?_
    refine Holds.cond rfl (fun hl => ?_) (fun hl => ?_)
    · have hlt : i < xs.length := by simpa using hl
      have hxi : xs[i]? = some xs[i] := List.getElem?_eq_getElem hlt
      have hyi : ys[i]? = some ys[i] := List.getElem?_eq_getElem (by omega)
      refine wkd (And.intro @hxi (@hyi)) _ ?_
      refine Holds.cond rfl (fun hl => ?_) (fun hl => ?_)
      · have hne : ¬ xs = ys := ne_at hxi hyi (by simpa using hl)
        simp only [hne, decide_false]
        refine wkd0 _ ?_
        refine Out.mk (xs := ?_) ?_ ?_ (by first | exact .inr rfl | exact .inl rfl)
        rotate_left
        · simp [go_sem, List.take_of_length_le] <;> with_reducible rfl
        exact .v _
      · have he : xs[i] = ys[i] := by simpa using hl
        refine wkd0 _ ?_
        refine ⟨i + 1, ⟨by omega, (take_next hxi hyi htk).2 he⟩, by omega, ?_⟩
        rw [wr64_id (by omega) (by omega)]
        exact Cov.of id (by simp [ChkT, okr, okr1, lk, ren, ren1]) (by simp [ChkB])
    · have hle : i = xs.length := by
        have : ¬ i < xs.length := by simpa using hl
        omega
      have he : xs = ys := by
        subst hle
        rw [List.take_length, hlen, List.take_length] at htk
        exact htk
      simp only [he, decide_true]
      refine wkd0 _ ?_
      refine Out.mk (xs := ?_) ?_ ?_ (by first | exact .inr rfl | exact .inl rfl)
      rotate_left
      · simp [go_sem, List.take_of_length_le] <;> with_reducible rfl
      exact .v _

end Go.Proofs.Ytejpklajfcngbaa.En
end
section
namespace Go.Proofs.Ytejpklajfcngbaa.En
open Go.RowKit
set_option linter.unusedSimpArgs false
set_option linter.unusedVariables false
set_option maxHeartbeats 4000000
def intsC (xs : List Int) : List AV := [.im 1 (ints xs)]
def intss (xs : List (List Int)) : List (List AV) := xs.map intsC
@[simp] theorem intss_len (xs : List (List Int)) : (intss xs).length = xs.length := by simp [intss]
@[simp] theorem intss_get (xs : List (List Int)) (i : Nat) : (intss xs)[i]? = (xs[i]?).map intsC := by simp [intss]
@[simp] theorem intss_gE (xs : List (List Int)) (i : Nat) (h : i < (intss xs).length) : (intss xs)[i] = intsC (xs[i]'(by simpa using h)) := by simp [intss]
theorem intss_ok (ns : List (List Int)) : rowsOk (intss ns) := by
  intro row hr x hx
  simp only [intss, List.mem_map] at hr
  obtain ⟨n, _, rfl⟩ := hr
  simp only [intsC, List.mem_cons, List.not_mem_nil, or_false] at hx
  subst hx; rfl
theorem eqIntSS (xs ys : List (List Int)) (hx : xs.length < 4611686018427387904) (hs : ∀ e ∈ xs, e.length < 4611686018427387904) : Pure Try.prog 28 [.im 1 (intss xs), .im 1 (intss ys)] (.v (.bool (decide (xs = ys)))) := by
  refine Pure.mk (rs := [.tmp 4]) (nt := 27) Try.func28 (by kernel_rfl) rfl rfl rfl (by simp) ?_
  simp only [sl]
  refine wkd0 _ ?_
  refine Holds.cond rfl (fun hl => ?_) (fun hl => ?_)
  · have : ¬ xs = ys := by rintro rfl; simp at hl
    simp only [this, decide_false]
    refine wkd0 _ ?_
    refine Out.mk (xs := ?_) ?_ ?_ (by first | exact .inr rfl | exact .inl rfl)
    rotate_left
    · simp [go_sem, List.take_of_length_le] <;> with_reducible rfl
    exact .v _
  · have hlen : xs.length = ys.length := by
      have : (xs.length : Int) = ys.length := by simpa using hl
      omega
    refine wkd0 _ ?_
    refine Holds.loop (ι := Nat) (fun i => ⟨[(0, .im 1 (intss xs)), (1, .im 1 (intss ys)), (5, .v (.int .i64 i))], [], 0⟩) (fun i => i ≤ xs.length ∧ xs.take i = ys.take i) (fun i => xs.length - i) 0 ⟨Nat.zero_le _, rfl⟩ ?_ ?_
    · exact Cov.of id (by simp [ChkT, okr, okr1, lk, ren, ren1]) (by simp [ChkB])
    rintro i ⟨hi, htk⟩
    refine wkd0 _ ?_
    refine Holds.cond rfl (fun hl => ?_) (fun hl => ?_)
    · have hlt : i < xs.length := by simpa using hl
      have hxi : xs[i]? = some xs[i] := List.getElem?_eq_getElem hlt
      have hyi : ys[i]? = some ys[i] := List.getElem?_eq_getElem (by omega)
      refine wkd (And.intro @hxi (And.intro @hyi (@intsC.eq_1))) _ ?_
      first | refine GS.cc (eqIntS xs[i] ys[i] (hs _ (List.getElem_mem hlt))) rfl rfl rfl rfl (by simp [go_sem, List.take_of_length_le, intsC] <;> with_reducible rfl) rfl (by simp [go_sem, List.take_of_length_le, intsC]) ?_ | refine Gd.cc (eqIntS xs[i] ys[i] (hs _ (List.getElem_mem hlt))) rfl rfl rfl rfl (by simp [go_sem, List.take_of_length_le, intsC] <;> with_reducible rfl) rfl (by simp [go_sem, List.take_of_length_le, intsC]) ?_
      refine wkd0 _ ?_
      refine Holds.cond rfl (fun hl => ?_) (fun hl => ?_)
      · have hne : ¬ xs = ys := ne_at hxi hyi (by simpa using hl)
        simp only [hne, decide_false]
        refine wkd0 _ ?_
        refine Out.mk (xs := ?_) ?_ ?_ (by first | exact .inr rfl | exact .inl rfl)
        rotate_left
        · simp [go_sem, List.take_of_length_le] <;> with_reducible rfl
        exact .v _
      · have he : xs[i] = ys[i] := by simpa using hl
        refine wkd0 _ ?_
        refine ⟨i + 1, ⟨by omega, (take_next hxi hyi htk).2 he⟩, by omega, ?_⟩
        rw [wr64_id (by omega) (by omega)]
        exact Cov.of id (by simp [ChkT, okr, okr1, lk, ren, ren1]) (by simp [ChkB])
    · have hle : i = xs.length := by
        have : ¬ i < xs.length := by simpa using hl
        omega
      have he : xs = ys := by
        subst hle
        rw [List.take_length, hlen, List.take_length] at htk
        exact htk
      simp only [he, decide_true]
      refine wkd0 _ ?_
      refine Out.mk (xs := ?_) ?_ ?_ (by first | exact .inr rfl | exact .inl rfl)
      rotate_left
      · simp [go_sem, List.take_of_length_le] <;> with_reducible rfl
      exact .v _
def machine (m : Int × Int × List (List Int) × List Int) : AV := .ag [.v (.int .i64 m.1), .v (.int .i64 m.2.1), .im 1 (intss m.2.2.1), .im 1 (ints m.2.2.2)]
theorem eqMachine (m : Int × Int × List (List Int) × List Int) (hx : m.2.2.1.length < 4611686018427387904) (hs : ∀ e ∈ m.2.2.1, e.length < 4611686018427387904) (hy : m.2.2.2.length < 4611686018427387904) : Pure Try.prog 33 [machine m, machine m] (.v (.bool true)) := by
  refine Pure.mk (rs := [.tmp 4]) (nt := 27) Try.func33 (by kernel_rfl) rfl rfl rfl (by simp) ?_
  simp only [sl, machine]
  have c1 := eqIntSS m.2.2.1 m.2.2.1 hx hs
  have c2 := eqIntS m.2.2.2 m.2.2.2 hy
  simp only [decide_true] at c1 c2
  refine wk0 _ ?_
  refine Holds.cond rfl (fun h => ?_) (fun h => ?_)
  · cases h
  refine wk0 _ ?_
  refine Holds.cond rfl (fun h => ?_) (fun h => ?_)
  · cases h
  refine wk0 _ ?_
  refine GS.cc (c1) rfl rfl rfl rfl (by simp [go_sem, List.take_of_length_le] <;> with_reducible rfl) rfl (by simp [go_sem, List.take_of_length_le]) ?_
  refine wk0 _ ?_
  refine Holds.cond rfl (fun h => ?_) (fun h => ?_)
  · cases h
  refine wk0 _ ?_
  refine GS.cc (c2) rfl rfl rfl rfl (by simp [go_sem, List.take_of_length_le] <;> with_reducible rfl) rfl (by simp [go_sem, List.take_of_length_le]) ?_
  refine wk0 _ ?_
  refine Holds.cond rfl (fun h => ?_) (fun h => ?_)
  · cases h
  refine wk0 _ ?_
  refine Out.mk (xs := ?_) ?_ ?_ (by first | exact .inr rfl | exact .inl rfl)
  rotate_left
  · simp [go_sem, List.take_of_length_le] <;> with_reducible rfl
  exact .v _
end Go.Proofs.Ytejpklajfcngbaa.En
end
section
namespace Go.Proofs.Ytejpklajfcngbaa.En
open Go.RowKit
def szL {α : Type} (f : Int → α → Int) : Int → List α → Int
  | n, [] => n
  | n, e :: es => if f n e < 0 then -1 else szL f (f n e) es
def szLA {α : Type} (f : Int → α → Int) (n : Int) (es : List α) : Int := if n - es.length < 0 then -1 else szL f (n - es.length) es
theorem szL_in {α : Type} {f : Int → α → Int} (hf : ∀ n e, n ≤ 1048576 → -1 ≤ f n e ∧ f n e ≤ 1048576) (es : List α) : ∀ n : Int, -1 ≤ n → n ≤ 1048576 → -1 ≤ szL f n es ∧ szL f n es ≤ 1048576 := by
  induction es with
  | nil => intro n h0 h1; exact ⟨h0, h1⟩
  | cons e es ih =>
    intro n h0 h1
    unfold szL
    split
    · omega
    · exact ih _ (hf n e h1).1 (hf n e h1).2
theorem szLA_in {α : Type} {f : Int → α → Int} (hf : ∀ n e, n ≤ 1048576 → -1 ≤ f n e ∧ f n e ≤ 1048576) {es : List α} {n : Int} (h1 : n ≤ 1048576) : -1 ≤ szLA f n es ∧ szLA f n es ≤ 1048576 := by
  unfold szLA
  split
  · omega
  · exact szL_in hf es _ (by omega) (by omega)
@[simp] theorem nfr_ints (xs : List Int) : nfr (ints xs) := ints_nf xs
@[simp] theorem nfr_intss (xs : List (List Int)) : nfr (intss xs) := nfr_of_ok (intss_ok xs)
@[simp] theorem nfr_half {xs : List (List AV)} {z : List AV} {i : Nat} (h : nfr xs) (hz : ∀ x ∈ z, nf x = true) : nfr (half xs z i) := by
  unfold half
  rw [nfr_append]
  exact ⟨h.take _, .rep hz⟩
def upTo (f : Nat → Int) (i : Nat) : List Int := (List.range i).map f
@[simp] theorem upTo_len (f : Nat → Int) (i : Nat) : (upTo f i).length = i := by simp [upTo]
@[simp] theorem upTo_zero (f : Nat → Int) : upTo f 0 = [] := rfl
@[simp] theorem ints_nil : ints [] = [] := rfl
theorem ints_snoc (xs : List Int) (n : Int) : ints xs ++ [[.v (.int .i64 n)]] = ints (xs ++ [n]) := by simp [ints]
end Go.Proofs.Ytejpklajfcngbaa.En
end
section
namespace Go.Proofs.Ytejpklajfcngbaa.En
open Go.RowKit
set_option linter.unusedSimpArgs false
set_option linter.unusedVariables false
set_option maxHeartbeats 4000000
abbrev DoneT := Int × Int × Int × Int
def doneC (x : DoneT) : List AV := [.v (.int .i64 x.1), .v (.int .i64 x.2.1), .v (.int .i64 x.2.2.1), .v (.int .i64 x.2.2.2)]
def dones (l : List DoneT) : List (List AV) := l.map doneC
@[simp] theorem dones_len (l : List DoneT) : (dones l).length = l.length := by simp [dones]
@[simp] theorem dones_get (l : List DoneT) (i : Nat) : (dones l)[i]? = (l[i]?).map doneC := by simp [dones]
@[simp] theorem dones_gE (l : List DoneT) (i : Nat) (h : i < (dones l).length) : (dones l)[i] = doneC (l[i]'(by simpa using h)) := by simp [dones]
theorem dones_ok (l : List DoneT) : rowsOk (dones l) := by
  intro row hr x hx
  simp only [dones, List.mem_map] at hr
  obtain ⟨n, _, rfl⟩ := hr
  simp only [doneC, List.mem_cons, List.not_mem_nil, or_false] at hx
  rcases hx with rfl | rfl | rfl | rfl <;> rfl
@[simp] theorem nfr_dones (l : List DoneT) : nfr (dones l) := nfr_of_ok (dones_ok l)
abbrev RuleT := Int × List Int
def ruleC (x : RuleT) : List AV := [.v (.int .i64 x.1), .im 1 (ints x.2)]
theorem toRule (x : RuleT) (h0 : (x.2).length < 35184372088832) : Pure Try.prog 77 [.ag (ruleC x)] (.ag (ruleC x)) := by
  refine Pure.mk (rs := [.cell 2 94]) (nt := 12) Try.func77 (by kernel_rfl) rfl rfl rfl (by simp) ?_
  simp only [sl, ruleC]
  refine wk0 _ ?_
  refine GS.cc (toIntS x.2 h0) rfl rfl rfl rfl (by simp [go_sem, List.take_of_length_le] <;> with_reducible rfl) rfl (by simp [go_sem, List.take_of_length_le]) ?_
  refine wk0 _ ?_
  refine Out.mk (xs := ?_) ?_ ?_ (by first | exact .inr rfl | exact .inl rfl)
  rotate_left
  · simp [go_sem, List.take_of_length_le] <;> with_reducible rfl
  exact Fz.cl rfl
theorem eqRule (a b : RuleT) (h0 : (a.2).length < 35184372088832) : Pure Try.prog 87 [.ag (ruleC a), .ag (ruleC b)] (.v (.bool (decide (a = b)))) := by
  refine Pure.mk (rs := [.tmp 4]) (nt := 16) Try.func87 (by kernel_rfl) rfl rfl rfl (by simp) ?_
  simp only [sl, ruleC]
  refine wk0 _ ?_
  refine Holds.cond rfl (fun hl => ?_) (fun g0 => ?_)
  · have : ¬ a = b := by rintro rfl; simp at hl
    simp only [this, decide_false]
    refine wk0 _ ?_
    refine Out.mk (xs := ?_) ?_ ?_ (by first | exact .inr rfl | exact .inl rfl)
    rotate_left
    · simp [go_sem, List.take_of_length_le] <;> with_reducible rfl
    exact .v _
  refine wk0 _ ?_
  refine GS.cc (eqIntS a.2 b.2 (by omega)) rfl rfl rfl rfl (by simp [go_sem, List.take_of_length_le] <;> with_reducible rfl) rfl (by simp [go_sem, List.take_of_length_le]) ?_
  refine wk0 _ ?_
  refine Holds.cond rfl (fun hl => ?_) (fun g1 => ?_)
  · have : ¬ a = b := by rintro rfl; simp at hl
    simp only [this, decide_false]
    refine wk0 _ ?_
    refine Out.mk (xs := ?_) ?_ ?_ (by first | exact .inr rfl | exact .inl rfl)
    rotate_left
    · simp [go_sem, List.take_of_length_le] <;> with_reducible rfl
    exact .v _
  have : a = b := by
    obtain ⟨a0, a1⟩ := a
    obtain ⟨b0, b1⟩ := b
    simp at g0 g1
    simp [g0, g1]
  simp only [this, decide_true]
  refine wk0 _ ?_
  refine Out.mk (xs := ?_) ?_ ?_ (by first | exact .inr rfl | exact .inl rfl)
  rotate_left
  · simp [go_sem, List.take_of_length_le] <;> with_reducible rfl
  exact .v _
def szRuleF (n : Int) (x : RuleT) : Int := less n x.2.length
theorem szRuleF_in {n : Int} {x : RuleT} (h1 : n ≤ 1048576) : -1 ≤ szRuleF n x ∧ szRuleF n x ≤ 1048576 := less_in h1
theorem szRule (x : RuleT) (n : Int) (h0 : -1 ≤ n) (h1 : n ≤ 1048576) (k0 : (x.2).length < 35184372088832) : Pure Try.prog 72 [.ag (ruleC x), .v (.int .i64 n)] (.v (.int .i64 (szRuleF n x))) := by
  refine Pure.mk (rs := [.tmp 4]) (nt := 12) Try.func72 (by kernel_rfl) rfl rfl rfl (by simp) ?_
  simp only [sl, ruleC]
  have hin := szRuleF_in (x := x) h1
  refine wk0 _ ?_
  refine GS.cc (szIntS x.2 n h0 h1 (by omega)) rfl rfl rfl rfl (by simp [go_sem, List.take_of_length_le] <;> with_reducible rfl) rfl (by simp [go_sem, List.take_of_length_le]) ?_
  refine wk0 _ ?_
  refine Holds.cond rfl (fun hl => ?_) (fun hl => ?_)
  · have h : szRuleF n x < 0 := by simpa [szRuleF] using hl
    rw [show szRuleF n x = -1 by omega]
    refine wk0 _ ?_
    refine Out.mk (xs := ?_) ?_ ?_ (by first | exact .inr rfl | exact .inl rfl)
    rotate_left
    · simp [go_sem, List.take_of_length_le] <;> with_reducible rfl
    exact .v _
  · refine wk0 _ ?_
    refine Out.mk (xs := ?_) ?_ ?_ (by first | exact .inr rfl | exact .inl rfl)
    rotate_left
    · simp [go_sem, List.take_of_length_le] <;> with_reducible rfl
    exact .v _
def rules (l : List RuleT) : List (List AV) := l.map ruleC
@[simp] theorem rules_len (l : List RuleT) : (rules l).length = l.length := by simp [rules]
@[simp] theorem rules_get (l : List RuleT) (i : Nat) : (rules l)[i]? = (l[i]?).map ruleC := by simp [rules]
@[simp] theorem rules_gE (l : List RuleT) (i : Nat) (h : i < (rules l).length) : (rules l)[i] = ruleC (l[i]'(by simpa using h)) := by simp [rules]
theorem rules_ok (l : List RuleT) : rowsOk (rules l) := by
  intro row hr x hx
  simp only [rules, List.mem_map] at hr
  obtain ⟨n, _, rfl⟩ := hr
  simp only [ruleC, List.mem_cons, List.not_mem_nil, or_false] at hx
  rcases hx with rfl | rfl <;> rfl
@[simp] theorem nfr_rules (l : List RuleT) : nfr (rules l) := nfr_of_ok (rules_ok l)
theorem toRuleS (l : List RuleT) (hx : l.length < 8796093022208) (hs : ∀ e ∈ l, (e.2).length < 35184372088832) : Pure Try.prog 39 [.im 2 (rules l)] (.im 2 (rules l)) := by
  refine Pure.mk (rs := [.tmp 2]) (nt := 23) Try.func39 (by kernel_rfl) rfl rfl rfl (by simp) ?_
  simp only [sl]
  refine wk (And.intro ((show (0:Int) ≤ (l.length : Int) by omega)) (And.intro ((show (32:Int) * l.length ≤ 281474976710656 by omega)) ((show (l.length : Int) ≤ 281474976710656 by omega)))) _ ?_
  refine Holds.loop (ι := Nat) (fun i => ⟨[(0, .im 2 (rules l)), (3, .own 0 2 0 l.length), (4, .v (.int .i64 i))], [(0, ⟨94, 2, half (rules l) [.v (.int .i64 0), .v (.slice none 0 0)] i⟩)], 1⟩) (fun i => i ≤ l.length) (fun i => l.length - i) 0 (Nat.zero_le _) ?_ ?_
  · exact Cov.of id (by simp [ChkT, okr, okr1, lk, ren, ren1]) (by simp [ChkB, lb, BlkC, half, nf])
  intro i hi
  refine wk0 _ ?_
  refine Holds.cond rfl (fun hl => ?_) (fun hl => ?_)
  · have hlt : i < l.length := by simpa using hl
    have hxi : l[i]? = some l[i] := List.getElem?_eq_getElem hlt
    have hhi := half_get (rules l) [.v (.int .i64 0), .v (.slice none 0 0)] i (by simpa using hlt)
    have hhs := half_set (rules l) [.v (.int .i64 0), .v (.slice none 0 0)] i (by simpa using hlt) (ruleC l[i]) (by simp [hxi])
    simp only [ruleC] at hhs
    refine wk (And.intro @hxi (And.intro @hlt (@ruleC.eq_1))) _ ?_
    refine GS.cc (toRule l[i] (hs _ (List.getElem_mem hlt))) rfl rfl rfl rfl (by simp [go_sem, List.take_of_length_le, ruleC] <;> with_reducible rfl) rfl (by simp [go_sem, List.take_of_length_le, ruleC]) ?_
    refine wk (And.intro @hxi (And.intro @hlt (And.intro @hhi (And.intro @hhs (@ruleC.eq_1))))) _ ?_
    refine ⟨i + 1, by omega, by omega, ?_⟩
    rw [wr64_id (by omega) (by omega)]
    exact Cov.of id (by simp [ChkT, okr, okr1, lk, ren, ren1]) (by simp [ChkB, lb, BlkC]; exact .inl (half_ok (rules_ok l) (by simp [cl1])).nf)
  · have hle : i = l.length := by
      have : ¬ i < l.length := by simpa using hl
      omega
    subst hle
    rw [show half (rules l) [.v (.int .i64 0), .v (.slice none 0 0)] l.length = rules l by have := half_all (rules l) ([.v (.int .i64 0), .v (.slice none 0 0)] : List AV); rwa [rules_len] at this]
    refine wk0 _ ?_
    refine Out.mk (xs := ?_) ?_ ?_ (by first | exact .inr rfl | exact .inl rfl)
    rotate_left
    · simp [go_sem, List.take_of_length_le] <;> with_reducible rfl
    exact Fz.all rfl rfl (by simp) rfl (rules_ok l)
theorem eqRuleS (xs ys : List RuleT) (hx : xs.length < 4611686018427387904) (hs : ∀ e ∈ xs, (e.2).length < 35184372088832) : Pure Try.prog 42 [.im 2 (rules xs), .im 2 (rules ys)] (.v (.bool (decide (xs = ys)))) := by
  refine Pure.mk (rs := [.tmp 4]) (nt := 27) Try.func42 (by kernel_rfl) rfl rfl rfl (by simp) ?_
  simp only [sl]
  refine wkd0 _ ?_
  refine Holds.cond rfl (fun hl => ?_) (fun hl => ?_)
  · have : ¬ xs = ys := by rintro rfl; simp at hl
    simp only [this, decide_false]
    refine wkd0 _ ?_
    refine Out.mk (xs := ?_) ?_ ?_ (by first | exact .inr rfl | exact .inl rfl)
    rotate_left
    · simp [go_sem, List.take_of_length_le] <;> with_reducible rfl
    exact .v _
  · have hlen : xs.length = ys.length := by
      have : (xs.length : Int) = ys.length := by simpa using hl
      omega
    refine wkd0 _ ?_
    refine Holds.loop (ι := Nat) (fun i => ⟨[(0, .im 2 (rules xs)), (1, .im 2 (rules ys)), (5, .v (.int .i64 i))], [], 0⟩) (fun i => i ≤ xs.length ∧ xs.take i = ys.take i) (fun i => xs.length - i) 0 ⟨Nat.zero_le _, rfl⟩ ?_ ?_
    · exact Cov.of id (by simp [ChkT, okr, okr1, lk, ren, ren1]) (by simp [ChkB])
    rintro i ⟨hi, htk⟩
    refine wkd0 _ ?_
    refine Holds.cond rfl (fun hl => ?_) (fun hl => ?_)
    · have hlt : i < xs.length := by simpa using hl
      have hxi : xs[i]? = some xs[i] := List.getElem?_eq_getElem hlt
      have hyi : ys[i]? = some ys[i] := List.getElem?_eq_getElem (by omega)
      refine wkd (And.intro @hxi (And.intro @hyi (@ruleC.eq_1))) _ ?_
      first | refine GS.cc (eqRule xs[i] ys[i] (hs _ (List.getElem_mem hlt))) rfl rfl rfl rfl (by simp [go_sem, List.take_of_length_le, ruleC] <;> with_reducible rfl) rfl (by simp [go_sem, List.take_of_length_le, ruleC]) ?_ | refine Gd.cc (eqRule xs[i] ys[i] (hs _ (List.getElem_mem hlt))) rfl rfl rfl rfl (by simp [go_sem, List.take_of_length_le, ruleC] <;> with_reducible rfl) rfl (by simp [go_sem, List.take_of_length_le, ruleC]) ?_
      refine wkd0 _ ?_
      refine Holds.cond rfl (fun hl => ?_) (fun hl => ?_)
      · have hne : ¬ xs = ys := ne_at hxi hyi (by simpa using hl)
        simp only [hne, decide_false]
        refine wkd0 _ ?_
        refine Out.mk (xs := ?_) ?_ ?_ (by first | exact .inr rfl | exact .inl rfl)
        rotate_left
        · simp [go_sem, List.take_of_length_le] <;> with_reducible rfl
        exact .v _
      · have he : xs[i] = ys[i] := by simpa using hl
        refine wkd0 _ ?_
        refine ⟨i + 1, ⟨by omega, (take_next hxi hyi htk).2 he⟩, by omega, ?_⟩
        rw [wr64_id (by omega) (by omega)]
        exact Cov.of id (by simp [ChkT, okr, okr1, lk, ren, ren1]) (by simp [ChkB])
    · have hle : i = xs.length := by
        have : ¬ i < xs.length := by simpa using hl
        omega
      have he : xs = ys := by
        subst hle
        rw [List.take_length, hlen, List.take_length] at htk
        exact htk
      simp only [he, decide_true]
      refine wkd0 _ ?_
      refine Out.mk (xs := ?_) ?_ ?_ (by first | exact .inr rfl | exact .inl rfl)
      rotate_left
      · simp [go_sem, List.take_of_length_le] <;> with_reducible rfl
      exact .v _
theorem szRuleS (xs : List RuleT) (n : Int) (h0 : -1 ≤ n) (h1 : n ≤ 1048576) (hx : xs.length < 4611686018427387904) (hs : ∀ e ∈ xs, (e.2).length < 35184372088832) : Pure Try.prog 36 [.im 2 (rules xs), .v (.int .i64 n)] (.v (.int .i64 (szLA szRuleF n xs))) := by
  refine Pure.mk (rs := [.tmp 4]) (nt := 27) Try.func36 (by kernel_rfl) rfl rfl rfl (by simp) ?_
  simp only [sl]
  have hw : wr64 (n - xs.length) = n - xs.length := wr64_id (by omega) (by omega)
  refine wk (@hw) _ ?_
  refine Holds.cond rfl (fun hl => ?_) (fun hl => ?_)
  · have : n - xs.length < 0 := by simpa using hl
    simp only [szLA, if_pos this]
    refine wk0 _ ?_
    refine Out.mk (xs := ?_) ?_ ?_ (by first | exact .inr rfl | exact .inl rfl)
    rotate_left
    · simp [go_sem, List.take_of_length_le] <;> with_reducible rfl
    exact .v _
  have hnn : ¬ n - xs.length < 0 := by simpa using hl
  simp only [szLA, if_neg hnn]
  refine wk0 _ ?_
  refine Holds.loop (ι := Nat × Int) (fun i => ⟨[(0, .im 2 (rules xs)), (1, .v (.int .i64 i.2)), (5, .v (.int .i64 i.1))], [], 0⟩) (fun i => i.1 ≤ xs.length ∧ 0 ≤ i.2 ∧ i.2 ≤ 1048576 ∧ szL szRuleF i.2 (xs.drop i.1) = szL szRuleF (n - xs.length) xs) (fun i => xs.length - i.1) (0, n - xs.length) ⟨Nat.zero_le _, by simpa using hnn, by show n - (xs.length : Int) ≤ 1048576; omega, rfl⟩ ?_ ?_
  · exact Cov.of id (by simp [ChkT, okr, okr1, lk, ren, ren1]) (by simp [ChkB])
  rintro ⟨i, m⟩ ⟨hi, hm0, hm1, hsz⟩
  dsimp only at hi hm0 hm1 hsz ⊢
  refine wk0 _ ?_
  refine Holds.cond rfl (fun hl => ?_) (fun hl => ?_)
  · have hlt : i < xs.length := by simpa using hl
    have hxi : xs[i]? = some xs[i] := List.getElem?_eq_getElem hlt
    rw [List.drop_eq_getElem_cons hlt, szL] at hsz
    refine wk (And.intro @hxi (@ruleC.eq_1)) _ ?_
    refine GS.cc (szRule xs[i] m (by omega) hm1 (hs _ (List.getElem_mem hlt))) rfl rfl rfl rfl (by simp [go_sem, List.take_of_length_le, ruleC] <;> with_reducible rfl) rfl (by simp [go_sem, List.take_of_length_le, ruleC]) ?_
    refine wk0 _ ?_
    refine Holds.cond rfl (fun hl => ?_) (fun hl => ?_)
    · have h : szRuleF m xs[i] < 0 := by simpa using hl
      rw [if_pos h] at hsz
      rw [← hsz]
      refine wk0 _ ?_
      refine Out.mk (xs := ?_) ?_ ?_ (by first | exact .inr rfl | exact .inl rfl)
      rotate_left
      · simp [go_sem, List.take_of_length_le] <;> with_reducible rfl
      exact .v _
    · have h : ¬ szRuleF m xs[i] < 0 := by simpa using hl
      rw [if_neg h] at hsz
      refine wk0 _ ?_
      refine ⟨(i + 1, szRuleF m xs[i]), ⟨hlt, by show (0:Int) ≤ _; omega, (szRuleF_in hm1).2, hsz⟩, by show xs.length - (i + 1) < xs.length - i; omega, ?_⟩
      rw [wr64_id (by omega) (by omega)]
      exact Cov.of id (by simp [ChkT, okr, okr1, lk, ren, ren1]) (by simp [ChkB])
  · have hle : i = xs.length := by
      have : ¬ i < xs.length := by simpa using hl
      omega
    subst hle
    rw [List.drop_length, szL] at hsz
    rw [← hsz]
    refine wk0 _ ?_
    refine Out.mk (xs := ?_) ?_ ?_ (by first | exact .inr rfl | exact .inl rfl)
    rotate_left
    · simp [go_sem, List.take_of_length_le] <;> with_reducible rfl
    exact .v _
abbrev GrammarT := Int × Int × List RuleT
def grammarC (x : GrammarT) : List AV := [.v (.int .i64 x.1), .v (.int .i64 x.2.1), .im 2 (rules x.2.2)]
theorem toGrammar (x : GrammarT) (h0 : (x.2.2).length < 8796093022208) (h1 : ∀ qg2 ∈ (x.2.2), (qg2.2).length < 35184372088832) : Pure Try.prog 9 [.ag (grammarC x)] (.ag (grammarC x)) := by
  refine Pure.mk (rs := [.cell 2 31]) (nt := 15) Try.func9 (by kernel_rfl) rfl rfl rfl (by simp) ?_
  simp only [sl, grammarC]
  refine wk0 _ ?_
  refine GS.cc (toRuleS x.2.2 h0 h1) rfl rfl rfl rfl (by simp [go_sem, List.take_of_length_le] <;> with_reducible rfl) rfl (by simp [go_sem, List.take_of_length_le]) ?_
  refine wk0 _ ?_
  refine Out.mk (xs := ?_) ?_ ?_ (by first | exact .inr rfl | exact .inl rfl)
  rotate_left
  · simp [go_sem, List.take_of_length_le] <;> with_reducible rfl
  exact Fz.cl rfl
theorem eqGrammar (a b : GrammarT) (h0 : (a.2.2).length < 8796093022208) (h1 : ∀ qg2 ∈ (a.2.2), (qg2.2).length < 35184372088832) : Pure Try.prog 12 [.ag (grammarC a), .ag (grammarC b)] (.v (.bool (decide (a = b)))) := by
  refine Pure.mk (rs := [.tmp 4]) (nt := 21) Try.func12 (by kernel_rfl) rfl rfl rfl (by simp) ?_
  simp only [sl, grammarC]
  refine wk0 _ ?_
  refine Holds.cond rfl (fun hl => ?_) (fun g0 => ?_)
  · have : ¬ a = b := by rintro rfl; simp at hl
    simp only [this, decide_false]
    refine wk0 _ ?_
    refine Out.mk (xs := ?_) ?_ ?_ (by first | exact .inr rfl | exact .inl rfl)
    rotate_left
    · simp [go_sem, List.take_of_length_le] <;> with_reducible rfl
    exact .v _
  refine wk0 _ ?_
  refine Holds.cond rfl (fun hl => ?_) (fun g1 => ?_)
  · have : ¬ a = b := by rintro rfl; simp at hl
    simp only [this, decide_false]
    refine wk0 _ ?_
    refine Out.mk (xs := ?_) ?_ ?_ (by first | exact .inr rfl | exact .inl rfl)
    rotate_left
    · simp [go_sem, List.take_of_length_le] <;> with_reducible rfl
    exact .v _
  refine wk0 _ ?_
  refine GS.cc (eqRuleS a.2.2 b.2.2 (by omega) h1) rfl rfl rfl rfl (by simp [go_sem, List.take_of_length_le] <;> with_reducible rfl) rfl (by simp [go_sem, List.take_of_length_le]) ?_
  refine wk0 _ ?_
  refine Holds.cond rfl (fun hl => ?_) (fun g2 => ?_)
  · have : ¬ a = b := by rintro rfl; simp at hl
    simp only [this, decide_false]
    refine wk0 _ ?_
    refine Out.mk (xs := ?_) ?_ ?_ (by first | exact .inr rfl | exact .inl rfl)
    rotate_left
    · simp [go_sem, List.take_of_length_le] <;> with_reducible rfl
    exact .v _
  have : a = b := by
    obtain ⟨a0, a1, a2⟩ := a
    obtain ⟨b0, b1, b2⟩ := b
    simp at g0 g1 g2
    simp [g0, g1, g2]
  simp only [this, decide_true]
  refine wk0 _ ?_
  refine Out.mk (xs := ?_) ?_ ?_ (by first | exact .inr rfl | exact .inl rfl)
  rotate_left
  · simp [go_sem, List.take_of_length_le] <;> with_reducible rfl
  exact .v _
def szGrammarF (n : Int) (x : GrammarT) : Int := szLA szRuleF n x.2.2
theorem szGrammarF_in {n : Int} {x : GrammarT} (h1 : n ≤ 1048576) : -1 ≤ szGrammarF n x ∧ szGrammarF n x ≤ 1048576 := szLA_in (fun n x h => szRuleF_in h) h1
theorem szGrammar (x : GrammarT) (n : Int) (h0 : -1 ≤ n) (h1 : n ≤ 1048576) (k0 : (x.2.2).length < 8796093022208) (k1 : ∀ qg2 ∈ (x.2.2), (qg2.2).length < 35184372088832) : Pure Try.prog 7 [.ag (grammarC x), .v (.int .i64 n)] (.v (.int .i64 (szGrammarF n x))) := by
  refine Pure.mk (rs := [.tmp 4]) (nt := 12) Try.func7 (by kernel_rfl) rfl rfl rfl (by simp) ?_
  simp only [sl, grammarC]
  have hin := szGrammarF_in (x := x) h1
  refine wk0 _ ?_
  refine GS.cc (szRuleS x.2.2 n h0 h1 (by omega) k1) rfl rfl rfl rfl (by simp [go_sem, List.take_of_length_le] <;> with_reducible rfl) rfl (by simp [go_sem, List.take_of_length_le]) ?_
  refine wk0 _ ?_
  refine Holds.cond rfl (fun hl => ?_) (fun hl => ?_)
  · have h : szGrammarF n x < 0 := by simpa [szGrammarF] using hl
    rw [show szGrammarF n x = -1 by omega]
    refine wk0 _ ?_
    refine Out.mk (xs := ?_) ?_ ?_ (by first | exact .inr rfl | exact .inl rfl)
    rotate_left
    · simp [go_sem, List.take_of_length_le] <;> with_reducible rfl
    exact .v _
  · refine wk0 _ ?_
    refine Out.mk (xs := ?_) ?_ ?_ (by first | exact .inr rfl | exact .inl rfl)
    rotate_left
    · simp [go_sem, List.take_of_length_le] <;> with_reducible rfl
    exact .v _
end Go.Proofs.Ytejpklajfcngbaa.En
end
section
namespace Go.Proofs.Ytejpklajfcngbaa.En
open Go.RowKit
set_option linter.unusedSimpArgs false
set_option linter.unusedVariables false
set_option maxHeartbeats 4000000
def mid {α : Type} (ys xs : List α) (i : Nat) : List α := ys.take i ++ xs.drop i
@[simp] theorem mid_zero {α : Type} (ys xs : List α) : mid ys xs 0 = xs := by simp [mid]
theorem mid_all {α : Type} {ys xs : List α} {n : Nat} (h1 : ys.length = n) (h2 : xs.length = n) : mid ys xs n = ys := by
  unfold mid; rw [List.take_of_length_le (by omega), List.drop_eq_nil_of_le (by omega), List.append_nil]
theorem mid_len {α : Type} {ys xs : List α} {i : Nat} (h : ys.length = xs.length) : (mid ys xs i).length = xs.length := by
  simp only [mid, List.length_append, List.length_take, List.length_drop]; omega
theorem mid_get {α : Type} {ys xs : List α} {i : Nat} (h : ys.length = xs.length) (hi : i < xs.length) : (mid ys xs i)[i]? = xs[i]? := by
  unfold mid
  rw [List.getElem?_append_right (by simp; omega), List.getElem?_drop]
  congr 1; simp; omega
theorem mid_set {α : Type} {ys xs : List α} {i : Nat} (h : ys.length = xs.length) (hi : i < xs.length) {y : α} (hy : ys[i]? = some y) : (mid ys xs i).set i y = mid ys xs (i + 1) := by
  unfold mid
  rw [List.set_append_right _ _ (by simp; omega), List.take_add_one, hy, List.drop_eq_getElem_cons hi]
  have e2 : i - (ys.take i).length = 0 := by simp; omega
  rw [e2, List.set_cons_zero]
  simp
def wtL {α : Type} (w : α → Nat) : List α → Nat
  | [] => 0
  | x :: xs => w x + wtL w xs
def mkL {α : Type} (w : α → Nat) (f : Int → α → α) : Int → List α → List α
  | _, [] => []
  | k, x :: xs => f k x :: mkL w f (k + w x) xs
@[simp] theorem mkL_len {α : Type} (w : α → Nat) (f : Int → α → α) : ∀ (xs : List α) (k : Int), (mkL w f k xs).length = xs.length
  | [], _ => rfl
  | x :: xs, k => by simp [mkL, mkL_len w f xs]
theorem mkL_get {α : Type} (w : α → Nat) (f : Int → α → α) : ∀ (xs : List α) (k : Int) (i : Nat), (mkL w f k xs)[i]? = (xs[i]?).map (f (k + wtL w (xs.take i)))
  | [], _, i => by simp [mkL]
  | x :: xs, k, 0 => by simp [mkL, wtL]
  | x :: xs, k, i + 1 => by
    simp only [mkL, List.getElem?_cons_succ, mkL_get w f xs, List.take_succ_cons, wtL]
    congr 2; omega
theorem wtL_next {α : Type} (w : α → Nat) : ∀ {xs : List α} {i : Nat} {x : α}, xs[i]? = some x → wtL w (xs.take (i + 1)) = wtL w (xs.take i) + w x
  | [], i, x, h => by simp at h
  | y :: ys, 0, x, h => by simp at h; subst h; simp [wtL]
  | y :: ys, i + 1, x, h => by
    simp only [List.getElem?_cons_succ] at h
    simp only [List.take_succ_cons, wtL, wtL_next w h]; omega
theorem wtL_le {α : Type} (w : α → Nat) : ∀ (xs : List α) (i : Nat), wtL w (xs.take i) ≤ wtL w xs
  | [], i => by simp
  | y :: ys, 0 => by simp [wtL]
  | y :: ys, i + 1 => by have := wtL_le w ys i; simp only [List.take_succ_cons, wtL]; omega
def w1 (_ : Int) : Nat := 1
def m1 (k : Int) (_ : Int) : Int := k
@[simp] theorem wtL_w1 : ∀ xs : List Int, wtL w1 xs = xs.length
  | [] => rfl
  | x :: xs => by simp [wtL, w1, wtL_w1 xs]; omega
def cnt (k : Int) (xs : List Int) : List Int := mkL w1 m1 k xs
@[simp] theorem cnt_len (k : Int) (xs : List Int) : (cnt k xs).length = xs.length := mkL_len _ _ _ _
theorem cnt_get (k : Int) (xs : List Int) {i : Nat} (h : i < xs.length) : (cnt k xs)[i]? = some (k + i) := by
  unfold cnt
  rw [mkL_get, List.getElem?_eq_getElem h, wtL_w1, List.length_take]
  simp [m1]; omega
@[simp] theorem cnt_gE (k : Int) (xs : List Int) (i : Nat) (h : i < (cnt k xs).length) : (cnt k xs)[i] = k + i := by
  have := cnt_get k xs (i := i) (by simpa using h)
  rw [List.getElem?_eq_getElem h] at this
  exact Option.some.inj this
@[simp] theorem onyR_ints (xs : List Int) : onyR (ints xs) := fun row hr x hx => by
  simp only [ints, List.mem_map] at hr
  obtain ⟨n, _, rfl⟩ := hr
  simp at hx; subst hx; exact .v _
theorem get_E {α : Type} {l : List α} {i : Nat} {a : α} (h : l[i]? = some a) : ∀ g : i < l.length, l[i] = a := fun g => by
  rw [List.getElem?_eq_getElem g] at h; exact Option.some.inj h
theorem set_get {α : Type} {l : List α} {i : Nat} {a b : α} (h : l[i]? = some b) : (l.set i a)[i]? = some a := by
  have := (List.getElem?_eq_some_iff.1 h).1
  simp [this]
theorem nfr_mid {ys xs : List (List AV)} {i : Nat} (h1 : nfr ys) (h2 : nfr xs) : nfr (mid ys xs i) := by
  unfold mid; rw [nfr_append]; exact ⟨h1.take i, h2.drop i⟩
theorem Fz.owI {bl : List (Nat × Blk)} {e : TypeId} {sz : Nat} {xs : List (List AV)} (h : ∀ row ∈ xs, ∀ x ∈ row, En.cl1 x = true) : Fz bl (.ow e sz xs) (.im sz xs) :=
  .ow e sz xs xs rfl (fun j r r' h1 h2 => by rw [h1] at h2; cases h2; rfl) fun j r r' i x y h1 h2 h3 h4 => by
    rw [h1] at h2; cases h2
    rw [h3] at h4; cases h4
    exact .cl1 (h r (List.mem_of_getElem? h1) x (List.mem_of_getElem? h3))
theorem map_both {α β γ : Type} {xs : List α} {f : α → β} {g : α → γ} {j : Nat} {b : β} {c : γ} (h1 : (xs.map f)[j]? = some b) (h2 : (xs.map g)[j]? = some c) : ∃ x ∈ xs, b = f x ∧ c = g x := by
  simp only [List.getElem?_map, Option.map_eq_some_iff] at h1 h2
  obtain ⟨x, hx, rfl⟩ := h1
  obtain ⟨y, hy, rfl⟩ := h2
  rw [hx] at hy; cases hy
  exact ⟨x, List.mem_of_getElem? hx, rfl, rfl⟩
theorem Fz.rowsO {bl : List (Nat × Blk)} {α : Type} {n sz len : Nat} {k : Blk} (l : List α) (fO fI : α → List AV) (hk : lb bl n = some k) (hx : k.xs = l.map fO) (hs : k.sz = sz) (hz : ∀ x ∈ l, FzL bl (fO x) (fI x)) (hl : len = l.length) : Fz bl (.own n sz 0 len) (.im sz (l.map fI)) := by
  subst hs hl
  refine .own n 0 l.length k (l.map fI) _ hk (by simp [hx]) (fun j r r' h1 h2 => ?_) (fun j r r' i x y h1 h2 h3 h4 => ?_) (by simp) (by simp [List.take_of_length_le])
  · rw [hx] at h1
    obtain ⟨x, hx, rfl, rfl⟩ := map_both h1 h2
    exact (hz x hx).len
  · rw [hx] at h1
    obtain ⟨x, hx, rfl, rfl⟩ := map_both h1 h2
    exact (hz x hx).get i _ _ h3 h4
theorem toIntSO (xs : List Int) (hx : xs.length < 35184372088832) : Fn Try.prog 113 0 [.im 1 (ints xs)] [] (.own 0 1 0 xs.length) 1 [(0, ⟨3, 1, ints xs⟩)] := by
  refine Fn.mk (rs := [.tmp 2]) (nt := 22) Try.func113 (by kernel_rfl) rfl rfl rfl (by simp) ?_
  simp only [sl]
  refine wk (And.intro ((show (0:Int) ≤ (xs.length : Int) by omega)) (And.intro ((show (8:Int) * xs.length ≤ 281474976710656 by omega)) ((show (xs.length : Int) ≤ 281474976710656 by omega)))) _ ?_
  refine Holds.loop (ι := Nat) (fun i => ⟨[(0, .im 1 (ints xs)), (3, .own 0 1 0 xs.length), (4, .v (.int .i64 i))], [(0, ⟨3, 1, ints (half xs 0 i)⟩)], 1⟩) (fun i => i ≤ xs.length) (fun i => xs.length - i) 0 (Nat.zero_le _) ?_ ?_
  · exact Cov.ofn (id) rfl (by simp [go_sem, List.take_of_length_le, ren, ren1, ren2, okr, okr1, okr2, ChkT, ChkN, BlkN, nf, half]) (by simp [go_sem, List.take_of_length_le, ren, ren1, ren2, okr, okr1, okr2, ChkT, ChkN, BlkN, nf, half])
  intro i hi
  refine wk0 _ ?_
  refine Holds.cond rfl (fun hl => ?_) (fun hl => ?_)
  · have hlt : i < xs.length := by simpa using hl
    have hxi : xs[i]? = some xs[i] := List.getElem?_eq_getElem hlt
    have hhi := half_get xs 0 i hlt
    have hhs := half_set xs 0 i hlt _ hxi
    refine wk (And.intro @hxi (And.intro @hlt (And.intro @hhi (@hhs)))) _ ?_
    refine ⟨i + 1, by omega, by omega, ?_⟩
    rw [wr64_id (by omega) (by omega)]
    exact Cov.ofn (id) rfl (by simp [go_sem, List.take_of_length_le, ren, ren1, ren2, okr, okr1, okr2, ChkT, ChkN, BlkN, nf]) (by simp [go_sem, List.take_of_length_le, ren, ren1, ren2, okr, okr1, okr2, ChkT, ChkN, BlkN, nf])
  · have hle : i = xs.length := by
      have : ¬ i < xs.length := by simpa using hl
      omega
    subst hle
    rw [half_all]
    refine wk0 _ ?_
    refine OutF.mkn (xs := ?_) (nm [0]) ?_ ?_ ?_ ?_ ?_ (by first | exact .inr rfl | exact .inl rfl)
    rotate_left
    · simp [go_sem, List.take_of_length_le] <;> with_reducible rfl
    · simp [go_sem, List.take_of_length_le, ren, ren1, ren2, okr, okr1, okr2, ChkN, BlkN, List.range_succ, nf]
    · simp [go_sem, List.take_of_length_le, ren, ren1, ren2, okr, okr1, okr2, ChkN, BlkN, List.range_succ, nf]
    · simp [go_sem, List.take_of_length_le, ren, ren1, ren2, okr, okr1, okr2, ChkN, BlkN, List.range_succ, nf]
    · rfl
theorem markIntS (xs : List Int) (k : Int) (h0 : 0 ≤ k) (h1 : k + wtL w1 xs ≤ 4611686018427387904) : Fn Try.prog 14 1 [.own 0 1 0 xs.length, .v (.int .i64 k)] [(0, ⟨3, 1, ints xs⟩)] (.v (.int .i64 (k + wtL w1 xs))) 1 [(0, ⟨3, 1, ints (cnt k xs)⟩)] := by
  rw [wtL_w1] at h1 ⊢
  have hl0 : (cnt k xs).length = xs.length := cnt_len k xs
  refine Fn.mk (rs := [.tmp 4]) (nt := 19) Try.func14 (by kernel_rfl) rfl rfl rfl (by simp) ?_
  simp only [sl]
  refine wk0 _ ?_
  refine Holds.loop (ι := Nat) (fun i => ⟨[(0, .own 0 1 0 xs.length), (1, .v (.int .i64 (k + i))), (5, .v (.int .i64 i))], [(0, ⟨3, 1, ints (mid (cnt k xs) xs i)⟩)], 1⟩) (fun i => i ≤ xs.length) (fun i => xs.length - i) 0 (Nat.zero_le _) ?_ ?_
  · exact Cov.ofn (id) rfl (by simp [go_sem, List.take_of_length_le, ren, ren1, ren2, okr, okr1, okr2, ChkT, ChkN, BlkN, nf]) (by simp [go_sem, List.take_of_length_le, ren, ren1, ren2, okr, okr1, okr2, ChkT, ChkN, BlkN, nf])
  intro i hi
  have hml := mid_len (i := i) hl0
  refine wk (@hml) _ ?_
  refine Holds.cond rfl (fun hl => ?_) (fun hl => ?_)
  · have hlt : i < xs.length := by simpa using hl
    have hxi : xs[i]? = some xs[i] := List.getElem?_eq_getElem hlt
    have hhi := (mid_get hl0 hlt).trans hxi
    have hhs := mid_set hl0 hlt (cnt_get k xs hlt)
    refine wk (And.intro @hml (And.intro @hxi (And.intro @hlt (And.intro @hhi (@hhs))))) _ ?_
    refine ⟨i + 1, by omega, by omega, ?_⟩
    rw [wr64_id (by omega) (by omega), wr64_id (by omega) (by omega), show k + (i : Int) + 1 = k + ((i + 1 : Nat) : Int) by omega]
    exact Cov.ofn (id) rfl (by simp [go_sem, List.take_of_length_le, ren, ren1, ren2, okr, okr1, okr2, ChkT, ChkN, BlkN, nf]) (by simp [go_sem, List.take_of_length_le, ren, ren1, ren2, okr, okr1, okr2, ChkT, ChkN, BlkN, nf])
  · have hle : i = xs.length := by
      have : ¬ i < xs.length := by simpa using hl
      omega
    subst hle
    rw [mid_all hl0 rfl]
    refine wk0 _ ?_
    refine OutF.mkn (xs := ?_) (nm [0]) ?_ ?_ ?_ ?_ ?_ (by first | exact .inr rfl | exact .inl rfl)
    rotate_left
    · simp [go_sem, List.take_of_length_le] <;> with_reducible rfl
    · simp [go_sem, List.take_of_length_le, ren, ren1, ren2, okr, okr1, okr2, ChkN, BlkN, List.range_succ, nf]
    · simp [go_sem, List.take_of_length_le, ren, ren1, ren2, okr, okr1, okr2, ChkN, BlkN, List.range_succ, nf]
    · simp [go_sem, List.take_of_length_le, ren, ren1, ren2, okr, okr1, okr2, ChkN, BlkN, List.range_succ, nf]
    · rfl
theorem heldIntS (xs : List Int) (k : Int) (h0 : 0 ≤ k) (h1 : k + wtL w1 xs ≤ 4611686018427387904) : Pure Try.prog 15 [.im 1 (ints (cnt k xs)), .v (.int .i64 k)] (.v (.int .i64 (k + wtL w1 xs))) := by
  rw [wtL_w1] at h1 ⊢
  refine Pure.mk (rs := [.tmp 4]) (nt := 21) Try.func15 (by kernel_rfl) rfl rfl rfl (by simp) ?_
  simp only [sl]
  refine wk0 _ ?_
  refine Holds.loop (ι := Nat) (fun i => ⟨[(0, .im 1 (ints (cnt k xs))), (1, .v (.int .i64 (k + i))), (5, .v (.int .i64 i))], [], 0⟩) (fun i => i ≤ xs.length) (fun i => xs.length - i) 0 (Nat.zero_le _) ?_ ?_
  · exact Cov.ofn (id) rfl (by simp [go_sem, List.take_of_length_le, ren, ren1, ren2, okr, okr1, okr2, ChkT, ChkN, BlkN, nf]) (by simp [go_sem, List.take_of_length_le, ren, ren1, ren2, okr, okr1, okr2, ChkT, ChkN, BlkN, nf])
  intro i hi
  refine wk0 _ ?_
  refine Holds.cond rfl (fun hl => ?_) (fun hl => ?_)
  · have hlt : i < xs.length := by simpa using hl
    have hxi := cnt_get k xs hlt
    refine wk (And.intro @hxi (@hlt)) _ ?_
    refine Holds.cond rfl (fun hl => absurd hl (by simp)) (fun hl => ?_)
    refine wk0 _ ?_
    refine ⟨i + 1, by omega, by omega, ?_⟩
    rw [wr64_id (by omega) (by omega), wr64_id (by omega) (by omega), show k + (i : Int) + 1 = k + ((i + 1 : Nat) : Int) by omega]
    exact Cov.ofn (id) rfl (by simp [go_sem, List.take_of_length_le, ren, ren1, ren2, okr, okr1, okr2, ChkT, ChkN, BlkN, nf]) (by simp [go_sem, List.take_of_length_le, ren, ren1, ren2, okr, okr1, okr2, ChkT, ChkN, BlkN, nf])
  · have hle : i = xs.length := by
      have : ¬ i < xs.length := by simpa using hl
      omega
    subst hle
    refine wk0 _ ?_
    refine Out.mk (xs := ?_) ?_ ?_ (by first | exact .inr rfl | exact .inl rfl)
    rotate_left
    · simp [go_sem, List.take_of_length_le] <;> with_reducible rfl
    exact .v _
end Go.Proofs.Ytejpklajfcngbaa.En
end
section
namespace Go.Proofs.Ytejpklajfcngbaa.En
open Go.RowKit
set_option linter.unusedSimpArgs false
set_option linter.unusedVariables false
set_option maxHeartbeats 4000000
def wRule (x : RuleT) : Nat := 1 + wtL w1 x.2
def mRule (k : Int) (x : RuleT) : RuleT := ((k), cnt (k + 1) x.2)
def ruleO (x : RuleT) : List AV := [.v (.int .i64 x.1), .ow 3 1 (ints x.2)]
def rulesO (l : List RuleT) : List (List AV) := l.map ruleO
@[simp] theorem rulesO_len (l : List (RuleT)) : (rulesO l).length = l.length := by simp [rulesO]
@[simp] theorem rulesO_get (l : List (RuleT)) (i : Nat) : (rulesO l)[i]? = (l[i]?).map ruleO := by simp [rulesO]
@[simp] theorem rulesO_gE (l : List (RuleT)) (i : Nat) (h : i < (rulesO l).length) : (rulesO l)[i] = ruleO (l[i]'(by simpa using h)) := by simp [rulesO]
theorem rulesO_all (p : AV → Prop) (l : List (RuleT)) (h : ∀ x ∈ l, ∀ y ∈ ruleO x, p y) : ∀ row ∈ rulesO l, ∀ y ∈ row, p y := by
  intro row hr y hy
  simp only [rulesO, List.mem_map] at hr
  obtain ⟨n, hn, rfl⟩ := hr
  exact h n hn y hy
@[simp] theorem nfr_rulesO (l : List (RuleT)) : nfr (rulesO l) := rulesO_all _ l fun x _ y hy => by simp only [ruleO, List.mem_cons, List.not_mem_nil, or_false] at hy; rcases hy with rfl | rfl <;> rfl
@[simp] theorem onyR_rulesO (l : List (RuleT)) : onyR (rulesO l) := rulesO_all _ l fun x _ y hy => by simp only [ruleO, List.mem_cons, List.not_mem_nil, or_false] at hy; rcases hy with rfl | rfl <;> simp
theorem fz_rulesO {bl : List (Nat × Blk)} {n len : Nat} {e : TypeId} (l : List (RuleT)) (hk : lb bl n = some ⟨e, 2, rulesO l⟩) (hl : len = l.length) : Fz bl (.own n 2 0 len) (.im 2 (rules l)) := Fz.rowsO l ruleO ruleC hk rfl rfl (fun x _ => show FzL bl (ruleO x) (ruleC x) from by simp only [ruleO, ruleC]; exact .cons (.v _) (.cons (Fz.owI (ints_cl _)) (.nil))) hl
theorem toRuleO (x : RuleT) (h0 : (x.2).length < 35184372088832) : Fn Try.prog 77 0 [.ag (ruleC x)] [] (.ag [.v (.int .i64 x.1), .own 0 1 0 (x.2).length]) 1 [(0, ⟨3, 1, ints x.2⟩)] := by
  refine Fn.mk (rs := [.cell 2 94]) (nt := 12) Try.func77 (by kernel_rfl) rfl rfl rfl (by simp) ?_
  simp only [sl, ruleC]
  refine wk0 _ ?_
  refine GS.fnn [] (toIntSO x.2 h0) rfl rfl rfl rfl (by simp [go_sem, List.take_of_length_le, ren, ren1, ren2, okr, okr1, okr2, ChkN, BlkN, List.range_succ, nf, ruleC] <;> with_reducible rfl) (by simp [go_sem, List.take_of_length_le, ren, ren1, ren2, okr, okr1, okr2, ChkN, BlkN, List.range_succ, nf, ruleC]) (by simp [go_sem, List.take_of_length_le, ren, ren1, ren2, okr, okr1, okr2, ChkN, BlkN, List.range_succ, nf, ruleC]) (by simp [List.range_succ, lb]) (ChkN.toB (by simp [go_sem, List.take_of_length_le, ren, ren1, ren2, okr, okr1, okr2, ChkN, BlkN, List.range_succ, nf, ruleC])) (by decide) (by simp) rfl (.nfr (by simp) .nil) (by simp [go_sem, List.take_of_length_le, ren, ren1, ren2, okr, okr1, okr2, ChkN, BlkN, List.range_succ, nf, ruleC] <;> with_reducible rfl) ?_
  refine wk0 _ ?_
  refine OutF.mkn (xs := ?_) (nm [3]) ?_ ?_ ?_ ?_ ?_ (by first | exact .inr rfl | exact .inl rfl)
  rotate_left
  · simp [go_sem, List.take_of_length_le, ruleC] <;> with_reducible rfl
  · simp [go_sem, List.take_of_length_le, ren, ren1, ren2, okr, okr1, okr2, ChkN, BlkN, List.range_succ, nf, ruleC]
  · simp [go_sem, List.take_of_length_le, ren, ren1, ren2, okr, okr1, okr2, ChkN, BlkN, List.range_succ, nf, ruleC]
  · simp [go_sem, List.take_of_length_le, ren, ren1, ren2, okr, okr1, okr2, ChkN, BlkN, List.range_succ, nf, ruleC]
  · rfl
theorem toRuleSO (l : List (RuleT)) (h0 : l.length < 8796093022208) (h1 : ∀ q ∈ l, (q.2).length < 35184372088832) : Fn Try.prog 39 0 [.im 2 (rules l)] [] (.own 0 2 0 l.length) 1 [(0, ⟨94, 2, rulesO l⟩)] := by
  refine Fn.mk (rs := [.tmp 2]) (nt := 23) Try.func39 (by kernel_rfl) rfl rfl rfl (by simp) ?_
  simp only [sl]
  refine wk (And.intro ((show (0:Int) ≤ (l.length : Int) by omega)) (And.intro ((show (32:Int) * l.length ≤ 281474976710656 by omega)) ((show (l.length : Int) ≤ 281474976710656 by omega)))) _ ?_
  refine Holds.loop (ι := Nat) (fun i => ⟨[(0, .im 2 (rules l)), (3, .own 0 2 0 l.length), (4, .v (.int .i64 i))], [(0, ⟨94, 2, half (rulesO l) [.v (.int .i64 0), .v (.slice none 0 0)] i⟩)], 1⟩) (fun i => i ≤ l.length) (fun i => l.length - i) 0 (Nat.zero_le _) ?_ ?_
  · have hnf0 : nfr (List.replicate l.length ([.v (.int .i64 0), .v (.slice none 0 0)] : List AV)) := .rep (by simp [nf])
    exact Cov.ofn (id) rfl (by simp [go_sem, List.take_of_length_le, ren, ren1, ren2, okr, okr1, okr2, ChkT, ChkN, BlkN, nf, half, hnf0]) (by simp [go_sem, List.take_of_length_le, ren, ren1, ren2, okr, okr1, okr2, ChkT, ChkN, BlkN, nf, half, hnf0])
  intro i hi
  refine wk0 _ ?_
  refine Holds.cond rfl (fun hl => ?_) (fun hl => ?_)
  · have hlt : i < l.length := by simpa using hl
    have hxi : l[i]? = some l[i] := List.getElem?_eq_getElem hlt
    have hhi := half_get (rulesO l) [.v (.int .i64 0), .v (.slice none 0 0)] i (by simpa using hlt)
    have hhs := half_set (rulesO l) [.v (.int .i64 0), .v (.slice none 0 0)] i (by simpa using hlt) (ruleO l[i]) (by simp [hxi])
    have hnf : nfr (half (rulesO l) [.v (.int .i64 0), .v (.slice none 0 0)] i) := nfr_half (by simp) (by simp [nf])
    have hnf1 : nfr (half (rulesO l) [.v (.int .i64 0), .v (.slice none 0 0)] (i + 1)) := nfr_half (by simp) (by simp [nf])
    simp only [ruleO] at hhs
    refine wk (And.intro @hxi (And.intro @hlt (@ruleC.eq_1))) _ ?_
    refine GS.fnn [] (toRuleO l[i] (h1 _ (List.getElem_mem hlt))) rfl rfl rfl rfl (by simp [go_sem, List.take_of_length_le, ren, ren1, ren2, okr, okr1, okr2, ChkN, BlkN, List.range_succ, nf, ruleC] <;> with_reducible rfl) (by simp [go_sem, List.take_of_length_le, ren, ren1, ren2, okr, okr1, okr2, ChkN, BlkN, List.range_succ, nf, ruleC]) (by simp [go_sem, List.take_of_length_le, ren, ren1, ren2, okr, okr1, okr2, ChkN, BlkN, List.range_succ, nf, ruleC]) (by simp [List.range_succ, lb]) (ChkN.toB (by simp [go_sem, List.take_of_length_le, ren, ren1, ren2, okr, okr1, okr2, ChkN, BlkN, List.range_succ, nf, ruleC])) (by decide) (by simp) rfl (.nfr (by simp) .nil) (by simp [go_sem, List.take_of_length_le, ren, ren1, ren2, okr, okr1, okr2, ChkN, BlkN, List.range_succ, nf, ruleC] <;> with_reducible rfl) ?_
    refine wk (And.intro @hxi (And.intro @hlt (And.intro @hhi (And.intro @hhs (@ruleC.eq_1))))) _ ?_
    refine ⟨i + 1, by omega, by omega, ?_⟩
    rw [wr64_id (by omega) (by omega)]
    refine Cov.trans ?_ (Cov.close 0 i 1 rfl (set_get hhi) rfl rfl rfl rfl (by first | rfl | simp) (by simp))
    simp only [rm, st, List.set_set, List.set_cons_zero, List.set_cons_succ, hhs]
    exact Cov.ofn (id) rfl (by simp [go_sem, List.take_of_length_le, ren, ren1, ren2, okr, okr1, okr2, ChkT, ChkN, BlkN, nf, hnf, hnf1]) (by simp [go_sem, List.take_of_length_le, ren, ren1, ren2, okr, okr1, okr2, ChkT, ChkN, BlkN, nf, hnf, hnf1])
  · have hle : i = l.length := by
      have : ¬ i < l.length := by simpa using hl
      omega
    subst hle
    rw [show half (rulesO l) [.v (.int .i64 0), .v (.slice none 0 0)] l.length = rulesO l by have := half_all (rulesO l) ([.v (.int .i64 0), .v (.slice none 0 0)] : List AV); rwa [show (rulesO l).length = l.length by simp] at this]
    refine wk0 _ ?_
    refine OutF.mkn (xs := ?_) (nm [0]) ?_ ?_ ?_ ?_ ?_ (by first | exact .inr rfl | exact .inl rfl)
    rotate_left
    · simp [go_sem, List.take_of_length_le] <;> with_reducible rfl
    · simp [go_sem, List.take_of_length_le, ren, ren1, ren2, okr, okr1, okr2, ChkN, BlkN, List.range_succ, nf]
    · simp [go_sem, List.take_of_length_le, ren, ren1, ren2, okr, okr1, okr2, ChkN, BlkN, List.range_succ, nf]
    · simp [go_sem, List.take_of_length_le, ren, ren1, ren2, okr, okr1, okr2, ChkN, BlkN, List.range_succ, nf]
    · rfl
theorem markRuleS (l : List (RuleT)) (k : Int) (h0 : 0 ≤ k) (h1 : k + wtL wRule l ≤ 4611686018427387904) (h2 : l.length ≤ 4611686018427387904) : Fn Try.prog 43 1 [.own 0 2 0 l.length, .v (.int .i64 k)] [(0, ⟨94, 2, rulesO l⟩)] (.v (.int .i64 (k + wtL wRule l))) 1 [(0, ⟨94, 2, rulesO (mkL wRule mRule k l)⟩)] := by
  have hl0 : (rulesO (mkL wRule mRule k l)).length = (rulesO l).length := by simp
  have hl1 : (rulesO l).length = l.length := by simp
  refine Fn.mk (rs := [.tmp 4]) (nt := 27) Try.func43 (by kernel_rfl) rfl rfl rfl (by simp) ?_
  simp only [sl]
  refine wk0 _ ?_
  refine Holds.loop (ι := Nat) (fun i => ⟨[(0, .own 0 2 0 l.length), (1, .v (.int .i64 (k + wtL wRule (l.take i)))), (5, .v (.int .i64 i))], [(0, ⟨94, 2, mid (rulesO (mkL wRule mRule k l)) (rulesO l) i⟩)], 1⟩) (fun i => i ≤ l.length) (fun i => l.length - i) 0 (Nat.zero_le _) ?_ ?_
  · exact Cov.ofn (id) rfl (by simp [go_sem, List.take_of_length_le, ren, ren1, ren2, okr, okr1, okr2, ChkT, ChkN, BlkN, nf, wtL]) (by simp [go_sem, List.take_of_length_le, ren, ren1, ren2, okr, okr1, okr2, ChkT, ChkN, BlkN, nf, wtL])
  intro i hi
  have hml := (mid_len (i := i) hl0).trans hl1
  refine wk (@hml) _ ?_
  refine Holds.cond rfl (fun hl => ?_) (fun hl => ?_)
  · have hlt : i < l.length := by simpa using hl
    have hxi : l[i]? = some l[i] := List.getElem?_eq_getElem hlt
    have hwn := wtL_next wRule hxi
    have hwl := wtL_le wRule l (i + 1)
    have hmk : (mkL wRule mRule k l)[i]? = some (mRule (k + wtL wRule (l.take i)) l[i]) := by rw [mkL_get, hxi]; rfl
    have hhi := (mid_get hl0 (i := i) (by simpa using hlt)).trans (show (rulesO l)[i]? = some (ruleO l[i]) by simp [hxi])
    have hhs := mid_set hl0 (i := i) (by simpa using hlt) (show (rulesO (mkL wRule mRule k l))[i]? = some (ruleO (mRule (k + wtL wRule (l.take i)) l[i])) by simp [hmk])
    have hnf : nfr (mid (rulesO (mkL wRule mRule k l)) (rulesO l) i) := nfr_mid (by simp) (by simp)
    have hnf1 : nfr (mid (rulesO (mkL wRule mRule k l)) (rulesO l) (i + 1)) := nfr_mid (by simp) (by simp)
    have hW0 : (0 : Int) ≤ (wtL wRule (l.take i) : Int) := Int.natCast_nonneg _
    generalize wtL wRule (l.take i) = W at hwn hmk hhs hW0 ⊢
    generalize hX : l[i] = x at hxi hwn hmk hhi hhs
    simp only [wRule] at hwn
    simp only [ruleO, mRule] at hhs
    simp only [ruleO] at hhi
    have hhe := get_E hhi
    have hw0 : wr64 ((k + W : Int) + 1) = (k + W : Int) + 1 := wr64_id (by omega) (by omega)
    refine wk (And.intro @hml (And.intro @hhi (And.intro @hhe (And.intro @hlt (And.intro @hl0 (@hw0)))))) _ ?_
    refine GS.fnn [1] (markIntS x.2 ((k + W : Int) + 1) (by omega) (by omega)) rfl rfl rfl rfl (by simp [go_sem, List.take_of_length_le, ren, ren1, ren2, okr, okr1, okr2, ChkN, BlkN, List.range_succ, nf, hml, hhi, hhe, hlt, hl0, hw0] <;> with_reducible rfl) (by simp [go_sem, List.take_of_length_le, ren, ren1, ren2, okr, okr1, okr2, ChkN, BlkN, List.range_succ, nf, hml, hhi, hhe, hlt, hl0, hw0]) (by simp [go_sem, List.take_of_length_le, ren, ren1, ren2, okr, okr1, okr2, ChkN, BlkN, List.range_succ, nf, hml, hhi, hhe, hlt, hl0, hw0]) (by simp [List.range_succ, lb]) (ChkN.toB (by simp [go_sem, List.take_of_length_le, ren, ren1, ren2, okr, okr1, okr2, ChkN, BlkN, List.range_succ, nf, hml, hhi, hhe, hlt, hl0, hw0])) (by decide) (by simp) rfl (.nfr (by simp) .nil) (by simp [go_sem, List.take_of_length_le, ren, ren1, ren2, okr, okr1, okr2, ChkN, BlkN, List.range_succ, nf, hml, hhi, hhe, hlt, hl0, hw0] <;> with_reducible rfl) ?_
    refine wk (And.intro @hml (And.intro @hhi (And.intro @hhe (And.intro @hlt (And.intro @hl0 (@hw0)))))) _ ?_
    refine ⟨i + 1, by omega, by omega, ?_⟩
    rw [show wr64 ((i : Int) + 1) = ((i + 1 : Nat) : Int) from wr64_id (by omega) (by omega), hwn]
    refine Cov.trans ?_ (Cov.close 0 i 1 rfl (set_get hhi) rfl rfl rfl rfl (by first | rfl | simp) (by simp))
    simp only [rm, st, List.set_set, List.set_cons_zero, List.set_cons_succ]
    exact Cov.ofn (id) rfl (by simp [go_sem, List.take_of_length_le, ren, ren1, ren2, okr, okr1, okr2, ChkT, ChkN, BlkN, nf, hhs, hnf, hnf1, Int.add_assoc]) (by simp [go_sem, List.take_of_length_le, ren, ren1, ren2, okr, okr1, okr2, ChkT, ChkN, BlkN, nf, hhs, hnf, hnf1])
  · have hle : i = l.length := by
      have : ¬ i < l.length := by simpa using hl
      omega
    subst hle
    rw [mid_all (by simp) (by simp), List.take_length]
    refine wk0 _ ?_
    refine OutF.mkn (xs := ?_) (nm [0]) ?_ ?_ ?_ ?_ ?_ (by first | exact .inr rfl | exact .inl rfl)
    rotate_left
    · simp [go_sem, List.take_of_length_le] <;> with_reducible rfl
    · simp [go_sem, List.take_of_length_le, ren, ren1, ren2, okr, okr1, okr2, ChkN, BlkN, List.range_succ, nf]
    · simp [go_sem, List.take_of_length_le, ren, ren1, ren2, okr, okr1, okr2, ChkN, BlkN, List.range_succ, nf]
    · simp [go_sem, List.take_of_length_le, ren, ren1, ren2, okr, okr1, okr2, ChkN, BlkN, List.range_succ, nf]
    · rfl
theorem toGrammarO (x : GrammarT) (h0 : (x.2.2).length < 8796093022208) (h1 : ∀ q ∈ (x.2.2), (q.2).length < 35184372088832) : Fn Try.prog 9 0 [.ag (grammarC x)] [] (.ag [.v (.int .i64 x.1), .v (.int .i64 x.2.1), .own 0 2 0 (x.2.2).length]) 1 [(0, ⟨94, 2, rulesO x.2.2⟩)] := by
  refine Fn.mk (rs := [.cell 2 31]) (nt := 15) Try.func9 (by kernel_rfl) rfl rfl rfl (by simp) ?_
  simp only [sl, grammarC]
  refine wk0 _ ?_
  refine GS.fnn [] (toRuleSO x.2.2 h0 h1) rfl rfl rfl rfl (by simp [go_sem, List.take_of_length_le, ren, ren1, ren2, okr, okr1, okr2, ChkN, BlkN, List.range_succ, nf, grammarC] <;> with_reducible rfl) (by simp [go_sem, List.take_of_length_le, ren, ren1, ren2, okr, okr1, okr2, ChkN, BlkN, List.range_succ, nf, grammarC]) (by simp [go_sem, List.take_of_length_le, ren, ren1, ren2, okr, okr1, okr2, ChkN, BlkN, List.range_succ, nf, grammarC]) (by simp [List.range_succ, lb]) (ChkN.toB (by simp [go_sem, List.take_of_length_le, ren, ren1, ren2, okr, okr1, okr2, ChkN, BlkN, List.range_succ, nf, grammarC])) (by decide) (by simp) rfl (.nfr (by simp) .nil) (by simp [go_sem, List.take_of_length_le, ren, ren1, ren2, okr, okr1, okr2, ChkN, BlkN, List.range_succ, nf, grammarC] <;> with_reducible rfl) ?_
  refine wk0 _ ?_
  refine OutF.mkn (xs := ?_) (nm [3]) ?_ ?_ ?_ ?_ ?_ (by first | exact .inr rfl | exact .inl rfl)
  rotate_left
  · simp [go_sem, List.take_of_length_le, grammarC] <;> with_reducible rfl
  · simp [go_sem, List.take_of_length_le, ren, ren1, ren2, okr, okr1, okr2, ChkN, BlkN, List.range_succ, nf, grammarC]
  · simp [go_sem, List.take_of_length_le, ren, ren1, ren2, okr, okr1, okr2, ChkN, BlkN, List.range_succ, nf, grammarC]
  · simp [go_sem, List.take_of_length_le, ren, ren1, ren2, okr, okr1, okr2, ChkN, BlkN, List.range_succ, nf, grammarC]
  · rfl
def wGrammar (x : GrammarT) : Nat := wtL wRule x.2.2
def mGrammar (k : Int) (x : GrammarT) : GrammarT := (x.1, x.2.1, mkL wRule mRule (k) x.2.2)
theorem markGrammar (x : GrammarT) (k : Int) (h0 : 0 ≤ k) (h1 : k + wGrammar x ≤ 4611686018427387904) (g20 : x.2.2.length ≤ 4611686018427387904) : Fn Try.prog 13 1 [.ag [.v (.int .i64 x.1), .v (.int .i64 x.2.1), .own 0 2 0 (x.2.2).length], .v (.int .i64 k)] [(0, ⟨94, 2, rulesO x.2.2⟩)] (.v (.int .i64 (k + wGrammar x))) 1 [(0, ⟨94, 2, rulesO (mGrammar k x).2.2⟩)] := by
  simp only [wGrammar] at h1
  simp only [wGrammar, mGrammar]
  refine Fn.mk (rs := [.tmp 4]) (nt := 10) Try.func13 (by kernel_rfl) rfl rfl rfl (by simp) ?_
  simp only [sl]
  refine wk0 _ ?_
  refine GS.fnn [0] (markRuleS x.2.2 (k) (by omega) (by omega) g20) rfl rfl rfl rfl (by simp [go_sem, List.take_of_length_le, ren, ren1, ren2, okr, okr1, okr2, ChkN, BlkN, List.range_succ, nf] <;> with_reducible rfl) (by simp [go_sem, List.take_of_length_le, ren, ren1, ren2, okr, okr1, okr2, ChkN, BlkN, List.range_succ, nf]) (by simp [go_sem, List.take_of_length_le, ren, ren1, ren2, okr, okr1, okr2, ChkN, BlkN, List.range_succ, nf]) (by simp [List.range_succ, lb]) (ChkN.toB (by simp [go_sem, List.take_of_length_le, ren, ren1, ren2, okr, okr1, okr2, ChkN, BlkN, List.range_succ, nf])) (by decide) (by simp) rfl (.nfr (by simp) .nil) (by simp [go_sem, List.take_of_length_le, ren, ren1, ren2, okr, okr1, okr2, ChkN, BlkN, List.range_succ, nf] <;> with_reducible rfl) ?_
  refine wk0 _ ?_
  refine OutF.mkn (xs := ?_) (nm [0]) ?_ ?_ ?_ ?_ ?_ (by first | exact .inr rfl | exact .inl rfl)
  rotate_left
  · simp [go_sem, List.take_of_length_le, Int.add_assoc, cnt] <;> with_reducible rfl
  · simp [go_sem, List.take_of_length_le, ren, ren1, ren2, okr, okr1, okr2, ChkN, BlkN, List.range_succ, nf, Int.add_assoc, cnt]
  · simp [go_sem, List.take_of_length_le, ren, ren1, ren2, okr, okr1, okr2, ChkN, BlkN, List.range_succ, nf, Int.add_assoc, cnt]
  · simp [go_sem, List.take_of_length_le, ren, ren1, ren2, okr, okr1, okr2, ChkN, BlkN, List.range_succ, nf, Int.add_assoc, cnt]
  · rfl
end Go.Proofs.Ytejpklajfcngbaa.En
end
section
namespace Go.Proofs.Ytejpklajfcngbaa.En
open Go.RowKit
set_option linter.unusedSimpArgs false
set_option linter.unusedVariables false
set_option maxHeartbeats 4000000
def wIntS (x : List Int) : Nat := wtL w1 x
def mIntS (k : Int) (x : List Int) : List Int := cnt k x
def intsO1 (x : List Int) : List AV := [.ow 3 1 (ints x)]
def intssO (l : List (List Int)) : List (List AV) := l.map intsO1
@[simp] theorem intssO_len (l : List (List Int)) : (intssO l).length = l.length := by simp [intssO]
@[simp] theorem intssO_get (l : List (List Int)) (i : Nat) : (intssO l)[i]? = (l[i]?).map intsO1 := by simp [intssO]
@[simp] theorem intssO_gE (l : List (List Int)) (i : Nat) (h : i < (intssO l).length) : (intssO l)[i] = intsO1 (l[i]'(by simpa using h)) := by simp [intssO]
theorem intssO_all (p : AV → Prop) (l : List (List Int)) (h : ∀ x ∈ l, ∀ y ∈ intsO1 x, p y) : ∀ row ∈ intssO l, ∀ y ∈ row, p y := by
  intro row hr y hy
  simp only [intssO, List.mem_map] at hr
  obtain ⟨n, hn, rfl⟩ := hr
  exact h n hn y hy
@[simp] theorem nfr_intssO (l : List (List Int)) : nfr (intssO l) := intssO_all _ l fun x _ y hy => by simp only [intsO1, List.mem_cons, List.not_mem_nil, or_false] at hy; rcases hy with rfl <;> rfl
@[simp] theorem onyR_intssO (l : List (List Int)) : onyR (intssO l) := intssO_all _ l fun x _ y hy => by simp only [intsO1, List.mem_cons, List.not_mem_nil, or_false] at hy; rcases hy with rfl <;> simp
theorem fz_intssO {bl : List (Nat × Blk)} {n len : Nat} {e : TypeId} (l : List (List Int)) (hk : lb bl n = some ⟨e, 1, intssO l⟩) (hl : len = l.length) : Fz bl (.own n 1 0 len) (.im 1 (intss l)) := Fz.rowsO l intsO1 intsC hk rfl rfl (fun x _ => show FzL bl (intsO1 x) (intsC x) from by simp only [intsO1, intsC]; exact .cons (Fz.owI (ints_cl _)) (.nil)) hl
theorem markIntSS (l : List (List Int)) (k : Int) (h0 : 0 ≤ k) (h1 : k + wtL wIntS l ≤ 4611686018427387904) (h2 : l.length ≤ 4611686018427387904) : Fn Try.prog 29 1 [.own 0 1 0 l.length, .v (.int .i64 k)] [(0, ⟨26, 1, intssO l⟩)] (.v (.int .i64 (k + wtL wIntS l))) 1 [(0, ⟨26, 1, intssO (mkL wIntS mIntS k l)⟩)] := by
  have hl0 : (intssO (mkL wIntS mIntS k l)).length = (intssO l).length := by simp
  have hl1 : (intssO l).length = l.length := by simp
  refine Fn.mk (rs := [.tmp 4]) (nt := 19) Try.func29 (by kernel_rfl) rfl rfl rfl (by simp) ?_
  simp only [sl]
  refine wk0 _ ?_
  refine Holds.loop (ι := Nat) (fun i => ⟨[(0, .own 0 1 0 l.length), (1, .v (.int .i64 (k + wtL wIntS (l.take i)))), (5, .v (.int .i64 i))], [(0, ⟨26, 1, mid (intssO (mkL wIntS mIntS k l)) (intssO l) i⟩)], 1⟩) (fun i => i ≤ l.length) (fun i => l.length - i) 0 (Nat.zero_le _) ?_ ?_
  · exact Cov.ofn (id) rfl (by simp [go_sem, List.take_of_length_le, ren, ren1, ren2, okr, okr1, okr2, ChkT, ChkN, BlkN, nf, wtL]) (by simp [go_sem, List.take_of_length_le, ren, ren1, ren2, okr, okr1, okr2, ChkT, ChkN, BlkN, nf, wtL])
  intro i hi
  have hml := (mid_len (i := i) hl0).trans hl1
  refine wk (@hml) _ ?_
  refine Holds.cond rfl (fun hl => ?_) (fun hl => ?_)
  · have hlt : i < l.length := by simpa using hl
    have hxi : l[i]? = some l[i] := List.getElem?_eq_getElem hlt
    have hwn := wtL_next wIntS hxi
    have hwl := wtL_le wIntS l (i + 1)
    have hmk : (mkL wIntS mIntS k l)[i]? = some (mIntS (k + wtL wIntS (l.take i)) l[i]) := by rw [mkL_get, hxi]; rfl
    have hhi := (mid_get hl0 (i := i) (by simpa using hlt)).trans (show (intssO l)[i]? = some (intsO1 l[i]) by simp [hxi])
    have hhs := mid_set hl0 (i := i) (by simpa using hlt) (show (intssO (mkL wIntS mIntS k l))[i]? = some (intsO1 (mIntS (k + wtL wIntS (l.take i)) l[i])) by simp [hmk])
    have hnf : nfr (mid (intssO (mkL wIntS mIntS k l)) (intssO l) i) := nfr_mid (by simp) (by simp)
    have hnf1 : nfr (mid (intssO (mkL wIntS mIntS k l)) (intssO l) (i + 1)) := nfr_mid (by simp) (by simp)
    have hW0 : (0 : Int) ≤ (wtL wIntS (l.take i) : Int) := Int.natCast_nonneg _
    generalize wtL wIntS (l.take i) = W at hwn hmk hhs hW0 ⊢
    generalize hX : l[i] = x at hxi hwn hmk hhi hhs
    simp only [wIntS] at hwn
    simp only [intsO1, mIntS] at hhs
    simp only [intsO1] at hhi
    have hhe := get_E hhi
    refine wk (And.intro @hml (And.intro @hhi (And.intro @hhe (And.intro @hlt (@hl0))))) _ ?_
    refine GS.fnn [1] (markIntS x ((k + W : Int)) (by omega) (by omega)) rfl rfl rfl rfl (by simp [go_sem, List.take_of_length_le, ren, ren1, ren2, okr, okr1, okr2, ChkN, BlkN, List.range_succ, nf, hml, hhi, hhe, hlt, hl0] <;> with_reducible rfl) (by simp [go_sem, List.take_of_length_le, ren, ren1, ren2, okr, okr1, okr2, ChkN, BlkN, List.range_succ, nf, hml, hhi, hhe, hlt, hl0]) (by simp [go_sem, List.take_of_length_le, ren, ren1, ren2, okr, okr1, okr2, ChkN, BlkN, List.range_succ, nf, hml, hhi, hhe, hlt, hl0]) (by simp [List.range_succ, lb]) (ChkN.toB (by simp [go_sem, List.take_of_length_le, ren, ren1, ren2, okr, okr1, okr2, ChkN, BlkN, List.range_succ, nf, hml, hhi, hhe, hlt, hl0])) (by decide) (by simp) rfl (.nfr (by simp) .nil) (by simp [go_sem, List.take_of_length_le, ren, ren1, ren2, okr, okr1, okr2, ChkN, BlkN, List.range_succ, nf, hml, hhi, hhe, hlt, hl0] <;> with_reducible rfl) ?_
    refine wk (And.intro @hml (And.intro @hhi (And.intro @hhe (And.intro @hlt (@hl0))))) _ ?_
    refine ⟨i + 1, by omega, by omega, ?_⟩
    rw [show wr64 ((i : Int) + 1) = ((i + 1 : Nat) : Int) from wr64_id (by omega) (by omega), hwn]
    refine Cov.trans ?_ (Cov.close 0 i 0 rfl (set_get hhi) rfl rfl rfl rfl (by first | rfl | simp) (by simp))
    simp only [rm, st, List.set_set, List.set_cons_zero, List.set_cons_succ]
    exact Cov.ofn (id) rfl (by simp [go_sem, List.take_of_length_le, ren, ren1, ren2, okr, okr1, okr2, ChkT, ChkN, BlkN, nf, hhs, hnf, hnf1, Int.add_assoc]) (by simp [go_sem, List.take_of_length_le, ren, ren1, ren2, okr, okr1, okr2, ChkT, ChkN, BlkN, nf, hhs, hnf, hnf1])
  · have hle : i = l.length := by
      have : ¬ i < l.length := by simpa using hl
      omega
    subst hle
    rw [mid_all (by simp) (by simp), List.take_length]
    refine wk0 _ ?_
    refine OutF.mkn (xs := ?_) (nm [0]) ?_ ?_ ?_ ?_ ?_ (by first | exact .inr rfl | exact .inl rfl)
    rotate_left
    · simp [go_sem, List.take_of_length_le] <;> with_reducible rfl
    · simp [go_sem, List.take_of_length_le, ren, ren1, ren2, okr, okr1, okr2, ChkN, BlkN, List.range_succ, nf]
    · simp [go_sem, List.take_of_length_le, ren, ren1, ren2, okr, okr1, okr2, ChkN, BlkN, List.range_succ, nf]
    · simp [go_sem, List.take_of_length_le, ren, ren1, ren2, okr, okr1, okr2, ChkN, BlkN, List.range_succ, nf]
    · rfl
theorem heldIntSS (l : List (List Int)) (k : Int) (h0 : 0 ≤ k) (h1 : k + wtL wIntS l ≤ 4611686018427387904) (h2 : l.length ≤ 4611686018427387904) : Pure Try.prog 30 [.im 1 (intss (mkL wIntS mIntS k l)), .v (.int .i64 k)] (.v (.int .i64 (k + wtL wIntS l))) := by
  have hl0 : (intss (mkL wIntS mIntS k l)).length = l.length := by simp
  refine Pure.mk (rs := [.tmp 4]) (nt := 21) Try.func30 (by kernel_rfl) rfl rfl rfl (by simp) ?_
  simp only [sl]
  refine wk0 _ ?_
  refine Holds.loop (ι := Nat) (fun i => ⟨[(0, .im 1 (intss (mkL wIntS mIntS k l))), (1, .v (.int .i64 (k + wtL wIntS (l.take i)))), (5, .v (.int .i64 i))], [], 0⟩) (fun i => i ≤ l.length) (fun i => l.length - i) 0 (Nat.zero_le _) ?_ ?_
  · exact Cov.ofn (id) rfl (by simp [go_sem, List.take_of_length_le, ren, ren1, ren2, okr, okr1, okr2, ChkT, ChkN, BlkN, nf, wtL]) (by simp [go_sem, List.take_of_length_le, ren, ren1, ren2, okr, okr1, okr2, ChkT, ChkN, BlkN, nf, wtL])
  intro i hi
  refine wk (@hl0) _ ?_
  refine Holds.cond rfl (fun hl => ?_) (fun hl => ?_)
  · have hlt : i < l.length := by simpa using hl
    have hxi : l[i]? = some l[i] := List.getElem?_eq_getElem hlt
    have hwn := wtL_next wIntS hxi
    have hwl := wtL_le wIntS l (i + 1)
    have hhi : (intss (mkL wIntS mIntS k l))[i]? = some (intsC (mIntS (k + wtL wIntS (l.take i)) l[i])) := by simp [mkL_get, hxi]
    have hW0 : (0 : Int) ≤ (wtL wIntS (l.take i) : Int) := Int.natCast_nonneg _
    generalize wtL wIntS (l.take i) = W at hwn hhi hW0 ⊢
    generalize hX : l[i] = x at hxi hwn hhi
    simp only [wIntS] at hwn
    simp only [intsC, mIntS] at hhi
    have hhe := get_E hhi
    generalize intss (mkL wIntS mIntS k l) = rowsM at hhi hhe hl0 ⊢
    refine wk (And.intro @hhi (And.intro @hhe (And.intro @hlt (@hl0)))) _ ?_
    have hc0 := heldIntS x ((k + W : Int)) (by omega) (by omega)
    refine GS.cc (hc0) rfl rfl rfl rfl (by simp [go_sem, List.take_of_length_le, hhi, hhe, hlt, hl0] <;> with_reducible rfl) rfl (by simp [go_sem, List.take_of_length_le, hhi, hhe, hlt, hl0]) ?_
    refine wk (And.intro @hhi (And.intro @hhe (And.intro @hlt (@hl0)))) _ ?_
    refine Holds.cond rfl (fun hl => absurd hl (by simp; omega)) (fun hl => ?_)
    refine wk (And.intro @hhi (And.intro @hhe (And.intro @hlt (@hl0)))) _ ?_
    refine ⟨i + 1, by omega, by omega, ?_⟩
    rw [show wr64 ((i : Int) + 1) = ((i + 1 : Nat) : Int) from wr64_id (by omega) (by omega), hwn]
    exact Cov.ofn (id) rfl (by simp [go_sem, List.take_of_length_le, ren, ren1, ren2, okr, okr1, okr2, ChkT, ChkN, BlkN, nf, Int.add_assoc]) (by simp [go_sem, List.take_of_length_le, ren, ren1, ren2, okr, okr1, okr2, ChkT, ChkN, BlkN, nf])
  · have hle : i = l.length := by
      have : ¬ i < l.length := by simpa using hl
      omega
    subst hle
    rw [List.take_length]
    refine wk (@hl0) _ ?_
    refine Out.mk (xs := ?_) ?_ ?_ (by first | exact .inr rfl | exact .inl rfl)
    rotate_left
    · simp [go_sem, List.take_of_length_le] <;> with_reducible rfl
    exact .v _
end Go.Proofs.Ytejpklajfcngbaa.En
end
section
namespace Go.Proofs.Ytejpklajfcngbaa.En
open Go.RowKit
set_option linter.unusedSimpArgs false
set_option linter.unusedVariables false
set_option maxHeartbeats 4000000
def inR (x lo hi : Int) : Bool := decide (lo ≤ x) && decide (x ≤ hi)
theorem l1In (x lo hi : Int) : Pure Try.prog 73 [.v (.int .i64 x), .v (.int .i64 lo), .v (.int .i64 hi)] (.v (.bool (inR x lo hi))) := by
  refine Pure.mk (rs := [.tmp 6]) (nt := 15) Try.func73 (by kernel_rfl) rfl rfl rfl (by simp) ?_
  simp only [sl]
  refine wk0 _ ?_
  refine GS.guard (t := 10) rfl (fun h => ?_) (fun h => ?_)
  · have h : lo ≤ x := by simpa using h
    rw [show inR x lo hi = decide (x ≤ hi) by simp [inR, h]]
    refine wk0 _ ?_
    refine Out.mk (xs := ?_) ?_ ?_ (by first | exact .inr rfl | exact .inl rfl)
    rotate_left
    · simp [go_sem, List.take_of_length_le] <;> with_reducible rfl
    exact .v _
  · have h : ¬ lo ≤ x := by simpa using h
    rw [show inR x lo hi = false by simp [inR, h]]
    refine wk0 _ ?_
    refine Out.mk (xs := ?_) ?_ ?_ (by first | exact .inr rfl | exact .inl rfl)
    rotate_left
    · simp [go_sem, List.take_of_length_le] <;> with_reducible rfl
    exact .v _
theorem implIn (x lo hi : Int) : Pure Try.prog 78 [.v (.int .i64 x), .v (.int .i64 lo), .v (.int .i64 hi)] (.v (.bool (inR x lo hi))) := by
  refine Pure.mk (rs := [.tmp 6]) (nt := 15) Try.func78 (by kernel_rfl) rfl rfl rfl (by simp) ?_
  simp only [sl]
  refine wk0 _ ?_
  refine GS.guard (t := 10) rfl (fun h => ?_) (fun h => ?_)
  · have h : lo ≤ x := by simpa using h
    rw [show inR x lo hi = decide (x ≤ hi) by simp [inR, h]]
    refine wk0 _ ?_
    refine Out.mk (xs := ?_) ?_ ?_ (by first | exact .inr rfl | exact .inl rfl)
    rotate_left
    · simp [go_sem, List.take_of_length_le] <;> with_reducible rfl
    exact .v _
  · have h : ¬ lo ≤ x := by simpa using h
    rw [show inR x lo hi = false by simp [inR, h]]
    refine wk0 _ ?_
    refine Out.mk (xs := ?_) ?_ ?_ (by first | exact .inr rfl | exact .inl rfl)
    rotate_left
    · simp [go_sem, List.take_of_length_le] <;> with_reducible rfl
    exact .v _
def allB (p : Nat → Bool) : Nat → Bool
  | 0 => true
  | n + 1 => allB p n && p n
theorem allB_no {p : Nat → Bool} {n i : Nat} (hi : i < n) (h : p i = false) : allB p n = false := by
  induction n with
  | zero => omega
  | succ n ih =>
    unfold allB
    by_cases e : i = n
    · subst e; simp [h]
    · simp [ih (by omega)]
def risAt (xs : List Int) (lo hi : Int) (i : Nat) : Bool := inR (xs.getD i 0) lo hi && (decide (i = 0) || decide (xs.getD (i - 1) 0 < xs.getD i 0))
def rising (xs : List Int) (lo hi : Int) : Bool := allB (risAt xs lo hi) xs.length
end Go.Proofs.Ytejpklajfcngbaa.En
end
section
namespace Go.Proofs.Ytejpklajfcngbaa.En
open Go.RowKit
set_option linter.unusedSimpArgs false
set_option linter.unusedVariables false
set_option maxHeartbeats 4000000
end Go.Proofs.Ytejpklajfcngbaa.En
end
section
namespace Go.Proofs.Ytejpklajfcngbaa.En
open Go.RowKit
set_option linter.unusedSimpArgs false
set_option linter.unusedVariables false
set_option maxHeartbeats 4000000
def handC (long : Nat) (h : Nat × Bool) : List AV := [.v (.int .i64 long), .v (.int .i64 h.1), .v (.bool h.2)]
def hands (long : Nat) (hs : List (Nat × Bool)) : List (List AV) := hs.map (handC long)
@[simp] theorem hands_len (long : Nat) (hs : List (Nat × Bool)) : (hands long hs).length = hs.length := by simp [hands]
@[simp] theorem hands_get (long : Nat) (hs : List (Nat × Bool)) (i : Nat) : (hands long hs)[i]? = (hs[i]?).map (handC long) := by simp [hands]
@[simp] theorem hands_gE (long : Nat) (hs : List (Nat × Bool)) (i : Nat) (h : i < (hands long hs).length) : (hands long hs)[i] = handC long (hs[i]'(by simpa using h)) := by simp [hands]
@[simp] theorem nfr_hands (long : Nat) (hs : List (Nat × Bool)) : nfr (hands long hs) := by
  intro row hr x hx
  simp only [hands, List.mem_map] at hr
  obtain ⟨n, _, rfl⟩ := hr
  simp only [handC, List.mem_cons, List.not_mem_nil, or_false] at hx
  rcases hx with rfl | rfl | rfl <;> rfl
def mix {α : Type} (xs ys : List α) (i : Nat) : List α := xs.take i ++ ys.drop i
@[simp] theorem mix_zero {α : Type} (xs ys : List α) : mix xs ys 0 = ys := by simp [mix]
@[simp] theorem nfr.mix {xs ys : List (List AV)} (h : nfr xs) (h' : nfr ys) (i : Nat) : nfr (En.mix xs ys i) := by
  unfold En.mix
  rw [nfr_append]
  exact ⟨h.take i, h'.drop i⟩
@[simp] theorem nfr_mixHands (a b : Nat) (xs ys : List (Nat × Bool)) (i : Nat) : nfr (mix (hands a xs) (hands b ys) i) := (nfr_hands a xs).mix (nfr_hands b ys) i

end Go.Proofs.Ytejpklajfcngbaa.En
end
section
namespace Go.Proofs.Ytejpklajfcngbaa.En
open Go.RowKit
set_option linter.unusedSimpArgs false
set_option linter.unusedVariables false
set_option maxHeartbeats 4000000
end Go.Proofs.Ytejpklajfcngbaa.En
end
section
namespace Go.Proofs.Ytejpklajfcngbaa.En
open Go.RowKit
set_option linter.unusedSimpArgs false
set_option linter.unusedVariables false
set_option maxHeartbeats 4000000
def bools (xs : List Bool) : List (List AV) := xs.map fun b => [.v (.bool b)]
@[simp] theorem bools_len (xs : List Bool) : (bools xs).length = xs.length := by simp [bools]
@[simp] theorem bools_get (xs : List Bool) (i : Nat) : (bools xs)[i]? = (xs[i]?).map fun n => [.v (.bool n)] := by simp [bools]
@[simp] theorem bools_gE (xs : List Bool) (i : Nat) (h : i < (bools xs).length) : (bools xs)[i] = [.v (.bool (xs[i]'(by simpa using h)))] := by simp [bools]
@[simp] theorem bools_set (xs : List Bool) (i : Nat) (n : Bool) : (bools xs).set i [.v (.bool n)] = bools (xs.set i n) := by simp [bools, List.map_set]
@[simp] theorem bools_rep (n : Nat) (x : Bool) : List.replicate n [AV.v (.bool x)] = bools (List.replicate n x) := by simp [bools]
theorem bools_cl (xs : List Bool) : ∀ row ∈ bools xs, ∀ x ∈ row, cl1 x = true := by
  intro row hr x hx
  simp only [bools, List.mem_map] at hr
  obtain ⟨n, _, rfl⟩ := hr
  simp at hx; subst hx; rfl
@[simp] theorem nfr_bools (xs : List Bool) : nfr (bools xs) := nfr_of_ok (bools_cl xs)
end Go.Proofs.Ytejpklajfcngbaa.En
end
section
namespace Go.Proofs.Ytejpklajfcngbaa.En
open Go.RowKit
set_option linter.unusedSimpArgs false
set_option linter.unusedVariables false
set_option maxHeartbeats 4000000
def fstP {α : Type} (p : α → Bool) : List α → Nat → Int
  | [], _ => -1
  | x :: xs, k => if p x then (k : Int) else fstP p xs (k + 1)
theorem fstP_at {α : Type} {p : α → Bool} : ∀ (xs : List α) (i k : Nat) {n : α}, xs[i]? = some n → p n = true → (∀ j, j < i → ∀ x, xs[j]? = some x → p x = false) → fstP p xs k = ((k + i : Nat) : Int)
  | [], i, k, n, h, _, _ => by simp at h
  | x :: xs, 0, k, n, h, hp, _ => by simp at h; subst h; simp [fstP, hp]
  | x :: xs, i + 1, k, n, h, hp, hno => by
    have h0 : p x = false := hno 0 (by omega) x (by simp)
    unfold fstP
    rw [if_neg (by simp [h0]), fstP_at xs i (k + 1) (by simpa using h) hp fun j hj y hy => hno (j + 1) (by omega) y (by simpa using hy)]
    congr 1; omega
theorem fstP_no {α : Type} {p : α → Bool} : ∀ (xs : List α) (k : Nat), (∀ (j : Nat) (x : α), xs[j]? = some x → p x = false) → fstP p xs k = -1
  | [], k, _ => rfl
  | x :: xs, k, h => by
    unfold fstP
    rw [if_neg (by simp [h 0 x (by simp)]), fstP_no xs (k + 1) fun j y hy => h (j + 1) y (by simpa using hy)]
theorem fstP_any {α : Type} (p : α → Bool) : ∀ (xs : List α) (k : Nat), decide (fstP p xs k ≥ 0) = xs.any p
  | [], k => by simp [fstP]
  | x :: xs, k => by
    unfold fstP
    cases h : p x
    · rw [if_neg (by simp), fstP_any p xs (k + 1)]; simp [h]
    · simp [h]
theorem okr1_cl {nx : Nat} {x : AV} (h : cl1 x = true) : okr1 nx x = true := by cases x <;> simp_all [cl1, okr1]
theorem ren1_cl {ρ : Nat → Nat} {x : AV} (h : cl1 x = true) : ren1 ρ x = x := by cases x <;> simp_all [cl1, ren1]
theorem all_cl1 {cap : List AV} (h : cap.all cl1 = true) : cap.all cl = true := by
  rw [List.all_eq_true] at h ⊢
  intro x hx
  have := h x hx
  cases x <;> simp_all [cl, cl1]
theorem okr1_cap {cap : List AV} (h : cap.all cl1 = true) (nx : Nat) : cap.all (okr1 nx) = true := by
  rw [List.all_eq_true] at h ⊢
  exact fun x hx => okr1_cl (h x hx)
theorem ren1_cap {cap : List AV} (h : cap.all cl1 = true) (ρ : Nat → Nat) : cap.map (ren1 ρ) = cap := by
  rw [List.all_eq_true] at h
  have : ∀ x ∈ cap, ren1 ρ x = id x := fun x hx => ren1_cl (h x hx)
  rw [List.map_congr_left this]; simp
theorem Fz.box {bl : List (Nat × Blk)} {n sz : Nat} {k : Blk} {cs : List AV} (hk : lb bl n = some k) (hx : k.xs = [cs]) (hz : k.sz = sz) (hc : cs.all En.cl1 = true) : Fz bl (.pb n sz 0 0) (.pi cs) := by
  subst hz
  refine .pb n 0 0 k cs cs hk (by rw [hx]; rfl) (by simp) (fun q x y h1 h2 => ?_)
  rw [List.drop_zero, h2] at h1
  have e := Option.some.inj h1
  subst e
  rw [List.all_eq_true] at hc
  exact .cl1 (hc _ (List.mem_of_getElem? h2))
theorem all_not_any {α : Type} (p : α → Bool) (xs : List α) : xs.all p = !xs.any (fun x => !p x) := by
  induction xs with
  | nil => rfl
  | cons x xs ih => simp only [List.all_cons, List.any_cons, ih, Bool.not_or, Bool.not_not]
theorem indexFuncInt (g : FuncId) (cap : List AV) (p : Int → Bool) (xs : List Int) (hx : xs.length < 4611686018427387904) (hcap : cap.all cl1 = true) (hg : ∀ x ∈ xs, Pure Try.prog g (.v (.int .i64 x) :: cap) (.v (.bool (p x)))) : Pure Try.prog 117 [.im 1 (ints xs), .fn g cap] (.v (.int .i64 (fstP p xs 0))) := by
  refine Pure.mk (rs := [.tmp 4]) (nt := 19) Try.func117 (by kernel_rfl) rfl rfl rfl (by simp) ?_
  simp only [sl]
  refine wk0 _ ?_
  refine Holds.loop (ι := Nat) (fun i => ⟨[(0, .im 1 (ints xs)), (1, .fn g cap), (7, .v (.int .i64 xs.length)), (8, .v (.int .i64 i))], [], 0⟩) (fun i => i ≤ xs.length ∧ ∀ j, j < i → ∀ x, xs[j]? = some x → p x = false) (fun i => xs.length - i) 0 ⟨Nat.zero_le _, fun j hj => absurd hj (Nat.not_lt_zero j)⟩ ?_ ?_
  · exact Cov.ofn id rfl (by simp [go_sem, ren, ren1, okr, okr1, ChkT, okr1_cap hcap, ren1_cap hcap]) (by simp [ChkN])
  rintro i ⟨hi, hno⟩
  refine wk0 _ ?_
  refine Holds.cond rfl (fun hl => ?_) (fun hl => ?_)
  · have hlt : i < xs.length := by simpa using hl
    have hxi : xs[i]? = some xs[i] := List.getElem?_eq_getElem hlt
    have hgi := hg _ (List.getElem_mem hlt)
    refine wk (@hxi) _ ?_
    refine GS.cc (hgi) rfl rfl rfl rfl (by simp [go_sem, List.take_of_length_le, hcap, all_cl1 hcap] <;> with_reducible rfl) rfl (by simp [go_sem, List.take_of_length_le, hcap, all_cl1 hcap]) ?_
    refine wk0 _ ?_
    refine Holds.cond rfl (fun hl => ?_) (fun hl => ?_)
    · rw [fstP_at xs i 0 hxi hl hno, Nat.zero_add]
      refine wk0 _ ?_
      refine Out.mk (xs := ?_) ?_ ?_ (by first | exact .inr rfl | exact .inl rfl)
      rotate_left
      · simp [go_sem, List.take_of_length_le] <;> with_reducible rfl
      exact .v _
    · refine wk0 _ ?_
      refine ⟨i + 1, ⟨by omega, fun j hj x hxj => ?_⟩, by omega, ?_⟩
      · by_cases e : j = i
        · subst e; rw [hxi] at hxj; cases hxj; exact hl
        · exact hno j (by omega) x hxj
      rw [wr64_id (by omega) (by omega)]
      exact Cov.ofn id rfl (by simp [go_sem, ren, ren1, okr, okr1, ChkT, okr1_cap hcap, ren1_cap hcap]) (by simp [ChkN])
  · have hle : i = xs.length := by
      have : ¬ i < xs.length := by simpa using hl
      omega
    rw [fstP_no xs 0 fun j x hj => hno j (by have := (List.getElem?_eq_some_iff.1 hj).1; omega) x hj]
    refine wk0 _ ?_
    refine Out.mk (xs := ?_) ?_ ?_ (by first | exact .inr rfl | exact .inl rfl)
    rotate_left
    · simp [go_sem, List.take_of_length_le] <;> with_reducible rfl
    exact .v _
theorem containsFuncInt (g : FuncId) (cap : List AV) (p : Int → Bool) (xs : List Int) (hx : xs.length < 4611686018427387904) (hcap : cap.all cl1 = true) (hg : ∀ x ∈ xs, Pure Try.prog g (.v (.int .i64 x) :: cap) (.v (.bool (p x)))) : Pure Try.prog 95 [.im 1 (ints xs), .fn g cap] (.v (.bool (xs.any p))) := by
  refine Pure.mk (rs := [.tmp 4]) (nt := 9) Try.func95 (by kernel_rfl) rfl rfl rfl (by simp) ?_
  simp only [sl]
  refine wk0 _ ?_
  refine GS.cc (indexFuncInt g cap p xs hx hcap hg) rfl rfl rfl rfl (by simp [go_sem, List.take_of_length_le, hcap, all_cl1 hcap] <;> with_reducible rfl) rfl (by simp [go_sem, List.take_of_length_le, hcap, all_cl1 hcap]) ?_
  rw [← fstP_any p xs 0]
  refine wk0 _ ?_
  refine Out.mk (xs := ?_) ?_ ?_ (by first | exact .inr rfl | exact .inl rfl)
  rotate_left
  · simp [go_sem, List.take_of_length_le] <;> with_reducible rfl
  exact .v _
theorem indexFuncRule (g : FuncId) (cap : List AV) (p : RuleT → Bool) (xs : List RuleT) (hx : xs.length < 4611686018427387904) (hcap : cap.all cl1 = true) (hg : ∀ x ∈ xs, Pure Try.prog g (.ag (ruleC x) :: cap) (.v (.bool (p x)))) : Pure Try.prog 85 [.im 2 (rules xs), .fn g cap] (.v (.int .i64 (fstP p xs 0))) := by
  refine Pure.mk (rs := [.tmp 4]) (nt := 19) Try.func85 (by kernel_rfl) rfl rfl rfl (by simp) ?_
  simp only [sl]
  refine wk0 _ ?_
  refine Holds.loop (ι := Nat) (fun i => ⟨[(0, .im 2 (rules xs)), (1, .fn g cap), (7, .v (.int .i64 xs.length)), (8, .v (.int .i64 i))], [], 0⟩) (fun i => i ≤ xs.length ∧ ∀ j, j < i → ∀ x, xs[j]? = some x → p x = false) (fun i => xs.length - i) 0 ⟨Nat.zero_le _, fun j hj => absurd hj (Nat.not_lt_zero j)⟩ ?_ ?_
  · exact Cov.ofn id rfl (by simp [go_sem, ren, ren1, okr, okr1, ChkT, okr1_cap hcap, ren1_cap hcap]) (by simp [ChkN])
  rintro i ⟨hi, hno⟩
  refine wk0 _ ?_
  refine Holds.cond rfl (fun hl => ?_) (fun hl => ?_)
  · have hlt : i < xs.length := by simpa using hl
    have hxi : xs[i]? = some xs[i] := List.getElem?_eq_getElem hlt
    have hgi := hg _ (List.getElem_mem hlt)
    refine wk (And.intro @hxi (@ruleC.eq_1)) _ ?_
    refine GS.cc (hgi) rfl rfl rfl rfl (by simp [go_sem, List.take_of_length_le, hcap, all_cl1 hcap , ruleC] <;> with_reducible rfl) rfl (by simp [go_sem, List.take_of_length_le, hcap, all_cl1 hcap , ruleC]) ?_
    refine wk0 _ ?_
    refine Holds.cond rfl (fun hl => ?_) (fun hl => ?_)
    · rw [fstP_at xs i 0 hxi hl hno, Nat.zero_add]
      refine wk0 _ ?_
      refine Out.mk (xs := ?_) ?_ ?_ (by first | exact .inr rfl | exact .inl rfl)
      rotate_left
      · simp [go_sem, List.take_of_length_le] <;> with_reducible rfl
      exact .v _
    · refine wk0 _ ?_
      refine ⟨i + 1, ⟨by omega, fun j hj x hxj => ?_⟩, by omega, ?_⟩
      · by_cases e : j = i
        · subst e; rw [hxi] at hxj; cases hxj; exact hl
        · exact hno j (by omega) x hxj
      rw [wr64_id (by omega) (by omega)]
      exact Cov.ofn id rfl (by simp [go_sem, ren, ren1, okr, okr1, ChkT, okr1_cap hcap, ren1_cap hcap]) (by simp [ChkN])
  · have hle : i = xs.length := by
      have : ¬ i < xs.length := by simpa using hl
      omega
    rw [fstP_no xs 0 fun j x hj => hno j (by have := (List.getElem?_eq_some_iff.1 hj).1; omega) x hj]
    refine wk0 _ ?_
    refine Out.mk (xs := ?_) ?_ ?_ (by first | exact .inr rfl | exact .inl rfl)
    rotate_left
    · simp [go_sem, List.take_of_length_le] <;> with_reducible rfl
    exact .v _
theorem containsFuncRule (g : FuncId) (cap : List AV) (p : RuleT → Bool) (xs : List RuleT) (hx : xs.length < 4611686018427387904) (hcap : cap.all cl1 = true) (hg : ∀ x ∈ xs, Pure Try.prog g (.ag (ruleC x) :: cap) (.v (.bool (p x)))) : Pure Try.prog 80 [.im 2 (rules xs), .fn g cap] (.v (.bool (xs.any p))) := by
  refine Pure.mk (rs := [.tmp 4]) (nt := 9) Try.func80 (by kernel_rfl) rfl rfl rfl (by simp) ?_
  simp only [sl]
  refine wk0 _ ?_
  refine GS.cc (indexFuncRule g cap p xs hx hcap hg) rfl rfl rfl rfl (by simp [go_sem, List.take_of_length_le, hcap, all_cl1 hcap] <;> with_reducible rfl) rfl (by simp [go_sem, List.take_of_length_le, hcap, all_cl1 hcap]) ?_
  rw [← fstP_any p xs 0]
  refine wk0 _ ?_
  refine Out.mk (xs := ?_) ?_ ?_ (by first | exact .inr rfl | exact .inl rfl)
  rotate_left
  · simp [go_sem, List.take_of_length_le] <;> with_reducible rfl
  exact .v _
def symOk (nons toks x : Int) : Bool := inR x (-toks) (nons - 1)
theorem l1Symbol (g : GrammarT) (x : Int) (h0 : 1 ≤ g.1) (h1 : g.1 ≤ 6) (h2 : 1 ≤ g.2.1) (h3 : g.2.1 ≤ 4) : Pure Try.prog 74 [.ag (grammarC g), .v (.int .i64 x)] (.v (.bool (symOk g.1 g.2.1 x))) := by
  refine Pure.mk (rs := [.tmp 4]) (nt := 13) Try.func74 (by kernel_rfl) rfl rfl rfl (by simp) ?_
  simp only [sl, grammarC]
  have hw : wr64 (g.1 - 1) = g.1 - 1 := wr64_id (by omega) (by omega)
  have hw2 : wr64 (-g.2.1) = -g.2.1 := wr64_id (by omega) (by omega)
  have hw3 : wr64 (0 - g.2.1) = -g.2.1 := by rw [wr64_id (by omega) (by omega)]; omega
  refine wk (And.intro @hw (And.intro @hw2 (@hw3))) _ ?_
  refine GS.cc (l1In x (-g.2.1) (g.1 - 1)) rfl rfl rfl rfl (by simp [go_sem, List.take_of_length_le] <;> with_reducible rfl) rfl (by simp [go_sem, List.take_of_length_le]) ?_
  refine wk0 _ ?_
  refine Out.mk (xs := ?_) ?_ ?_ (by first | exact .inr rfl | exact .inl rfl)
  rotate_left
  · simp [go_sem, List.take_of_length_le] <;> with_reducible rfl
  exact .v _
theorem isSymbol (n t x : Int) (h0 : 1 ≤ n) (h1 : n ≤ 6) (h2 : 1 ≤ t) (h3 : t ≤ 4) : Pure Try.prog 115 [.v (.int .i64 x), .v (.int .i64 n), .v (.int .i64 t)] (.v (.bool (symOk n t x))) := by
  refine Pure.mk (rs := [.tmp 6]) (nt := 13) Try.func115 (by kernel_rfl) rfl rfl rfl (by simp) ?_
  simp only [sl]
  have hw : wr64 (n - 1) = n - 1 := wr64_id (by omega) (by omega)
  have hw2 : wr64 (-t) = -t := wr64_id (by omega) (by omega)
  have hw3 : wr64 (0 - t) = -t := by rw [wr64_id (by omega) (by omega)]; omega
  refine wk (And.intro @hw (And.intro @hw2 (@hw3))) _ ?_
  refine GS.cc (implIn x (-t) (n - 1)) rfl rfl rfl rfl (by simp [go_sem, List.take_of_length_le] <;> with_reducible rfl) rfl (by simp [go_sem, List.take_of_length_le]) ?_
  refine wk0 _ ?_
  refine Out.mk (xs := ?_) ?_ ?_ (by first | exact .inr rfl | exact .inl rfl)
  rotate_left
  · simp [go_sem, List.take_of_length_le] <;> with_reducible rfl
  exact .v _
theorem areSymbols1 (n t x : Int) (h0 : 1 ≤ n) (h1 : n ≤ 6) (h2 : 1 ≤ t) (h3 : t ≤ 4) : Pure Try.prog 114 [.v (.int .i64 x), .pi [.v (.int .i64 n)], .pi [.v (.int .i64 t)]] (.v (.bool (!symOk n t x))) := by
  refine Pure.mk (rs := [.tmp 4]) (nt := 10) Try.func114 (by kernel_rfl) rfl rfl rfl (by simp) ?_
  simp only [sl]
  refine wk0 _ ?_
  refine GS.cc (isSymbol n t x h0 h1 h2 h3) rfl rfl rfl rfl (by simp [go_sem, List.take_of_length_le] <;> with_reducible rfl) rfl (by simp [go_sem, List.take_of_length_le]) ?_
  refine wk0 _ ?_
  refine Out.mk (xs := ?_) ?_ ?_ (by first | exact .inr rfl | exact .inl rfl)
  rotate_left
  · simp [go_sem, List.take_of_length_le] <;> with_reducible rfl
  exact .v _
theorem areSymbols (xs : List Int) (n t : Int) (h0 : 1 ≤ n) (h1 : n ≤ 6) (h2 : 1 ≤ t) (h3 : t ≤ 4) (hx : xs.length < 4611686018427387904) : Pure Try.prog 79 [.im 1 (ints xs), .v (.int .i64 n), .v (.int .i64 t)] (.v (.bool (xs.all (symOk n t)))) := by
  refine Pure.mk (rs := [.tmp 6]) (nt := 11) Try.func79 (by kernel_rfl) rfl rfl rfl (by simp) ?_
  simp only [sl]
  have hc := containsFuncInt 114 [.pi [.v (.int .i64 n)], .pi [.v (.int .i64 t)]] (fun x => !symOk n t x) xs hx rfl (fun x _ => areSymbols1 n t x h0 h1 h2 h3)
  rw [all_not_any (symOk n t) xs]
  refine wk0 _ ?_
  refine GS.cd (hc) rfl rfl rfl rfl (by simp [go_sem, List.take_of_length_le] <;> with_reducible rfl) rfl (by exact .cons (.im _ _) (.cons (Fz.fnL (.cons (Fz.box rfl rfl rfl rfl) (.cons (Fz.box rfl rfl rfl rfl) .nil))) .nil)) rfl ?_
  refine wk0 _ ?_
  refine Out.mk (xs := ?_) ?_ ?_ (by first | exact .inr rfl | exact .inl rfl)
  rotate_left
  · simp [go_sem, List.take_of_length_le] <;> with_reducible rfl
  exact .v _
theorem l1SameRule (a b : RuleT) (hx : a.2.length < 4611686018427387904) : Pure Try.prog 75 [.ag (ruleC a), .ag (ruleC b)] (.v (.bool (decide (a = b)))) := by
  refine Pure.mk (rs := [.tmp 4]) (nt := 17) Try.func75 (by kernel_rfl) rfl rfl rfl (by simp) ?_
  simp only [sl, ruleC]
  refine wk0 _ ?_
  refine GS.guard (t := 10) rfl (fun h1 => ?_) (fun h1 => ?_)
  · refine wk0 _ ?_
    refine GS.cc (l1Same a.2 b.2 hx) rfl rfl rfl rfl (by simp [go_sem, List.take_of_length_le] <;> with_reducible rfl) rfl (by simp [go_sem, List.take_of_length_le]) ?_
    refine wk0 _ ?_
    have : decide (a.2 = b.2) = decide (a = b) := by
      obtain ⟨a1, a2⟩ := a
      obtain ⟨b1, b2⟩ := b
      simp at h1
      simp [h1]
    simp only [this]
    refine Out.mk (xs := ?_) ?_ ?_ (by first | exact .inr rfl | exact .inl rfl)
    rotate_left
    · simp [go_sem, List.take_of_length_le] <;> with_reducible rfl
    exact .v _
  · have : ¬ a = b := by rintro rfl; simp at h1
    simp only [this, decide_false]
    refine wk0 _ ?_
    refine Out.mk (xs := ?_) ?_ ?_ (by first | exact .inr rfl | exact .inl rfl)
    rotate_left
    · simp [go_sem, List.take_of_length_le] <;> with_reducible rfl
    exact .v _
theorem sameRule (a b : RuleT) (hx : a.2.length < 4611686018427387904) : Pure Try.prog 82 [.ag (ruleC a), .ag (ruleC b)] (.v (.bool (decide (a = b)))) := by
  refine Pure.mk (rs := [.tmp 4]) (nt := 17) Try.func82 (by kernel_rfl) rfl rfl rfl (by simp) ?_
  simp only [sl, ruleC]
  refine wk0 _ ?_
  refine GS.guard (t := 10) rfl (fun h1 => ?_) (fun h1 => ?_)
  · refine wk0 _ ?_
    refine GS.cc (equalInts a.2 b.2 hx) rfl rfl rfl rfl (by simp [go_sem, List.take_of_length_le] <;> with_reducible rfl) rfl (by simp [go_sem, List.take_of_length_le]) ?_
    refine wk0 _ ?_
    have : decide (a.2 = b.2) = decide (a = b) := by
      obtain ⟨a1, a2⟩ := a
      obtain ⟨b1, b2⟩ := b
      simp at h1
      simp [h1]
    simp only [this]
    refine Out.mk (xs := ?_) ?_ ?_ (by first | exact .inr rfl | exact .inl rfl)
    rotate_left
    · simp [go_sem, List.take_of_length_le] <;> with_reducible rfl
    exact .v _
  · have : ¬ a = b := by rintro rfl; simp at h1
    simp only [this, decide_false]
    refine wk0 _ ?_
    refine Out.mk (xs := ?_) ?_ ?_ (by first | exact .inr rfl | exact .inl rfl)
    rotate_left
    · simp [go_sem, List.take_of_length_le] <;> with_reducible rfl
    exact .v _
theorem isGrammar1 (a b : RuleT) (hx : a.2.length < 4611686018427387904) : Pure Try.prog 81 [.ag (ruleC a), .pi (ruleC b)] (.v (.bool (decide (a = b)))) := by
  refine Pure.mk (rs := [.tmp 3]) (nt := 7) Try.func81 (by kernel_rfl) rfl rfl rfl (by simp) ?_
  simp only [sl, ruleC]
  refine wk0 _ ?_
  refine GS.cc (sameRule a b hx) rfl rfl rfl rfl (by simp [go_sem, List.take_of_length_le, ruleC] <;> with_reducible rfl) rfl (by simp [go_sem, List.take_of_length_le, ruleC]) ?_
  refine wk0 _ ?_
  refine Out.mk (xs := ?_) ?_ ?_ (by first | exact .inr rfl | exact .inl rfl)
  rotate_left
  · simp [go_sem, List.take_of_length_le] <;> with_reducible rfl
  exact .v _
end Go.Proofs.Ytejpklajfcngbaa.En
end
section
namespace Go.Proofs.Ytejpklajfcngbaa.En
open Go.RowKit
set_option linter.unusedSimpArgs false
set_option linter.unusedVariables false
set_option maxHeartbeats 4000000
theorem oAt (xs : List (List Int)) (r : List AV) : (intssO xs ++ [r])[xs.length]? = some r := by simp
theorem oApp (xs : List (List Int)) (q : List Int) : intssO xs ++ [[.ow 3 1 (ints q)]] = intssO (xs ++ [q]) := by simp [intssO, intsO1]
end Go.Proofs.Ytejpklajfcngbaa.En
end
section
namespace Go.Proofs.Ytejpklajfcngbaa.En
open Go.RowKit Go.Shelf Go.Sort
set_option linter.unusedSimpArgs false
set_option linter.unusedVariables false
set_option linter.unusedSectionVars false
set_option maxHeartbeats 4000000
theorem RelX.retell {C : Ctx} {a : Act} {w : World} {S : Nat → Prop} {Ow : Owners} {L : Names} {te : TypeId} {z : Nat} (h : RelX C ⟨[], [(0, ⟨te, z, []⟩)], 1⟩ a w S Ow L) (f : Path → Path) (hf : ∀ p, (f p).head? = p.head?) (rows : List (List AV)) (loc : Loc) (hL : L 0 = .at loc) (hB : BlkRep w S (fun k => (Ow k).map f) L 0 ⟨te, z, rows⟩ loc) : RelX C ⟨[], [(0, ⟨te, z, rows⟩)], 1⟩ a w S (fun k => (Ow k).map f) L := by
  have key : ∀ k n q, (Ow k).map f = some (n :: q) → ∃ q', Ow k = some (n :: q') := fun k n q e => by
    cases ho : Ow k with
    | none => rw [ho] at e; cases e
    | some p =>
      rw [ho] at e
      simp only [Option.map_some, Option.some.injEq] at e
      have := hf p
      rw [e] at this
      cases p with
      | nil => cases this
      | cons m r =>
        simp only [List.head?_cons, Option.some.injEq] at this
        exact ⟨r, by rw [this]⟩
  refine { fix := h.fix, keep := h.keep, inS := h.inS, upS := h.upS, ltS := h.ltS, owS := fun k hk => by simp [h.owS k hk], ow := fun k p hp => ?_, ow0 := fun k q hq => ?_, blk := fun n k hn => ?_, fresh := h.fresh, named := h.named, freshO := fun k n q hq => ?_, slot := fun t x hx => (by cases hx), size := h.size, defers := h.defers }
  · cases ho : Ow k with
    | none => rw [ho] at hp; cases hp
    | some p' => exact h.ow k p' ho
  · obtain ⟨q', e⟩ := key k 0 q hq
    exact h.ow0 k q' e
  · simp only [lb] at hn
    split at hn
    · rename_i e
      cases hn
      subst e
      exact ⟨loc, hL, hB⟩
    · cases hn
  · obtain ⟨q', e⟩ := key k n q hq
    exact h.freshO k n q' e
def rowsOw (ti : TypeId) (xs : List (List Int)) : List (List AV) := xs.map fun x => [.ow ti 1 (ints x)]
@[simp] theorem rowsOw_len (ti : TypeId) (xs : List (List Int)) : (rowsOw ti xs).length = xs.length := by simp [rowsOw]
theorem rowsOw_row {ti : TypeId} {xs : List (List Int)} {j : Nat} {row : List AV} (h : (rowsOw ti xs)[j]? = some row) : ∃ x, xs[j]? = some x ∧ row = [.ow ti 1 (ints x)] := by
  simp only [rowsOw, List.getElem?_map, Option.map_eq_some_iff] at h
  obtain ⟨x, h1, h2⟩ := h
  exact ⟨x, h1, h2.symm⟩
theorem Rep.owIm {w w2 : World} {S S2 : Nat → Prop} {Ow : Owners} {L : Names} {p : Path} {ti : TypeId} {x : List Int} {u : Value} (h : Rep w S Ow L p (.ow ti 1 (ints x)) u) (hs : w.heap.size ≤ w2.heap.size) (hS : ∀ k, Ow k = some p → S2 k) (hk : ∀ k, Ow k = some p → k < w.heap.size ∧ w2.heap[k]? = w.heap[k]?) : Rep w2 S2 noOwner noName [] (.im 1 (ints x)) u ∧ u.oneCell' = true := by
  generalize hr : ints x = rows at h
  cases h with
  | ow _ _ _ b o cap cs us ho hh hs' hc hz hcell hrep =>
    subst hr
    refine ⟨?_, rfl⟩
    obtain ⟨h1, h2⟩ := hk b ho
    refine .im 1 (ints x) (some ⟨b, o * 1, none⟩) cap ⟨b, o * 1, none⟩ us hc (fun _ => rfl) (fun _ => ⟨hS b ho, Nat.lt_of_lt_of_le h1 hs, rfl⟩) hz (fun j row i y hj hi => ?_) (fun j row i y hj hi => ?_)
    · have := hcell j row i y hj hi
      have e : o * 1 + (j * 1 + i) = (o + j) * 1 + i := by omega
      simp only [World.cell?, h2, hh, Option.isSome_none, Bool.false_eq_true, if_false, e, this]
    · have hv := hrep j row i y hj hi
      simp only [ints, List.getElem?_map, Option.map_eq_some_iff] at hj
      obtain ⟨n, _, rfl⟩ := hj
      have hi0 : i = 0 := by
        have := (List.getElem?_eq_some_iff.1 hi).1
        simpa using this
      subst hi0
      simp only [List.getElem?_cons_zero, Option.some.injEq] at hi
      subst hi
      obtain ⟨e, _⟩ := hv.v_inv
      rw [e]
      exact .v _ rfl
  | ow_nil _ _ A =>
    exact ⟨.im 1 [] A 0 ⟨0, 0, none⟩ (fun _ _ => undef) (Nat.le_refl 0) (fun hx => absurd rfl hx) (fun hx => absurd rfl hx) (fun j row hj => by simp at hj) (fun j row i y hj => by simp at hj) (fun j row i y hj => by simp at hj), rfl⟩
theorem ofFn_map (xs : List (List Int)) : (List.ofFn fun i : Fin xs.length => i).map (fun i => xs[i.val]) = xs := by
  apply List.ext_getElem?
  intro j
  by_cases hj : j < xs.length
  · simp [hj]
  · rw [List.getElem?_eq_none (by simp; omega), List.getElem?_eq_none (by omega)]
def wentTo (n : Nat) (π : Nat → Nat) (j : Nat) : Nat := ((List.range n).find? fun i => π i == j).getD j
theorem wentTo_at {n : Nat} {π : Nat → Nat} (hinj : ∀ i j, i < n → j < n → π i = π j → i = j) {j : Nat} (hj : j < n) : wentTo n π (π j) = j := by
  unfold wentTo
  cases h : (List.range n).find? fun i => π i == π j with
  | none =>
    rw [List.find?_eq_none] at h
    exact absurd (by simp) (h j (List.mem_range.2 hj))
  | some i =>
    have h1 := List.find?_some h
    have h2 := List.mem_range.1 (List.mem_of_find?_eq_some h)
    exact hinj i j h2 hj (by simpa using h1)
theorem nodup_inj {α : Type} {l : List α} (h : l.Nodup) {i j : Nat} {x : α} (hi : l[i]? = some x) (hj : l[j]? = some x) : i = j := by
  obtain ⟨hi1, hi2⟩ := List.getElem?_eq_some_iff.1 hi
  obtain ⟨hj1, hj2⟩ := List.getElem?_eq_some_iff.1 hj
  rw [List.nodup_iff_pairwise_ne, List.pairwise_iff_getElem] at h
  rcases Nat.lt_trichotomy i j with g | g | g
  · exact absurd (hi2.trans hj2.symm) (h i j hi1 hj1 g)
  · exact g
  · exact absurd (hj2.trans hi2.symm) (h j i hj1 hi1 g)
theorem sortOwn {P : Program} {ρ : Go.Shelf.Ren} (L0 : SlLaysF.n6 P ρ) (L1 : SlLaysF0.n6 P ρ) (hE : Ent P (ρ.f 6)) (cf : List Int → List Int → Int) (hO : SWO (ltOf cf)) (hT : ∀ x y, (ltOf cf) x y = false → (ltOf cf) y x = false → x = y) (te ti : TypeId) (xs : List (List Int)) (hx : xs.length < 4611686018427387904) (hnd : xs.Nodup) (g : FuncId) (hge : Ent P g) (hg : ∀ x ∈ xs, ∀ y ∈ xs, Pure P g [.im 1 (ints x), .im 1 (ints y)] (.v (.int .i64 (cf x y)))) :
    Fn P (ρ.f 6) 1 [.own 0 1 0 xs.length, .fn g []] [(0, ⟨te, 1, rowsOw ti xs⟩)] (.tu []) 1 [(0, ⟨te, 1, rowsOw ti (sortedBy cf xs)⟩)] := by
  unfold Fn
  refine ⟨hE, fun W X S Ow L us hR hl hrep => ?_⟩
  obtain ⟨u, uf, rfl⟩ : ∃ u uf, us = [u, uf] := by
    match us, hl with
    | [u, uf], _ => exact ⟨u, uf, rfl⟩
  have hu := hrep 0 _ u rfl rfl
  obtain ⟨fs, rfl, hfl, _⟩ := (hrep 1 _ uf rfl rfl).fn_inv
  have hfs : fs = [] := List.length_eq_zero_iff.1 hfl
  subst hfs
  have same : xs.length = 0 → (Calls P (ρ.f 6) [u, .func (.func g) #[] #[]].toArray W fun e w' => e = Ending.returned (Value.tuple #[]) ∧ w' = W) → Calls P (ρ.f 6) [u, .func (.func g) #[] #[]].toArray W fun e w' => ∃ v, e = .returned v ∧ ∃ S' Ow' L', RelX ⟨W, X, S, ⟨0, 1⟩, fixOf 1 L⟩ ⟨[], [(0, ⟨te, 1, rowsOw ti (sortedBy cf xs)⟩)], 1⟩ a0 w' S' Ow' L' ∧ Rep w' S' Ow' L' [0] (.tu []) v := by
    intro h0 hc cs
    obtain ⟨e, w', fr, ⟨rfl, rfl⟩, rest⟩ := hc cs
    have hx0 : xs = [] := List.length_eq_zero_iff.1 h0
    subst hx0
    rw [show sortedBy cf [] = [] by simp [sortedBy]]
    exact ⟨_, _, fr, ⟨_, rfl, S, Ow, L, hR, .tu [] [] rfl (fun i x u hx hu => by simp at hx)⟩, rest⟩
  have hn : ∀ (p : Option Addr) (cap : Nat), Calls P (ρ.f 6) #[.slice p 0 cap, .func (.func g) #[] #[]] W fun e w' => e = Ending.returned (Value.tuple #[]) ∧ w' = W := fun p cap => AnyF.slices_SortFunc_none L1 p cap _ W
  by_cases h0 : xs.length = 0
  · rcases own_inv hu with ⟨b, o, cap, hL, hle, rfl⟩ | ⟨b, o, cap, ad, hL, hoff, hlen, rfl⟩ | ⟨hL, _, hlen, A, rfl⟩ | hL
    · exact same h0 (by have := hn (some ⟨b, (o + 0) * 1, none⟩) (cap - 0); simpa [h0] using this)
    · exact same h0 (by have := hn (some ad) 0; simpa [hlen] using this)
    · exact same h0 (by have := hn A 0; simpa [hlen] using this)
    · obtain ⟨loc, hl0, hB⟩ := hR.blk 0 _ rfl
      rw [hL] at hl0
      cases hl0
  haveI : Inhabited (Fin xs.length) := ⟨⟨0, by omega⟩⟩
  rcases own_inv hu with ⟨b, o, cap, hL, hle, rfl⟩ | ⟨b, o, cap, ad, hL, hoff, hlen, rfl⟩ | ⟨hL, _, hlen, A, rfl⟩ | hL
  case inr.inl => exact absurd hlen h0
  case inr.inr.inl => exact absurd hlen h0
  case inr.inr.inr =>
    obtain ⟨loc, hl0, hB⟩ := hR.blk 0 _ rfl
    rw [hL] at hl0
    cases hl0
  obtain ⟨loc, hl0, hB⟩ := hR.blk 0 _ rfl
  rw [hL] at hl0
  cases hl0
  obtain ⟨hOb, cs, us, hc, hs, hle', hrow, hcell, hrep'⟩ := hB
  simp only [rowsOw_len, Nat.mul_one] at hs hle'
  have hblk : b < W.heap.size := (Array.getElem?_eq_some_iff.1 hc).1
  -- the cells
  have hcj : ∀ j x, xs[j]? = some x → cs[o + j]? = some (us j 0) ∧ Rep W S Ow L [1, j, 0] (.ow ti 1 (ints x)) (us j 0) := fun j x hj => by
    have hrj : (rowsOw ti xs)[j]? = some [.ow ti 1 (ints x)] := by simp [rowsOw, hj]
    have h1 := hcell j _ 0 _ hrj rfl
    have h2 := hrep' j _ 0 _ hrj rfl
    refine ⟨?_, h2⟩
    have e : (o + j) * 1 + 0 = o + j := by omega
    rw [← e]; exact h1
  let enc : Fin xs.length → Value := fun i => us i.val 0
  let cfF : Fin xs.length → Fin xs.length → Int := fun i j => cf xs[i.val] xs[j.val]
  have hOF : SWO (ltOf cfF) := ⟨fun i => hO.irrefl xs[i.val], fun i j k => hO.trans xs[i.val] xs[j.val] xs[k.val], fun i j k => hO.ntrans xs[i.val] xs[j.val] xs[k.val]⟩
  have hTF : ∀ i j, (ltOf cfF) i j = false → (ltOf cfF) j i = false → i = j := fun i j h1 h2 => by
    have he := hT xs[i.val] xs[j.val] h1 h2
    exact Fin.ext (nodup_inj hnd (List.getElem?_eq_getElem i.isLt) ((List.getElem?_eq_getElem j.isLt).trans (congrArg some he.symm)))
  have h1c : OneCell enc := fun i => by
    have := (hcj i.val _ (List.getElem?_eq_getElem i.isLt)).2
    exact (this.owIm (w2 := W) (S2 := fun _ => True) (Nat.le_refl _) (fun _ _ => trivial) fun k hk => ⟨(hR.ow k _ hk).2, rfl⟩).2
  obtain ⟨d, hd⟩ : ∃ d, d = (List.ofFn fun i : Fin xs.length => i) := ⟨_, rfl⟩
  have hdl : d.length = xs.length := by rw [hd]; simp
  have hdg : ∀ j (h : j < xs.length), d[j]? = some ⟨j, h⟩ := fun j h => by rw [hd]; simp [h]
  have hH : Go.Sort.Holds enc W b (o * 1) d.toArray := by
    intro j hj
    have hj' : j < xs.length := by simpa [hdl] using hj
    have h1 := (hcj j _ (List.getElem?_eq_getElem hj')).1
    have hdj : d.toArray[j]! = ⟨j, hj'⟩ := by
      rw [getElem!_pos _ j hj]
      have := hdg j hj'
      simpa using (List.getElem?_eq_some_iff.1 this).2
    refine ⟨?_, ?_⟩
    · have e : o * 1 + j = o + j := by omega
      simp only [World.cell?, hc, Option.isSome_none, Bool.false_eq_true, if_false, e, h1, hdj]
      rfl
    · simp [World.frozen?, hc]
  have hC : CmpLays1 P g #[] enc cfF b (o * 1) d.toArray.size W := by
    intro m os dk _ i j
    have hP := hg xs[i.val] (List.getElem_mem i.isLt) xs[j.val] (List.getElem_mem j.isLt)
    unfold Pure at hP
    have hold : ∀ k, k ≠ b → k < W.heap.size → (sortWorld enc W b (o * 1) m dk os).heap[k]? = W.heap[k]? := fun k hk hks => by
      have : k < (putRow enc (Go.Sort.ahead W m) b (o * 1) dk).heap.size := by simp [putRow, mapBlock, Go.Sort.ahead]; exact hks
      show ((putRow enc (Go.Sort.ahead W m) b (o * 1) dk).heap ++ os)[k]? = _
      rw [Array.getElem?_append_left this]
      simp [putRow, mapBlock, Go.Sort.ahead, Array.getElem?_modify, Ne.symm hk]
    have hsz : W.heap.size ≤ (sortWorld enc W b (o * 1) m dk os).heap.size := by
      show W.heap.size ≤ ((putRow enc (Go.Sort.ahead W m) b (o * 1) dk).heap ++ os).size
      simp [putRow, mapBlock, Go.Sort.ahead]
    let S2 : Nat → Prop := fun k => ∃ j, Ow k = some [1, j, 0]
    have hS2 : ∀ k j, Ow k = some [1, j, 0] → k < W.heap.size ∧ (sortWorld enc W b (o * 1) m dk os).heap[k]? = W.heap[k]? := fun k j hk => ⟨(hR.ow k _ hk).2, hold k (fun e => by subst e; rw [hOb] at hk; cases hk) (hR.ow k _ hk).2⟩
    have rep : ∀ i : Fin xs.length, Rep (sortWorld enc W b (o * 1) m dk os) S2 noOwner noName [] (.im 1 (ints xs[i.val])) (enc i) := fun i =>
      ((hcj i.val _ (List.getElem?_eq_getElem i.isLt)).2.owIm hsz (fun k hk => ⟨i.val, hk⟩) fun k hk => hS2 k i.val hk).1
    refine Calls.mono (hP.2 (sortWorld enc W b (o * 1) m dk os) S2 [enc i, enc j] (fun k ⟨j, hk⟩ => Nat.lt_of_lt_of_le (hS2 k j hk).1 hsz) rfl fun q a u ha hu => ?_) fun e w' => ?_
    · match q, ha, hu with
      | 0, ha, hu => cases ha; cases hu; exact rep i
      | 1, ha, hu => cases ha; cases hu; exact rep j
      | n + 2, ha, hu => simp at ha
    · rintro ⟨v, rfl, hb, S', _, _, hv⟩
      obtain ⟨rfl, _⟩ := hv.v_inv
      exact ⟨rfl, belowD_grow hb⟩
  have hcall := Any.slices_SortFunc_total L0 enc h1c cfF hOF g #[] b (o * 1) cap d.toArray W (fun args w => run_call hge) hC hH hblk (by simpa [hdl] using hx) hTF
  intro cs'
  obtain ⟨e, w', fr, ⟨rfl, n, os, rfl⟩, rest⟩ := hcall cs'
  rw [List.toList_toArray] at rest
  obtain ⟨srt, hsrt⟩ : ∃ srt, srt = d.mergeSort fun x y => !(ltOf cfF) y x := ⟨_, rfl⟩
  rw [← hsrt] at rest
  have hdm : d.map (fun i => xs[i.val]) = xs := by
    have := ofFn_map xs
    rwa [← hd] at this
  have hmap : srt.map (fun i => xs[i.val]) = sortedBy cf xs := by
    have hm := List.map_mergeSort (r := fun i j => !(ltOf cfF) j i) (s := fun x y => !(ltOf cf) y x) (f := fun i : Fin xs.length => xs[i.val]) (l := d) (fun a _ b _ => rfl)
    rw [hsrt]
    refine hm.trans ?_
    exact congrArg (fun l : List (List Int) => l.mergeSort fun x y => !(ltOf cf) y x) hdm
  have hsl : srt.length = xs.length := by rw [hsrt, List.length_mergeSort, hdl]
  have hsn : (sortedBy cf xs).Nodup := (List.mergeSort_perm _ _).nodup_iff.2 hnd
  let π : Nat → Nat := fun j => ((srt[j]?).map (·.val)).getD 0
  have hπ : ∀ j, j < xs.length → ∃ i : Fin xs.length, srt[j]? = some i ∧ π j = i.val := fun j hj => by
    have h : srt[j]? = some srt[j] := List.getElem?_eq_getElem (by omega)
    exact ⟨_, h, by show ((srt[j]?).map (·.val)).getD 0 = _; rw [h]; rfl⟩
  have hsx : ∀ j (i : Fin xs.length), srt[j]? = some i → (sortedBy cf xs)[j]? = some xs[i.val] := fun j i hj => by
    rw [← hmap, List.getElem?_map, hj]; rfl
  have hinj : ∀ i j, i < xs.length → j < xs.length → π i = π j → i = j := fun i j hi hj he => by
    obtain ⟨p, h1, h2⟩ := hπ i hi
    obtain ⟨q, h3, h4⟩ := hπ j hj
    have hpq : p = q := Fin.ext (by rw [← h2, ← h4, he])
    subst hpq
    exact nodup_inj hsn (hsx i p h1) (hsx j p h3)
  let f : Path → Path := fun p => match p with
    | 1 :: j :: q => 1 :: wentTo xs.length π j :: q
    | p => p
  have hf : ∀ p, (f p).head? = p.head? := fun p => by
    show (match p with | 1 :: j :: q => 1 :: wentTo xs.length π j :: q | p => p).head? = p.head?
    split <;> rfl
  have hlenS : (sortedBy cf xs).length = xs.length := by simp
  have hheap : (putRow enc (Go.Sort.ahead W n) b (o * 1) srt.toArray).heap[b]? = some (.cells (putCells enc (o * 1) srt.toArray cs) te (0, 0)) := by
    have h3 : W.heap[b]? = _ := hc
    simp [putRow, mapBlock, Go.Sort.ahead, Array.getElem?_modify, h3, onCells]
  have hold : ∀ k, k ≠ b → k < W.heap.size → (sortWorld enc W b (o * 1) n srt.toArray os).heap[k]? = W.heap[k]? := fun k hk hks => by
    have : k < (putRow enc (Go.Sort.ahead W n) b (o * 1) srt.toArray).heap.size := by simp [putRow, mapBlock, Go.Sort.ahead]; exact hks
    show ((putRow enc (Go.Sort.ahead W n) b (o * 1) srt.toArray).heap ++ os)[k]? = _
    rw [Array.getElem?_append_left this]
    simp [putRow, mapBlock, Go.Sort.ahead, Array.getElem?_modify, Ne.symm hk]
  have hszW : W.heap.size ≤ (sortWorld enc W b (o * 1) n srt.toArray os).heap.size := by
    show W.heap.size ≤ ((putRow enc (Go.Sort.ahead W n) b (o * 1) srt.toArray).heap ++ os).size
    simp [putRow, mapBlock, Go.Sort.ahead]
  refine ⟨_, sortWorld enc W b (o * 1) n srt.toArray os, fr, ⟨_, rfl, S, fun k => (Ow k).map f, L, ?_, .tu [] [] rfl (fun i x u hx hu => by simp at hx)⟩, ?_⟩
  · have h1' := hR.drawn (w' := Go.Sort.ahead W n) rfl rfl rfl rfl
    have h2 := h1'.write 0 _ ⟨te, 1, []⟩ b o cap hL rfl (putRow enc (Go.Sort.ahead W n) b (o * 1) srt.toArray) rfl rfl rfl (by simp [putRow, mapBlock]) (fun c hcb => by simp [putRow, mapBlock, Array.getElem?_modify, Ne.symm hcb])
      (fun hB1 _ => ⟨hOb, putCells enc (o * 1) srt.toArray cs, fun _ _ => undef, hheap, by simp [putCells, hs], Nat.zero_le _, fun j row h => by simp at h, fun j row i x h => by simp at h, fun j row i x h => by simp at h⟩)
    have h3 := h2.grown (w' := sortWorld enc W b (o * 1) n srt.toArray os) ⟨⟨rfl, rfl, rfl, by simp [sortWorld, Go.Sort.grow], fun k hk => Array.getElem?_append_left hk⟩, Nat.le_refl _⟩
    refine RelX.retell h3 f hf _ (some (b, o, cap)) hL ⟨?_, putCells enc (o * 1) srt.toArray cs, fun j _ => us (π j) 0, ?_, by simp [putCells, hs], by simp only [rowsOw_len]; omega, ?_, ?_, ?_⟩
    · show (Ow b).map f = some [1]
      rw [hOb]; rfl
    · show ((putRow enc (Go.Sort.ahead W n) b (o * 1) srt.toArray).heap ++ os)[b]? = _
      rw [Array.getElem?_append_left (by simp [putRow, mapBlock, Go.Sort.ahead]; exact hblk)]
      exact hheap
    · intro j row hj
      obtain ⟨x, _, rfl⟩ := rowsOw_row hj
      rfl
    · intro j row i x hj hi
      obtain ⟨y, hy, rfl⟩ := rowsOw_row hj
      have hjl : j < xs.length := by have := (List.getElem?_eq_some_iff.1 hy).1; omega
      have hi0 : i = 0 := by
        have := (List.getElem?_eq_some_iff.1 hi).1
        simpa using this
      subst hi0
      obtain ⟨p, h1, h2⟩ := hπ j hjl
      have hlt : (o + j) * 1 + 0 < cs.size := by rw [hs]; omega
      dsimp only
      simp only [putCells, Array.getElem?_mapIdx, Array.getElem?_eq_getElem hlt, Option.map_some, Option.some.injEq, List.size_toArray]
      rw [if_pos ⟨by omega, by omega⟩, show (o + j) * 1 + 0 - o * 1 = j by omega]
      have hg2 : srt.toArray[j]! = p := by
        rw [getElem!_pos _ j (by simp; omega)]
        simpa using (List.getElem?_eq_some_iff.1 h1).2
      rw [hg2, h2]
    · intro j row i x hj hi
      obtain ⟨y, hy, rfl⟩ := rowsOw_row hj
      have hjl : j < xs.length := by have := (List.getElem?_eq_some_iff.1 hy).1; omega
      have hi0 : i = 0 := by
        have := (List.getElem?_eq_some_iff.1 hi).1
        simpa using this
      subst hi0
      simp only [List.getElem?_cons_zero, Option.some.injEq] at hi
      subst hi
      obtain ⟨p, h1, h2⟩ := hπ j hjl
      have hyx : y = xs[p.val] := by
        have := hsx j p h1
        rw [hy] at this
        exact Option.some.inj this
      subst hyx
      have hr0 := (hcj p.val _ (List.getElem?_eq_getElem p.isLt)).2
      dsimp only
      rw [h2]
      refine (hr0.names (L' := L) (p' := [1, j, 0]) (Ow' := fun k => (Ow k).map f) (fun _ => .inr (.inl rfl)) fun k q hq => ?_).world hszW (fun _ h => h) (fun k hk => hold k (fun e => by subst e; rw [hR.owS _ hk] at hOb; cases hOb) (hR.ltS k hk)) fun k q hq => ?_
      · show (Ow k).map f = some ([1, j, 0] ++ q)
        rw [hq]
        show some (1 :: wentTo xs.length π p.val :: 0 :: q) = _
        rw [← h2, wentTo_at hinj hjl]
        rfl
      · cases ho : Ow k with
        | none => rw [ho] at hq; cases hq
        | some p' =>
          refine hold k (fun e => ?_) (hR.ow k p' ho).2
          subst e
          rw [hOb] at hq
          cases hq
  · have e := rest
    simp only [hsl, hdl, List.size_toArray, Nat.add_zero, Nat.sub_zero] at e ⊢
    exact e
end Go.Proofs.Ytejpklajfcngbaa.En
end
section
namespace Go.Proofs.Ytejpklajfcngbaa.En
open Go.RowKit
set_option linter.unusedSimpArgs false
set_option linter.unusedVariables false
set_option maxHeartbeats 4000000
def cmpI (x y : Int) : Int := if x < y then -1 else if y < x then 1 else 0
theorem isNaNI (x : Int) : Pure Try.prog 138 [.v (.int .i64 x)] (.v (.bool false)) := by
  refine Pure.mk (rs := [.tmp 2]) (nt := 6) Try.func138 (by kernel_rfl) rfl rfl rfl (by simp) ?_
  simp only [sl]
  have h : (x == x) = true := by simp
  refine wkc (@h) _ ?_
  refine Out.mk (xs := ?_) ?_ ?_ (by first | exact .inr rfl | exact .inl rfl)
  rotate_left
  · simp [go_sem, List.take_of_length_le] <;> with_reducible rfl
  exact .v _
theorem compareInt (x y : Int) : Pure Try.prog 110 [.v (.int .i64 x), .v (.int .i64 y)] (.v (.int .i64 (cmpI x y))) := by
  have c1 := isNaNI x
  have c2 := isNaNI y
  unfold cmpI
  refine Pure.mk (rs := [.tmp 4]) (nt := 20) Try.func110 (by kernel_rfl) rfl rfl rfl (by simp) ?_
  simp only [sl]
  refine wkc0 _ ?_
  refine GS.cc (c1) rfl rfl rfl rfl (by simp [go_sem, List.take_of_length_le] <;> with_reducible rfl) rfl (by simp [go_sem, List.take_of_length_le]) ?_
  refine wkc0 _ ?_
  refine GS.cc (c2) rfl rfl rfl rfl (by simp [go_sem, List.take_of_length_le] <;> with_reducible rfl) rfl (by simp [go_sem, List.take_of_length_le]) ?_
  refine wkc0 _ ?_
  by_cases h1 : x < y
  · rw [if_pos h1]
    have h1' : decide (x < y) = true := by simp [h1]
    refine wkc (And.intro @h1' (@h1)) _ ?_
    refine Out.mk (xs := ?_) ?_ ?_ (by first | exact .inr rfl | exact .inl rfl)
    rotate_left
    · simp [go_sem, List.take_of_length_le] <;> with_reducible rfl
    exact .v _
  · rw [if_neg h1]
    have h1' : decide (x < y) = false := by simp [h1]
    by_cases h2 : y < x
    · rw [if_pos h2]
      refine wkc (And.intro @h1' (And.intro @h1 (@h2))) _ ?_
      refine Out.mk (xs := ?_) ?_ ?_ (by first | exact .inr rfl | exact .inl rfl)
      rotate_left
      · simp [go_sem, List.take_of_length_le] <;> with_reducible rfl
      exact .v _
    · rw [if_neg h2]
      refine wkc (And.intro @h1' (And.intro @h1 (@h2))) _ ?_
      refine Out.mk (xs := ?_) ?_ ?_ (by first | exact .inr rfl | exact .inl rfl)
      rotate_left
      · simp [go_sem, List.take_of_length_le] <;> with_reducible rfl
      exact .v _
end Go.Proofs.Ytejpklajfcngbaa.En
end
section
namespace Go.Proofs.Ytejpklajfcngbaa.En
open Go.RowKit Go.Shelf
set_option linter.unusedSimpArgs false
set_option linter.unusedVariables false
set_option maxHeartbeats 4000000
def sortO_ren : Go.Shelf.Ren := ⟨fun | 6 => 69 | 15 => 109 | 14 => 108 | 28 => 136 | 29 => 137 | 20 => 128 | 21 => 129 | 22 => 130 | 23 => 131 | 24 => 132 | 25 => 133 | 26 => 134 | 27 => 135 | 46 => 153 | 47 => 154 | 48 => 155 | 49 => 156 | 50 => 157 | 57 => 175 | n => n, fun | 22 => 40 | 24 => 26 | 25 => 98 | 3 => 3 | 39 => 131 | 0 => 0 | 53 => 158 | 55 => 74 | 4 => 4 | 46 => 152 | 45 => 151 | 50 => 47 | 5 => 5 | 9 => 9 | 66 => 167 | 70 => 171 | 76 => 182 | 77 => 183 | n => n, fun n => n⟩
theorem sortO : Go.Proofs.SlLaysF.n6 Try.prog sortO_ren where
  mixed := by kernel_rfl
  f6 := ⟨Try.f69.name, by kernel_rfl, Try.func69.trans (congrArg some (by kernel_rfl))⟩
  f14 := ⟨Try.f108.name, by kernel_rfl, Try.func108.trans (congrArg some (by kernel_rfl))⟩
  f15 := Try.func109.trans (congrArg some (by kernel_rfl))
  f20 := ⟨Try.f128.name, by kernel_rfl, Try.func128.trans (congrArg some (by kernel_rfl))⟩
  f21 := ⟨Try.f129.name, by kernel_rfl, Try.func129.trans (congrArg some (by kernel_rfl))⟩
  f22 := ⟨Try.f130.name, by kernel_rfl, Try.func130.trans (congrArg some (by kernel_rfl))⟩
  f23 := ⟨Try.f131.name, by kernel_rfl, Try.func131.trans (congrArg some (by kernel_rfl))⟩
  f24 := ⟨Try.f132.name, by kernel_rfl, Try.func132.trans (congrArg some (by kernel_rfl))⟩
  f25 := ⟨Try.f133.name, by kernel_rfl, Try.func133.trans (congrArg some (by kernel_rfl))⟩
  f26 := ⟨Try.f134.name, by kernel_rfl, Try.func134.trans (congrArg some (by kernel_rfl))⟩
  f27 := ⟨Try.f135.name, by kernel_rfl, Try.func135.trans (congrArg some (by kernel_rfl))⟩
  f28 := Try.func136.trans (congrArg some (by kernel_rfl))
  f29 := Try.func137.trans (congrArg some (by kernel_rfl))
  f46 := ⟨Try.f153.name, by kernel_rfl, Try.func153.trans (congrArg some (by kernel_rfl))⟩
  f47 := Try.func154.trans (congrArg some (by kernel_rfl))
  f48 := Try.func155.trans (congrArg some (by kernel_rfl))
  f49 := ⟨Try.f156.name, by kernel_rfl, Try.func156.trans (congrArg some (by kernel_rfl))⟩
  f50 := ⟨Try.f157.name, by kernel_rfl, Try.func157.trans (congrArg some (by kernel_rfl))⟩
  f57 := ⟨Try.f175.name, by kernel_rfl, Try.func175.trans (congrArg some (by kernel_rfl))⟩
  t0 := Try.underlying0
  a0 := Try.isAgg0
  z0 := Try.sizeOf0
  v0 := Try.zeroValue0
  t3 := Try.underlying3
  a3 := Try.isAgg3
  z3 := Try.sizeOf3
  v3 := Try.zeroValue3
  t4 := Try.underlying4
  a4 := Try.isAgg4
  z4 := Try.sizeOf4
  v4 := Try.zeroValue4
  t5 := Try.underlying5
  a5 := Try.isAgg5
  z5 := Try.sizeOf5
  v5 := Try.zeroValue5
  t9 := Try.underlying9
  a9 := Try.isAgg9
  z9 := Try.sizeOf9
  v9 := Try.zeroValue9
  t22 := Try.underlying40
  a22 := Try.isAgg40
  z22 := Try.sizeOf40
  v22 := Try.zeroValue40
  a24 := Try.isAgg26
  z24 := Try.sizeOf26
  t25 := Try.underlying98
  a25 := Try.isAgg98
  z25 := Try.sizeOf98
  v25 := Try.zeroValue98
  t39 := Try.underlying131
  a39 := Try.isAgg131
  z39 := Try.sizeOf131
  v39 := Try.zeroValue131
  t45 := Try.underlying151
  a45 := Try.isAgg151
  z45 := Try.sizeOf151
  v45 := Try.zeroValue151
  t46 := Try.underlying152
  a46 := Try.isAgg152
  z46 := Try.sizeOf152
  v46 := Try.zeroValue152
  t50 := Try.underlying47
  a50 := Try.isAgg47
  z50 := Try.sizeOf47
  v50 := Try.zeroValue47
  t53 := Try.underlying158
  a53 := Try.isAgg158
  z53 := Try.sizeOf158
  v53 := Try.zeroValue158
  t55 := Try.underlying74
  a55 := Try.isAgg74
  z55 := Try.sizeOf74
  v55 := Try.zeroValue74
  t66 := Try.underlying167
  a66 := Try.isAgg167
  z66 := Try.sizeOf167
  v66 := Try.zeroValue167
  t70 := Try.underlying171
  a70 := Try.isAgg171
  z70 := Try.sizeOf171
  v70 := Try.zeroValue171
  t76 := Try.underlying182
  a76 := Try.isAgg182
  z76 := Try.sizeOf182
  v76 := Try.zeroValue182
  t77 := Try.underlying183
  a77 := Try.isAgg183
  z77 := Try.sizeOf183
  v77 := Try.zeroValue183
def cmpRow : List Int → List Int → Int
  | [], [] => 0
  | [], _ :: _ => -1
  | _ :: _, [] => 1
  | a :: x, b :: y => if a < b then -1 else if b < a then 1 else cmpRow x y
theorem cmpRow_self : ∀ x : List Int, cmpRow x x = 0
  | [] => rfl
  | a :: x => by
    have := cmpRow_self x
    unfold cmpRow
    rw [if_neg (by omega), if_neg (by omega), this]
theorem cmpRow_zero : ∀ x y : List Int, cmpRow x y = 0 → x = y
  | [], [], _ => rfl
  | [], _ :: _, h => by simp [cmpRow] at h
  | _ :: _, [], h => by simp [cmpRow] at h
  | a :: x, b :: y, h => by
    unfold cmpRow at h
    split at h
    · omega
    · split at h
      · omega
      · rw [cmpRow_zero x y h, show a = b by omega]
theorem cmpRow_anti : ∀ x y : List Int, cmpRow x y = - cmpRow y x
  | [], [] => rfl
  | [], _ :: _ => rfl
  | _ :: _, [] => rfl
  | a :: x, b :: y => by
    have := cmpRow_anti x y
    unfold cmpRow
    by_cases h1 : a < b
    · rw [if_pos h1, if_neg (show ¬ b < a by omega), if_pos h1]
    · by_cases h2 : b < a
      · rw [if_neg h1, if_pos h2, if_pos h2]; rfl
      · rw [if_neg h1, if_neg h2, if_neg h2, if_neg h1, this]
theorem cmpRow_trans : ∀ x y z : List Int, cmpRow x y < 0 → cmpRow y z < 0 → cmpRow x z < 0
  | [], [], z, h, _ => by simp [cmpRow] at h
  | _ :: _, [], z, h, _ => by simp [cmpRow] at h
  | x, _ :: _, [], _, h => by simp [cmpRow] at h
  | [], _ :: _, _ :: _, _, _ => by simp [cmpRow]
  | a :: x, b :: y, c :: z, h1, h2 => by
    have ih := cmpRow_trans x y z
    unfold cmpRow at h1 h2 ⊢
    by_cases p1 : a < b
    · by_cases p2 : b < c
      · rw [if_pos (show a < c by omega)]; omega
      · rw [if_neg p2] at h2
        by_cases p3 : c < b
        · rw [if_pos p3] at h2; omega
        · rw [if_pos (show a < c by omega)]; omega
    · rw [if_neg p1] at h1
      by_cases q1 : b < a
      · rw [if_pos q1] at h1; omega
      · rw [if_neg q1] at h1
        by_cases p2 : b < c
        · rw [if_pos (show a < c by omega)]; omega
        · rw [if_neg p2] at h2
          by_cases p3 : c < b
          · rw [if_pos p3] at h2; omega
          · rw [if_neg p3] at h2
            rw [if_neg (show ¬ a < c by omega), if_neg (show ¬ c < a by omega)]
            exact ih h1 h2
theorem cmpRow_swo : Go.Sort.SWO (ltOf cmpRow) := by
  have lt : ∀ x y, ltOf cmpRow x y = true ↔ cmpRow x y < 0 := fun x y => by simp [ltOf]
  have ge : ∀ x y, ltOf cmpRow x y = false ↔ 0 ≤ cmpRow x y := fun x y => by simp [ltOf]
  refine ⟨fun x => by rw [ge, cmpRow_self]; omega, fun x y z h1 h2 => by rw [lt] at *; exact cmpRow_trans x y z h1 h2, fun x y z h1 h2 => ?_⟩
  rw [ge] at *
  by_cases e1 : cmpRow x y = 0
  · rw [cmpRow_zero x y e1]; exact h2
  · by_cases e2 : cmpRow y z = 0
    · rw [← cmpRow_zero y z e2]; exact h1
    · have a1 := cmpRow_anti x y
      have a2 := cmpRow_anti y z
      have a3 := cmpRow_anti x z
      have := cmpRow_trans z y x (by omega) (by omega)
      omega
theorem cmpRow_tot (x y : List Int) (h1 : ltOf cmpRow x y = false) (h2 : ltOf cmpRow y x = false) : x = y := by
  have g1 : 0 ≤ cmpRow x y := by simpa [ltOf] using h1
  have g2 : 0 ≤ cmpRow y x := by simpa [ltOf] using h2
  have := cmpRow_anti x y
  exact cmpRow_zero x y (by omega)
theorem cmpRow_drop {x y : List Int} {i : Nat} {a b : Int} (hx : x[i]? = some a) (hy : y[i]? = some b) : cmpRow (x.drop i) (y.drop i) = if a < b then -1 else if b < a then 1 else cmpRow (x.drop (i + 1)) (y.drop (i + 1)) := by
  obtain ⟨h1, e1⟩ := List.getElem?_eq_some_iff.1 hx
  obtain ⟨h2, e2⟩ := List.getElem?_eq_some_iff.1 hy
  rw [List.drop_eq_getElem_cons h1, List.drop_eq_getElem_cons h2, e1, e2, cmpRow]
theorem compareRows (x y : List Int) (hx : x.length ≤ 1000000) (hy : y.length ≤ 1000000) : Pure Try.prog 70 [.im 1 (ints x), .im 1 (ints y)] (.v (.int .i64 (cmpRow x y))) := by
  obtain ⟨V, hV⟩ : ∃ V, V = cmpRow (x.drop 0) (y.drop 0) := ⟨_, rfl⟩
  rw [show cmpRow x y = V by rw [hV]; rfl]
  refine Pure.mk (rs := [.tmp 4]) (nt := 36) Try.func70 (by kernel_rfl) rfl rfl rfl (by simp) ?_
  simp only [sl]
  refine wkc0 _ ?_
  -- MARK1
  refine Holds.loop (ι := Nat) (fun i => ⟨[(0, .im 1 (ints x)), (1, .im 1 (ints y)), (9, .im 1 (ints x)), (10, .v (.int .i64 x.length)), (11, .v (.int .i64 i))], [], 0⟩)
    (fun i => i ≤ x.length ∧ i ≤ y.length ∧ V = cmpRow (x.drop i) (y.drop i)) (fun i => x.length - i) 0 ⟨Nat.zero_le _, Nat.zero_le _, hV⟩ ?_ ?_
  · exact Cov.ofn (id) rfl (by simp [go_sem, List.take_of_length_le, ren, ren1, ren2, okr, okr1, okr2, ChkT, ChkN, BlkN, nf]) (by simp [go_sem, List.take_of_length_le, ren, ren1, ren2, okr, okr1, okr2, ChkT, ChkN, BlkN, nf])
  clear hV
  rintro i ⟨h1, h2, hV⟩
  have stepi : wr64 ((i : Int) + 1) = ((i + 1 : Nat) : Int) := wr64_id (by omega) (by omega)
  refine wkc0 _ ?_
  refine Holds.cond rfl (fun h => ?_) (fun h => ?_)
  · have hix : i < x.length := by simpa using h
    obtain ⟨a, ha⟩ : ∃ a, x[i]? = some a := ⟨_, List.getElem?_eq_getElem hix⟩
    by_cases hiy : i < y.length
    · have hge : ¬ (y.length : Int) ≤ (i : Int) := by omega
      have hgn : ¬ y.length ≤ i := by omega
      obtain ⟨b, hb⟩ : ∃ b, y[i]? = some b := ⟨_, List.getElem?_eq_getElem hiy⟩
      rw [cmpRow_drop ha hb] at hV
      have cc := compareInt a b
      have hcmp : cmpI a b = if a < b then -1 else if b < a then 1 else 0 := rfl
      generalize cmpI a b = c at cc hcmp
      refine wkc (And.intro @hix (And.intro @ha (And.intro (@get_E _ _ _ _ ha) (And.intro @hge (And.intro @hgn (And.intro @hiy (And.intro @hb (@get_E _ _ _ _ hb)))))))) _ ?_
      refine GS.cc (cc) rfl rfl rfl rfl (by simp [go_sem, List.take_of_length_le] <;> with_reducible rfl) rfl (by simp [go_sem, List.take_of_length_le]) ?_
      -- MARK2
      by_cases q1 : a < b
      · rw [if_pos q1] at hV hcmp
        subst hV hcmp
        refine wkc0 _ ?_
        refine Out.mk (xs := ?_) ?_ ?_ (by first | exact .inr rfl | exact .inl rfl)
        rotate_left
        · simp [go_sem, List.take_of_length_le] <;> with_reducible rfl
        exact .v _
      · by_cases q2 : b < a
        · rw [if_neg q1, if_pos q2] at hV hcmp
          subst hV hcmp
          refine wkc0 _ ?_
          refine Out.mk (xs := ?_) ?_ ?_ (by first | exact .inr rfl | exact .inl rfl)
          rotate_left
          · simp [go_sem, List.take_of_length_le] <;> with_reducible rfl
          exact .v _
        · rw [if_neg q1, if_neg q2] at hV hcmp
          subst hcmp
          refine wkc0 _ ?_
          refine ⟨i + 1, ⟨by omega, by omega, hV⟩, by omega, ?_⟩
          rw [stepi]
          exact Cov.ofn (id) rfl (by simp [go_sem, List.take_of_length_le, ren, ren1, ren2, okr, okr1, okr2, ChkT, ChkN, BlkN, nf]) (by simp [go_sem, List.take_of_length_le, ren, ren1, ren2, okr, okr1, okr2, ChkT, ChkN, BlkN, nf])
    · have hge : (y.length : Int) ≤ (i : Int) := by omega
      have hgn : y.length ≤ i := by omega
      rw [List.drop_eq_getElem_cons hix, List.drop_eq_nil_of_le hgn, cmpRow] at hV
      subst hV
      refine wkc (And.intro @hix (And.intro @ha (And.intro (@get_E _ _ _ _ ha) (And.intro @hge (@hgn))))) _ ?_
      refine Out.mk (xs := ?_) ?_ ?_ (by first | exact .inr rfl | exact .inl rfl)
      rotate_left
      · simp [go_sem, List.take_of_length_le] <;> with_reducible rfl
      exact .v _
  · have hix : i = x.length := by
      have : ¬ i < x.length := by simpa using h
      omega
    subst hix
    rw [List.drop_length] at hV
    by_cases hiy : x.length < y.length
    · have hli : (x.length : Int) < (y.length : Int) := by omega
      rw [List.drop_eq_getElem_cons hiy, cmpRow] at hV
      subst hV
      refine wkc (And.intro @hli (@hiy)) _ ?_
      refine Out.mk (xs := ?_) ?_ ?_ (by first | exact .inr rfl | exact .inl rfl)
      rotate_left
      · simp [go_sem, List.take_of_length_le] <;> with_reducible rfl
      exact .v _
    · have hli : ¬ (x.length : Int) < (y.length : Int) := by omega
      rw [List.drop_eq_nil_of_le (by omega), cmpRow] at hV
      subst hV
      refine wkc (And.intro @hli (@hiy)) _ ?_
      refine Out.mk (xs := ?_) ?_ ?_ (by first | exact .inr rfl | exact .inl rfl)
      rotate_left
      · simp [go_sem, List.take_of_length_le] <;> with_reducible rfl
      exact .v _
theorem sortLists (xs : List (List Int)) (hx : xs.length ≤ 1000000) (hnd : xs.Nodup) (hl : ∀ x ∈ xs, x.length ≤ 1000000) (te : TypeId) : Fn Try.prog 69 1 [.own 0 1 0 xs.length, .fn 70 []] [(0, ⟨te, 1, intssO xs⟩)] (.tu []) 1 [(0, ⟨te, 1, intssO (sortedBy cmpRow xs)⟩)] :=
  sortOwn (ρ := sortO_ren) sortO { sortO with } ⟨_, Try.func69, by kernel_rfl, by kernel_rfl⟩ cmpRow cmpRow_swo cmpRow_tot te 3 xs (by omega) hnd 70 ⟨_, Try.func70, by kernel_rfl, by kernel_rfl⟩ fun x h1 y h2 => compareRows x y (hl x h1) (hl y h2)
end Go.Proofs.Ytejpklajfcngbaa.En
end
section
namespace Go.Proofs.Ytejpklajfcngbaa.En
open Go.RowKit Go.Shelf
set_option linter.unusedVariables false
def sort189_ren : Go.Shelf.Ren := ⟨fun | 189 => 71 | 125 => 109 | 257 => 111 | 128 => 136 | 129 => 137 | 294 => 139 | 295 => 140 | 296 => 141 | 297 => 142 | 298 => 143 | 299 => 144 | 216 => 145 | 300 => 146 | 301 => 147 | 328 => 158 | 329 => 154 | 330 => 155 | 331 => 159 | 332 => 160 | 215 => 138 | 343 => 176 | n => n, fun | 28 => 26 | 3 => 3 | 46 => 131 | 0 => 0 | 51 => 158 | 53 => 74 | 4 => 4 | 183 => 152 | 182 => 151 | 131 => 47 | 5 => 5 | 9 => 9 | 218 => 167 | 222 => 171 | 228 => 182 | 229 => 183 | n => n, fun n => n⟩
theorem sort189 : Go.Proofs.Lays.n189 Try.prog sort189_ren where
  mixed := by kernel_rfl
  f125 := Try.func109.trans (congrArg some (by kernel_rfl))
  f128 := Try.func136.trans (congrArg some (by kernel_rfl))
  f129 := Try.func137.trans (congrArg some (by kernel_rfl))
  f189 := Try.func71.trans (congrArg some (by kernel_rfl))
  f215 := Try.func138.trans (congrArg some (by kernel_rfl))
  f216 := Try.func145.trans (congrArg some (by kernel_rfl))
  f257 := Try.func111.trans (congrArg some (by kernel_rfl))
  f294 := Try.func139.trans (congrArg some (by kernel_rfl))
  f295 := Try.func140.trans (congrArg some (by kernel_rfl))
  f296 := Try.func141.trans (congrArg some (by kernel_rfl))
  f297 := Try.func142.trans (congrArg some (by kernel_rfl))
  f298 := Try.func143.trans (congrArg some (by kernel_rfl))
  f299 := Try.func144.trans (congrArg some (by kernel_rfl))
  f300 := Try.func146.trans (congrArg some (by kernel_rfl))
  f301 := Try.func147.trans (congrArg some (by kernel_rfl))
  f328 := Try.func158.trans (congrArg some (by kernel_rfl))
  f329 := Try.func154.trans (congrArg some (by kernel_rfl))
  f330 := Try.func155.trans (congrArg some (by kernel_rfl))
  f331 := Try.func159.trans (congrArg some (by kernel_rfl))
  f332 := Try.func160.trans (congrArg some (by kernel_rfl))
  f343 := Try.func176.trans (congrArg some (by kernel_rfl))
  t0 := Try.underlying0
  a0 := Try.isAgg0
  z0 := Try.sizeOf0
  v0 := Try.zeroValue0
  t3 := Try.underlying3
  a3 := Try.isAgg3
  z3 := Try.sizeOf3
  v3 := Try.zeroValue3
  t4 := Try.underlying4
  a4 := Try.isAgg4
  z4 := Try.sizeOf4
  v4 := Try.zeroValue4
  t5 := Try.underlying5
  a5 := Try.isAgg5
  z5 := Try.sizeOf5
  v5 := Try.zeroValue5
  t9 := Try.underlying9
  a9 := Try.isAgg9
  z9 := Try.sizeOf9
  v9 := Try.zeroValue9
  t28 := Try.underlying26
  a28 := Try.isAgg26
  z28 := Try.sizeOf26
  v28 := Try.zeroValue26
  t46 := Try.underlying131
  a46 := Try.isAgg131
  z46 := Try.sizeOf131
  v46 := Try.zeroValue131
  t51 := Try.underlying158
  a51 := Try.isAgg158
  z51 := Try.sizeOf158
  v51 := Try.zeroValue158
  t53 := Try.underlying74
  a53 := Try.isAgg74
  z53 := Try.sizeOf74
  v53 := Try.zeroValue74
  t131 := Try.underlying47
  a131 := Try.isAgg47
  z131 := Try.sizeOf47
  v131 := Try.zeroValue47
  t182 := Try.underlying151
  a182 := Try.isAgg151
  z182 := Try.sizeOf151
  v182 := Try.zeroValue151
  t183 := Try.underlying152
  a183 := Try.isAgg152
  z183 := Try.sizeOf152
  v183 := Try.zeroValue152
  t218 := Try.underlying167
  a218 := Try.isAgg167
  z218 := Try.sizeOf167
  v218 := Try.zeroValue167
  t222 := Try.underlying171
  a222 := Try.isAgg171
  z222 := Try.sizeOf171
  v222 := Try.zeroValue171
  t228 := Try.underlying182
  a228 := Try.isAgg182
  z228 := Try.sizeOf182
  v228 := Try.zeroValue182
  t229 := Try.underlying183
  a229 := Try.isAgg183
  z229 := Try.sizeOf183
  v229 := Try.zeroValue183
end Go.Proofs.Ytejpklajfcngbaa.En
end
section
namespace Go.Proofs.Ytejpklajfcngbaa.En
open Go.RowKit Go.Shelf Go.Sort
set_option linter.unusedSimpArgs false
set_option linter.unusedVariables false
def sorted (xs : List Int) : List Int := xs.mergeSort fun x y => decide (x ≤ y)
@[simp] theorem sorted_len (xs : List Int) : (sorted xs).length = xs.length := by simp [sorted]
theorem ints_row {xs : List Int} {j : Nat} {row : List AV} (h : (ints xs)[j]? = some row) : ∃ x, xs[j]? = some x ∧ row = [.v (.int .i64 x)] := by
  rw [ints_get] at h
  simp only [Option.map_eq_some_iff] at h
  obtain ⟨x, h1, h2⟩ := h
  exact ⟨x, h1, h2.symm⟩
theorem blk_sorted {w w' : World} {S : Nat → Prop} {Ow : Owners} {L : Names} {n : Nat} {t : TypeId} {xs ys : List Int} {b o cap : Nat} (hl : ys.length = xs.length) (hB : BlkRep w S Ow L n ⟨t, 1, ints xs⟩ (some (b, o, cap)))
    (hh : ∀ cs fr, w.heap[b]? = some (.cells cs t fr) → w'.heap[b]? = some (.cells (putCells (Value.int .i64) o ys.toArray cs) t fr)) : BlkRep w' S Ow L n ⟨t, 1, ints ys⟩ (some (b, o, cap)) := by
  obtain ⟨hO, cs, us, hc, hs, hle, hrow, hcell, hrep⟩ := hB
  simp only [ints_len, Nat.mul_one] at hs hle hrow hcell hrep
  refine ⟨hO, putCells (Value.int .i64) o ys.toArray cs, fun j _ => .int .i64 (ys.getD j 0), hh _ _ hc, by simp [putCells, hs], by simp only [ints_len]; omega, ?_, ?_, ?_⟩
  · intro j row hj
    obtain ⟨x, _, rfl⟩ := ints_row hj
    rfl
  · intro j row i x hj hi
    obtain ⟨y, hy, rfl⟩ := ints_row hj
    have hlt := (List.getElem?_eq_some_iff.1 hy).1
    have hi0 : i = 0 := by
      have := (List.getElem?_eq_some_iff.1 hi).1
      simp at this; exact this
    subst hi0
    have hlt2 : o + j < cs.size := by omega
    simp only [Nat.mul_one, Nat.add_zero, putCells, Array.getElem?_mapIdx, Array.getElem?_eq_getElem hlt2, Option.map_some, Option.some.injEq, List.size_toArray]
    rw [if_pos ⟨by omega, by omega⟩, show o + j - o = j by omega]
    simp [List.getD_eq_getElem?_getD, hlt]
  · intro j row i x hj hi
    obtain ⟨y, hy, rfl⟩ := ints_row hj
    have hi0 : i = 0 := by
      have := (List.getElem?_eq_some_iff.1 hi).1
      simp at this; exact this
    subst hi0
    simp only [List.getElem?_cons_zero, Option.some.injEq] at hi
    subst hi
    dsimp only
    rw [show ys.getD j 0 = y by rw [List.getD_eq_getElem?_getD, hy]; rfl]
    exact .v _ rfl
theorem sortInts (xs : List Int) (hx : xs.length < 4611686018427387904) : Fn Try.prog 71 1 [.own 0 1 0 xs.length] [(0, ⟨3, 1, ints xs⟩)] (.tu []) 1 [(0, ⟨3, 1, ints (sorted xs)⟩)] := by
  unfold Fn
  refine ⟨⟨_, Try.func71, by kernel_rfl, by kernel_rfl⟩, fun W X S Ow L us hR hl hrep => ?_⟩
  obtain ⟨u, rfl⟩ : ∃ u, us = [u] := by
    match us, hl with
    | [u], _ => exact ⟨u, rfl⟩
  have hu := hrep 0 _ u rfl rfl
  have same : xs.length = 0 → (Calls Try.prog 71 [u].toArray W fun e w' => e = Ending.returned (Value.tuple #[]) ∧ w' = W) → Calls Try.prog 71 [u].toArray W fun e w' => ∃ v, e = .returned v ∧ ∃ S' Ow' L', RelX ⟨W, X, S, ⟨0, 1⟩, fixOf 1 L⟩ ⟨[], [(0, ⟨3, 1, ints (sorted xs)⟩)], 1⟩ a0 w' S' Ow' L' ∧ Rep w' S' Ow' L' [0] (.tu []) v := by
    intro h0 hc cs
    obtain ⟨e, w', fr, ⟨rfl, rfl⟩, rest⟩ := hc cs
    have hx0 : xs = [] := List.length_eq_zero_iff.1 h0
    subst hx0
    rw [show sorted [] = [] by simp [sorted]]
    exact ⟨_, _, fr, ⟨_, rfl, S, Ow, L, hR, .tu [] [] rfl (fun i x u hx hu => by simp at hx)⟩, rest⟩
  have hn : ∀ (p : Option Addr) (cap : Nat), Calls Try.prog 71 #[.slice p 0 cap] W fun e w' => e = Ending.returned (Value.tuple #[]) ∧ w' = W := fun p cap => Any.slices_Sort_int_none sort189 p cap W
  rcases own_inv hu with ⟨b, o, cap, hL, hle, rfl⟩ | ⟨b, o, cap, ad, hL, hoff, hlen, rfl⟩ | ⟨hL, _, hlen, A, rfl⟩ | hL
  · obtain ⟨loc, hl0, hB⟩ := hR.blk 0 _ rfl
    rw [hL] at hl0
    cases hl0
    have hB' := hB
    obtain ⟨hO, cs, us, hc, hs, hle', hrow, hcell, hrep'⟩ := hB'
    simp only [ints_len, Nat.mul_one] at hs hle'
    have hblk : b < W.heap.size := (Array.getElem?_eq_some_iff.1 hc).1
    have hH : Go.Sort.Holds (Value.int .i64) W b o xs.toArray := by
      intro j hj
      have hj' : j < xs.length := by simpa using hj
      have hxj : (ints xs)[j]? = some [.v (.int .i64 xs[j])] := by simp [hj']
      have h1 := hcell j _ 0 _ hxj rfl
      have h2 := hrep' j _ 0 _ hxj rfl
      have h3 : us j 0 = .int .i64 xs[j] := by clear h1; generalize us j 0 = q at h2 ⊢; cases h2; rfl
      simp only [Nat.mul_one, Nat.add_zero] at h1
      refine ⟨?_, ?_⟩
      · simp only [World.cell?, hc, Option.isSome_none, Bool.false_eq_true, if_false, h1, h3]
        simp [hj']
      · simp [World.frozen?, hc]
    have hcall := Any.slices_Sort_int sort189 b o cap xs W hH hblk hx
    intro cs'
    obtain ⟨e, w', fr, ⟨rfl, n, os, rfl⟩, rest⟩ := hcall cs'
    refine ⟨_, Go.Sort.grow (putRow (Value.int .i64) (Go.Sort.ahead W n) b o (sorted xs).toArray) os, fr, ⟨_, rfl, S, Ow, L, ?_, .tu [] [] rfl (fun i x u hx hu => by simp at hx)⟩, ?_⟩
    · have h1 := hR.drawn (w' := Go.Sort.ahead W n) rfl rfl rfl rfl
      have h2 := h1.write 0 _ ⟨3, 1, ints (sorted xs)⟩ b o cap hL rfl (putRow (Value.int .i64) (Go.Sort.ahead W n) b o (sorted xs).toArray) rfl rfl rfl (by simp [putRow, mapBlock]) (fun c hcb => by simp [putRow, mapBlock, Array.getElem?_modify, Ne.symm hcb])
        (fun hB1 _ => blk_sorted (by simp) hB1 (fun cs2 fr2 h2 => by have h3 : W.heap[b]? = _ := h2; simp [putRow, mapBlock, Array.getElem?_modify, h3, onCells]))
      refine h2.grown ⟨⟨rfl, rfl, rfl, by simp [Go.Sort.grow], fun k hk => ?_⟩, Nat.le_refl _⟩
      exact Array.getElem?_append_left hk
    · simp only [Nat.add_zero, Nat.mul_one, Nat.sub_zero]
      exact rest
  · exact same (by omega) (by have := hn (some ad) 0; simpa [hlen] using this)
  · exact same (by omega) (by have := hn A 0; simpa [hlen] using this)
  · obtain ⟨loc, hl0, hB⟩ := hR.blk 0 _ rfl
    rw [hL] at hl0
    cases hl0
end Go.Proofs.Ytejpklajfcngbaa.En
end
section
namespace Go.Proofs.Ytejpklajfcngbaa.En
open Go.RowKit Go.Shelf
set_option linter.unusedVariables false
end Go.Proofs.Ytejpklajfcngbaa.En
end
section
namespace Go.Proofs.Ytejpklajfcngbaa.En
open Go.RowKit Go.Shelf Go.Sort
set_option linter.unusedSimpArgs false
set_option linter.unusedVariables false
def compacted (xs : List Int) : List Int := Go.Lib.compact xs
set_option maxHeartbeats 1000000
end Go.Proofs.Ytejpklajfcngbaa.En
end
section
namespace Go.Proofs.Ytejpklajfcngbaa.En
open Go.RowKit
set_option linter.unusedSimpArgs false
set_option linter.unusedVariables false
def putL : List Int → Int → List Int
  | [], n => [n]
  | x :: xs, n => if x < n then x :: putL xs n else if x = n then x :: xs else n :: x :: xs
theorem putL_mem (n z : Int) : ∀ l : List Int, z ∈ putL l n ↔ z = n ∨ z ∈ l
  | [] => by simp [putL]
  | x :: xs => by
    have ih := putL_mem n z xs
    unfold putL
    split
    · simp only [List.mem_cons, ih]
      constructor
      · rintro (h | h | h) <;> simp [h]
      · rintro (h | h | h) <;> simp [h]
    · split
      · rename_i h; subst h
        simp only [List.mem_cons]
        constructor
        · intro h; exact .inr h
        · rintro (h | h)
          · exact .inl h
          · exact h
      · simp only [List.mem_cons]
theorem putL_incr (n : Int) : ∀ l : List Int, l.Pairwise (· < ·) → (putL l n).Pairwise (· < ·)
  | [], _ => by simp [putL]
  | x :: xs, h => by
    have ih := putL_incr n xs (List.pairwise_cons.1 h).2
    have hx := (List.pairwise_cons.1 h).1
    unfold putL
    split
    · rename_i hl
      refine List.pairwise_cons.2 ⟨fun z hz => ?_, ih⟩
      rcases (putL_mem n z xs).1 hz with e | e
      · omega
      · exact hx z e
    · split
      · exact h
      · rename_i h1 h2
        refine List.pairwise_cons.2 ⟨fun z hz => ?_, h⟩
        rcases List.mem_cons.1 hz with e | e
        · omega
        · have := hx z e; omega
theorem incr_ext : ∀ {a b : List Int}, a.Pairwise (· < ·) → b.Pairwise (· < ·) → (∀ z, z ∈ a ↔ z ∈ b) → a = b
  | [], [], _, _, _ => rfl
  | [], y :: b, _, _, h => by have := (h y).2 (by simp); cases this
  | x :: a, [], _, _, h => by have := (h x).1 (by simp); cases this
  | x :: a, y :: b, ha, hb, h => by
    have ha1 := (List.pairwise_cons.1 ha).1
    have hb1 := (List.pairwise_cons.1 hb).1
    have hxy : x = y := by
      rcases List.mem_cons.1 ((h x).1 (by simp)) with e | e
      · exact e
      · have h1 := hb1 x e
        rcases List.mem_cons.1 ((h y).2 (by simp)) with e2 | e2
        · exact e2.symm
        · have h2 := ha1 y e2; omega
    subst hxy
    rw [incr_ext (List.pairwise_cons.1 ha).2 (List.pairwise_cons.1 hb).2 fun z => ?_]
    constructor
    · intro hz
      rcases List.mem_cons.1 ((h z).1 (List.mem_cons_of_mem _ hz)) with e | e
      · have := ha1 z hz; omega
      · exact e
    · intro hz
      rcases List.mem_cons.1 ((h z).2 (List.mem_cons_of_mem _ hz)) with e | e
      · have := hb1 z hz; omega
      · exact e
theorem foldl_put : ∀ (xs l : List Int), l.Pairwise (· < ·) → (xs.foldl putL l).Pairwise (· < ·) ∧ ∀ z, z ∈ xs.foldl putL l ↔ z ∈ l ∨ z ∈ xs
  | [], l, h => ⟨h, fun z => by simp⟩
  | x :: xs, l, h => by
    obtain ⟨h1, h2⟩ := foldl_put xs (putL l x) (putL_incr x l h)
    refine ⟨h1, fun z => ?_⟩
    rw [List.foldl_cons, h2 z, putL_mem, List.mem_cons]
    constructor
    · rintro ((h | h) | h) <;> simp [h]
    · rintro (h | h | h) <;> simp [h]
end Go.Proofs.Ytejpklajfcngbaa.En
end
section
namespace Go.Proofs.Ytejpklajfcngbaa.En
open Go.RowKit
set_option linter.unusedSimpArgs false
set_option linter.unusedVariables false
set_option maxHeartbeats 4000000
def lessL : List Int → List Int → Bool
  | x :: xs, y :: ys => if x = y then lessL xs ys else decide (x < y)
  | _, _ => false
theorem l5Less (xs ys : List Int) (hx : xs.length < 4611686018427387904) (hxy : xs.length ≤ ys.length) : Pure Try.prog 93 [.im 1 (ints xs), .im 1 (ints ys)] (.v (.bool (lessL xs ys))) := by
  refine Pure.mk (rs := [.tmp 4]) (nt := 30) Try.func93 (by kernel_rfl) rfl rfl rfl (by simp) ?_
  simp only [sl]
  refine wkd0 _ ?_
  refine Holds.loop (ι := Nat) (fun i => ⟨[(0, .im 1 (ints xs)), (1, .im 1 (ints ys)), (7, .v (.int .i64 xs.length)), (8, .v (.int .i64 i))], [], 0⟩) (fun i => i ≤ xs.length ∧ lessL (xs.drop i) (ys.drop i) = lessL xs ys) (fun i => xs.length - i) 0 ⟨Nat.zero_le _, rfl⟩ ?_ ?_
  · exact Cov.of id (by simp [ChkT, okr, okr1, lk, ren, ren1]) (by simp [ChkB])
  rintro i ⟨hi, hless⟩
  refine wkd0 _ ?_
  refine Holds.cond rfl (fun hl => ?_) (fun hl => ?_)
  · have hlt : i < xs.length := by simpa using hl
    have hly : i < ys.length := by omega
    have hxi : xs[i]? = some xs[i] := List.getElem?_eq_getElem hlt
    have hyi : ys[i]? = some ys[i] := List.getElem?_eq_getElem hly
    rw [List.drop_eq_getElem_cons hlt, List.drop_eq_getElem_cons hly, lessL] at hless
    refine wkd (And.intro @hxi (@hyi)) _ ?_
    refine Holds.cond rfl (fun hl => ?_) (fun hl => ?_)
    · have hne : ¬ xs[i] = ys[i] := by simpa using hl
      rw [if_neg hne] at hless
      rw [← hless]
      refine wkd (And.intro @hxi (@hyi)) _ ?_
      refine Out.mk (xs := ?_) ?_ ?_ (by first | exact .inr rfl | exact .inl rfl)
      rotate_left
      · simp [go_sem, List.take_of_length_le] <;> with_reducible rfl
      exact .v _
    · have he : xs[i] = ys[i] := by simpa using hl
      rw [if_pos he] at hless
      refine wkd0 _ ?_
      refine ⟨i + 1, ⟨by omega, hless⟩, by omega, ?_⟩
      rw [wr64_id (by omega) (by omega)]
      exact Cov.of id (by simp [ChkT, okr, okr1, lk, ren, ren1]) (by simp [ChkB])
  · have hle : i = xs.length := by
      have : ¬ i < xs.length := by simpa using hl
      omega
    subst hle
    rw [List.drop_length, lessL] at hless
    · rw [← hless]
      refine wkd0 _ ?_
      refine Out.mk (xs := ?_) ?_ ?_ (by first | exact .inr rfl | exact .inl rfl)
      rotate_left
      · simp [go_sem, List.take_of_length_le] <;> with_reducible rfl
      exact .v _
    · intro x xs y ys h; cases h
end Go.Proofs.Ytejpklajfcngbaa.En
end
section
namespace Go.Proofs.Ytejpklajfcngbaa.En
open Go.RowKit
set_option linter.unusedSimpArgs false
set_option linter.unusedVariables false
set_option maxHeartbeats 8000000
end Go.Proofs.Ytejpklajfcngbaa.En
end
section
namespace Go.Proofs.Ytejpklajfcngbaa.En
open Go.RowKit
set_option linter.unusedSimpArgs false
set_option linter.unusedVariables false
set_option maxHeartbeats 8000000
end Go.Proofs.Ytejpklajfcngbaa.En
end
section
namespace Go.Proofs.Ytejpklajfcngbaa.En
open Go.RowKit
set_option linter.unusedSimpArgs false
set_option linter.unusedVariables false
theorem less_wt {n : Int} {k : Nat} (h : 0 ≤ less n k) : less n k + (k : Int) ≤ n := by
  unfold less at h ⊢
  split at h
  · omega
  · rename_i g; rw [if_neg g]; omega
theorem szL_wt {α : Type} {f : Int → α → Int} {w : α → Nat} (hf : ∀ n x, 0 ≤ f n x → f n x + (w x : Int) ≤ n) : ∀ (es : List α) (n : Int), 0 ≤ szL f n es → szL f n es + (wtL w es : Int) ≤ n
  | [], n, h => by simp [szL, wtL]
  | e :: es, n, h => by
    unfold szL at h ⊢
    split at h
    · omega
    · rename_i g
      rw [if_neg g]
      have h1 := hf n e (by omega)
      have h2 := szL_wt hf es _ h
      simp only [wtL]; omega
theorem szLA_wt {α : Type} {f : Int → α → Int} {w : α → Nat} (hf : ∀ n x, 0 ≤ f n x → f n x + (w x : Int) ≤ n) {es : List α} {n : Int} (h : 0 ≤ szLA f n es) : szLA f n es + (es.length : Int) + (wtL w es : Int) ≤ n := by
  unfold szLA at h ⊢
  split at h
  · omega
  · rename_i g
    rw [if_neg g]
    have := szL_wt hf es _ h
    omega
theorem wtL_add {α : Type} (u v : α → Nat) : ∀ es : List α, wtL (fun x => u x + v x) es = wtL u es + wtL v es
  | [] => rfl
  | e :: es => by simp only [wtL, wtL_add u v es]; omega
theorem wtL_const {α : Type} (c : Nat) : ∀ es : List α, wtL (fun _ => c) es = c * es.length
  | [] => rfl
  | e :: es => by simp only [wtL, wtL_const c es, List.length_cons, Nat.mul_succ]; omega
theorem szGrammar_wt {n : Int} {g : GrammarT} (h : 0 ≤ szGrammarF n g) : (wGrammar g : Int) ≤ n := by
  unfold szGrammarF at h
  have := szLA_wt (f := szRuleF) (w := fun x => x.2.length) (fun n x hx => less_wt hx) h
  have e : wGrammar g = g.2.2.length + wtL (fun x : RuleT => x.2.length) g.2.2 := by
    unfold wGrammar
    rw [show wRule = fun x : RuleT => (fun _ => 1) x + (fun y : RuleT => y.2.length) x from funext fun x => by simp [wRule], wtL_add, wtL_const]; simp
  omega
end Go.Proofs.Ytejpklajfcngbaa.En
end
section
namespace Go.Proofs.Ytejpklajfcngbaa.En
open Go.RowKit
set_option linter.unusedSimpArgs false
set_option linter.unusedVariables false
set_option maxHeartbeats 8000000
def goodAtG (g : GrammarT) (i : Nat) : Bool :=
  inR (g.2.2.getD i (0, [])).1 0 (g.1 - 1) && decide ((g.2.2.getD i (0, [])).2.length ≤ 4) && (g.2.2.getD i (0, [])).2.all (symOk g.1 g.2.1) && !(g.2.2.take i).any (fun s => decide (s = g.2.2.getD i (0, [])))
def goodG (g : GrammarT) : Bool := inR g.1 1 6 && inR g.2.1 1 4 && decide (g.2.2.length ≤ 16) && allB (goodAtG g) g.2.2.length
theorem any_at {α : Type} {p : α → Bool} {xs : List α} {i : Nat} {x : α} (h : xs[i]? = some x) (hp : p x = true) : xs.any p = true := List.any_eq_true.2 ⟨x, List.mem_of_getElem? h, hp⟩
theorem all_at {α : Type} {p : α → Bool} {xs : List α} {i : Nat} {x : α} (h : xs[i]? = some x) (hp : p x = false) : xs.all p = false := List.all_eq_false.2 ⟨x, List.mem_of_getElem? h, by simp [hp]⟩
theorem implGoodG (g : GrammarT) (hx : g.2.2.length < 4611686018427387904) (hs : ∀ e ∈ g.2.2, e.2.length < 4611686018427387904) : Pure Try.prog 40 [.ag (grammarC g)] (.v (.bool (goodG g))) := by
  refine Pure.mk (rs := [.tmp 2]) (nt := 59) Try.func40 (by kernel_rfl) rfl rfl rfl (by simp) ?_
  simp only [sl, grammarC]
  refine wk0 _ ?_
  refine GS.cc (implIn g.1 1 6) rfl rfl rfl rfl (by simp [go_sem, List.take_of_length_le] <;> with_reducible rfl) rfl (by simp [go_sem, List.take_of_length_le]) ?_
  generalize hg1 : inR g.1 1 6 = b1
  refine wk0 _ ?_
  refine GS.guard (t := 9) rfl (fun h => ?_) (fun h => ?_)
  · have h : b1 = false := by simpa using h
    subst h
    rw [show goodG g = false by rw [goodG, hg1]; rfl]
    refine wk0 _ ?_
    refine Holds.cond rfl (fun h => ?_) (fun h => ?_)
    · refine wk0 _ ?_
      refine Out.mk (xs := ?_) ?_ ?_ (by first | exact .inr rfl | exact .inl rfl)
      rotate_left
      · simp [go_sem, List.take_of_length_le] <;> with_reducible rfl
      exact .v _
    · cases h
  have hA : inR g.1 1 6 = true := by rw [hg1]; simpa using h
  have hA' : 1 ≤ g.1 ∧ g.1 ≤ 6 := by simpa [inR] using hA
  have hw : wr64 (g.1 - 1) = g.1 - 1 := wr64_id (by omega) (by omega)
  clear hg1 h
  refine wk0 _ ?_
  refine GS.cc (implIn g.2.1 1 4) rfl rfl rfl rfl (by simp [go_sem, List.take_of_length_le] <;> with_reducible rfl) rfl (by simp [go_sem, List.take_of_length_le]) ?_
  generalize hg1 : inR g.2.1 1 4 = b1
  refine wk0 _ ?_
  refine GS.guard (t := 15) rfl (fun h => ?_) (fun h => ?_)
  · have h : b1 = false := by simpa using h
    subst h
    rw [show goodG g = false by rw [goodG, hA, hg1]; rfl]
    refine wk0 _ ?_
    refine Holds.cond rfl (fun h => ?_) (fun h => ?_)
    · refine wk0 _ ?_
      refine Out.mk (xs := ?_) ?_ ?_ (by first | exact .inr rfl | exact .inl rfl)
      rotate_left
      · simp [go_sem, List.take_of_length_le] <;> with_reducible rfl
      exact .v _
    · cases h
  have hB : inR g.2.1 1 4 = true := by rw [hg1]; simpa using h
  have hB' : 1 ≤ g.2.1 ∧ g.2.1 ≤ 4 := by simpa [inR] using hB
  clear hg1 h
  refine wk0 _ ?_
  refine Holds.cond rfl (fun h => ?_) (fun h => ?_)
  · rw [show goodG g = false by have h : ¬ g.2.2.length ≤ 16 := (by simp at h; omega); rw [goodG, hA, hB, decide_eq_false h]; rfl]
    refine wk0 _ ?_
    refine Out.mk (xs := ?_) ?_ ?_ (by first | exact .inr rfl | exact .inl rfl)
    rotate_left
    · simp [go_sem, List.take_of_length_le] <;> with_reducible rfl
    exact .v _
  have hC : g.2.2.length ≤ 16 := by simp at h; omega
  have hG : goodG g = allB (goodAtG g) g.2.2.length := by rw [goodG, hA, hB, decide_eq_true hC]; rfl
  rw [hG]
  clear h
  refine wk0 _ ?_
  refine Holds.loop (ι := Nat) (fun i => ⟨[(1, .pb 0 3 0 0), (22, .im 2 (rules g.2.2)), (23, .v (.int .i64 g.2.2.length)), (24, .v (.int .i64 i))], [(0, ⟨31, 3, [[.v (.int .i64 g.1), .v (.int .i64 g.2.1), .im 2 (rules g.2.2)]]⟩)], 1⟩) (fun i => i ≤ g.2.2.length ∧ allB (goodAtG g) i = true) (fun i => g.2.2.length - i) 0 ⟨Nat.zero_le _, rfl⟩ ?_ ?_
  · exact Cov.ofn (id) rfl (by simp [go_sem, List.take_of_length_le, ren, ren1, ren2, okr, okr1, okr2, ChkT, ChkN, BlkN, nf]) (by simp [go_sem, List.take_of_length_le, ren, ren1, ren2, okr, okr1, okr2, ChkT, ChkN, BlkN, nf])
  rintro i ⟨hi, hall⟩
  refine wk0 _ ?_
  refine Holds.cond rfl (fun hl => ?_) (fun hl => ?_)
  · have hlt : i < g.2.2.length := by simpa using hl
    have hxi : g.2.2[i]? = some g.2.2[i] := List.getElem?_eq_getElem hlt
    have hd : g.2.2.getD i (0, []) = g.2.2[i] := by simp [hlt]
    have no : goodAtG g i = false → Out Try.prog [.tmp 2] (.v (.bool (allB (goodAtG g) g.2.2.length))) = Out Try.prog [.tmp 2] (.v (.bool false)) := fun h => by rw [allB_no hlt h]
    have hlen := hs _ (List.getElem_mem hlt)
    have hgA : goodAtG g i = (inR g.2.2[i].1 0 (g.1 - 1) && decide (g.2.2[i].2.length ≤ 4) && g.2.2[i].2.all (symOk g.1 g.2.1) && !(g.2.2.take i).any (fun s => decide (s = g.2.2[i]))) := by simp only [goodAtG, hd]
    refine wk (And.intro @hxi (And.intro @ruleC.eq_1 (@hw))) _ ?_
    refine GS.cc (implIn g.2.2[i].1 0 (g.1 - 1)) rfl rfl rfl rfl (by simp [go_sem, List.take_of_length_le] <;> with_reducible rfl) rfl (by simp [go_sem, List.take_of_length_le]) ?_
    generalize hg1 : inR g.2.2[i].1 0 (g.1 - 1) = b1
    rw [hg1] at hgA
    refine wk0 _ ?_
    refine GS.guard (t := 36) rfl (fun h => ?_) (fun h => ?_)
    · have h : b1 = false := by simpa using h
      subst h
      rw [no (by rw [hgA]; rfl)]
      refine wk0 _ ?_
      refine Holds.cond rfl (fun h => ?_) (fun h => ?_)
      · refine wk0 _ ?_
        refine Out.mk (xs := ?_) ?_ ?_ (by first | exact .inr rfl | exact .inl rfl)
        rotate_left
        · simp [go_sem, List.take_of_length_le] <;> with_reducible rfl
        exact .v _
      · cases h
    have h : b1 = true := by simpa using h
    subst h
    refine wk0 _ ?_
    refine GS.guard (t := 42) rfl (fun h => ?_) (fun h => ?_)
    · have h : ¬ g.2.2[i].2.length ≤ 4 := by simp at h; omega
      rw [no (by rw [hgA, decide_eq_false h]; rfl)]
      refine wk0 _ ?_
      refine Holds.cond rfl (fun h => ?_) (fun h => ?_)
      · refine wk0 _ ?_
        refine Out.mk (xs := ?_) ?_ ?_ (by first | exact .inr rfl | exact .inl rfl)
        rotate_left
        · simp [go_sem, List.take_of_length_le] <;> with_reducible rfl
        exact .v _
      · cases h
    have h4 : g.2.2[i].2.length ≤ 4 := by simp at h; omega
    rw [decide_eq_true h4] at hgA
    refine wk0 _ ?_
    refine GS.cc (areSymbols g.2.2[i].2 g.1 g.2.1 hA'.1 hA'.2 hB'.1 hB'.2 hlen) rfl rfl rfl rfl (by simp [go_sem, List.take_of_length_le] <;> with_reducible rfl) rfl (by simp [go_sem, List.take_of_length_le]) ?_
    generalize hg2 : g.2.2[i].2.all (symOk g.1 g.2.1) = b2
    rw [hg2] at hgA
    refine wk0 _ ?_
    refine Holds.cond rfl (fun h => ?_) (fun h => ?_)
    · have h : b2 = false := by simpa using h
      subst h
      rw [no (by rw [hgA]; rfl)]
      refine wk0 _ ?_
      refine Out.mk (xs := ?_) ?_ ?_ (by first | exact .inr rfl | exact .inl rfl)
      rotate_left
      · simp [go_sem, List.take_of_length_le] <;> with_reducible rfl
      exact .v _
    have h : b2 = true := by simpa using h
    subst h
    have htk : (rules g.2.2).take i = rules (g.2.2.take i) := by simp [rules, List.map_take]
    have hil : (g.2.2.take i).length < 4611686018427387904 := by rw [List.length_take]; omega
    have hcf := containsFuncRule 81 [.pi (ruleC g.2.2[i])] (fun s => decide (s = g.2.2[i])) (g.2.2.take i) hil rfl (fun x hx => isGrammar1 x g.2.2[i] (hs _ (List.mem_of_mem_take hx)))
    generalize hg3 : (g.2.2.take i).any (fun s => decide (s = g.2.2[i])) = b3 at hgA hcf
    refine wk (And.intro @htk (show i ≤ g.2.2.length by omega)) _ ?_
    refine GS.cd (hcf) rfl rfl rfl rfl (by simp [go_sem, List.take_of_length_le] <;> with_reducible rfl) rfl (by exact .cons (.im _ _) (.cons (Fz.fnL (.cons (Fz.box rfl rfl rfl rfl) .nil)) .nil)) rfl ?_
    refine wk0 _ ?_
    refine Holds.cond rfl (fun h => ?_) (fun h => ?_)
    · have h : b3 = true := by simpa using h
      subst h
      rw [no (by rw [hgA]; rfl)]
      refine wk0 _ ?_
      refine Out.mk (xs := ?_) ?_ ?_ (by first | exact .inr rfl | exact .inl rfl)
      rotate_left
      · simp [go_sem, List.take_of_length_le] <;> with_reducible rfl
      exact .v _
    · have h : b3 = false := by simpa using h
      subst h
      have hgood : goodAtG g i = true := by rw [hgA]; rfl
      refine wk0 _ ?_
      refine ⟨i + 1, ⟨by omega, by unfold allB; rw [hall, hgood]; rfl⟩, by omega, ?_⟩
      rw [wr64_id (by omega) (by omega)]
      exact Cov.ofn (id) rfl (by simp [go_sem, List.take_of_length_le, ren, ren1, ren2, okr, okr1, okr2, ChkT, ChkN, BlkN, nf]) (by simp [go_sem, List.take_of_length_le, ren, ren1, ren2, okr, okr1, okr2, ChkT, ChkN, BlkN, nf])
  · have hle : i = g.2.2.length := by
      have : ¬ i < g.2.2.length := by simpa using hl
      omega
    subst hle
    rw [hall]
    refine wk0 _ ?_
    refine Out.mk (xs := ?_) ?_ ?_ (by first | exact .inr rfl | exact .inl rfl)
    rotate_left
    · simp [go_sem, List.take_of_length_le] <;> with_reducible rfl
    exact .v _
end Go.Proofs.Ytejpklajfcngbaa.En
end
section
namespace Go.Proofs.Ytejpklajfcngbaa.En
open Go.RowKit
set_option linter.unusedSimpArgs false
set_option linter.unusedVariables false
set_option maxHeartbeats 8000000
theorem specGoodG (g : GrammarT) (hx : g.2.2.length < 4611686018427387904) (hs : ∀ e ∈ g.2.2, e.2.length < 4611686018427387904) : Pure Try.prog 37 [.ag (grammarC g)] (.v (.bool (goodG g))) := by
  refine Pure.mk (rs := [.tmp 2]) (nt := 72) Try.func37 (by kernel_rfl) rfl rfl rfl (by simp) ?_
  simp only [sl, grammarC]
  refine wk0 _ ?_
  refine GS.cc (l1In g.1 1 6) rfl rfl rfl rfl (by simp [go_sem, List.take_of_length_le] <;> with_reducible rfl) rfl (by simp [go_sem, List.take_of_length_le]) ?_
  generalize hg1 : inR g.1 1 6 = b1
  refine wk0 _ ?_
  refine GS.guard (t := 13) rfl (fun h => ?_) (fun h => ?_)
  · have h : b1 = false := by simpa using h
    subst h
    rw [show goodG g = false by rw [goodG, hg1]; rfl]
    refine wk0 _ ?_
    refine Holds.cond rfl (fun h => ?_) (fun h => ?_)
    · refine wk0 _ ?_
      refine Out.mk (xs := ?_) ?_ ?_ (by first | exact .inr rfl | exact .inl rfl)
      rotate_left
      · simp [go_sem, List.take_of_length_le] <;> with_reducible rfl
      exact .v _
    · cases h
  have hA : inR g.1 1 6 = true := by rw [hg1]; simpa using h
  have hA' : 1 ≤ g.1 ∧ g.1 ≤ 6 := by simpa [inR] using hA
  have hw : wr64 (g.1 - 1) = g.1 - 1 := wr64_id (by omega) (by omega)
  clear hg1 h
  refine wk0 _ ?_
  refine GS.cc (l1In g.2.1 1 4) rfl rfl rfl rfl (by simp [go_sem, List.take_of_length_le] <;> with_reducible rfl) rfl (by simp [go_sem, List.take_of_length_le]) ?_
  generalize hg1 : inR g.2.1 1 4 = b1
  refine wk0 _ ?_
  refine GS.guard (t := 19) rfl (fun h => ?_) (fun h => ?_)
  · have h : b1 = false := by simpa using h
    subst h
    rw [show goodG g = false by rw [goodG, hA, hg1]; rfl]
    refine wk0 _ ?_
    refine Holds.cond rfl (fun h => ?_) (fun h => ?_)
    · refine wk0 _ ?_
      refine Out.mk (xs := ?_) ?_ ?_ (by first | exact .inr rfl | exact .inl rfl)
      rotate_left
      · simp [go_sem, List.take_of_length_le] <;> with_reducible rfl
      exact .v _
    · cases h
  have hB : inR g.2.1 1 4 = true := by rw [hg1]; simpa using h
  have hB' : 1 ≤ g.2.1 ∧ g.2.1 ≤ 4 := by simpa [inR] using hB
  clear hg1 h
  refine wk0 _ ?_
  refine Holds.cond rfl (fun h => ?_) (fun h => ?_)
  · rw [show goodG g = false by have h : ¬ g.2.2.length ≤ 16 := (by simp at h; omega); rw [goodG, hA, hB, decide_eq_false h]; rfl]
    refine wk0 _ ?_
    refine Out.mk (xs := ?_) ?_ ?_ (by first | exact .inr rfl | exact .inl rfl)
    rotate_left
    · simp [go_sem, List.take_of_length_le] <;> with_reducible rfl
    exact .v _
  have hC : g.2.2.length ≤ 16 := by simp at h; omega
  have hG : goodG g = allB (goodAtG g) g.2.2.length := by rw [goodG, hA, hB, decide_eq_true hC]; rfl
  rw [hG]
  clear h
  refine wk0 _ ?_
  refine Holds.loop (ι := Nat) (fun i => ⟨[(1, .pb 0 3 0 0), (26, .im 2 (rules g.2.2)), (27, .v (.int .i64 g.2.2.length)), (28, .v (.int .i64 i))], [(0, ⟨31, 3, [[.v (.int .i64 g.1), .v (.int .i64 g.2.1), .im 2 (rules g.2.2)]]⟩)], 1⟩) (fun i => i ≤ g.2.2.length ∧ allB (goodAtG g) i = true) (fun i => g.2.2.length - i) 0 ⟨Nat.zero_le _, rfl⟩ ?_ ?_
  · exact Cov.ofn (id) rfl (by simp [go_sem, List.take_of_length_le, ren, ren1, ren2, okr, okr1, okr2, ChkT, ChkN, BlkN, nf]) (by simp [go_sem, List.take_of_length_le, ren, ren1, ren2, okr, okr1, okr2, ChkT, ChkN, BlkN, nf])
  rintro i ⟨hi, hall⟩
  refine wk0 _ ?_
  refine Holds.cond rfl (fun hl => ?_) (fun hl => ?_)
  · have hlt : i < g.2.2.length := by simpa using hl
    have hxi : g.2.2[i]? = some g.2.2[i] := List.getElem?_eq_getElem hlt
    have hd : g.2.2.getD i (0, []) = g.2.2[i] := by simp [hlt]
    have no : goodAtG g i = false → Out Try.prog [.tmp 2] (.v (.bool (allB (goodAtG g) g.2.2.length))) = Out Try.prog [.tmp 2] (.v (.bool false)) := fun h => by rw [allB_no hlt h]
    have hlen := hs _ (List.getElem_mem hlt)
    have hgA : goodAtG g i = (inR g.2.2[i].1 0 (g.1 - 1) && decide (g.2.2[i].2.length ≤ 4) && g.2.2[i].2.all (symOk g.1 g.2.1) && !(g.2.2.take i).any (fun s => decide (s = g.2.2[i]))) := by simp only [goodAtG, hd]
    refine wk (And.intro @hxi (And.intro @ruleC.eq_1 (@hw))) _ ?_
    refine GS.cc (l1In g.2.2[i].1 0 (g.1 - 1)) rfl rfl rfl rfl (by simp [go_sem, List.take_of_length_le] <;> with_reducible rfl) rfl (by simp [go_sem, List.take_of_length_le]) ?_
    generalize hg1 : inR g.2.2[i].1 0 (g.1 - 1) = b1
    rw [hg1] at hgA
    refine wk0 _ ?_
    refine GS.guard (t := 40) rfl (fun h => ?_) (fun h => ?_)
    · have h : b1 = false := by simpa using h
      subst h
      rw [no (by rw [hgA]; rfl)]
      refine wk0 _ ?_
      refine Holds.cond rfl (fun h => ?_) (fun h => ?_)
      · refine wk0 _ ?_
        refine Out.mk (xs := ?_) ?_ ?_ (by first | exact .inr rfl | exact .inl rfl)
        rotate_left
        · simp [go_sem, List.take_of_length_le] <;> with_reducible rfl
        exact .v _
      · cases h
    have h : b1 = true := by simpa using h
    subst h
    refine wk0 _ ?_
    refine Holds.cond rfl (fun h => ?_) (fun h => ?_)
    · have h : ¬ g.2.2[i].2.length ≤ 4 := by simp at h; omega
      rw [no (by rw [hgA, decide_eq_false h]; rfl)]
      refine wk0 _ ?_
      refine Out.mk (xs := ?_) ?_ ?_ (by first | exact .inr rfl | exact .inl rfl)
      rotate_left
      · simp [go_sem, List.take_of_length_le] <;> with_reducible rfl
      exact .v _
    have h4 : g.2.2[i].2.length ≤ 4 := by simp at h; omega
    rw [decide_eq_true h4] at hgA
    refine wk0 _ ?_
    refine Holds.loop (ι := Nat) (fun j => ⟨[(1, .pb 0 3 0 0), (26, .im 2 (rules g.2.2)), (27, .v (.int .i64 g.2.2.length)), (28, .v (.int .i64 i)), (3, .v (.int .i64 i)), (4, .pb 1 2 0 0), (47, .im 1 (ints g.2.2[i].2)), (48, .v (.int .i64 g.2.2[i].2.length)), (49, .v (.int .i64 j))], [(0, ⟨31, 3, [[.v (.int .i64 g.1), .v (.int .i64 g.2.1), .im 2 (rules g.2.2)]]⟩), (1, ⟨94, 2, [[.v (.int .i64 g.2.2[i].1), .im 1 (ints g.2.2[i].2)]]⟩)], 2⟩) (fun j => j ≤ g.2.2[i].2.length ∧ (g.2.2[i].2.take j).all (symOk g.1 g.2.1) = true) (fun j => g.2.2[i].2.length - j) 0 ⟨Nat.zero_le _, rfl⟩ ?_ ?_
    · exact Cov.ofn (id) rfl (by simp [go_sem, List.take_of_length_le, ren, ren1, ren2, okr, okr1, okr2, ChkT, ChkN, BlkN, nf]) (by simp [go_sem, List.take_of_length_le, ren, ren1, ren2, okr, okr1, okr2, ChkT, ChkN, BlkN, nf])
    rintro j ⟨hj, hsy⟩
    refine wk0 _ ?_
    refine Holds.cond rfl (fun hl2 => ?_) (fun hl2 => ?_)
    · have hjt : j < g.2.2[i].2.length := by simpa using hl2
      have hxj : g.2.2[i].2[j]? = some g.2.2[i].2[j] := List.getElem?_eq_getElem hjt
      refine wk (@hxj) _ ?_
      refine GS.cc (l1Symbol g g.2.2[i].2[j] hA'.1 hA'.2 hB'.1 hB'.2) rfl rfl rfl rfl (by simp [go_sem, List.take_of_length_le, grammarC] <;> with_reducible rfl) rfl (by simp [go_sem, List.take_of_length_le, grammarC]) ?_
      generalize hg2 : symOk g.1 g.2.1 g.2.2[i].2[j] = b2
      refine wk0 _ ?_
      refine Holds.cond rfl (fun h => ?_) (fun h => ?_)
      · have h : b2 = false := by simpa using h
        subst h
        rw [no (by rw [hgA, all_at hxj hg2]; rfl)]
        refine wk0 _ ?_
        refine Out.mk (xs := ?_) ?_ ?_ (by first | exact .inr rfl | exact .inl rfl)
        rotate_left
        · simp [go_sem, List.take_of_length_le] <;> with_reducible rfl
        exact .v _
      · have h : b2 = true := by simpa using h
        subst h
        refine wk0 _ ?_
        refine ⟨j + 1, ⟨by omega, ?_⟩, by omega, ?_⟩
        · rw [List.take_add_one, hxj, List.all_append, hsy]; simp [hg2]
        rw [wr64_id (by omega) (by omega)]
        exact Cov.ofn (id) rfl (by simp [go_sem, List.take_of_length_le, ren, ren1, ren2, okr, okr1, okr2, ChkT, ChkN, BlkN, nf]) (by simp [go_sem, List.take_of_length_le, ren, ren1, ren2, okr, okr1, okr2, ChkT, ChkN, BlkN, nf])
    have hje : j = g.2.2[i].2.length := by
      have : ¬ j < g.2.2[i].2.length := by simpa using hl2
      omega
    subst hje
    rw [List.take_length] at hsy
    rw [hsy] at hgA
    have htk : (rules g.2.2).take i = rules (g.2.2.take i) := by simp [rules, List.map_take]
    have hil : (g.2.2.take i).length = i := by rw [List.length_take]; omega
    clear hl2 hj
    refine wk (And.intro @htk (show i ≤ g.2.2.length by omega)) _ ?_
    refine Holds.loop (ι := Nat) (fun j => ⟨[(1, .pb 0 3 0 0), (26, .im 2 (rules g.2.2)), (27, .v (.int .i64 g.2.2.length)), (28, .v (.int .i64 i)), (4, .pb 1 2 0 0), (61, .im 2 (rules (g.2.2.take i))), (62, .v (.int .i64 i)), (63, .v (.int .i64 j))], [(0, ⟨31, 3, [[.v (.int .i64 g.1), .v (.int .i64 g.2.1), .im 2 (rules g.2.2)]]⟩), (1, ⟨94, 2, [[.v (.int .i64 g.2.2[i].1), .im 1 (ints g.2.2[i].2)]]⟩)], 2⟩) (fun j => j ≤ i ∧ ((g.2.2.take i).take j).any (fun s => decide (s = g.2.2[i])) = false) (fun j => i - j) 0 ⟨Nat.zero_le _, rfl⟩ ?_ ?_
    · exact Cov.ofn (id) rfl (by simp [go_sem, List.take_of_length_le, ren, ren1, ren2, okr, okr1, okr2, ChkT, ChkN, BlkN, nf, htk, hil, Nat.min_eq_left hi]) (by simp [go_sem, List.take_of_length_le, ren, ren1, ren2, okr, okr1, okr2, ChkT, ChkN, BlkN, nf, htk, hil, Nat.min_eq_left hi])
    rintro j ⟨hj, hsy⟩
    refine wk0 _ ?_
    refine Holds.cond rfl (fun hl2 => ?_) (fun hl2 => ?_)
    · have hjt : j < i := by simpa using hl2
      have hjl : j < (g.2.2.take i).length := by omega
      have hxj : (g.2.2.take i)[j]? = some (g.2.2.take i)[j] := List.getElem?_eq_getElem hjl
      generalize (g.2.2.take i)[j] = q at hxj
      have hsr := l1SameRule g.2.2[i] q hlen
      rw [show decide (g.2.2[i] = q) = decide (q = g.2.2[i]) by simp [eq_comm]] at hsr
      generalize hg3 : decide (q = g.2.2[i]) = b3 at hsr
      refine wk (And.intro @hxj (@ruleC.eq_1)) _ ?_
      refine GS.cc (hsr) rfl rfl rfl rfl (by simp [go_sem, List.take_of_length_le, ruleC] <;> with_reducible rfl) rfl (by simp [go_sem, List.take_of_length_le, ruleC]) ?_
      refine wk0 _ ?_
      refine Holds.cond rfl (fun h => ?_) (fun h => ?_)
      · have h : b3 = true := by simpa using h
        subst h
        rw [no (by rw [hgA, any_at hxj hg3]; rfl)]
        refine wk0 _ ?_
        refine Out.mk (xs := ?_) ?_ ?_ (by first | exact .inr rfl | exact .inl rfl)
        rotate_left
        · simp [go_sem, List.take_of_length_le] <;> with_reducible rfl
        exact .v _
      · have h : b3 = false := by simpa using h
        subst h
        refine wk0 _ ?_
        refine ⟨j + 1, ⟨by omega, ?_⟩, by omega, ?_⟩
        · rw [List.take_add_one, hxj, List.any_append, hsy]; simp [hg3]
        rw [wr64_id (by omega) (by omega)]
        exact Cov.ofn (id) rfl (by simp [go_sem, List.take_of_length_le, ren, ren1, ren2, okr, okr1, okr2, ChkT, ChkN, BlkN, nf]) (by simp [go_sem, List.take_of_length_le, ren, ren1, ren2, okr, okr1, okr2, ChkT, ChkN, BlkN, nf])
    have hje : j = i := by
      have : ¬ j < i := by simpa using hl2
      omega
    subst hje
    rw [List.take_of_length_le (by omega)] at hsy
    have hgood : goodAtG g j = true := by rw [hgA, hsy]; rfl
    refine wk0 _ ?_
    refine ⟨j + 1, ⟨by omega, by unfold allB; rw [hall, hgood]; rfl⟩, by omega, ?_⟩
    rw [wr64_id (by omega) (by omega)]
    exact Cov.ofn (id) rfl (by simp [go_sem, List.take_of_length_le, ren, ren1, ren2, okr, okr1, okr2, ChkT, ChkN, BlkN, nf]) (by simp [go_sem, List.take_of_length_le, ren, ren1, ren2, okr, okr1, okr2, ChkT, ChkN, BlkN, nf])
  · have hle : i = g.2.2.length := by
      have : ¬ i < g.2.2.length := by simpa using hl
      omega
    subst hle
    rw [hall]
    refine wk0 _ ?_
    refine Out.mk (xs := ?_) ?_ ?_ (by first | exact .inr rfl | exact .inl rfl)
    rotate_left
    · simp [go_sem, List.take_of_length_le] <;> with_reducible rfl
    exact .v _
end Go.Proofs.Ytejpklajfcngbaa.En
end
section
namespace Go.Proofs.Ytejpklajfcngbaa.En
open Go.RowKit
set_option linter.unusedSimpArgs false
set_option linter.unusedVariables false
set_option maxHeartbeats 4000000
abbrev MachineT := Int × Int × List (List Int) × List Int
def machineC (m : MachineT) : List AV := [.v (.int .i64 m.1), .v (.int .i64 m.2.1), .im 1 (intss m.2.2.1), .im 1 (ints m.2.2.2)]
theorem eqMachineX (m : MachineT) (hx : m.2.2.1.length < 5864062014806) (hs : ∀ e ∈ m.2.2.1, e.length < 35184372088832) (hy : m.2.2.2.length < 35184372088832) : Pure Try.prog 33 [.ag (machineC m), .ag (machineC m)] (.v (.bool true)) := eqMachine m (by omega) (fun e he => by have := hs e he; omega) (by omega)
end Go.Proofs.Ytejpklajfcngbaa.En
end
section
namespace Go.Proofs.Ytejpklajfcngbaa.En
open Go.RowKit
set_option linter.unusedSimpArgs false
set_option linter.unusedVariables false
set_option maxHeartbeats 8000000
def notReg (r : RuleT) : Bool := match r.2 with
  | [] => false
  | [x, y] => decide (x ≥ 0) || decide (y < 0)
  | _ => true
theorem isRegular1 (r : RuleT) (hx : r.2.length < 4611686018427387904) : Pure Try.prog 107 [.ag (ruleC r)] (.v (.bool (notReg r))) := by
  obtain ⟨l, r⟩ := r
  match r, hx with
  | [], _ =>
    refine Pure.mk (rs := [.tmp 2]) (nt := 27) Try.func107 (by kernel_rfl) rfl rfl rfl (by simp) ?_
    simp only [sl, ruleC, notReg]
    refine wk0 _ ?_
    refine Out.mk (xs := ?_) ?_ ?_ (by first | exact .inr rfl | exact .inl rfl)
    rotate_left
    · simp [go_sem, List.take_of_length_le] <;> with_reducible rfl
    exact .v _
  | [x], _ =>
    refine Pure.mk (rs := [.tmp 2]) (nt := 27) Try.func107 (by kernel_rfl) rfl rfl rfl (by simp) ?_
    simp only [sl, ruleC, notReg]
    refine wk0 _ ?_
    refine Out.mk (xs := ?_) ?_ ?_ (by first | exact .inr rfl | exact .inl rfl)
    rotate_left
    · simp [go_sem, List.take_of_length_le] <;> with_reducible rfl
    exact .v _
  | [x, y], _ =>
    refine Pure.mk (rs := [.tmp 2]) (nt := 27) Try.func107 (by kernel_rfl) rfl rfl rfl (by simp) ?_
    simp only [sl, ruleC, notReg]
    refine wk0 _ ?_
    refine GS.guard (t := 19) rfl (fun h => ?_) (fun h => ?_)
    · rw [show decide (x ≥ 0) = true from h, Bool.true_or]
      refine wk0 _ ?_
      refine Out.mk (xs := ?_) ?_ ?_ (by first | exact .inr rfl | exact .inl rfl)
      rotate_left
      · simp [go_sem, List.take_of_length_le] <;> with_reducible rfl
      exact .v _
    · rw [show decide (x ≥ 0) = false from h, Bool.false_or]
      refine wk0 _ ?_
      refine Out.mk (xs := ?_) ?_ ?_ (by first | exact .inr rfl | exact .inl rfl)
      rotate_left
      · simp [go_sem, List.take_of_length_le] <;> with_reducible rfl
      exact .v _
  | x :: y :: z :: r, hx =>
    refine Pure.mk (rs := [.tmp 2]) (nt := 27) Try.func107 (by kernel_rfl) rfl rfl rfl (by simp) ?_
    simp only [sl, ruleC, notReg]
    have h1 : ¬ (((x :: y :: z :: r).length : Int) = 0) := by simp; omega
    have h2 : ¬ (((x :: y :: z :: r).length : Int) = 2) := by simp; omega
    have h3 : ((r.length : Int) + 1 + 1 + 1 == 0) = false := by simp; omega
    have h4 : ((r.length : Int) + 1 + 1 + 1 == 2) = false := by simp; omega
    have h5 : ¬ (r.length : Int) + 1 + 1 + 1 = 2 := by omega
    have h6 : ¬ (r.length : Int) + 1 + 1 + 1 = 0 := by omega
    repeat' first | refine Holds.seq ?_ | refine Holds.skip ?_ | refine Holds.exit ?_ | refine Holds.ret ?_ | refine thenA_normal ?_ | refine thenA_exit ?_ | refine thenA_ret ?_ | refine inB_normal ?_ | refine inB_ret ?_ | refine inB_here ?_ | (refine inB_past ?_ ?_; (· exact rfl)) | refine Holds.reg ?_ | refine Holds.block ?_ | refine GS.nil ?_ | (refine GS.step (s' := ?_) ?_ ?_ ?_; rotate_left; (· exact rfl); (· (simp [go_sem, List.take_of_length_le, h3, h4, h5, h6, bne] <;> with_reducible rfl))) | (refine GS.skip ?_ ?_ ?_; (· exact rfl); (· exact rfl)) | fail
    refine Out.mk (xs := ?_) ?_ ?_ (by first | exact .inr rfl | exact .inl rfl)
    rotate_left
    · simp [go_sem, List.take_of_length_le] <;> with_reducible rfl
    exact .v _
theorem implIsReg (g : GrammarT) (hx : g.2.2.length < 4611686018427387904) (hs : ∀ e ∈ g.2.2, e.2.length < 4611686018427387904) : Pure Try.prog 67 [.ag (grammarC g)] (.v (.bool (!g.2.2.any notReg))) := by
  refine Pure.mk (rs := [.tmp 2]) (nt := 7) Try.func67 (by kernel_rfl) rfl rfl rfl (by simp) ?_
  simp only [sl, grammarC]
  have hc := containsFuncRule 107 [] notReg g.2.2 hx rfl (fun x hm => isRegular1 x (hs x hm))
  refine wk0 _ ?_
  refine GS.cc (hc) rfl rfl rfl rfl (by simp [go_sem, List.take_of_length_le] <;> with_reducible rfl) rfl (by simp [go_sem, List.take_of_length_le]) ?_
  refine wk0 _ ?_
  refine Out.mk (xs := ?_) ?_ ?_ (by first | exact .inr rfl | exact .inl rfl)
  rotate_left
  · simp [go_sem, List.take_of_length_le] <;> with_reducible rfl
  exact .v _
theorem specIsReg (g : GrammarT) (hx : g.2.2.length < 4611686018427387904) (hs : ∀ e ∈ g.2.2, e.2.length < 4611686018427387904) : Pure Try.prog 64 [.ag (grammarC g)] (.v (.bool (!g.2.2.any notReg))) := by
  refine Pure.mk (rs := [.tmp 2]) (nt := 37) Try.func64 (by kernel_rfl) rfl rfl rfl (by simp) ?_
  simp only [sl, grammarC]
  refine wk0 _ ?_
  refine Holds.loop (ι := Nat) (fun i => ⟨[(6, .im 2 (rules g.2.2)), (7, .v (.int .i64 g.2.2.length)), (8, .v (.int .i64 i))], [], 0⟩) (fun i => i ≤ g.2.2.length ∧ (g.2.2.take i).any notReg = false) (fun i => g.2.2.length - i) 0 ⟨Nat.zero_le _, rfl⟩ ?_ ?_
  · exact Cov.ofn (id) rfl (by simp [go_sem, List.take_of_length_le, ren, ren1, ren2, okr, okr1, okr2, ChkT, ChkN, BlkN, nf]) (by simp [go_sem, List.take_of_length_le, ren, ren1, ren2, okr, okr1, okr2, ChkT, ChkN, BlkN, nf])
  rintro i ⟨hi, hno⟩
  refine wk0 _ ?_
  refine Holds.cond rfl (fun hl => ?_) (fun hl => ?_)
  · have hlt : i < g.2.2.length := by simpa using hl
    have hxi : g.2.2[i]? = some g.2.2[i] := List.getElem?_eq_getElem hlt
    have hlen := hs _ (List.getElem_mem hlt)
    have yes : notReg g.2.2[i] = true → Out Try.prog [.tmp 2] (.v (.bool (!g.2.2.any notReg))) = Out Try.prog [.tmp 2] (.v (.bool false)) := fun h => by rw [any_at hxi h]; rfl
    have next : notReg g.2.2[i] = false → i + 1 ≤ g.2.2.length ∧ (g.2.2.take (i + 1)).any notReg = false := fun h => ⟨by omega, by rw [List.take_add_one, hxi, List.any_append, hno]; simp [h]⟩
    have step : wr64 ((i : Int) + 1) = ((i + 1 : Nat) : Int) := wr64_id (by omega) (by omega)
    generalize hr : g.2.2[i] = r at hxi yes next hlen
    obtain ⟨l, r⟩ := r
    match r, hxi, yes, next, hlen with
    | [], hxi, yes, next, _ =>
      refine wk (And.intro @hxi (And.intro @hr (@ruleC.eq_1))) _ ?_
      refine Holds.cond rfl (fun h => ?_) (fun h => ?_)
      · cases h
      refine wk0 _ ?_
      refine ⟨i + 1, next rfl, by omega, ?_⟩
      rw [step]
      exact Cov.ofn (id) rfl (by simp [go_sem, List.take_of_length_le, ren, ren1, ren2, okr, okr1, okr2, ChkT, ChkN, BlkN, nf]) (by simp [go_sem, List.take_of_length_le, ren, ren1, ren2, okr, okr1, okr2, ChkT, ChkN, BlkN, nf])
    | [x], hxi, yes, next, _ =>
      rw [yes rfl]
      refine wk (And.intro @hxi (And.intro @hr (@ruleC.eq_1))) _ ?_
      refine Holds.cond rfl (fun h => ?_) (fun h => ?_)
      · refine wk0 _ ?_
        refine Out.mk (xs := ?_) ?_ ?_ (by first | exact .inr rfl | exact .inl rfl)
        rotate_left
        · simp [go_sem, List.take_of_length_le] <;> with_reducible rfl
        exact .v _
      · cases h
    | [x, y], hxi, yes, next, _ =>
      refine wk (And.intro @hxi (And.intro @hr (@ruleC.eq_1))) _ ?_
      refine GS.guard (t := 28) rfl (fun h => ?_) (fun h => ?_)
      · rw [yes (by simp only [notReg]; rw [show decide (x ≥ 0) = true from h]; rfl)]
        refine wk0 _ ?_
        refine Holds.cond rfl (fun h => ?_) (fun h => ?_)
        · refine wk0 _ ?_
          refine Out.mk (xs := ?_) ?_ ?_ (by first | exact .inr rfl | exact .inl rfl)
          rotate_left
          · simp [go_sem, List.take_of_length_le] <;> with_reducible rfl
          exact .v _
        · cases h
      · have h0 : decide (x ≥ 0) = false := h
        refine wk0 _ ?_
        refine Holds.cond rfl (fun h => ?_) (fun h => ?_)
        · rw [yes (by simp only [notReg]; rw [h0, show decide (y < 0) = true from h]; rfl)]
          refine wk0 _ ?_
          refine Out.mk (xs := ?_) ?_ ?_ (by first | exact .inr rfl | exact .inl rfl)
          rotate_left
          · simp [go_sem, List.take_of_length_le] <;> with_reducible rfl
          exact .v _
        · refine wk0 _ ?_
          refine ⟨i + 1, next (by simp only [notReg]; rw [h0, show decide (y < 0) = false from h]; rfl), by omega, ?_⟩
          rw [step]
          exact Cov.ofn (id) rfl (by simp [go_sem, List.take_of_length_le, ren, ren1, ren2, okr, okr1, okr2, ChkT, ChkN, BlkN, nf]) (by simp [go_sem, List.take_of_length_le, ren, ren1, ren2, okr, okr1, okr2, ChkT, ChkN, BlkN, nf])
    | x :: y :: z :: r, hxi, yes, next, _ =>
      have h4 : ((r.length : Int) + 1 + 1 + 1 == 2) = false := by simp; omega
      have h5 : ¬ (r.length : Int) + 1 + 1 + 1 = 2 := by omega
      have h6 : (0 : Int) < (r.length : Int) + 1 + 1 + 1 := by omega
      rw [yes rfl]
      repeat' first | refine Holds.seq ?_ | refine Holds.skip ?_ | refine Holds.exit ?_ | refine Holds.ret ?_ | refine thenA_normal ?_ | refine thenA_exit ?_ | refine thenA_ret ?_ | refine inB_normal ?_ | refine inB_ret ?_ | refine inB_here ?_ | (refine inB_past ?_ ?_; (· exact rfl)) | refine Holds.reg ?_ | refine Holds.block ?_ | refine GS.nil ?_ | (refine GS.step (s' := ?_) ?_ ?_ ?_; rotate_left; (· exact rfl); (· (simp [go_sem, List.take_of_length_le, hxi, hr, ruleC, h4, h5, h6, bne] <;> with_reducible rfl))) | (refine GS.skip ?_ ?_ ?_; (· exact rfl); (· exact rfl)) | fail
      refine Holds.cond rfl (fun h => ?_) (fun h => ?_)
      · refine wk0 _ ?_
        refine Out.mk (xs := ?_) ?_ ?_ (by first | exact .inr rfl | exact .inl rfl)
        rotate_left
        · simp [go_sem, List.take_of_length_le] <;> with_reducible rfl
        exact .v _
      · cases h
  · have hle : i = g.2.2.length := by
      have : ¬ i < g.2.2.length := by simpa using hl
      omega
    subst hle
    rw [List.take_length] at hno
    rw [hno]
    refine wk0 _ ?_
    refine Out.mk (xs := ?_) ?_ ?_ (by first | exact .inr rfl | exact .inl rfl)
    rotate_left
    · simp [go_sem, List.take_of_length_le] <;> with_reducible rfl
    exact .v _
end Go.Proofs.Ytejpklajfcngbaa.En
end
