/- Facts of this seat's types. -/
import Derived.Test.YtbapglkldnlckaaProg
import Derived.Test.YtbapglkldnlckaaEn22
import Derived.KernelRfl
namespace Go.Proofs.Ytbapglkldnlckaa.En
theorem mixed : Try.prog.follows .mixedOrders = true := by kernel_rfl
@[go_sem] theorem ti1 : ti Try.prog 1 = some ⟨false, 1, 8⟩ := by kernel_rfl
@[go_sem] theorem zc1 : zc Try.prog 1 = some [.v .nilFunc] := by kernel_rfl
@[go_sem] theorem ti2 : ti Try.prog 2 = some ⟨false, 1, 8⟩ := by kernel_rfl
@[go_sem] theorem zc2 : zc Try.prog 2 = some [.v (.int .i64 0)] := by kernel_rfl
@[go_sem] theorem ti3 : ti Try.prog 3 = some ⟨false, 1, 8⟩ := by kernel_rfl
@[go_sem] theorem zc3 : zc Try.prog 3 = some [.v (.int .i64 0)] := by kernel_rfl
@[go_sem] theorem ti4 : ti Try.prog 4 = some ⟨false, 1, 1⟩ := by kernel_rfl
@[go_sem] theorem zc4 : zc Try.prog 4 = some [.v (.bool false)] := by kernel_rfl
@[go_sem] theorem bo4 : isBoolT Try.prog 4 = true := by kernel_rfl
@[go_sem] theorem ti5 : ti Try.prog 5 = some ⟨false, 1, 1⟩ := by kernel_rfl
@[go_sem] theorem zc5 : zc Try.prog 5 = some [.v (.int .u8 0)] := by kernel_rfl
@[go_sem] theorem ti6 : ti Try.prog 6 = some ⟨false, 1, 1⟩ := by kernel_rfl
@[go_sem] theorem zc6 : zc Try.prog 6 = some [.v (.int .u8 0)] := by kernel_rfl
@[go_sem] theorem ti12 : ti Try.prog 12 = some ⟨false, 1, 8⟩ := by kernel_rfl
@[go_sem] theorem zc12 : zc Try.prog 12 = some [.v (.int .u64 0)] := by kernel_rfl
@[go_sem] theorem ti15 : ti Try.prog 15 = some ⟨false, 1, 8⟩ := by kernel_rfl
@[go_sem] theorem zc15 : zc Try.prog 15 = some [.v (.pointer none)] := by kernel_rfl
@[go_sem] theorem ti16 : ti Try.prog 16 = some ⟨false, 1, 8⟩ := by kernel_rfl
@[go_sem] theorem zc16 : zc Try.prog 16 = some [.v (.pointer none)] := by kernel_rfl
@[go_sem] theorem ti17 : ti Try.prog 17 = some ⟨false, 1, 8⟩ := by kernel_rfl
@[go_sem] theorem zc17 : zc Try.prog 17 = some [.v (.pointer none)] := by kernel_rfl
@[go_sem] theorem ti21 : ti Try.prog 21 = some ⟨false, 1, 4⟩ := by kernel_rfl
@[go_sem] theorem zc21 : zc Try.prog 21 = some [.v (.int .i32 0)] := by kernel_rfl
@[go_sem] theorem ti22 : ti Try.prog 22 = some ⟨false, 1, 24⟩ := by kernel_rfl
@[go_sem] theorem zc22 : zc Try.prog 22 = some [.v (.slice none 0 0)] := by kernel_rfl
@[go_sem] theorem el22 : elT Try.prog 22 = some 3 := by kernel_rfl
@[go_sem] theorem ti24 : ti Try.prog 24 = some ⟨false, 1, 8⟩ := by kernel_rfl
@[go_sem] theorem zc24 : zc Try.prog 24 = some [.v .nilFunc] := by kernel_rfl
@[go_sem] theorem ti25 : ti Try.prog 25 = some ⟨false, 1, 8⟩ := by kernel_rfl
@[go_sem] theorem zc25 : zc Try.prog 25 = some [.v .nilFunc] := by kernel_rfl
@[go_sem] theorem ti26 : ti Try.prog 26 = some ⟨false, 1, 8⟩ := by kernel_rfl
@[go_sem] theorem zc26 : zc Try.prog 26 = some [.v .nilFunc] := by kernel_rfl
@[go_sem] theorem ti27 : ti Try.prog 27 = some ⟨false, 1, 24⟩ := by kernel_rfl
@[go_sem] theorem zc27 : zc Try.prog 27 = some [.v (.slice none 0 0)] := by kernel_rfl
@[go_sem] theorem el27 : elT Try.prog 27 = some 5 := by kernel_rfl
@[go_sem] theorem ti28 : ti Try.prog 28 = some ⟨false, 1, 8⟩ := by kernel_rfl
@[go_sem] theorem zc28 : zc Try.prog 28 = some [.v .nilFunc] := by kernel_rfl
@[go_sem] theorem ti30 : ti Try.prog 30 = some ⟨false, 1, 8⟩ := by kernel_rfl
@[go_sem] theorem zc30 : zc Try.prog 30 = some [.v .nilFunc] := by kernel_rfl
@[go_sem] theorem ti31 : ti Try.prog 31 = some ⟨false, 1, 24⟩ := by kernel_rfl
@[go_sem] theorem zc31 : zc Try.prog 31 = some [.v (.slice none 0 0)] := by kernel_rfl
@[go_sem] theorem el31 : elT Try.prog 31 = some 160 := by kernel_rfl
@[go_sem] theorem ti32 : ti Try.prog 32 = some ⟨false, 1, 24⟩ := by kernel_rfl
@[go_sem] theorem zc32 : zc Try.prog 32 = some [.v (.slice none 0 0)] := by kernel_rfl
@[go_sem] theorem el32 : elT Try.prog 32 = some 158 := by kernel_rfl
@[go_sem] theorem ti33 : ti Try.prog 33 = some ⟨true, 2, 48⟩ := by kernel_rfl
@[go_sem] theorem zc33 : zc Try.prog 33 = some [.v (.slice none 0 0), .v (.slice none 0 0)] := by kernel_rfl
@[go_sem] theorem fo33_0 : fo Try.prog 33 0 = some (0, 31) := by kernel_rfl
@[go_sem] theorem fo33_1 : fo Try.prog 33 1 = some (1, 32) := by kernel_rfl
@[go_sem] theorem ti34 : ti Try.prog 34 = some ⟨true, 2, 48⟩ := by kernel_rfl
@[go_sem] theorem zc34 : zc Try.prog 34 = some [.v (.slice none 0 0), .v (.slice none 0 0)] := by kernel_rfl
@[go_sem] theorem fo34_0 : fo Try.prog 34 0 = some (0, 31) := by kernel_rfl
@[go_sem] theorem fo34_1 : fo Try.prog 34 1 = some (1, 32) := by kernel_rfl
@[go_sem] theorem ti35 : ti Try.prog 35 = some ⟨false, 1, 8⟩ := by kernel_rfl
@[go_sem] theorem zc35 : zc Try.prog 35 = some [.v .nilFunc] := by kernel_rfl
@[go_sem] theorem ti37 : ti Try.prog 37 = some ⟨false, 1, 8⟩ := by kernel_rfl
@[go_sem] theorem zc37 : zc Try.prog 37 = some [.v .nilFunc] := by kernel_rfl
@[go_sem] theorem ti38 : ti Try.prog 38 = some ⟨false, 1, 24⟩ := by kernel_rfl
@[go_sem] theorem zc38 : zc Try.prog 38 = some [.v (.slice none 0 0)] := by kernel_rfl
@[go_sem] theorem el38 : elT Try.prog 38 = some 135 := by kernel_rfl
@[go_sem] theorem ti39 : ti Try.prog 39 = some ⟨false, 1, 24⟩ := by kernel_rfl
@[go_sem] theorem zc39 : zc Try.prog 39 = some [.v (.slice none 0 0)] := by kernel_rfl
@[go_sem] theorem el39 : elT Try.prog 39 = some 137 := by kernel_rfl
@[go_sem] theorem ti40 : ti Try.prog 40 = some ⟨true, 2, 48⟩ := by kernel_rfl
@[go_sem] theorem zc40 : zc Try.prog 40 = some [.v (.slice none 0 0), .v (.slice none 0 0)] := by kernel_rfl
@[go_sem] theorem fo40_0 : fo Try.prog 40 0 = some (0, 38) := by kernel_rfl
@[go_sem] theorem fo40_1 : fo Try.prog 40 1 = some (1, 39) := by kernel_rfl
@[go_sem] theorem ti41 : ti Try.prog 41 = some ⟨true, 2, 48⟩ := by kernel_rfl
@[go_sem] theorem zc41 : zc Try.prog 41 = some [.v (.slice none 0 0), .v (.slice none 0 0)] := by kernel_rfl
@[go_sem] theorem fo41_0 : fo Try.prog 41 0 = some (0, 38) := by kernel_rfl
@[go_sem] theorem fo41_1 : fo Try.prog 41 1 = some (1, 39) := by kernel_rfl
@[go_sem] theorem ti42 : ti Try.prog 42 = some ⟨false, 1, 8⟩ := by kernel_rfl
@[go_sem] theorem zc42 : zc Try.prog 42 = some [.v .nilFunc] := by kernel_rfl
@[go_sem] theorem ti43 : ti Try.prog 43 = some ⟨false, 1, 8⟩ := by kernel_rfl
@[go_sem] theorem zc43 : zc Try.prog 43 = some [.v .nilFunc] := by kernel_rfl
@[go_sem] theorem ti44 : ti Try.prog 44 = some ⟨false, 1, 8⟩ := by kernel_rfl
@[go_sem] theorem zc44 : zc Try.prog 44 = some [.v .nilFunc] := by kernel_rfl
@[go_sem] theorem ti45 : ti Try.prog 45 = some ⟨false, 1, 24⟩ := by kernel_rfl
@[go_sem] theorem zc45 : zc Try.prog 45 = some [.v (.slice none 0 0)] := by kernel_rfl
@[go_sem] theorem el45 : elT Try.prog 45 = some 116 := by kernel_rfl
@[go_sem] theorem ti46 : ti Try.prog 46 = some ⟨false, 1, 8⟩ := by kernel_rfl
@[go_sem] theorem zc46 : zc Try.prog 46 = some [.v .nilFunc] := by kernel_rfl
@[go_sem] theorem ti48 : ti Try.prog 48 = some ⟨false, 1, 8⟩ := by kernel_rfl
@[go_sem] theorem zc48 : zc Try.prog 48 = some [.v .nilFunc] := by kernel_rfl
@[go_sem] theorem ti49 : ti Try.prog 49 = some ⟨false, 1, 24⟩ := by kernel_rfl
@[go_sem] theorem zc49 : zc Try.prog 49 = some [.v (.slice none 0 0)] := by kernel_rfl
@[go_sem] theorem el49 : elT Try.prog 49 = some 110 := by kernel_rfl
@[go_sem] theorem ti50 : ti Try.prog 50 = some ⟨false, 1, 8⟩ := by kernel_rfl
@[go_sem] theorem zc50 : zc Try.prog 50 = some [.v .nilFunc] := by kernel_rfl
@[go_sem] theorem ti51 : ti Try.prog 51 = some ⟨false, 1, 8⟩ := by kernel_rfl
@[go_sem] theorem zc51 : zc Try.prog 51 = some [.v .nilFunc] := by kernel_rfl
@[go_sem] theorem ti52 : ti Try.prog 52 = some ⟨false, 1, 8⟩ := by kernel_rfl
@[go_sem] theorem zc52 : zc Try.prog 52 = some [.v .nilFunc] := by kernel_rfl
@[go_sem] theorem ti53 : ti Try.prog 53 = some ⟨false, 1, 24⟩ := by kernel_rfl
@[go_sem] theorem zc53 : zc Try.prog 53 = some [.v (.slice none 0 0)] := by kernel_rfl
@[go_sem] theorem el53 : elT Try.prog 53 = some 22 := by kernel_rfl
@[go_sem] theorem ti54 : ti Try.prog 54 = some ⟨true, 4, 64⟩ := by kernel_rfl
@[go_sem] theorem zc54 : zc Try.prog 54 = some [.v (.int .i64 0), .v (.int .i64 0), .v (.slice none 0 0), .v (.slice none 0 0)] := by kernel_rfl
@[go_sem] theorem fo54_0 : fo Try.prog 54 0 = some (0, 3) := by kernel_rfl
@[go_sem] theorem fo54_1 : fo Try.prog 54 1 = some (1, 3) := by kernel_rfl
@[go_sem] theorem fo54_2 : fo Try.prog 54 2 = some (2, 53) := by kernel_rfl
@[go_sem] theorem fo54_3 : fo Try.prog 54 3 = some (3, 22) := by kernel_rfl
@[go_sem] theorem ti55 : ti Try.prog 55 = some ⟨true, 4, 64⟩ := by kernel_rfl
@[go_sem] theorem zc55 : zc Try.prog 55 = some [.v (.int .i64 0), .v (.int .i64 0), .v (.slice none 0 0), .v (.slice none 0 0)] := by kernel_rfl
@[go_sem] theorem fo55_0 : fo Try.prog 55 0 = some (0, 3) := by kernel_rfl
@[go_sem] theorem fo55_1 : fo Try.prog 55 1 = some (1, 3) := by kernel_rfl
@[go_sem] theorem fo55_2 : fo Try.prog 55 2 = some (2, 53) := by kernel_rfl
@[go_sem] theorem fo55_3 : fo Try.prog 55 3 = some (3, 22) := by kernel_rfl
@[go_sem] theorem ti56 : ti Try.prog 56 = some ⟨false, 1, 8⟩ := by kernel_rfl
@[go_sem] theorem zc56 : zc Try.prog 56 = some [.v .nilFunc] := by kernel_rfl
@[go_sem] theorem ti57 : ti Try.prog 57 = some ⟨false, 1, 8⟩ := by kernel_rfl
@[go_sem] theorem zc57 : zc Try.prog 57 = some [.v .nilFunc] := by kernel_rfl
@[go_sem] theorem ti58 : ti Try.prog 58 = some ⟨true, 4, 64⟩ := by kernel_rfl
@[go_sem] theorem zc58 : zc Try.prog 58 = some [.v (.int .i64 0), .v (.int .i64 0), .v (.slice none 0 0), .v (.slice none 0 0)] := by kernel_rfl
@[go_sem] theorem fo58_0 : fo Try.prog 58 0 = some (0, 3) := by kernel_rfl
@[go_sem] theorem fo58_1 : fo Try.prog 58 1 = some (1, 3) := by kernel_rfl
@[go_sem] theorem fo58_2 : fo Try.prog 58 2 = some (2, 53) := by kernel_rfl
@[go_sem] theorem fo58_3 : fo Try.prog 58 3 = some (3, 22) := by kernel_rfl
@[go_sem] theorem ti59 : ti Try.prog 59 = some ⟨false, 1, 8⟩ := by kernel_rfl
@[go_sem] theorem zc59 : zc Try.prog 59 = some [.v .nilFunc] := by kernel_rfl
@[go_sem] theorem ti60 : ti Try.prog 60 = some ⟨false, 1, 8⟩ := by kernel_rfl
@[go_sem] theorem zc60 : zc Try.prog 60 = some [.v .nilFunc] := by kernel_rfl
@[go_sem] theorem ti61 : ti Try.prog 61 = some ⟨false, 1, 8⟩ := by kernel_rfl
@[go_sem] theorem zc61 : zc Try.prog 61 = some [.v .nilFunc] := by kernel_rfl
@[go_sem] theorem ti62 : ti Try.prog 62 = some ⟨false, 1, 24⟩ := by kernel_rfl
@[go_sem] theorem zc62 : zc Try.prog 62 = some [.v (.slice none 0 0)] := by kernel_rfl
@[go_sem] theorem el62 : elT Try.prog 62 = some 172 := by kernel_rfl
@[go_sem] theorem ti63 : ti Try.prog 63 = some ⟨true, 3, 40⟩ := by kernel_rfl
@[go_sem] theorem zc63 : zc Try.prog 63 = some [.v (.int .i64 0), .v (.int .i64 0), .v (.slice none 0 0)] := by kernel_rfl
@[go_sem] theorem fo63_0 : fo Try.prog 63 0 = some (0, 3) := by kernel_rfl
@[go_sem] theorem fo63_1 : fo Try.prog 63 1 = some (1, 3) := by kernel_rfl
@[go_sem] theorem fo63_2 : fo Try.prog 63 2 = some (2, 62) := by kernel_rfl
@[go_sem] theorem ti64 : ti Try.prog 64 = some ⟨true, 3, 40⟩ := by kernel_rfl
@[go_sem] theorem zc64 : zc Try.prog 64 = some [.v (.int .i64 0), .v (.int .i64 0), .v (.slice none 0 0)] := by kernel_rfl
@[go_sem] theorem fo64_0 : fo Try.prog 64 0 = some (0, 3) := by kernel_rfl
@[go_sem] theorem fo64_1 : fo Try.prog 64 1 = some (1, 3) := by kernel_rfl
@[go_sem] theorem fo64_2 : fo Try.prog 64 2 = some (2, 62) := by kernel_rfl
@[go_sem] theorem ti65 : ti Try.prog 65 = some ⟨false, 1, 8⟩ := by kernel_rfl
@[go_sem] theorem zc65 : zc Try.prog 65 = some [.v .nilFunc] := by kernel_rfl
@[go_sem] theorem ti66 : ti Try.prog 66 = some ⟨false, 1, 8⟩ := by kernel_rfl
@[go_sem] theorem zc66 : zc Try.prog 66 = some [.v .nilFunc] := by kernel_rfl
@[go_sem] theorem ti67 : ti Try.prog 67 = some ⟨false, 1, 24⟩ := by kernel_rfl
@[go_sem] theorem zc67 : zc Try.prog 67 = some [.v (.slice none 0 0)] := by kernel_rfl
@[go_sem] theorem el67 : elT Try.prog 67 = some 153 := by kernel_rfl
@[go_sem] theorem ti68 : ti Try.prog 68 = some ⟨true, 3, 40⟩ := by kernel_rfl
@[go_sem] theorem zc68 : zc Try.prog 68 = some [.v (.int .i64 0), .v (.int .i64 0), .v (.slice none 0 0)] := by kernel_rfl
@[go_sem] theorem fo68_0 : fo Try.prog 68 0 = some (0, 3) := by kernel_rfl
@[go_sem] theorem fo68_1 : fo Try.prog 68 1 = some (1, 3) := by kernel_rfl
@[go_sem] theorem fo68_2 : fo Try.prog 68 2 = some (2, 67) := by kernel_rfl
@[go_sem] theorem ti69 : ti Try.prog 69 = some ⟨true, 3, 40⟩ := by kernel_rfl
@[go_sem] theorem zc69 : zc Try.prog 69 = some [.v (.int .i64 0), .v (.int .i64 0), .v (.slice none 0 0)] := by kernel_rfl
@[go_sem] theorem fo69_0 : fo Try.prog 69 0 = some (0, 3) := by kernel_rfl
@[go_sem] theorem fo69_1 : fo Try.prog 69 1 = some (1, 3) := by kernel_rfl
@[go_sem] theorem fo69_2 : fo Try.prog 69 2 = some (2, 67) := by kernel_rfl
@[go_sem] theorem ti70 : ti Try.prog 70 = some ⟨false, 1, 8⟩ := by kernel_rfl
@[go_sem] theorem zc70 : zc Try.prog 70 = some [.v .nilFunc] := by kernel_rfl
@[go_sem] theorem ti71 : ti Try.prog 71 = some ⟨false, 1, 8⟩ := by kernel_rfl
@[go_sem] theorem zc71 : zc Try.prog 71 = some [.v .nilFunc] := by kernel_rfl
@[go_sem] theorem ti72 : ti Try.prog 72 = some ⟨false, 1, 8⟩ := by kernel_rfl
@[go_sem] theorem zc72 : zc Try.prog 72 = some [.v .nilFunc] := by kernel_rfl
@[go_sem] theorem ti74 : ti Try.prog 74 = some ⟨false, 1, 8⟩ := by kernel_rfl
@[go_sem] theorem zc74 : zc Try.prog 74 = some [.v .nilFunc] := by kernel_rfl
@[go_sem] theorem ti75 : ti Try.prog 75 = some ⟨false, 1, 8⟩ := by kernel_rfl
@[go_sem] theorem zc75 : zc Try.prog 75 = some [.v .nilFunc] := by kernel_rfl
@[go_sem] theorem ti76 : ti Try.prog 76 = some ⟨false, 1, 8⟩ := by kernel_rfl
@[go_sem] theorem zc76 : zc Try.prog 76 = some [.v .nilFunc] := by kernel_rfl
@[go_sem] theorem ti77 : ti Try.prog 77 = some ⟨false, 1, 8⟩ := by kernel_rfl
@[go_sem] theorem zc77 : zc Try.prog 77 = some [.v .nilFunc] := by kernel_rfl
@[go_sem] theorem ti78 : ti Try.prog 78 = some ⟨false, 1, 8⟩ := by kernel_rfl
@[go_sem] theorem zc78 : zc Try.prog 78 = some [.v .nilFunc] := by kernel_rfl
@[go_sem] theorem ti80 : ti Try.prog 80 = some ⟨false, 1, 8⟩ := by kernel_rfl
@[go_sem] theorem zc80 : zc Try.prog 80 = some [.v .nilFunc] := by kernel_rfl
@[go_sem] theorem ti81 : ti Try.prog 81 = some ⟨false, 1, 8⟩ := by kernel_rfl
@[go_sem] theorem zc81 : zc Try.prog 81 = some [.v .nilFunc] := by kernel_rfl
@[go_sem] theorem ti82 : ti Try.prog 82 = some ⟨false, 1, 8⟩ := by kernel_rfl
@[go_sem] theorem zc82 : zc Try.prog 82 = some [.v .nilFunc] := by kernel_rfl
@[go_sem] theorem ti83 : ti Try.prog 83 = some ⟨false, 1, 8⟩ := by kernel_rfl
@[go_sem] theorem zc83 : zc Try.prog 83 = some [.v .nilFunc] := by kernel_rfl
@[go_sem] theorem ti84 : ti Try.prog 84 = some ⟨false, 1, 8⟩ := by kernel_rfl
@[go_sem] theorem zc84 : zc Try.prog 84 = some [.v .nilFunc] := by kernel_rfl
@[go_sem] theorem ti85 : ti Try.prog 85 = some ⟨false, 1, 8⟩ := by kernel_rfl
@[go_sem] theorem zc85 : zc Try.prog 85 = some [.v .nilFunc] := by kernel_rfl
@[go_sem] theorem ti86 : ti Try.prog 86 = some ⟨false, 1, 8⟩ := by kernel_rfl
@[go_sem] theorem zc86 : zc Try.prog 86 = some [.v .nilFunc] := by kernel_rfl
@[go_sem] theorem ti87 : ti Try.prog 87 = some ⟨false, 1, 8⟩ := by kernel_rfl
@[go_sem] theorem zc87 : zc Try.prog 87 = some [.v .nilFunc] := by kernel_rfl
@[go_sem] theorem ti88 : ti Try.prog 88 = some ⟨false, 1, 8⟩ := by kernel_rfl
@[go_sem] theorem zc88 : zc Try.prog 88 = some [.v .nilFunc] := by kernel_rfl
@[go_sem] theorem ti89 : ti Try.prog 89 = some ⟨false, 1, 8⟩ := by kernel_rfl
@[go_sem] theorem zc89 : zc Try.prog 89 = some [.v .nilFunc] := by kernel_rfl
@[go_sem] theorem ti90 : ti Try.prog 90 = some ⟨false, 1, 8⟩ := by kernel_rfl
@[go_sem] theorem zc90 : zc Try.prog 90 = some [.v .nilFunc] := by kernel_rfl
@[go_sem] theorem ti91 : ti Try.prog 91 = some ⟨false, 1, 8⟩ := by kernel_rfl
@[go_sem] theorem zc91 : zc Try.prog 91 = some [.v .nilFunc] := by kernel_rfl
@[go_sem] theorem ti92 : ti Try.prog 92 = some ⟨false, 1, 8⟩ := by kernel_rfl
@[go_sem] theorem zc92 : zc Try.prog 92 = some [.v .nilFunc] := by kernel_rfl
@[go_sem] theorem ti93 : ti Try.prog 93 = some ⟨false, 1, 8⟩ := by kernel_rfl
@[go_sem] theorem zc93 : zc Try.prog 93 = some [.v (.pointer none)] := by kernel_rfl
@[go_sem] theorem ti94 : ti Try.prog 94 = some ⟨false, 1, 8⟩ := by kernel_rfl
@[go_sem] theorem zc94 : zc Try.prog 94 = some [.v (.int .u64 0)] := by kernel_rfl
@[go_sem] theorem ti95 : ti Try.prog 95 = some ⟨true, 3, 40⟩ := by kernel_rfl
@[go_sem] theorem zc95 : zc Try.prog 95 = some [.v (.slice none 0 0), .v (.int .i64 0), .v (.int .u64 0)] := by kernel_rfl
@[go_sem] theorem fo95_0 : fo Try.prog 95 0 = some (0, 27) := by kernel_rfl
@[go_sem] theorem fo95_1 : fo Try.prog 95 1 = some (1, 3) := by kernel_rfl
@[go_sem] theorem fo95_2 : fo Try.prog 95 2 = some (2, 94) := by kernel_rfl
@[go_sem] theorem ti96 : ti Try.prog 96 = some ⟨true, 3, 40⟩ := by kernel_rfl
@[go_sem] theorem zc96 : zc Try.prog 96 = some [.v (.slice none 0 0), .v (.int .i64 0), .v (.int .u64 0)] := by kernel_rfl
@[go_sem] theorem fo96_0 : fo Try.prog 96 0 = some (0, 27) := by kernel_rfl
@[go_sem] theorem fo96_1 : fo Try.prog 96 1 = some (1, 3) := by kernel_rfl
@[go_sem] theorem fo96_2 : fo Try.prog 96 2 = some (2, 94) := by kernel_rfl
@[go_sem] theorem ti97 : ti Try.prog 97 = some ⟨false, 1, 8⟩ := by kernel_rfl
@[go_sem] theorem zc97 : zc Try.prog 97 = some [.v .nilFunc] := by kernel_rfl
@[go_sem] theorem ti98 : ti Try.prog 98 = some ⟨false, 1, 8⟩ := by kernel_rfl
@[go_sem] theorem zc98 : zc Try.prog 98 = some [.v .nilFunc] := by kernel_rfl
@[go_sem] theorem ti99 : ti Try.prog 99 = some ⟨false, 1, 8⟩ := by kernel_rfl
@[go_sem] theorem zc99 : zc Try.prog 99 = some [.v .nilFunc] := by kernel_rfl
@[go_sem] theorem ti100 : ti Try.prog 100 = some ⟨false, 1, 8⟩ := by kernel_rfl
@[go_sem] theorem zc100 : zc Try.prog 100 = some [.v .nilFunc] := by kernel_rfl
@[go_sem] theorem ti101 : ti Try.prog 101 = some ⟨false, 1, 8⟩ := by kernel_rfl
@[go_sem] theorem zc101 : zc Try.prog 101 = some [.v .nilFunc] := by kernel_rfl
@[go_sem] theorem ti102 : ti Try.prog 102 = some ⟨false, 1, 8⟩ := by kernel_rfl
@[go_sem] theorem zc102 : zc Try.prog 102 = some [.v .nilFunc] := by kernel_rfl
@[go_sem] theorem ti103 : ti Try.prog 103 = some ⟨false, 1, 8⟩ := by kernel_rfl
@[go_sem] theorem zc103 : zc Try.prog 103 = some [.v .nilFunc] := by kernel_rfl
@[go_sem] theorem ti104 : ti Try.prog 104 = some ⟨false, 1, 8⟩ := by kernel_rfl
@[go_sem] theorem zc104 : zc Try.prog 104 = some [.v .nilFunc] := by kernel_rfl
@[go_sem] theorem ti105 : ti Try.prog 105 = some ⟨false, 1, 8⟩ := by kernel_rfl
@[go_sem] theorem zc105 : zc Try.prog 105 = some [.v .nilFunc] := by kernel_rfl
@[go_sem] theorem ti106 : ti Try.prog 106 = some ⟨false, 1, 8⟩ := by kernel_rfl
@[go_sem] theorem zc106 : zc Try.prog 106 = some [.v .nilFunc] := by kernel_rfl
@[go_sem] theorem ti107 : ti Try.prog 107 = some ⟨false, 1, 24⟩ := by kernel_rfl
@[go_sem] theorem zc107 : zc Try.prog 107 = some [.v (.slice none 0 0)] := by kernel_rfl
@[go_sem] theorem el107 : elT Try.prog 107 = some 165 := by kernel_rfl
@[go_sem] theorem ti108 : ti Try.prog 108 = some ⟨false, 1, 8⟩ := by kernel_rfl
@[go_sem] theorem zc108 : zc Try.prog 108 = some [.v .nilFunc] := by kernel_rfl
@[go_sem] theorem ti109 : ti Try.prog 109 = some ⟨true, 4, 32⟩ := by kernel_rfl
@[go_sem] theorem zc109 : zc Try.prog 109 = some [.v (.int .i64 0), .v (.int .i64 0), .v (.int .i64 0), .v (.int .i64 0)] := by kernel_rfl
@[go_sem] theorem fo109_0 : fo Try.prog 109 0 = some (0, 3) := by kernel_rfl
@[go_sem] theorem fo109_1 : fo Try.prog 109 1 = some (1, 3) := by kernel_rfl
@[go_sem] theorem fo109_2 : fo Try.prog 109 2 = some (2, 3) := by kernel_rfl
@[go_sem] theorem fo109_3 : fo Try.prog 109 3 = some (3, 3) := by kernel_rfl
@[go_sem] theorem ti110 : ti Try.prog 110 = some ⟨true, 4, 32⟩ := by kernel_rfl
@[go_sem] theorem zc110 : zc Try.prog 110 = some [.v (.int .i64 0), .v (.int .i64 0), .v (.int .i64 0), .v (.int .i64 0)] := by kernel_rfl
@[go_sem] theorem fo110_0 : fo Try.prog 110 0 = some (0, 3) := by kernel_rfl
@[go_sem] theorem fo110_1 : fo Try.prog 110 1 = some (1, 3) := by kernel_rfl
@[go_sem] theorem fo110_2 : fo Try.prog 110 2 = some (2, 3) := by kernel_rfl
@[go_sem] theorem fo110_3 : fo Try.prog 110 3 = some (3, 3) := by kernel_rfl
@[go_sem] theorem ti111 : ti Try.prog 111 = some ⟨false, 1, 8⟩ := by kernel_rfl
@[go_sem] theorem zc111 : zc Try.prog 111 = some [.v .nilFunc] := by kernel_rfl
@[go_sem] theorem ti112 : ti Try.prog 112 = some ⟨false, 1, 8⟩ := by kernel_rfl
@[go_sem] theorem zc112 : zc Try.prog 112 = some [.v .nilFunc] := by kernel_rfl
@[go_sem] theorem ti113 : ti Try.prog 113 = some ⟨false, 1, 8⟩ := by kernel_rfl
@[go_sem] theorem zc113 : zc Try.prog 113 = some [.v .nilFunc] := by kernel_rfl
@[go_sem] theorem ti114 : ti Try.prog 114 = some ⟨false, 1, 8⟩ := by kernel_rfl
@[go_sem] theorem zc114 : zc Try.prog 114 = some [.v .nilFunc] := by kernel_rfl
@[go_sem] theorem ti115 : ti Try.prog 115 = some ⟨false, 1, 8⟩ := by kernel_rfl
@[go_sem] theorem zc115 : zc Try.prog 115 = some [.v .nilFunc] := by kernel_rfl
@[go_sem] theorem ti116 : ti Try.prog 116 = some ⟨true, 4, 32⟩ := by kernel_rfl
@[go_sem] theorem zc116 : zc Try.prog 116 = some [.v (.int .i64 0), .v (.int .i64 0), .v (.int .i64 0), .v (.int .i64 0)] := by kernel_rfl
@[go_sem] theorem fo116_0 : fo Try.prog 116 0 = some (0, 3) := by kernel_rfl
@[go_sem] theorem fo116_1 : fo Try.prog 116 1 = some (1, 3) := by kernel_rfl
@[go_sem] theorem fo116_2 : fo Try.prog 116 2 = some (2, 3) := by kernel_rfl
@[go_sem] theorem fo116_3 : fo Try.prog 116 3 = some (3, 3) := by kernel_rfl
@[go_sem] theorem ti117 : ti Try.prog 117 = some ⟨false, 1, 8⟩ := by kernel_rfl
@[go_sem] theorem zc117 : zc Try.prog 117 = some [.v .nilFunc] := by kernel_rfl
@[go_sem] theorem ti118 : ti Try.prog 118 = some ⟨false, 1, 8⟩ := by kernel_rfl
@[go_sem] theorem zc118 : zc Try.prog 118 = some [.v (.pointer none)] := by kernel_rfl
@[go_sem] theorem ti119 : ti Try.prog 119 = some ⟨false, 1, 8⟩ := by kernel_rfl
@[go_sem] theorem zc119 : zc Try.prog 119 = some [.v .nilFunc] := by kernel_rfl
@[go_sem] theorem ti120 : ti Try.prog 120 = some ⟨false, 1, 8⟩ := by kernel_rfl
@[go_sem] theorem zc120 : zc Try.prog 120 = some [.v .nilFunc] := by kernel_rfl
@[go_sem] theorem ti121 : ti Try.prog 121 = some ⟨false, 1, 8⟩ := by kernel_rfl
@[go_sem] theorem zc121 : zc Try.prog 121 = some [.v .nilFunc] := by kernel_rfl
@[go_sem] theorem ti122 : ti Try.prog 122 = some ⟨false, 1, 8⟩ := by kernel_rfl
@[go_sem] theorem zc122 : zc Try.prog 122 = some [.v .nilFunc] := by kernel_rfl
@[go_sem] theorem ti123 : ti Try.prog 123 = some ⟨false, 1, 8⟩ := by kernel_rfl
@[go_sem] theorem zc123 : zc Try.prog 123 = some [.v .nilFunc] := by kernel_rfl
@[go_sem] theorem ti124 : ti Try.prog 124 = some ⟨false, 1, 8⟩ := by kernel_rfl
@[go_sem] theorem zc124 : zc Try.prog 124 = some [.v .nilFunc] := by kernel_rfl
@[go_sem] theorem ti125 : ti Try.prog 125 = some ⟨false, 1, 8⟩ := by kernel_rfl
@[go_sem] theorem zc125 : zc Try.prog 125 = some [.v .nilFunc] := by kernel_rfl
@[go_sem] theorem ti126 : ti Try.prog 126 = some ⟨false, 1, 8⟩ := by kernel_rfl
@[go_sem] theorem zc126 : zc Try.prog 126 = some [.v .nilFunc] := by kernel_rfl
@[go_sem] theorem ti127 : ti Try.prog 127 = some ⟨false, 1, 8⟩ := by kernel_rfl
@[go_sem] theorem zc127 : zc Try.prog 127 = some [.v .nilFunc] := by kernel_rfl
@[go_sem] theorem ti128 : ti Try.prog 128 = some ⟨false, 1, 8⟩ := by kernel_rfl
@[go_sem] theorem zc128 : zc Try.prog 128 = some [.v .nilFunc] := by kernel_rfl
@[go_sem] theorem ti129 : ti Try.prog 129 = some ⟨false, 1, 8⟩ := by kernel_rfl
@[go_sem] theorem zc129 : zc Try.prog 129 = some [.v .nilFunc] := by kernel_rfl
@[go_sem] theorem ti130 : ti Try.prog 130 = some ⟨false, 1, 8⟩ := by kernel_rfl
@[go_sem] theorem zc130 : zc Try.prog 130 = some [.v .nilFunc] := by kernel_rfl
@[go_sem] theorem ti131 : ti Try.prog 131 = some ⟨false, 1, 8⟩ := by kernel_rfl
@[go_sem] theorem zc131 : zc Try.prog 131 = some [.v .nilFunc] := by kernel_rfl
@[go_sem] theorem ti132 : ti Try.prog 132 = some ⟨false, 1, 8⟩ := by kernel_rfl
@[go_sem] theorem zc132 : zc Try.prog 132 = some [.v .nilFunc] := by kernel_rfl
@[go_sem] theorem ti133 : ti Try.prog 133 = some ⟨false, 1, 8⟩ := by kernel_rfl
@[go_sem] theorem zc133 : zc Try.prog 133 = some [.v .nilFunc] := by kernel_rfl
@[go_sem] theorem ti134 : ti Try.prog 134 = some ⟨true, 3, 24⟩ := by kernel_rfl
@[go_sem] theorem zc134 : zc Try.prog 134 = some [.v (.int .i64 0), .v (.int .i64 0), .v (.int .i64 0)] := by kernel_rfl
@[go_sem] theorem fo134_0 : fo Try.prog 134 0 = some (0, 3) := by kernel_rfl
@[go_sem] theorem fo134_1 : fo Try.prog 134 1 = some (1, 3) := by kernel_rfl
@[go_sem] theorem fo134_2 : fo Try.prog 134 2 = some (2, 3) := by kernel_rfl
@[go_sem] theorem ti135 : ti Try.prog 135 = some ⟨true, 3, 24⟩ := by kernel_rfl
@[go_sem] theorem zc135 : zc Try.prog 135 = some [.v (.int .i64 0), .v (.int .i64 0), .v (.int .i64 0)] := by kernel_rfl
@[go_sem] theorem fo135_0 : fo Try.prog 135 0 = some (0, 3) := by kernel_rfl
@[go_sem] theorem fo135_1 : fo Try.prog 135 1 = some (1, 3) := by kernel_rfl
@[go_sem] theorem fo135_2 : fo Try.prog 135 2 = some (2, 3) := by kernel_rfl
@[go_sem] theorem ti136 : ti Try.prog 136 = some ⟨true, 3, 40⟩ := by kernel_rfl
@[go_sem] theorem zc136 : zc Try.prog 136 = some [.v (.int .i64 0), .v (.int .i64 0), .v (.slice none 0 0)] := by kernel_rfl
@[go_sem] theorem fo136_0 : fo Try.prog 136 0 = some (0, 3) := by kernel_rfl
@[go_sem] theorem fo136_1 : fo Try.prog 136 1 = some (1, 3) := by kernel_rfl
@[go_sem] theorem fo136_2 : fo Try.prog 136 2 = some (2, 22) := by kernel_rfl
@[go_sem] theorem ti137 : ti Try.prog 137 = some ⟨true, 3, 40⟩ := by kernel_rfl
@[go_sem] theorem zc137 : zc Try.prog 137 = some [.v (.int .i64 0), .v (.int .i64 0), .v (.slice none 0 0)] := by kernel_rfl
@[go_sem] theorem fo137_0 : fo Try.prog 137 0 = some (0, 3) := by kernel_rfl
@[go_sem] theorem fo137_1 : fo Try.prog 137 1 = some (1, 3) := by kernel_rfl
@[go_sem] theorem fo137_2 : fo Try.prog 137 2 = some (2, 22) := by kernel_rfl
@[go_sem] theorem ti138 : ti Try.prog 138 = some ⟨false, 1, 8⟩ := by kernel_rfl
@[go_sem] theorem zc138 : zc Try.prog 138 = some [.v .nilFunc] := by kernel_rfl
@[go_sem] theorem ti139 : ti Try.prog 139 = some ⟨false, 1, 8⟩ := by kernel_rfl
@[go_sem] theorem zc139 : zc Try.prog 139 = some [.v .nilFunc] := by kernel_rfl
@[go_sem] theorem ti140 : ti Try.prog 140 = some ⟨false, 1, 8⟩ := by kernel_rfl
@[go_sem] theorem zc140 : zc Try.prog 140 = some [.v .nilFunc] := by kernel_rfl
@[go_sem] theorem ti141 : ti Try.prog 141 = some ⟨false, 1, 8⟩ := by kernel_rfl
@[go_sem] theorem zc141 : zc Try.prog 141 = some [.v .nilFunc] := by kernel_rfl
@[go_sem] theorem ti142 : ti Try.prog 142 = some ⟨false, 1, 8⟩ := by kernel_rfl
@[go_sem] theorem zc142 : zc Try.prog 142 = some [.v .nilFunc] := by kernel_rfl
@[go_sem] theorem ti143 : ti Try.prog 143 = some ⟨false, 1, 8⟩ := by kernel_rfl
@[go_sem] theorem zc143 : zc Try.prog 143 = some [.v .nilFunc] := by kernel_rfl
@[go_sem] theorem ti144 : ti Try.prog 144 = some ⟨false, 1, 8⟩ := by kernel_rfl
@[go_sem] theorem zc144 : zc Try.prog 144 = some [.v .nilFunc] := by kernel_rfl
@[go_sem] theorem ti145 : ti Try.prog 145 = some ⟨false, 1, 8⟩ := by kernel_rfl
@[go_sem] theorem zc145 : zc Try.prog 145 = some [.v (.pointer none)] := by kernel_rfl
@[go_sem] theorem ti147 : ti Try.prog 147 = some ⟨false, 1, 8⟩ := by kernel_rfl
@[go_sem] theorem zc147 : zc Try.prog 147 = some [.v .nilFunc] := by kernel_rfl
@[go_sem] theorem ti148 : ti Try.prog 148 = some ⟨false, 1, 24⟩ := by kernel_rfl
@[go_sem] theorem zc148 : zc Try.prog 148 = some [.v (.slice none 0 0)] := by kernel_rfl
@[go_sem] theorem el148 : elT Try.prog 148 = some 145 := by kernel_rfl
@[go_sem] theorem ti149 : ti Try.prog 149 = some ⟨true, 7, 72⟩ := by kernel_rfl
@[go_sem] theorem zc149 : zc Try.prog 149 = some [.v (.int .i64 0), .v (.int .i64 0), .v (.int .i64 0), .v (.int .i64 0), .v (.int .i64 0), .v (.int .i64 0), .v (.slice none 0 0)] := by kernel_rfl
@[go_sem] theorem fo149_0 : fo Try.prog 149 0 = some (0, 3) := by kernel_rfl
@[go_sem] theorem fo149_1 : fo Try.prog 149 1 = some (1, 3) := by kernel_rfl
@[go_sem] theorem fo149_2 : fo Try.prog 149 2 = some (2, 3) := by kernel_rfl
@[go_sem] theorem fo149_3 : fo Try.prog 149 3 = some (3, 3) := by kernel_rfl
@[go_sem] theorem fo149_4 : fo Try.prog 149 4 = some (4, 3) := by kernel_rfl
@[go_sem] theorem fo149_5 : fo Try.prog 149 5 = some (5, 3) := by kernel_rfl
@[go_sem] theorem fo149_6 : fo Try.prog 149 6 = some (6, 148) := by kernel_rfl
@[go_sem] theorem ti150 : ti Try.prog 150 = some ⟨true, 7, 72⟩ := by kernel_rfl
@[go_sem] theorem zc150 : zc Try.prog 150 = some [.v (.int .i64 0), .v (.int .i64 0), .v (.int .i64 0), .v (.int .i64 0), .v (.int .i64 0), .v (.int .i64 0), .v (.slice none 0 0)] := by kernel_rfl
@[go_sem] theorem fo150_0 : fo Try.prog 150 0 = some (0, 3) := by kernel_rfl
@[go_sem] theorem fo150_1 : fo Try.prog 150 1 = some (1, 3) := by kernel_rfl
@[go_sem] theorem fo150_2 : fo Try.prog 150 2 = some (2, 3) := by kernel_rfl
@[go_sem] theorem fo150_3 : fo Try.prog 150 3 = some (3, 3) := by kernel_rfl
@[go_sem] theorem fo150_4 : fo Try.prog 150 4 = some (4, 3) := by kernel_rfl
@[go_sem] theorem fo150_5 : fo Try.prog 150 5 = some (5, 3) := by kernel_rfl
@[go_sem] theorem fo150_6 : fo Try.prog 150 6 = some (6, 148) := by kernel_rfl
@[go_sem] theorem ti151 : ti Try.prog 151 = some ⟨false, 1, 8⟩ := by kernel_rfl
@[go_sem] theorem zc151 : zc Try.prog 151 = some [.v .nilFunc] := by kernel_rfl
@[go_sem] theorem ti152 : ti Try.prog 152 = some ⟨true, 2, 32⟩ := by kernel_rfl
@[go_sem] theorem zc152 : zc Try.prog 152 = some [.v (.int .i64 0), .v (.slice none 0 0)] := by kernel_rfl
@[go_sem] theorem fo152_0 : fo Try.prog 152 0 = some (0, 3) := by kernel_rfl
@[go_sem] theorem fo152_1 : fo Try.prog 152 1 = some (1, 22) := by kernel_rfl
@[go_sem] theorem ti153 : ti Try.prog 153 = some ⟨true, 2, 32⟩ := by kernel_rfl
@[go_sem] theorem zc153 : zc Try.prog 153 = some [.v (.int .i64 0), .v (.slice none 0 0)] := by kernel_rfl
@[go_sem] theorem fo153_0 : fo Try.prog 153 0 = some (0, 3) := by kernel_rfl
@[go_sem] theorem fo153_1 : fo Try.prog 153 1 = some (1, 22) := by kernel_rfl
@[go_sem] theorem ti154 : ti Try.prog 154 = some ⟨true, 6, 48⟩ := by kernel_rfl
@[go_sem] theorem zc154 : zc Try.prog 154 = some [.v (.int .i64 0), .v (.int .i64 0), .v (.int .i64 0), .v (.int .i64 0), .v (.int .i64 0), .v (.int .i64 0)] := by kernel_rfl
@[go_sem] theorem ar154 : arT Try.prog 154 = some (6, 3) := by kernel_rfl
@[go_sem] theorem ti155 : ti Try.prog 155 = some ⟨false, 1, 8⟩ := by kernel_rfl
@[go_sem] theorem zc155 : zc Try.prog 155 = some [.v .nilFunc] := by kernel_rfl
@[go_sem] theorem ti156 : ti Try.prog 156 = some ⟨false, 1, 8⟩ := by kernel_rfl
@[go_sem] theorem zc156 : zc Try.prog 156 = some [.v .nilFunc] := by kernel_rfl
@[go_sem] theorem ti157 : ti Try.prog 157 = some ⟨false, 1, 8⟩ := by kernel_rfl
@[go_sem] theorem zc157 : zc Try.prog 157 = some [.v .nilFunc] := by kernel_rfl
@[go_sem] theorem ti158 : ti Try.prog 158 = some ⟨true, 3, 40⟩ := by kernel_rfl
@[go_sem] theorem zc158 : zc Try.prog 158 = some [.v (.int .i64 0), .v (.int .i64 0), .v (.slice none 0 0)] := by kernel_rfl
@[go_sem] theorem fo158_0 : fo Try.prog 158 0 = some (0, 3) := by kernel_rfl
@[go_sem] theorem fo158_1 : fo Try.prog 158 1 = some (1, 3) := by kernel_rfl
@[go_sem] theorem fo158_2 : fo Try.prog 158 2 = some (2, 22) := by kernel_rfl
@[go_sem] theorem ti159 : ti Try.prog 159 = some ⟨false, 1, 8⟩ := by kernel_rfl
@[go_sem] theorem zc159 : zc Try.prog 159 = some [.v .nilFunc] := by kernel_rfl
@[go_sem] theorem ti160 : ti Try.prog 160 = some ⟨true, 3, 24⟩ := by kernel_rfl
@[go_sem] theorem zc160 : zc Try.prog 160 = some [.v (.int .i64 0), .v (.int .i64 0), .v (.int .i64 0)] := by kernel_rfl
@[go_sem] theorem fo160_0 : fo Try.prog 160 0 = some (0, 3) := by kernel_rfl
@[go_sem] theorem fo160_1 : fo Try.prog 160 1 = some (1, 3) := by kernel_rfl
@[go_sem] theorem fo160_2 : fo Try.prog 160 2 = some (2, 3) := by kernel_rfl
@[go_sem] theorem ti161 : ti Try.prog 161 = some ⟨false, 1, 8⟩ := by kernel_rfl
@[go_sem] theorem zc161 : zc Try.prog 161 = some [.v .nilFunc] := by kernel_rfl
@[go_sem] theorem ti162 : ti Try.prog 162 = some ⟨false, 1, 8⟩ := by kernel_rfl
@[go_sem] theorem zc162 : zc Try.prog 162 = some [.v .nilFunc] := by kernel_rfl
@[go_sem] theorem ti163 : ti Try.prog 163 = some ⟨false, 1, 8⟩ := by kernel_rfl
@[go_sem] theorem zc163 : zc Try.prog 163 = some [.v .nilFunc] := by kernel_rfl
@[go_sem] theorem ti164 : ti Try.prog 164 = some ⟨true, 3, 24⟩ := by kernel_rfl
@[go_sem] theorem zc164 : zc Try.prog 164 = some [.v (.int .i64 0), .v (.int .i64 0), .v (.bool false)] := by kernel_rfl
@[go_sem] theorem fo164_0 : fo Try.prog 164 0 = some (0, 3) := by kernel_rfl
@[go_sem] theorem fo164_1 : fo Try.prog 164 1 = some (1, 3) := by kernel_rfl
@[go_sem] theorem fo164_2 : fo Try.prog 164 2 = some (2, 4) := by kernel_rfl
@[go_sem] theorem ti165 : ti Try.prog 165 = some ⟨true, 3, 24⟩ := by kernel_rfl
@[go_sem] theorem zc165 : zc Try.prog 165 = some [.v (.int .i64 0), .v (.int .i64 0), .v (.bool false)] := by kernel_rfl
@[go_sem] theorem fo165_0 : fo Try.prog 165 0 = some (0, 3) := by kernel_rfl
@[go_sem] theorem fo165_1 : fo Try.prog 165 1 = some (1, 3) := by kernel_rfl
@[go_sem] theorem fo165_2 : fo Try.prog 165 2 = some (2, 4) := by kernel_rfl
@[go_sem] theorem ti166 : ti Try.prog 166 = some ⟨false, 1, 8⟩ := by kernel_rfl
@[go_sem] theorem zc166 : zc Try.prog 166 = some [.v .nilFunc] := by kernel_rfl
@[go_sem] theorem ti167 : ti Try.prog 167 = some ⟨false, 1, 24⟩ := by kernel_rfl
@[go_sem] theorem zc167 : zc Try.prog 167 = some [.v (.slice none 0 0)] := by kernel_rfl
@[go_sem] theorem el167 : elT Try.prog 167 = some 4 := by kernel_rfl
@[go_sem] theorem ti168 : ti Try.prog 168 = some ⟨true, 4, 64⟩ := by kernel_rfl
@[go_sem] theorem zc168 : zc Try.prog 168 = some [.v (.int .i64 0), .v (.int .i64 0), .v (.slice none 0 0), .v (.slice none 0 0)] := by kernel_rfl
@[go_sem] theorem fo168_0 : fo Try.prog 168 0 = some (0, 3) := by kernel_rfl
@[go_sem] theorem fo168_1 : fo Try.prog 168 1 = some (1, 3) := by kernel_rfl
@[go_sem] theorem fo168_2 : fo Try.prog 168 2 = some (2, 22) := by kernel_rfl
@[go_sem] theorem fo168_3 : fo Try.prog 168 3 = some (3, 167) := by kernel_rfl
@[go_sem] theorem ti169 : ti Try.prog 169 = some ⟨true, 4, 64⟩ := by kernel_rfl
@[go_sem] theorem zc169 : zc Try.prog 169 = some [.v (.int .i64 0), .v (.int .i64 0), .v (.slice none 0 0), .v (.slice none 0 0)] := by kernel_rfl
@[go_sem] theorem fo169_0 : fo Try.prog 169 0 = some (0, 3) := by kernel_rfl
@[go_sem] theorem fo169_1 : fo Try.prog 169 1 = some (1, 3) := by kernel_rfl
@[go_sem] theorem fo169_2 : fo Try.prog 169 2 = some (2, 22) := by kernel_rfl
@[go_sem] theorem fo169_3 : fo Try.prog 169 3 = some (3, 167) := by kernel_rfl
@[go_sem] theorem ti170 : ti Try.prog 170 = some ⟨false, 1, 8⟩ := by kernel_rfl
@[go_sem] theorem zc170 : zc Try.prog 170 = some [.v .nilFunc] := by kernel_rfl
@[go_sem] theorem ti171 : ti Try.prog 171 = some ⟨false, 1, 8⟩ := by kernel_rfl
@[go_sem] theorem zc171 : zc Try.prog 171 = some [.v .nilFunc] := by kernel_rfl
@[go_sem] theorem ti172 : ti Try.prog 172 = some ⟨true, 2, 32⟩ := by kernel_rfl
@[go_sem] theorem zc172 : zc Try.prog 172 = some [.v (.int .i64 0), .v (.slice none 0 0)] := by kernel_rfl
@[go_sem] theorem fo172_0 : fo Try.prog 172 0 = some (0, 3) := by kernel_rfl
@[go_sem] theorem fo172_1 : fo Try.prog 172 1 = some (1, 22) := by kernel_rfl
@[go_sem] theorem ti173 : ti Try.prog 173 = some ⟨false, 1, 8⟩ := by kernel_rfl
@[go_sem] theorem zc173 : zc Try.prog 173 = some [.v .nilFunc] := by kernel_rfl
@[go_sem] theorem ti174 : ti Try.prog 174 = some ⟨false, 1, 8⟩ := by kernel_rfl
@[go_sem] theorem zc174 : zc Try.prog 174 = some [.v .nilFunc] := by kernel_rfl
@[go_sem] theorem ti175 : ti Try.prog 175 = some ⟨false, 1, 8⟩ := by kernel_rfl
@[go_sem] theorem zc175 : zc Try.prog 175 = some [.v .nilFunc] := by kernel_rfl
@[go_sem] theorem ti176 : ti Try.prog 176 = some ⟨false, 1, 8⟩ := by kernel_rfl
@[go_sem] theorem zc176 : zc Try.prog 176 = some [.v .nilFunc] := by kernel_rfl
@[go_sem] theorem ti177 : ti Try.prog 177 = some ⟨false, 1, 8⟩ := by kernel_rfl
@[go_sem] theorem zc177 : zc Try.prog 177 = some [.v .nilFunc] := by kernel_rfl
@[go_sem] theorem ti178 : ti Try.prog 178 = some ⟨false, 1, 8⟩ := by kernel_rfl
@[go_sem] theorem zc178 : zc Try.prog 178 = some [.v .nilFunc] := by kernel_rfl
@[go_sem] theorem ti179 : ti Try.prog 179 = some ⟨true, 11, 11⟩ := by kernel_rfl
@[go_sem] theorem zc179 : zc Try.prog 179 = some [.v (.bool false), .v (.bool false), .v (.bool false), .v (.bool false), .v (.bool false), .v (.bool false), .v (.bool false), .v (.bool false), .v (.bool false), .v (.bool false), .v (.bool false)] := by kernel_rfl
@[go_sem] theorem ar179 : arT Try.prog 179 = some (11, 4) := by kernel_rfl
@[go_sem] theorem ti184 : ti Try.prog 184 = some ⟨false, 1, 8⟩ := by kernel_rfl
@[go_sem] theorem zc184 : zc Try.prog 184 = some [.v (.pointer none)] := by kernel_rfl
@[go_sem] theorem ti185 : ti Try.prog 185 = some ⟨false, 1, 8⟩ := by kernel_rfl
@[go_sem] theorem zc185 : zc Try.prog 185 = some [.v .nilFunc] := by kernel_rfl
@[go_sem] theorem ti187 : ti Try.prog 187 = some ⟨false, 1, 8⟩ := by kernel_rfl
@[go_sem] theorem zc187 : zc Try.prog 187 = some [.v .nilFunc] := by kernel_rfl
@[go_sem] theorem ti188 : ti Try.prog 188 = some ⟨false, 1, 8⟩ := by kernel_rfl
@[go_sem] theorem zc188 : zc Try.prog 188 = some [.v .nilFunc] := by kernel_rfl
@[go_sem] theorem ti190 : ti Try.prog 190 = some ⟨false, 1, 8⟩ := by kernel_rfl
@[go_sem] theorem zc190 : zc Try.prog 190 = some [.v .nilFunc] := by kernel_rfl
@[go_sem] theorem ti191 : ti Try.prog 191 = some ⟨false, 1, 8⟩ := by kernel_rfl
@[go_sem] theorem zc191 : zc Try.prog 191 = some [.v .nilFunc] := by kernel_rfl
@[go_sem] theorem ti192 : ti Try.prog 192 = some ⟨false, 1, 8⟩ := by kernel_rfl
@[go_sem] theorem zc192 : zc Try.prog 192 = some [.v .nilFunc] := by kernel_rfl
@[go_sem] theorem ti193 : ti Try.prog 193 = some ⟨false, 1, 8⟩ := by kernel_rfl
@[go_sem] theorem zc193 : zc Try.prog 193 = some [.v .nilFunc] := by kernel_rfl
@[go_sem] theorem ti194 : ti Try.prog 194 = some ⟨false, 1, 8⟩ := by kernel_rfl
@[go_sem] theorem zc194 : zc Try.prog 194 = some [.v .nilFunc] := by kernel_rfl
@[go_sem] theorem ti195 : ti Try.prog 195 = some ⟨false, 1, 8⟩ := by kernel_rfl
@[go_sem] theorem zc195 : zc Try.prog 195 = some [.v .nilFunc] := by kernel_rfl
@[go_sem] theorem ti196 : ti Try.prog 196 = some ⟨false, 1, 8⟩ := by kernel_rfl
@[go_sem] theorem zc196 : zc Try.prog 196 = some [.v .nilFunc] := by kernel_rfl
@[go_sem] theorem ti198 : ti Try.prog 198 = some ⟨false, 1, 8⟩ := by kernel_rfl
@[go_sem] theorem zc198 : zc Try.prog 198 = some [.v .nilFunc] := by kernel_rfl
@[go_sem] theorem ti199 : ti Try.prog 199 = some ⟨false, 1, 8⟩ := by kernel_rfl
@[go_sem] theorem zc199 : zc Try.prog 199 = some [.v (.int .u64 0)] := by kernel_rfl
@[go_sem] theorem ti200 : ti Try.prog 200 = some ⟨false, 1, 8⟩ := by kernel_rfl
@[go_sem] theorem zc200 : zc Try.prog 200 = some [.v .nilFunc] := by kernel_rfl
@[go_sem] theorem ti201 : ti Try.prog 201 = some ⟨false, 1, 8⟩ := by kernel_rfl
@[go_sem] theorem zc201 : zc Try.prog 201 = some [.v .nilFunc] := by kernel_rfl
@[go_sem] theorem ti202 : ti Try.prog 202 = some ⟨false, 1, 24⟩ := by kernel_rfl
@[go_sem] theorem zc202 : zc Try.prog 202 = some [.v (.slice none 0 0)] := by kernel_rfl
@[go_sem] theorem el202 : elT Try.prog 202 = some 167 := by kernel_rfl
@[go_sem] theorem ti203 : ti Try.prog 203 = some ⟨false, 1, 8⟩ := by kernel_rfl
@[go_sem] theorem zc203 : zc Try.prog 203 = some [.v .nilFunc] := by kernel_rfl
@[go_sem] theorem ti205 : ti Try.prog 205 = some ⟨false, 1, 8⟩ := by kernel_rfl
@[go_sem] theorem zc205 : zc Try.prog 205 = some [.v .nilFunc] := by kernel_rfl
@[go_sem] theorem ti208 : ti Try.prog 208 = some ⟨false, 1, 8⟩ := by kernel_rfl
@[go_sem] theorem zc208 : zc Try.prog 208 = some [.v .nilFunc] := by kernel_rfl
@[go_sem] theorem ti209 : ti Try.prog 209 = some ⟨false, 1, 8⟩ := by kernel_rfl
@[go_sem] theorem zc209 : zc Try.prog 209 = some [.v .nilFunc] := by kernel_rfl
@[go_sem] theorem ti210 : ti Try.prog 210 = some ⟨false, 1, 8⟩ := by kernel_rfl
@[go_sem] theorem zc210 : zc Try.prog 210 = some [.v .nilFunc] := by kernel_rfl
@[go_sem] theorem ti211 : ti Try.prog 211 = some ⟨false, 1, 8⟩ := by kernel_rfl
@[go_sem] theorem zc211 : zc Try.prog 211 = some [.v .nilFunc] := by kernel_rfl
@[go_sem] theorem ti212 : ti Try.prog 212 = some ⟨false, 1, 8⟩ := by kernel_rfl
@[go_sem] theorem zc212 : zc Try.prog 212 = some [.v .nilFunc] := by kernel_rfl
@[go_sem] theorem ti213 : ti Try.prog 213 = some ⟨false, 1, 8⟩ := by kernel_rfl
@[go_sem] theorem zc213 : zc Try.prog 213 = some [.v .nilFunc] := by kernel_rfl
@[go_sem] theorem ti214 : ti Try.prog 214 = some ⟨false, 1, 8⟩ := by kernel_rfl
@[go_sem] theorem zc214 : zc Try.prog 214 = some [.v .nilFunc] := by kernel_rfl
@[go_sem] theorem ti215 : ti Try.prog 215 = some ⟨false, 1, 8⟩ := by kernel_rfl
@[go_sem] theorem zc215 : zc Try.prog 215 = some [.v .nilFunc] := by kernel_rfl
@[go_sem] theorem ti216 : ti Try.prog 216 = some ⟨false, 1, 8⟩ := by kernel_rfl
@[go_sem] theorem zc216 : zc Try.prog 216 = some [.v .nilFunc] := by kernel_rfl
@[go_sem] theorem ti217 : ti Try.prog 217 = some ⟨false, 1, 8⟩ := by kernel_rfl
@[go_sem] theorem zc217 : zc Try.prog 217 = some [.v .nilFunc] := by kernel_rfl
@[go_sem] theorem ti218 : ti Try.prog 218 = some ⟨false, 1, 8⟩ := by kernel_rfl
@[go_sem] theorem zc218 : zc Try.prog 218 = some [.v .nilFunc] := by kernel_rfl
@[go_sem] theorem ti219 : ti Try.prog 219 = some ⟨false, 1, 8⟩ := by kernel_rfl
@[go_sem] theorem zc219 : zc Try.prog 219 = some [.v .nilFunc] := by kernel_rfl
@[go_sem] theorem ti220 : ti Try.prog 220 = some ⟨false, 1, 8⟩ := by kernel_rfl
@[go_sem] theorem zc220 : zc Try.prog 220 = some [.v .nilFunc] := by kernel_rfl
@[go_sem] theorem ti221 : ti Try.prog 221 = some ⟨false, 1, 8⟩ := by kernel_rfl
@[go_sem] theorem zc221 : zc Try.prog 221 = some [.v .nilFunc] := by kernel_rfl
@[go_sem] theorem ti222 : ti Try.prog 222 = some ⟨false, 1, 8⟩ := by kernel_rfl
@[go_sem] theorem zc222 : zc Try.prog 222 = some [.v .nilFunc] := by kernel_rfl
@[go_sem] theorem ti223 : ti Try.prog 223 = some ⟨false, 1, 8⟩ := by kernel_rfl
@[go_sem] theorem zc223 : zc Try.prog 223 = some [.v .nilFunc] := by kernel_rfl
@[go_sem] theorem ti224 : ti Try.prog 224 = some ⟨false, 1, 8⟩ := by kernel_rfl
@[go_sem] theorem zc224 : zc Try.prog 224 = some [.v .nilFunc] := by kernel_rfl
@[go_sem] theorem ti225 : ti Try.prog 225 = some ⟨false, 1, 8⟩ := by kernel_rfl
@[go_sem] theorem zc225 : zc Try.prog 225 = some [.v (.int .i64 0)] := by kernel_rfl
@[go_sem] theorem ti227 : ti Try.prog 227 = some ⟨false, 1, 8⟩ := by kernel_rfl
@[go_sem] theorem zc227 : zc Try.prog 227 = some [.v .nilFunc] := by kernel_rfl
@[go_sem] theorem ti228 : ti Try.prog 228 = some ⟨false, 1, 8⟩ := by kernel_rfl
@[go_sem] theorem zc228 : zc Try.prog 228 = some [.v .nilFunc] := by kernel_rfl
@[go_sem] theorem ti229 : ti Try.prog 229 = some ⟨false, 1, 8⟩ := by kernel_rfl
@[go_sem] theorem zc229 : zc Try.prog 229 = some [.v .nilFunc] := by kernel_rfl
@[go_sem] theorem ti230 : ti Try.prog 230 = some ⟨false, 1, 8⟩ := by kernel_rfl
@[go_sem] theorem zc230 : zc Try.prog 230 = some [.v .nilFunc] := by kernel_rfl
@[go_sem] theorem ti231 : ti Try.prog 231 = some ⟨false, 1, 8⟩ := by kernel_rfl
@[go_sem] theorem zc231 : zc Try.prog 231 = some [.v .nilFunc] := by kernel_rfl
@[go_sem] theorem ti232 : ti Try.prog 232 = some ⟨false, 1, 4⟩ := by kernel_rfl
@[go_sem] theorem zc232 : zc Try.prog 232 = some [.v (.int .u32 0)] := by kernel_rfl
@[go_sem] theorem ti233 : ti Try.prog 233 = some ⟨false, 1, 8⟩ := by kernel_rfl
@[go_sem] theorem zc233 : zc Try.prog 233 = some [.v .nilFunc] := by kernel_rfl
@[go_sem] theorem ti234 : ti Try.prog 234 = some ⟨false, 1, 8⟩ := by kernel_rfl
@[go_sem] theorem zc234 : zc Try.prog 234 = some [.v (.int .u64 0)] := by kernel_rfl
@[go_sem] theorem ti235 : ti Try.prog 235 = some ⟨false, 1, 8⟩ := by kernel_rfl
@[go_sem] theorem zc235 : zc Try.prog 235 = some [.v .nilFunc] := by kernel_rfl
@[go_sem] theorem ti236 : ti Try.prog 236 = some ⟨false, 1, 8⟩ := by kernel_rfl
@[go_sem] theorem zc236 : zc Try.prog 236 = some [.v .nilFunc] := by kernel_rfl
@[go_sem] theorem ti237 : ti Try.prog 237 = some ⟨false, 1, 8⟩ := by kernel_rfl
@[go_sem] theorem zc237 : zc Try.prog 237 = some [.v .nilFunc] := by kernel_rfl
@[go_sem] theorem ti238 : ti Try.prog 238 = some ⟨false, 1, 8⟩ := by kernel_rfl
@[go_sem] theorem zc238 : zc Try.prog 238 = some [.v (.pointer none)] := by kernel_rfl
@[go_sem] theorem ti239 : ti Try.prog 239 = some ⟨false, 1, 8⟩ := by kernel_rfl
@[go_sem] theorem zc239 : zc Try.prog 239 = some [.v .nilFunc] := by kernel_rfl
@[go_sem] theorem ti240 : ti Try.prog 240 = some ⟨false, 1, 8⟩ := by kernel_rfl
@[go_sem] theorem zc240 : zc Try.prog 240 = some [.v (.pointer none)] := by kernel_rfl
end Go.Proofs.Ytbapglkldnlckaa.En
