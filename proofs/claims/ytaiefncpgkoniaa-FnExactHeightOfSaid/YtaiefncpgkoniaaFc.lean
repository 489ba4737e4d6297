/- Facts of this seat's types. -/
import Derived.Test.YtaiefncpgkoniaaProg
import Derived.Test.YtaiefncpgkoniaaEn22
import Derived.KernelRfl
namespace Go.Proofs.Ytaiefncpgkoniaa.En
theorem mixed : Try.prog.follows .mixedOrders = true := by kernel_rfl
@[go_sem] theorem ti1 : ti Try.prog 1 = some ⟨false, 1, 8⟩ := by kernel_rfl
@[go_sem] theorem zc1 : zc Try.prog 1 = some [.v .nilFunc] := by kernel_rfl
@[go_sem] theorem ti2 : ti Try.prog 2 = some ⟨false, 1, 8⟩ := by kernel_rfl
@[go_sem] theorem zc2 : zc Try.prog 2 = some [.v (.int .i64 0)] := by kernel_rfl
@[go_sem] theorem ti3 : ti Try.prog 3 = some ⟨false, 1, 8⟩ := by kernel_rfl
@[go_sem] theorem zc3 : zc Try.prog 3 = some [.v (.int .i64 0)] := by kernel_rfl
@[go_sem] theorem ti4 : ti Try.prog 4 = some ⟨false, 1, 1⟩ := by kernel_rfl
@[go_sem] theorem zc4 : zc Try.prog 4 = some [.v (.bool false)] := by kernel_rfl
@[go_sem] theorem bo4 : isBoolT Try.prog 4 = true := by kernel_rfl
@[go_sem] theorem ti5 : ti Try.prog 5 = some ⟨false, 1, 1⟩ := by kernel_rfl
@[go_sem] theorem zc5 : zc Try.prog 5 = some [.v (.int .u8 0)] := by kernel_rfl
@[go_sem] theorem ti6 : ti Try.prog 6 = some ⟨false, 1, 1⟩ := by kernel_rfl
@[go_sem] theorem zc6 : zc Try.prog 6 = some [.v (.int .u8 0)] := by kernel_rfl
@[go_sem] theorem ti12 : ti Try.prog 12 = some ⟨false, 1, 8⟩ := by kernel_rfl
@[go_sem] theorem zc12 : zc Try.prog 12 = some [.v (.int .u64 0)] := by kernel_rfl
@[go_sem] theorem ti15 : ti Try.prog 15 = some ⟨false, 1, 8⟩ := by kernel_rfl
@[go_sem] theorem zc15 : zc Try.prog 15 = some [.v (.pointer none)] := by kernel_rfl
@[go_sem] theorem ti16 : ti Try.prog 16 = some ⟨false, 1, 8⟩ := by kernel_rfl
@[go_sem] theorem zc16 : zc Try.prog 16 = some [.v (.pointer none)] := by kernel_rfl
@[go_sem] theorem ti17 : ti Try.prog 17 = some ⟨false, 1, 8⟩ := by kernel_rfl
@[go_sem] theorem zc17 : zc Try.prog 17 = some [.v (.pointer none)] := by kernel_rfl
@[go_sem] theorem ti21 : ti Try.prog 21 = some ⟨false, 1, 4⟩ := by kernel_rfl
@[go_sem] theorem zc21 : zc Try.prog 21 = some [.v (.int .i32 0)] := by kernel_rfl
@[go_sem] theorem ti22 : ti Try.prog 22 = some ⟨false, 1, 24⟩ := by kernel_rfl
@[go_sem] theorem zc22 : zc Try.prog 22 = some [.v (.slice none 0 0)] := by kernel_rfl
@[go_sem] theorem el22 : elT Try.prog 22 = some 63 := by kernel_rfl
@[go_sem] theorem ti23 : ti Try.prog 23 = some ⟨true, 3, 40⟩ := by kernel_rfl
@[go_sem] theorem zc23 : zc Try.prog 23 = some [.v (.int .i64 0), .v (.int .i64 0), .v (.slice none 0 0)] := by kernel_rfl
@[go_sem] theorem fo23_0 : fo Try.prog 23 0 = some (0, 3) := by kernel_rfl
@[go_sem] theorem fo23_1 : fo Try.prog 23 1 = some (1, 3) := by kernel_rfl
@[go_sem] theorem fo23_2 : fo Try.prog 23 2 = some (2, 22) := by kernel_rfl
@[go_sem] theorem ti24 : ti Try.prog 24 = some ⟨true, 3, 40⟩ := by kernel_rfl
@[go_sem] theorem zc24 : zc Try.prog 24 = some [.v (.int .i64 0), .v (.int .i64 0), .v (.slice none 0 0)] := by kernel_rfl
@[go_sem] theorem fo24_0 : fo Try.prog 24 0 = some (0, 3) := by kernel_rfl
@[go_sem] theorem fo24_1 : fo Try.prog 24 1 = some (1, 3) := by kernel_rfl
@[go_sem] theorem fo24_2 : fo Try.prog 24 2 = some (2, 22) := by kernel_rfl
@[go_sem] theorem ti25 : ti Try.prog 25 = some ⟨false, 1, 24⟩ := by kernel_rfl
@[go_sem] theorem zc25 : zc Try.prog 25 = some [.v (.slice none 0 0)] := by kernel_rfl
@[go_sem] theorem el25 : elT Try.prog 25 = some 3 := by kernel_rfl
@[go_sem] theorem ti26 : ti Try.prog 26 = some ⟨false, 1, 8⟩ := by kernel_rfl
@[go_sem] theorem zc26 : zc Try.prog 26 = some [.v .nilFunc] := by kernel_rfl
@[go_sem] theorem ti28 : ti Try.prog 28 = some ⟨false, 1, 8⟩ := by kernel_rfl
@[go_sem] theorem zc28 : zc Try.prog 28 = some [.v .nilFunc] := by kernel_rfl
@[go_sem] theorem ti29 : ti Try.prog 29 = some ⟨false, 1, 24⟩ := by kernel_rfl
@[go_sem] theorem zc29 : zc Try.prog 29 = some [.v (.slice none 0 0)] := by kernel_rfl
@[go_sem] theorem el29 : elT Try.prog 29 = some 65 := by kernel_rfl
@[go_sem] theorem ti30 : ti Try.prog 30 = some ⟨true, 3, 40⟩ := by kernel_rfl
@[go_sem] theorem zc30 : zc Try.prog 30 = some [.v (.int .i64 0), .v (.int .i64 0), .v (.slice none 0 0)] := by kernel_rfl
@[go_sem] theorem fo30_0 : fo Try.prog 30 0 = some (0, 3) := by kernel_rfl
@[go_sem] theorem fo30_1 : fo Try.prog 30 1 = some (1, 3) := by kernel_rfl
@[go_sem] theorem fo30_2 : fo Try.prog 30 2 = some (2, 29) := by kernel_rfl
@[go_sem] theorem ti31 : ti Try.prog 31 = some ⟨true, 3, 40⟩ := by kernel_rfl
@[go_sem] theorem zc31 : zc Try.prog 31 = some [.v (.int .i64 0), .v (.int .i64 0), .v (.slice none 0 0)] := by kernel_rfl
@[go_sem] theorem fo31_0 : fo Try.prog 31 0 = some (0, 3) := by kernel_rfl
@[go_sem] theorem fo31_1 : fo Try.prog 31 1 = some (1, 3) := by kernel_rfl
@[go_sem] theorem fo31_2 : fo Try.prog 31 2 = some (2, 29) := by kernel_rfl
@[go_sem] theorem ti32 : ti Try.prog 32 = some ⟨false, 1, 8⟩ := by kernel_rfl
@[go_sem] theorem zc32 : zc Try.prog 32 = some [.v .nilFunc] := by kernel_rfl
@[go_sem] theorem ti33 : ti Try.prog 33 = some ⟨false, 1, 8⟩ := by kernel_rfl
@[go_sem] theorem zc33 : zc Try.prog 33 = some [.v .nilFunc] := by kernel_rfl
@[go_sem] theorem ti34 : ti Try.prog 34 = some ⟨false, 1, 8⟩ := by kernel_rfl
@[go_sem] theorem zc34 : zc Try.prog 34 = some [.v .nilFunc] := by kernel_rfl
@[go_sem] theorem ti35 : ti Try.prog 35 = some ⟨false, 1, 8⟩ := by kernel_rfl
@[go_sem] theorem zc35 : zc Try.prog 35 = some [.v .nilFunc] := by kernel_rfl
@[go_sem] theorem ti36 : ti Try.prog 36 = some ⟨false, 1, 8⟩ := by kernel_rfl
@[go_sem] theorem zc36 : zc Try.prog 36 = some [.v .nilFunc] := by kernel_rfl
@[go_sem] theorem ti38 : ti Try.prog 38 = some ⟨false, 1, 8⟩ := by kernel_rfl
@[go_sem] theorem zc38 : zc Try.prog 38 = some [.v .nilFunc] := by kernel_rfl
@[go_sem] theorem ti39 : ti Try.prog 39 = some ⟨false, 1, 8⟩ := by kernel_rfl
@[go_sem] theorem zc39 : zc Try.prog 39 = some [.v .nilFunc] := by kernel_rfl
@[go_sem] theorem ti40 : ti Try.prog 40 = some ⟨false, 1, 8⟩ := by kernel_rfl
@[go_sem] theorem zc40 : zc Try.prog 40 = some [.v .nilFunc] := by kernel_rfl
@[go_sem] theorem ti41 : ti Try.prog 41 = some ⟨false, 1, 8⟩ := by kernel_rfl
@[go_sem] theorem zc41 : zc Try.prog 41 = some [.v .nilFunc] := by kernel_rfl
@[go_sem] theorem ti42 : ti Try.prog 42 = some ⟨false, 1, 8⟩ := by kernel_rfl
@[go_sem] theorem zc42 : zc Try.prog 42 = some [.v .nilFunc] := by kernel_rfl
@[go_sem] theorem ti43 : ti Try.prog 43 = some ⟨false, 1, 8⟩ := by kernel_rfl
@[go_sem] theorem zc43 : zc Try.prog 43 = some [.v .nilFunc] := by kernel_rfl
@[go_sem] theorem ti45 : ti Try.prog 45 = some ⟨false, 1, 8⟩ := by kernel_rfl
@[go_sem] theorem zc45 : zc Try.prog 45 = some [.v .nilFunc] := by kernel_rfl
@[go_sem] theorem ti46 : ti Try.prog 46 = some ⟨false, 1, 8⟩ := by kernel_rfl
@[go_sem] theorem zc46 : zc Try.prog 46 = some [.v .nilFunc] := by kernel_rfl
@[go_sem] theorem ti47 : ti Try.prog 47 = some ⟨false, 1, 8⟩ := by kernel_rfl
@[go_sem] theorem zc47 : zc Try.prog 47 = some [.v .nilFunc] := by kernel_rfl
@[go_sem] theorem ti48 : ti Try.prog 48 = some ⟨false, 1, 8⟩ := by kernel_rfl
@[go_sem] theorem zc48 : zc Try.prog 48 = some [.v .nilFunc] := by kernel_rfl
@[go_sem] theorem ti49 : ti Try.prog 49 = some ⟨false, 1, 8⟩ := by kernel_rfl
@[go_sem] theorem zc49 : zc Try.prog 49 = some [.v (.pointer none)] := by kernel_rfl
@[go_sem] theorem ti51 : ti Try.prog 51 = some ⟨false, 1, 8⟩ := by kernel_rfl
@[go_sem] theorem zc51 : zc Try.prog 51 = some [.v .nilFunc] := by kernel_rfl
@[go_sem] theorem ti52 : ti Try.prog 52 = some ⟨false, 1, 24⟩ := by kernel_rfl
@[go_sem] theorem zc52 : zc Try.prog 52 = some [.v (.slice none 0 0)] := by kernel_rfl
@[go_sem] theorem el52 : elT Try.prog 52 = some 49 := by kernel_rfl
@[go_sem] theorem ti53 : ti Try.prog 53 = some ⟨true, 7, 72⟩ := by kernel_rfl
@[go_sem] theorem zc53 : zc Try.prog 53 = some [.v (.int .i64 0), .v (.int .i64 0), .v (.int .i64 0), .v (.int .i64 0), .v (.int .i64 0), .v (.int .i64 0), .v (.slice none 0 0)] := by kernel_rfl
@[go_sem] theorem fo53_0 : fo Try.prog 53 0 = some (0, 3) := by kernel_rfl
@[go_sem] theorem fo53_1 : fo Try.prog 53 1 = some (1, 3) := by kernel_rfl
@[go_sem] theorem fo53_2 : fo Try.prog 53 2 = some (2, 3) := by kernel_rfl
@[go_sem] theorem fo53_3 : fo Try.prog 53 3 = some (3, 3) := by kernel_rfl
@[go_sem] theorem fo53_4 : fo Try.prog 53 4 = some (4, 3) := by kernel_rfl
@[go_sem] theorem fo53_5 : fo Try.prog 53 5 = some (5, 3) := by kernel_rfl
@[go_sem] theorem fo53_6 : fo Try.prog 53 6 = some (6, 52) := by kernel_rfl
@[go_sem] theorem ti54 : ti Try.prog 54 = some ⟨true, 7, 72⟩ := by kernel_rfl
@[go_sem] theorem zc54 : zc Try.prog 54 = some [.v (.int .i64 0), .v (.int .i64 0), .v (.int .i64 0), .v (.int .i64 0), .v (.int .i64 0), .v (.int .i64 0), .v (.slice none 0 0)] := by kernel_rfl
@[go_sem] theorem fo54_0 : fo Try.prog 54 0 = some (0, 3) := by kernel_rfl
@[go_sem] theorem fo54_1 : fo Try.prog 54 1 = some (1, 3) := by kernel_rfl
@[go_sem] theorem fo54_2 : fo Try.prog 54 2 = some (2, 3) := by kernel_rfl
@[go_sem] theorem fo54_3 : fo Try.prog 54 3 = some (3, 3) := by kernel_rfl
@[go_sem] theorem fo54_4 : fo Try.prog 54 4 = some (4, 3) := by kernel_rfl
@[go_sem] theorem fo54_5 : fo Try.prog 54 5 = some (5, 3) := by kernel_rfl
@[go_sem] theorem fo54_6 : fo Try.prog 54 6 = some (6, 52) := by kernel_rfl
@[go_sem] theorem ti55 : ti Try.prog 55 = some ⟨false, 1, 8⟩ := by kernel_rfl
@[go_sem] theorem zc55 : zc Try.prog 55 = some [.v .nilFunc] := by kernel_rfl
@[go_sem] theorem ti56 : ti Try.prog 56 = some ⟨false, 1, 8⟩ := by kernel_rfl
@[go_sem] theorem zc56 : zc Try.prog 56 = some [.v .nilFunc] := by kernel_rfl
@[go_sem] theorem ti57 : ti Try.prog 57 = some ⟨false, 1, 8⟩ := by kernel_rfl
@[go_sem] theorem zc57 : zc Try.prog 57 = some [.v .nilFunc] := by kernel_rfl
@[go_sem] theorem ti59 : ti Try.prog 59 = some ⟨false, 1, 8⟩ := by kernel_rfl
@[go_sem] theorem zc59 : zc Try.prog 59 = some [.v .nilFunc] := by kernel_rfl
@[go_sem] theorem ti60 : ti Try.prog 60 = some ⟨false, 1, 8⟩ := by kernel_rfl
@[go_sem] theorem zc60 : zc Try.prog 60 = some [.v .nilFunc] := by kernel_rfl
@[go_sem] theorem ti61 : ti Try.prog 61 = some ⟨false, 1, 8⟩ := by kernel_rfl
@[go_sem] theorem zc61 : zc Try.prog 61 = some [.v .nilFunc] := by kernel_rfl
@[go_sem] theorem ti62 : ti Try.prog 62 = some ⟨true, 2, 32⟩ := by kernel_rfl
@[go_sem] theorem zc62 : zc Try.prog 62 = some [.v (.int .i64 0), .v (.slice none 0 0)] := by kernel_rfl
@[go_sem] theorem fo62_0 : fo Try.prog 62 0 = some (0, 3) := by kernel_rfl
@[go_sem] theorem fo62_1 : fo Try.prog 62 1 = some (1, 25) := by kernel_rfl
@[go_sem] theorem ti63 : ti Try.prog 63 = some ⟨true, 2, 32⟩ := by kernel_rfl
@[go_sem] theorem zc63 : zc Try.prog 63 = some [.v (.int .i64 0), .v (.slice none 0 0)] := by kernel_rfl
@[go_sem] theorem fo63_0 : fo Try.prog 63 0 = some (0, 3) := by kernel_rfl
@[go_sem] theorem fo63_1 : fo Try.prog 63 1 = some (1, 25) := by kernel_rfl
@[go_sem] theorem ti64 : ti Try.prog 64 = some ⟨false, 1, 8⟩ := by kernel_rfl
@[go_sem] theorem zc64 : zc Try.prog 64 = some [.v .nilFunc] := by kernel_rfl
@[go_sem] theorem ti65 : ti Try.prog 65 = some ⟨true, 2, 32⟩ := by kernel_rfl
@[go_sem] theorem zc65 : zc Try.prog 65 = some [.v (.int .i64 0), .v (.slice none 0 0)] := by kernel_rfl
@[go_sem] theorem fo65_0 : fo Try.prog 65 0 = some (0, 3) := by kernel_rfl
@[go_sem] theorem fo65_1 : fo Try.prog 65 1 = some (1, 25) := by kernel_rfl
@[go_sem] theorem ti66 : ti Try.prog 66 = some ⟨false, 1, 8⟩ := by kernel_rfl
@[go_sem] theorem zc66 : zc Try.prog 66 = some [.v .nilFunc] := by kernel_rfl
@[go_sem] theorem ti67 : ti Try.prog 67 = some ⟨false, 1, 8⟩ := by kernel_rfl
@[go_sem] theorem zc67 : zc Try.prog 67 = some [.v .nilFunc] := by kernel_rfl
@[go_sem] theorem ti68 : ti Try.prog 68 = some ⟨false, 1, 8⟩ := by kernel_rfl
@[go_sem] theorem zc68 : zc Try.prog 68 = some [.v .nilFunc] := by kernel_rfl
@[go_sem] theorem ti69 : ti Try.prog 69 = some ⟨false, 1, 8⟩ := by kernel_rfl
@[go_sem] theorem zc69 : zc Try.prog 69 = some [.v .nilFunc] := by kernel_rfl
@[go_sem] theorem ti70 : ti Try.prog 70 = some ⟨false, 1, 8⟩ := by kernel_rfl
@[go_sem] theorem zc70 : zc Try.prog 70 = some [.v .nilFunc] := by kernel_rfl
@[go_sem] theorem ti71 : ti Try.prog 71 = some ⟨false, 1, 8⟩ := by kernel_rfl
@[go_sem] theorem zc71 : zc Try.prog 71 = some [.v .nilFunc] := by kernel_rfl
@[go_sem] theorem ti72 : ti Try.prog 72 = some ⟨false, 1, 8⟩ := by kernel_rfl
@[go_sem] theorem zc72 : zc Try.prog 72 = some [.v .nilFunc] := by kernel_rfl
@[go_sem] theorem ti73 : ti Try.prog 73 = some ⟨false, 1, 8⟩ := by kernel_rfl
@[go_sem] theorem zc73 : zc Try.prog 73 = some [.v .nilFunc] := by kernel_rfl
@[go_sem] theorem ti74 : ti Try.prog 74 = some ⟨false, 1, 8⟩ := by kernel_rfl
@[go_sem] theorem zc74 : zc Try.prog 74 = some [.v .nilFunc] := by kernel_rfl
@[go_sem] theorem ti75 : ti Try.prog 75 = some ⟨false, 1, 8⟩ := by kernel_rfl
@[go_sem] theorem zc75 : zc Try.prog 75 = some [.v .nilFunc] := by kernel_rfl
@[go_sem] theorem ti77 : ti Try.prog 77 = some ⟨false, 1, 8⟩ := by kernel_rfl
@[go_sem] theorem zc77 : zc Try.prog 77 = some [.v .nilFunc] := by kernel_rfl
@[go_sem] theorem ti78 : ti Try.prog 78 = some ⟨false, 1, 8⟩ := by kernel_rfl
@[go_sem] theorem zc78 : zc Try.prog 78 = some [.v .nilFunc] := by kernel_rfl
@[go_sem] theorem ti79 : ti Try.prog 79 = some ⟨false, 1, 8⟩ := by kernel_rfl
@[go_sem] theorem zc79 : zc Try.prog 79 = some [.v .nilFunc] := by kernel_rfl
@[go_sem] theorem ti80 : ti Try.prog 80 = some ⟨false, 1, 8⟩ := by kernel_rfl
@[go_sem] theorem zc80 : zc Try.prog 80 = some [.v .nilFunc] := by kernel_rfl
@[go_sem] theorem ti81 : ti Try.prog 81 = some ⟨false, 1, 8⟩ := by kernel_rfl
@[go_sem] theorem zc81 : zc Try.prog 81 = some [.v .nilFunc] := by kernel_rfl
@[go_sem] theorem ti82 : ti Try.prog 82 = some ⟨false, 1, 8⟩ := by kernel_rfl
@[go_sem] theorem zc82 : zc Try.prog 82 = some [.v .nilFunc] := by kernel_rfl
@[go_sem] theorem ti88 : ti Try.prog 88 = some ⟨false, 1, 4⟩ := by kernel_rfl
@[go_sem] theorem zc88 : zc Try.prog 88 = some [.v (.int .u32 0)] := by kernel_rfl
@[go_sem] theorem ti89 : ti Try.prog 89 = some ⟨false, 1, 1⟩ := by kernel_rfl
@[go_sem] theorem zc89 : zc Try.prog 89 = some [.v (.int .u8 0)] := by kernel_rfl
@[go_sem] theorem ti90 : ti Try.prog 90 = some ⟨false, 1, 1⟩ := by kernel_rfl
@[go_sem] theorem zc90 : zc Try.prog 90 = some [.v (.int .u8 0)] := by kernel_rfl
@[go_sem] theorem ti91 : ti Try.prog 91 = some ⟨false, 1, 8⟩ := by kernel_rfl
@[go_sem] theorem zc91 : zc Try.prog 91 = some [.v .nilFunc] := by kernel_rfl
@[go_sem] theorem ti92 : ti Try.prog 92 = some ⟨false, 1, 8⟩ := by kernel_rfl
@[go_sem] theorem zc92 : zc Try.prog 92 = some [.v (.pointer none)] := by kernel_rfl
@[go_sem] theorem ti93 : ti Try.prog 93 = some ⟨false, 1, 4⟩ := by kernel_rfl
@[go_sem] theorem zc93 : zc Try.prog 93 = some [.v (.int .i32 0)] := by kernel_rfl
@[go_sem] theorem ti94 : ti Try.prog 94 = some ⟨false, 1, 4⟩ := by kernel_rfl
@[go_sem] theorem zc94 : zc Try.prog 94 = some [.v (.int .i32 0)] := by kernel_rfl
@[go_sem] theorem ti95 : ti Try.prog 95 = some ⟨true, 11, 48⟩ := by kernel_rfl
@[go_sem] theorem zc95 : zc Try.prog 95 = some [.v (.int .u64 0), .v (.int .u64 0), .v (.int .u32 0), .v (.int .u8 0), .v (.int .u8 0), .v (.int .u8 0), .v (.int .u8 0), .v .nilFunc, .v (.pointer none), .v (.int .i32 0), .v (.int .i32 0)] := by kernel_rfl
@[go_sem] theorem fo95_0 : fo Try.prog 95 0 = some (0, 12) := by kernel_rfl
@[go_sem] theorem fo95_1 : fo Try.prog 95 1 = some (1, 12) := by kernel_rfl
@[go_sem] theorem fo95_2 : fo Try.prog 95 2 = some (2, 88) := by kernel_rfl
@[go_sem] theorem fo95_3 : fo Try.prog 95 3 = some (3, 89) := by kernel_rfl
@[go_sem] theorem fo95_4 : fo Try.prog 95 4 = some (4, 5) := by kernel_rfl
@[go_sem] theorem fo95_5 : fo Try.prog 95 5 = some (5, 5) := by kernel_rfl
@[go_sem] theorem fo95_6 : fo Try.prog 95 6 = some (6, 90) := by kernel_rfl
@[go_sem] theorem fo95_7 : fo Try.prog 95 7 = some (7, 91) := by kernel_rfl
@[go_sem] theorem fo95_8 : fo Try.prog 95 8 = some (8, 92) := by kernel_rfl
@[go_sem] theorem fo95_9 : fo Try.prog 95 9 = some (9, 93) := by kernel_rfl
@[go_sem] theorem fo95_10 : fo Try.prog 95 10 = some (10, 94) := by kernel_rfl
@[go_sem] theorem ti96 : ti Try.prog 96 = some ⟨true, 11, 48⟩ := by kernel_rfl
@[go_sem] theorem zc96 : zc Try.prog 96 = some [.v (.int .u64 0), .v (.int .u64 0), .v (.int .u32 0), .v (.int .u8 0), .v (.int .u8 0), .v (.int .u8 0), .v (.int .u8 0), .v .nilFunc, .v (.pointer none), .v (.int .i32 0), .v (.int .i32 0)] := by kernel_rfl
@[go_sem] theorem fo96_0 : fo Try.prog 96 0 = some (0, 12) := by kernel_rfl
@[go_sem] theorem fo96_1 : fo Try.prog 96 1 = some (1, 12) := by kernel_rfl
@[go_sem] theorem fo96_2 : fo Try.prog 96 2 = some (2, 88) := by kernel_rfl
@[go_sem] theorem fo96_3 : fo Try.prog 96 3 = some (3, 89) := by kernel_rfl
@[go_sem] theorem fo96_4 : fo Try.prog 96 4 = some (4, 5) := by kernel_rfl
@[go_sem] theorem fo96_5 : fo Try.prog 96 5 = some (5, 5) := by kernel_rfl
@[go_sem] theorem fo96_6 : fo Try.prog 96 6 = some (6, 90) := by kernel_rfl
@[go_sem] theorem fo96_7 : fo Try.prog 96 7 = some (7, 91) := by kernel_rfl
@[go_sem] theorem fo96_8 : fo Try.prog 96 8 = some (8, 92) := by kernel_rfl
@[go_sem] theorem fo96_9 : fo Try.prog 96 9 = some (9, 93) := by kernel_rfl
@[go_sem] theorem fo96_10 : fo Try.prog 96 10 = some (10, 94) := by kernel_rfl
@[go_sem] theorem ti97 : ti Try.prog 97 = some ⟨false, 1, 8⟩ := by kernel_rfl
@[go_sem] theorem zc97 : zc Try.prog 97 = some [.v .nilFunc] := by kernel_rfl
end Go.Proofs.Ytaiefncpgkoniaa.En
