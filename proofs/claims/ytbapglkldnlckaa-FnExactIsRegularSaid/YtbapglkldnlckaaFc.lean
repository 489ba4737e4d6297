/- Facts of this seat's types. -/
import Derived.Test.YtbapglkldnlckaaProg
import Derived.Test.YtbapglkldnlckaaEn22
import Derived.KernelRfl
namespace Go.Proofs.Ytbapglkldnlckaa.En
theorem mixed : Try.prog.follows .mixedOrders = true := by kernel_rfl
@[go_sem] theorem ti2 : ti Try.prog 2 = some ⟨false, 1, 8⟩ := by kernel_rfl
@[go_sem] theorem zc2 : zc Try.prog 2 = some [.v (.int .i64 0)] := by kernel_rfl
@[go_sem] theorem ti3 : ti Try.prog 3 = some ⟨false, 1, 8⟩ := by kernel_rfl
@[go_sem] theorem zc3 : zc Try.prog 3 = some [.v (.int .i64 0)] := by kernel_rfl
@[go_sem] theorem ti4 : ti Try.prog 4 = some ⟨false, 1, 1⟩ := by kernel_rfl
@[go_sem] theorem zc4 : zc Try.prog 4 = some [.v (.bool false)] := by kernel_rfl
@[go_sem] theorem bo4 : isBoolT Try.prog 4 = true := by kernel_rfl
@[go_sem] theorem ti5 : ti Try.prog 5 = some ⟨false, 1, 1⟩ := by kernel_rfl
@[go_sem] theorem zc5 : zc Try.prog 5 = some [.v (.int .u8 0)] := by kernel_rfl
@[go_sem] theorem ti6 : ti Try.prog 6 = some ⟨false, 1, 1⟩ := by kernel_rfl
@[go_sem] theorem zc6 : zc Try.prog 6 = some [.v (.int .u8 0)] := by kernel_rfl
@[go_sem] theorem ti12 : ti Try.prog 12 = some ⟨false, 1, 8⟩ := by kernel_rfl
@[go_sem] theorem zc12 : zc Try.prog 12 = some [.v (.int .u64 0)] := by kernel_rfl
@[go_sem] theorem ti15 : ti Try.prog 15 = some ⟨false, 1, 8⟩ := by kernel_rfl
@[go_sem] theorem zc15 : zc Try.prog 15 = some [.v (.pointer none)] := by kernel_rfl
@[go_sem] theorem ti16 : ti Try.prog 16 = some ⟨false, 1, 8⟩ := by kernel_rfl
@[go_sem] theorem zc16 : zc Try.prog 16 = some [.v (.pointer none)] := by kernel_rfl
@[go_sem] theorem ti17 : ti Try.prog 17 = some ⟨false, 1, 8⟩ := by kernel_rfl
@[go_sem] theorem zc17 : zc Try.prog 17 = some [.v (.pointer none)] := by kernel_rfl
@[go_sem] theorem ti21 : ti Try.prog 21 = some ⟨false, 1, 4⟩ := by kernel_rfl
@[go_sem] theorem zc21 : zc Try.prog 21 = some [.v (.int .i32 0)] := by kernel_rfl
@[go_sem] theorem ti22 : ti Try.prog 22 = some ⟨false, 1, 24⟩ := by kernel_rfl
@[go_sem] theorem zc22 : zc Try.prog 22 = some [.v (.slice none 0 0)] := by kernel_rfl
@[go_sem] theorem el22 : elT Try.prog 22 = some 3 := by kernel_rfl
@[go_sem] theorem ti27 : ti Try.prog 27 = some ⟨false, 1, 24⟩ := by kernel_rfl
@[go_sem] theorem zc27 : zc Try.prog 27 = some [.v (.slice none 0 0)] := by kernel_rfl
@[go_sem] theorem el27 : elT Try.prog 27 = some 5 := by kernel_rfl
@[go_sem] theorem ti31 : ti Try.prog 31 = some ⟨false, 1, 24⟩ := by kernel_rfl
@[go_sem] theorem zc31 : zc Try.prog 31 = some [.v (.slice none 0 0)] := by kernel_rfl
@[go_sem] theorem el31 : elT Try.prog 31 = some 160 := by kernel_rfl
@[go_sem] theorem ti32 : ti Try.prog 32 = some ⟨false, 1, 24⟩ := by kernel_rfl
@[go_sem] theorem zc32 : zc Try.prog 32 = some [.v (.slice none 0 0)] := by kernel_rfl
@[go_sem] theorem el32 : elT Try.prog 32 = some 158 := by kernel_rfl
@[go_sem] theorem ti33 : ti Try.prog 33 = some ⟨true, 2, 48⟩ := by kernel_rfl
@[go_sem] theorem zc33 : zc Try.prog 33 = some [.v (.slice none 0 0), .v (.slice none 0 0)] := by kernel_rfl
@[go_sem] theorem fo33_0 : fo Try.prog 33 0 = some (0, 31) := by kernel_rfl
@[go_sem] theorem fo33_1 : fo Try.prog 33 1 = some (1, 32) := by kernel_rfl
@[go_sem] theorem ti34 : ti Try.prog 34 = some ⟨true, 2, 48⟩ := by kernel_rfl
@[go_sem] theorem zc34 : zc Try.prog 34 = some [.v (.slice none 0 0), .v (.slice none 0 0)] := by kernel_rfl
@[go_sem] theorem fo34_0 : fo Try.prog 34 0 = some (0, 31) := by kernel_rfl
@[go_sem] theorem fo34_1 : fo Try.prog 34 1 = some (1, 32) := by kernel_rfl
@[go_sem] theorem ti38 : ti Try.prog 38 = some ⟨false, 1, 24⟩ := by kernel_rfl
@[go_sem] theorem zc38 : zc Try.prog 38 = some [.v (.slice none 0 0)] := by kernel_rfl
@[go_sem] theorem el38 : elT Try.prog 38 = some 135 := by kernel_rfl
@[go_sem] theorem ti39 : ti Try.prog 39 = some ⟨false, 1, 24⟩ := by kernel_rfl
@[go_sem] theorem zc39 : zc Try.prog 39 = some [.v (.slice none 0 0)] := by kernel_rfl
@[go_sem] theorem el39 : elT Try.prog 39 = some 137 := by kernel_rfl
@[go_sem] theorem ti40 : ti Try.prog 40 = some ⟨true, 2, 48⟩ := by kernel_rfl
@[go_sem] theorem zc40 : zc Try.prog 40 = some [.v (.slice none 0 0), .v (.slice none 0 0)] := by kernel_rfl
@[go_sem] theorem fo40_0 : fo Try.prog 40 0 = some (0, 38) := by kernel_rfl
@[go_sem] theorem fo40_1 : fo Try.prog 40 1 = some (1, 39) := by kernel_rfl
@[go_sem] theorem ti41 : ti Try.prog 41 = some ⟨true, 2, 48⟩ := by kernel_rfl
@[go_sem] theorem zc41 : zc Try.prog 41 = some [.v (.slice none 0 0), .v (.slice none 0 0)] := by kernel_rfl
@[go_sem] theorem fo41_0 : fo Try.prog 41 0 = some (0, 38) := by kernel_rfl
@[go_sem] theorem fo41_1 : fo Try.prog 41 1 = some (1, 39) := by kernel_rfl
@[go_sem] theorem ti45 : ti Try.prog 45 = some ⟨false, 1, 24⟩ := by kernel_rfl
@[go_sem] theorem zc45 : zc Try.prog 45 = some [.v (.slice none 0 0)] := by kernel_rfl
@[go_sem] theorem el45 : elT Try.prog 45 = some 116 := by kernel_rfl
@[go_sem] theorem ti49 : ti Try.prog 49 = some ⟨false, 1, 24⟩ := by kernel_rfl
@[go_sem] theorem zc49 : zc Try.prog 49 = some [.v (.slice none 0 0)] := by kernel_rfl
@[go_sem] theorem el49 : elT Try.prog 49 = some 110 := by kernel_rfl
@[go_sem] theorem ti53 : ti Try.prog 53 = some ⟨false, 1, 24⟩ := by kernel_rfl
@[go_sem] theorem zc53 : zc Try.prog 53 = some [.v (.slice none 0 0)] := by kernel_rfl
@[go_sem] theorem el53 : elT Try.prog 53 = some 22 := by kernel_rfl
@[go_sem] theorem ti54 : ti Try.prog 54 = some ⟨true, 4, 64⟩ := by kernel_rfl
@[go_sem] theorem zc54 : zc Try.prog 54 = some [.v (.int .i64 0), .v (.int .i64 0), .v (.slice none 0 0), .v (.slice none 0 0)] := by kernel_rfl
@[go_sem] theorem fo54_0 : fo Try.prog 54 0 = some (0, 3) := by kernel_rfl
@[go_sem] theorem fo54_1 : fo Try.prog 54 1 = some (1, 3) := by kernel_rfl
@[go_sem] theorem fo54_2 : fo Try.prog 54 2 = some (2, 53) := by kernel_rfl
@[go_sem] theorem fo54_3 : fo Try.prog 54 3 = some (3, 22) := by kernel_rfl
@[go_sem] theorem ti55 : ti Try.prog 55 = some ⟨true, 4, 64⟩ := by kernel_rfl
@[go_sem] theorem zc55 : zc Try.prog 55 = some [.v (.int .i64 0), .v (.int .i64 0), .v (.slice none 0 0), .v (.slice none 0 0)] := by kernel_rfl
@[go_sem] theorem fo55_0 : fo Try.prog 55 0 = some (0, 3) := by kernel_rfl
@[go_sem] theorem fo55_1 : fo Try.prog 55 1 = some (1, 3) := by kernel_rfl
@[go_sem] theorem fo55_2 : fo Try.prog 55 2 = some (2, 53) := by kernel_rfl
@[go_sem] theorem fo55_3 : fo Try.prog 55 3 = some (3, 22) := by kernel_rfl
@[go_sem] theorem ti58 : ti Try.prog 58 = some ⟨true, 4, 64⟩ := by kernel_rfl
@[go_sem] theorem zc58 : zc Try.prog 58 = some [.v (.int .i64 0), .v (.int .i64 0), .v (.slice none 0 0), .v (.slice none 0 0)] := by kernel_rfl
@[go_sem] theorem fo58_0 : fo Try.prog 58 0 = some (0, 3) := by kernel_rfl
@[go_sem] theorem fo58_1 : fo Try.prog 58 1 = some (1, 3) := by kernel_rfl
@[go_sem] theorem fo58_2 : fo Try.prog 58 2 = some (2, 53) := by kernel_rfl
@[go_sem] theorem fo58_3 : fo Try.prog 58 3 = some (3, 22) := by kernel_rfl
@[go_sem] theorem ti62 : ti Try.prog 62 = some ⟨false, 1, 24⟩ := by kernel_rfl
@[go_sem] theorem zc62 : zc Try.prog 62 = some [.v (.slice none 0 0)] := by kernel_rfl
@[go_sem] theorem el62 : elT Try.prog 62 = some 172 := by kernel_rfl
@[go_sem] theorem ti63 : ti Try.prog 63 = some ⟨true, 3, 40⟩ := by kernel_rfl
@[go_sem] theorem zc63 : zc Try.prog 63 = some [.v (.int .i64 0), .v (.int .i64 0), .v (.slice none 0 0)] := by kernel_rfl
@[go_sem] theorem fo63_0 : fo Try.prog 63 0 = some (0, 3) := by kernel_rfl
@[go_sem] theorem fo63_1 : fo Try.prog 63 1 = some (1, 3) := by kernel_rfl
@[go_sem] theorem fo63_2 : fo Try.prog 63 2 = some (2, 62) := by kernel_rfl
@[go_sem] theorem ti64 : ti Try.prog 64 = some ⟨true, 3, 40⟩ := by kernel_rfl
@[go_sem] theorem zc64 : zc Try.prog 64 = some [.v (.int .i64 0), .v (.int .i64 0), .v (.slice none 0 0)] := by kernel_rfl
@[go_sem] theorem fo64_0 : fo Try.prog 64 0 = some (0, 3) := by kernel_rfl
@[go_sem] theorem fo64_1 : fo Try.prog 64 1 = some (1, 3) := by kernel_rfl
@[go_sem] theorem fo64_2 : fo Try.prog 64 2 = some (2, 62) := by kernel_rfl
@[go_sem] theorem ti67 : ti Try.prog 67 = some ⟨false, 1, 24⟩ := by kernel_rfl
@[go_sem] theorem zc67 : zc Try.prog 67 = some [.v (.slice none 0 0)] := by kernel_rfl
@[go_sem] theorem el67 : elT Try.prog 67 = some 153 := by kernel_rfl
@[go_sem] theorem ti68 : ti Try.prog 68 = some ⟨true, 3, 40⟩ := by kernel_rfl
@[go_sem] theorem zc68 : zc Try.prog 68 = some [.v (.int .i64 0), .v (.int .i64 0), .v (.slice none 0 0)] := by kernel_rfl
@[go_sem] theorem fo68_0 : fo Try.prog 68 0 = some (0, 3) := by kernel_rfl
@[go_sem] theorem fo68_1 : fo Try.prog 68 1 = some (1, 3) := by kernel_rfl
@[go_sem] theorem fo68_2 : fo Try.prog 68 2 = some (2, 67) := by kernel_rfl
@[go_sem] theorem ti69 : ti Try.prog 69 = some ⟨true, 3, 40⟩ := by kernel_rfl
@[go_sem] theorem zc69 : zc Try.prog 69 = some [.v (.int .i64 0), .v (.int .i64 0), .v (.slice none 0 0)] := by kernel_rfl
@[go_sem] theorem fo69_0 : fo Try.prog 69 0 = some (0, 3) := by kernel_rfl
@[go_sem] theorem fo69_1 : fo Try.prog 69 1 = some (1, 3) := by kernel_rfl
@[go_sem] theorem fo69_2 : fo Try.prog 69 2 = some (2, 67) := by kernel_rfl
@[go_sem] theorem ti93 : ti Try.prog 93 = some ⟨false, 1, 8⟩ := by kernel_rfl
@[go_sem] theorem zc93 : zc Try.prog 93 = some [.v (.pointer none)] := by kernel_rfl
@[go_sem] theorem ti94 : ti Try.prog 94 = some ⟨false, 1, 8⟩ := by kernel_rfl
@[go_sem] theorem zc94 : zc Try.prog 94 = some [.v (.int .u64 0)] := by kernel_rfl
@[go_sem] theorem ti95 : ti Try.prog 95 = some ⟨true, 3, 40⟩ := by kernel_rfl
@[go_sem] theorem zc95 : zc Try.prog 95 = some [.v (.slice none 0 0), .v (.int .i64 0), .v (.int .u64 0)] := by kernel_rfl
@[go_sem] theorem fo95_0 : fo Try.prog 95 0 = some (0, 27) := by kernel_rfl
@[go_sem] theorem fo95_1 : fo Try.prog 95 1 = some (1, 3) := by kernel_rfl
@[go_sem] theorem fo95_2 : fo Try.prog 95 2 = some (2, 94) := by kernel_rfl
@[go_sem] theorem ti96 : ti Try.prog 96 = some ⟨true, 3, 40⟩ := by kernel_rfl
@[go_sem] theorem zc96 : zc Try.prog 96 = some [.v (.slice none 0 0), .v (.int .i64 0), .v (.int .u64 0)] := by kernel_rfl
@[go_sem] theorem fo96_0 : fo Try.prog 96 0 = some (0, 27) := by kernel_rfl
@[go_sem] theorem fo96_1 : fo Try.prog 96 1 = some (1, 3) := by kernel_rfl
@[go_sem] theorem fo96_2 : fo Try.prog 96 2 = some (2, 94) := by kernel_rfl
@[go_sem] theorem ti107 : ti Try.prog 107 = some ⟨false, 1, 24⟩ := by kernel_rfl
@[go_sem] theorem zc107 : zc Try.prog 107 = some [.v (.slice none 0 0)] := by kernel_rfl
@[go_sem] theorem el107 : elT Try.prog 107 = some 165 := by kernel_rfl
@[go_sem] theorem ti109 : ti Try.prog 109 = some ⟨true, 4, 32⟩ := by kernel_rfl
@[go_sem] theorem zc109 : zc Try.prog 109 = some [.v (.int .i64 0), .v (.int .i64 0), .v (.int .i64 0), .v (.int .i64 0)] := by kernel_rfl
@[go_sem] theorem fo109_0 : fo Try.prog 109 0 = some (0, 3) := by kernel_rfl
@[go_sem] theorem fo109_1 : fo Try.prog 109 1 = some (1, 3) := by kernel_rfl
@[go_sem] theorem fo109_2 : fo Try.prog 109 2 = some (2, 3) := by kernel_rfl
@[go_sem] theorem fo109_3 : fo Try.prog 109 3 = some (3, 3) := by kernel_rfl
@[go_sem] theorem ti110 : ti Try.prog 110 = some ⟨true, 4, 32⟩ := by kernel_rfl
@[go_sem] theorem zc110 : zc Try.prog 110 = some [.v (.int .i64 0), .v (.int .i64 0), .v (.int .i64 0), .v (.int .i64 0)] := by kernel_rfl
@[go_sem] theorem fo110_0 : fo Try.prog 110 0 = some (0, 3) := by kernel_rfl
@[go_sem] theorem fo110_1 : fo Try.prog 110 1 = some (1, 3) := by kernel_rfl
@[go_sem] theorem fo110_2 : fo Try.prog 110 2 = some (2, 3) := by kernel_rfl
@[go_sem] theorem fo110_3 : fo Try.prog 110 3 = some (3, 3) := by kernel_rfl
@[go_sem] theorem ti116 : ti Try.prog 116 = some ⟨true, 4, 32⟩ := by kernel_rfl
@[go_sem] theorem zc116 : zc Try.prog 116 = some [.v (.int .i64 0), .v (.int .i64 0), .v (.int .i64 0), .v (.int .i64 0)] := by kernel_rfl
@[go_sem] theorem fo116_0 : fo Try.prog 116 0 = some (0, 3) := by kernel_rfl
@[go_sem] theorem fo116_1 : fo Try.prog 116 1 = some (1, 3) := by kernel_rfl
@[go_sem] theorem fo116_2 : fo Try.prog 116 2 = some (2, 3) := by kernel_rfl
@[go_sem] theorem fo116_3 : fo Try.prog 116 3 = some (3, 3) := by kernel_rfl
@[go_sem] theorem ti118 : ti Try.prog 118 = some ⟨false, 1, 8⟩ := by kernel_rfl
@[go_sem] theorem zc118 : zc Try.prog 118 = some [.v (.pointer none)] := by kernel_rfl
@[go_sem] theorem ti134 : ti Try.prog 134 = some ⟨true, 3, 24⟩ := by kernel_rfl
@[go_sem] theorem zc134 : zc Try.prog 134 = some [.v (.int .i64 0), .v (.int .i64 0), .v (.int .i64 0)] := by kernel_rfl
@[go_sem] theorem fo134_0 : fo Try.prog 134 0 = some (0, 3) := by kernel_rfl
@[go_sem] theorem fo134_1 : fo Try.prog 134 1 = some (1, 3) := by kernel_rfl
@[go_sem] theorem fo134_2 : fo Try.prog 134 2 = some (2, 3) := by kernel_rfl
@[go_sem] theorem ti135 : ti Try.prog 135 = some ⟨true, 3, 24⟩ := by kernel_rfl
@[go_sem] theorem zc135 : zc Try.prog 135 = some [.v (.int .i64 0), .v (.int .i64 0), .v (.int .i64 0)] := by kernel_rfl
@[go_sem] theorem fo135_0 : fo Try.prog 135 0 = some (0, 3) := by kernel_rfl
@[go_sem] theorem fo135_1 : fo Try.prog 135 1 = some (1, 3) := by kernel_rfl
@[go_sem] theorem fo135_2 : fo Try.prog 135 2 = some (2, 3) := by kernel_rfl
@[go_sem] theorem ti136 : ti Try.prog 136 = some ⟨true, 3, 40⟩ := by kernel_rfl
@[go_sem] theorem zc136 : zc Try.prog 136 = some [.v (.int .i64 0), .v (.int .i64 0), .v (.slice none 0 0)] := by kernel_rfl
@[go_sem] theorem fo136_0 : fo Try.prog 136 0 = some (0, 3) := by kernel_rfl
@[go_sem] theorem fo136_1 : fo Try.prog 136 1 = some (1, 3) := by kernel_rfl
@[go_sem] theorem fo136_2 : fo Try.prog 136 2 = some (2, 22) := by kernel_rfl
@[go_sem] theorem ti137 : ti Try.prog 137 = some ⟨true, 3, 40⟩ := by kernel_rfl
@[go_sem] theorem zc137 : zc Try.prog 137 = some [.v (.int .i64 0), .v (.int .i64 0), .v (.slice none 0 0)] := by kernel_rfl
@[go_sem] theorem fo137_0 : fo Try.prog 137 0 = some (0, 3) := by kernel_rfl
@[go_sem] theorem fo137_1 : fo Try.prog 137 1 = some (1, 3) := by kernel_rfl
@[go_sem] theorem fo137_2 : fo Try.prog 137 2 = some (2, 22) := by kernel_rfl
@[go_sem] theorem ti145 : ti Try.prog 145 = some ⟨false, 1, 8⟩ := by kernel_rfl
@[go_sem] theorem zc145 : zc Try.prog 145 = some [.v (.pointer none)] := by kernel_rfl
@[go_sem] theorem ti148 : ti Try.prog 148 = some ⟨false, 1, 24⟩ := by kernel_rfl
@[go_sem] theorem zc148 : zc Try.prog 148 = some [.v (.slice none 0 0)] := by kernel_rfl
@[go_sem] theorem el148 : elT Try.prog 148 = some 145 := by kernel_rfl
@[go_sem] theorem ti149 : ti Try.prog 149 = some ⟨true, 7, 72⟩ := by kernel_rfl
@[go_sem] theorem zc149 : zc Try.prog 149 = some [.v (.int .i64 0), .v (.int .i64 0), .v (.int .i64 0), .v (.int .i64 0), .v (.int .i64 0), .v (.int .i64 0), .v (.slice none 0 0)] := by kernel_rfl
@[go_sem] theorem fo149_0 : fo Try.prog 149 0 = some (0, 3) := by kernel_rfl
@[go_sem] theorem fo149_1 : fo Try.prog 149 1 = some (1, 3) := by kernel_rfl
@[go_sem] theorem fo149_2 : fo Try.prog 149 2 = some (2, 3) := by kernel_rfl
@[go_sem] theorem fo149_3 : fo Try.prog 149 3 = some (3, 3) := by kernel_rfl
@[go_sem] theorem fo149_4 : fo Try.prog 149 4 = some (4, 3) := by kernel_rfl
@[go_sem] theorem fo149_5 : fo Try.prog 149 5 = some (5, 3) := by kernel_rfl
@[go_sem] theorem fo149_6 : fo Try.prog 149 6 = some (6, 148) := by kernel_rfl
@[go_sem] theorem ti150 : ti Try.prog 150 = some ⟨true, 7, 72⟩ := by kernel_rfl
@[go_sem] theorem zc150 : zc Try.prog 150 = some [.v (.int .i64 0), .v (.int .i64 0), .v (.int .i64 0), .v (.int .i64 0), .v (.int .i64 0), .v (.int .i64 0), .v (.slice none 0 0)] := by kernel_rfl
@[go_sem] theorem fo150_0 : fo Try.prog 150 0 = some (0, 3) := by kernel_rfl
@[go_sem] theorem fo150_1 : fo Try.prog 150 1 = some (1, 3) := by kernel_rfl
@[go_sem] theorem fo150_2 : fo Try.prog 150 2 = some (2, 3) := by kernel_rfl
@[go_sem] theorem fo150_3 : fo Try.prog 150 3 = some (3, 3) := by kernel_rfl
@[go_sem] theorem fo150_4 : fo Try.prog 150 4 = some (4, 3) := by kernel_rfl
@[go_sem] theorem fo150_5 : fo Try.prog 150 5 = some (5, 3) := by kernel_rfl
@[go_sem] theorem fo150_6 : fo Try.prog 150 6 = some (6, 148) := by kernel_rfl
@[go_sem] theorem ti152 : ti Try.prog 152 = some ⟨true, 2, 32⟩ := by kernel_rfl
@[go_sem] theorem zc152 : zc Try.prog 152 = some [.v (.int .i64 0), .v (.slice none 0 0)] := by kernel_rfl
@[go_sem] theorem fo152_0 : fo Try.prog 152 0 = some (0, 3) := by kernel_rfl
@[go_sem] theorem fo152_1 : fo Try.prog 152 1 = some (1, 22) := by kernel_rfl
@[go_sem] theorem ti153 : ti Try.prog 153 = some ⟨true, 2, 32⟩ := by kernel_rfl
@[go_sem] theorem zc153 : zc Try.prog 153 = some [.v (.int .i64 0), .v (.slice none 0 0)] := by kernel_rfl
@[go_sem] theorem fo153_0 : fo Try.prog 153 0 = some (0, 3) := by kernel_rfl
@[go_sem] theorem fo153_1 : fo Try.prog 153 1 = some (1, 22) := by kernel_rfl
@[go_sem] theorem ti154 : ti Try.prog 154 = some ⟨true, 6, 48⟩ := by kernel_rfl
@[go_sem] theorem zc154 : zc Try.prog 154 = some [.v (.int .i64 0), .v (.int .i64 0), .v (.int .i64 0), .v (.int .i64 0), .v (.int .i64 0), .v (.int .i64 0)] := by kernel_rfl
@[go_sem] theorem ar154 : arT Try.prog 154 = some (6, 3) := by kernel_rfl
@[go_sem] theorem ti158 : ti Try.prog 158 = some ⟨true, 3, 40⟩ := by kernel_rfl
@[go_sem] theorem zc158 : zc Try.prog 158 = some [.v (.int .i64 0), .v (.int .i64 0), .v (.slice none 0 0)] := by kernel_rfl
@[go_sem] theorem fo158_0 : fo Try.prog 158 0 = some (0, 3) := by kernel_rfl
@[go_sem] theorem fo158_1 : fo Try.prog 158 1 = some (1, 3) := by kernel_rfl
@[go_sem] theorem fo158_2 : fo Try.prog 158 2 = some (2, 22) := by kernel_rfl
@[go_sem] theorem ti160 : ti Try.prog 160 = some ⟨true, 3, 24⟩ := by kernel_rfl
@[go_sem] theorem zc160 : zc Try.prog 160 = some [.v (.int .i64 0), .v (.int .i64 0), .v (.int .i64 0)] := by kernel_rfl
@[go_sem] theorem fo160_0 : fo Try.prog 160 0 = some (0, 3) := by kernel_rfl
@[go_sem] theorem fo160_1 : fo Try.prog 160 1 = some (1, 3) := by kernel_rfl
@[go_sem] theorem fo160_2 : fo Try.prog 160 2 = some (2, 3) := by kernel_rfl
@[go_sem] theorem ti164 : ti Try.prog 164 = some ⟨true, 3, 24⟩ := by kernel_rfl
@[go_sem] theorem zc164 : zc Try.prog 164 = some [.v (.int .i64 0), .v (.int .i64 0), .v (.bool false)] := by kernel_rfl
@[go_sem] theorem fo164_0 : fo Try.prog 164 0 = some (0, 3) := by kernel_rfl
@[go_sem] theorem fo164_1 : fo Try.prog 164 1 = some (1, 3) := by kernel_rfl
@[go_sem] theorem fo164_2 : fo Try.prog 164 2 = some (2, 4) := by kernel_rfl
@[go_sem] theorem ti165 : ti Try.prog 165 = some ⟨true, 3, 24⟩ := by kernel_rfl
@[go_sem] theorem zc165 : zc Try.prog 165 = some [.v (.int .i64 0), .v (.int .i64 0), .v (.bool false)] := by kernel_rfl
@[go_sem] theorem fo165_0 : fo Try.prog 165 0 = some (0, 3) := by kernel_rfl
@[go_sem] theorem fo165_1 : fo Try.prog 165 1 = some (1, 3) := by kernel_rfl
@[go_sem] theorem fo165_2 : fo Try.prog 165 2 = some (2, 4) := by kernel_rfl
@[go_sem] theorem ti167 : ti Try.prog 167 = some ⟨false, 1, 24⟩ := by kernel_rfl
@[go_sem] theorem zc167 : zc Try.prog 167 = some [.v (.slice none 0 0)] := by kernel_rfl
@[go_sem] theorem el167 : elT Try.prog 167 = some 4 := by kernel_rfl
@[go_sem] theorem ti168 : ti Try.prog 168 = some ⟨true, 4, 64⟩ := by kernel_rfl
@[go_sem] theorem zc168 : zc Try.prog 168 = some [.v (.int .i64 0), .v (.int .i64 0), .v (.slice none 0 0), .v (.slice none 0 0)] := by kernel_rfl
@[go_sem] theorem fo168_0 : fo Try.prog 168 0 = some (0, 3) := by kernel_rfl
@[go_sem] theorem fo168_1 : fo Try.prog 168 1 = some (1, 3) := by kernel_rfl
@[go_sem] theorem fo168_2 : fo Try.prog 168 2 = some (2, 22) := by kernel_rfl
@[go_sem] theorem fo168_3 : fo Try.prog 168 3 = some (3, 167) := by kernel_rfl
@[go_sem] theorem ti169 : ti Try.prog 169 = some ⟨true, 4, 64⟩ := by kernel_rfl
@[go_sem] theorem zc169 : zc Try.prog 169 = some [.v (.int .i64 0), .v (.int .i64 0), .v (.slice none 0 0), .v (.slice none 0 0)] := by kernel_rfl
@[go_sem] theorem fo169_0 : fo Try.prog 169 0 = some (0, 3) := by kernel_rfl
@[go_sem] theorem fo169_1 : fo Try.prog 169 1 = some (1, 3) := by kernel_rfl
@[go_sem] theorem fo169_2 : fo Try.prog 169 2 = some (2, 22) := by kernel_rfl
@[go_sem] theorem fo169_3 : fo Try.prog 169 3 = some (3, 167) := by kernel_rfl
@[go_sem] theorem ti172 : ti Try.prog 172 = some ⟨true, 2, 32⟩ := by kernel_rfl
@[go_sem] theorem zc172 : zc Try.prog 172 = some [.v (.int .i64 0), .v (.slice none 0 0)] := by kernel_rfl
@[go_sem] theorem fo172_0 : fo Try.prog 172 0 = some (0, 3) := by kernel_rfl
@[go_sem] theorem fo172_1 : fo Try.prog 172 1 = some (1, 22) := by kernel_rfl
@[go_sem] theorem ti179 : ti Try.prog 179 = some ⟨true, 11, 11⟩ := by kernel_rfl
@[go_sem] theorem zc179 : zc Try.prog 179 = some [.v (.bool false), .v (.bool false), .v (.bool false), .v (.bool false), .v (.bool false), .v (.bool false), .v (.bool false), .v (.bool false), .v (.bool false), .v (.bool false), .v (.bool false)] := by kernel_rfl
@[go_sem] theorem ar179 : arT Try.prog 179 = some (11, 4) := by kernel_rfl
@[go_sem] theorem ti184 : ti Try.prog 184 = some ⟨false, 1, 8⟩ := by kernel_rfl
@[go_sem] theorem zc184 : zc Try.prog 184 = some [.v (.pointer none)] := by kernel_rfl
@[go_sem] theorem ti199 : ti Try.prog 199 = some ⟨false, 1, 8⟩ := by kernel_rfl
@[go_sem] theorem zc199 : zc Try.prog 199 = some [.v (.int .u64 0)] := by kernel_rfl
@[go_sem] theorem ti202 : ti Try.prog 202 = some ⟨false, 1, 24⟩ := by kernel_rfl
@[go_sem] theorem zc202 : zc Try.prog 202 = some [.v (.slice none 0 0)] := by kernel_rfl
@[go_sem] theorem el202 : elT Try.prog 202 = some 167 := by kernel_rfl
@[go_sem] theorem ti225 : ti Try.prog 225 = some ⟨false, 1, 8⟩ := by kernel_rfl
@[go_sem] theorem zc225 : zc Try.prog 225 = some [.v (.int .i64 0)] := by kernel_rfl
@[go_sem] theorem ti232 : ti Try.prog 232 = some ⟨false, 1, 4⟩ := by kernel_rfl
@[go_sem] theorem zc232 : zc Try.prog 232 = some [.v (.int .u32 0)] := by kernel_rfl
@[go_sem] theorem ti234 : ti Try.prog 234 = some ⟨false, 1, 8⟩ := by kernel_rfl
@[go_sem] theorem zc234 : zc Try.prog 234 = some [.v (.int .u64 0)] := by kernel_rfl
@[go_sem] theorem ti238 : ti Try.prog 238 = some ⟨false, 1, 8⟩ := by kernel_rfl
@[go_sem] theorem zc238 : zc Try.prog 238 = some [.v (.pointer none)] := by kernel_rfl
@[go_sem] theorem ti240 : ti Try.prog 240 = some ⟨false, 1, 8⟩ := by kernel_rfl
@[go_sem] theorem zc240 : zc Try.prog 240 = some [.v (.pointer none)] := by kernel_rfl
end Go.Proofs.Ytbapglkldnlckaa.En
