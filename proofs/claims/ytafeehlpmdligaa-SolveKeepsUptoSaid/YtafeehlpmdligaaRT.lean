/- What is known of the program's types: facts by looking. -/
import Derived.Test.YtafeehlpmdligaaProg
import Derived.KernelRfl
import Derived.Test.YtafeehlpmdligaaRMc
namespace Go.Proofs.Ytafeehlpmdligaa.M
open Go.RowKit
theorem ti2 : tinf Try.prog 2 = some ⟨1, 8, false, .int .i64 0⟩ := by kernel_rfl
theorem un2 : Try.prog.underlying 2 = some (.int .i64) := by kernel_rfl
theorem ti3 : tinf Try.prog 3 = some ⟨1, 8, false, .int .i64 0⟩ := by kernel_rfl
theorem un3 : Try.prog.underlying 3 = some (.int .i64) := by kernel_rfl
theorem ti4 : tinf Try.prog 4 = some ⟨1, 1, false, .bool false⟩ := by kernel_rfl
theorem ti5 : tinf Try.prog 5 = some ⟨1, 1, false, .int .u8 0⟩ := by kernel_rfl
theorem un5 : Try.prog.underlying 5 = some (.int .u8) := by kernel_rfl
theorem ti6 : tinf Try.prog 6 = some ⟨1, 1, false, .int .u8 0⟩ := by kernel_rfl
theorem un6 : Try.prog.underlying 6 = some (.int .u8) := by kernel_rfl
theorem ti7 : tinf Try.prog 7 = some ⟨4, 24, true, .agg #[(.int .i64 0), (.int .i64 0), (.bool false), (.int .u8 0)]⟩ := by kernel_rfl
theorem bo7 : bldOk Try.prog 7 = true := by kernel_rfl
theorem fo7_0 : fieldOf Try.prog 7 0 = some (0, 1) := by kernel_rfl
theorem fo7_1 : fieldOf Try.prog 7 1 = some (1, 1) := by kernel_rfl
theorem fo7_2 : fieldOf Try.prog 7 2 = some (2, 1) := by kernel_rfl
theorem fo7_3 : fieldOf Try.prog 7 3 = some (3, 1) := by kernel_rfl
theorem ti8 : tinf Try.prog 8 = some ⟨4, 24, true, .agg #[(.int .i64 0), (.int .i64 0), (.bool false), (.int .u8 0)]⟩ := by kernel_rfl
theorem bo8 : bldOk Try.prog 8 = true := by kernel_rfl
theorem fo8_0 : fieldOf Try.prog 8 0 = some (0, 1) := by kernel_rfl
theorem fo8_1 : fieldOf Try.prog 8 1 = some (1, 1) := by kernel_rfl
theorem fo8_2 : fieldOf Try.prog 8 2 = some (2, 1) := by kernel_rfl
theorem fo8_3 : fieldOf Try.prog 8 3 = some (3, 1) := by kernel_rfl
theorem ti9 : tinf Try.prog 9 = some ⟨1, 16, false, .string ⟨#[]⟩⟩ := by kernel_rfl
theorem un9 : Try.prog.underlying 9 = some .string := by kernel_rfl
theorem ti10 : tinf Try.prog 10 = some ⟨1, 16, false, .string ⟨#[]⟩⟩ := by kernel_rfl
theorem un10 : Try.prog.underlying 10 = some .string := by kernel_rfl
theorem ti11 : tinf Try.prog 11 = some ⟨1, 16, false, .string ⟨#[]⟩⟩ := by kernel_rfl
theorem un11 : Try.prog.underlying 11 = some .string := by kernel_rfl
theorem ti12 : tinf Try.prog 12 = some ⟨1, 8, false, .int .u64 0⟩ := by kernel_rfl
theorem un12 : Try.prog.underlying 12 = some (.int .u64) := by kernel_rfl
theorem ti13 : tinf Try.prog 13 = some ⟨2, 24, true, .agg #[(.string ⟨#[]⟩), (.int .u64 0)]⟩ := by kernel_rfl
theorem bo13 : bldOk Try.prog 13 = true := by kernel_rfl
theorem fo13_0 : fieldOf Try.prog 13 0 = some (0, 1) := by kernel_rfl
theorem fo13_1 : fieldOf Try.prog 13 1 = some (1, 1) := by kernel_rfl
theorem ti14 : tinf Try.prog 14 = some ⟨2, 24, true, .agg #[(.string ⟨#[]⟩), (.int .u64 0)]⟩ := by kernel_rfl
theorem bo14 : bldOk Try.prog 14 = true := by kernel_rfl
theorem fo14_0 : fieldOf Try.prog 14 0 = some (0, 1) := by kernel_rfl
theorem fo14_1 : fieldOf Try.prog 14 1 = some (1, 1) := by kernel_rfl
theorem ti15 : tinf Try.prog 15 = some ⟨1, 8, false, .pointer none⟩ := by kernel_rfl
theorem ti16 : tinf Try.prog 16 = some ⟨1, 8, false, .pointer none⟩ := by kernel_rfl
theorem ti17 : tinf Try.prog 17 = some ⟨1, 8, false, .pointer none⟩ := by kernel_rfl
theorem ti18 : tinf Try.prog 18 = some ⟨1, 8, true, .agg #[(.pointer none)]⟩ := by kernel_rfl
theorem bo18 : bldOk Try.prog 18 = true := by kernel_rfl
theorem fo18_0 : fieldOf Try.prog 18 0 = some (0, 1) := by kernel_rfl
theorem ti19 : tinf Try.prog 19 = some ⟨1, 8, true, .agg #[(.pointer none)]⟩ := by kernel_rfl
theorem bo19 : bldOk Try.prog 19 = true := by kernel_rfl
theorem fo19_0 : fieldOf Try.prog 19 0 = some (0, 1) := by kernel_rfl
theorem ti21 : tinf Try.prog 21 = some ⟨1, 4, false, .int .i32 0⟩ := by kernel_rfl
theorem un21 : Try.prog.underlying 21 = some (.int .i32) := by kernel_rfl
theorem ti22 : tinf Try.prog 22 = some ⟨1, 24, false, .slice none 0 0⟩ := by kernel_rfl
theorem se22 : selem Try.prog 22 = some 35 := by kernel_rfl
theorem un22 : Try.prog.underlying 22 = some (.slice 35) := by kernel_rfl
theorem ti23 : tinf Try.prog 23 = some ⟨2, 32, true, .agg #[(.int .i64 0), (.slice none 0 0)]⟩ := by kernel_rfl
theorem bo23 : bldOk Try.prog 23 = true := by kernel_rfl
theorem fo23_0 : fieldOf Try.prog 23 0 = some (0, 1) := by kernel_rfl
theorem fo23_1 : fieldOf Try.prog 23 1 = some (1, 1) := by kernel_rfl
theorem ti24 : tinf Try.prog 24 = some ⟨2, 32, true, .agg #[(.int .i64 0), (.slice none 0 0)]⟩ := by kernel_rfl
theorem bo24 : bldOk Try.prog 24 = true := by kernel_rfl
theorem fo24_0 : fieldOf Try.prog 24 0 = some (0, 1) := by kernel_rfl
theorem fo24_1 : fieldOf Try.prog 24 1 = some (1, 1) := by kernel_rfl
theorem ti29 : tinf Try.prog 29 = some ⟨1, 8, false, .int .i64 0⟩ := by kernel_rfl
theorem un29 : Try.prog.underlying 29 = some (.int .i64) := by kernel_rfl
theorem ti35 : tinf Try.prog 35 = some ⟨1, 24, false, .slice none 0 0⟩ := by kernel_rfl
theorem se35 : selem Try.prog 35 = some 3 := by kernel_rfl
theorem un35 : Try.prog.underlying 35 = some (.slice 3) := by kernel_rfl
theorem ti36 : tinf Try.prog 36 = some ⟨1, 24, false, .slice none 0 0⟩ := by kernel_rfl
theorem se36 : selem Try.prog 36 = some 4 := by kernel_rfl
theorem un36 : Try.prog.underlying 36 = some (.slice 4) := by kernel_rfl
theorem ti45 : tinf Try.prog 45 = some ⟨4, 64, true, .agg #[(.int .i64 0), (.slice none 0 0), (.slice none 0 0), (.int .i64 0)]⟩ := by kernel_rfl
theorem bo45 : bldOk Try.prog 45 = true := by kernel_rfl
theorem fo45_0 : fieldOf Try.prog 45 0 = some (0, 1) := by kernel_rfl
theorem fo45_1 : fieldOf Try.prog 45 1 = some (1, 1) := by kernel_rfl
theorem fo45_2 : fieldOf Try.prog 45 2 = some (2, 1) := by kernel_rfl
theorem fo45_3 : fieldOf Try.prog 45 3 = some (3, 1) := by kernel_rfl
theorem ti46 : tinf Try.prog 46 = some ⟨4, 64, true, .agg #[(.int .i64 0), (.slice none 0 0), (.slice none 0 0), (.int .i64 0)]⟩ := by kernel_rfl
theorem bo46 : bldOk Try.prog 46 = true := by kernel_rfl
theorem fo46_0 : fieldOf Try.prog 46 0 = some (0, 1) := by kernel_rfl
theorem fo46_1 : fieldOf Try.prog 46 1 = some (1, 1) := by kernel_rfl
theorem fo46_2 : fieldOf Try.prog 46 2 = some (2, 1) := by kernel_rfl
theorem fo46_3 : fieldOf Try.prog 46 3 = some (3, 1) := by kernel_rfl
theorem ti59 : tinf Try.prog 59 = some ⟨1, 8, false, .pointer none⟩ := by kernel_rfl
theorem ti65 : tinf Try.prog 65 = some ⟨1, 8, false, .nilFunc⟩ := by kernel_rfl
theorem ti68 : tinf Try.prog 68 = some ⟨1, 8, false, .pointer none⟩ := by kernel_rfl
theorem ti69 : tinf Try.prog 69 = some ⟨1, 8, false, .map none⟩ := by kernel_rfl
theorem mt69 : mapTy Try.prog 69 = some (.int .i64, 3, 35) := by kernel_rfl
theorem ti70 : tinf Try.prog 70 = some ⟨1, 24, false, .slice none 0 0⟩ := by kernel_rfl
theorem se70 : selem Try.prog 70 = some 76 := by kernel_rfl
theorem un70 : Try.prog.underlying 70 = some (.slice 76) := by kernel_rfl
theorem ti71 : tinf Try.prog 71 = some ⟨10, 192, true, .agg #[(.int .i64 0), (.slice none 0 0), (.map none), (.slice none 0 0), (.slice none 0 0), (.slice none 0 0), (.slice none 0 0), (.slice none 0 0), (.int .i64 0), (.slice none 0 0)]⟩ := by kernel_rfl
theorem bo71 : bldOk Try.prog 71 = true := by kernel_rfl
theorem fo71_0 : fieldOf Try.prog 71 0 = some (0, 1) := by kernel_rfl
theorem fo71_1 : fieldOf Try.prog 71 1 = some (1, 1) := by kernel_rfl
theorem fo71_2 : fieldOf Try.prog 71 2 = some (2, 1) := by kernel_rfl
theorem fo71_3 : fieldOf Try.prog 71 3 = some (3, 1) := by kernel_rfl
theorem fo71_4 : fieldOf Try.prog 71 4 = some (4, 1) := by kernel_rfl
theorem fo71_5 : fieldOf Try.prog 71 5 = some (5, 1) := by kernel_rfl
theorem fo71_6 : fieldOf Try.prog 71 6 = some (6, 1) := by kernel_rfl
theorem fo71_7 : fieldOf Try.prog 71 7 = some (7, 1) := by kernel_rfl
theorem fo71_8 : fieldOf Try.prog 71 8 = some (8, 1) := by kernel_rfl
theorem fo71_9 : fieldOf Try.prog 71 9 = some (9, 1) := by kernel_rfl
theorem ti72 : tinf Try.prog 72 = some ⟨10, 192, true, .agg #[(.int .i64 0), (.slice none 0 0), (.map none), (.slice none 0 0), (.slice none 0 0), (.slice none 0 0), (.slice none 0 0), (.slice none 0 0), (.int .i64 0), (.slice none 0 0)]⟩ := by kernel_rfl
theorem bo72 : bldOk Try.prog 72 = true := by kernel_rfl
theorem fo72_0 : fieldOf Try.prog 72 0 = some (0, 1) := by kernel_rfl
theorem fo72_1 : fieldOf Try.prog 72 1 = some (1, 1) := by kernel_rfl
theorem fo72_2 : fieldOf Try.prog 72 2 = some (2, 1) := by kernel_rfl
theorem fo72_3 : fieldOf Try.prog 72 3 = some (3, 1) := by kernel_rfl
theorem fo72_4 : fieldOf Try.prog 72 4 = some (4, 1) := by kernel_rfl
theorem fo72_5 : fieldOf Try.prog 72 5 = some (5, 1) := by kernel_rfl
theorem fo72_6 : fieldOf Try.prog 72 6 = some (6, 1) := by kernel_rfl
theorem fo72_7 : fieldOf Try.prog 72 7 = some (7, 1) := by kernel_rfl
theorem fo72_8 : fieldOf Try.prog 72 8 = some (8, 1) := by kernel_rfl
theorem fo72_9 : fieldOf Try.prog 72 9 = some (9, 1) := by kernel_rfl
theorem ti76 : tinf Try.prog 76 = some ⟨1, 1, false, .int .i8 0⟩ := by kernel_rfl
theorem un76 : Try.prog.underlying 76 = some (.int .i8) := by kernel_rfl
theorem ti80 : tinf Try.prog 80 = some ⟨3, 56, true, .agg #[(.slice none 0 0), (.map none), (.slice none 0 0)]⟩ := by kernel_rfl
theorem bo80 : bldOk Try.prog 80 = true := by kernel_rfl
theorem fo80_0 : fieldOf Try.prog 80 0 = some (0, 1) := by kernel_rfl
theorem fo80_1 : fieldOf Try.prog 80 1 = some (1, 1) := by kernel_rfl
theorem fo80_2 : fieldOf Try.prog 80 2 = some (2, 1) := by kernel_rfl
theorem ti81 : tinf Try.prog 81 = some ⟨3, 56, true, .agg #[(.slice none 0 0), (.map none), (.slice none 0 0)]⟩ := by kernel_rfl
theorem bo81 : bldOk Try.prog 81 = true := by kernel_rfl
theorem fo81_0 : fieldOf Try.prog 81 0 = some (0, 1) := by kernel_rfl
theorem fo81_1 : fieldOf Try.prog 81 1 = some (1, 1) := by kernel_rfl
theorem fo81_2 : fieldOf Try.prog 81 2 = some (2, 1) := by kernel_rfl
theorem ti82 : tinf Try.prog 82 = some ⟨1, 8, false, .map none⟩ := by kernel_rfl
theorem mt82 : mapTy Try.prog 82 = some (.int .i64, 3, 83) := by kernel_rfl
theorem ti83 : tinf Try.prog 83 = some ⟨0, 0, true, .agg #[]⟩ := by kernel_rfl
theorem bo83 : bldOk Try.prog 83 = true := by kernel_rfl
theorem eq83 : eqTys Try.prog 83 = some [] := by kernel_rfl
theorem ti100 : tinf Try.prog 100 = some ⟨1, 8, false, .int .u64 0⟩ := by kernel_rfl
theorem un100 : Try.prog.underlying 100 = some (.int .u64) := by kernel_rfl
theorem ti102 : tinf Try.prog 102 = some ⟨1, 8, false, .int .i64 0⟩ := by kernel_rfl
theorem un102 : Try.prog.underlying 102 = some (.int .i64) := by kernel_rfl
theorem ti110 : tinf Try.prog 110 = some ⟨1, 4, false, .int .u32 0⟩ := by kernel_rfl
theorem un110 : Try.prog.underlying 110 = some (.int .u32) := by kernel_rfl
theorem ti112 : tinf Try.prog 112 = some ⟨1, 8, false, .int .u64 0⟩ := by kernel_rfl
theorem un112 : Try.prog.underlying 112 = some (.int .u64) := by kernel_rfl
theorem ti113 : tinf Try.prog 113 = some ⟨1, 8, false, .int .u64 0⟩ := by kernel_rfl
theorem un113 : Try.prog.underlying 113 = some (.int .u64) := by kernel_rfl
theorem ti117 : tinf Try.prog 117 = some ⟨1, 8, false, .pointer none⟩ := by kernel_rfl
theorem ti119 : tinf Try.prog 119 = some ⟨1, 8, false, .pointer none⟩ := by kernel_rfl
theorem ti122 : tinf Try.prog 122 = some ⟨4, 40, true, .agg #[(.pointer none), (.pointer none), (.pointer none), (.string ⟨#[]⟩)]⟩ := by kernel_rfl
theorem bo122 : bldOk Try.prog 122 = true := by kernel_rfl
theorem fo122_0 : fieldOf Try.prog 122 0 = some (0, 1) := by kernel_rfl
theorem fo122_1 : fieldOf Try.prog 122 1 = some (1, 1) := by kernel_rfl
theorem fo122_2 : fieldOf Try.prog 122 2 = some (2, 1) := by kernel_rfl
theorem fo122_3 : fieldOf Try.prog 122 3 = some (3, 1) := by kernel_rfl
theorem ti123 : tinf Try.prog 123 = some ⟨4, 40, true, .agg #[(.pointer none), (.pointer none), (.pointer none), (.string ⟨#[]⟩)]⟩ := by kernel_rfl
theorem bo123 : bldOk Try.prog 123 = true := by kernel_rfl
theorem fo123_0 : fieldOf Try.prog 123 0 = some (0, 1) := by kernel_rfl
theorem fo123_1 : fieldOf Try.prog 123 1 = some (1, 1) := by kernel_rfl
theorem fo123_2 : fieldOf Try.prog 123 2 = some (2, 1) := by kernel_rfl
theorem fo123_3 : fieldOf Try.prog 123 3 = some (3, 1) := by kernel_rfl
theorem ti125 : tinf Try.prog 125 = some ⟨0, 0, true, .agg #[]⟩ := by kernel_rfl
theorem bo125 : bldOk Try.prog 125 = true := by kernel_rfl
theorem ti126 : tinf Try.prog 126 = some ⟨0, 0, true, .agg #[]⟩ := by kernel_rfl
theorem bo126 : bldOk Try.prog 126 = true := by kernel_rfl
theorem ti127 : tinf Try.prog 127 = some ⟨1, 1, false, .int .u8 0⟩ := by kernel_rfl
theorem un127 : Try.prog.underlying 127 = some (.int .u8) := by kernel_rfl
theorem ti128 : tinf Try.prog 128 = some ⟨1, 1, false, .int .u8 0⟩ := by kernel_rfl
theorem un128 : Try.prog.underlying 128 = some (.int .u8) := by kernel_rfl
theorem ti130 : tinf Try.prog 130 = some ⟨1, 8, false, .pointer none⟩ := by kernel_rfl
theorem ti131 : tinf Try.prog 131 = some ⟨1, 4, false, .int .i32 0⟩ := by kernel_rfl
theorem un131 : Try.prog.underlying 131 = some (.int .i32) := by kernel_rfl
theorem ti132 : tinf Try.prog 132 = some ⟨1, 4, false, .int .i32 0⟩ := by kernel_rfl
theorem un132 : Try.prog.underlying 132 = some (.int .i32) := by kernel_rfl
theorem ti133 : tinf Try.prog 133 = some ⟨11, 48, true, .agg #[(.int .u64 0), (.int .u64 0), (.int .u32 0), (.int .u8 0), (.int .u8 0), (.int .u8 0), (.int .u8 0), .nilFunc, (.pointer none), (.int .i32 0), (.int .i32 0)]⟩ := by kernel_rfl
theorem bo133 : bldOk Try.prog 133 = true := by kernel_rfl
theorem fo133_0 : fieldOf Try.prog 133 0 = some (0, 1) := by kernel_rfl
theorem fo133_1 : fieldOf Try.prog 133 1 = some (1, 1) := by kernel_rfl
theorem fo133_2 : fieldOf Try.prog 133 2 = some (2, 1) := by kernel_rfl
theorem fo133_3 : fieldOf Try.prog 133 3 = some (3, 1) := by kernel_rfl
theorem fo133_4 : fieldOf Try.prog 133 4 = some (4, 1) := by kernel_rfl
theorem fo133_5 : fieldOf Try.prog 133 5 = some (5, 1) := by kernel_rfl
theorem fo133_6 : fieldOf Try.prog 133 6 = some (6, 1) := by kernel_rfl
theorem fo133_7 : fieldOf Try.prog 133 7 = some (7, 1) := by kernel_rfl
theorem fo133_8 : fieldOf Try.prog 133 8 = some (8, 1) := by kernel_rfl
theorem fo133_9 : fieldOf Try.prog 133 9 = some (9, 1) := by kernel_rfl
theorem fo133_10 : fieldOf Try.prog 133 10 = some (10, 1) := by kernel_rfl
theorem ti134 : tinf Try.prog 134 = some ⟨11, 48, true, .agg #[(.int .u64 0), (.int .u64 0), (.int .u32 0), (.int .u8 0), (.int .u8 0), (.int .u8 0), (.int .u8 0), .nilFunc, (.pointer none), (.int .i32 0), (.int .i32 0)]⟩ := by kernel_rfl
theorem bo134 : bldOk Try.prog 134 = true := by kernel_rfl
theorem fo134_0 : fieldOf Try.prog 134 0 = some (0, 1) := by kernel_rfl
theorem fo134_1 : fieldOf Try.prog 134 1 = some (1, 1) := by kernel_rfl
theorem fo134_2 : fieldOf Try.prog 134 2 = some (2, 1) := by kernel_rfl
theorem fo134_3 : fieldOf Try.prog 134 3 = some (3, 1) := by kernel_rfl
theorem fo134_4 : fieldOf Try.prog 134 4 = some (4, 1) := by kernel_rfl
theorem fo134_5 : fieldOf Try.prog 134 5 = some (5, 1) := by kernel_rfl
theorem fo134_6 : fieldOf Try.prog 134 6 = some (6, 1) := by kernel_rfl
theorem fo134_7 : fieldOf Try.prog 134 7 = some (7, 1) := by kernel_rfl
theorem fo134_8 : fieldOf Try.prog 134 8 = some (8, 1) := by kernel_rfl
theorem fo134_9 : fieldOf Try.prog 134 9 = some (9, 1) := by kernel_rfl
theorem fo134_10 : fieldOf Try.prog 134 10 = some (10, 1) := by kernel_rfl
theorem ip3 : isPlain Try.prog 3 = true := by kernel_rfl
theorem ip4 : isPlain Try.prog 4 = true := by kernel_rfl
theorem ip5 : isPlain Try.prog 5 = true := by kernel_rfl
theorem ip6 : isPlain Try.prog 6 = true := by kernel_rfl
theorem ip7 : isPlain Try.prog 7 = true := by kernel_rfl
theorem ip8 : isPlain Try.prog 8 = true := by kernel_rfl
theorem ip9 : isPlain Try.prog 9 = true := by kernel_rfl
theorem ip10 : isPlain Try.prog 10 = true := by kernel_rfl
theorem ip11 : isPlain Try.prog 11 = true := by kernel_rfl
theorem ip12 : isPlain Try.prog 12 = true := by kernel_rfl
theorem ip13 : isPlain Try.prog 13 = true := by kernel_rfl
theorem ip14 : isPlain Try.prog 14 = true := by kernel_rfl
theorem ip15 : isPlain Try.prog 15 = true := by kernel_rfl
theorem ip16 : isPlain Try.prog 16 = true := by kernel_rfl
theorem ip17 : isPlain Try.prog 17 = true := by kernel_rfl
theorem ip18 : isPlain Try.prog 18 = true := by kernel_rfl
theorem ip19 : isPlain Try.prog 19 = true := by kernel_rfl
theorem ip20 : isPlain Try.prog 20 = true := by kernel_rfl
theorem ip21 : isPlain Try.prog 21 = true := by kernel_rfl
theorem ip22 : isPlain Try.prog 22 = true := by kernel_rfl
theorem ip23 : isPlain Try.prog 23 = true := by kernel_rfl
theorem ip24 : isPlain Try.prog 24 = true := by kernel_rfl
theorem ip25 : isPlain Try.prog 25 = true := by kernel_rfl
theorem ip26 : isPlain Try.prog 26 = true := by kernel_rfl
theorem ip27 : isPlain Try.prog 27 = true := by kernel_rfl
theorem ip28 : isPlain Try.prog 28 = true := by kernel_rfl
theorem ip29 : isPlain Try.prog 29 = true := by kernel_rfl
theorem ip30 : isPlain Try.prog 30 = true := by kernel_rfl
theorem ip31 : isPlain Try.prog 31 = true := by kernel_rfl
theorem ip32 : isPlain Try.prog 32 = true := by kernel_rfl
theorem ip33 : isPlain Try.prog 33 = true := by kernel_rfl
theorem ip34 : isPlain Try.prog 34 = true := by kernel_rfl
theorem ip35 : isPlain Try.prog 35 = true := by kernel_rfl
theorem ip36 : isPlain Try.prog 36 = true := by kernel_rfl
theorem ip37 : isPlain Try.prog 37 = true := by kernel_rfl
theorem ip38 : isPlain Try.prog 38 = true := by kernel_rfl
theorem ip39 : isPlain Try.prog 39 = true := by kernel_rfl
theorem ip40 : isPlain Try.prog 40 = true := by kernel_rfl
theorem ip41 : isPlain Try.prog 41 = true := by kernel_rfl
theorem ip42 : isPlain Try.prog 42 = true := by kernel_rfl
theorem ip43 : isPlain Try.prog 43 = true := by kernel_rfl
theorem ip44 : isPlain Try.prog 44 = true := by kernel_rfl
theorem ip45 : isPlain Try.prog 45 = true := by kernel_rfl
theorem ip46 : isPlain Try.prog 46 = true := by kernel_rfl
theorem ip47 : isPlain Try.prog 47 = true := by kernel_rfl
theorem ip48 : isPlain Try.prog 48 = true := by kernel_rfl
theorem ip49 : isPlain Try.prog 49 = true := by kernel_rfl
theorem ip50 : isPlain Try.prog 50 = true := by kernel_rfl
theorem ip51 : isPlain Try.prog 51 = true := by kernel_rfl
theorem ip52 : isPlain Try.prog 52 = true := by kernel_rfl
theorem ip53 : isPlain Try.prog 53 = true := by kernel_rfl
theorem ip54 : isPlain Try.prog 54 = true := by kernel_rfl
theorem ip55 : isPlain Try.prog 55 = true := by kernel_rfl
theorem ip56 : isPlain Try.prog 56 = true := by kernel_rfl
theorem ip57 : isPlain Try.prog 57 = true := by kernel_rfl
theorem ip58 : isPlain Try.prog 58 = true := by kernel_rfl
theorem ip59 : isPlain Try.prog 59 = true := by kernel_rfl
theorem ip60 : isPlain Try.prog 60 = true := by kernel_rfl
theorem ip61 : isPlain Try.prog 61 = true := by kernel_rfl
theorem ip62 : isPlain Try.prog 62 = true := by kernel_rfl
theorem ip63 : isPlain Try.prog 63 = true := by kernel_rfl
theorem ip64 : isPlain Try.prog 64 = true := by kernel_rfl
theorem ip65 : isPlain Try.prog 65 = true := by kernel_rfl
theorem ip66 : isPlain Try.prog 66 = true := by kernel_rfl
theorem ip67 : isPlain Try.prog 67 = true := by kernel_rfl
theorem ip68 : isPlain Try.prog 68 = true := by kernel_rfl
theorem ip69 : isPlain Try.prog 69 = true := by kernel_rfl
theorem ip70 : isPlain Try.prog 70 = true := by kernel_rfl
theorem ip71 : isPlain Try.prog 71 = true := by kernel_rfl
theorem ip72 : isPlain Try.prog 72 = true := by kernel_rfl
theorem ip73 : isPlain Try.prog 73 = true := by kernel_rfl
theorem ip74 : isPlain Try.prog 74 = true := by kernel_rfl
theorem ip75 : isPlain Try.prog 75 = true := by kernel_rfl
theorem ip76 : isPlain Try.prog 76 = true := by kernel_rfl
theorem ip77 : isPlain Try.prog 77 = true := by kernel_rfl
theorem ip78 : isPlain Try.prog 78 = true := by kernel_rfl
theorem ip79 : isPlain Try.prog 79 = true := by kernel_rfl
theorem ip80 : isPlain Try.prog 80 = true := by kernel_rfl
theorem ip81 : isPlain Try.prog 81 = true := by kernel_rfl
theorem ip82 : isPlain Try.prog 82 = true := by kernel_rfl
theorem ip83 : isPlain Try.prog 83 = true := by kernel_rfl
theorem ip84 : isPlain Try.prog 84 = true := by kernel_rfl
theorem ip85 : isPlain Try.prog 85 = true := by kernel_rfl
theorem ip86 : isPlain Try.prog 86 = true := by kernel_rfl
theorem ip87 : isPlain Try.prog 87 = true := by kernel_rfl
theorem ip88 : isPlain Try.prog 88 = true := by kernel_rfl
theorem ip89 : isPlain Try.prog 89 = true := by kernel_rfl
theorem ip90 : isPlain Try.prog 90 = true := by kernel_rfl
theorem ip91 : isPlain Try.prog 91 = true := by kernel_rfl
theorem ip92 : isPlain Try.prog 92 = true := by kernel_rfl
theorem ip93 : isPlain Try.prog 93 = true := by kernel_rfl
theorem ip94 : isPlain Try.prog 94 = true := by kernel_rfl
theorem ip95 : isPlain Try.prog 95 = true := by kernel_rfl
theorem ip96 : isPlain Try.prog 96 = true := by kernel_rfl
theorem ip97 : isPlain Try.prog 97 = true := by kernel_rfl
theorem ip98 : isPlain Try.prog 98 = true := by kernel_rfl
theorem mixed : Try.prog.follows .mixedOrders = true := by kernel_rfl
end Go.Proofs.Ytafeehlpmdligaa.M
