/- What is known of the program's types: facts by looking. -/
import Derived.Test.YtjjmedgibcffhaaProg
import Derived.KernelRfl
import Derived.Test.YtjjmedgibcffhaaRMc
namespace Go.Proofs.Ytjjmedgibcffhaa.M
open Go.RowKit
theorem ti2 : tinf Try.prog 2 = some ⟨1, 8, false, .int .i64 0⟩ := by kernel_rfl
theorem un2 : Try.prog.underlying 2 = some (.int .i64) := by kernel_rfl
theorem ti3 : tinf Try.prog 3 = some ⟨1, 8, false, .int .i64 0⟩ := by kernel_rfl
theorem un3 : Try.prog.underlying 3 = some (.int .i64) := by kernel_rfl
theorem ti4 : tinf Try.prog 4 = some ⟨1, 1, false, .bool false⟩ := by kernel_rfl
theorem ti5 : tinf Try.prog 5 = some ⟨1, 1, false, .int .u8 0⟩ := by kernel_rfl
theorem un5 : Try.prog.underlying 5 = some (.int .u8) := by kernel_rfl
theorem ti6 : tinf Try.prog 6 = some ⟨1, 1, false, .int .u8 0⟩ := by kernel_rfl
theorem un6 : Try.prog.underlying 6 = some (.int .u8) := by kernel_rfl
theorem ti7 : tinf Try.prog 7 = some ⟨4, 24, true, .agg #[(.int .i64 0), (.int .i64 0), (.bool false), (.int .u8 0)]⟩ := by kernel_rfl
theorem bo7 : bldOk Try.prog 7 = true := by kernel_rfl
theorem fo7_0 : fieldOf Try.prog 7 0 = some (0, 1) := by kernel_rfl
theorem fo7_1 : fieldOf Try.prog 7 1 = some (1, 1) := by kernel_rfl
theorem fo7_2 : fieldOf Try.prog 7 2 = some (2, 1) := by kernel_rfl
theorem fo7_3 : fieldOf Try.prog 7 3 = some (3, 1) := by kernel_rfl
theorem ti8 : tinf Try.prog 8 = some ⟨4, 24, true, .agg #[(.int .i64 0), (.int .i64 0), (.bool false), (.int .u8 0)]⟩ := by kernel_rfl
theorem bo8 : bldOk Try.prog 8 = true := by kernel_rfl
theorem fo8_0 : fieldOf Try.prog 8 0 = some (0, 1) := by kernel_rfl
theorem fo8_1 : fieldOf Try.prog 8 1 = some (1, 1) := by kernel_rfl
theorem fo8_2 : fieldOf Try.prog 8 2 = some (2, 1) := by kernel_rfl
theorem fo8_3 : fieldOf Try.prog 8 3 = some (3, 1) := by kernel_rfl
theorem ti9 : tinf Try.prog 9 = some ⟨1, 16, false, .string ⟨#[]⟩⟩ := by kernel_rfl
theorem un9 : Try.prog.underlying 9 = some .string := by kernel_rfl
theorem ti10 : tinf Try.prog 10 = some ⟨1, 16, false, .string ⟨#[]⟩⟩ := by kernel_rfl
theorem un10 : Try.prog.underlying 10 = some .string := by kernel_rfl
theorem ti11 : tinf Try.prog 11 = some ⟨1, 16, false, .string ⟨#[]⟩⟩ := by kernel_rfl
theorem un11 : Try.prog.underlying 11 = some .string := by kernel_rfl
theorem ti12 : tinf Try.prog 12 = some ⟨1, 8, false, .int .u64 0⟩ := by kernel_rfl
theorem un12 : Try.prog.underlying 12 = some (.int .u64) := by kernel_rfl
theorem ti13 : tinf Try.prog 13 = some ⟨2, 24, true, .agg #[(.string ⟨#[]⟩), (.int .u64 0)]⟩ := by kernel_rfl
theorem bo13 : bldOk Try.prog 13 = true := by kernel_rfl
theorem fo13_0 : fieldOf Try.prog 13 0 = some (0, 1) := by kernel_rfl
theorem fo13_1 : fieldOf Try.prog 13 1 = some (1, 1) := by kernel_rfl
theorem ti14 : tinf Try.prog 14 = some ⟨2, 24, true, .agg #[(.string ⟨#[]⟩), (.int .u64 0)]⟩ := by kernel_rfl
theorem bo14 : bldOk Try.prog 14 = true := by kernel_rfl
theorem fo14_0 : fieldOf Try.prog 14 0 = some (0, 1) := by kernel_rfl
theorem fo14_1 : fieldOf Try.prog 14 1 = some (1, 1) := by kernel_rfl
theorem ti15 : tinf Try.prog 15 = some ⟨1, 8, false, .pointer none⟩ := by kernel_rfl
theorem ti16 : tinf Try.prog 16 = some ⟨1, 8, false, .pointer none⟩ := by kernel_rfl
theorem ti17 : tinf Try.prog 17 = some ⟨1, 8, false, .pointer none⟩ := by kernel_rfl
theorem ti18 : tinf Try.prog 18 = some ⟨1, 8, true, .agg #[(.pointer none)]⟩ := by kernel_rfl
theorem bo18 : bldOk Try.prog 18 = true := by kernel_rfl
theorem fo18_0 : fieldOf Try.prog 18 0 = some (0, 1) := by kernel_rfl
theorem ti19 : tinf Try.prog 19 = some ⟨1, 8, true, .agg #[(.pointer none)]⟩ := by kernel_rfl
theorem bo19 : bldOk Try.prog 19 = true := by kernel_rfl
theorem fo19_0 : fieldOf Try.prog 19 0 = some (0, 1) := by kernel_rfl
theorem ti21 : tinf Try.prog 21 = some ⟨1, 4, false, .int .i32 0⟩ := by kernel_rfl
theorem un21 : Try.prog.underlying 21 = some (.int .i32) := by kernel_rfl
theorem ti22 : tinf Try.prog 22 = some ⟨1, 24, false, .slice none 0 0⟩ := by kernel_rfl
theorem se22 : selem Try.prog 22 = some 67 := by kernel_rfl
theorem un22 : Try.prog.underlying 22 = some (.slice 67) := by kernel_rfl
theorem ti23 : tinf Try.prog 23 = some ⟨3, 40, true, .agg #[(.int .i64 0), (.int .i64 0), (.slice none 0 0)]⟩ := by kernel_rfl
theorem bo23 : bldOk Try.prog 23 = true := by kernel_rfl
theorem fo23_0 : fieldOf Try.prog 23 0 = some (0, 1) := by kernel_rfl
theorem fo23_1 : fieldOf Try.prog 23 1 = some (1, 1) := by kernel_rfl
theorem fo23_2 : fieldOf Try.prog 23 2 = some (2, 1) := by kernel_rfl
theorem ti24 : tinf Try.prog 24 = some ⟨3, 40, true, .agg #[(.int .i64 0), (.int .i64 0), (.slice none 0 0)]⟩ := by kernel_rfl
theorem bo24 : bldOk Try.prog 24 = true := by kernel_rfl
theorem fo24_0 : fieldOf Try.prog 24 0 = some (0, 1) := by kernel_rfl
theorem fo24_1 : fieldOf Try.prog 24 1 = some (1, 1) := by kernel_rfl
theorem fo24_2 : fieldOf Try.prog 24 2 = some (2, 1) := by kernel_rfl
theorem ti27 : tinf Try.prog 27 = some ⟨1, 24, false, .slice none 0 0⟩ := by kernel_rfl
theorem se27 : selem Try.prog 27 = some 24 := by kernel_rfl
theorem un27 : Try.prog.underlying 27 = some (.slice 24) := by kernel_rfl
theorem ti28 : tinf Try.prog 28 = some ⟨1, 24, false, .slice none 0 0⟩ := by kernel_rfl
theorem se28 : selem Try.prog 28 = some 37 := by kernel_rfl
theorem un28 : Try.prog.underlying 28 = some (.slice 37) := by kernel_rfl
theorem ti29 : tinf Try.prog 29 = some ⟨1, 8, false, .int .i64 0⟩ := by kernel_rfl
theorem un29 : Try.prog.underlying 29 = some (.int .i64) := by kernel_rfl
theorem ti30 : tinf Try.prog 30 = some ⟨2, 16, true, .agg #[(.int .i64 0), (.int .i64 0)]⟩ := by kernel_rfl
theorem bo30 : bldOk Try.prog 30 = true := by kernel_rfl
theorem fo30_0 : fieldOf Try.prog 30 0 = some (0, 1) := by kernel_rfl
theorem fo30_1 : fieldOf Try.prog 30 1 = some (1, 1) := by kernel_rfl
theorem eq30 : eqTys Try.prog 30 = some [.int .i64, .int .i64] := by kernel_rfl
theorem ti31 : tinf Try.prog 31 = some ⟨2, 16, true, .agg #[(.int .i64 0), (.int .i64 0)]⟩ := by kernel_rfl
theorem bo31 : bldOk Try.prog 31 = true := by kernel_rfl
theorem fo31_0 : fieldOf Try.prog 31 0 = some (0, 1) := by kernel_rfl
theorem fo31_1 : fieldOf Try.prog 31 1 = some (1, 1) := by kernel_rfl
theorem eq31 : eqTys Try.prog 31 = some [.int .i64, .int .i64] := by kernel_rfl
theorem ti34 : tinf Try.prog 34 = some ⟨1, 24, false, .slice none 0 0⟩ := by kernel_rfl
theorem se34 : selem Try.prog 34 = some 4 := by kernel_rfl
theorem un34 : Try.prog.underlying 34 = some (.slice 4) := by kernel_rfl
theorem ti35 : tinf Try.prog 35 = some ⟨1, 8, false, .map none⟩ := by kernel_rfl
theorem mt35 : mapTy Try.prog 35 = some (.int .i64, 2, 3) := by kernel_rfl
theorem ti36 : tinf Try.prog 36 = some ⟨3, 24, true, .agg #[(.int .i64 0), (.int .i64 0), (.int .i64 0)]⟩ := by kernel_rfl
theorem bo36 : bldOk Try.prog 36 = true := by kernel_rfl
theorem fo36_0 : fieldOf Try.prog 36 0 = some (0, 1) := by kernel_rfl
theorem fo36_1 : fieldOf Try.prog 36 1 = some (1, 1) := by kernel_rfl
theorem fo36_2 : fieldOf Try.prog 36 2 = some (2, 1) := by kernel_rfl
theorem eq36 : eqTys Try.prog 36 = some [.int .i64, .int .i64, .int .i64] := by kernel_rfl
theorem ti37 : tinf Try.prog 37 = some ⟨3, 24, true, .agg #[(.int .i64 0), (.int .i64 0), (.int .i64 0)]⟩ := by kernel_rfl
theorem bo37 : bldOk Try.prog 37 = true := by kernel_rfl
theorem fo37_0 : fieldOf Try.prog 37 0 = some (0, 1) := by kernel_rfl
theorem fo37_1 : fieldOf Try.prog 37 1 = some (1, 1) := by kernel_rfl
theorem fo37_2 : fieldOf Try.prog 37 2 = some (2, 1) := by kernel_rfl
theorem eq37 : eqTys Try.prog 37 = some [.int .i64, .int .i64, .int .i64] := by kernel_rfl
theorem ti39 : tinf Try.prog 39 = some ⟨1, 8, false, .int .u64 0⟩ := by kernel_rfl
theorem un39 : Try.prog.underlying 39 = some (.int .u64) := by kernel_rfl
theorem ti41 : tinf Try.prog 41 = some ⟨1, 24, false, .slice none 0 0⟩ := by kernel_rfl
theorem se41 : selem Try.prog 41 = some 3 := by kernel_rfl
theorem un41 : Try.prog.underlying 41 = some (.slice 3) := by kernel_rfl
theorem ti44 : tinf Try.prog 44 = some ⟨1, 24, false, .slice none 0 0⟩ := by kernel_rfl
theorem se44 : selem Try.prog 44 = some 2 := by kernel_rfl
theorem un44 : Try.prog.underlying 44 = some (.slice 2) := by kernel_rfl
theorem ti50 : tinf Try.prog 50 = some ⟨1, 24, false, .slice none 0 0⟩ := by kernel_rfl
theorem se50 : selem Try.prog 50 = some 9 := by kernel_rfl
theorem un50 : Try.prog.underlying 50 = some (.slice 9) := by kernel_rfl
theorem ti51 : tinf Try.prog 51 = some ⟨1, 24, false, .slice none 0 0⟩ := by kernel_rfl
theorem se51 : selem Try.prog 51 = some 63 := by kernel_rfl
theorem un51 : Try.prog.underlying 51 = some (.slice 63) := by kernel_rfl
theorem ti52 : tinf Try.prog 52 = some ⟨2, 48, true, .agg #[(.slice none 0 0), (.slice none 0 0)]⟩ := by kernel_rfl
theorem bo52 : bldOk Try.prog 52 = true := by kernel_rfl
theorem fo52_0 : fieldOf Try.prog 52 0 = some (0, 1) := by kernel_rfl
theorem fo52_1 : fieldOf Try.prog 52 1 = some (1, 1) := by kernel_rfl
theorem ti53 : tinf Try.prog 53 = some ⟨2, 48, true, .agg #[(.slice none 0 0), (.slice none 0 0)]⟩ := by kernel_rfl
theorem bo53 : bldOk Try.prog 53 = true := by kernel_rfl
theorem fo53_0 : fieldOf Try.prog 53 0 = some (0, 1) := by kernel_rfl
theorem fo53_1 : fieldOf Try.prog 53 1 = some (1, 1) := by kernel_rfl
theorem ti60 : tinf Try.prog 60 = some ⟨1, 8, false, .map none⟩ := by kernel_rfl
theorem mt60 : mapTy Try.prog 60 = some (.str, 9, 3) := by kernel_rfl
theorem ti61 : tinf Try.prog 61 = some ⟨1, 24, false, .slice none 0 0⟩ := by kernel_rfl
theorem se61 : selem Try.prog 61 = some 65 := by kernel_rfl
theorem un61 : Try.prog.underlying 61 = some (.slice 65) := by kernel_rfl
theorem ti62 : tinf Try.prog 62 = some ⟨5, 56, true, .agg #[(.int .i64 0), (.int .i64 0), (.int .i64 0), (.int .i64 0), (.slice none 0 0)]⟩ := by kernel_rfl
theorem bo62 : bldOk Try.prog 62 = true := by kernel_rfl
theorem fo62_0 : fieldOf Try.prog 62 0 = some (0, 1) := by kernel_rfl
theorem fo62_1 : fieldOf Try.prog 62 1 = some (1, 1) := by kernel_rfl
theorem fo62_2 : fieldOf Try.prog 62 2 = some (2, 1) := by kernel_rfl
theorem fo62_3 : fieldOf Try.prog 62 3 = some (3, 1) := by kernel_rfl
theorem fo62_4 : fieldOf Try.prog 62 4 = some (4, 1) := by kernel_rfl
theorem ti63 : tinf Try.prog 63 = some ⟨5, 56, true, .agg #[(.int .i64 0), (.int .i64 0), (.int .i64 0), (.int .i64 0), (.slice none 0 0)]⟩ := by kernel_rfl
theorem bo63 : bldOk Try.prog 63 = true := by kernel_rfl
theorem fo63_0 : fieldOf Try.prog 63 0 = some (0, 1) := by kernel_rfl
theorem fo63_1 : fieldOf Try.prog 63 1 = some (1, 1) := by kernel_rfl
theorem fo63_2 : fieldOf Try.prog 63 2 = some (2, 1) := by kernel_rfl
theorem fo63_3 : fieldOf Try.prog 63 3 = some (3, 1) := by kernel_rfl
theorem fo63_4 : fieldOf Try.prog 63 4 = some (4, 1) := by kernel_rfl
theorem ti64 : tinf Try.prog 64 = some ⟨5, 56, true, .agg #[(.int .i64 0), (.int .i64 0), (.int .i64 0), (.bool false), (.slice none 0 0)]⟩ := by kernel_rfl
theorem bo64 : bldOk Try.prog 64 = true := by kernel_rfl
theorem fo64_0 : fieldOf Try.prog 64 0 = some (0, 1) := by kernel_rfl
theorem fo64_1 : fieldOf Try.prog 64 1 = some (1, 1) := by kernel_rfl
theorem fo64_2 : fieldOf Try.prog 64 2 = some (2, 1) := by kernel_rfl
theorem fo64_3 : fieldOf Try.prog 64 3 = some (3, 1) := by kernel_rfl
theorem fo64_4 : fieldOf Try.prog 64 4 = some (4, 1) := by kernel_rfl
theorem ti65 : tinf Try.prog 65 = some ⟨5, 56, true, .agg #[(.int .i64 0), (.int .i64 0), (.int .i64 0), (.bool false), (.slice none 0 0)]⟩ := by kernel_rfl
theorem bo65 : bldOk Try.prog 65 = true := by kernel_rfl
theorem fo65_0 : fieldOf Try.prog 65 0 = some (0, 1) := by kernel_rfl
theorem fo65_1 : fieldOf Try.prog 65 1 = some (1, 1) := by kernel_rfl
theorem fo65_2 : fieldOf Try.prog 65 2 = some (2, 1) := by kernel_rfl
theorem fo65_3 : fieldOf Try.prog 65 3 = some (3, 1) := by kernel_rfl
theorem fo65_4 : fieldOf Try.prog 65 4 = some (4, 1) := by kernel_rfl
theorem ti66 : tinf Try.prog 66 = some ⟨5, 64, true, .agg #[(.int .i64 0), (.string ⟨#[]⟩), (.int .i64 0), (.bool false), (.slice none 0 0)]⟩ := by kernel_rfl
theorem bo66 : bldOk Try.prog 66 = true := by kernel_rfl
theorem fo66_0 : fieldOf Try.prog 66 0 = some (0, 1) := by kernel_rfl
theorem fo66_1 : fieldOf Try.prog 66 1 = some (1, 1) := by kernel_rfl
theorem fo66_2 : fieldOf Try.prog 66 2 = some (2, 1) := by kernel_rfl
theorem fo66_3 : fieldOf Try.prog 66 3 = some (3, 1) := by kernel_rfl
theorem fo66_4 : fieldOf Try.prog 66 4 = some (4, 1) := by kernel_rfl
theorem ti67 : tinf Try.prog 67 = some ⟨5, 64, true, .agg #[(.int .i64 0), (.string ⟨#[]⟩), (.int .i64 0), (.bool false), (.slice none 0 0)]⟩ := by kernel_rfl
theorem bo67 : bldOk Try.prog 67 = true := by kernel_rfl
theorem fo67_0 : fieldOf Try.prog 67 0 = some (0, 1) := by kernel_rfl
theorem fo67_1 : fieldOf Try.prog 67 1 = some (1, 1) := by kernel_rfl
theorem fo67_2 : fieldOf Try.prog 67 2 = some (2, 1) := by kernel_rfl
theorem fo67_3 : fieldOf Try.prog 67 3 = some (3, 1) := by kernel_rfl
theorem fo67_4 : fieldOf Try.prog 67 4 = some (4, 1) := by kernel_rfl
theorem ti70 : tinf Try.prog 70 = some ⟨1, 8, false, .pointer none⟩ := by kernel_rfl
theorem ti82 : tinf Try.prog 82 = some ⟨1, 8, false, .pointer none⟩ := by kernel_rfl
theorem ti85 : tinf Try.prog 85 = some ⟨1, 8, false, .map none⟩ := by kernel_rfl
theorem mt85 : mapTy Try.prog 85 = some (.pair .i64, 108, 109) := by kernel_rfl
theorem ti86 : tinf Try.prog 86 = some ⟨1, 8, false, .map none⟩ := by kernel_rfl
theorem mt86 : mapTy Try.prog 86 = some (.str, 9, 41) := by kernel_rfl
theorem ti87 : tinf Try.prog 87 = some ⟨5, 72, true, .agg #[(.slice none 0 0), (.map none), (.slice none 0 0), (.map none), (.map none)]⟩ := by kernel_rfl
theorem bo87 : bldOk Try.prog 87 = true := by kernel_rfl
theorem fo87_0 : fieldOf Try.prog 87 0 = some (0, 1) := by kernel_rfl
theorem fo87_1 : fieldOf Try.prog 87 1 = some (1, 1) := by kernel_rfl
theorem fo87_2 : fieldOf Try.prog 87 2 = some (2, 1) := by kernel_rfl
theorem fo87_3 : fieldOf Try.prog 87 3 = some (3, 1) := by kernel_rfl
theorem fo87_4 : fieldOf Try.prog 87 4 = some (4, 1) := by kernel_rfl
theorem ti88 : tinf Try.prog 88 = some ⟨5, 72, true, .agg #[(.slice none 0 0), (.map none), (.slice none 0 0), (.map none), (.map none)]⟩ := by kernel_rfl
theorem bo88 : bldOk Try.prog 88 = true := by kernel_rfl
theorem fo88_0 : fieldOf Try.prog 88 0 = some (0, 1) := by kernel_rfl
theorem fo88_1 : fieldOf Try.prog 88 1 = some (1, 1) := by kernel_rfl
theorem fo88_2 : fieldOf Try.prog 88 2 = some (2, 1) := by kernel_rfl
theorem fo88_3 : fieldOf Try.prog 88 3 = some (3, 1) := by kernel_rfl
theorem fo88_4 : fieldOf Try.prog 88 4 = some (4, 1) := by kernel_rfl
theorem ti90 : tinf Try.prog 90 = some ⟨1, 8, false, .pointer none⟩ := by kernel_rfl
theorem ti91 : tinf Try.prog 91 = some ⟨1, 24, false, .slice none 0 0⟩ := by kernel_rfl
theorem se91 : selem Try.prog 91 = some 44 := by kernel_rfl
theorem un91 : Try.prog.underlying 91 = some (.slice 44) := by kernel_rfl
theorem ti92 : tinf Try.prog 92 = some ⟨5, 120, true, .agg #[(.slice none 0 0), (.slice none 0 0), (.slice none 0 0), (.slice none 0 0), (.slice none 0 0)]⟩ := by kernel_rfl
theorem bo92 : bldOk Try.prog 92 = true := by kernel_rfl
theorem fo92_0 : fieldOf Try.prog 92 0 = some (0, 1) := by kernel_rfl
theorem fo92_1 : fieldOf Try.prog 92 1 = some (1, 1) := by kernel_rfl
theorem fo92_2 : fieldOf Try.prog 92 2 = some (2, 1) := by kernel_rfl
theorem fo92_3 : fieldOf Try.prog 92 3 = some (3, 1) := by kernel_rfl
theorem fo92_4 : fieldOf Try.prog 92 4 = some (4, 1) := by kernel_rfl
theorem ti93 : tinf Try.prog 93 = some ⟨5, 120, true, .agg #[(.slice none 0 0), (.slice none 0 0), (.slice none 0 0), (.slice none 0 0), (.slice none 0 0)]⟩ := by kernel_rfl
theorem bo93 : bldOk Try.prog 93 = true := by kernel_rfl
theorem fo93_0 : fieldOf Try.prog 93 0 = some (0, 1) := by kernel_rfl
theorem fo93_1 : fieldOf Try.prog 93 1 = some (1, 1) := by kernel_rfl
theorem fo93_2 : fieldOf Try.prog 93 2 = some (2, 1) := by kernel_rfl
theorem fo93_3 : fieldOf Try.prog 93 3 = some (3, 1) := by kernel_rfl
theorem fo93_4 : fieldOf Try.prog 93 4 = some (4, 1) := by kernel_rfl
theorem ti107 : tinf Try.prog 107 = some ⟨2, 24, true, .agg #[(.string ⟨#[]⟩), (.int .i64 0)]⟩ := by kernel_rfl
theorem bo107 : bldOk Try.prog 107 = true := by kernel_rfl
theorem fo107_0 : fieldOf Try.prog 107 0 = some (0, 1) := by kernel_rfl
theorem fo107_1 : fieldOf Try.prog 107 1 = some (1, 1) := by kernel_rfl
theorem eq107 : eqTys Try.prog 107 = some [.string, .int .i64] := by kernel_rfl
theorem ti108 : tinf Try.prog 108 = some ⟨2, 24, true, .agg #[(.string ⟨#[]⟩), (.int .i64 0)]⟩ := by kernel_rfl
theorem bo108 : bldOk Try.prog 108 = true := by kernel_rfl
theorem fo108_0 : fieldOf Try.prog 108 0 = some (0, 1) := by kernel_rfl
theorem fo108_1 : fieldOf Try.prog 108 1 = some (1, 1) := by kernel_rfl
theorem eq108 : eqTys Try.prog 108 = some [.string, .int .i64] := by kernel_rfl
theorem ti109 : tinf Try.prog 109 = some ⟨0, 0, true, .agg #[]⟩ := by kernel_rfl
theorem bo109 : bldOk Try.prog 109 = true := by kernel_rfl
theorem eq109 : eqTys Try.prog 109 = some [] := by kernel_rfl
theorem ti119 : tinf Try.prog 119 = some ⟨4, 40, true, .agg #[(.pointer none), (.pointer none), (.pointer none), (.string ⟨#[]⟩)]⟩ := by kernel_rfl
theorem bo119 : bldOk Try.prog 119 = true := by kernel_rfl
theorem fo119_0 : fieldOf Try.prog 119 0 = some (0, 1) := by kernel_rfl
theorem fo119_1 : fieldOf Try.prog 119 1 = some (1, 1) := by kernel_rfl
theorem fo119_2 : fieldOf Try.prog 119 2 = some (2, 1) := by kernel_rfl
theorem fo119_3 : fieldOf Try.prog 119 3 = some (3, 1) := by kernel_rfl
theorem ti120 : tinf Try.prog 120 = some ⟨4, 40, true, .agg #[(.pointer none), (.pointer none), (.pointer none), (.string ⟨#[]⟩)]⟩ := by kernel_rfl
theorem bo120 : bldOk Try.prog 120 = true := by kernel_rfl
theorem fo120_0 : fieldOf Try.prog 120 0 = some (0, 1) := by kernel_rfl
theorem fo120_1 : fieldOf Try.prog 120 1 = some (1, 1) := by kernel_rfl
theorem fo120_2 : fieldOf Try.prog 120 2 = some (2, 1) := by kernel_rfl
theorem fo120_3 : fieldOf Try.prog 120 3 = some (3, 1) := by kernel_rfl
theorem ti122 : tinf Try.prog 122 = some ⟨0, 0, true, .agg #[]⟩ := by kernel_rfl
theorem bo122 : bldOk Try.prog 122 = true := by kernel_rfl
theorem ti123 : tinf Try.prog 123 = some ⟨0, 0, true, .agg #[]⟩ := by kernel_rfl
theorem bo123 : bldOk Try.prog 123 = true := by kernel_rfl
theorem ti125 : tinf Try.prog 125 = some ⟨1, 4, false, .int .u32 0⟩ := by kernel_rfl
theorem un125 : Try.prog.underlying 125 = some (.int .u32) := by kernel_rfl
theorem ti126 : tinf Try.prog 126 = some ⟨1, 1, false, .int .u8 0⟩ := by kernel_rfl
theorem un126 : Try.prog.underlying 126 = some (.int .u8) := by kernel_rfl
theorem ti127 : tinf Try.prog 127 = some ⟨1, 1, false, .int .u8 0⟩ := by kernel_rfl
theorem un127 : Try.prog.underlying 127 = some (.int .u8) := by kernel_rfl
theorem ti129 : tinf Try.prog 129 = some ⟨1, 8, false, .pointer none⟩ := by kernel_rfl
theorem ti130 : tinf Try.prog 130 = some ⟨1, 4, false, .int .i32 0⟩ := by kernel_rfl
theorem un130 : Try.prog.underlying 130 = some (.int .i32) := by kernel_rfl
theorem ti131 : tinf Try.prog 131 = some ⟨1, 4, false, .int .i32 0⟩ := by kernel_rfl
theorem un131 : Try.prog.underlying 131 = some (.int .i32) := by kernel_rfl
theorem ti132 : tinf Try.prog 132 = some ⟨11, 48, true, .agg #[(.int .u64 0), (.int .u64 0), (.int .u32 0), (.int .u8 0), (.int .u8 0), (.int .u8 0), (.int .u8 0), .nilFunc, (.pointer none), (.int .i32 0), (.int .i32 0)]⟩ := by kernel_rfl
theorem bo132 : bldOk Try.prog 132 = true := by kernel_rfl
theorem fo132_0 : fieldOf Try.prog 132 0 = some (0, 1) := by kernel_rfl
theorem fo132_1 : fieldOf Try.prog 132 1 = some (1, 1) := by kernel_rfl
theorem fo132_2 : fieldOf Try.prog 132 2 = some (2, 1) := by kernel_rfl
theorem fo132_3 : fieldOf Try.prog 132 3 = some (3, 1) := by kernel_rfl
theorem fo132_4 : fieldOf Try.prog 132 4 = some (4, 1) := by kernel_rfl
theorem fo132_5 : fieldOf Try.prog 132 5 = some (5, 1) := by kernel_rfl
theorem fo132_6 : fieldOf Try.prog 132 6 = some (6, 1) := by kernel_rfl
theorem fo132_7 : fieldOf Try.prog 132 7 = some (7, 1) := by kernel_rfl
theorem fo132_8 : fieldOf Try.prog 132 8 = some (8, 1) := by kernel_rfl
theorem fo132_9 : fieldOf Try.prog 132 9 = some (9, 1) := by kernel_rfl
theorem fo132_10 : fieldOf Try.prog 132 10 = some (10, 1) := by kernel_rfl
theorem ti133 : tinf Try.prog 133 = some ⟨11, 48, true, .agg #[(.int .u64 0), (.int .u64 0), (.int .u32 0), (.int .u8 0), (.int .u8 0), (.int .u8 0), (.int .u8 0), .nilFunc, (.pointer none), (.int .i32 0), (.int .i32 0)]⟩ := by kernel_rfl
theorem bo133 : bldOk Try.prog 133 = true := by kernel_rfl
theorem fo133_0 : fieldOf Try.prog 133 0 = some (0, 1) := by kernel_rfl
theorem fo133_1 : fieldOf Try.prog 133 1 = some (1, 1) := by kernel_rfl
theorem fo133_2 : fieldOf Try.prog 133 2 = some (2, 1) := by kernel_rfl
theorem fo133_3 : fieldOf Try.prog 133 3 = some (3, 1) := by kernel_rfl
theorem fo133_4 : fieldOf Try.prog 133 4 = some (4, 1) := by kernel_rfl
theorem fo133_5 : fieldOf Try.prog 133 5 = some (5, 1) := by kernel_rfl
theorem fo133_6 : fieldOf Try.prog 133 6 = some (6, 1) := by kernel_rfl
theorem fo133_7 : fieldOf Try.prog 133 7 = some (7, 1) := by kernel_rfl
theorem fo133_8 : fieldOf Try.prog 133 8 = some (8, 1) := by kernel_rfl
theorem fo133_9 : fieldOf Try.prog 133 9 = some (9, 1) := by kernel_rfl
theorem fo133_10 : fieldOf Try.prog 133 10 = some (10, 1) := by kernel_rfl
theorem ip3 : isPlain Try.prog 3 = true := by kernel_rfl
theorem ip4 : isPlain Try.prog 4 = true := by kernel_rfl
theorem ip5 : isPlain Try.prog 5 = true := by kernel_rfl
theorem ip6 : isPlain Try.prog 6 = true := by kernel_rfl
theorem ip7 : isPlain Try.prog 7 = true := by kernel_rfl
theorem ip8 : isPlain Try.prog 8 = true := by kernel_rfl
theorem ip9 : isPlain Try.prog 9 = true := by kernel_rfl
theorem ip10 : isPlain Try.prog 10 = true := by kernel_rfl
theorem ip11 : isPlain Try.prog 11 = true := by kernel_rfl
theorem ip12 : isPlain Try.prog 12 = true := by kernel_rfl
theorem ip13 : isPlain Try.prog 13 = true := by kernel_rfl
theorem ip14 : isPlain Try.prog 14 = true := by kernel_rfl
theorem ip15 : isPlain Try.prog 15 = true := by kernel_rfl
theorem ip16 : isPlain Try.prog 16 = true := by kernel_rfl
theorem ip17 : isPlain Try.prog 17 = true := by kernel_rfl
theorem ip18 : isPlain Try.prog 18 = true := by kernel_rfl
theorem ip19 : isPlain Try.prog 19 = true := by kernel_rfl
theorem ip20 : isPlain Try.prog 20 = true := by kernel_rfl
theorem ip21 : isPlain Try.prog 21 = true := by kernel_rfl
theorem ip22 : isPlain Try.prog 22 = true := by kernel_rfl
theorem ip23 : isPlain Try.prog 23 = true := by kernel_rfl
theorem ip24 : isPlain Try.prog 24 = true := by kernel_rfl
theorem ip25 : isPlain Try.prog 25 = true := by kernel_rfl
theorem ip26 : isPlain Try.prog 26 = true := by kernel_rfl
theorem ip27 : isPlain Try.prog 27 = true := by kernel_rfl
theorem ip28 : isPlain Try.prog 28 = true := by kernel_rfl
theorem ip29 : isPlain Try.prog 29 = true := by kernel_rfl
theorem ip30 : isPlain Try.prog 30 = true := by kernel_rfl
theorem ip31 : isPlain Try.prog 31 = true := by kernel_rfl
theorem ip32 : isPlain Try.prog 32 = true := by kernel_rfl
theorem ip33 : isPlain Try.prog 33 = true := by kernel_rfl
theorem ip34 : isPlain Try.prog 34 = true := by kernel_rfl
theorem ip35 : isPlain Try.prog 35 = true := by kernel_rfl
theorem ip36 : isPlain Try.prog 36 = true := by kernel_rfl
theorem ip37 : isPlain Try.prog 37 = true := by kernel_rfl
theorem ip38 : isPlain Try.prog 38 = true := by kernel_rfl
theorem ip39 : isPlain Try.prog 39 = true := by kernel_rfl
theorem ip40 : isPlain Try.prog 40 = true := by kernel_rfl
theorem ip41 : isPlain Try.prog 41 = true := by kernel_rfl
theorem ip42 : isPlain Try.prog 42 = true := by kernel_rfl
theorem ip43 : isPlain Try.prog 43 = true := by kernel_rfl
theorem ip44 : isPlain Try.prog 44 = true := by kernel_rfl
theorem ip45 : isPlain Try.prog 45 = true := by kernel_rfl
theorem ip46 : isPlain Try.prog 46 = true := by kernel_rfl
theorem ip47 : isPlain Try.prog 47 = true := by kernel_rfl
theorem ip48 : isPlain Try.prog 48 = true := by kernel_rfl
theorem ip49 : isPlain Try.prog 49 = true := by kernel_rfl
theorem ip50 : isPlain Try.prog 50 = true := by kernel_rfl
theorem ip51 : isPlain Try.prog 51 = true := by kernel_rfl
theorem ip52 : isPlain Try.prog 52 = true := by kernel_rfl
theorem ip53 : isPlain Try.prog 53 = true := by kernel_rfl
theorem ip54 : isPlain Try.prog 54 = true := by kernel_rfl
theorem ip55 : isPlain Try.prog 55 = true := by kernel_rfl
theorem ip56 : isPlain Try.prog 56 = true := by kernel_rfl
theorem ip57 : isPlain Try.prog 57 = true := by kernel_rfl
theorem ip58 : isPlain Try.prog 58 = true := by kernel_rfl
theorem ip59 : isPlain Try.prog 59 = true := by kernel_rfl
theorem ip60 : isPlain Try.prog 60 = true := by kernel_rfl
theorem ip61 : isPlain Try.prog 61 = true := by kernel_rfl
theorem ip62 : isPlain Try.prog 62 = true := by kernel_rfl
theorem ip63 : isPlain Try.prog 63 = true := by kernel_rfl
theorem ip64 : isPlain Try.prog 64 = true := by kernel_rfl
theorem ip65 : isPlain Try.prog 65 = true := by kernel_rfl
theorem ip66 : isPlain Try.prog 66 = true := by kernel_rfl
theorem ip67 : isPlain Try.prog 67 = true := by kernel_rfl
theorem ip68 : isPlain Try.prog 68 = true := by kernel_rfl
theorem ip69 : isPlain Try.prog 69 = true := by kernel_rfl
theorem ip70 : isPlain Try.prog 70 = true := by kernel_rfl
theorem ip71 : isPlain Try.prog 71 = true := by kernel_rfl
theorem mixed : Try.prog.follows .mixedOrders = true := by kernel_rfl
end Go.Proofs.Ytjjmedgibcffhaa.M
