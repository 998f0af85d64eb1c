/- What the seat's types are: sizes, zero values, places of fields. No condition. -/
import Derived.Test.YtjgekhahklidcaaProg
import Derived.KernelRfl
import Derived.Test.YtjgekhahklidcaaH3
namespace Go.Proofs.Ytjgekhahklidcaa
open Go.HH
set_option linter.unusedSimpArgs false
set_option linter.unusedVariables false
theorem mo : Try.prog.follows .mixedOrders = true := by kernel_rfl
theorem wrap64 {n : Int} (h : -9223372036854775808 ≤ n ∧ n ≤ 9223372036854775807) : IntKind.i64.wrap n = n := IntWalk.i64_in n h
theorem decb {p : Prop} [Decidable p] (h : p) : decide p = true := decide_eq_true h
theorem dect {p : Prop} [Decidable p] (h : ¬ p) : decide p = false := decide_eq_false h
@[go_sem] theorem tload_2 : tload Try.prog 2 = some none := by kernel_rfl
@[go_sem] theorem tsize_2 : tsize Try.prog 2 = some 1 := by kernel_rfl
@[go_sem] theorem tbytes_2 : tbytes Try.prog 2 = some 8 := by kernel_rfl
@[go_sem] theorem tcells_2 : Program.cellsOf Try.prog 2 = 1 := by kernel_rfl
@[go_sem] theorem tz_2 : tz Try.prog 2 = some [.int .i64 0] := by kernel_rfl
@[go_sem] theorem tload_3 : tload Try.prog 3 = some none := by kernel_rfl
@[go_sem] theorem tsize_3 : tsize Try.prog 3 = some 1 := by kernel_rfl
@[go_sem] theorem tbytes_3 : tbytes Try.prog 3 = some 8 := by kernel_rfl
@[go_sem] theorem tcells_3 : Program.cellsOf Try.prog 3 = 1 := by kernel_rfl
@[go_sem] theorem tz_3 : tz Try.prog 3 = some [.int .i64 0] := by kernel_rfl
@[go_sem] theorem tload_4 : tload Try.prog 4 = some none := by kernel_rfl
@[go_sem] theorem tsize_4 : tsize Try.prog 4 = some 1 := by kernel_rfl
@[go_sem] theorem tbytes_4 : tbytes Try.prog 4 = some 1 := by kernel_rfl
@[go_sem] theorem tcells_4 : Program.cellsOf Try.prog 4 = 1 := by kernel_rfl
@[go_sem] theorem tz_4 : tz Try.prog 4 = some [.bool false] := by kernel_rfl
@[go_sem] theorem tload_5 : tload Try.prog 5 = some none := by kernel_rfl
@[go_sem] theorem tsize_5 : tsize Try.prog 5 = some 1 := by kernel_rfl
@[go_sem] theorem tbytes_5 : tbytes Try.prog 5 = some 1 := by kernel_rfl
@[go_sem] theorem tcells_5 : Program.cellsOf Try.prog 5 = 1 := by kernel_rfl
@[go_sem] theorem tz_5 : tz Try.prog 5 = some [.int .u8 0] := by kernel_rfl
@[go_sem] theorem tload_9 : tload Try.prog 9 = some none := by kernel_rfl
@[go_sem] theorem tsize_9 : tsize Try.prog 9 = some 1 := by kernel_rfl
@[go_sem] theorem tbytes_9 : tbytes Try.prog 9 = some 16 := by kernel_rfl
@[go_sem] theorem tcells_9 : Program.cellsOf Try.prog 9 = 1 := by kernel_rfl
@[go_sem] theorem tz_9 : tz Try.prog 9 = some [.string ⟨#[]⟩] := by kernel_rfl
@[go_sem] theorem tload_12 : tload Try.prog 12 = some none := by kernel_rfl
@[go_sem] theorem tsize_12 : tsize Try.prog 12 = some 1 := by kernel_rfl
@[go_sem] theorem tbytes_12 : tbytes Try.prog 12 = some 8 := by kernel_rfl
@[go_sem] theorem tcells_12 : Program.cellsOf Try.prog 12 = 1 := by kernel_rfl
@[go_sem] theorem tz_12 : tz Try.prog 12 = some [.int .u64 0] := by kernel_rfl
@[go_sem] theorem tload_13 : tload Try.prog 13 = some (some 2) := by kernel_rfl
@[go_sem] theorem tsize_13 : tsize Try.prog 13 = some 2 := by kernel_rfl
@[go_sem] theorem tbytes_13 : tbytes Try.prog 13 = some 24 := by kernel_rfl
@[go_sem] theorem tcells_13 : Program.cellsOf Try.prog 13 = 2 := by kernel_rfl
@[go_sem] theorem tz_13 : tz Try.prog 13 = some [.string ⟨#[]⟩, .int .u64 0] := by kernel_rfl
@[go_sem] theorem tfield_13_0 : tfield Try.prog 13 0 = some (0, 9) := by kernel_rfl
@[go_sem] theorem tfield_13_1 : tfield Try.prog 13 1 = some (1, 12) := by kernel_rfl
@[go_sem] theorem tplaces_13 : tplaces Try.prog 13 = some [(0, 1), (1, 1)] := by kernel_rfl
@[go_sem] theorem tload_21 : tload Try.prog 21 = some none := by kernel_rfl
@[go_sem] theorem tsize_21 : tsize Try.prog 21 = some 1 := by kernel_rfl
@[go_sem] theorem tbytes_21 : tbytes Try.prog 21 = some 4 := by kernel_rfl
@[go_sem] theorem tcells_21 : Program.cellsOf Try.prog 21 = 1 := by kernel_rfl
@[go_sem] theorem tz_21 : tz Try.prog 21 = some [.int .i32 0] := by kernel_rfl
@[go_sem] theorem tload_22 : tload Try.prog 22 = some none := by kernel_rfl
@[go_sem] theorem tsize_22 : tsize Try.prog 22 = some 1 := by kernel_rfl
@[go_sem] theorem tbytes_22 : tbytes Try.prog 22 = some 24 := by kernel_rfl
@[go_sem] theorem tcells_22 : Program.cellsOf Try.prog 22 = 1 := by kernel_rfl
@[go_sem] theorem tz_22 : tz Try.prog 22 = some [.slice none 0 0] := by kernel_rfl
@[go_sem] theorem telem_22 : telem Try.prog 22 = some (1, 3) := by kernel_rfl
@[go_sem] theorem tapp_22 : tapp Try.prog 22 = some (1, 8) := by kernel_rfl
@[go_sem] theorem tload_23 : tload Try.prog 23 = some (some 2) := by kernel_rfl
@[go_sem] theorem tsize_23 : tsize Try.prog 23 = some 2 := by kernel_rfl
@[go_sem] theorem tbytes_23 : tbytes Try.prog 23 = some 32 := by kernel_rfl
@[go_sem] theorem tcells_23 : Program.cellsOf Try.prog 23 = 2 := by kernel_rfl
@[go_sem] theorem tz_23 : tz Try.prog 23 = some [.int .i64 0, .slice none 0 0] := by kernel_rfl
@[go_sem] theorem tfield_23_0 : tfield Try.prog 23 0 = some (0, 3) := by kernel_rfl
@[go_sem] theorem tfield_23_1 : tfield Try.prog 23 1 = some (1, 22) := by kernel_rfl
@[go_sem] theorem tplaces_23 : tplaces Try.prog 23 = some [(0, 1), (1, 1)] := by kernel_rfl
@[go_sem] theorem tload_24 : tload Try.prog 24 = some (some 2) := by kernel_rfl
@[go_sem] theorem tsize_24 : tsize Try.prog 24 = some 2 := by kernel_rfl
@[go_sem] theorem tbytes_24 : tbytes Try.prog 24 = some 32 := by kernel_rfl
@[go_sem] theorem tcells_24 : Program.cellsOf Try.prog 24 = 2 := by kernel_rfl
@[go_sem] theorem tz_24 : tz Try.prog 24 = some [.int .i64 0, .slice none 0 0] := by kernel_rfl
@[go_sem] theorem tfield_24_0 : tfield Try.prog 24 0 = some (0, 3) := by kernel_rfl
@[go_sem] theorem tfield_24_1 : tfield Try.prog 24 1 = some (1, 22) := by kernel_rfl
@[go_sem] theorem tplaces_24 : tplaces Try.prog 24 = some [(0, 1), (1, 1)] := by kernel_rfl
@[go_sem] theorem tload_26 : tload Try.prog 26 = some (some 2) := by kernel_rfl
@[go_sem] theorem tsize_26 : tsize Try.prog 26 = some 2 := by kernel_rfl
@[go_sem] theorem tbytes_26 : tbytes Try.prog 26 = some 32 := by kernel_rfl
@[go_sem] theorem tcells_26 : Program.cellsOf Try.prog 26 = 2 := by kernel_rfl
@[go_sem] theorem tz_26 : tz Try.prog 26 = some [.int .i64 0, .slice none 0 0] := by kernel_rfl
@[go_sem] theorem tfield_26_0 : tfield Try.prog 26 0 = some (0, 3) := by kernel_rfl
@[go_sem] theorem tfield_26_1 : tfield Try.prog 26 1 = some (1, 22) := by kernel_rfl
@[go_sem] theorem tplaces_26 : tplaces Try.prog 26 = some [(0, 1), (1, 1)] := by kernel_rfl
@[go_sem] theorem tload_33 : tload Try.prog 33 = some none := by kernel_rfl
@[go_sem] theorem tsize_33 : tsize Try.prog 33 = some 1 := by kernel_rfl
@[go_sem] theorem tbytes_33 : tbytes Try.prog 33 = some 24 := by kernel_rfl
@[go_sem] theorem tcells_33 : Program.cellsOf Try.prog 33 = 1 := by kernel_rfl
@[go_sem] theorem tz_33 : tz Try.prog 33 = some [.slice none 0 0] := by kernel_rfl
@[go_sem] theorem telem_33 : telem Try.prog 33 = some (1, 5) := by kernel_rfl
@[go_sem] theorem tapp_33 : tapp Try.prog 33 = some (1, 1) := by kernel_rfl
@[go_sem] theorem tload_36 : tload Try.prog 36 = some none := by kernel_rfl
@[go_sem] theorem tsize_36 : tsize Try.prog 36 = some 1 := by kernel_rfl
@[go_sem] theorem tbytes_36 : tbytes Try.prog 36 = some 24 := by kernel_rfl
@[go_sem] theorem tcells_36 : Program.cellsOf Try.prog 36 = 1 := by kernel_rfl
@[go_sem] theorem tz_36 : tz Try.prog 36 = some [.slice none 0 0] := by kernel_rfl
@[go_sem] theorem telem_36 : telem Try.prog 36 = some (1, 22) := by kernel_rfl
@[go_sem] theorem tapp_36 : tapp Try.prog 36 = some (1, 24) := by kernel_rfl
@[go_sem] theorem tload_60 : tload Try.prog 60 = some none := by kernel_rfl
@[go_sem] theorem tsize_60 : tsize Try.prog 60 = some 1 := by kernel_rfl
@[go_sem] theorem tbytes_60 : tbytes Try.prog 60 = some 24 := by kernel_rfl
@[go_sem] theorem tcells_60 : Program.cellsOf Try.prog 60 = 1 := by kernel_rfl
@[go_sem] theorem tz_60 : tz Try.prog 60 = some [.slice none 0 0] := by kernel_rfl
@[go_sem] theorem telem_60 : telem Try.prog 60 = some (4, 106) := by kernel_rfl
@[go_sem] theorem tapp_60 : tapp Try.prog 60 = some (4, 32) := by kernel_rfl
@[go_sem] theorem tload_61 : tload Try.prog 61 = some (some 2) := by kernel_rfl
@[go_sem] theorem tsize_61 : tsize Try.prog 61 = some 2 := by kernel_rfl
@[go_sem] theorem tbytes_61 : tbytes Try.prog 61 = some 32 := by kernel_rfl
@[go_sem] theorem tcells_61 : Program.cellsOf Try.prog 61 = 2 := by kernel_rfl
@[go_sem] theorem tz_61 : tz Try.prog 61 = some [.int .i64 0, .slice none 0 0] := by kernel_rfl
@[go_sem] theorem tfield_61_0 : tfield Try.prog 61 0 = some (0, 3) := by kernel_rfl
@[go_sem] theorem tfield_61_1 : tfield Try.prog 61 1 = some (1, 60) := by kernel_rfl
@[go_sem] theorem tplaces_61 : tplaces Try.prog 61 = some [(0, 1), (1, 1)] := by kernel_rfl
@[go_sem] theorem tload_62 : tload Try.prog 62 = some (some 2) := by kernel_rfl
@[go_sem] theorem tsize_62 : tsize Try.prog 62 = some 2 := by kernel_rfl
@[go_sem] theorem tbytes_62 : tbytes Try.prog 62 = some 32 := by kernel_rfl
@[go_sem] theorem tcells_62 : Program.cellsOf Try.prog 62 = 2 := by kernel_rfl
@[go_sem] theorem tz_62 : tz Try.prog 62 = some [.int .i64 0, .slice none 0 0] := by kernel_rfl
@[go_sem] theorem tfield_62_0 : tfield Try.prog 62 0 = some (0, 3) := by kernel_rfl
@[go_sem] theorem tfield_62_1 : tfield Try.prog 62 1 = some (1, 60) := by kernel_rfl
@[go_sem] theorem tplaces_62 : tplaces Try.prog 62 = some [(0, 1), (1, 1)] := by kernel_rfl
@[go_sem] theorem tload_63 : tload Try.prog 63 = some none := by kernel_rfl
@[go_sem] theorem tsize_63 : tsize Try.prog 63 = some 1 := by kernel_rfl
@[go_sem] theorem tbytes_63 : tbytes Try.prog 63 = some 24 := by kernel_rfl
@[go_sem] theorem tcells_63 : Program.cellsOf Try.prog 63 = 1 := by kernel_rfl
@[go_sem] theorem tz_63 : tz Try.prog 63 = some [.slice none 0 0] := by kernel_rfl
@[go_sem] theorem telem_63 : telem Try.prog 63 = some (2, 69) := by kernel_rfl
@[go_sem] theorem tapp_63 : tapp Try.prog 63 = some (2, 16) := by kernel_rfl
@[go_sem] theorem tload_68 : tload Try.prog 68 = some (some 2) := by kernel_rfl
@[go_sem] theorem tsize_68 : tsize Try.prog 68 = some 2 := by kernel_rfl
@[go_sem] theorem tbytes_68 : tbytes Try.prog 68 = some 16 := by kernel_rfl
@[go_sem] theorem tcells_68 : Program.cellsOf Try.prog 68 = 2 := by kernel_rfl
@[go_sem] theorem tz_68 : tz Try.prog 68 = some [.int .i64 0, .int .i64 0] := by kernel_rfl
@[go_sem] theorem tfield_68_0 : tfield Try.prog 68 0 = some (0, 3) := by kernel_rfl
@[go_sem] theorem tfield_68_1 : tfield Try.prog 68 1 = some (1, 3) := by kernel_rfl
@[go_sem] theorem tplaces_68 : tplaces Try.prog 68 = some [(0, 1), (1, 1)] := by kernel_rfl
@[go_sem] theorem tload_69 : tload Try.prog 69 = some (some 2) := by kernel_rfl
@[go_sem] theorem tsize_69 : tsize Try.prog 69 = some 2 := by kernel_rfl
@[go_sem] theorem tbytes_69 : tbytes Try.prog 69 = some 16 := by kernel_rfl
@[go_sem] theorem tcells_69 : Program.cellsOf Try.prog 69 = 2 := by kernel_rfl
@[go_sem] theorem tz_69 : tz Try.prog 69 = some [.int .i64 0, .int .i64 0] := by kernel_rfl
@[go_sem] theorem tfield_69_0 : tfield Try.prog 69 0 = some (0, 3) := by kernel_rfl
@[go_sem] theorem tfield_69_1 : tfield Try.prog 69 1 = some (1, 3) := by kernel_rfl
@[go_sem] theorem tplaces_69 : tplaces Try.prog 69 = some [(0, 1), (1, 1)] := by kernel_rfl
@[go_sem] theorem tload_83 : tload Try.prog 83 = some none := by kernel_rfl
@[go_sem] theorem tsize_83 : tsize Try.prog 83 = some 1 := by kernel_rfl
@[go_sem] theorem tbytes_83 : tbytes Try.prog 83 = some 8 := by kernel_rfl
@[go_sem] theorem tcells_83 : Program.cellsOf Try.prog 83 = 1 := by kernel_rfl
@[go_sem] theorem tz_83 : tz Try.prog 83 = some [.pointer none] := by kernel_rfl
@[go_sem] theorem tload_84 : tload Try.prog 84 = some none := by kernel_rfl
@[go_sem] theorem tsize_84 : tsize Try.prog 84 = some 1 := by kernel_rfl
@[go_sem] theorem tbytes_84 : tbytes Try.prog 84 = some 8 := by kernel_rfl
@[go_sem] theorem tcells_84 : Program.cellsOf Try.prog 84 = 1 := by kernel_rfl
@[go_sem] theorem tz_84 : tz Try.prog 84 = some [.int .u64 0] := by kernel_rfl
@[go_sem] theorem tload_85 : tload Try.prog 85 = some (some 3) := by kernel_rfl
@[go_sem] theorem tsize_85 : tsize Try.prog 85 = some 3 := by kernel_rfl
@[go_sem] theorem tbytes_85 : tbytes Try.prog 85 = some 40 := by kernel_rfl
@[go_sem] theorem tcells_85 : Program.cellsOf Try.prog 85 = 3 := by kernel_rfl
@[go_sem] theorem tz_85 : tz Try.prog 85 = some [.slice none 0 0, .int .i64 0, .int .u64 0] := by kernel_rfl
@[go_sem] theorem tfield_85_0 : tfield Try.prog 85 0 = some (0, 33) := by kernel_rfl
@[go_sem] theorem tfield_85_1 : tfield Try.prog 85 1 = some (1, 3) := by kernel_rfl
@[go_sem] theorem tfield_85_2 : tfield Try.prog 85 2 = some (2, 84) := by kernel_rfl
@[go_sem] theorem tplaces_85 : tplaces Try.prog 85 = some [(0, 1), (1, 1), (2, 1)] := by kernel_rfl
@[go_sem] theorem tload_86 : tload Try.prog 86 = some (some 3) := by kernel_rfl
@[go_sem] theorem tsize_86 : tsize Try.prog 86 = some 3 := by kernel_rfl
@[go_sem] theorem tbytes_86 : tbytes Try.prog 86 = some 40 := by kernel_rfl
@[go_sem] theorem tcells_86 : Program.cellsOf Try.prog 86 = 3 := by kernel_rfl
@[go_sem] theorem tz_86 : tz Try.prog 86 = some [.slice none 0 0, .int .i64 0, .int .u64 0] := by kernel_rfl
@[go_sem] theorem tfield_86_0 : tfield Try.prog 86 0 = some (0, 33) := by kernel_rfl
@[go_sem] theorem tfield_86_1 : tfield Try.prog 86 1 = some (1, 3) := by kernel_rfl
@[go_sem] theorem tfield_86_2 : tfield Try.prog 86 2 = some (2, 84) := by kernel_rfl
@[go_sem] theorem tplaces_86 : tplaces Try.prog 86 = some [(0, 1), (1, 1), (2, 1)] := by kernel_rfl
@[go_sem] theorem tload_102 : tload Try.prog 102 = some none := by kernel_rfl
@[go_sem] theorem tsize_102 : tsize Try.prog 102 = some 1 := by kernel_rfl
@[go_sem] theorem tbytes_102 : tbytes Try.prog 102 = some 8 := by kernel_rfl
@[go_sem] theorem tcells_102 : Program.cellsOf Try.prog 102 = 1 := by kernel_rfl
@[go_sem] theorem tz_102 : tz Try.prog 102 = some [.int .u64 0] := by kernel_rfl
@[go_sem] theorem tload_105 : tload Try.prog 105 = some (some 4) := by kernel_rfl
@[go_sem] theorem tsize_105 : tsize Try.prog 105 = some 4 := by kernel_rfl
@[go_sem] theorem tbytes_105 : tbytes Try.prog 105 = some 32 := by kernel_rfl
@[go_sem] theorem tcells_105 : Program.cellsOf Try.prog 105 = 4 := by kernel_rfl
@[go_sem] theorem tz_105 : tz Try.prog 105 = some [.int .i64 0, .int .i64 0, .int .i64 0, .int .i64 0] := by kernel_rfl
@[go_sem] theorem tfield_105_0 : tfield Try.prog 105 0 = some (0, 3) := by kernel_rfl
@[go_sem] theorem tfield_105_1 : tfield Try.prog 105 1 = some (1, 3) := by kernel_rfl
@[go_sem] theorem tfield_105_2 : tfield Try.prog 105 2 = some (2, 3) := by kernel_rfl
@[go_sem] theorem tfield_105_3 : tfield Try.prog 105 3 = some (3, 3) := by kernel_rfl
@[go_sem] theorem tplaces_105 : tplaces Try.prog 105 = some [(0, 1), (1, 1), (2, 1), (3, 1)] := by kernel_rfl
@[go_sem] theorem tload_106 : tload Try.prog 106 = some (some 4) := by kernel_rfl
@[go_sem] theorem tsize_106 : tsize Try.prog 106 = some 4 := by kernel_rfl
@[go_sem] theorem tbytes_106 : tbytes Try.prog 106 = some 32 := by kernel_rfl
@[go_sem] theorem tcells_106 : Program.cellsOf Try.prog 106 = 4 := by kernel_rfl
@[go_sem] theorem tz_106 : tz Try.prog 106 = some [.int .i64 0, .int .i64 0, .int .i64 0, .int .i64 0] := by kernel_rfl
@[go_sem] theorem tfield_106_0 : tfield Try.prog 106 0 = some (0, 3) := by kernel_rfl
@[go_sem] theorem tfield_106_1 : tfield Try.prog 106 1 = some (1, 3) := by kernel_rfl
@[go_sem] theorem tfield_106_2 : tfield Try.prog 106 2 = some (2, 3) := by kernel_rfl
@[go_sem] theorem tfield_106_3 : tfield Try.prog 106 3 = some (3, 3) := by kernel_rfl
@[go_sem] theorem tplaces_106 : tplaces Try.prog 106 = some [(0, 1), (1, 1), (2, 1), (3, 1)] := by kernel_rfl
@[go_sem] theorem tload_113 : tload Try.prog 113 = some none := by kernel_rfl
@[go_sem] theorem tsize_113 : tsize Try.prog 113 = some 1 := by kernel_rfl
@[go_sem] theorem tbytes_113 : tbytes Try.prog 113 = some 4 := by kernel_rfl
@[go_sem] theorem tcells_113 : Program.cellsOf Try.prog 113 = 1 := by kernel_rfl
@[go_sem] theorem tz_113 : tz Try.prog 113 = some [.int .u32 0] := by kernel_rfl
@[go_sem] theorem tload_127 : tload Try.prog 127 = some none := by kernel_rfl
@[go_sem] theorem tsize_127 : tsize Try.prog 127 = some 1 := by kernel_rfl
@[go_sem] theorem tbytes_127 : tbytes Try.prog 127 = some 8 := by kernel_rfl
@[go_sem] theorem tcells_127 : Program.cellsOf Try.prog 127 = 1 := by kernel_rfl
@[go_sem] theorem tz_127 : tz Try.prog 127 = some [.pointer none] := by kernel_rfl
attribute [go_sem] Try.underlying2
attribute [go_sem] Try.underlying3
attribute [go_sem] Try.underlying4
attribute [go_sem] Try.underlying5
attribute [go_sem] Try.underlying9
attribute [go_sem] Try.underlying12
attribute [go_sem] Try.underlying21
attribute [go_sem] Try.underlying84
attribute [go_sem] Try.underlying102
attribute [go_sem] Try.underlying113
end Go.Proofs.Ytjgekhahklidcaa
