/- What the seat's types are: sizes, zero values, places of fields. No condition. -/
import Derived.Test.YthdnlahdoacngaaProg
import Derived.KernelRfl
import Derived.Test.YthdnlahdoacngaaH3
namespace Go.Proofs.Ythdnlahdoacngaa
open Go.HH
set_option linter.unusedSimpArgs false
set_option linter.unusedVariables false
theorem mo : Try.prog.follows .mixedOrders = true := by kernel_rfl
theorem wrap64 {n : Int} (h : -9223372036854775808 ≤ n ∧ n ≤ 9223372036854775807) : IntKind.i64.wrap n = n := IntWalk.i64_in n h
theorem decb {p : Prop} [Decidable p] (h : p) : decide p = true := decide_eq_true h
theorem dect {p : Prop} [Decidable p] (h : ¬ p) : decide p = false := decide_eq_false h
@[go_sem] theorem tload_2 : tload Try.prog 2 = some none := by kernel_rfl
@[go_sem] theorem tsize_2 : tsize Try.prog 2 = some 1 := by kernel_rfl
@[go_sem] theorem tbytes_2 : tbytes Try.prog 2 = some 8 := by kernel_rfl
@[go_sem] theorem tcells_2 : Program.cellsOf Try.prog 2 = 1 := by kernel_rfl
@[go_sem] theorem tz_2 : tz Try.prog 2 = some [.int .i64 0] := by kernel_rfl
@[go_sem] theorem tload_3 : tload Try.prog 3 = some none := by kernel_rfl
@[go_sem] theorem tsize_3 : tsize Try.prog 3 = some 1 := by kernel_rfl
@[go_sem] theorem tbytes_3 : tbytes Try.prog 3 = some 8 := by kernel_rfl
@[go_sem] theorem tcells_3 : Program.cellsOf Try.prog 3 = 1 := by kernel_rfl
@[go_sem] theorem tz_3 : tz Try.prog 3 = some [.int .i64 0] := by kernel_rfl
@[go_sem] theorem tload_4 : tload Try.prog 4 = some none := by kernel_rfl
@[go_sem] theorem tsize_4 : tsize Try.prog 4 = some 1 := by kernel_rfl
@[go_sem] theorem tbytes_4 : tbytes Try.prog 4 = some 1 := by kernel_rfl
@[go_sem] theorem tcells_4 : Program.cellsOf Try.prog 4 = 1 := by kernel_rfl
@[go_sem] theorem tz_4 : tz Try.prog 4 = some [.bool false] := by kernel_rfl
@[go_sem] theorem tload_5 : tload Try.prog 5 = some none := by kernel_rfl
@[go_sem] theorem tsize_5 : tsize Try.prog 5 = some 1 := by kernel_rfl
@[go_sem] theorem tbytes_5 : tbytes Try.prog 5 = some 1 := by kernel_rfl
@[go_sem] theorem tcells_5 : Program.cellsOf Try.prog 5 = 1 := by kernel_rfl
@[go_sem] theorem tz_5 : tz Try.prog 5 = some [.int .u8 0] := by kernel_rfl
@[go_sem] theorem tload_9 : tload Try.prog 9 = some none := by kernel_rfl
@[go_sem] theorem tsize_9 : tsize Try.prog 9 = some 1 := by kernel_rfl
@[go_sem] theorem tbytes_9 : tbytes Try.prog 9 = some 16 := by kernel_rfl
@[go_sem] theorem tcells_9 : Program.cellsOf Try.prog 9 = 1 := by kernel_rfl
@[go_sem] theorem tz_9 : tz Try.prog 9 = some [.string ⟨#[]⟩] := by kernel_rfl
@[go_sem] theorem tload_12 : tload Try.prog 12 = some none := by kernel_rfl
@[go_sem] theorem tsize_12 : tsize Try.prog 12 = some 1 := by kernel_rfl
@[go_sem] theorem tbytes_12 : tbytes Try.prog 12 = some 8 := by kernel_rfl
@[go_sem] theorem tcells_12 : Program.cellsOf Try.prog 12 = 1 := by kernel_rfl
@[go_sem] theorem tz_12 : tz Try.prog 12 = some [.int .u64 0] := by kernel_rfl
@[go_sem] theorem tload_13 : tload Try.prog 13 = some (some 2) := by kernel_rfl
@[go_sem] theorem tsize_13 : tsize Try.prog 13 = some 2 := by kernel_rfl
@[go_sem] theorem tbytes_13 : tbytes Try.prog 13 = some 24 := by kernel_rfl
@[go_sem] theorem tcells_13 : Program.cellsOf Try.prog 13 = 2 := by kernel_rfl
@[go_sem] theorem tz_13 : tz Try.prog 13 = some [.string ⟨#[]⟩, .int .u64 0] := by kernel_rfl
@[go_sem] theorem tfield_13_0 : tfield Try.prog 13 0 = some (0, 9) := by kernel_rfl
@[go_sem] theorem tfield_13_1 : tfield Try.prog 13 1 = some (1, 12) := by kernel_rfl
@[go_sem] theorem tplaces_13 : tplaces Try.prog 13 = some [(0, 1), (1, 1)] := by kernel_rfl
@[go_sem] theorem tload_21 : tload Try.prog 21 = some none := by kernel_rfl
@[go_sem] theorem tsize_21 : tsize Try.prog 21 = some 1 := by kernel_rfl
@[go_sem] theorem tbytes_21 : tbytes Try.prog 21 = some 4 := by kernel_rfl
@[go_sem] theorem tcells_21 : Program.cellsOf Try.prog 21 = 1 := by kernel_rfl
@[go_sem] theorem tz_21 : tz Try.prog 21 = some [.int .i32 0] := by kernel_rfl
@[go_sem] theorem tload_22 : tload Try.prog 22 = some none := by kernel_rfl
@[go_sem] theorem tsize_22 : tsize Try.prog 22 = some 1 := by kernel_rfl
@[go_sem] theorem tbytes_22 : tbytes Try.prog 22 = some 24 := by kernel_rfl
@[go_sem] theorem tcells_22 : Program.cellsOf Try.prog 22 = 1 := by kernel_rfl
@[go_sem] theorem tz_22 : tz Try.prog 22 = some [.slice none 0 0] := by kernel_rfl
@[go_sem] theorem telem_22 : telem Try.prog 22 = some (1, 3) := by kernel_rfl
@[go_sem] theorem tapp_22 : tapp Try.prog 22 = some (1, 8) := by kernel_rfl
@[go_sem] theorem tload_23 : tload Try.prog 23 = some (some 2) := by kernel_rfl
@[go_sem] theorem tsize_23 : tsize Try.prog 23 = some 2 := by kernel_rfl
@[go_sem] theorem tbytes_23 : tbytes Try.prog 23 = some 32 := by kernel_rfl
@[go_sem] theorem tcells_23 : Program.cellsOf Try.prog 23 = 2 := by kernel_rfl
@[go_sem] theorem tz_23 : tz Try.prog 23 = some [.int .i64 0, .slice none 0 0] := by kernel_rfl
@[go_sem] theorem tfield_23_0 : tfield Try.prog 23 0 = some (0, 3) := by kernel_rfl
@[go_sem] theorem tfield_23_1 : tfield Try.prog 23 1 = some (1, 22) := by kernel_rfl
@[go_sem] theorem tplaces_23 : tplaces Try.prog 23 = some [(0, 1), (1, 1)] := by kernel_rfl
@[go_sem] theorem tload_24 : tload Try.prog 24 = some (some 2) := by kernel_rfl
@[go_sem] theorem tsize_24 : tsize Try.prog 24 = some 2 := by kernel_rfl
@[go_sem] theorem tbytes_24 : tbytes Try.prog 24 = some 32 := by kernel_rfl
@[go_sem] theorem tcells_24 : Program.cellsOf Try.prog 24 = 2 := by kernel_rfl
@[go_sem] theorem tz_24 : tz Try.prog 24 = some [.int .i64 0, .slice none 0 0] := by kernel_rfl
@[go_sem] theorem tfield_24_0 : tfield Try.prog 24 0 = some (0, 3) := by kernel_rfl
@[go_sem] theorem tfield_24_1 : tfield Try.prog 24 1 = some (1, 22) := by kernel_rfl
@[go_sem] theorem tplaces_24 : tplaces Try.prog 24 = some [(0, 1), (1, 1)] := by kernel_rfl
@[go_sem] theorem tload_26 : tload Try.prog 26 = some (some 2) := by kernel_rfl
@[go_sem] theorem tsize_26 : tsize Try.prog 26 = some 2 := by kernel_rfl
@[go_sem] theorem tbytes_26 : tbytes Try.prog 26 = some 32 := by kernel_rfl
@[go_sem] theorem tcells_26 : Program.cellsOf Try.prog 26 = 2 := by kernel_rfl
@[go_sem] theorem tz_26 : tz Try.prog 26 = some [.int .i64 0, .slice none 0 0] := by kernel_rfl
@[go_sem] theorem tfield_26_0 : tfield Try.prog 26 0 = some (0, 3) := by kernel_rfl
@[go_sem] theorem tfield_26_1 : tfield Try.prog 26 1 = some (1, 22) := by kernel_rfl
@[go_sem] theorem tplaces_26 : tplaces Try.prog 26 = some [(0, 1), (1, 1)] := by kernel_rfl
@[go_sem] theorem tload_33 : tload Try.prog 33 = some none := by kernel_rfl
@[go_sem] theorem tsize_33 : tsize Try.prog 33 = some 1 := by kernel_rfl
@[go_sem] theorem tbytes_33 : tbytes Try.prog 33 = some 24 := by kernel_rfl
@[go_sem] theorem tcells_33 : Program.cellsOf Try.prog 33 = 1 := by kernel_rfl
@[go_sem] theorem tz_33 : tz Try.prog 33 = some [.slice none 0 0] := by kernel_rfl
@[go_sem] theorem telem_33 : telem Try.prog 33 = some (1, 5) := by kernel_rfl
@[go_sem] theorem tapp_33 : tapp Try.prog 33 = some (1, 1) := by kernel_rfl
@[go_sem] theorem tload_50 : tload Try.prog 50 = some none := by kernel_rfl
@[go_sem] theorem tsize_50 : tsize Try.prog 50 = some 1 := by kernel_rfl
@[go_sem] theorem tbytes_50 : tbytes Try.prog 50 = some 24 := by kernel_rfl
@[go_sem] theorem tcells_50 : Program.cellsOf Try.prog 50 = 1 := by kernel_rfl
@[go_sem] theorem tz_50 : tz Try.prog 50 = some [.slice none 0 0] := by kernel_rfl
@[go_sem] theorem telem_50 : telem Try.prog 50 = some (1, 22) := by kernel_rfl
@[go_sem] theorem tapp_50 : tapp Try.prog 50 = some (1, 24) := by kernel_rfl
@[go_sem] theorem tload_60 : tload Try.prog 60 = some none := by kernel_rfl
@[go_sem] theorem tsize_60 : tsize Try.prog 60 = some 1 := by kernel_rfl
@[go_sem] theorem tbytes_60 : tbytes Try.prog 60 = some 24 := by kernel_rfl
@[go_sem] theorem tcells_60 : Program.cellsOf Try.prog 60 = 1 := by kernel_rfl
@[go_sem] theorem tz_60 : tz Try.prog 60 = some [.slice none 0 0] := by kernel_rfl
@[go_sem] theorem telem_60 : telem Try.prog 60 = some (4, 129) := by kernel_rfl
@[go_sem] theorem tapp_60 : tapp Try.prog 60 = some (4, 32) := by kernel_rfl
@[go_sem] theorem tload_62 : tload Try.prog 62 = some none := by kernel_rfl
@[go_sem] theorem tsize_62 : tsize Try.prog 62 = some 1 := by kernel_rfl
@[go_sem] theorem tbytes_62 : tbytes Try.prog 62 = some 24 := by kernel_rfl
@[go_sem] theorem tcells_62 : Program.cellsOf Try.prog 62 = 1 := by kernel_rfl
@[go_sem] theorem tz_62 : tz Try.prog 62 = some [.slice none 0 0] := by kernel_rfl
@[go_sem] theorem telem_62 : telem Try.prog 62 = some (4, 100) := by kernel_rfl
@[go_sem] theorem tapp_62 : tapp Try.prog 62 = some (4, 32) := by kernel_rfl
@[go_sem] theorem tload_69 : tload Try.prog 69 = some none := by kernel_rfl
@[go_sem] theorem tsize_69 : tsize Try.prog 69 = some 1 := by kernel_rfl
@[go_sem] theorem tbytes_69 : tbytes Try.prog 69 = some 24 := by kernel_rfl
@[go_sem] theorem tcells_69 : Program.cellsOf Try.prog 69 = 1 := by kernel_rfl
@[go_sem] theorem tz_69 : tz Try.prog 69 = some [.slice none 0 0] := by kernel_rfl
@[go_sem] theorem telem_69 : telem Try.prog 69 = some (4, 164) := by kernel_rfl
@[go_sem] theorem tapp_69 : tapp Try.prog 69 = some (4, 32) := by kernel_rfl
@[go_sem] theorem tload_70 : tload Try.prog 70 = some (some 2) := by kernel_rfl
@[go_sem] theorem tsize_70 : tsize Try.prog 70 = some 2 := by kernel_rfl
@[go_sem] theorem tbytes_70 : tbytes Try.prog 70 = some 32 := by kernel_rfl
@[go_sem] theorem tcells_70 : Program.cellsOf Try.prog 70 = 2 := by kernel_rfl
@[go_sem] theorem tz_70 : tz Try.prog 70 = some [.int .i64 0, .slice none 0 0] := by kernel_rfl
@[go_sem] theorem tfield_70_0 : tfield Try.prog 70 0 = some (0, 3) := by kernel_rfl
@[go_sem] theorem tfield_70_1 : tfield Try.prog 70 1 = some (1, 69) := by kernel_rfl
@[go_sem] theorem tplaces_70 : tplaces Try.prog 70 = some [(0, 1), (1, 1)] := by kernel_rfl
@[go_sem] theorem tload_71 : tload Try.prog 71 = some (some 2) := by kernel_rfl
@[go_sem] theorem tsize_71 : tsize Try.prog 71 = some 2 := by kernel_rfl
@[go_sem] theorem tbytes_71 : tbytes Try.prog 71 = some 32 := by kernel_rfl
@[go_sem] theorem tcells_71 : Program.cellsOf Try.prog 71 = 2 := by kernel_rfl
@[go_sem] theorem tz_71 : tz Try.prog 71 = some [.int .i64 0, .slice none 0 0] := by kernel_rfl
@[go_sem] theorem tfield_71_0 : tfield Try.prog 71 0 = some (0, 3) := by kernel_rfl
@[go_sem] theorem tfield_71_1 : tfield Try.prog 71 1 = some (1, 69) := by kernel_rfl
@[go_sem] theorem tplaces_71 : tplaces Try.prog 71 = some [(0, 1), (1, 1)] := by kernel_rfl
@[go_sem] theorem tload_72 : tload Try.prog 72 = some none := by kernel_rfl
@[go_sem] theorem tsize_72 : tsize Try.prog 72 = some 1 := by kernel_rfl
@[go_sem] theorem tbytes_72 : tbytes Try.prog 72 = some 24 := by kernel_rfl
@[go_sem] theorem tcells_72 : Program.cellsOf Try.prog 72 = 1 := by kernel_rfl
@[go_sem] theorem tz_72 : tz Try.prog 72 = some [.slice none 0 0] := by kernel_rfl
@[go_sem] theorem telem_72 : telem Try.prog 72 = some (2, 140) := by kernel_rfl
@[go_sem] theorem tapp_72 : tapp Try.prog 72 = some (2, 16) := by kernel_rfl
@[go_sem] theorem tload_76 : tload Try.prog 76 = some none := by kernel_rfl
@[go_sem] theorem tsize_76 : tsize Try.prog 76 = some 1 := by kernel_rfl
@[go_sem] theorem tbytes_76 : tbytes Try.prog 76 = some 24 := by kernel_rfl
@[go_sem] theorem tcells_76 : Program.cellsOf Try.prog 76 = 1 := by kernel_rfl
@[go_sem] theorem tz_76 : tz Try.prog 76 = some [.slice none 0 0] := by kernel_rfl
@[go_sem] theorem telem_76 : telem Try.prog 76 = some (4, 162) := by kernel_rfl
@[go_sem] theorem tapp_76 : tapp Try.prog 76 = some (4, 32) := by kernel_rfl
@[go_sem] theorem tload_77 : tload Try.prog 77 = some (some 2) := by kernel_rfl
@[go_sem] theorem tsize_77 : tsize Try.prog 77 = some 2 := by kernel_rfl
@[go_sem] theorem tbytes_77 : tbytes Try.prog 77 = some 32 := by kernel_rfl
@[go_sem] theorem tcells_77 : Program.cellsOf Try.prog 77 = 2 := by kernel_rfl
@[go_sem] theorem tz_77 : tz Try.prog 77 = some [.int .i64 0, .slice none 0 0] := by kernel_rfl
@[go_sem] theorem tfield_77_0 : tfield Try.prog 77 0 = some (0, 3) := by kernel_rfl
@[go_sem] theorem tfield_77_1 : tfield Try.prog 77 1 = some (1, 76) := by kernel_rfl
@[go_sem] theorem tplaces_77 : tplaces Try.prog 77 = some [(0, 1), (1, 1)] := by kernel_rfl
@[go_sem] theorem tload_78 : tload Try.prog 78 = some (some 2) := by kernel_rfl
@[go_sem] theorem tsize_78 : tsize Try.prog 78 = some 2 := by kernel_rfl
@[go_sem] theorem tbytes_78 : tbytes Try.prog 78 = some 32 := by kernel_rfl
@[go_sem] theorem tcells_78 : Program.cellsOf Try.prog 78 = 2 := by kernel_rfl
@[go_sem] theorem tz_78 : tz Try.prog 78 = some [.int .i64 0, .slice none 0 0] := by kernel_rfl
@[go_sem] theorem tfield_78_0 : tfield Try.prog 78 0 = some (0, 3) := by kernel_rfl
@[go_sem] theorem tfield_78_1 : tfield Try.prog 78 1 = some (1, 76) := by kernel_rfl
@[go_sem] theorem tplaces_78 : tplaces Try.prog 78 = some [(0, 1), (1, 1)] := by kernel_rfl
@[go_sem] theorem tload_80 : tload Try.prog 80 = some none := by kernel_rfl
@[go_sem] theorem tsize_80 : tsize Try.prog 80 = some 1 := by kernel_rfl
@[go_sem] theorem tbytes_80 : tbytes Try.prog 80 = some 24 := by kernel_rfl
@[go_sem] theorem tcells_80 : Program.cellsOf Try.prog 80 = 1 := by kernel_rfl
@[go_sem] theorem tz_80 : tz Try.prog 80 = some [.slice none 0 0] := by kernel_rfl
@[go_sem] theorem telem_80 : telem Try.prog 80 = some (2, 108) := by kernel_rfl
@[go_sem] theorem tapp_80 : tapp Try.prog 80 = some (2, 16) := by kernel_rfl
@[go_sem] theorem tload_99 : tload Try.prog 99 = some (some 4) := by kernel_rfl
@[go_sem] theorem tsize_99 : tsize Try.prog 99 = some 4 := by kernel_rfl
@[go_sem] theorem tbytes_99 : tbytes Try.prog 99 = some 32 := by kernel_rfl
@[go_sem] theorem tcells_99 : Program.cellsOf Try.prog 99 = 4 := by kernel_rfl
@[go_sem] theorem tz_99 : tz Try.prog 99 = some [.int .i64 0, .int .i64 0, .int .i64 0, .int .i64 0] := by kernel_rfl
@[go_sem] theorem tfield_99_0 : tfield Try.prog 99 0 = some (0, 3) := by kernel_rfl
@[go_sem] theorem tfield_99_1 : tfield Try.prog 99 1 = some (1, 3) := by kernel_rfl
@[go_sem] theorem tfield_99_2 : tfield Try.prog 99 2 = some (2, 3) := by kernel_rfl
@[go_sem] theorem tfield_99_3 : tfield Try.prog 99 3 = some (3, 3) := by kernel_rfl
@[go_sem] theorem tplaces_99 : tplaces Try.prog 99 = some [(0, 1), (1, 1), (2, 1), (3, 1)] := by kernel_rfl
@[go_sem] theorem tload_100 : tload Try.prog 100 = some (some 4) := by kernel_rfl
@[go_sem] theorem tsize_100 : tsize Try.prog 100 = some 4 := by kernel_rfl
@[go_sem] theorem tbytes_100 : tbytes Try.prog 100 = some 32 := by kernel_rfl
@[go_sem] theorem tcells_100 : Program.cellsOf Try.prog 100 = 4 := by kernel_rfl
@[go_sem] theorem tz_100 : tz Try.prog 100 = some [.int .i64 0, .int .i64 0, .int .i64 0, .int .i64 0] := by kernel_rfl
@[go_sem] theorem tfield_100_0 : tfield Try.prog 100 0 = some (0, 3) := by kernel_rfl
@[go_sem] theorem tfield_100_1 : tfield Try.prog 100 1 = some (1, 3) := by kernel_rfl
@[go_sem] theorem tfield_100_2 : tfield Try.prog 100 2 = some (2, 3) := by kernel_rfl
@[go_sem] theorem tfield_100_3 : tfield Try.prog 100 3 = some (3, 3) := by kernel_rfl
@[go_sem] theorem tplaces_100 : tplaces Try.prog 100 = some [(0, 1), (1, 1), (2, 1), (3, 1)] := by kernel_rfl
@[go_sem] theorem tload_107 : tload Try.prog 107 = some (some 2) := by kernel_rfl
@[go_sem] theorem tsize_107 : tsize Try.prog 107 = some 2 := by kernel_rfl
@[go_sem] theorem tbytes_107 : tbytes Try.prog 107 = some 16 := by kernel_rfl
@[go_sem] theorem tcells_107 : Program.cellsOf Try.prog 107 = 2 := by kernel_rfl
@[go_sem] theorem tz_107 : tz Try.prog 107 = some [.int .i64 0, .int .i64 0] := by kernel_rfl
@[go_sem] theorem tfield_107_0 : tfield Try.prog 107 0 = some (0, 3) := by kernel_rfl
@[go_sem] theorem tfield_107_1 : tfield Try.prog 107 1 = some (1, 3) := by kernel_rfl
@[go_sem] theorem tplaces_107 : tplaces Try.prog 107 = some [(0, 1), (1, 1)] := by kernel_rfl
@[go_sem] theorem tload_108 : tload Try.prog 108 = some (some 2) := by kernel_rfl
@[go_sem] theorem tsize_108 : tsize Try.prog 108 = some 2 := by kernel_rfl
@[go_sem] theorem tbytes_108 : tbytes Try.prog 108 = some 16 := by kernel_rfl
@[go_sem] theorem tcells_108 : Program.cellsOf Try.prog 108 = 2 := by kernel_rfl
@[go_sem] theorem tz_108 : tz Try.prog 108 = some [.int .i64 0, .int .i64 0] := by kernel_rfl
@[go_sem] theorem tfield_108_0 : tfield Try.prog 108 0 = some (0, 3) := by kernel_rfl
@[go_sem] theorem tfield_108_1 : tfield Try.prog 108 1 = some (1, 3) := by kernel_rfl
@[go_sem] theorem tplaces_108 : tplaces Try.prog 108 = some [(0, 1), (1, 1)] := by kernel_rfl
@[go_sem] theorem tload_116 : tload Try.prog 116 = some none := by kernel_rfl
@[go_sem] theorem tsize_116 : tsize Try.prog 116 = some 1 := by kernel_rfl
@[go_sem] theorem tbytes_116 : tbytes Try.prog 116 = some 8 := by kernel_rfl
@[go_sem] theorem tcells_116 : Program.cellsOf Try.prog 116 = 1 := by kernel_rfl
@[go_sem] theorem tz_116 : tz Try.prog 116 = some [.pointer none] := by kernel_rfl
@[go_sem] theorem tload_117 : tload Try.prog 117 = some none := by kernel_rfl
@[go_sem] theorem tsize_117 : tsize Try.prog 117 = some 1 := by kernel_rfl
@[go_sem] theorem tbytes_117 : tbytes Try.prog 117 = some 8 := by kernel_rfl
@[go_sem] theorem tcells_117 : Program.cellsOf Try.prog 117 = 1 := by kernel_rfl
@[go_sem] theorem tz_117 : tz Try.prog 117 = some [.int .u64 0] := by kernel_rfl
@[go_sem] theorem tload_118 : tload Try.prog 118 = some (some 3) := by kernel_rfl
@[go_sem] theorem tsize_118 : tsize Try.prog 118 = some 3 := by kernel_rfl
@[go_sem] theorem tbytes_118 : tbytes Try.prog 118 = some 40 := by kernel_rfl
@[go_sem] theorem tcells_118 : Program.cellsOf Try.prog 118 = 3 := by kernel_rfl
@[go_sem] theorem tz_118 : tz Try.prog 118 = some [.slice none 0 0, .int .i64 0, .int .u64 0] := by kernel_rfl
@[go_sem] theorem tfield_118_0 : tfield Try.prog 118 0 = some (0, 33) := by kernel_rfl
@[go_sem] theorem tfield_118_1 : tfield Try.prog 118 1 = some (1, 3) := by kernel_rfl
@[go_sem] theorem tfield_118_2 : tfield Try.prog 118 2 = some (2, 117) := by kernel_rfl
@[go_sem] theorem tplaces_118 : tplaces Try.prog 118 = some [(0, 1), (1, 1), (2, 1)] := by kernel_rfl
@[go_sem] theorem tload_119 : tload Try.prog 119 = some (some 3) := by kernel_rfl
@[go_sem] theorem tsize_119 : tsize Try.prog 119 = some 3 := by kernel_rfl
@[go_sem] theorem tbytes_119 : tbytes Try.prog 119 = some 40 := by kernel_rfl
@[go_sem] theorem tcells_119 : Program.cellsOf Try.prog 119 = 3 := by kernel_rfl
@[go_sem] theorem tz_119 : tz Try.prog 119 = some [.slice none 0 0, .int .i64 0, .int .u64 0] := by kernel_rfl
@[go_sem] theorem tfield_119_0 : tfield Try.prog 119 0 = some (0, 33) := by kernel_rfl
@[go_sem] theorem tfield_119_1 : tfield Try.prog 119 1 = some (1, 3) := by kernel_rfl
@[go_sem] theorem tfield_119_2 : tfield Try.prog 119 2 = some (2, 117) := by kernel_rfl
@[go_sem] theorem tplaces_119 : tplaces Try.prog 119 = some [(0, 1), (1, 1), (2, 1)] := by kernel_rfl
@[go_sem] theorem tload_129 : tload Try.prog 129 = some (some 4) := by kernel_rfl
@[go_sem] theorem tsize_129 : tsize Try.prog 129 = some 4 := by kernel_rfl
@[go_sem] theorem tbytes_129 : tbytes Try.prog 129 = some 32 := by kernel_rfl
@[go_sem] theorem tcells_129 : Program.cellsOf Try.prog 129 = 4 := by kernel_rfl
@[go_sem] theorem tz_129 : tz Try.prog 129 = some [.int .i64 0, .int .i64 0, .int .i64 0, .int .i64 0] := by kernel_rfl
@[go_sem] theorem tfield_129_0 : tfield Try.prog 129 0 = some (0, 3) := by kernel_rfl
@[go_sem] theorem tfield_129_1 : tfield Try.prog 129 1 = some (1, 3) := by kernel_rfl
@[go_sem] theorem tfield_129_2 : tfield Try.prog 129 2 = some (2, 3) := by kernel_rfl
@[go_sem] theorem tfield_129_3 : tfield Try.prog 129 3 = some (3, 3) := by kernel_rfl
@[go_sem] theorem tplaces_129 : tplaces Try.prog 129 = some [(0, 1), (1, 1), (2, 1), (3, 1)] := by kernel_rfl
@[go_sem] theorem tload_140 : tload Try.prog 140 = some (some 2) := by kernel_rfl
@[go_sem] theorem tsize_140 : tsize Try.prog 140 = some 2 := by kernel_rfl
@[go_sem] theorem tbytes_140 : tbytes Try.prog 140 = some 16 := by kernel_rfl
@[go_sem] theorem tcells_140 : Program.cellsOf Try.prog 140 = 2 := by kernel_rfl
@[go_sem] theorem tz_140 : tz Try.prog 140 = some [.int .i64 0, .int .i64 0] := by kernel_rfl
@[go_sem] theorem tfield_140_0 : tfield Try.prog 140 0 = some (0, 3) := by kernel_rfl
@[go_sem] theorem tfield_140_1 : tfield Try.prog 140 1 = some (1, 3) := by kernel_rfl
@[go_sem] theorem tplaces_140 : tplaces Try.prog 140 = some [(0, 1), (1, 1)] := by kernel_rfl
@[go_sem] theorem tload_150 : tload Try.prog 150 = some none := by kernel_rfl
@[go_sem] theorem tsize_150 : tsize Try.prog 150 = some 1 := by kernel_rfl
@[go_sem] theorem tbytes_150 : tbytes Try.prog 150 = some 8 := by kernel_rfl
@[go_sem] theorem tcells_150 : Program.cellsOf Try.prog 150 = 1 := by kernel_rfl
@[go_sem] theorem tz_150 : tz Try.prog 150 = some [.int .u64 0] := by kernel_rfl
@[go_sem] theorem tload_161 : tload Try.prog 161 = some (some 4) := by kernel_rfl
@[go_sem] theorem tsize_161 : tsize Try.prog 161 = some 4 := by kernel_rfl
@[go_sem] theorem tbytes_161 : tbytes Try.prog 161 = some 32 := by kernel_rfl
@[go_sem] theorem tcells_161 : Program.cellsOf Try.prog 161 = 4 := by kernel_rfl
@[go_sem] theorem tz_161 : tz Try.prog 161 = some [.int .i64 0, .int .i64 0, .int .i64 0, .int .i64 0] := by kernel_rfl
@[go_sem] theorem tfield_161_0 : tfield Try.prog 161 0 = some (0, 3) := by kernel_rfl
@[go_sem] theorem tfield_161_1 : tfield Try.prog 161 1 = some (1, 3) := by kernel_rfl
@[go_sem] theorem tfield_161_2 : tfield Try.prog 161 2 = some (2, 3) := by kernel_rfl
@[go_sem] theorem tfield_161_3 : tfield Try.prog 161 3 = some (3, 3) := by kernel_rfl
@[go_sem] theorem tplaces_161 : tplaces Try.prog 161 = some [(0, 1), (1, 1), (2, 1), (3, 1)] := by kernel_rfl
@[go_sem] theorem tload_162 : tload Try.prog 162 = some (some 4) := by kernel_rfl
@[go_sem] theorem tsize_162 : tsize Try.prog 162 = some 4 := by kernel_rfl
@[go_sem] theorem tbytes_162 : tbytes Try.prog 162 = some 32 := by kernel_rfl
@[go_sem] theorem tcells_162 : Program.cellsOf Try.prog 162 = 4 := by kernel_rfl
@[go_sem] theorem tz_162 : tz Try.prog 162 = some [.int .i64 0, .int .i64 0, .int .i64 0, .int .i64 0] := by kernel_rfl
@[go_sem] theorem tfield_162_0 : tfield Try.prog 162 0 = some (0, 3) := by kernel_rfl
@[go_sem] theorem tfield_162_1 : tfield Try.prog 162 1 = some (1, 3) := by kernel_rfl
@[go_sem] theorem tfield_162_2 : tfield Try.prog 162 2 = some (2, 3) := by kernel_rfl
@[go_sem] theorem tfield_162_3 : tfield Try.prog 162 3 = some (3, 3) := by kernel_rfl
@[go_sem] theorem tplaces_162 : tplaces Try.prog 162 = some [(0, 1), (1, 1), (2, 1), (3, 1)] := by kernel_rfl
@[go_sem] theorem tload_164 : tload Try.prog 164 = some (some 4) := by kernel_rfl
@[go_sem] theorem tsize_164 : tsize Try.prog 164 = some 4 := by kernel_rfl
@[go_sem] theorem tbytes_164 : tbytes Try.prog 164 = some 32 := by kernel_rfl
@[go_sem] theorem tcells_164 : Program.cellsOf Try.prog 164 = 4 := by kernel_rfl
@[go_sem] theorem tz_164 : tz Try.prog 164 = some [.int .i64 0, .int .i64 0, .int .i64 0, .int .i64 0] := by kernel_rfl
@[go_sem] theorem tfield_164_0 : tfield Try.prog 164 0 = some (0, 3) := by kernel_rfl
@[go_sem] theorem tfield_164_1 : tfield Try.prog 164 1 = some (1, 3) := by kernel_rfl
@[go_sem] theorem tfield_164_2 : tfield Try.prog 164 2 = some (2, 3) := by kernel_rfl
@[go_sem] theorem tfield_164_3 : tfield Try.prog 164 3 = some (3, 3) := by kernel_rfl
@[go_sem] theorem tplaces_164 : tplaces Try.prog 164 = some [(0, 1), (1, 1), (2, 1), (3, 1)] := by kernel_rfl
@[go_sem] theorem tload_170 : tload Try.prog 170 = some (some 5) := by kernel_rfl
@[go_sem] theorem tsize_170 : tsize Try.prog 170 = some 5 := by kernel_rfl
@[go_sem] theorem tbytes_170 : tbytes Try.prog 170 = some 40 := by kernel_rfl
@[go_sem] theorem tcells_170 : Program.cellsOf Try.prog 170 = 5 := by kernel_rfl
@[go_sem] theorem tz_170 : tz Try.prog 170 = some [.int .i64 0, .int .i64 0, .int .i64 0, .int .i64 0, .int .i64 0] := by kernel_rfl
@[go_sem] theorem tplaces_170 : tplaces Try.prog 170 = none := by kernel_rfl
@[go_sem] theorem tarr_170 : tarr Try.prog 170 = some (5, 1, 3) := by kernel_rfl
@[go_sem] theorem tload_172 : tload Try.prog 172 = some none := by kernel_rfl
@[go_sem] theorem tsize_172 : tsize Try.prog 172 = some 1 := by kernel_rfl
@[go_sem] theorem tbytes_172 : tbytes Try.prog 172 = some 4 := by kernel_rfl
@[go_sem] theorem tcells_172 : Program.cellsOf Try.prog 172 = 1 := by kernel_rfl
@[go_sem] theorem tz_172 : tz Try.prog 172 = some [.int .u32 0] := by kernel_rfl
@[go_sem] theorem tload_188 : tload Try.prog 188 = some none := by kernel_rfl
@[go_sem] theorem tsize_188 : tsize Try.prog 188 = some 1 := by kernel_rfl
@[go_sem] theorem tbytes_188 : tbytes Try.prog 188 = some 8 := by kernel_rfl
@[go_sem] theorem tcells_188 : Program.cellsOf Try.prog 188 = 1 := by kernel_rfl
@[go_sem] theorem tz_188 : tz Try.prog 188 = some [.pointer none] := by kernel_rfl
attribute [go_sem] Try.underlying2
attribute [go_sem] Try.underlying3
attribute [go_sem] Try.underlying4
attribute [go_sem] Try.underlying5
attribute [go_sem] Try.underlying9
attribute [go_sem] Try.underlying12
attribute [go_sem] Try.underlying21
attribute [go_sem] Try.underlying117
attribute [go_sem] Try.underlying150
attribute [go_sem] Try.underlying172
end Go.Proofs.Ythdnlahdoacngaa
