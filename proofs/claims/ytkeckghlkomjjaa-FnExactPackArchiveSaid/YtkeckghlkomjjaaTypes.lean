/- What the seat's types are: sizes, zero values, places of fields. No condition. -/
import Derived.Test.YtkeckghlkomjjaaProg
import Derived.KernelRfl
import Derived.Test.YtkeckghlkomjjaaH3
namespace Go.Proofs.Ytkeckghlkomjjaa
open Go.HH
set_option linter.unusedSimpArgs false
set_option linter.unusedVariables false
theorem mo : Try.prog.follows .mixedOrders = true := by kernel_rfl
theorem wrap64 {n : Int} (h : -9223372036854775808 ≤ n ∧ n ≤ 9223372036854775807) : IntKind.i64.wrap n = n := IntWalk.i64_in n h
theorem decb {p : Prop} [Decidable p] (h : p) : decide p = true := decide_eq_true h
theorem dect {p : Prop} [Decidable p] (h : ¬ p) : decide p = false := decide_eq_false h
@[go_sem] theorem tload_2 : tload Try.prog 2 = some none := by kernel_rfl
@[go_sem] theorem tsize_2 : tsize Try.prog 2 = some 1 := by kernel_rfl
@[go_sem] theorem tbytes_2 : tbytes Try.prog 2 = some 8 := by kernel_rfl
@[go_sem] theorem tcells_2 : Program.cellsOf Try.prog 2 = 1 := by kernel_rfl
@[go_sem] theorem tz_2 : tz Try.prog 2 = some [.int .i64 0] := by kernel_rfl
@[go_sem] theorem tload_3 : tload Try.prog 3 = some none := by kernel_rfl
@[go_sem] theorem tsize_3 : tsize Try.prog 3 = some 1 := by kernel_rfl
@[go_sem] theorem tbytes_3 : tbytes Try.prog 3 = some 8 := by kernel_rfl
@[go_sem] theorem tcells_3 : Program.cellsOf Try.prog 3 = 1 := by kernel_rfl
@[go_sem] theorem tz_3 : tz Try.prog 3 = some [.int .i64 0] := by kernel_rfl
@[go_sem] theorem tload_4 : tload Try.prog 4 = some none := by kernel_rfl
@[go_sem] theorem tsize_4 : tsize Try.prog 4 = some 1 := by kernel_rfl
@[go_sem] theorem tbytes_4 : tbytes Try.prog 4 = some 1 := by kernel_rfl
@[go_sem] theorem tcells_4 : Program.cellsOf Try.prog 4 = 1 := by kernel_rfl
@[go_sem] theorem tz_4 : tz Try.prog 4 = some [.bool false] := by kernel_rfl
@[go_sem] theorem tload_5 : tload Try.prog 5 = some none := by kernel_rfl
@[go_sem] theorem tsize_5 : tsize Try.prog 5 = some 1 := by kernel_rfl
@[go_sem] theorem tbytes_5 : tbytes Try.prog 5 = some 1 := by kernel_rfl
@[go_sem] theorem tcells_5 : Program.cellsOf Try.prog 5 = 1 := by kernel_rfl
@[go_sem] theorem tz_5 : tz Try.prog 5 = some [.int .u8 0] := by kernel_rfl
@[go_sem] theorem tload_9 : tload Try.prog 9 = some none := by kernel_rfl
@[go_sem] theorem tsize_9 : tsize Try.prog 9 = some 1 := by kernel_rfl
@[go_sem] theorem tbytes_9 : tbytes Try.prog 9 = some 16 := by kernel_rfl
@[go_sem] theorem tcells_9 : Program.cellsOf Try.prog 9 = 1 := by kernel_rfl
@[go_sem] theorem tz_9 : tz Try.prog 9 = some [.string ⟨#[]⟩] := by kernel_rfl
@[go_sem] theorem tload_12 : tload Try.prog 12 = some none := by kernel_rfl
@[go_sem] theorem tsize_12 : tsize Try.prog 12 = some 1 := by kernel_rfl
@[go_sem] theorem tbytes_12 : tbytes Try.prog 12 = some 8 := by kernel_rfl
@[go_sem] theorem tcells_12 : Program.cellsOf Try.prog 12 = 1 := by kernel_rfl
@[go_sem] theorem tz_12 : tz Try.prog 12 = some [.int .u64 0] := by kernel_rfl
@[go_sem] theorem tload_13 : tload Try.prog 13 = some (some 2) := by kernel_rfl
@[go_sem] theorem tsize_13 : tsize Try.prog 13 = some 2 := by kernel_rfl
@[go_sem] theorem tbytes_13 : tbytes Try.prog 13 = some 24 := by kernel_rfl
@[go_sem] theorem tcells_13 : Program.cellsOf Try.prog 13 = 2 := by kernel_rfl
@[go_sem] theorem tz_13 : tz Try.prog 13 = some [.string ⟨#[]⟩, .int .u64 0] := by kernel_rfl
@[go_sem] theorem tfield_13_0 : tfield Try.prog 13 0 = some (0, 9) := by kernel_rfl
@[go_sem] theorem tfield_13_1 : tfield Try.prog 13 1 = some (1, 12) := by kernel_rfl
@[go_sem] theorem tplaces_13 : tplaces Try.prog 13 = some [(0, 1), (1, 1)] := by kernel_rfl
@[go_sem] theorem tload_21 : tload Try.prog 21 = some none := by kernel_rfl
@[go_sem] theorem tsize_21 : tsize Try.prog 21 = some 1 := by kernel_rfl
@[go_sem] theorem tbytes_21 : tbytes Try.prog 21 = some 4 := by kernel_rfl
@[go_sem] theorem tcells_21 : Program.cellsOf Try.prog 21 = 1 := by kernel_rfl
@[go_sem] theorem tz_21 : tz Try.prog 21 = some [.int .i32 0] := by kernel_rfl
@[go_sem] theorem tload_22 : tload Try.prog 22 = some none := by kernel_rfl
@[go_sem] theorem tsize_22 : tsize Try.prog 22 = some 1 := by kernel_rfl
@[go_sem] theorem tbytes_22 : tbytes Try.prog 22 = some 24 := by kernel_rfl
@[go_sem] theorem tcells_22 : Program.cellsOf Try.prog 22 = 1 := by kernel_rfl
@[go_sem] theorem tz_22 : tz Try.prog 22 = some [.slice none 0 0] := by kernel_rfl
@[go_sem] theorem telem_22 : telem Try.prog 22 = some (1, 3) := by kernel_rfl
@[go_sem] theorem tapp_22 : tapp Try.prog 22 = some (1, 8) := by kernel_rfl
@[go_sem] theorem tload_23 : tload Try.prog 23 = some (some 2) := by kernel_rfl
@[go_sem] theorem tsize_23 : tsize Try.prog 23 = some 2 := by kernel_rfl
@[go_sem] theorem tbytes_23 : tbytes Try.prog 23 = some 32 := by kernel_rfl
@[go_sem] theorem tcells_23 : Program.cellsOf Try.prog 23 = 2 := by kernel_rfl
@[go_sem] theorem tz_23 : tz Try.prog 23 = some [.int .i64 0, .slice none 0 0] := by kernel_rfl
@[go_sem] theorem tfield_23_0 : tfield Try.prog 23 0 = some (0, 3) := by kernel_rfl
@[go_sem] theorem tfield_23_1 : tfield Try.prog 23 1 = some (1, 22) := by kernel_rfl
@[go_sem] theorem tplaces_23 : tplaces Try.prog 23 = some [(0, 1), (1, 1)] := by kernel_rfl
@[go_sem] theorem tload_24 : tload Try.prog 24 = some (some 2) := by kernel_rfl
@[go_sem] theorem tsize_24 : tsize Try.prog 24 = some 2 := by kernel_rfl
@[go_sem] theorem tbytes_24 : tbytes Try.prog 24 = some 32 := by kernel_rfl
@[go_sem] theorem tcells_24 : Program.cellsOf Try.prog 24 = 2 := by kernel_rfl
@[go_sem] theorem tz_24 : tz Try.prog 24 = some [.int .i64 0, .slice none 0 0] := by kernel_rfl
@[go_sem] theorem tfield_24_0 : tfield Try.prog 24 0 = some (0, 3) := by kernel_rfl
@[go_sem] theorem tfield_24_1 : tfield Try.prog 24 1 = some (1, 22) := by kernel_rfl
@[go_sem] theorem tplaces_24 : tplaces Try.prog 24 = some [(0, 1), (1, 1)] := by kernel_rfl
@[go_sem] theorem tload_28 : tload Try.prog 28 = some (some 2) := by kernel_rfl
@[go_sem] theorem tsize_28 : tsize Try.prog 28 = some 2 := by kernel_rfl
@[go_sem] theorem tbytes_28 : tbytes Try.prog 28 = some 32 := by kernel_rfl
@[go_sem] theorem tcells_28 : Program.cellsOf Try.prog 28 = 2 := by kernel_rfl
@[go_sem] theorem tz_28 : tz Try.prog 28 = some [.int .i64 0, .slice none 0 0] := by kernel_rfl
@[go_sem] theorem tfield_28_0 : tfield Try.prog 28 0 = some (0, 3) := by kernel_rfl
@[go_sem] theorem tfield_28_1 : tfield Try.prog 28 1 = some (1, 22) := by kernel_rfl
@[go_sem] theorem tplaces_28 : tplaces Try.prog 28 = some [(0, 1), (1, 1)] := by kernel_rfl
@[go_sem] theorem tload_46 : tload Try.prog 46 = some (some 2) := by kernel_rfl
@[go_sem] theorem tsize_46 : tsize Try.prog 46 = some 2 := by kernel_rfl
@[go_sem] theorem tbytes_46 : tbytes Try.prog 46 = some 32 := by kernel_rfl
@[go_sem] theorem tcells_46 : Program.cellsOf Try.prog 46 = 2 := by kernel_rfl
@[go_sem] theorem tz_46 : tz Try.prog 46 = some [.string ⟨#[]⟩, .string ⟨#[]⟩] := by kernel_rfl
@[go_sem] theorem tfield_46_0 : tfield Try.prog 46 0 = some (0, 9) := by kernel_rfl
@[go_sem] theorem tfield_46_1 : tfield Try.prog 46 1 = some (1, 9) := by kernel_rfl
@[go_sem] theorem tplaces_46 : tplaces Try.prog 46 = some [(0, 1), (1, 1)] := by kernel_rfl
@[go_sem] theorem tload_47 : tload Try.prog 47 = some (some 2) := by kernel_rfl
@[go_sem] theorem tsize_47 : tsize Try.prog 47 = some 2 := by kernel_rfl
@[go_sem] theorem tbytes_47 : tbytes Try.prog 47 = some 32 := by kernel_rfl
@[go_sem] theorem tcells_47 : Program.cellsOf Try.prog 47 = 2 := by kernel_rfl
@[go_sem] theorem tz_47 : tz Try.prog 47 = some [.string ⟨#[]⟩, .string ⟨#[]⟩] := by kernel_rfl
@[go_sem] theorem tfield_47_0 : tfield Try.prog 47 0 = some (0, 9) := by kernel_rfl
@[go_sem] theorem tfield_47_1 : tfield Try.prog 47 1 = some (1, 9) := by kernel_rfl
@[go_sem] theorem tplaces_47 : tplaces Try.prog 47 = some [(0, 1), (1, 1)] := by kernel_rfl
@[go_sem] theorem tload_50 : tload Try.prog 50 = some (some 2) := by kernel_rfl
@[go_sem] theorem tsize_50 : tsize Try.prog 50 = some 2 := by kernel_rfl
@[go_sem] theorem tbytes_50 : tbytes Try.prog 50 = some 32 := by kernel_rfl
@[go_sem] theorem tcells_50 : Program.cellsOf Try.prog 50 = 2 := by kernel_rfl
@[go_sem] theorem tz_50 : tz Try.prog 50 = some [.string ⟨#[]⟩, .string ⟨#[]⟩] := by kernel_rfl
@[go_sem] theorem tfield_50_0 : tfield Try.prog 50 0 = some (0, 9) := by kernel_rfl
@[go_sem] theorem tfield_50_1 : tfield Try.prog 50 1 = some (1, 9) := by kernel_rfl
@[go_sem] theorem tplaces_50 : tplaces Try.prog 50 = some [(0, 1), (1, 1)] := by kernel_rfl
@[go_sem] theorem tload_53 : tload Try.prog 53 = some none := by kernel_rfl
@[go_sem] theorem tsize_53 : tsize Try.prog 53 = some 1 := by kernel_rfl
@[go_sem] theorem tbytes_53 : tbytes Try.prog 53 = some 24 := by kernel_rfl
@[go_sem] theorem tcells_53 : Program.cellsOf Try.prog 53 = 1 := by kernel_rfl
@[go_sem] theorem tz_53 : tz Try.prog 53 = some [.slice none 0 0] := by kernel_rfl
@[go_sem] theorem telem_53 : telem Try.prog 53 = some (3, 90) := by kernel_rfl
@[go_sem] theorem tapp_53 : tapp Try.prog 53 = some (3, 24) := by kernel_rfl
@[go_sem] theorem tload_55 : tload Try.prog 55 = some none := by kernel_rfl
@[go_sem] theorem tsize_55 : tsize Try.prog 55 = some 1 := by kernel_rfl
@[go_sem] theorem tbytes_55 : tbytes Try.prog 55 = some 24 := by kernel_rfl
@[go_sem] theorem tcells_55 : Program.cellsOf Try.prog 55 = 1 := by kernel_rfl
@[go_sem] theorem tz_55 : tz Try.prog 55 = some [.slice none 0 0] := by kernel_rfl
@[go_sem] theorem telem_55 : telem Try.prog 55 = some (3, 88) := by kernel_rfl
@[go_sem] theorem tapp_55 : tapp Try.prog 55 = some (3, 24) := by kernel_rfl
@[go_sem] theorem tload_62 : tload Try.prog 62 = some none := by kernel_rfl
@[go_sem] theorem tsize_62 : tsize Try.prog 62 = some 1 := by kernel_rfl
@[go_sem] theorem tbytes_62 : tbytes Try.prog 62 = some 24 := by kernel_rfl
@[go_sem] theorem tcells_62 : Program.cellsOf Try.prog 62 = 1 := by kernel_rfl
@[go_sem] theorem tz_62 : tz Try.prog 62 = some [.slice none 0 0] := by kernel_rfl
@[go_sem] theorem telem_62 : telem Try.prog 62 = some (1, 22) := by kernel_rfl
@[go_sem] theorem tapp_62 : tapp Try.prog 62 = some (1, 24) := by kernel_rfl
@[go_sem] theorem tload_67 : tload Try.prog 67 = some none := by kernel_rfl
@[go_sem] theorem tsize_67 : tsize Try.prog 67 = some 1 := by kernel_rfl
@[go_sem] theorem tbytes_67 : tbytes Try.prog 67 = some 24 := by kernel_rfl
@[go_sem] theorem tcells_67 : Program.cellsOf Try.prog 67 = 1 := by kernel_rfl
@[go_sem] theorem tz_67 : tz Try.prog 67 = some [.slice none 0 0] := by kernel_rfl
@[go_sem] theorem telem_67 : telem Try.prog 67 = some (4, 99) := by kernel_rfl
@[go_sem] theorem tapp_67 : tapp Try.prog 67 = some (4, 32) := by kernel_rfl
@[go_sem] theorem tload_70 : tload Try.prog 70 = some none := by kernel_rfl
@[go_sem] theorem tsize_70 : tsize Try.prog 70 = some 1 := by kernel_rfl
@[go_sem] theorem tbytes_70 : tbytes Try.prog 70 = some 24 := by kernel_rfl
@[go_sem] theorem tcells_70 : Program.cellsOf Try.prog 70 = 1 := by kernel_rfl
@[go_sem] theorem tz_70 : tz Try.prog 70 = some [.slice none 0 0] := by kernel_rfl
@[go_sem] theorem telem_70 : telem Try.prog 70 = some (4, 97) := by kernel_rfl
@[go_sem] theorem tapp_70 : tapp Try.prog 70 = some (4, 32) := by kernel_rfl
@[go_sem] theorem tload_87 : tload Try.prog 87 = some (some 3) := by kernel_rfl
@[go_sem] theorem tsize_87 : tsize Try.prog 87 = some 3 := by kernel_rfl
@[go_sem] theorem tbytes_87 : tbytes Try.prog 87 = some 24 := by kernel_rfl
@[go_sem] theorem tcells_87 : Program.cellsOf Try.prog 87 = 3 := by kernel_rfl
@[go_sem] theorem tz_87 : tz Try.prog 87 = some [.int .i64 0, .int .i64 0, .int .i64 0] := by kernel_rfl
@[go_sem] theorem tfield_87_0 : tfield Try.prog 87 0 = some (0, 3) := by kernel_rfl
@[go_sem] theorem tfield_87_1 : tfield Try.prog 87 1 = some (1, 3) := by kernel_rfl
@[go_sem] theorem tfield_87_2 : tfield Try.prog 87 2 = some (2, 3) := by kernel_rfl
@[go_sem] theorem tplaces_87 : tplaces Try.prog 87 = some [(0, 1), (1, 1), (2, 1)] := by kernel_rfl
@[go_sem] theorem tload_88 : tload Try.prog 88 = some (some 3) := by kernel_rfl
@[go_sem] theorem tsize_88 : tsize Try.prog 88 = some 3 := by kernel_rfl
@[go_sem] theorem tbytes_88 : tbytes Try.prog 88 = some 24 := by kernel_rfl
@[go_sem] theorem tcells_88 : Program.cellsOf Try.prog 88 = 3 := by kernel_rfl
@[go_sem] theorem tz_88 : tz Try.prog 88 = some [.int .i64 0, .int .i64 0, .int .i64 0] := by kernel_rfl
@[go_sem] theorem tfield_88_0 : tfield Try.prog 88 0 = some (0, 3) := by kernel_rfl
@[go_sem] theorem tfield_88_1 : tfield Try.prog 88 1 = some (1, 3) := by kernel_rfl
@[go_sem] theorem tfield_88_2 : tfield Try.prog 88 2 = some (2, 3) := by kernel_rfl
@[go_sem] theorem tplaces_88 : tplaces Try.prog 88 = some [(0, 1), (1, 1), (2, 1)] := by kernel_rfl
@[go_sem] theorem tload_90 : tload Try.prog 90 = some (some 3) := by kernel_rfl
@[go_sem] theorem tsize_90 : tsize Try.prog 90 = some 3 := by kernel_rfl
@[go_sem] theorem tbytes_90 : tbytes Try.prog 90 = some 24 := by kernel_rfl
@[go_sem] theorem tcells_90 : Program.cellsOf Try.prog 90 = 3 := by kernel_rfl
@[go_sem] theorem tz_90 : tz Try.prog 90 = some [.int .i64 0, .int .i64 0, .int .i64 0] := by kernel_rfl
@[go_sem] theorem tfield_90_0 : tfield Try.prog 90 0 = some (0, 3) := by kernel_rfl
@[go_sem] theorem tfield_90_1 : tfield Try.prog 90 1 = some (1, 3) := by kernel_rfl
@[go_sem] theorem tfield_90_2 : tfield Try.prog 90 2 = some (2, 3) := by kernel_rfl
@[go_sem] theorem tplaces_90 : tplaces Try.prog 90 = some [(0, 1), (1, 1), (2, 1)] := by kernel_rfl
@[go_sem] theorem tload_96 : tload Try.prog 96 = some (some 4) := by kernel_rfl
@[go_sem] theorem tsize_96 : tsize Try.prog 96 = some 4 := by kernel_rfl
@[go_sem] theorem tbytes_96 : tbytes Try.prog 96 = some 32 := by kernel_rfl
@[go_sem] theorem tcells_96 : Program.cellsOf Try.prog 96 = 4 := by kernel_rfl
@[go_sem] theorem tz_96 : tz Try.prog 96 = some [.int .i64 0, .int .i64 0, .int .i64 0, .int .i64 0] := by kernel_rfl
@[go_sem] theorem tfield_96_0 : tfield Try.prog 96 0 = some (0, 3) := by kernel_rfl
@[go_sem] theorem tfield_96_1 : tfield Try.prog 96 1 = some (1, 3) := by kernel_rfl
@[go_sem] theorem tfield_96_2 : tfield Try.prog 96 2 = some (2, 3) := by kernel_rfl
@[go_sem] theorem tfield_96_3 : tfield Try.prog 96 3 = some (3, 3) := by kernel_rfl
@[go_sem] theorem tplaces_96 : tplaces Try.prog 96 = some [(0, 1), (1, 1), (2, 1), (3, 1)] := by kernel_rfl
@[go_sem] theorem tload_97 : tload Try.prog 97 = some (some 4) := by kernel_rfl
@[go_sem] theorem tsize_97 : tsize Try.prog 97 = some 4 := by kernel_rfl
@[go_sem] theorem tbytes_97 : tbytes Try.prog 97 = some 32 := by kernel_rfl
@[go_sem] theorem tcells_97 : Program.cellsOf Try.prog 97 = 4 := by kernel_rfl
@[go_sem] theorem tz_97 : tz Try.prog 97 = some [.int .i64 0, .int .i64 0, .int .i64 0, .int .i64 0] := by kernel_rfl
@[go_sem] theorem tfield_97_0 : tfield Try.prog 97 0 = some (0, 3) := by kernel_rfl
@[go_sem] theorem tfield_97_1 : tfield Try.prog 97 1 = some (1, 3) := by kernel_rfl
@[go_sem] theorem tfield_97_2 : tfield Try.prog 97 2 = some (2, 3) := by kernel_rfl
@[go_sem] theorem tfield_97_3 : tfield Try.prog 97 3 = some (3, 3) := by kernel_rfl
@[go_sem] theorem tplaces_97 : tplaces Try.prog 97 = some [(0, 1), (1, 1), (2, 1), (3, 1)] := by kernel_rfl
@[go_sem] theorem tload_99 : tload Try.prog 99 = some (some 4) := by kernel_rfl
@[go_sem] theorem tsize_99 : tsize Try.prog 99 = some 4 := by kernel_rfl
@[go_sem] theorem tbytes_99 : tbytes Try.prog 99 = some 32 := by kernel_rfl
@[go_sem] theorem tcells_99 : Program.cellsOf Try.prog 99 = 4 := by kernel_rfl
@[go_sem] theorem tz_99 : tz Try.prog 99 = some [.int .i64 0, .int .i64 0, .int .i64 0, .int .i64 0] := by kernel_rfl
@[go_sem] theorem tfield_99_0 : tfield Try.prog 99 0 = some (0, 3) := by kernel_rfl
@[go_sem] theorem tfield_99_1 : tfield Try.prog 99 1 = some (1, 3) := by kernel_rfl
@[go_sem] theorem tfield_99_2 : tfield Try.prog 99 2 = some (2, 3) := by kernel_rfl
@[go_sem] theorem tfield_99_3 : tfield Try.prog 99 3 = some (3, 3) := by kernel_rfl
@[go_sem] theorem tplaces_99 : tplaces Try.prog 99 = some [(0, 1), (1, 1), (2, 1), (3, 1)] := by kernel_rfl
@[go_sem] theorem tload_110 : tload Try.prog 110 = some (some 5) := by kernel_rfl
@[go_sem] theorem tsize_110 : tsize Try.prog 110 = some 5 := by kernel_rfl
@[go_sem] theorem tbytes_110 : tbytes Try.prog 110 = some 40 := by kernel_rfl
@[go_sem] theorem tcells_110 : Program.cellsOf Try.prog 110 = 5 := by kernel_rfl
@[go_sem] theorem tz_110 : tz Try.prog 110 = some [.int .i64 0, .int .i64 0, .int .i64 0, .int .i64 0, .int .i64 0] := by kernel_rfl
@[go_sem] theorem tplaces_110 : tplaces Try.prog 110 = none := by kernel_rfl
@[go_sem] theorem tarr_110 : tarr Try.prog 110 = some (5, 1, 3) := by kernel_rfl
@[go_sem] theorem tload_113 : tload Try.prog 113 = some none := by kernel_rfl
@[go_sem] theorem tsize_113 : tsize Try.prog 113 = some 1 := by kernel_rfl
@[go_sem] theorem tbytes_113 : tbytes Try.prog 113 = some 8 := by kernel_rfl
@[go_sem] theorem tcells_113 : Program.cellsOf Try.prog 113 = 1 := by kernel_rfl
@[go_sem] theorem tz_113 : tz Try.prog 113 = some [.int .u64 0] := by kernel_rfl
@[go_sem] theorem tload_114 : tload Try.prog 114 = some none := by kernel_rfl
@[go_sem] theorem tsize_114 : tsize Try.prog 114 = some 1 := by kernel_rfl
@[go_sem] theorem tbytes_114 : tbytes Try.prog 114 = some 4 := by kernel_rfl
@[go_sem] theorem tcells_114 : Program.cellsOf Try.prog 114 = 1 := by kernel_rfl
@[go_sem] theorem tz_114 : tz Try.prog 114 = some [.int .u32 0] := by kernel_rfl
@[go_sem] theorem tload_127 : tload Try.prog 127 = some none := by kernel_rfl
@[go_sem] theorem tsize_127 : tsize Try.prog 127 = some 1 := by kernel_rfl
@[go_sem] theorem tbytes_127 : tbytes Try.prog 127 = some 8 := by kernel_rfl
@[go_sem] theorem tcells_127 : Program.cellsOf Try.prog 127 = 1 := by kernel_rfl
@[go_sem] theorem tz_127 : tz Try.prog 127 = some [.pointer none] := by kernel_rfl
attribute [go_sem] Try.underlying2
attribute [go_sem] Try.underlying3
attribute [go_sem] Try.underlying4
attribute [go_sem] Try.underlying5
attribute [go_sem] Try.underlying9
attribute [go_sem] Try.underlying12
attribute [go_sem] Try.underlying21
attribute [go_sem] Try.underlying113
attribute [go_sem] Try.underlying114
end Go.Proofs.Ytkeckghlkomjjaa
