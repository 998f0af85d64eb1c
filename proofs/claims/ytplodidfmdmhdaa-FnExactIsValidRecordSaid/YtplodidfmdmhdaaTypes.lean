/- What the seat's types are: sizes, zero values, places of fields. No condition. -/
import Derived.Test.YtplodidfmdmhdaaProg
import Derived.KernelRfl
import Derived.Test.YtplodidfmdmhdaaH3
namespace Go.Proofs.Ytplodidfmdmhdaa
open Go.HH
set_option linter.unusedSimpArgs false
set_option linter.unusedVariables false
theorem mo : Try.prog.follows .mixedOrders = true := by kernel_rfl
theorem wrap64 {n : Int} (h : -9223372036854775808 ≤ n ∧ n ≤ 9223372036854775807) : IntKind.i64.wrap n = n := IntWalk.i64_in n h
theorem decb {p : Prop} [Decidable p] (h : p) : decide p = true := decide_eq_true h
theorem dect {p : Prop} [Decidable p] (h : ¬ p) : decide p = false := decide_eq_false h
@[go_sem] theorem tload_2 : tload Try.prog 2 = some none := by kernel_rfl
@[go_sem] theorem tsize_2 : tsize Try.prog 2 = some 1 := by kernel_rfl
@[go_sem] theorem tbytes_2 : tbytes Try.prog 2 = some 8 := by kernel_rfl
@[go_sem] theorem tcells_2 : Program.cellsOf Try.prog 2 = 1 := by kernel_rfl
@[go_sem] theorem tz_2 : tz Try.prog 2 = some [.int .i64 0] := by kernel_rfl
@[go_sem] theorem tload_3 : tload Try.prog 3 = some none := by kernel_rfl
@[go_sem] theorem tsize_3 : tsize Try.prog 3 = some 1 := by kernel_rfl
@[go_sem] theorem tbytes_3 : tbytes Try.prog 3 = some 8 := by kernel_rfl
@[go_sem] theorem tcells_3 : Program.cellsOf Try.prog 3 = 1 := by kernel_rfl
@[go_sem] theorem tz_3 : tz Try.prog 3 = some [.int .i64 0] := by kernel_rfl
@[go_sem] theorem tload_4 : tload Try.prog 4 = some none := by kernel_rfl
@[go_sem] theorem tsize_4 : tsize Try.prog 4 = some 1 := by kernel_rfl
@[go_sem] theorem tbytes_4 : tbytes Try.prog 4 = some 1 := by kernel_rfl
@[go_sem] theorem tcells_4 : Program.cellsOf Try.prog 4 = 1 := by kernel_rfl
@[go_sem] theorem tz_4 : tz Try.prog 4 = some [.bool false] := by kernel_rfl
@[go_sem] theorem tload_5 : tload Try.prog 5 = some none := by kernel_rfl
@[go_sem] theorem tsize_5 : tsize Try.prog 5 = some 1 := by kernel_rfl
@[go_sem] theorem tbytes_5 : tbytes Try.prog 5 = some 1 := by kernel_rfl
@[go_sem] theorem tcells_5 : Program.cellsOf Try.prog 5 = 1 := by kernel_rfl
@[go_sem] theorem tz_5 : tz Try.prog 5 = some [.int .u8 0] := by kernel_rfl
@[go_sem] theorem tload_9 : tload Try.prog 9 = some none := by kernel_rfl
@[go_sem] theorem tsize_9 : tsize Try.prog 9 = some 1 := by kernel_rfl
@[go_sem] theorem tbytes_9 : tbytes Try.prog 9 = some 16 := by kernel_rfl
@[go_sem] theorem tcells_9 : Program.cellsOf Try.prog 9 = 1 := by kernel_rfl
@[go_sem] theorem tz_9 : tz Try.prog 9 = some [.string ⟨#[]⟩] := by kernel_rfl
@[go_sem] theorem tload_12 : tload Try.prog 12 = some none := by kernel_rfl
@[go_sem] theorem tsize_12 : tsize Try.prog 12 = some 1 := by kernel_rfl
@[go_sem] theorem tbytes_12 : tbytes Try.prog 12 = some 8 := by kernel_rfl
@[go_sem] theorem tcells_12 : Program.cellsOf Try.prog 12 = 1 := by kernel_rfl
@[go_sem] theorem tz_12 : tz Try.prog 12 = some [.int .u64 0] := by kernel_rfl
@[go_sem] theorem tload_13 : tload Try.prog 13 = some (some 2) := by kernel_rfl
@[go_sem] theorem tsize_13 : tsize Try.prog 13 = some 2 := by kernel_rfl
@[go_sem] theorem tbytes_13 : tbytes Try.prog 13 = some 24 := by kernel_rfl
@[go_sem] theorem tcells_13 : Program.cellsOf Try.prog 13 = 2 := by kernel_rfl
@[go_sem] theorem tz_13 : tz Try.prog 13 = some [.string ⟨#[]⟩, .int .u64 0] := by kernel_rfl
@[go_sem] theorem tfield_13_0 : tfield Try.prog 13 0 = some (0, 9) := by kernel_rfl
@[go_sem] theorem tfield_13_1 : tfield Try.prog 13 1 = some (1, 12) := by kernel_rfl
@[go_sem] theorem tplaces_13 : tplaces Try.prog 13 = some [(0, 1), (1, 1)] := by kernel_rfl
@[go_sem] theorem tload_21 : tload Try.prog 21 = some none := by kernel_rfl
@[go_sem] theorem tsize_21 : tsize Try.prog 21 = some 1 := by kernel_rfl
@[go_sem] theorem tbytes_21 : tbytes Try.prog 21 = some 4 := by kernel_rfl
@[go_sem] theorem tcells_21 : Program.cellsOf Try.prog 21 = 1 := by kernel_rfl
@[go_sem] theorem tz_21 : tz Try.prog 21 = some [.int .i32 0] := by kernel_rfl
@[go_sem] theorem tload_22 : tload Try.prog 22 = some none := by kernel_rfl
@[go_sem] theorem tsize_22 : tsize Try.prog 22 = some 1 := by kernel_rfl
@[go_sem] theorem tbytes_22 : tbytes Try.prog 22 = some 24 := by kernel_rfl
@[go_sem] theorem tcells_22 : Program.cellsOf Try.prog 22 = 1 := by kernel_rfl
@[go_sem] theorem tz_22 : tz Try.prog 22 = some [.slice none 0 0] := by kernel_rfl
@[go_sem] theorem telem_22 : telem Try.prog 22 = some (4, 82) := by kernel_rfl
@[go_sem] theorem tapp_22 : tapp Try.prog 22 = some (4, 32) := by kernel_rfl
@[go_sem] theorem tload_23 : tload Try.prog 23 = some (some 2) := by kernel_rfl
@[go_sem] theorem tsize_23 : tsize Try.prog 23 = some 2 := by kernel_rfl
@[go_sem] theorem tbytes_23 : tbytes Try.prog 23 = some 32 := by kernel_rfl
@[go_sem] theorem tcells_23 : Program.cellsOf Try.prog 23 = 2 := by kernel_rfl
@[go_sem] theorem tz_23 : tz Try.prog 23 = some [.int .i64 0, .slice none 0 0] := by kernel_rfl
@[go_sem] theorem tfield_23_0 : tfield Try.prog 23 0 = some (0, 3) := by kernel_rfl
@[go_sem] theorem tfield_23_1 : tfield Try.prog 23 1 = some (1, 22) := by kernel_rfl
@[go_sem] theorem tplaces_23 : tplaces Try.prog 23 = some [(0, 1), (1, 1)] := by kernel_rfl
@[go_sem] theorem tload_24 : tload Try.prog 24 = some (some 2) := by kernel_rfl
@[go_sem] theorem tsize_24 : tsize Try.prog 24 = some 2 := by kernel_rfl
@[go_sem] theorem tbytes_24 : tbytes Try.prog 24 = some 32 := by kernel_rfl
@[go_sem] theorem tcells_24 : Program.cellsOf Try.prog 24 = 2 := by kernel_rfl
@[go_sem] theorem tz_24 : tz Try.prog 24 = some [.int .i64 0, .slice none 0 0] := by kernel_rfl
@[go_sem] theorem tfield_24_0 : tfield Try.prog 24 0 = some (0, 3) := by kernel_rfl
@[go_sem] theorem tfield_24_1 : tfield Try.prog 24 1 = some (1, 22) := by kernel_rfl
@[go_sem] theorem tplaces_24 : tplaces Try.prog 24 = some [(0, 1), (1, 1)] := by kernel_rfl
@[go_sem] theorem tload_26 : tload Try.prog 26 = some none := by kernel_rfl
@[go_sem] theorem tsize_26 : tsize Try.prog 26 = some 1 := by kernel_rfl
@[go_sem] theorem tbytes_26 : tbytes Try.prog 26 = some 24 := by kernel_rfl
@[go_sem] theorem tcells_26 : Program.cellsOf Try.prog 26 = 1 := by kernel_rfl
@[go_sem] theorem tz_26 : tz Try.prog 26 = some [.slice none 0 0] := by kernel_rfl
@[go_sem] theorem telem_26 : telem Try.prog 26 = some (4, 80) := by kernel_rfl
@[go_sem] theorem tapp_26 : tapp Try.prog 26 = some (4, 32) := by kernel_rfl
@[go_sem] theorem tload_27 : tload Try.prog 27 = some (some 2) := by kernel_rfl
@[go_sem] theorem tsize_27 : tsize Try.prog 27 = some 2 := by kernel_rfl
@[go_sem] theorem tbytes_27 : tbytes Try.prog 27 = some 32 := by kernel_rfl
@[go_sem] theorem tcells_27 : Program.cellsOf Try.prog 27 = 2 := by kernel_rfl
@[go_sem] theorem tz_27 : tz Try.prog 27 = some [.int .i64 0, .slice none 0 0] := by kernel_rfl
@[go_sem] theorem tfield_27_0 : tfield Try.prog 27 0 = some (0, 3) := by kernel_rfl
@[go_sem] theorem tfield_27_1 : tfield Try.prog 27 1 = some (1, 26) := by kernel_rfl
@[go_sem] theorem tplaces_27 : tplaces Try.prog 27 = some [(0, 1), (1, 1)] := by kernel_rfl
@[go_sem] theorem tload_28 : tload Try.prog 28 = some (some 2) := by kernel_rfl
@[go_sem] theorem tsize_28 : tsize Try.prog 28 = some 2 := by kernel_rfl
@[go_sem] theorem tbytes_28 : tbytes Try.prog 28 = some 32 := by kernel_rfl
@[go_sem] theorem tcells_28 : Program.cellsOf Try.prog 28 = 2 := by kernel_rfl
@[go_sem] theorem tz_28 : tz Try.prog 28 = some [.int .i64 0, .slice none 0 0] := by kernel_rfl
@[go_sem] theorem tfield_28_0 : tfield Try.prog 28 0 = some (0, 3) := by kernel_rfl
@[go_sem] theorem tfield_28_1 : tfield Try.prog 28 1 = some (1, 26) := by kernel_rfl
@[go_sem] theorem tplaces_28 : tplaces Try.prog 28 = some [(0, 1), (1, 1)] := by kernel_rfl
@[go_sem] theorem tload_29 : tload Try.prog 29 = some none := by kernel_rfl
@[go_sem] theorem tsize_29 : tsize Try.prog 29 = some 1 := by kernel_rfl
@[go_sem] theorem tbytes_29 : tbytes Try.prog 29 = some 24 := by kernel_rfl
@[go_sem] theorem tcells_29 : Program.cellsOf Try.prog 29 = 1 := by kernel_rfl
@[go_sem] theorem tz_29 : tz Try.prog 29 = some [.slice none 0 0] := by kernel_rfl
@[go_sem] theorem telem_29 : telem Try.prog 29 = some (4, 86) := by kernel_rfl
@[go_sem] theorem tapp_29 : tapp Try.prog 29 = some (4, 32) := by kernel_rfl
@[go_sem] theorem tload_30 : tload Try.prog 30 = some (some 3) := by kernel_rfl
@[go_sem] theorem tsize_30 : tsize Try.prog 30 = some 3 := by kernel_rfl
@[go_sem] theorem tbytes_30 : tbytes Try.prog 30 = some 40 := by kernel_rfl
@[go_sem] theorem tcells_30 : Program.cellsOf Try.prog 30 = 3 := by kernel_rfl
@[go_sem] theorem tz_30 : tz Try.prog 30 = some [.string ⟨#[]⟩, .string ⟨#[]⟩, .int .i64 0] := by kernel_rfl
@[go_sem] theorem tfield_30_0 : tfield Try.prog 30 0 = some (0, 9) := by kernel_rfl
@[go_sem] theorem tfield_30_1 : tfield Try.prog 30 1 = some (1, 9) := by kernel_rfl
@[go_sem] theorem tfield_30_2 : tfield Try.prog 30 2 = some (2, 3) := by kernel_rfl
@[go_sem] theorem tplaces_30 : tplaces Try.prog 30 = some [(0, 1), (1, 1), (2, 1)] := by kernel_rfl
@[go_sem] theorem tload_31 : tload Try.prog 31 = some (some 3) := by kernel_rfl
@[go_sem] theorem tsize_31 : tsize Try.prog 31 = some 3 := by kernel_rfl
@[go_sem] theorem tbytes_31 : tbytes Try.prog 31 = some 40 := by kernel_rfl
@[go_sem] theorem tcells_31 : Program.cellsOf Try.prog 31 = 3 := by kernel_rfl
@[go_sem] theorem tz_31 : tz Try.prog 31 = some [.string ⟨#[]⟩, .string ⟨#[]⟩, .int .i64 0] := by kernel_rfl
@[go_sem] theorem tfield_31_0 : tfield Try.prog 31 0 = some (0, 9) := by kernel_rfl
@[go_sem] theorem tfield_31_1 : tfield Try.prog 31 1 = some (1, 9) := by kernel_rfl
@[go_sem] theorem tfield_31_2 : tfield Try.prog 31 2 = some (2, 3) := by kernel_rfl
@[go_sem] theorem tplaces_31 : tplaces Try.prog 31 = some [(0, 1), (1, 1), (2, 1)] := by kernel_rfl
@[go_sem] theorem tload_32 : tload Try.prog 32 = some (some 7) := by kernel_rfl
@[go_sem] theorem tsize_32 : tsize Try.prog 32 = some 7 := by kernel_rfl
@[go_sem] theorem tbytes_32 : tbytes Try.prog 32 = some 104 := by kernel_rfl
@[go_sem] theorem tcells_32 : Program.cellsOf Try.prog 32 = 7 := by kernel_rfl
@[go_sem] theorem tz_32 : tz Try.prog 32 = some [.int .i64 0, .slice none 0 0, .slice none 0 0, .int .i64 0, .string ⟨#[]⟩, .string ⟨#[]⟩, .int .i64 0] := by kernel_rfl
@[go_sem] theorem tfield_32_0 : tfield Try.prog 32 0 = some (0, 28) := by kernel_rfl
@[go_sem] theorem tfield_32_1 : tfield Try.prog 32 1 = some (2, 29) := by kernel_rfl
@[go_sem] theorem tfield_32_2 : tfield Try.prog 32 2 = some (3, 3) := by kernel_rfl
@[go_sem] theorem tfield_32_3 : tfield Try.prog 32 3 = some (4, 31) := by kernel_rfl
@[go_sem] theorem tplaces_32 : tplaces Try.prog 32 = some [(0, 2), (2, 1), (3, 1), (4, 3)] := by kernel_rfl
@[go_sem] theorem tload_33 : tload Try.prog 33 = some (some 7) := by kernel_rfl
@[go_sem] theorem tsize_33 : tsize Try.prog 33 = some 7 := by kernel_rfl
@[go_sem] theorem tbytes_33 : tbytes Try.prog 33 = some 104 := by kernel_rfl
@[go_sem] theorem tcells_33 : Program.cellsOf Try.prog 33 = 7 := by kernel_rfl
@[go_sem] theorem tz_33 : tz Try.prog 33 = some [.int .i64 0, .slice none 0 0, .slice none 0 0, .int .i64 0, .string ⟨#[]⟩, .string ⟨#[]⟩, .int .i64 0] := by kernel_rfl
@[go_sem] theorem tfield_33_0 : tfield Try.prog 33 0 = some (0, 28) := by kernel_rfl
@[go_sem] theorem tfield_33_1 : tfield Try.prog 33 1 = some (2, 29) := by kernel_rfl
@[go_sem] theorem tfield_33_2 : tfield Try.prog 33 2 = some (3, 3) := by kernel_rfl
@[go_sem] theorem tfield_33_3 : tfield Try.prog 33 3 = some (4, 31) := by kernel_rfl
@[go_sem] theorem tplaces_33 : tplaces Try.prog 33 = some [(0, 2), (2, 1), (3, 1), (4, 3)] := by kernel_rfl
@[go_sem] theorem tload_42 : tload Try.prog 42 = some none := by kernel_rfl
@[go_sem] theorem tsize_42 : tsize Try.prog 42 = some 1 := by kernel_rfl
@[go_sem] theorem tbytes_42 : tbytes Try.prog 42 = some 24 := by kernel_rfl
@[go_sem] theorem tcells_42 : Program.cellsOf Try.prog 42 = 1 := by kernel_rfl
@[go_sem] theorem tz_42 : tz Try.prog 42 = some [.slice none 0 0] := by kernel_rfl
@[go_sem] theorem telem_42 : telem Try.prog 42 = some (4, 71) := by kernel_rfl
@[go_sem] theorem tapp_42 : tapp Try.prog 42 = some (4, 32) := by kernel_rfl
@[go_sem] theorem tload_44 : tload Try.prog 44 = some none := by kernel_rfl
@[go_sem] theorem tsize_44 : tsize Try.prog 44 = some 1 := by kernel_rfl
@[go_sem] theorem tbytes_44 : tbytes Try.prog 44 = some 24 := by kernel_rfl
@[go_sem] theorem tcells_44 : Program.cellsOf Try.prog 44 = 1 := by kernel_rfl
@[go_sem] theorem tz_44 : tz Try.prog 44 = some [.slice none 0 0] := by kernel_rfl
@[go_sem] theorem telem_44 : telem Try.prog 44 = some (4, 69) := by kernel_rfl
@[go_sem] theorem tapp_44 : tapp Try.prog 44 = some (4, 32) := by kernel_rfl
@[go_sem] theorem tload_51 : tload Try.prog 51 = some (some 2) := by kernel_rfl
@[go_sem] theorem tsize_51 : tsize Try.prog 51 = some 2 := by kernel_rfl
@[go_sem] theorem tbytes_51 : tbytes Try.prog 51 = some 32 := by kernel_rfl
@[go_sem] theorem tcells_51 : Program.cellsOf Try.prog 51 = 2 := by kernel_rfl
@[go_sem] theorem tz_51 : tz Try.prog 51 = some [.string ⟨#[]⟩, .string ⟨#[]⟩] := by kernel_rfl
@[go_sem] theorem tfield_51_0 : tfield Try.prog 51 0 = some (0, 9) := by kernel_rfl
@[go_sem] theorem tfield_51_1 : tfield Try.prog 51 1 = some (1, 9) := by kernel_rfl
@[go_sem] theorem tplaces_51 : tplaces Try.prog 51 = some [(0, 1), (1, 1)] := by kernel_rfl
@[go_sem] theorem tload_52 : tload Try.prog 52 = some (some 2) := by kernel_rfl
@[go_sem] theorem tsize_52 : tsize Try.prog 52 = some 2 := by kernel_rfl
@[go_sem] theorem tbytes_52 : tbytes Try.prog 52 = some 32 := by kernel_rfl
@[go_sem] theorem tcells_52 : Program.cellsOf Try.prog 52 = 2 := by kernel_rfl
@[go_sem] theorem tz_52 : tz Try.prog 52 = some [.string ⟨#[]⟩, .string ⟨#[]⟩] := by kernel_rfl
@[go_sem] theorem tfield_52_0 : tfield Try.prog 52 0 = some (0, 9) := by kernel_rfl
@[go_sem] theorem tfield_52_1 : tfield Try.prog 52 1 = some (1, 9) := by kernel_rfl
@[go_sem] theorem tplaces_52 : tplaces Try.prog 52 = some [(0, 1), (1, 1)] := by kernel_rfl
@[go_sem] theorem tload_55 : tload Try.prog 55 = some (some 2) := by kernel_rfl
@[go_sem] theorem tsize_55 : tsize Try.prog 55 = some 2 := by kernel_rfl
@[go_sem] theorem tbytes_55 : tbytes Try.prog 55 = some 32 := by kernel_rfl
@[go_sem] theorem tcells_55 : Program.cellsOf Try.prog 55 = 2 := by kernel_rfl
@[go_sem] theorem tz_55 : tz Try.prog 55 = some [.string ⟨#[]⟩, .string ⟨#[]⟩] := by kernel_rfl
@[go_sem] theorem tfield_55_0 : tfield Try.prog 55 0 = some (0, 9) := by kernel_rfl
@[go_sem] theorem tfield_55_1 : tfield Try.prog 55 1 = some (1, 9) := by kernel_rfl
@[go_sem] theorem tplaces_55 : tplaces Try.prog 55 = some [(0, 1), (1, 1)] := by kernel_rfl
@[go_sem] theorem tload_68 : tload Try.prog 68 = some (some 4) := by kernel_rfl
@[go_sem] theorem tsize_68 : tsize Try.prog 68 = some 4 := by kernel_rfl
@[go_sem] theorem tbytes_68 : tbytes Try.prog 68 = some 32 := by kernel_rfl
@[go_sem] theorem tcells_68 : Program.cellsOf Try.prog 68 = 4 := by kernel_rfl
@[go_sem] theorem tz_68 : tz Try.prog 68 = some [.int .i64 0, .int .i64 0, .int .i64 0, .int .i64 0] := by kernel_rfl
@[go_sem] theorem tfield_68_0 : tfield Try.prog 68 0 = some (0, 3) := by kernel_rfl
@[go_sem] theorem tfield_68_1 : tfield Try.prog 68 1 = some (1, 3) := by kernel_rfl
@[go_sem] theorem tfield_68_2 : tfield Try.prog 68 2 = some (2, 3) := by kernel_rfl
@[go_sem] theorem tfield_68_3 : tfield Try.prog 68 3 = some (3, 3) := by kernel_rfl
@[go_sem] theorem tplaces_68 : tplaces Try.prog 68 = some [(0, 1), (1, 1), (2, 1), (3, 1)] := by kernel_rfl
@[go_sem] theorem tload_69 : tload Try.prog 69 = some (some 4) := by kernel_rfl
@[go_sem] theorem tsize_69 : tsize Try.prog 69 = some 4 := by kernel_rfl
@[go_sem] theorem tbytes_69 : tbytes Try.prog 69 = some 32 := by kernel_rfl
@[go_sem] theorem tcells_69 : Program.cellsOf Try.prog 69 = 4 := by kernel_rfl
@[go_sem] theorem tz_69 : tz Try.prog 69 = some [.int .i64 0, .int .i64 0, .int .i64 0, .int .i64 0] := by kernel_rfl
@[go_sem] theorem tfield_69_0 : tfield Try.prog 69 0 = some (0, 3) := by kernel_rfl
@[go_sem] theorem tfield_69_1 : tfield Try.prog 69 1 = some (1, 3) := by kernel_rfl
@[go_sem] theorem tfield_69_2 : tfield Try.prog 69 2 = some (2, 3) := by kernel_rfl
@[go_sem] theorem tfield_69_3 : tfield Try.prog 69 3 = some (3, 3) := by kernel_rfl
@[go_sem] theorem tplaces_69 : tplaces Try.prog 69 = some [(0, 1), (1, 1), (2, 1), (3, 1)] := by kernel_rfl
@[go_sem] theorem tload_71 : tload Try.prog 71 = some (some 4) := by kernel_rfl
@[go_sem] theorem tsize_71 : tsize Try.prog 71 = some 4 := by kernel_rfl
@[go_sem] theorem tbytes_71 : tbytes Try.prog 71 = some 32 := by kernel_rfl
@[go_sem] theorem tcells_71 : Program.cellsOf Try.prog 71 = 4 := by kernel_rfl
@[go_sem] theorem tz_71 : tz Try.prog 71 = some [.int .i64 0, .int .i64 0, .int .i64 0, .int .i64 0] := by kernel_rfl
@[go_sem] theorem tfield_71_0 : tfield Try.prog 71 0 = some (0, 3) := by kernel_rfl
@[go_sem] theorem tfield_71_1 : tfield Try.prog 71 1 = some (1, 3) := by kernel_rfl
@[go_sem] theorem tfield_71_2 : tfield Try.prog 71 2 = some (2, 3) := by kernel_rfl
@[go_sem] theorem tfield_71_3 : tfield Try.prog 71 3 = some (3, 3) := by kernel_rfl
@[go_sem] theorem tplaces_71 : tplaces Try.prog 71 = some [(0, 1), (1, 1), (2, 1), (3, 1)] := by kernel_rfl
@[go_sem] theorem tload_79 : tload Try.prog 79 = some (some 4) := by kernel_rfl
@[go_sem] theorem tsize_79 : tsize Try.prog 79 = some 4 := by kernel_rfl
@[go_sem] theorem tbytes_79 : tbytes Try.prog 79 = some 32 := by kernel_rfl
@[go_sem] theorem tcells_79 : Program.cellsOf Try.prog 79 = 4 := by kernel_rfl
@[go_sem] theorem tz_79 : tz Try.prog 79 = some [.int .i64 0, .int .i64 0, .int .i64 0, .int .i64 0] := by kernel_rfl
@[go_sem] theorem tfield_79_0 : tfield Try.prog 79 0 = some (0, 3) := by kernel_rfl
@[go_sem] theorem tfield_79_1 : tfield Try.prog 79 1 = some (1, 3) := by kernel_rfl
@[go_sem] theorem tfield_79_2 : tfield Try.prog 79 2 = some (2, 3) := by kernel_rfl
@[go_sem] theorem tfield_79_3 : tfield Try.prog 79 3 = some (3, 3) := by kernel_rfl
@[go_sem] theorem tplaces_79 : tplaces Try.prog 79 = some [(0, 1), (1, 1), (2, 1), (3, 1)] := by kernel_rfl
@[go_sem] theorem tload_80 : tload Try.prog 80 = some (some 4) := by kernel_rfl
@[go_sem] theorem tsize_80 : tsize Try.prog 80 = some 4 := by kernel_rfl
@[go_sem] theorem tbytes_80 : tbytes Try.prog 80 = some 32 := by kernel_rfl
@[go_sem] theorem tcells_80 : Program.cellsOf Try.prog 80 = 4 := by kernel_rfl
@[go_sem] theorem tz_80 : tz Try.prog 80 = some [.int .i64 0, .int .i64 0, .int .i64 0, .int .i64 0] := by kernel_rfl
@[go_sem] theorem tfield_80_0 : tfield Try.prog 80 0 = some (0, 3) := by kernel_rfl
@[go_sem] theorem tfield_80_1 : tfield Try.prog 80 1 = some (1, 3) := by kernel_rfl
@[go_sem] theorem tfield_80_2 : tfield Try.prog 80 2 = some (2, 3) := by kernel_rfl
@[go_sem] theorem tfield_80_3 : tfield Try.prog 80 3 = some (3, 3) := by kernel_rfl
@[go_sem] theorem tplaces_80 : tplaces Try.prog 80 = some [(0, 1), (1, 1), (2, 1), (3, 1)] := by kernel_rfl
@[go_sem] theorem tload_82 : tload Try.prog 82 = some (some 4) := by kernel_rfl
@[go_sem] theorem tsize_82 : tsize Try.prog 82 = some 4 := by kernel_rfl
@[go_sem] theorem tbytes_82 : tbytes Try.prog 82 = some 32 := by kernel_rfl
@[go_sem] theorem tcells_82 : Program.cellsOf Try.prog 82 = 4 := by kernel_rfl
@[go_sem] theorem tz_82 : tz Try.prog 82 = some [.int .i64 0, .int .i64 0, .int .i64 0, .int .i64 0] := by kernel_rfl
@[go_sem] theorem tfield_82_0 : tfield Try.prog 82 0 = some (0, 3) := by kernel_rfl
@[go_sem] theorem tfield_82_1 : tfield Try.prog 82 1 = some (1, 3) := by kernel_rfl
@[go_sem] theorem tfield_82_2 : tfield Try.prog 82 2 = some (2, 3) := by kernel_rfl
@[go_sem] theorem tfield_82_3 : tfield Try.prog 82 3 = some (3, 3) := by kernel_rfl
@[go_sem] theorem tplaces_82 : tplaces Try.prog 82 = some [(0, 1), (1, 1), (2, 1), (3, 1)] := by kernel_rfl
@[go_sem] theorem tload_85 : tload Try.prog 85 = some (some 4) := by kernel_rfl
@[go_sem] theorem tsize_85 : tsize Try.prog 85 = some 4 := by kernel_rfl
@[go_sem] theorem tbytes_85 : tbytes Try.prog 85 = some 32 := by kernel_rfl
@[go_sem] theorem tcells_85 : Program.cellsOf Try.prog 85 = 4 := by kernel_rfl
@[go_sem] theorem tz_85 : tz Try.prog 85 = some [.int .i64 0, .int .i64 0, .int .i64 0, .bool false] := by kernel_rfl
@[go_sem] theorem tfield_85_0 : tfield Try.prog 85 0 = some (0, 3) := by kernel_rfl
@[go_sem] theorem tfield_85_1 : tfield Try.prog 85 1 = some (1, 3) := by kernel_rfl
@[go_sem] theorem tfield_85_2 : tfield Try.prog 85 2 = some (2, 3) := by kernel_rfl
@[go_sem] theorem tfield_85_3 : tfield Try.prog 85 3 = some (3, 4) := by kernel_rfl
@[go_sem] theorem tplaces_85 : tplaces Try.prog 85 = some [(0, 1), (1, 1), (2, 1), (3, 1)] := by kernel_rfl
@[go_sem] theorem tload_86 : tload Try.prog 86 = some (some 4) := by kernel_rfl
@[go_sem] theorem tsize_86 : tsize Try.prog 86 = some 4 := by kernel_rfl
@[go_sem] theorem tbytes_86 : tbytes Try.prog 86 = some 32 := by kernel_rfl
@[go_sem] theorem tcells_86 : Program.cellsOf Try.prog 86 = 4 := by kernel_rfl
@[go_sem] theorem tz_86 : tz Try.prog 86 = some [.int .i64 0, .int .i64 0, .int .i64 0, .bool false] := by kernel_rfl
@[go_sem] theorem tfield_86_0 : tfield Try.prog 86 0 = some (0, 3) := by kernel_rfl
@[go_sem] theorem tfield_86_1 : tfield Try.prog 86 1 = some (1, 3) := by kernel_rfl
@[go_sem] theorem tfield_86_2 : tfield Try.prog 86 2 = some (2, 3) := by kernel_rfl
@[go_sem] theorem tfield_86_3 : tfield Try.prog 86 3 = some (3, 4) := by kernel_rfl
@[go_sem] theorem tplaces_86 : tplaces Try.prog 86 = some [(0, 1), (1, 1), (2, 1), (3, 1)] := by kernel_rfl
@[go_sem] theorem tload_96 : tload Try.prog 96 = some none := by kernel_rfl
@[go_sem] theorem tsize_96 : tsize Try.prog 96 = some 1 := by kernel_rfl
@[go_sem] theorem tbytes_96 : tbytes Try.prog 96 = some 8 := by kernel_rfl
@[go_sem] theorem tcells_96 : Program.cellsOf Try.prog 96 = 1 := by kernel_rfl
@[go_sem] theorem tz_96 : tz Try.prog 96 = some [.int .u64 0] := by kernel_rfl
@[go_sem] theorem tload_99 : tload Try.prog 99 = some none := by kernel_rfl
@[go_sem] theorem tsize_99 : tsize Try.prog 99 = some 1 := by kernel_rfl
@[go_sem] theorem tbytes_99 : tbytes Try.prog 99 = some 4 := by kernel_rfl
@[go_sem] theorem tcells_99 : Program.cellsOf Try.prog 99 = 1 := by kernel_rfl
@[go_sem] theorem tz_99 : tz Try.prog 99 = some [.int .u32 0] := by kernel_rfl
@[go_sem] theorem tload_112 : tload Try.prog 112 = some none := by kernel_rfl
@[go_sem] theorem tsize_112 : tsize Try.prog 112 = some 1 := by kernel_rfl
@[go_sem] theorem tbytes_112 : tbytes Try.prog 112 = some 8 := by kernel_rfl
@[go_sem] theorem tcells_112 : Program.cellsOf Try.prog 112 = 1 := by kernel_rfl
@[go_sem] theorem tz_112 : tz Try.prog 112 = some [.pointer none] := by kernel_rfl
attribute [go_sem] Try.underlying2
attribute [go_sem] Try.underlying3
attribute [go_sem] Try.underlying4
attribute [go_sem] Try.underlying5
attribute [go_sem] Try.underlying9
attribute [go_sem] Try.underlying12
attribute [go_sem] Try.underlying21
attribute [go_sem] Try.underlying96
attribute [go_sem] Try.underlying99
end Go.Proofs.Ytplodidfmdmhdaa
