/- What the seat's types are: sizes, zero values, places of fields. No condition. -/
import Derived.Test.YtiileceilipjaaaProg
import Derived.KernelRfl
import Derived.Test.YtiileceilipjaaaH3
namespace Go.Proofs.Ytiileceilipjaaa
open Go.HH
set_option linter.unusedSimpArgs false
set_option linter.unusedVariables false
theorem mo : Try.prog.follows .mixedOrders = true := by kernel_rfl
theorem wrap64 {n : Int} (h : -9223372036854775808 ≤ n ∧ n ≤ 9223372036854775807) : IntKind.i64.wrap n = n := IntWalk.i64_in n h
theorem decb {p : Prop} [Decidable p] (h : p) : decide p = true := decide_eq_true h
theorem dect {p : Prop} [Decidable p] (h : ¬ p) : decide p = false := decide_eq_false h
@[go_sem] theorem tload_2 : tload Try.prog 2 = some none := by kernel_rfl
@[go_sem] theorem tsize_2 : tsize Try.prog 2 = some 1 := by kernel_rfl
@[go_sem] theorem tbytes_2 : tbytes Try.prog 2 = some 8 := by kernel_rfl
@[go_sem] theorem tcells_2 : Program.cellsOf Try.prog 2 = 1 := by kernel_rfl
@[go_sem] theorem tz_2 : tz Try.prog 2 = some [.int .i64 0] := by kernel_rfl
@[go_sem] theorem tload_3 : tload Try.prog 3 = some none := by kernel_rfl
@[go_sem] theorem tsize_3 : tsize Try.prog 3 = some 1 := by kernel_rfl
@[go_sem] theorem tbytes_3 : tbytes Try.prog 3 = some 8 := by kernel_rfl
@[go_sem] theorem tcells_3 : Program.cellsOf Try.prog 3 = 1 := by kernel_rfl
@[go_sem] theorem tz_3 : tz Try.prog 3 = some [.int .i64 0] := by kernel_rfl
@[go_sem] theorem tload_4 : tload Try.prog 4 = some none := by kernel_rfl
@[go_sem] theorem tsize_4 : tsize Try.prog 4 = some 1 := by kernel_rfl
@[go_sem] theorem tbytes_4 : tbytes Try.prog 4 = some 1 := by kernel_rfl
@[go_sem] theorem tcells_4 : Program.cellsOf Try.prog 4 = 1 := by kernel_rfl
@[go_sem] theorem tz_4 : tz Try.prog 4 = some [.bool false] := by kernel_rfl
@[go_sem] theorem tload_5 : tload Try.prog 5 = some none := by kernel_rfl
@[go_sem] theorem tsize_5 : tsize Try.prog 5 = some 1 := by kernel_rfl
@[go_sem] theorem tbytes_5 : tbytes Try.prog 5 = some 1 := by kernel_rfl
@[go_sem] theorem tcells_5 : Program.cellsOf Try.prog 5 = 1 := by kernel_rfl
@[go_sem] theorem tz_5 : tz Try.prog 5 = some [.int .u8 0] := by kernel_rfl
@[go_sem] theorem tload_9 : tload Try.prog 9 = some none := by kernel_rfl
@[go_sem] theorem tsize_9 : tsize Try.prog 9 = some 1 := by kernel_rfl
@[go_sem] theorem tbytes_9 : tbytes Try.prog 9 = some 16 := by kernel_rfl
@[go_sem] theorem tcells_9 : Program.cellsOf Try.prog 9 = 1 := by kernel_rfl
@[go_sem] theorem tz_9 : tz Try.prog 9 = some [.string ⟨#[]⟩] := by kernel_rfl
@[go_sem] theorem tload_12 : tload Try.prog 12 = some none := by kernel_rfl
@[go_sem] theorem tsize_12 : tsize Try.prog 12 = some 1 := by kernel_rfl
@[go_sem] theorem tbytes_12 : tbytes Try.prog 12 = some 8 := by kernel_rfl
@[go_sem] theorem tcells_12 : Program.cellsOf Try.prog 12 = 1 := by kernel_rfl
@[go_sem] theorem tz_12 : tz Try.prog 12 = some [.int .u64 0] := by kernel_rfl
@[go_sem] theorem tload_13 : tload Try.prog 13 = some (some 2) := by kernel_rfl
@[go_sem] theorem tsize_13 : tsize Try.prog 13 = some 2 := by kernel_rfl
@[go_sem] theorem tbytes_13 : tbytes Try.prog 13 = some 24 := by kernel_rfl
@[go_sem] theorem tcells_13 : Program.cellsOf Try.prog 13 = 2 := by kernel_rfl
@[go_sem] theorem tz_13 : tz Try.prog 13 = some [.string ⟨#[]⟩, .int .u64 0] := by kernel_rfl
@[go_sem] theorem tfield_13_0 : tfield Try.prog 13 0 = some (0, 9) := by kernel_rfl
@[go_sem] theorem tfield_13_1 : tfield Try.prog 13 1 = some (1, 12) := by kernel_rfl
@[go_sem] theorem tplaces_13 : tplaces Try.prog 13 = some [(0, 1), (1, 1)] := by kernel_rfl
@[go_sem] theorem tload_21 : tload Try.prog 21 = some none := by kernel_rfl
@[go_sem] theorem tsize_21 : tsize Try.prog 21 = some 1 := by kernel_rfl
@[go_sem] theorem tbytes_21 : tbytes Try.prog 21 = some 4 := by kernel_rfl
@[go_sem] theorem tcells_21 : Program.cellsOf Try.prog 21 = 1 := by kernel_rfl
@[go_sem] theorem tz_21 : tz Try.prog 21 = some [.int .i32 0] := by kernel_rfl
@[go_sem] theorem tload_25 : tload Try.prog 25 = some (some 3) := by kernel_rfl
@[go_sem] theorem tsize_25 : tsize Try.prog 25 = some 3 := by kernel_rfl
@[go_sem] theorem tbytes_25 : tbytes Try.prog 25 = some 24 := by kernel_rfl
@[go_sem] theorem tcells_25 : Program.cellsOf Try.prog 25 = 3 := by kernel_rfl
@[go_sem] theorem tz_25 : tz Try.prog 25 = some [.int .i64 0, .int .i64 0, .int .i64 0] := by kernel_rfl
@[go_sem] theorem tfield_25_0 : tfield Try.prog 25 0 = some (0, 3) := by kernel_rfl
@[go_sem] theorem tfield_25_1 : tfield Try.prog 25 1 = some (1, 3) := by kernel_rfl
@[go_sem] theorem tfield_25_2 : tfield Try.prog 25 2 = some (2, 3) := by kernel_rfl
@[go_sem] theorem tplaces_25 : tplaces Try.prog 25 = some [(0, 1), (1, 1), (2, 1)] := by kernel_rfl
@[go_sem] theorem tload_26 : tload Try.prog 26 = some (some 3) := by kernel_rfl
@[go_sem] theorem tsize_26 : tsize Try.prog 26 = some 3 := by kernel_rfl
@[go_sem] theorem tbytes_26 : tbytes Try.prog 26 = some 24 := by kernel_rfl
@[go_sem] theorem tcells_26 : Program.cellsOf Try.prog 26 = 3 := by kernel_rfl
@[go_sem] theorem tz_26 : tz Try.prog 26 = some [.int .i64 0, .int .i64 0, .int .i64 0] := by kernel_rfl
@[go_sem] theorem tfield_26_0 : tfield Try.prog 26 0 = some (0, 3) := by kernel_rfl
@[go_sem] theorem tfield_26_1 : tfield Try.prog 26 1 = some (1, 3) := by kernel_rfl
@[go_sem] theorem tfield_26_2 : tfield Try.prog 26 2 = some (2, 3) := by kernel_rfl
@[go_sem] theorem tplaces_26 : tplaces Try.prog 26 = some [(0, 1), (1, 1), (2, 1)] := by kernel_rfl
@[go_sem] theorem tload_28 : tload Try.prog 28 = some (some 3) := by kernel_rfl
@[go_sem] theorem tsize_28 : tsize Try.prog 28 = some 3 := by kernel_rfl
@[go_sem] theorem tbytes_28 : tbytes Try.prog 28 = some 24 := by kernel_rfl
@[go_sem] theorem tcells_28 : Program.cellsOf Try.prog 28 = 3 := by kernel_rfl
@[go_sem] theorem tz_28 : tz Try.prog 28 = some [.int .i64 0, .int .i64 0, .int .i64 0] := by kernel_rfl
@[go_sem] theorem tfield_28_0 : tfield Try.prog 28 0 = some (0, 3) := by kernel_rfl
@[go_sem] theorem tfield_28_1 : tfield Try.prog 28 1 = some (1, 3) := by kernel_rfl
@[go_sem] theorem tfield_28_2 : tfield Try.prog 28 2 = some (2, 3) := by kernel_rfl
@[go_sem] theorem tplaces_28 : tplaces Try.prog 28 = some [(0, 1), (1, 1), (2, 1)] := by kernel_rfl
@[go_sem] theorem tload_34 : tload Try.prog 34 = some none := by kernel_rfl
@[go_sem] theorem tsize_34 : tsize Try.prog 34 = some 1 := by kernel_rfl
@[go_sem] theorem tbytes_34 : tbytes Try.prog 34 = some 24 := by kernel_rfl
@[go_sem] theorem tcells_34 : Program.cellsOf Try.prog 34 = 1 := by kernel_rfl
@[go_sem] theorem tz_34 : tz Try.prog 34 = some [.slice none 0 0] := by kernel_rfl
@[go_sem] theorem telem_34 : telem Try.prog 34 = some (2, 53) := by kernel_rfl
@[go_sem] theorem tapp_34 : tapp Try.prog 34 = some (2, 16) := by kernel_rfl
@[go_sem] theorem tload_37 : tload Try.prog 37 = some none := by kernel_rfl
@[go_sem] theorem tsize_37 : tsize Try.prog 37 = some 1 := by kernel_rfl
@[go_sem] theorem tbytes_37 : tbytes Try.prog 37 = some 24 := by kernel_rfl
@[go_sem] theorem tcells_37 : Program.cellsOf Try.prog 37 = 1 := by kernel_rfl
@[go_sem] theorem tz_37 : tz Try.prog 37 = some [.slice none 0 0] := by kernel_rfl
@[go_sem] theorem telem_37 : telem Try.prog 37 = some (2, 51) := by kernel_rfl
@[go_sem] theorem tapp_37 : tapp Try.prog 37 = some (2, 16) := by kernel_rfl
@[go_sem] theorem tload_41 : tload Try.prog 41 = some none := by kernel_rfl
@[go_sem] theorem tsize_41 : tsize Try.prog 41 = some 1 := by kernel_rfl
@[go_sem] theorem tbytes_41 : tbytes Try.prog 41 = some 24 := by kernel_rfl
@[go_sem] theorem tcells_41 : Program.cellsOf Try.prog 41 = 1 := by kernel_rfl
@[go_sem] theorem tz_41 : tz Try.prog 41 = some [.slice none 0 0] := by kernel_rfl
@[go_sem] theorem telem_41 : telem Try.prog 41 = some (1, 5) := by kernel_rfl
@[go_sem] theorem tapp_41 : tapp Try.prog 41 = some (1, 1) := by kernel_rfl
@[go_sem] theorem tload_50 : tload Try.prog 50 = some (some 2) := by kernel_rfl
@[go_sem] theorem tsize_50 : tsize Try.prog 50 = some 2 := by kernel_rfl
@[go_sem] theorem tbytes_50 : tbytes Try.prog 50 = some 16 := by kernel_rfl
@[go_sem] theorem tcells_50 : Program.cellsOf Try.prog 50 = 2 := by kernel_rfl
@[go_sem] theorem tz_50 : tz Try.prog 50 = some [.int .i64 0, .int .i64 0] := by kernel_rfl
@[go_sem] theorem tfield_50_0 : tfield Try.prog 50 0 = some (0, 3) := by kernel_rfl
@[go_sem] theorem tfield_50_1 : tfield Try.prog 50 1 = some (1, 3) := by kernel_rfl
@[go_sem] theorem tplaces_50 : tplaces Try.prog 50 = some [(0, 1), (1, 1)] := by kernel_rfl
@[go_sem] theorem tload_51 : tload Try.prog 51 = some (some 2) := by kernel_rfl
@[go_sem] theorem tsize_51 : tsize Try.prog 51 = some 2 := by kernel_rfl
@[go_sem] theorem tbytes_51 : tbytes Try.prog 51 = some 16 := by kernel_rfl
@[go_sem] theorem tcells_51 : Program.cellsOf Try.prog 51 = 2 := by kernel_rfl
@[go_sem] theorem tz_51 : tz Try.prog 51 = some [.int .i64 0, .int .i64 0] := by kernel_rfl
@[go_sem] theorem tfield_51_0 : tfield Try.prog 51 0 = some (0, 3) := by kernel_rfl
@[go_sem] theorem tfield_51_1 : tfield Try.prog 51 1 = some (1, 3) := by kernel_rfl
@[go_sem] theorem tplaces_51 : tplaces Try.prog 51 = some [(0, 1), (1, 1)] := by kernel_rfl
@[go_sem] theorem tload_53 : tload Try.prog 53 = some (some 2) := by kernel_rfl
@[go_sem] theorem tsize_53 : tsize Try.prog 53 = some 2 := by kernel_rfl
@[go_sem] theorem tbytes_53 : tbytes Try.prog 53 = some 16 := by kernel_rfl
@[go_sem] theorem tcells_53 : Program.cellsOf Try.prog 53 = 2 := by kernel_rfl
@[go_sem] theorem tz_53 : tz Try.prog 53 = some [.int .i64 0, .int .i64 0] := by kernel_rfl
@[go_sem] theorem tfield_53_0 : tfield Try.prog 53 0 = some (0, 3) := by kernel_rfl
@[go_sem] theorem tfield_53_1 : tfield Try.prog 53 1 = some (1, 3) := by kernel_rfl
@[go_sem] theorem tplaces_53 : tplaces Try.prog 53 = some [(0, 1), (1, 1)] := by kernel_rfl
@[go_sem] theorem tload_55 : tload Try.prog 55 = some none := by kernel_rfl
@[go_sem] theorem tsize_55 : tsize Try.prog 55 = some 1 := by kernel_rfl
@[go_sem] theorem tbytes_55 : tbytes Try.prog 55 = some 8 := by kernel_rfl
@[go_sem] theorem tcells_55 : Program.cellsOf Try.prog 55 = 1 := by kernel_rfl
@[go_sem] theorem tz_55 : tz Try.prog 55 = some [.pointer none] := by kernel_rfl
@[go_sem] theorem tload_56 : tload Try.prog 56 = some none := by kernel_rfl
@[go_sem] theorem tsize_56 : tsize Try.prog 56 = some 1 := by kernel_rfl
@[go_sem] theorem tbytes_56 : tbytes Try.prog 56 = some 8 := by kernel_rfl
@[go_sem] theorem tcells_56 : Program.cellsOf Try.prog 56 = 1 := by kernel_rfl
@[go_sem] theorem tz_56 : tz Try.prog 56 = some [.int .u64 0] := by kernel_rfl
@[go_sem] theorem tload_57 : tload Try.prog 57 = some (some 3) := by kernel_rfl
@[go_sem] theorem tsize_57 : tsize Try.prog 57 = some 3 := by kernel_rfl
@[go_sem] theorem tbytes_57 : tbytes Try.prog 57 = some 40 := by kernel_rfl
@[go_sem] theorem tcells_57 : Program.cellsOf Try.prog 57 = 3 := by kernel_rfl
@[go_sem] theorem tz_57 : tz Try.prog 57 = some [.slice none 0 0, .int .i64 0, .int .u64 0] := by kernel_rfl
@[go_sem] theorem tfield_57_0 : tfield Try.prog 57 0 = some (0, 41) := by kernel_rfl
@[go_sem] theorem tfield_57_1 : tfield Try.prog 57 1 = some (1, 3) := by kernel_rfl
@[go_sem] theorem tfield_57_2 : tfield Try.prog 57 2 = some (2, 56) := by kernel_rfl
@[go_sem] theorem tplaces_57 : tplaces Try.prog 57 = some [(0, 1), (1, 1), (2, 1)] := by kernel_rfl
@[go_sem] theorem tload_58 : tload Try.prog 58 = some (some 3) := by kernel_rfl
@[go_sem] theorem tsize_58 : tsize Try.prog 58 = some 3 := by kernel_rfl
@[go_sem] theorem tbytes_58 : tbytes Try.prog 58 = some 40 := by kernel_rfl
@[go_sem] theorem tcells_58 : Program.cellsOf Try.prog 58 = 3 := by kernel_rfl
@[go_sem] theorem tz_58 : tz Try.prog 58 = some [.slice none 0 0, .int .i64 0, .int .u64 0] := by kernel_rfl
@[go_sem] theorem tfield_58_0 : tfield Try.prog 58 0 = some (0, 41) := by kernel_rfl
@[go_sem] theorem tfield_58_1 : tfield Try.prog 58 1 = some (1, 3) := by kernel_rfl
@[go_sem] theorem tfield_58_2 : tfield Try.prog 58 2 = some (2, 56) := by kernel_rfl
@[go_sem] theorem tplaces_58 : tplaces Try.prog 58 = some [(0, 1), (1, 1), (2, 1)] := by kernel_rfl
@[go_sem] theorem tload_60 : tload Try.prog 60 = some none := by kernel_rfl
@[go_sem] theorem tsize_60 : tsize Try.prog 60 = some 1 := by kernel_rfl
@[go_sem] theorem tbytes_60 : tbytes Try.prog 60 = some 24 := by kernel_rfl
@[go_sem] theorem tcells_60 : Program.cellsOf Try.prog 60 = 1 := by kernel_rfl
@[go_sem] theorem tz_60 : tz Try.prog 60 = some [.slice none 0 0] := by kernel_rfl
@[go_sem] theorem telem_60 : telem Try.prog 60 = some (1, 3) := by kernel_rfl
@[go_sem] theorem tapp_60 : tapp Try.prog 60 = some (1, 8) := by kernel_rfl
@[go_sem] theorem tload_62 : tload Try.prog 62 = some none := by kernel_rfl
@[go_sem] theorem tsize_62 : tsize Try.prog 62 = some 1 := by kernel_rfl
@[go_sem] theorem tbytes_62 : tbytes Try.prog 62 = some 8 := by kernel_rfl
@[go_sem] theorem tcells_62 : Program.cellsOf Try.prog 62 = 1 := by kernel_rfl
@[go_sem] theorem tz_62 : tz Try.prog 62 = some [.int .u64 0] := by kernel_rfl
@[go_sem] theorem tload_69 : tload Try.prog 69 = some none := by kernel_rfl
@[go_sem] theorem tsize_69 : tsize Try.prog 69 = some 1 := by kernel_rfl
@[go_sem] theorem tbytes_69 : tbytes Try.prog 69 = some 4 := by kernel_rfl
@[go_sem] theorem tcells_69 : Program.cellsOf Try.prog 69 = 1 := by kernel_rfl
@[go_sem] theorem tz_69 : tz Try.prog 69 = some [.int .u32 0] := by kernel_rfl
@[go_sem] theorem tload_73 : tload Try.prog 73 = some none := by kernel_rfl
@[go_sem] theorem tsize_73 : tsize Try.prog 73 = some 1 := by kernel_rfl
@[go_sem] theorem tbytes_73 : tbytes Try.prog 73 = some 8 := by kernel_rfl
@[go_sem] theorem tcells_73 : Program.cellsOf Try.prog 73 = 1 := by kernel_rfl
@[go_sem] theorem tz_73 : tz Try.prog 73 = some [.pointer none] := by kernel_rfl
attribute [go_sem] Try.underlying2
attribute [go_sem] Try.underlying3
attribute [go_sem] Try.underlying4
attribute [go_sem] Try.underlying5
attribute [go_sem] Try.underlying9
attribute [go_sem] Try.underlying12
attribute [go_sem] Try.underlying21
attribute [go_sem] Try.underlying56
attribute [go_sem] Try.underlying62
attribute [go_sem] Try.underlying69
end Go.Proofs.Ytiileceilipjaaa
