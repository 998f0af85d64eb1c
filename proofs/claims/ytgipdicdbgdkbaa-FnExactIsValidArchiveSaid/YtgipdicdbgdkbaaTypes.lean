/- What the seat's types are: sizes, zero values, places of fields. No condition. -/
import Derived.Test.YtgipdicdbgdkbaaProg
import Derived.KernelRfl
import Derived.Test.YtgipdicdbgdkbaaH3
namespace Go.Proofs.Ytgipdicdbgdkbaa
open Go.HH
set_option linter.unusedSimpArgs false
set_option linter.unusedVariables false
theorem mo : Try.prog.follows .mixedOrders = true := by kernel_rfl
theorem wrap64 {n : Int} (h : -9223372036854775808 ≤ n ∧ n ≤ 9223372036854775807) : IntKind.i64.wrap n = n := IntWalk.i64_in n h
theorem decb {p : Prop} [Decidable p] (h : p) : decide p = true := decide_eq_true h
theorem dect {p : Prop} [Decidable p] (h : ¬ p) : decide p = false := decide_eq_false h
@[go_sem] theorem tload_2 : tload Try.prog 2 = some none := by kernel_rfl
@[go_sem] theorem tsize_2 : tsize Try.prog 2 = some 1 := by kernel_rfl
@[go_sem] theorem tbytes_2 : tbytes Try.prog 2 = some 8 := by kernel_rfl
@[go_sem] theorem tcells_2 : Program.cellsOf Try.prog 2 = 1 := by kernel_rfl
@[go_sem] theorem tz_2 : tz Try.prog 2 = some [.int .i64 0] := by kernel_rfl
@[go_sem] theorem tload_3 : tload Try.prog 3 = some none := by kernel_rfl
@[go_sem] theorem tsize_3 : tsize Try.prog 3 = some 1 := by kernel_rfl
@[go_sem] theorem tbytes_3 : tbytes Try.prog 3 = some 8 := by kernel_rfl
@[go_sem] theorem tcells_3 : Program.cellsOf Try.prog 3 = 1 := by kernel_rfl
@[go_sem] theorem tz_3 : tz Try.prog 3 = some [.int .i64 0] := by kernel_rfl
@[go_sem] theorem tload_4 : tload Try.prog 4 = some none := by kernel_rfl
@[go_sem] theorem tsize_4 : tsize Try.prog 4 = some 1 := by kernel_rfl
@[go_sem] theorem tbytes_4 : tbytes Try.prog 4 = some 1 := by kernel_rfl
@[go_sem] theorem tcells_4 : Program.cellsOf Try.prog 4 = 1 := by kernel_rfl
@[go_sem] theorem tz_4 : tz Try.prog 4 = some [.bool false] := by kernel_rfl
@[go_sem] theorem tload_5 : tload Try.prog 5 = some none := by kernel_rfl
@[go_sem] theorem tsize_5 : tsize Try.prog 5 = some 1 := by kernel_rfl
@[go_sem] theorem tbytes_5 : tbytes Try.prog 5 = some 1 := by kernel_rfl
@[go_sem] theorem tcells_5 : Program.cellsOf Try.prog 5 = 1 := by kernel_rfl
@[go_sem] theorem tz_5 : tz Try.prog 5 = some [.int .u8 0] := by kernel_rfl
@[go_sem] theorem tload_9 : tload Try.prog 9 = some none := by kernel_rfl
@[go_sem] theorem tsize_9 : tsize Try.prog 9 = some 1 := by kernel_rfl
@[go_sem] theorem tbytes_9 : tbytes Try.prog 9 = some 16 := by kernel_rfl
@[go_sem] theorem tcells_9 : Program.cellsOf Try.prog 9 = 1 := by kernel_rfl
@[go_sem] theorem tz_9 : tz Try.prog 9 = some [.string ⟨#[]⟩] := by kernel_rfl
@[go_sem] theorem tload_12 : tload Try.prog 12 = some none := by kernel_rfl
@[go_sem] theorem tsize_12 : tsize Try.prog 12 = some 1 := by kernel_rfl
@[go_sem] theorem tbytes_12 : tbytes Try.prog 12 = some 8 := by kernel_rfl
@[go_sem] theorem tcells_12 : Program.cellsOf Try.prog 12 = 1 := by kernel_rfl
@[go_sem] theorem tz_12 : tz Try.prog 12 = some [.int .u64 0] := by kernel_rfl
@[go_sem] theorem tload_13 : tload Try.prog 13 = some (some 2) := by kernel_rfl
@[go_sem] theorem tsize_13 : tsize Try.prog 13 = some 2 := by kernel_rfl
@[go_sem] theorem tbytes_13 : tbytes Try.prog 13 = some 24 := by kernel_rfl
@[go_sem] theorem tcells_13 : Program.cellsOf Try.prog 13 = 2 := by kernel_rfl
@[go_sem] theorem tz_13 : tz Try.prog 13 = some [.string ⟨#[]⟩, .int .u64 0] := by kernel_rfl
@[go_sem] theorem tfield_13_0 : tfield Try.prog 13 0 = some (0, 9) := by kernel_rfl
@[go_sem] theorem tfield_13_1 : tfield Try.prog 13 1 = some (1, 12) := by kernel_rfl
@[go_sem] theorem tplaces_13 : tplaces Try.prog 13 = some [(0, 1), (1, 1)] := by kernel_rfl
@[go_sem] theorem tload_21 : tload Try.prog 21 = some none := by kernel_rfl
@[go_sem] theorem tsize_21 : tsize Try.prog 21 = some 1 := by kernel_rfl
@[go_sem] theorem tbytes_21 : tbytes Try.prog 21 = some 4 := by kernel_rfl
@[go_sem] theorem tcells_21 : Program.cellsOf Try.prog 21 = 1 := by kernel_rfl
@[go_sem] theorem tz_21 : tz Try.prog 21 = some [.int .i32 0] := by kernel_rfl
@[go_sem] theorem tload_22 : tload Try.prog 22 = some none := by kernel_rfl
@[go_sem] theorem tsize_22 : tsize Try.prog 22 = some 1 := by kernel_rfl
@[go_sem] theorem tbytes_22 : tbytes Try.prog 22 = some 24 := by kernel_rfl
@[go_sem] theorem tcells_22 : Program.cellsOf Try.prog 22 = 1 := by kernel_rfl
@[go_sem] theorem tz_22 : tz Try.prog 22 = some [.slice none 0 0] := by kernel_rfl
@[go_sem] theorem telem_22 : telem Try.prog 22 = some (1, 5) := by kernel_rfl
@[go_sem] theorem tapp_22 : tapp Try.prog 22 = some (1, 1) := by kernel_rfl
@[go_sem] theorem tload_31 : tload Try.prog 31 = some none := by kernel_rfl
@[go_sem] theorem tsize_31 : tsize Try.prog 31 = some 1 := by kernel_rfl
@[go_sem] theorem tbytes_31 : tbytes Try.prog 31 = some 24 := by kernel_rfl
@[go_sem] theorem tcells_31 : Program.cellsOf Try.prog 31 = 1 := by kernel_rfl
@[go_sem] theorem tz_31 : tz Try.prog 31 = some [.slice none 0 0] := by kernel_rfl
@[go_sem] theorem telem_31 : telem Try.prog 31 = some (1, 3) := by kernel_rfl
@[go_sem] theorem tapp_31 : tapp Try.prog 31 = some (1, 8) := by kernel_rfl
@[go_sem] theorem tload_32 : tload Try.prog 32 = some (some 2) := by kernel_rfl
@[go_sem] theorem tsize_32 : tsize Try.prog 32 = some 2 := by kernel_rfl
@[go_sem] theorem tbytes_32 : tbytes Try.prog 32 = some 32 := by kernel_rfl
@[go_sem] theorem tcells_32 : Program.cellsOf Try.prog 32 = 2 := by kernel_rfl
@[go_sem] theorem tz_32 : tz Try.prog 32 = some [.int .i64 0, .slice none 0 0] := by kernel_rfl
@[go_sem] theorem tfield_32_0 : tfield Try.prog 32 0 = some (0, 3) := by kernel_rfl
@[go_sem] theorem tfield_32_1 : tfield Try.prog 32 1 = some (1, 31) := by kernel_rfl
@[go_sem] theorem tplaces_32 : tplaces Try.prog 32 = some [(0, 1), (1, 1)] := by kernel_rfl
@[go_sem] theorem tload_33 : tload Try.prog 33 = some (some 2) := by kernel_rfl
@[go_sem] theorem tsize_33 : tsize Try.prog 33 = some 2 := by kernel_rfl
@[go_sem] theorem tbytes_33 : tbytes Try.prog 33 = some 32 := by kernel_rfl
@[go_sem] theorem tcells_33 : Program.cellsOf Try.prog 33 = 2 := by kernel_rfl
@[go_sem] theorem tz_33 : tz Try.prog 33 = some [.int .i64 0, .slice none 0 0] := by kernel_rfl
@[go_sem] theorem tfield_33_0 : tfield Try.prog 33 0 = some (0, 3) := by kernel_rfl
@[go_sem] theorem tfield_33_1 : tfield Try.prog 33 1 = some (1, 31) := by kernel_rfl
@[go_sem] theorem tplaces_33 : tplaces Try.prog 33 = some [(0, 1), (1, 1)] := by kernel_rfl
@[go_sem] theorem tload_36 : tload Try.prog 36 = some (some 2) := by kernel_rfl
@[go_sem] theorem tsize_36 : tsize Try.prog 36 = some 2 := by kernel_rfl
@[go_sem] theorem tbytes_36 : tbytes Try.prog 36 = some 32 := by kernel_rfl
@[go_sem] theorem tcells_36 : Program.cellsOf Try.prog 36 = 2 := by kernel_rfl
@[go_sem] theorem tz_36 : tz Try.prog 36 = some [.int .i64 0, .slice none 0 0] := by kernel_rfl
@[go_sem] theorem tfield_36_0 : tfield Try.prog 36 0 = some (0, 3) := by kernel_rfl
@[go_sem] theorem tfield_36_1 : tfield Try.prog 36 1 = some (1, 31) := by kernel_rfl
@[go_sem] theorem tplaces_36 : tplaces Try.prog 36 = some [(0, 1), (1, 1)] := by kernel_rfl
@[go_sem] theorem tload_40 : tload Try.prog 40 = some none := by kernel_rfl
@[go_sem] theorem tsize_40 : tsize Try.prog 40 = some 1 := by kernel_rfl
@[go_sem] theorem tbytes_40 : tbytes Try.prog 40 = some 8 := by kernel_rfl
@[go_sem] theorem tcells_40 : Program.cellsOf Try.prog 40 = 1 := by kernel_rfl
@[go_sem] theorem tz_40 : tz Try.prog 40 = some [.pointer none] := by kernel_rfl
@[go_sem] theorem tload_41 : tload Try.prog 41 = some none := by kernel_rfl
@[go_sem] theorem tsize_41 : tsize Try.prog 41 = some 1 := by kernel_rfl
@[go_sem] theorem tbytes_41 : tbytes Try.prog 41 = some 8 := by kernel_rfl
@[go_sem] theorem tcells_41 : Program.cellsOf Try.prog 41 = 1 := by kernel_rfl
@[go_sem] theorem tz_41 : tz Try.prog 41 = some [.int .u64 0] := by kernel_rfl
@[go_sem] theorem tload_42 : tload Try.prog 42 = some (some 3) := by kernel_rfl
@[go_sem] theorem tsize_42 : tsize Try.prog 42 = some 3 := by kernel_rfl
@[go_sem] theorem tbytes_42 : tbytes Try.prog 42 = some 40 := by kernel_rfl
@[go_sem] theorem tcells_42 : Program.cellsOf Try.prog 42 = 3 := by kernel_rfl
@[go_sem] theorem tz_42 : tz Try.prog 42 = some [.slice none 0 0, .int .i64 0, .int .u64 0] := by kernel_rfl
@[go_sem] theorem tfield_42_0 : tfield Try.prog 42 0 = some (0, 22) := by kernel_rfl
@[go_sem] theorem tfield_42_1 : tfield Try.prog 42 1 = some (1, 3) := by kernel_rfl
@[go_sem] theorem tfield_42_2 : tfield Try.prog 42 2 = some (2, 41) := by kernel_rfl
@[go_sem] theorem tplaces_42 : tplaces Try.prog 42 = some [(0, 1), (1, 1), (2, 1)] := by kernel_rfl
@[go_sem] theorem tload_43 : tload Try.prog 43 = some (some 3) := by kernel_rfl
@[go_sem] theorem tsize_43 : tsize Try.prog 43 = some 3 := by kernel_rfl
@[go_sem] theorem tbytes_43 : tbytes Try.prog 43 = some 40 := by kernel_rfl
@[go_sem] theorem tcells_43 : Program.cellsOf Try.prog 43 = 3 := by kernel_rfl
@[go_sem] theorem tz_43 : tz Try.prog 43 = some [.slice none 0 0, .int .i64 0, .int .u64 0] := by kernel_rfl
@[go_sem] theorem tfield_43_0 : tfield Try.prog 43 0 = some (0, 22) := by kernel_rfl
@[go_sem] theorem tfield_43_1 : tfield Try.prog 43 1 = some (1, 3) := by kernel_rfl
@[go_sem] theorem tfield_43_2 : tfield Try.prog 43 2 = some (2, 41) := by kernel_rfl
@[go_sem] theorem tplaces_43 : tplaces Try.prog 43 = some [(0, 1), (1, 1), (2, 1)] := by kernel_rfl
@[go_sem] theorem tload_57 : tload Try.prog 57 = some none := by kernel_rfl
@[go_sem] theorem tsize_57 : tsize Try.prog 57 = some 1 := by kernel_rfl
@[go_sem] theorem tbytes_57 : tbytes Try.prog 57 = some 8 := by kernel_rfl
@[go_sem] theorem tcells_57 : Program.cellsOf Try.prog 57 = 1 := by kernel_rfl
@[go_sem] theorem tz_57 : tz Try.prog 57 = some [.int .u64 0] := by kernel_rfl
@[go_sem] theorem tload_64 : tload Try.prog 64 = some none := by kernel_rfl
@[go_sem] theorem tsize_64 : tsize Try.prog 64 = some 1 := by kernel_rfl
@[go_sem] theorem tbytes_64 : tbytes Try.prog 64 = some 4 := by kernel_rfl
@[go_sem] theorem tcells_64 : Program.cellsOf Try.prog 64 = 1 := by kernel_rfl
@[go_sem] theorem tz_64 : tz Try.prog 64 = some [.int .u32 0] := by kernel_rfl
@[go_sem] theorem tload_68 : tload Try.prog 68 = some none := by kernel_rfl
@[go_sem] theorem tsize_68 : tsize Try.prog 68 = some 1 := by kernel_rfl
@[go_sem] theorem tbytes_68 : tbytes Try.prog 68 = some 8 := by kernel_rfl
@[go_sem] theorem tcells_68 : Program.cellsOf Try.prog 68 = 1 := by kernel_rfl
@[go_sem] theorem tz_68 : tz Try.prog 68 = some [.pointer none] := by kernel_rfl
attribute [go_sem] Try.underlying2
attribute [go_sem] Try.underlying3
attribute [go_sem] Try.underlying4
attribute [go_sem] Try.underlying5
attribute [go_sem] Try.underlying9
attribute [go_sem] Try.underlying12
attribute [go_sem] Try.underlying21
attribute [go_sem] Try.underlying41
attribute [go_sem] Try.underlying57
attribute [go_sem] Try.underlying64
end Go.Proofs.Ytgipdicdbgdkbaa
