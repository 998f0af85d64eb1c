/- What the seat's types are: sizes, zero values, places of fields. No condition. -/
import Derived.Test.YtfolkgkcaiaifaaProg
import Derived.KernelRfl
import Derived.Test.YtfolkgkcaiaifaaH3
namespace Go.Proofs.Ytfolkgkcaiaifaa
open Go.HH
set_option linter.unusedSimpArgs false
set_option linter.unusedVariables false
theorem mo : Try.prog.follows .mixedOrders = true := by kernel_rfl
theorem wrap64 {n : Int} (h : -9223372036854775808 ≤ n ∧ n ≤ 9223372036854775807) : IntKind.i64.wrap n = n := IntWalk.i64_in n h
theorem decb {p : Prop} [Decidable p] (h : p) : decide p = true := decide_eq_true h
theorem dect {p : Prop} [Decidable p] (h : ¬ p) : decide p = false := decide_eq_false h
@[go_sem] theorem tload_2 : tload Try.prog 2 = some none := by kernel_rfl
@[go_sem] theorem tsize_2 : tsize Try.prog 2 = some 1 := by kernel_rfl
@[go_sem] theorem tbytes_2 : tbytes Try.prog 2 = some 8 := by kernel_rfl
@[go_sem] theorem tcells_2 : Program.cellsOf Try.prog 2 = 1 := by kernel_rfl
@[go_sem] theorem tz_2 : tz Try.prog 2 = some [.int .i64 0] := by kernel_rfl
@[go_sem] theorem tload_3 : tload Try.prog 3 = some none := by kernel_rfl
@[go_sem] theorem tsize_3 : tsize Try.prog 3 = some 1 := by kernel_rfl
@[go_sem] theorem tbytes_3 : tbytes Try.prog 3 = some 8 := by kernel_rfl
@[go_sem] theorem tcells_3 : Program.cellsOf Try.prog 3 = 1 := by kernel_rfl
@[go_sem] theorem tz_3 : tz Try.prog 3 = some [.int .i64 0] := by kernel_rfl
@[go_sem] theorem tload_4 : tload Try.prog 4 = some none := by kernel_rfl
@[go_sem] theorem tsize_4 : tsize Try.prog 4 = some 1 := by kernel_rfl
@[go_sem] theorem tbytes_4 : tbytes Try.prog 4 = some 1 := by kernel_rfl
@[go_sem] theorem tcells_4 : Program.cellsOf Try.prog 4 = 1 := by kernel_rfl
@[go_sem] theorem tz_4 : tz Try.prog 4 = some [.bool false] := by kernel_rfl
@[go_sem] theorem tload_5 : tload Try.prog 5 = some none := by kernel_rfl
@[go_sem] theorem tsize_5 : tsize Try.prog 5 = some 1 := by kernel_rfl
@[go_sem] theorem tbytes_5 : tbytes Try.prog 5 = some 1 := by kernel_rfl
@[go_sem] theorem tcells_5 : Program.cellsOf Try.prog 5 = 1 := by kernel_rfl
@[go_sem] theorem tz_5 : tz Try.prog 5 = some [.int .u8 0] := by kernel_rfl
@[go_sem] theorem tload_9 : tload Try.prog 9 = some none := by kernel_rfl
@[go_sem] theorem tsize_9 : tsize Try.prog 9 = some 1 := by kernel_rfl
@[go_sem] theorem tbytes_9 : tbytes Try.prog 9 = some 16 := by kernel_rfl
@[go_sem] theorem tcells_9 : Program.cellsOf Try.prog 9 = 1 := by kernel_rfl
@[go_sem] theorem tz_9 : tz Try.prog 9 = some [.string ⟨#[]⟩] := by kernel_rfl
@[go_sem] theorem tload_12 : tload Try.prog 12 = some none := by kernel_rfl
@[go_sem] theorem tsize_12 : tsize Try.prog 12 = some 1 := by kernel_rfl
@[go_sem] theorem tbytes_12 : tbytes Try.prog 12 = some 8 := by kernel_rfl
@[go_sem] theorem tcells_12 : Program.cellsOf Try.prog 12 = 1 := by kernel_rfl
@[go_sem] theorem tz_12 : tz Try.prog 12 = some [.int .u64 0] := by kernel_rfl
@[go_sem] theorem tload_13 : tload Try.prog 13 = some (some 2) := by kernel_rfl
@[go_sem] theorem tsize_13 : tsize Try.prog 13 = some 2 := by kernel_rfl
@[go_sem] theorem tbytes_13 : tbytes Try.prog 13 = some 24 := by kernel_rfl
@[go_sem] theorem tcells_13 : Program.cellsOf Try.prog 13 = 2 := by kernel_rfl
@[go_sem] theorem tz_13 : tz Try.prog 13 = some [.string ⟨#[]⟩, .int .u64 0] := by kernel_rfl
@[go_sem] theorem tfield_13_0 : tfield Try.prog 13 0 = some (0, 9) := by kernel_rfl
@[go_sem] theorem tfield_13_1 : tfield Try.prog 13 1 = some (1, 12) := by kernel_rfl
@[go_sem] theorem tplaces_13 : tplaces Try.prog 13 = some [(0, 1), (1, 1)] := by kernel_rfl
@[go_sem] theorem tload_21 : tload Try.prog 21 = some none := by kernel_rfl
@[go_sem] theorem tsize_21 : tsize Try.prog 21 = some 1 := by kernel_rfl
@[go_sem] theorem tbytes_21 : tbytes Try.prog 21 = some 4 := by kernel_rfl
@[go_sem] theorem tcells_21 : Program.cellsOf Try.prog 21 = 1 := by kernel_rfl
@[go_sem] theorem tz_21 : tz Try.prog 21 = some [.int .i32 0] := by kernel_rfl
@[go_sem] theorem tload_22 : tload Try.prog 22 = some none := by kernel_rfl
@[go_sem] theorem tsize_22 : tsize Try.prog 22 = some 1 := by kernel_rfl
@[go_sem] theorem tbytes_22 : tbytes Try.prog 22 = some 24 := by kernel_rfl
@[go_sem] theorem tcells_22 : Program.cellsOf Try.prog 22 = 1 := by kernel_rfl
@[go_sem] theorem tz_22 : tz Try.prog 22 = some [.slice none 0 0] := by kernel_rfl
@[go_sem] theorem telem_22 : telem Try.prog 22 = some (4, 52) := by kernel_rfl
@[go_sem] theorem tapp_22 : tapp Try.prog 22 = some (4, 32) := by kernel_rfl
@[go_sem] theorem tload_24 : tload Try.prog 24 = some none := by kernel_rfl
@[go_sem] theorem tsize_24 : tsize Try.prog 24 = some 1 := by kernel_rfl
@[go_sem] theorem tbytes_24 : tbytes Try.prog 24 = some 24 := by kernel_rfl
@[go_sem] theorem tcells_24 : Program.cellsOf Try.prog 24 = 1 := by kernel_rfl
@[go_sem] theorem tz_24 : tz Try.prog 24 = some [.slice none 0 0] := by kernel_rfl
@[go_sem] theorem telem_24 : telem Try.prog 24 = some (4, 45) := by kernel_rfl
@[go_sem] theorem tapp_24 : tapp Try.prog 24 = some (4, 32) := by kernel_rfl
@[go_sem] theorem tload_31 : tload Try.prog 31 = some none := by kernel_rfl
@[go_sem] theorem tsize_31 : tsize Try.prog 31 = some 1 := by kernel_rfl
@[go_sem] theorem tbytes_31 : tbytes Try.prog 31 = some 24 := by kernel_rfl
@[go_sem] theorem tcells_31 : Program.cellsOf Try.prog 31 = 1 := by kernel_rfl
@[go_sem] theorem tz_31 : tz Try.prog 31 = some [.slice none 0 0] := by kernel_rfl
@[go_sem] theorem telem_31 : telem Try.prog 31 = some (1, 5) := by kernel_rfl
@[go_sem] theorem tapp_31 : tapp Try.prog 31 = some (1, 1) := by kernel_rfl
@[go_sem] theorem tload_35 : tload Try.prog 35 = some none := by kernel_rfl
@[go_sem] theorem tsize_35 : tsize Try.prog 35 = some 1 := by kernel_rfl
@[go_sem] theorem tbytes_35 : tbytes Try.prog 35 = some 24 := by kernel_rfl
@[go_sem] theorem tcells_35 : Program.cellsOf Try.prog 35 = 1 := by kernel_rfl
@[go_sem] theorem tz_35 : tz Try.prog 35 = some [.slice none 0 0] := by kernel_rfl
@[go_sem] theorem telem_35 : telem Try.prog 35 = some (1, 3) := by kernel_rfl
@[go_sem] theorem tapp_35 : tapp Try.prog 35 = some (1, 8) := by kernel_rfl
@[go_sem] theorem tload_44 : tload Try.prog 44 = some (some 4) := by kernel_rfl
@[go_sem] theorem tsize_44 : tsize Try.prog 44 = some 4 := by kernel_rfl
@[go_sem] theorem tbytes_44 : tbytes Try.prog 44 = some 32 := by kernel_rfl
@[go_sem] theorem tcells_44 : Program.cellsOf Try.prog 44 = 4 := by kernel_rfl
@[go_sem] theorem tz_44 : tz Try.prog 44 = some [.int .i64 0, .int .i64 0, .int .i64 0, .int .i64 0] := by kernel_rfl
@[go_sem] theorem tfield_44_0 : tfield Try.prog 44 0 = some (0, 3) := by kernel_rfl
@[go_sem] theorem tfield_44_1 : tfield Try.prog 44 1 = some (1, 3) := by kernel_rfl
@[go_sem] theorem tfield_44_2 : tfield Try.prog 44 2 = some (2, 3) := by kernel_rfl
@[go_sem] theorem tfield_44_3 : tfield Try.prog 44 3 = some (3, 3) := by kernel_rfl
@[go_sem] theorem tplaces_44 : tplaces Try.prog 44 = some [(0, 1), (1, 1), (2, 1), (3, 1)] := by kernel_rfl
@[go_sem] theorem tload_45 : tload Try.prog 45 = some (some 4) := by kernel_rfl
@[go_sem] theorem tsize_45 : tsize Try.prog 45 = some 4 := by kernel_rfl
@[go_sem] theorem tbytes_45 : tbytes Try.prog 45 = some 32 := by kernel_rfl
@[go_sem] theorem tcells_45 : Program.cellsOf Try.prog 45 = 4 := by kernel_rfl
@[go_sem] theorem tz_45 : tz Try.prog 45 = some [.int .i64 0, .int .i64 0, .int .i64 0, .int .i64 0] := by kernel_rfl
@[go_sem] theorem tfield_45_0 : tfield Try.prog 45 0 = some (0, 3) := by kernel_rfl
@[go_sem] theorem tfield_45_1 : tfield Try.prog 45 1 = some (1, 3) := by kernel_rfl
@[go_sem] theorem tfield_45_2 : tfield Try.prog 45 2 = some (2, 3) := by kernel_rfl
@[go_sem] theorem tfield_45_3 : tfield Try.prog 45 3 = some (3, 3) := by kernel_rfl
@[go_sem] theorem tflat_45 : flatK Try.prog 45 = some [0, 0, 0, 0] := by kernel_rfl
@[go_sem] theorem tplaces_45 : tplaces Try.prog 45 = some [(0, 1), (1, 1), (2, 1), (3, 1)] := by kernel_rfl
@[go_sem] theorem tload_52 : tload Try.prog 52 = some (some 4) := by kernel_rfl
@[go_sem] theorem tsize_52 : tsize Try.prog 52 = some 4 := by kernel_rfl
@[go_sem] theorem tbytes_52 : tbytes Try.prog 52 = some 32 := by kernel_rfl
@[go_sem] theorem tcells_52 : Program.cellsOf Try.prog 52 = 4 := by kernel_rfl
@[go_sem] theorem tz_52 : tz Try.prog 52 = some [.int .i64 0, .int .i64 0, .int .i64 0, .int .i64 0] := by kernel_rfl
@[go_sem] theorem tfield_52_0 : tfield Try.prog 52 0 = some (0, 3) := by kernel_rfl
@[go_sem] theorem tfield_52_1 : tfield Try.prog 52 1 = some (1, 3) := by kernel_rfl
@[go_sem] theorem tfield_52_2 : tfield Try.prog 52 2 = some (2, 3) := by kernel_rfl
@[go_sem] theorem tfield_52_3 : tfield Try.prog 52 3 = some (3, 3) := by kernel_rfl
@[go_sem] theorem tflat_52 : flatK Try.prog 52 = some [0, 0, 0, 0] := by kernel_rfl
@[go_sem] theorem tplaces_52 : tplaces Try.prog 52 = some [(0, 1), (1, 1), (2, 1), (3, 1)] := by kernel_rfl
@[go_sem] theorem tload_56 : tload Try.prog 56 = some none := by kernel_rfl
@[go_sem] theorem tsize_56 : tsize Try.prog 56 = some 1 := by kernel_rfl
@[go_sem] theorem tbytes_56 : tbytes Try.prog 56 = some 8 := by kernel_rfl
@[go_sem] theorem tcells_56 : Program.cellsOf Try.prog 56 = 1 := by kernel_rfl
@[go_sem] theorem tz_56 : tz Try.prog 56 = some [.pointer none] := by kernel_rfl
@[go_sem] theorem tload_57 : tload Try.prog 57 = some none := by kernel_rfl
@[go_sem] theorem tsize_57 : tsize Try.prog 57 = some 1 := by kernel_rfl
@[go_sem] theorem tbytes_57 : tbytes Try.prog 57 = some 8 := by kernel_rfl
@[go_sem] theorem tcells_57 : Program.cellsOf Try.prog 57 = 1 := by kernel_rfl
@[go_sem] theorem tz_57 : tz Try.prog 57 = some [.int .u64 0] := by kernel_rfl
@[go_sem] theorem tload_58 : tload Try.prog 58 = some (some 3) := by kernel_rfl
@[go_sem] theorem tsize_58 : tsize Try.prog 58 = some 3 := by kernel_rfl
@[go_sem] theorem tbytes_58 : tbytes Try.prog 58 = some 40 := by kernel_rfl
@[go_sem] theorem tcells_58 : Program.cellsOf Try.prog 58 = 3 := by kernel_rfl
@[go_sem] theorem tz_58 : tz Try.prog 58 = some [.slice none 0 0, .int .i64 0, .int .u64 0] := by kernel_rfl
@[go_sem] theorem tfield_58_0 : tfield Try.prog 58 0 = some (0, 31) := by kernel_rfl
@[go_sem] theorem tfield_58_1 : tfield Try.prog 58 1 = some (1, 3) := by kernel_rfl
@[go_sem] theorem tfield_58_2 : tfield Try.prog 58 2 = some (2, 57) := by kernel_rfl
@[go_sem] theorem tplaces_58 : tplaces Try.prog 58 = some [(0, 1), (1, 1), (2, 1)] := by kernel_rfl
@[go_sem] theorem tload_59 : tload Try.prog 59 = some (some 3) := by kernel_rfl
@[go_sem] theorem tsize_59 : tsize Try.prog 59 = some 3 := by kernel_rfl
@[go_sem] theorem tbytes_59 : tbytes Try.prog 59 = some 40 := by kernel_rfl
@[go_sem] theorem tcells_59 : Program.cellsOf Try.prog 59 = 3 := by kernel_rfl
@[go_sem] theorem tz_59 : tz Try.prog 59 = some [.slice none 0 0, .int .i64 0, .int .u64 0] := by kernel_rfl
@[go_sem] theorem tfield_59_0 : tfield Try.prog 59 0 = some (0, 31) := by kernel_rfl
@[go_sem] theorem tfield_59_1 : tfield Try.prog 59 1 = some (1, 3) := by kernel_rfl
@[go_sem] theorem tfield_59_2 : tfield Try.prog 59 2 = some (2, 57) := by kernel_rfl
@[go_sem] theorem tplaces_59 : tplaces Try.prog 59 = some [(0, 1), (1, 1), (2, 1)] := by kernel_rfl
@[go_sem] theorem tload_72 : tload Try.prog 72 = some (some 5) := by kernel_rfl
@[go_sem] theorem tsize_72 : tsize Try.prog 72 = some 5 := by kernel_rfl
@[go_sem] theorem tbytes_72 : tbytes Try.prog 72 = some 40 := by kernel_rfl
@[go_sem] theorem tcells_72 : Program.cellsOf Try.prog 72 = 5 := by kernel_rfl
@[go_sem] theorem tz_72 : tz Try.prog 72 = some [.int .i64 0, .int .i64 0, .int .i64 0, .int .i64 0, .int .i64 0] := by kernel_rfl
@[go_sem] theorem tplaces_72 : tplaces Try.prog 72 = none := by kernel_rfl
@[go_sem] theorem tarr_72 : tarr Try.prog 72 = some (5, 1, 3) := by kernel_rfl
@[go_sem] theorem tload_75 : tload Try.prog 75 = some none := by kernel_rfl
@[go_sem] theorem tsize_75 : tsize Try.prog 75 = some 1 := by kernel_rfl
@[go_sem] theorem tbytes_75 : tbytes Try.prog 75 = some 8 := by kernel_rfl
@[go_sem] theorem tcells_75 : Program.cellsOf Try.prog 75 = 1 := by kernel_rfl
@[go_sem] theorem tz_75 : tz Try.prog 75 = some [.int .u64 0] := by kernel_rfl
@[go_sem] theorem tload_82 : tload Try.prog 82 = some none := by kernel_rfl
@[go_sem] theorem tsize_82 : tsize Try.prog 82 = some 1 := by kernel_rfl
@[go_sem] theorem tbytes_82 : tbytes Try.prog 82 = some 4 := by kernel_rfl
@[go_sem] theorem tcells_82 : Program.cellsOf Try.prog 82 = 1 := by kernel_rfl
@[go_sem] theorem tz_82 : tz Try.prog 82 = some [.int .u32 0] := by kernel_rfl
@[go_sem] theorem tload_86 : tload Try.prog 86 = some none := by kernel_rfl
@[go_sem] theorem tsize_86 : tsize Try.prog 86 = some 1 := by kernel_rfl
@[go_sem] theorem tbytes_86 : tbytes Try.prog 86 = some 8 := by kernel_rfl
@[go_sem] theorem tcells_86 : Program.cellsOf Try.prog 86 = 1 := by kernel_rfl
@[go_sem] theorem tz_86 : tz Try.prog 86 = some [.pointer none] := by kernel_rfl
attribute [go_sem] Try.underlying2
attribute [go_sem] Try.underlying3
attribute [go_sem] Try.underlying4
attribute [go_sem] Try.underlying5
attribute [go_sem] Try.underlying9
attribute [go_sem] Try.underlying12
attribute [go_sem] Try.underlying21
attribute [go_sem] Try.underlying57
attribute [go_sem] Try.underlying75
attribute [go_sem] Try.underlying82
end Go.Proofs.Ytfolkgkcaiaifaa
