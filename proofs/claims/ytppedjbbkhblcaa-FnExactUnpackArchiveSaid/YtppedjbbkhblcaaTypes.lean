/- What the seat's types are: sizes, zero values, places of fields. No condition. -/
import Derived.Test.YtppedjbbkhblcaaProg
import Derived.KernelRfl
import Derived.Test.YtppedjbbkhblcaaH3
namespace Go.Proofs.Ytppedjbbkhblcaa
open Go.HH
set_option linter.unusedSimpArgs false
set_option linter.unusedVariables false
theorem mo : Try.prog.follows .mixedOrders = true := by kernel_rfl
theorem wrap64 {n : Int} (h : -9223372036854775808 ≤ n ∧ n ≤ 9223372036854775807) : IntKind.i64.wrap n = n := IntWalk.i64_in n h
theorem decb {p : Prop} [Decidable p] (h : p) : decide p = true := decide_eq_true h
theorem dect {p : Prop} [Decidable p] (h : ¬ p) : decide p = false := decide_eq_false h
@[go_sem] theorem tload_2 : tload Try.prog 2 = some none := by kernel_rfl
@[go_sem] theorem tsize_2 : tsize Try.prog 2 = some 1 := by kernel_rfl
@[go_sem] theorem tbytes_2 : tbytes Try.prog 2 = some 8 := by kernel_rfl
@[go_sem] theorem tcells_2 : Program.cellsOf Try.prog 2 = 1 := by kernel_rfl
@[go_sem] theorem tz_2 : tz Try.prog 2 = some [.int .i64 0] := by kernel_rfl
@[go_sem] theorem tload_3 : tload Try.prog 3 = some none := by kernel_rfl
@[go_sem] theorem tsize_3 : tsize Try.prog 3 = some 1 := by kernel_rfl
@[go_sem] theorem tbytes_3 : tbytes Try.prog 3 = some 8 := by kernel_rfl
@[go_sem] theorem tcells_3 : Program.cellsOf Try.prog 3 = 1 := by kernel_rfl
@[go_sem] theorem tz_3 : tz Try.prog 3 = some [.int .i64 0] := by kernel_rfl
@[go_sem] theorem tload_4 : tload Try.prog 4 = some none := by kernel_rfl
@[go_sem] theorem tsize_4 : tsize Try.prog 4 = some 1 := by kernel_rfl
@[go_sem] theorem tbytes_4 : tbytes Try.prog 4 = some 1 := by kernel_rfl
@[go_sem] theorem tcells_4 : Program.cellsOf Try.prog 4 = 1 := by kernel_rfl
@[go_sem] theorem tz_4 : tz Try.prog 4 = some [.bool false] := by kernel_rfl
@[go_sem] theorem tload_5 : tload Try.prog 5 = some none := by kernel_rfl
@[go_sem] theorem tsize_5 : tsize Try.prog 5 = some 1 := by kernel_rfl
@[go_sem] theorem tbytes_5 : tbytes Try.prog 5 = some 1 := by kernel_rfl
@[go_sem] theorem tcells_5 : Program.cellsOf Try.prog 5 = 1 := by kernel_rfl
@[go_sem] theorem tz_5 : tz Try.prog 5 = some [.int .u8 0] := by kernel_rfl
@[go_sem] theorem tload_9 : tload Try.prog 9 = some none := by kernel_rfl
@[go_sem] theorem tsize_9 : tsize Try.prog 9 = some 1 := by kernel_rfl
@[go_sem] theorem tbytes_9 : tbytes Try.prog 9 = some 16 := by kernel_rfl
@[go_sem] theorem tcells_9 : Program.cellsOf Try.prog 9 = 1 := by kernel_rfl
@[go_sem] theorem tz_9 : tz Try.prog 9 = some [.string ⟨#[]⟩] := by kernel_rfl
@[go_sem] theorem tload_12 : tload Try.prog 12 = some none := by kernel_rfl
@[go_sem] theorem tsize_12 : tsize Try.prog 12 = some 1 := by kernel_rfl
@[go_sem] theorem tbytes_12 : tbytes Try.prog 12 = some 8 := by kernel_rfl
@[go_sem] theorem tcells_12 : Program.cellsOf Try.prog 12 = 1 := by kernel_rfl
@[go_sem] theorem tz_12 : tz Try.prog 12 = some [.int .u64 0] := by kernel_rfl
@[go_sem] theorem tload_13 : tload Try.prog 13 = some (some 2) := by kernel_rfl
@[go_sem] theorem tsize_13 : tsize Try.prog 13 = some 2 := by kernel_rfl
@[go_sem] theorem tbytes_13 : tbytes Try.prog 13 = some 24 := by kernel_rfl
@[go_sem] theorem tcells_13 : Program.cellsOf Try.prog 13 = 2 := by kernel_rfl
@[go_sem] theorem tz_13 : tz Try.prog 13 = some [.string ⟨#[]⟩, .int .u64 0] := by kernel_rfl
@[go_sem] theorem tfield_13_0 : tfield Try.prog 13 0 = some (0, 9) := by kernel_rfl
@[go_sem] theorem tfield_13_1 : tfield Try.prog 13 1 = some (1, 12) := by kernel_rfl
@[go_sem] theorem tplaces_13 : tplaces Try.prog 13 = some [(0, 1), (1, 1)] := by kernel_rfl
@[go_sem] theorem tload_21 : tload Try.prog 21 = some none := by kernel_rfl
@[go_sem] theorem tsize_21 : tsize Try.prog 21 = some 1 := by kernel_rfl
@[go_sem] theorem tbytes_21 : tbytes Try.prog 21 = some 4 := by kernel_rfl
@[go_sem] theorem tcells_21 : Program.cellsOf Try.prog 21 = 1 := by kernel_rfl
@[go_sem] theorem tz_21 : tz Try.prog 21 = some [.int .i32 0] := by kernel_rfl
@[go_sem] theorem tload_22 : tload Try.prog 22 = some none := by kernel_rfl
@[go_sem] theorem tsize_22 : tsize Try.prog 22 = some 1 := by kernel_rfl
@[go_sem] theorem tbytes_22 : tbytes Try.prog 22 = some 24 := by kernel_rfl
@[go_sem] theorem tcells_22 : Program.cellsOf Try.prog 22 = 1 := by kernel_rfl
@[go_sem] theorem tz_22 : tz Try.prog 22 = some [.slice none 0 0] := by kernel_rfl
@[go_sem] theorem telem_22 : telem Try.prog 22 = some (4, 55) := by kernel_rfl
@[go_sem] theorem tapp_22 : tapp Try.prog 22 = some (4, 32) := by kernel_rfl
@[go_sem] theorem tload_24 : tload Try.prog 24 = some none := by kernel_rfl
@[go_sem] theorem tsize_24 : tsize Try.prog 24 = some 1 := by kernel_rfl
@[go_sem] theorem tbytes_24 : tbytes Try.prog 24 = some 24 := by kernel_rfl
@[go_sem] theorem tcells_24 : Program.cellsOf Try.prog 24 = 1 := by kernel_rfl
@[go_sem] theorem tz_24 : tz Try.prog 24 = some [.slice none 0 0] := by kernel_rfl
@[go_sem] theorem telem_24 : telem Try.prog 24 = some (1, 3) := by kernel_rfl
@[go_sem] theorem tapp_24 : tapp Try.prog 24 = some (1, 8) := by kernel_rfl
@[go_sem] theorem tload_27 : tload Try.prog 27 = some none := by kernel_rfl
@[go_sem] theorem tsize_27 : tsize Try.prog 27 = some 1 := by kernel_rfl
@[go_sem] theorem tbytes_27 : tbytes Try.prog 27 = some 24 := by kernel_rfl
@[go_sem] theorem tcells_27 : Program.cellsOf Try.prog 27 = 1 := by kernel_rfl
@[go_sem] theorem tz_27 : tz Try.prog 27 = some [.slice none 0 0] := by kernel_rfl
@[go_sem] theorem telem_27 : telem Try.prog 27 = some (4, 53) := by kernel_rfl
@[go_sem] theorem tapp_27 : tapp Try.prog 27 = some (4, 32) := by kernel_rfl
@[go_sem] theorem tload_34 : tload Try.prog 34 = some none := by kernel_rfl
@[go_sem] theorem tsize_34 : tsize Try.prog 34 = some 1 := by kernel_rfl
@[go_sem] theorem tbytes_34 : tbytes Try.prog 34 = some 24 := by kernel_rfl
@[go_sem] theorem tcells_34 : Program.cellsOf Try.prog 34 = 1 := by kernel_rfl
@[go_sem] theorem tz_34 : tz Try.prog 34 = some [.slice none 0 0] := by kernel_rfl
@[go_sem] theorem telem_34 : telem Try.prog 34 = some (1, 24) := by kernel_rfl
@[go_sem] theorem tapp_34 : tapp Try.prog 34 = some (1, 24) := by kernel_rfl
@[go_sem] theorem tload_36 : tload Try.prog 36 = some (some 2) := by kernel_rfl
@[go_sem] theorem tsize_36 : tsize Try.prog 36 = some 2 := by kernel_rfl
@[go_sem] theorem tbytes_36 : tbytes Try.prog 36 = some 32 := by kernel_rfl
@[go_sem] theorem tcells_36 : Program.cellsOf Try.prog 36 = 2 := by kernel_rfl
@[go_sem] theorem tz_36 : tz Try.prog 36 = some [.int .i64 0, .slice none 0 0] := by kernel_rfl
@[go_sem] theorem tfield_36_0 : tfield Try.prog 36 0 = some (0, 3) := by kernel_rfl
@[go_sem] theorem tfield_36_1 : tfield Try.prog 36 1 = some (1, 24) := by kernel_rfl
@[go_sem] theorem tplaces_36 : tplaces Try.prog 36 = some [(0, 1), (1, 1)] := by kernel_rfl
@[go_sem] theorem tload_37 : tload Try.prog 37 = some (some 2) := by kernel_rfl
@[go_sem] theorem tsize_37 : tsize Try.prog 37 = some 2 := by kernel_rfl
@[go_sem] theorem tbytes_37 : tbytes Try.prog 37 = some 32 := by kernel_rfl
@[go_sem] theorem tcells_37 : Program.cellsOf Try.prog 37 = 2 := by kernel_rfl
@[go_sem] theorem tz_37 : tz Try.prog 37 = some [.int .i64 0, .slice none 0 0] := by kernel_rfl
@[go_sem] theorem tfield_37_0 : tfield Try.prog 37 0 = some (0, 3) := by kernel_rfl
@[go_sem] theorem tfield_37_1 : tfield Try.prog 37 1 = some (1, 24) := by kernel_rfl
@[go_sem] theorem tplaces_37 : tplaces Try.prog 37 = some [(0, 1), (1, 1)] := by kernel_rfl
@[go_sem] theorem tload_52 : tload Try.prog 52 = some (some 4) := by kernel_rfl
@[go_sem] theorem tsize_52 : tsize Try.prog 52 = some 4 := by kernel_rfl
@[go_sem] theorem tbytes_52 : tbytes Try.prog 52 = some 32 := by kernel_rfl
@[go_sem] theorem tcells_52 : Program.cellsOf Try.prog 52 = 4 := by kernel_rfl
@[go_sem] theorem tz_52 : tz Try.prog 52 = some [.int .i64 0, .int .i64 0, .int .i64 0, .int .i64 0] := by kernel_rfl
@[go_sem] theorem tfield_52_0 : tfield Try.prog 52 0 = some (0, 3) := by kernel_rfl
@[go_sem] theorem tfield_52_1 : tfield Try.prog 52 1 = some (1, 3) := by kernel_rfl
@[go_sem] theorem tfield_52_2 : tfield Try.prog 52 2 = some (2, 3) := by kernel_rfl
@[go_sem] theorem tfield_52_3 : tfield Try.prog 52 3 = some (3, 3) := by kernel_rfl
@[go_sem] theorem tplaces_52 : tplaces Try.prog 52 = some [(0, 1), (1, 1), (2, 1), (3, 1)] := by kernel_rfl
@[go_sem] theorem tload_53 : tload Try.prog 53 = some (some 4) := by kernel_rfl
@[go_sem] theorem tsize_53 : tsize Try.prog 53 = some 4 := by kernel_rfl
@[go_sem] theorem tbytes_53 : tbytes Try.prog 53 = some 32 := by kernel_rfl
@[go_sem] theorem tcells_53 : Program.cellsOf Try.prog 53 = 4 := by kernel_rfl
@[go_sem] theorem tz_53 : tz Try.prog 53 = some [.int .i64 0, .int .i64 0, .int .i64 0, .int .i64 0] := by kernel_rfl
@[go_sem] theorem tfield_53_0 : tfield Try.prog 53 0 = some (0, 3) := by kernel_rfl
@[go_sem] theorem tfield_53_1 : tfield Try.prog 53 1 = some (1, 3) := by kernel_rfl
@[go_sem] theorem tfield_53_2 : tfield Try.prog 53 2 = some (2, 3) := by kernel_rfl
@[go_sem] theorem tfield_53_3 : tfield Try.prog 53 3 = some (3, 3) := by kernel_rfl
@[go_sem] theorem tplaces_53 : tplaces Try.prog 53 = some [(0, 1), (1, 1), (2, 1), (3, 1)] := by kernel_rfl
@[go_sem] theorem tload_55 : tload Try.prog 55 = some (some 4) := by kernel_rfl
@[go_sem] theorem tsize_55 : tsize Try.prog 55 = some 4 := by kernel_rfl
@[go_sem] theorem tbytes_55 : tbytes Try.prog 55 = some 32 := by kernel_rfl
@[go_sem] theorem tcells_55 : Program.cellsOf Try.prog 55 = 4 := by kernel_rfl
@[go_sem] theorem tz_55 : tz Try.prog 55 = some [.int .i64 0, .int .i64 0, .int .i64 0, .int .i64 0] := by kernel_rfl
@[go_sem] theorem tfield_55_0 : tfield Try.prog 55 0 = some (0, 3) := by kernel_rfl
@[go_sem] theorem tfield_55_1 : tfield Try.prog 55 1 = some (1, 3) := by kernel_rfl
@[go_sem] theorem tfield_55_2 : tfield Try.prog 55 2 = some (2, 3) := by kernel_rfl
@[go_sem] theorem tfield_55_3 : tfield Try.prog 55 3 = some (3, 3) := by kernel_rfl
@[go_sem] theorem tplaces_55 : tplaces Try.prog 55 = some [(0, 1), (1, 1), (2, 1), (3, 1)] := by kernel_rfl
@[go_sem] theorem tload_66 : tload Try.prog 66 = some (some 5) := by kernel_rfl
@[go_sem] theorem tsize_66 : tsize Try.prog 66 = some 5 := by kernel_rfl
@[go_sem] theorem tbytes_66 : tbytes Try.prog 66 = some 40 := by kernel_rfl
@[go_sem] theorem tcells_66 : Program.cellsOf Try.prog 66 = 5 := by kernel_rfl
@[go_sem] theorem tz_66 : tz Try.prog 66 = some [.int .i64 0, .int .i64 0, .int .i64 0, .int .i64 0, .int .i64 0] := by kernel_rfl
@[go_sem] theorem tplaces_66 : tplaces Try.prog 66 = none := by kernel_rfl
@[go_sem] theorem tarr_66 : tarr Try.prog 66 = some (5, 1, 3) := by kernel_rfl
@[go_sem] theorem tload_71 : tload Try.prog 71 = some none := by kernel_rfl
@[go_sem] theorem tsize_71 : tsize Try.prog 71 = some 1 := by kernel_rfl
@[go_sem] theorem tbytes_71 : tbytes Try.prog 71 = some 8 := by kernel_rfl
@[go_sem] theorem tcells_71 : Program.cellsOf Try.prog 71 = 1 := by kernel_rfl
@[go_sem] theorem tz_71 : tz Try.prog 71 = some [.int .u64 0] := by kernel_rfl
@[go_sem] theorem tload_79 : tload Try.prog 79 = some none := by kernel_rfl
@[go_sem] theorem tsize_79 : tsize Try.prog 79 = some 1 := by kernel_rfl
@[go_sem] theorem tbytes_79 : tbytes Try.prog 79 = some 4 := by kernel_rfl
@[go_sem] theorem tcells_79 : Program.cellsOf Try.prog 79 = 1 := by kernel_rfl
@[go_sem] theorem tz_79 : tz Try.prog 79 = some [.int .u32 0] := by kernel_rfl
@[go_sem] theorem tload_83 : tload Try.prog 83 = some none := by kernel_rfl
@[go_sem] theorem tsize_83 : tsize Try.prog 83 = some 1 := by kernel_rfl
@[go_sem] theorem tbytes_83 : tbytes Try.prog 83 = some 8 := by kernel_rfl
@[go_sem] theorem tcells_83 : Program.cellsOf Try.prog 83 = 1 := by kernel_rfl
@[go_sem] theorem tz_83 : tz Try.prog 83 = some [.pointer none] := by kernel_rfl
attribute [go_sem] Try.underlying2
attribute [go_sem] Try.underlying3
attribute [go_sem] Try.underlying4
attribute [go_sem] Try.underlying5
attribute [go_sem] Try.underlying9
attribute [go_sem] Try.underlying12
attribute [go_sem] Try.underlying21
attribute [go_sem] Try.underlying71
attribute [go_sem] Try.underlying79
end Go.Proofs.Ytppedjbbkhblcaa
