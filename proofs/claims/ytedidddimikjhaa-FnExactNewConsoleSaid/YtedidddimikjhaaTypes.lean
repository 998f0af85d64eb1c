/- What the seat's types are: sizes, zero values, places of fields. No condition. -/
import Derived.Test.YtedidddimikjhaaProg
import Derived.KernelRfl
import Derived.Test.YtedidddimikjhaaH3
namespace Go.Proofs.Ytedidddimikjhaa
open Go.HH
set_option linter.unusedSimpArgs false
set_option linter.unusedVariables false
theorem mo : Try.prog.follows .mixedOrders = true := by kernel_rfl
theorem wrap64 {n : Int} (h : -9223372036854775808 ≤ n ∧ n ≤ 9223372036854775807) : IntKind.i64.wrap n = n := IntWalk.i64_in n h
theorem decb {p : Prop} [Decidable p] (h : p) : decide p = true := decide_eq_true h
theorem dect {p : Prop} [Decidable p] (h : ¬ p) : decide p = false := decide_eq_false h
@[go_sem] theorem tload_2 : tload Try.prog 2 = some none := by kernel_rfl
@[go_sem] theorem tsize_2 : tsize Try.prog 2 = some 1 := by kernel_rfl
@[go_sem] theorem tbytes_2 : tbytes Try.prog 2 = some 8 := by kernel_rfl
@[go_sem] theorem tcells_2 : Program.cellsOf Try.prog 2 = 1 := by kernel_rfl
@[go_sem] theorem tz_2 : tz Try.prog 2 = some [.int .i64 0] := by kernel_rfl
@[go_sem] theorem tload_3 : tload Try.prog 3 = some none := by kernel_rfl
@[go_sem] theorem tsize_3 : tsize Try.prog 3 = some 1 := by kernel_rfl
@[go_sem] theorem tbytes_3 : tbytes Try.prog 3 = some 8 := by kernel_rfl
@[go_sem] theorem tcells_3 : Program.cellsOf Try.prog 3 = 1 := by kernel_rfl
@[go_sem] theorem tz_3 : tz Try.prog 3 = some [.int .i64 0] := by kernel_rfl
@[go_sem] theorem tload_4 : tload Try.prog 4 = some none := by kernel_rfl
@[go_sem] theorem tsize_4 : tsize Try.prog 4 = some 1 := by kernel_rfl
@[go_sem] theorem tbytes_4 : tbytes Try.prog 4 = some 1 := by kernel_rfl
@[go_sem] theorem tcells_4 : Program.cellsOf Try.prog 4 = 1 := by kernel_rfl
@[go_sem] theorem tz_4 : tz Try.prog 4 = some [.bool false] := by kernel_rfl
@[go_sem] theorem tload_5 : tload Try.prog 5 = some none := by kernel_rfl
@[go_sem] theorem tsize_5 : tsize Try.prog 5 = some 1 := by kernel_rfl
@[go_sem] theorem tbytes_5 : tbytes Try.prog 5 = some 1 := by kernel_rfl
@[go_sem] theorem tcells_5 : Program.cellsOf Try.prog 5 = 1 := by kernel_rfl
@[go_sem] theorem tz_5 : tz Try.prog 5 = some [.int .u8 0] := by kernel_rfl
@[go_sem] theorem tload_9 : tload Try.prog 9 = some none := by kernel_rfl
@[go_sem] theorem tsize_9 : tsize Try.prog 9 = some 1 := by kernel_rfl
@[go_sem] theorem tbytes_9 : tbytes Try.prog 9 = some 16 := by kernel_rfl
@[go_sem] theorem tcells_9 : Program.cellsOf Try.prog 9 = 1 := by kernel_rfl
@[go_sem] theorem tz_9 : tz Try.prog 9 = some [.string ⟨#[]⟩] := by kernel_rfl
@[go_sem] theorem tload_12 : tload Try.prog 12 = some none := by kernel_rfl
@[go_sem] theorem tsize_12 : tsize Try.prog 12 = some 1 := by kernel_rfl
@[go_sem] theorem tbytes_12 : tbytes Try.prog 12 = some 8 := by kernel_rfl
@[go_sem] theorem tcells_12 : Program.cellsOf Try.prog 12 = 1 := by kernel_rfl
@[go_sem] theorem tz_12 : tz Try.prog 12 = some [.int .u64 0] := by kernel_rfl
@[go_sem] theorem tload_13 : tload Try.prog 13 = some (some 2) := by kernel_rfl
@[go_sem] theorem tsize_13 : tsize Try.prog 13 = some 2 := by kernel_rfl
@[go_sem] theorem tbytes_13 : tbytes Try.prog 13 = some 24 := by kernel_rfl
@[go_sem] theorem tcells_13 : Program.cellsOf Try.prog 13 = 2 := by kernel_rfl
@[go_sem] theorem tz_13 : tz Try.prog 13 = some [.string ⟨#[]⟩, .int .u64 0] := by kernel_rfl
@[go_sem] theorem tfield_13_0 : tfield Try.prog 13 0 = some (0, 9) := by kernel_rfl
@[go_sem] theorem tfield_13_1 : tfield Try.prog 13 1 = some (1, 12) := by kernel_rfl
@[go_sem] theorem tplaces_13 : tplaces Try.prog 13 = some [(0, 1), (1, 1)] := by kernel_rfl
@[go_sem] theorem tload_21 : tload Try.prog 21 = some none := by kernel_rfl
@[go_sem] theorem tsize_21 : tsize Try.prog 21 = some 1 := by kernel_rfl
@[go_sem] theorem tbytes_21 : tbytes Try.prog 21 = some 4 := by kernel_rfl
@[go_sem] theorem tcells_21 : Program.cellsOf Try.prog 21 = 1 := by kernel_rfl
@[go_sem] theorem tz_21 : tz Try.prog 21 = some [.int .i32 0] := by kernel_rfl
@[go_sem] theorem tload_22 : tload Try.prog 22 = some none := by kernel_rfl
@[go_sem] theorem tsize_22 : tsize Try.prog 22 = some 1 := by kernel_rfl
@[go_sem] theorem tbytes_22 : tbytes Try.prog 22 = some 24 := by kernel_rfl
@[go_sem] theorem tcells_22 : Program.cellsOf Try.prog 22 = 1 := by kernel_rfl
@[go_sem] theorem tz_22 : tz Try.prog 22 = some [.slice none 0 0] := by kernel_rfl
@[go_sem] theorem telem_22 : telem Try.prog 22 = some (4, 56) := by kernel_rfl
@[go_sem] theorem tapp_22 : tapp Try.prog 22 = some (4, 32) := by kernel_rfl
@[go_sem] theorem tload_23 : tload Try.prog 23 = some (some 2) := by kernel_rfl
@[go_sem] theorem tsize_23 : tsize Try.prog 23 = some 2 := by kernel_rfl
@[go_sem] theorem tbytes_23 : tbytes Try.prog 23 = some 32 := by kernel_rfl
@[go_sem] theorem tcells_23 : Program.cellsOf Try.prog 23 = 2 := by kernel_rfl
@[go_sem] theorem tz_23 : tz Try.prog 23 = some [.int .i64 0, .slice none 0 0] := by kernel_rfl
@[go_sem] theorem tfield_23_0 : tfield Try.prog 23 0 = some (0, 3) := by kernel_rfl
@[go_sem] theorem tfield_23_1 : tfield Try.prog 23 1 = some (1, 22) := by kernel_rfl
@[go_sem] theorem tplaces_23 : tplaces Try.prog 23 = some [(0, 1), (1, 1)] := by kernel_rfl
@[go_sem] theorem tload_24 : tload Try.prog 24 = some (some 2) := by kernel_rfl
@[go_sem] theorem tsize_24 : tsize Try.prog 24 = some 2 := by kernel_rfl
@[go_sem] theorem tbytes_24 : tbytes Try.prog 24 = some 32 := by kernel_rfl
@[go_sem] theorem tcells_24 : Program.cellsOf Try.prog 24 = 2 := by kernel_rfl
@[go_sem] theorem tz_24 : tz Try.prog 24 = some [.int .i64 0, .slice none 0 0] := by kernel_rfl
@[go_sem] theorem tfield_24_0 : tfield Try.prog 24 0 = some (0, 3) := by kernel_rfl
@[go_sem] theorem tfield_24_1 : tfield Try.prog 24 1 = some (1, 22) := by kernel_rfl
@[go_sem] theorem tplaces_24 : tplaces Try.prog 24 = some [(0, 1), (1, 1)] := by kernel_rfl
@[go_sem] theorem tload_26 : tload Try.prog 26 = some none := by kernel_rfl
@[go_sem] theorem tsize_26 : tsize Try.prog 26 = some 1 := by kernel_rfl
@[go_sem] theorem tbytes_26 : tbytes Try.prog 26 = some 24 := by kernel_rfl
@[go_sem] theorem tcells_26 : Program.cellsOf Try.prog 26 = 1 := by kernel_rfl
@[go_sem] theorem tz_26 : tz Try.prog 26 = some [.slice none 0 0] := by kernel_rfl
@[go_sem] theorem telem_26 : telem Try.prog 26 = some (4, 54) := by kernel_rfl
@[go_sem] theorem tapp_26 : tapp Try.prog 26 = some (4, 32) := by kernel_rfl
@[go_sem] theorem tload_27 : tload Try.prog 27 = some (some 2) := by kernel_rfl
@[go_sem] theorem tsize_27 : tsize Try.prog 27 = some 2 := by kernel_rfl
@[go_sem] theorem tbytes_27 : tbytes Try.prog 27 = some 32 := by kernel_rfl
@[go_sem] theorem tcells_27 : Program.cellsOf Try.prog 27 = 2 := by kernel_rfl
@[go_sem] theorem tz_27 : tz Try.prog 27 = some [.int .i64 0, .slice none 0 0] := by kernel_rfl
@[go_sem] theorem tfield_27_0 : tfield Try.prog 27 0 = some (0, 3) := by kernel_rfl
@[go_sem] theorem tfield_27_1 : tfield Try.prog 27 1 = some (1, 26) := by kernel_rfl
@[go_sem] theorem tplaces_27 : tplaces Try.prog 27 = some [(0, 1), (1, 1)] := by kernel_rfl
@[go_sem] theorem tload_28 : tload Try.prog 28 = some (some 2) := by kernel_rfl
@[go_sem] theorem tsize_28 : tsize Try.prog 28 = some 2 := by kernel_rfl
@[go_sem] theorem tbytes_28 : tbytes Try.prog 28 = some 32 := by kernel_rfl
@[go_sem] theorem tcells_28 : Program.cellsOf Try.prog 28 = 2 := by kernel_rfl
@[go_sem] theorem tz_28 : tz Try.prog 28 = some [.int .i64 0, .slice none 0 0] := by kernel_rfl
@[go_sem] theorem tfield_28_0 : tfield Try.prog 28 0 = some (0, 3) := by kernel_rfl
@[go_sem] theorem tfield_28_1 : tfield Try.prog 28 1 = some (1, 26) := by kernel_rfl
@[go_sem] theorem tplaces_28 : tplaces Try.prog 28 = some [(0, 1), (1, 1)] := by kernel_rfl
@[go_sem] theorem tload_29 : tload Try.prog 29 = some none := by kernel_rfl
@[go_sem] theorem tsize_29 : tsize Try.prog 29 = some 1 := by kernel_rfl
@[go_sem] theorem tbytes_29 : tbytes Try.prog 29 = some 24 := by kernel_rfl
@[go_sem] theorem tcells_29 : Program.cellsOf Try.prog 29 = 1 := by kernel_rfl
@[go_sem] theorem tz_29 : tz Try.prog 29 = some [.slice none 0 0] := by kernel_rfl
@[go_sem] theorem telem_29 : telem Try.prog 29 = some (4, 60) := by kernel_rfl
@[go_sem] theorem tapp_29 : tapp Try.prog 29 = some (4, 32) := by kernel_rfl
@[go_sem] theorem tload_30 : tload Try.prog 30 = some (some 3) := by kernel_rfl
@[go_sem] theorem tsize_30 : tsize Try.prog 30 = some 3 := by kernel_rfl
@[go_sem] theorem tbytes_30 : tbytes Try.prog 30 = some 40 := by kernel_rfl
@[go_sem] theorem tcells_30 : Program.cellsOf Try.prog 30 = 3 := by kernel_rfl
@[go_sem] theorem tz_30 : tz Try.prog 30 = some [.string ⟨#[]⟩, .string ⟨#[]⟩, .int .i64 0] := by kernel_rfl
@[go_sem] theorem tfield_30_0 : tfield Try.prog 30 0 = some (0, 9) := by kernel_rfl
@[go_sem] theorem tfield_30_1 : tfield Try.prog 30 1 = some (1, 9) := by kernel_rfl
@[go_sem] theorem tfield_30_2 : tfield Try.prog 30 2 = some (2, 3) := by kernel_rfl
@[go_sem] theorem tplaces_30 : tplaces Try.prog 30 = some [(0, 1), (1, 1), (2, 1)] := by kernel_rfl
@[go_sem] theorem tload_31 : tload Try.prog 31 = some (some 3) := by kernel_rfl
@[go_sem] theorem tsize_31 : tsize Try.prog 31 = some 3 := by kernel_rfl
@[go_sem] theorem tbytes_31 : tbytes Try.prog 31 = some 40 := by kernel_rfl
@[go_sem] theorem tcells_31 : Program.cellsOf Try.prog 31 = 3 := by kernel_rfl
@[go_sem] theorem tz_31 : tz Try.prog 31 = some [.string ⟨#[]⟩, .string ⟨#[]⟩, .int .i64 0] := by kernel_rfl
@[go_sem] theorem tfield_31_0 : tfield Try.prog 31 0 = some (0, 9) := by kernel_rfl
@[go_sem] theorem tfield_31_1 : tfield Try.prog 31 1 = some (1, 9) := by kernel_rfl
@[go_sem] theorem tfield_31_2 : tfield Try.prog 31 2 = some (2, 3) := by kernel_rfl
@[go_sem] theorem tflat_31 : flatK Try.prog 31 = some [1, 1, 0] := by kernel_rfl
@[go_sem] theorem tplaces_31 : tplaces Try.prog 31 = some [(0, 1), (1, 1), (2, 1)] := by kernel_rfl
@[go_sem] theorem tload_32 : tload Try.prog 32 = some (some 7) := by kernel_rfl
@[go_sem] theorem tsize_32 : tsize Try.prog 32 = some 7 := by kernel_rfl
@[go_sem] theorem tbytes_32 : tbytes Try.prog 32 = some 104 := by kernel_rfl
@[go_sem] theorem tcells_32 : Program.cellsOf Try.prog 32 = 7 := by kernel_rfl
@[go_sem] theorem tz_32 : tz Try.prog 32 = some [.int .i64 0, .slice none 0 0, .slice none 0 0, .int .i64 0, .string ⟨#[]⟩, .string ⟨#[]⟩, .int .i64 0] := by kernel_rfl
@[go_sem] theorem tfield_32_0 : tfield Try.prog 32 0 = some (0, 28) := by kernel_rfl
@[go_sem] theorem tfield_32_1 : tfield Try.prog 32 1 = some (2, 29) := by kernel_rfl
@[go_sem] theorem tfield_32_2 : tfield Try.prog 32 2 = some (3, 3) := by kernel_rfl
@[go_sem] theorem tfield_32_3 : tfield Try.prog 32 3 = some (4, 31) := by kernel_rfl
@[go_sem] theorem tplaces_32 : tplaces Try.prog 32 = some [(0, 2), (2, 1), (3, 1), (4, 3)] := by kernel_rfl
@[go_sem] theorem tload_33 : tload Try.prog 33 = some (some 7) := by kernel_rfl
@[go_sem] theorem tsize_33 : tsize Try.prog 33 = some 7 := by kernel_rfl
@[go_sem] theorem tbytes_33 : tbytes Try.prog 33 = some 104 := by kernel_rfl
@[go_sem] theorem tcells_33 : Program.cellsOf Try.prog 33 = 7 := by kernel_rfl
@[go_sem] theorem tz_33 : tz Try.prog 33 = some [.int .i64 0, .slice none 0 0, .slice none 0 0, .int .i64 0, .string ⟨#[]⟩, .string ⟨#[]⟩, .int .i64 0] := by kernel_rfl
@[go_sem] theorem tfield_33_0 : tfield Try.prog 33 0 = some (0, 28) := by kernel_rfl
@[go_sem] theorem tfield_33_1 : tfield Try.prog 33 1 = some (2, 29) := by kernel_rfl
@[go_sem] theorem tfield_33_2 : tfield Try.prog 33 2 = some (3, 3) := by kernel_rfl
@[go_sem] theorem tfield_33_3 : tfield Try.prog 33 3 = some (4, 31) := by kernel_rfl
@[go_sem] theorem tplaces_33 : tplaces Try.prog 33 = some [(0, 2), (2, 1), (3, 1), (4, 3)] := by kernel_rfl
@[go_sem] theorem tload_53 : tload Try.prog 53 = some (some 4) := by kernel_rfl
@[go_sem] theorem tsize_53 : tsize Try.prog 53 = some 4 := by kernel_rfl
@[go_sem] theorem tbytes_53 : tbytes Try.prog 53 = some 32 := by kernel_rfl
@[go_sem] theorem tcells_53 : Program.cellsOf Try.prog 53 = 4 := by kernel_rfl
@[go_sem] theorem tz_53 : tz Try.prog 53 = some [.int .i64 0, .int .i64 0, .int .i64 0, .int .i64 0] := by kernel_rfl
@[go_sem] theorem tfield_53_0 : tfield Try.prog 53 0 = some (0, 3) := by kernel_rfl
@[go_sem] theorem tfield_53_1 : tfield Try.prog 53 1 = some (1, 3) := by kernel_rfl
@[go_sem] theorem tfield_53_2 : tfield Try.prog 53 2 = some (2, 3) := by kernel_rfl
@[go_sem] theorem tfield_53_3 : tfield Try.prog 53 3 = some (3, 3) := by kernel_rfl
@[go_sem] theorem tplaces_53 : tplaces Try.prog 53 = some [(0, 1), (1, 1), (2, 1), (3, 1)] := by kernel_rfl
@[go_sem] theorem tload_54 : tload Try.prog 54 = some (some 4) := by kernel_rfl
@[go_sem] theorem tsize_54 : tsize Try.prog 54 = some 4 := by kernel_rfl
@[go_sem] theorem tbytes_54 : tbytes Try.prog 54 = some 32 := by kernel_rfl
@[go_sem] theorem tcells_54 : Program.cellsOf Try.prog 54 = 4 := by kernel_rfl
@[go_sem] theorem tz_54 : tz Try.prog 54 = some [.int .i64 0, .int .i64 0, .int .i64 0, .int .i64 0] := by kernel_rfl
@[go_sem] theorem tfield_54_0 : tfield Try.prog 54 0 = some (0, 3) := by kernel_rfl
@[go_sem] theorem tfield_54_1 : tfield Try.prog 54 1 = some (1, 3) := by kernel_rfl
@[go_sem] theorem tfield_54_2 : tfield Try.prog 54 2 = some (2, 3) := by kernel_rfl
@[go_sem] theorem tfield_54_3 : tfield Try.prog 54 3 = some (3, 3) := by kernel_rfl
@[go_sem] theorem tflat_54 : flatK Try.prog 54 = some [0, 0, 0, 0] := by kernel_rfl
@[go_sem] theorem tplaces_54 : tplaces Try.prog 54 = some [(0, 1), (1, 1), (2, 1), (3, 1)] := by kernel_rfl
@[go_sem] theorem tload_56 : tload Try.prog 56 = some (some 4) := by kernel_rfl
@[go_sem] theorem tsize_56 : tsize Try.prog 56 = some 4 := by kernel_rfl
@[go_sem] theorem tbytes_56 : tbytes Try.prog 56 = some 32 := by kernel_rfl
@[go_sem] theorem tcells_56 : Program.cellsOf Try.prog 56 = 4 := by kernel_rfl
@[go_sem] theorem tz_56 : tz Try.prog 56 = some [.int .i64 0, .int .i64 0, .int .i64 0, .int .i64 0] := by kernel_rfl
@[go_sem] theorem tfield_56_0 : tfield Try.prog 56 0 = some (0, 3) := by kernel_rfl
@[go_sem] theorem tfield_56_1 : tfield Try.prog 56 1 = some (1, 3) := by kernel_rfl
@[go_sem] theorem tfield_56_2 : tfield Try.prog 56 2 = some (2, 3) := by kernel_rfl
@[go_sem] theorem tfield_56_3 : tfield Try.prog 56 3 = some (3, 3) := by kernel_rfl
@[go_sem] theorem tflat_56 : flatK Try.prog 56 = some [0, 0, 0, 0] := by kernel_rfl
@[go_sem] theorem tplaces_56 : tplaces Try.prog 56 = some [(0, 1), (1, 1), (2, 1), (3, 1)] := by kernel_rfl
@[go_sem] theorem tload_59 : tload Try.prog 59 = some (some 4) := by kernel_rfl
@[go_sem] theorem tsize_59 : tsize Try.prog 59 = some 4 := by kernel_rfl
@[go_sem] theorem tbytes_59 : tbytes Try.prog 59 = some 32 := by kernel_rfl
@[go_sem] theorem tcells_59 : Program.cellsOf Try.prog 59 = 4 := by kernel_rfl
@[go_sem] theorem tz_59 : tz Try.prog 59 = some [.int .i64 0, .int .i64 0, .int .i64 0, .bool false] := by kernel_rfl
@[go_sem] theorem tfield_59_0 : tfield Try.prog 59 0 = some (0, 3) := by kernel_rfl
@[go_sem] theorem tfield_59_1 : tfield Try.prog 59 1 = some (1, 3) := by kernel_rfl
@[go_sem] theorem tfield_59_2 : tfield Try.prog 59 2 = some (2, 3) := by kernel_rfl
@[go_sem] theorem tfield_59_3 : tfield Try.prog 59 3 = some (3, 4) := by kernel_rfl
@[go_sem] theorem tplaces_59 : tplaces Try.prog 59 = some [(0, 1), (1, 1), (2, 1), (3, 1)] := by kernel_rfl
@[go_sem] theorem tload_60 : tload Try.prog 60 = some (some 4) := by kernel_rfl
@[go_sem] theorem tsize_60 : tsize Try.prog 60 = some 4 := by kernel_rfl
@[go_sem] theorem tbytes_60 : tbytes Try.prog 60 = some 32 := by kernel_rfl
@[go_sem] theorem tcells_60 : Program.cellsOf Try.prog 60 = 4 := by kernel_rfl
@[go_sem] theorem tz_60 : tz Try.prog 60 = some [.int .i64 0, .int .i64 0, .int .i64 0, .bool false] := by kernel_rfl
@[go_sem] theorem tfield_60_0 : tfield Try.prog 60 0 = some (0, 3) := by kernel_rfl
@[go_sem] theorem tfield_60_1 : tfield Try.prog 60 1 = some (1, 3) := by kernel_rfl
@[go_sem] theorem tfield_60_2 : tfield Try.prog 60 2 = some (2, 3) := by kernel_rfl
@[go_sem] theorem tfield_60_3 : tfield Try.prog 60 3 = some (3, 4) := by kernel_rfl
@[go_sem] theorem tflat_60 : flatK Try.prog 60 = some [0, 0, 0, 2] := by kernel_rfl
@[go_sem] theorem tplaces_60 : tplaces Try.prog 60 = some [(0, 1), (1, 1), (2, 1), (3, 1)] := by kernel_rfl
@[go_sem] theorem tload_70 : tload Try.prog 70 = some none := by kernel_rfl
@[go_sem] theorem tsize_70 : tsize Try.prog 70 = some 1 := by kernel_rfl
@[go_sem] theorem tbytes_70 : tbytes Try.prog 70 = some 4 := by kernel_rfl
@[go_sem] theorem tcells_70 : Program.cellsOf Try.prog 70 = 1 := by kernel_rfl
@[go_sem] theorem tz_70 : tz Try.prog 70 = some [.int .u32 0] := by kernel_rfl
@[go_sem] theorem tload_74 : tload Try.prog 74 = some none := by kernel_rfl
@[go_sem] theorem tsize_74 : tsize Try.prog 74 = some 1 := by kernel_rfl
@[go_sem] theorem tbytes_74 : tbytes Try.prog 74 = some 8 := by kernel_rfl
@[go_sem] theorem tcells_74 : Program.cellsOf Try.prog 74 = 1 := by kernel_rfl
@[go_sem] theorem tz_74 : tz Try.prog 74 = some [.pointer none] := by kernel_rfl
attribute [go_sem] Try.underlying2
attribute [go_sem] Try.underlying3
attribute [go_sem] Try.underlying4
attribute [go_sem] Try.underlying5
attribute [go_sem] Try.underlying9
attribute [go_sem] Try.underlying12
attribute [go_sem] Try.underlying21
attribute [go_sem] Try.underlying70
end Go.Proofs.Ytedidddimikjhaa
