/- What the seat's types are: sizes, zero values, places of fields. No condition. -/
import Derived.Test.YtedidddimikjhaaDoorProg
import Derived.KernelRfl
import Derived.Test.YtedidddimikjhaaDoorH3
namespace Go.Proofs.YtedidddimikjhaaDoor
open Go.HH
set_option linter.unusedSimpArgs false
set_option linter.unusedVariables false
theorem mo : Tryd.prog.follows .mixedOrders = true := by kernel_rfl
theorem wrap64 {n : Int} (h : -9223372036854775808 ≤ n ∧ n ≤ 9223372036854775807) : IntKind.i64.wrap n = n := IntWalk.i64_in n h
theorem decb {p : Prop} [Decidable p] (h : p) : decide p = true := decide_eq_true h
theorem dect {p : Prop} [Decidable p] (h : ¬ p) : decide p = false := decide_eq_false h
@[go_sem] theorem tload_2 : tload Tryd.prog 2 = some none := by kernel_rfl
@[go_sem] theorem tsize_2 : tsize Tryd.prog 2 = some 1 := by kernel_rfl
@[go_sem] theorem tbytes_2 : tbytes Tryd.prog 2 = some 8 := by kernel_rfl
@[go_sem] theorem tcells_2 : Program.cellsOf Tryd.prog 2 = 1 := by kernel_rfl
@[go_sem] theorem tz_2 : tz Tryd.prog 2 = some [.int .i64 0] := by kernel_rfl
@[go_sem] theorem tload_3 : tload Tryd.prog 3 = some none := by kernel_rfl
@[go_sem] theorem tsize_3 : tsize Tryd.prog 3 = some 1 := by kernel_rfl
@[go_sem] theorem tbytes_3 : tbytes Tryd.prog 3 = some 8 := by kernel_rfl
@[go_sem] theorem tcells_3 : Program.cellsOf Tryd.prog 3 = 1 := by kernel_rfl
@[go_sem] theorem tz_3 : tz Tryd.prog 3 = some [.int .i64 0] := by kernel_rfl
@[go_sem] theorem tload_4 : tload Tryd.prog 4 = some none := by kernel_rfl
@[go_sem] theorem tsize_4 : tsize Tryd.prog 4 = some 1 := by kernel_rfl
@[go_sem] theorem tbytes_4 : tbytes Tryd.prog 4 = some 1 := by kernel_rfl
@[go_sem] theorem tcells_4 : Program.cellsOf Tryd.prog 4 = 1 := by kernel_rfl
@[go_sem] theorem tz_4 : tz Tryd.prog 4 = some [.bool false] := by kernel_rfl
@[go_sem] theorem tload_5 : tload Tryd.prog 5 = some none := by kernel_rfl
@[go_sem] theorem tsize_5 : tsize Tryd.prog 5 = some 1 := by kernel_rfl
@[go_sem] theorem tbytes_5 : tbytes Tryd.prog 5 = some 1 := by kernel_rfl
@[go_sem] theorem tcells_5 : Program.cellsOf Tryd.prog 5 = 1 := by kernel_rfl
@[go_sem] theorem tz_5 : tz Tryd.prog 5 = some [.int .u8 0] := by kernel_rfl
@[go_sem] theorem tload_9 : tload Tryd.prog 9 = some none := by kernel_rfl
@[go_sem] theorem tsize_9 : tsize Tryd.prog 9 = some 1 := by kernel_rfl
@[go_sem] theorem tbytes_9 : tbytes Tryd.prog 9 = some 16 := by kernel_rfl
@[go_sem] theorem tcells_9 : Program.cellsOf Tryd.prog 9 = 1 := by kernel_rfl
@[go_sem] theorem tz_9 : tz Tryd.prog 9 = some [.string ⟨#[]⟩] := by kernel_rfl
@[go_sem] theorem tload_12 : tload Tryd.prog 12 = some none := by kernel_rfl
@[go_sem] theorem tsize_12 : tsize Tryd.prog 12 = some 1 := by kernel_rfl
@[go_sem] theorem tbytes_12 : tbytes Tryd.prog 12 = some 8 := by kernel_rfl
@[go_sem] theorem tcells_12 : Program.cellsOf Tryd.prog 12 = 1 := by kernel_rfl
@[go_sem] theorem tz_12 : tz Tryd.prog 12 = some [.int .u64 0] := by kernel_rfl
@[go_sem] theorem tload_13 : tload Tryd.prog 13 = some (some 2) := by kernel_rfl
@[go_sem] theorem tsize_13 : tsize Tryd.prog 13 = some 2 := by kernel_rfl
@[go_sem] theorem tbytes_13 : tbytes Tryd.prog 13 = some 24 := by kernel_rfl
@[go_sem] theorem tcells_13 : Program.cellsOf Tryd.prog 13 = 2 := by kernel_rfl
@[go_sem] theorem tz_13 : tz Tryd.prog 13 = some [.string ⟨#[]⟩, .int .u64 0] := by kernel_rfl
@[go_sem] theorem tfield_13_0 : tfield Tryd.prog 13 0 = some (0, 9) := by kernel_rfl
@[go_sem] theorem tfield_13_1 : tfield Tryd.prog 13 1 = some (1, 12) := by kernel_rfl
@[go_sem] theorem tplaces_13 : tplaces Tryd.prog 13 = some [(0, 1), (1, 1)] := by kernel_rfl
@[go_sem] theorem tload_21 : tload Tryd.prog 21 = some none := by kernel_rfl
@[go_sem] theorem tsize_21 : tsize Tryd.prog 21 = some 1 := by kernel_rfl
@[go_sem] theorem tbytes_21 : tbytes Tryd.prog 21 = some 4 := by kernel_rfl
@[go_sem] theorem tcells_21 : Program.cellsOf Tryd.prog 21 = 1 := by kernel_rfl
@[go_sem] theorem tz_21 : tz Tryd.prog 21 = some [.int .i32 0] := by kernel_rfl
@[go_sem] theorem tload_22 : tload Tryd.prog 22 = some none := by kernel_rfl
@[go_sem] theorem tsize_22 : tsize Tryd.prog 22 = some 1 := by kernel_rfl
@[go_sem] theorem tbytes_22 : tbytes Tryd.prog 22 = some 24 := by kernel_rfl
@[go_sem] theorem tcells_22 : Program.cellsOf Tryd.prog 22 = 1 := by kernel_rfl
@[go_sem] theorem tz_22 : tz Tryd.prog 22 = some [.slice none 0 0] := by kernel_rfl
@[go_sem] theorem telem_22 : telem Tryd.prog 22 = some (4, 82) := by kernel_rfl
@[go_sem] theorem tapp_22 : tapp Tryd.prog 22 = some (4, 32) := by kernel_rfl
@[go_sem] theorem tload_23 : tload Tryd.prog 23 = some (some 2) := by kernel_rfl
@[go_sem] theorem tsize_23 : tsize Tryd.prog 23 = some 2 := by kernel_rfl
@[go_sem] theorem tbytes_23 : tbytes Tryd.prog 23 = some 32 := by kernel_rfl
@[go_sem] theorem tcells_23 : Program.cellsOf Tryd.prog 23 = 2 := by kernel_rfl
@[go_sem] theorem tz_23 : tz Tryd.prog 23 = some [.int .i64 0, .slice none 0 0] := by kernel_rfl
@[go_sem] theorem tfield_23_0 : tfield Tryd.prog 23 0 = some (0, 3) := by kernel_rfl
@[go_sem] theorem tfield_23_1 : tfield Tryd.prog 23 1 = some (1, 22) := by kernel_rfl
@[go_sem] theorem tplaces_23 : tplaces Tryd.prog 23 = some [(0, 1), (1, 1)] := by kernel_rfl
@[go_sem] theorem tload_24 : tload Tryd.prog 24 = some (some 2) := by kernel_rfl
@[go_sem] theorem tsize_24 : tsize Tryd.prog 24 = some 2 := by kernel_rfl
@[go_sem] theorem tbytes_24 : tbytes Tryd.prog 24 = some 32 := by kernel_rfl
@[go_sem] theorem tcells_24 : Program.cellsOf Tryd.prog 24 = 2 := by kernel_rfl
@[go_sem] theorem tz_24 : tz Tryd.prog 24 = some [.int .i64 0, .slice none 0 0] := by kernel_rfl
@[go_sem] theorem tfield_24_0 : tfield Tryd.prog 24 0 = some (0, 3) := by kernel_rfl
@[go_sem] theorem tfield_24_1 : tfield Tryd.prog 24 1 = some (1, 22) := by kernel_rfl
@[go_sem] theorem tplaces_24 : tplaces Tryd.prog 24 = some [(0, 1), (1, 1)] := by kernel_rfl
@[go_sem] theorem tload_25 : tload Tryd.prog 25 = some none := by kernel_rfl
@[go_sem] theorem tsize_25 : tsize Tryd.prog 25 = some 1 := by kernel_rfl
@[go_sem] theorem tbytes_25 : tbytes Tryd.prog 25 = some 24 := by kernel_rfl
@[go_sem] theorem tcells_25 : Program.cellsOf Tryd.prog 25 = 1 := by kernel_rfl
@[go_sem] theorem tz_25 : tz Tryd.prog 25 = some [.slice none 0 0] := by kernel_rfl
@[go_sem] theorem telem_25 : telem Tryd.prog 25 = some (4, 64) := by kernel_rfl
@[go_sem] theorem tapp_25 : tapp Tryd.prog 25 = some (4, 32) := by kernel_rfl
@[go_sem] theorem tload_26 : tload Tryd.prog 26 = some (some 3) := by kernel_rfl
@[go_sem] theorem tsize_26 : tsize Tryd.prog 26 = some 3 := by kernel_rfl
@[go_sem] theorem tbytes_26 : tbytes Tryd.prog 26 = some 40 := by kernel_rfl
@[go_sem] theorem tcells_26 : Program.cellsOf Tryd.prog 26 = 3 := by kernel_rfl
@[go_sem] theorem tz_26 : tz Tryd.prog 26 = some [.string ⟨#[]⟩, .string ⟨#[]⟩, .int .i64 0] := by kernel_rfl
@[go_sem] theorem tfield_26_0 : tfield Tryd.prog 26 0 = some (0, 9) := by kernel_rfl
@[go_sem] theorem tfield_26_1 : tfield Tryd.prog 26 1 = some (1, 9) := by kernel_rfl
@[go_sem] theorem tfield_26_2 : tfield Tryd.prog 26 2 = some (2, 3) := by kernel_rfl
@[go_sem] theorem tplaces_26 : tplaces Tryd.prog 26 = some [(0, 1), (1, 1), (2, 1)] := by kernel_rfl
@[go_sem] theorem tload_27 : tload Tryd.prog 27 = some (some 3) := by kernel_rfl
@[go_sem] theorem tsize_27 : tsize Tryd.prog 27 = some 3 := by kernel_rfl
@[go_sem] theorem tbytes_27 : tbytes Tryd.prog 27 = some 40 := by kernel_rfl
@[go_sem] theorem tcells_27 : Program.cellsOf Tryd.prog 27 = 3 := by kernel_rfl
@[go_sem] theorem tz_27 : tz Tryd.prog 27 = some [.string ⟨#[]⟩, .string ⟨#[]⟩, .int .i64 0] := by kernel_rfl
@[go_sem] theorem tfield_27_0 : tfield Tryd.prog 27 0 = some (0, 9) := by kernel_rfl
@[go_sem] theorem tfield_27_1 : tfield Tryd.prog 27 1 = some (1, 9) := by kernel_rfl
@[go_sem] theorem tfield_27_2 : tfield Tryd.prog 27 2 = some (2, 3) := by kernel_rfl
@[go_sem] theorem tflat_27 : flatK Tryd.prog 27 = some [1, 1, 0] := by kernel_rfl
@[go_sem] theorem tplaces_27 : tplaces Tryd.prog 27 = some [(0, 1), (1, 1), (2, 1)] := by kernel_rfl
@[go_sem] theorem tload_28 : tload Tryd.prog 28 = some (some 7) := by kernel_rfl
@[go_sem] theorem tsize_28 : tsize Tryd.prog 28 = some 7 := by kernel_rfl
@[go_sem] theorem tbytes_28 : tbytes Tryd.prog 28 = some 104 := by kernel_rfl
@[go_sem] theorem tcells_28 : Program.cellsOf Tryd.prog 28 = 7 := by kernel_rfl
@[go_sem] theorem tz_28 : tz Tryd.prog 28 = some [.int .i64 0, .slice none 0 0, .slice none 0 0, .int .i64 0, .string ⟨#[]⟩, .string ⟨#[]⟩, .int .i64 0] := by kernel_rfl
@[go_sem] theorem tfield_28_0 : tfield Tryd.prog 28 0 = some (0, 24) := by kernel_rfl
@[go_sem] theorem tfield_28_1 : tfield Tryd.prog 28 1 = some (2, 25) := by kernel_rfl
@[go_sem] theorem tfield_28_2 : tfield Tryd.prog 28 2 = some (3, 3) := by kernel_rfl
@[go_sem] theorem tfield_28_3 : tfield Tryd.prog 28 3 = some (4, 27) := by kernel_rfl
@[go_sem] theorem tplaces_28 : tplaces Tryd.prog 28 = some [(0, 2), (2, 1), (3, 1), (4, 3)] := by kernel_rfl
@[go_sem] theorem tload_29 : tload Tryd.prog 29 = some (some 7) := by kernel_rfl
@[go_sem] theorem tsize_29 : tsize Tryd.prog 29 = some 7 := by kernel_rfl
@[go_sem] theorem tbytes_29 : tbytes Tryd.prog 29 = some 104 := by kernel_rfl
@[go_sem] theorem tcells_29 : Program.cellsOf Tryd.prog 29 = 7 := by kernel_rfl
@[go_sem] theorem tz_29 : tz Tryd.prog 29 = some [.int .i64 0, .slice none 0 0, .slice none 0 0, .int .i64 0, .string ⟨#[]⟩, .string ⟨#[]⟩, .int .i64 0] := by kernel_rfl
@[go_sem] theorem tfield_29_0 : tfield Tryd.prog 29 0 = some (0, 24) := by kernel_rfl
@[go_sem] theorem tfield_29_1 : tfield Tryd.prog 29 1 = some (2, 25) := by kernel_rfl
@[go_sem] theorem tfield_29_2 : tfield Tryd.prog 29 2 = some (3, 3) := by kernel_rfl
@[go_sem] theorem tfield_29_3 : tfield Tryd.prog 29 3 = some (4, 27) := by kernel_rfl
@[go_sem] theorem tplaces_29 : tplaces Tryd.prog 29 = some [(0, 2), (2, 1), (3, 1), (4, 3)] := by kernel_rfl
@[go_sem] theorem tload_32 : tload Tryd.prog 32 = some none := by kernel_rfl
@[go_sem] theorem tsize_32 : tsize Tryd.prog 32 = some 1 := by kernel_rfl
@[go_sem] theorem tbytes_32 : tbytes Tryd.prog 32 = some 24 := by kernel_rfl
@[go_sem] theorem tcells_32 : Program.cellsOf Tryd.prog 32 = 1 := by kernel_rfl
@[go_sem] theorem tz_32 : tz Tryd.prog 32 = some [.slice none 0 0] := by kernel_rfl
@[go_sem] theorem telem_32 : telem Tryd.prog 32 = some (4, 69) := by kernel_rfl
@[go_sem] theorem tapp_32 : tapp Tryd.prog 32 = some (4, 32) := by kernel_rfl
@[go_sem] theorem tload_33 : tload Tryd.prog 33 = some (some 2) := by kernel_rfl
@[go_sem] theorem tsize_33 : tsize Tryd.prog 33 = some 2 := by kernel_rfl
@[go_sem] theorem tbytes_33 : tbytes Tryd.prog 33 = some 32 := by kernel_rfl
@[go_sem] theorem tcells_33 : Program.cellsOf Tryd.prog 33 = 2 := by kernel_rfl
@[go_sem] theorem tz_33 : tz Tryd.prog 33 = some [.int .i64 0, .slice none 0 0] := by kernel_rfl
@[go_sem] theorem tfield_33_0 : tfield Tryd.prog 33 0 = some (0, 3) := by kernel_rfl
@[go_sem] theorem tfield_33_1 : tfield Tryd.prog 33 1 = some (1, 32) := by kernel_rfl
@[go_sem] theorem tplaces_33 : tplaces Tryd.prog 33 = some [(0, 1), (1, 1)] := by kernel_rfl
@[go_sem] theorem tload_34 : tload Tryd.prog 34 = some (some 2) := by kernel_rfl
@[go_sem] theorem tsize_34 : tsize Tryd.prog 34 = some 2 := by kernel_rfl
@[go_sem] theorem tbytes_34 : tbytes Tryd.prog 34 = some 32 := by kernel_rfl
@[go_sem] theorem tcells_34 : Program.cellsOf Tryd.prog 34 = 2 := by kernel_rfl
@[go_sem] theorem tz_34 : tz Tryd.prog 34 = some [.int .i64 0, .slice none 0 0] := by kernel_rfl
@[go_sem] theorem tfield_34_0 : tfield Tryd.prog 34 0 = some (0, 3) := by kernel_rfl
@[go_sem] theorem tfield_34_1 : tfield Tryd.prog 34 1 = some (1, 32) := by kernel_rfl
@[go_sem] theorem tplaces_34 : tplaces Tryd.prog 34 = some [(0, 1), (1, 1)] := by kernel_rfl
@[go_sem] theorem tload_35 : tload Tryd.prog 35 = some none := by kernel_rfl
@[go_sem] theorem tsize_35 : tsize Tryd.prog 35 = some 1 := by kernel_rfl
@[go_sem] theorem tbytes_35 : tbytes Tryd.prog 35 = some 24 := by kernel_rfl
@[go_sem] theorem tcells_35 : Program.cellsOf Tryd.prog 35 = 1 := by kernel_rfl
@[go_sem] theorem tz_35 : tz Tryd.prog 35 = some [.slice none 0 0] := by kernel_rfl
@[go_sem] theorem telem_35 : telem Tryd.prog 35 = some (4, 58) := by kernel_rfl
@[go_sem] theorem tapp_35 : tapp Tryd.prog 35 = some (4, 32) := by kernel_rfl
@[go_sem] theorem tload_36 : tload Tryd.prog 36 = some (some 3) := by kernel_rfl
@[go_sem] theorem tsize_36 : tsize Tryd.prog 36 = some 3 := by kernel_rfl
@[go_sem] theorem tbytes_36 : tbytes Tryd.prog 36 = some 40 := by kernel_rfl
@[go_sem] theorem tcells_36 : Program.cellsOf Tryd.prog 36 = 3 := by kernel_rfl
@[go_sem] theorem tz_36 : tz Tryd.prog 36 = some [.string ⟨#[]⟩, .string ⟨#[]⟩, .int .i64 0] := by kernel_rfl
@[go_sem] theorem tfield_36_0 : tfield Tryd.prog 36 0 = some (0, 9) := by kernel_rfl
@[go_sem] theorem tfield_36_1 : tfield Tryd.prog 36 1 = some (1, 9) := by kernel_rfl
@[go_sem] theorem tfield_36_2 : tfield Tryd.prog 36 2 = some (2, 3) := by kernel_rfl
@[go_sem] theorem tflat_36 : flatK Tryd.prog 36 = some [1, 1, 0] := by kernel_rfl
@[go_sem] theorem tplaces_36 : tplaces Tryd.prog 36 = some [(0, 1), (1, 1), (2, 1)] := by kernel_rfl
@[go_sem] theorem tload_37 : tload Tryd.prog 37 = some (some 7) := by kernel_rfl
@[go_sem] theorem tsize_37 : tsize Tryd.prog 37 = some 7 := by kernel_rfl
@[go_sem] theorem tbytes_37 : tbytes Tryd.prog 37 = some 104 := by kernel_rfl
@[go_sem] theorem tcells_37 : Program.cellsOf Tryd.prog 37 = 7 := by kernel_rfl
@[go_sem] theorem tz_37 : tz Tryd.prog 37 = some [.int .i64 0, .slice none 0 0, .slice none 0 0, .int .i64 0, .string ⟨#[]⟩, .string ⟨#[]⟩, .int .i64 0] := by kernel_rfl
@[go_sem] theorem tfield_37_0 : tfield Tryd.prog 37 0 = some (0, 34) := by kernel_rfl
@[go_sem] theorem tfield_37_1 : tfield Tryd.prog 37 1 = some (2, 35) := by kernel_rfl
@[go_sem] theorem tfield_37_2 : tfield Tryd.prog 37 2 = some (3, 3) := by kernel_rfl
@[go_sem] theorem tfield_37_3 : tfield Tryd.prog 37 3 = some (4, 36) := by kernel_rfl
@[go_sem] theorem tplaces_37 : tplaces Tryd.prog 37 = some [(0, 2), (2, 1), (3, 1), (4, 3)] := by kernel_rfl
@[go_sem] theorem tload_38 : tload Tryd.prog 38 = some (some 7) := by kernel_rfl
@[go_sem] theorem tsize_38 : tsize Tryd.prog 38 = some 7 := by kernel_rfl
@[go_sem] theorem tbytes_38 : tbytes Tryd.prog 38 = some 104 := by kernel_rfl
@[go_sem] theorem tcells_38 : Program.cellsOf Tryd.prog 38 = 7 := by kernel_rfl
@[go_sem] theorem tz_38 : tz Tryd.prog 38 = some [.int .i64 0, .slice none 0 0, .slice none 0 0, .int .i64 0, .string ⟨#[]⟩, .string ⟨#[]⟩, .int .i64 0] := by kernel_rfl
@[go_sem] theorem tfield_38_0 : tfield Tryd.prog 38 0 = some (0, 34) := by kernel_rfl
@[go_sem] theorem tfield_38_1 : tfield Tryd.prog 38 1 = some (2, 35) := by kernel_rfl
@[go_sem] theorem tfield_38_2 : tfield Tryd.prog 38 2 = some (3, 3) := by kernel_rfl
@[go_sem] theorem tfield_38_3 : tfield Tryd.prog 38 3 = some (4, 36) := by kernel_rfl
@[go_sem] theorem tplaces_38 : tplaces Tryd.prog 38 = some [(0, 2), (2, 1), (3, 1), (4, 3)] := by kernel_rfl
@[go_sem] theorem tload_57 : tload Tryd.prog 57 = some (some 4) := by kernel_rfl
@[go_sem] theorem tsize_57 : tsize Tryd.prog 57 = some 4 := by kernel_rfl
@[go_sem] theorem tbytes_57 : tbytes Tryd.prog 57 = some 32 := by kernel_rfl
@[go_sem] theorem tcells_57 : Program.cellsOf Tryd.prog 57 = 4 := by kernel_rfl
@[go_sem] theorem tz_57 : tz Tryd.prog 57 = some [.int .i64 0, .int .i64 0, .int .i64 0, .bool false] := by kernel_rfl
@[go_sem] theorem tfield_57_0 : tfield Tryd.prog 57 0 = some (0, 3) := by kernel_rfl
@[go_sem] theorem tfield_57_1 : tfield Tryd.prog 57 1 = some (1, 3) := by kernel_rfl
@[go_sem] theorem tfield_57_2 : tfield Tryd.prog 57 2 = some (2, 3) := by kernel_rfl
@[go_sem] theorem tfield_57_3 : tfield Tryd.prog 57 3 = some (3, 4) := by kernel_rfl
@[go_sem] theorem tplaces_57 : tplaces Tryd.prog 57 = some [(0, 1), (1, 1), (2, 1), (3, 1)] := by kernel_rfl
@[go_sem] theorem tload_58 : tload Tryd.prog 58 = some (some 4) := by kernel_rfl
@[go_sem] theorem tsize_58 : tsize Tryd.prog 58 = some 4 := by kernel_rfl
@[go_sem] theorem tbytes_58 : tbytes Tryd.prog 58 = some 32 := by kernel_rfl
@[go_sem] theorem tcells_58 : Program.cellsOf Tryd.prog 58 = 4 := by kernel_rfl
@[go_sem] theorem tz_58 : tz Tryd.prog 58 = some [.int .i64 0, .int .i64 0, .int .i64 0, .bool false] := by kernel_rfl
@[go_sem] theorem tfield_58_0 : tfield Tryd.prog 58 0 = some (0, 3) := by kernel_rfl
@[go_sem] theorem tfield_58_1 : tfield Tryd.prog 58 1 = some (1, 3) := by kernel_rfl
@[go_sem] theorem tfield_58_2 : tfield Tryd.prog 58 2 = some (2, 3) := by kernel_rfl
@[go_sem] theorem tfield_58_3 : tfield Tryd.prog 58 3 = some (3, 4) := by kernel_rfl
@[go_sem] theorem tflat_58 : flatK Tryd.prog 58 = some [0, 0, 0, 2] := by kernel_rfl
@[go_sem] theorem tplaces_58 : tplaces Tryd.prog 58 = some [(0, 1), (1, 1), (2, 1), (3, 1)] := by kernel_rfl
@[go_sem] theorem tload_64 : tload Tryd.prog 64 = some (some 4) := by kernel_rfl
@[go_sem] theorem tsize_64 : tsize Tryd.prog 64 = some 4 := by kernel_rfl
@[go_sem] theorem tbytes_64 : tbytes Tryd.prog 64 = some 32 := by kernel_rfl
@[go_sem] theorem tcells_64 : Program.cellsOf Tryd.prog 64 = 4 := by kernel_rfl
@[go_sem] theorem tz_64 : tz Tryd.prog 64 = some [.int .i64 0, .int .i64 0, .int .i64 0, .bool false] := by kernel_rfl
@[go_sem] theorem tfield_64_0 : tfield Tryd.prog 64 0 = some (0, 3) := by kernel_rfl
@[go_sem] theorem tfield_64_1 : tfield Tryd.prog 64 1 = some (1, 3) := by kernel_rfl
@[go_sem] theorem tfield_64_2 : tfield Tryd.prog 64 2 = some (2, 3) := by kernel_rfl
@[go_sem] theorem tfield_64_3 : tfield Tryd.prog 64 3 = some (3, 4) := by kernel_rfl
@[go_sem] theorem tflat_64 : flatK Tryd.prog 64 = some [0, 0, 0, 2] := by kernel_rfl
@[go_sem] theorem tplaces_64 : tplaces Tryd.prog 64 = some [(0, 1), (1, 1), (2, 1), (3, 1)] := by kernel_rfl
@[go_sem] theorem tload_68 : tload Tryd.prog 68 = some (some 4) := by kernel_rfl
@[go_sem] theorem tsize_68 : tsize Tryd.prog 68 = some 4 := by kernel_rfl
@[go_sem] theorem tbytes_68 : tbytes Tryd.prog 68 = some 32 := by kernel_rfl
@[go_sem] theorem tcells_68 : Program.cellsOf Tryd.prog 68 = 4 := by kernel_rfl
@[go_sem] theorem tz_68 : tz Tryd.prog 68 = some [.int .i64 0, .int .i64 0, .int .i64 0, .int .i64 0] := by kernel_rfl
@[go_sem] theorem tfield_68_0 : tfield Tryd.prog 68 0 = some (0, 3) := by kernel_rfl
@[go_sem] theorem tfield_68_1 : tfield Tryd.prog 68 1 = some (1, 3) := by kernel_rfl
@[go_sem] theorem tfield_68_2 : tfield Tryd.prog 68 2 = some (2, 3) := by kernel_rfl
@[go_sem] theorem tfield_68_3 : tfield Tryd.prog 68 3 = some (3, 3) := by kernel_rfl
@[go_sem] theorem tplaces_68 : tplaces Tryd.prog 68 = some [(0, 1), (1, 1), (2, 1), (3, 1)] := by kernel_rfl
@[go_sem] theorem tload_69 : tload Tryd.prog 69 = some (some 4) := by kernel_rfl
@[go_sem] theorem tsize_69 : tsize Tryd.prog 69 = some 4 := by kernel_rfl
@[go_sem] theorem tbytes_69 : tbytes Tryd.prog 69 = some 32 := by kernel_rfl
@[go_sem] theorem tcells_69 : Program.cellsOf Tryd.prog 69 = 4 := by kernel_rfl
@[go_sem] theorem tz_69 : tz Tryd.prog 69 = some [.int .i64 0, .int .i64 0, .int .i64 0, .int .i64 0] := by kernel_rfl
@[go_sem] theorem tfield_69_0 : tfield Tryd.prog 69 0 = some (0, 3) := by kernel_rfl
@[go_sem] theorem tfield_69_1 : tfield Tryd.prog 69 1 = some (1, 3) := by kernel_rfl
@[go_sem] theorem tfield_69_2 : tfield Tryd.prog 69 2 = some (2, 3) := by kernel_rfl
@[go_sem] theorem tfield_69_3 : tfield Tryd.prog 69 3 = some (3, 3) := by kernel_rfl
@[go_sem] theorem tflat_69 : flatK Tryd.prog 69 = some [0, 0, 0, 0] := by kernel_rfl
@[go_sem] theorem tplaces_69 : tplaces Tryd.prog 69 = some [(0, 1), (1, 1), (2, 1), (3, 1)] := by kernel_rfl
@[go_sem] theorem tload_73 : tload Tryd.prog 73 = some none := by kernel_rfl
@[go_sem] theorem tsize_73 : tsize Tryd.prog 73 = some 1 := by kernel_rfl
@[go_sem] theorem tbytes_73 : tbytes Tryd.prog 73 = some 24 := by kernel_rfl
@[go_sem] theorem tcells_73 : Program.cellsOf Tryd.prog 73 = 1 := by kernel_rfl
@[go_sem] theorem tz_73 : tz Tryd.prog 73 = some [.slice none 0 0] := by kernel_rfl
@[go_sem] theorem telem_73 : telem Tryd.prog 73 = some (2, 87) := by kernel_rfl
@[go_sem] theorem tapp_73 : tapp Tryd.prog 73 = some (2, 32) := by kernel_rfl
@[go_sem] theorem tload_74 : tload Tryd.prog 74 = some none := by kernel_rfl
@[go_sem] theorem tsize_74 : tsize Tryd.prog 74 = some 1 := by kernel_rfl
@[go_sem] theorem tbytes_74 : tbytes Tryd.prog 74 = some 24 := by kernel_rfl
@[go_sem] theorem tcells_74 : Program.cellsOf Tryd.prog 74 = 1 := by kernel_rfl
@[go_sem] theorem tz_74 : tz Tryd.prog 74 = some [.slice none 0 0] := by kernel_rfl
@[go_sem] theorem telem_74 : telem Tryd.prog 74 = some (1, 3) := by kernel_rfl
@[go_sem] theorem tapp_74 : tapp Tryd.prog 74 = some (1, 8) := by kernel_rfl
@[go_sem] theorem tload_82 : tload Tryd.prog 82 = some (some 4) := by kernel_rfl
@[go_sem] theorem tsize_82 : tsize Tryd.prog 82 = some 4 := by kernel_rfl
@[go_sem] theorem tbytes_82 : tbytes Tryd.prog 82 = some 32 := by kernel_rfl
@[go_sem] theorem tcells_82 : Program.cellsOf Tryd.prog 82 = 4 := by kernel_rfl
@[go_sem] theorem tz_82 : tz Tryd.prog 82 = some [.int .i64 0, .int .i64 0, .int .i64 0, .int .i64 0] := by kernel_rfl
@[go_sem] theorem tfield_82_0 : tfield Tryd.prog 82 0 = some (0, 3) := by kernel_rfl
@[go_sem] theorem tfield_82_1 : tfield Tryd.prog 82 1 = some (1, 3) := by kernel_rfl
@[go_sem] theorem tfield_82_2 : tfield Tryd.prog 82 2 = some (2, 3) := by kernel_rfl
@[go_sem] theorem tfield_82_3 : tfield Tryd.prog 82 3 = some (3, 3) := by kernel_rfl
@[go_sem] theorem tflat_82 : flatK Tryd.prog 82 = some [0, 0, 0, 0] := by kernel_rfl
@[go_sem] theorem tplaces_82 : tplaces Tryd.prog 82 = some [(0, 1), (1, 1), (2, 1), (3, 1)] := by kernel_rfl
@[go_sem] theorem tload_86 : tload Tryd.prog 86 = some (some 2) := by kernel_rfl
@[go_sem] theorem tsize_86 : tsize Tryd.prog 86 = some 2 := by kernel_rfl
@[go_sem] theorem tbytes_86 : tbytes Tryd.prog 86 = some 32 := by kernel_rfl
@[go_sem] theorem tcells_86 : Program.cellsOf Tryd.prog 86 = 2 := by kernel_rfl
@[go_sem] theorem tz_86 : tz Tryd.prog 86 = some [.string ⟨#[]⟩, .string ⟨#[]⟩] := by kernel_rfl
@[go_sem] theorem tfield_86_0 : tfield Tryd.prog 86 0 = some (0, 9) := by kernel_rfl
@[go_sem] theorem tfield_86_1 : tfield Tryd.prog 86 1 = some (1, 9) := by kernel_rfl
@[go_sem] theorem tplaces_86 : tplaces Tryd.prog 86 = some [(0, 1), (1, 1)] := by kernel_rfl
@[go_sem] theorem tload_87 : tload Tryd.prog 87 = some (some 2) := by kernel_rfl
@[go_sem] theorem tsize_87 : tsize Tryd.prog 87 = some 2 := by kernel_rfl
@[go_sem] theorem tbytes_87 : tbytes Tryd.prog 87 = some 32 := by kernel_rfl
@[go_sem] theorem tcells_87 : Program.cellsOf Tryd.prog 87 = 2 := by kernel_rfl
@[go_sem] theorem tz_87 : tz Tryd.prog 87 = some [.string ⟨#[]⟩, .string ⟨#[]⟩] := by kernel_rfl
@[go_sem] theorem tfield_87_0 : tfield Tryd.prog 87 0 = some (0, 9) := by kernel_rfl
@[go_sem] theorem tfield_87_1 : tfield Tryd.prog 87 1 = some (1, 9) := by kernel_rfl
@[go_sem] theorem tflat_87 : flatK Tryd.prog 87 = some [1, 1] := by kernel_rfl
@[go_sem] theorem tplaces_87 : tplaces Tryd.prog 87 = some [(0, 1), (1, 1)] := by kernel_rfl
@[go_sem] theorem tload_93 : tload Tryd.prog 93 = some none := by kernel_rfl
@[go_sem] theorem tsize_93 : tsize Tryd.prog 93 = some 1 := by kernel_rfl
@[go_sem] theorem tbytes_93 : tbytes Tryd.prog 93 = some 24 := by kernel_rfl
@[go_sem] theorem tcells_93 : Program.cellsOf Tryd.prog 93 = 1 := by kernel_rfl
@[go_sem] theorem tz_93 : tz Tryd.prog 93 = some [.slice none 0 0] := by kernel_rfl
@[go_sem] theorem telem_93 : telem Tryd.prog 93 = some (1, 9) := by kernel_rfl
@[go_sem] theorem tapp_93 : tapp Tryd.prog 93 = some (1, 16) := by kernel_rfl
@[go_sem] theorem tload_101 : tload Tryd.prog 101 = some (some 24) := by kernel_rfl
@[go_sem] theorem tsize_101 : tsize Tryd.prog 101 = some 24 := by kernel_rfl
@[go_sem] theorem tbytes_101 : tbytes Tryd.prog 101 = some 24 := by kernel_rfl
@[go_sem] theorem tcells_101 : Program.cellsOf Tryd.prog 101 = 24 := by kernel_rfl
@[go_sem] theorem tz_101 : tz Tryd.prog 101 = some [.int .u8 0, .int .u8 0, .int .u8 0, .int .u8 0, .int .u8 0, .int .u8 0, .int .u8 0, .int .u8 0, .int .u8 0, .int .u8 0, .int .u8 0, .int .u8 0, .int .u8 0, .int .u8 0, .int .u8 0, .int .u8 0, .int .u8 0, .int .u8 0, .int .u8 0, .int .u8 0, .int .u8 0, .int .u8 0, .int .u8 0, .int .u8 0] := by kernel_rfl
@[go_sem] theorem tplaces_101 : tplaces Tryd.prog 101 = none := by kernel_rfl
@[go_sem] theorem tarr_101 : tarr Tryd.prog 101 = some (24, 1, 5) := by kernel_rfl
@[go_sem] theorem tload_102 : tload Tryd.prog 102 = some none := by kernel_rfl
@[go_sem] theorem tsize_102 : tsize Tryd.prog 102 = some 1 := by kernel_rfl
@[go_sem] theorem tbytes_102 : tbytes Tryd.prog 102 = some 8 := by kernel_rfl
@[go_sem] theorem tcells_102 : Program.cellsOf Tryd.prog 102 = 1 := by kernel_rfl
@[go_sem] theorem tz_102 : tz Tryd.prog 102 = some [.int .u64 0] := by kernel_rfl
@[go_sem] theorem tload_105 : tload Tryd.prog 105 = some none := by kernel_rfl
@[go_sem] theorem tsize_105 : tsize Tryd.prog 105 = some 1 := by kernel_rfl
@[go_sem] theorem tbytes_105 : tbytes Tryd.prog 105 = some 24 := by kernel_rfl
@[go_sem] theorem tcells_105 : Program.cellsOf Tryd.prog 105 = 1 := by kernel_rfl
@[go_sem] theorem tz_105 : tz Tryd.prog 105 = some [.slice none 0 0] := by kernel_rfl
@[go_sem] theorem telem_105 : telem Tryd.prog 105 = some (1, 5) := by kernel_rfl
@[go_sem] theorem tapp_105 : tapp Tryd.prog 105 = some (1, 1) := by kernel_rfl
@[go_sem] theorem tload_112 : tload Tryd.prog 112 = some (some 20) := by kernel_rfl
@[go_sem] theorem tsize_112 : tsize Tryd.prog 112 = some 20 := by kernel_rfl
@[go_sem] theorem tbytes_112 : tbytes Tryd.prog 112 = some 160 := by kernel_rfl
@[go_sem] theorem tcells_112 : Program.cellsOf Tryd.prog 112 = 20 := by kernel_rfl
@[go_sem] theorem tz_112 : tz Tryd.prog 112 = some [.int .u64 0, .int .u64 0, .int .u64 0, .int .u64 0, .int .u64 0, .int .u64 0, .int .u64 0, .int .u64 0, .int .u64 0, .int .u64 0, .int .u64 0, .int .u64 0, .int .u64 0, .int .u64 0, .int .u64 0, .int .u64 0, .int .u64 0, .int .u64 0, .int .u64 0, .int .u64 0] := by kernel_rfl
@[go_sem] theorem tplaces_112 : tplaces Tryd.prog 112 = none := by kernel_rfl
@[go_sem] theorem tarr_112 : tarr Tryd.prog 112 = some (20, 1, 102) := by kernel_rfl
@[go_sem] theorem tload_113 : tload Tryd.prog 113 = some none := by kernel_rfl
@[go_sem] theorem tsize_113 : tsize Tryd.prog 113 = some 1 := by kernel_rfl
@[go_sem] theorem tbytes_113 : tbytes Tryd.prog 113 = some 4 := by kernel_rfl
@[go_sem] theorem tcells_113 : Program.cellsOf Tryd.prog 113 = 1 := by kernel_rfl
@[go_sem] theorem tz_113 : tz Tryd.prog 113 = some [.int .u32 0] := by kernel_rfl
@[go_sem] theorem tload_114 : tload Tryd.prog 114 = some (some 65) := by kernel_rfl
@[go_sem] theorem tsize_114 : tsize Tryd.prog 114 = some 65 := by kernel_rfl
@[go_sem] theorem tbytes_114 : tbytes Tryd.prog 114 = some 65 := by kernel_rfl
@[go_sem] theorem tcells_114 : Program.cellsOf Tryd.prog 114 = 65 := by kernel_rfl
@[go_sem] theorem tz_114 : tz Tryd.prog 114 = some [.int .u8 0, .int .u8 0, .int .u8 0, .int .u8 0, .int .u8 0, .int .u8 0, .int .u8 0, .int .u8 0, .int .u8 0, .int .u8 0, .int .u8 0, .int .u8 0, .int .u8 0, .int .u8 0, .int .u8 0, .int .u8 0, .int .u8 0, .int .u8 0, .int .u8 0, .int .u8 0, .int .u8 0, .int .u8 0, .int .u8 0, .int .u8 0, .int .u8 0, .int .u8 0, .int .u8 0, .int .u8 0, .int .u8 0, .int .u8 0, .int .u8 0, .int .u8 0, .int .u8 0, .int .u8 0, .int .u8 0, .int .u8 0, .int .u8 0, .int .u8 0, .int .u8 0, .int .u8 0, .int .u8 0, .int .u8 0, .int .u8 0, .int .u8 0, .int .u8 0, .int .u8 0, .int .u8 0, .int .u8 0, .int .u8 0, .int .u8 0, .int .u8 0, .int .u8 0, .int .u8 0, .int .u8 0, .int .u8 0, .int .u8 0, .int .u8 0, .int .u8 0, .int .u8 0, .int .u8 0, .int .u8 0, .int .u8 0, .int .u8 0, .int .u8 0, .int .u8 0] := by kernel_rfl
@[go_sem] theorem tplaces_114 : tplaces Tryd.prog 114 = none := by kernel_rfl
@[go_sem] theorem tarr_114 : tarr Tryd.prog 114 = some (65, 1, 5) := by kernel_rfl
@[go_sem] theorem tload_115 : tload Tryd.prog 115 = some none := by kernel_rfl
@[go_sem] theorem tsize_115 : tsize Tryd.prog 115 = some 1 := by kernel_rfl
@[go_sem] theorem tbytes_115 : tbytes Tryd.prog 115 = some 8 := by kernel_rfl
@[go_sem] theorem tcells_115 : Program.cellsOf Tryd.prog 115 = 1 := by kernel_rfl
@[go_sem] theorem tz_115 : tz Tryd.prog 115 = some [.int .u64 0] := by kernel_rfl
@[go_sem] theorem tload_124 : tload Tryd.prog 124 = some (some 32) := by kernel_rfl
@[go_sem] theorem tsize_124 : tsize Tryd.prog 124 = some 32 := by kernel_rfl
@[go_sem] theorem tbytes_124 : tbytes Tryd.prog 124 = some 32 := by kernel_rfl
@[go_sem] theorem tcells_124 : Program.cellsOf Tryd.prog 124 = 32 := by kernel_rfl
@[go_sem] theorem tz_124 : tz Tryd.prog 124 = some [.int .u8 0, .int .u8 0, .int .u8 0, .int .u8 0, .int .u8 0, .int .u8 0, .int .u8 0, .int .u8 0, .int .u8 0, .int .u8 0, .int .u8 0, .int .u8 0, .int .u8 0, .int .u8 0, .int .u8 0, .int .u8 0, .int .u8 0, .int .u8 0, .int .u8 0, .int .u8 0, .int .u8 0, .int .u8 0, .int .u8 0, .int .u8 0, .int .u8 0, .int .u8 0, .int .u8 0, .int .u8 0, .int .u8 0, .int .u8 0, .int .u8 0, .int .u8 0] := by kernel_rfl
@[go_sem] theorem tplaces_124 : tplaces Tryd.prog 124 = none := by kernel_rfl
@[go_sem] theorem tarr_124 : tarr Tryd.prog 124 = some (32, 1, 5) := by kernel_rfl
@[go_sem] theorem tload_125 : tload Tryd.prog 125 = some (some 64) := by kernel_rfl
@[go_sem] theorem tsize_125 : tsize Tryd.prog 125 = some 64 := by kernel_rfl
@[go_sem] theorem tbytes_125 : tbytes Tryd.prog 125 = some 64 := by kernel_rfl
@[go_sem] theorem tcells_125 : Program.cellsOf Tryd.prog 125 = 64 := by kernel_rfl
@[go_sem] theorem tz_125 : tz Tryd.prog 125 = some [.int .u8 0, .int .u8 0, .int .u8 0, .int .u8 0, .int .u8 0, .int .u8 0, .int .u8 0, .int .u8 0, .int .u8 0, .int .u8 0, .int .u8 0, .int .u8 0, .int .u8 0, .int .u8 0, .int .u8 0, .int .u8 0, .int .u8 0, .int .u8 0, .int .u8 0, .int .u8 0, .int .u8 0, .int .u8 0, .int .u8 0, .int .u8 0, .int .u8 0, .int .u8 0, .int .u8 0, .int .u8 0, .int .u8 0, .int .u8 0, .int .u8 0, .int .u8 0, .int .u8 0, .int .u8 0, .int .u8 0, .int .u8 0, .int .u8 0, .int .u8 0, .int .u8 0, .int .u8 0, .int .u8 0, .int .u8 0, .int .u8 0, .int .u8 0, .int .u8 0, .int .u8 0, .int .u8 0, .int .u8 0, .int .u8 0, .int .u8 0, .int .u8 0, .int .u8 0, .int .u8 0, .int .u8 0, .int .u8 0, .int .u8 0, .int .u8 0, .int .u8 0, .int .u8 0, .int .u8 0, .int .u8 0, .int .u8 0, .int .u8 0, .int .u8 0] := by kernel_rfl
@[go_sem] theorem tplaces_125 : tplaces Tryd.prog 125 = none := by kernel_rfl
@[go_sem] theorem tarr_125 : tarr Tryd.prog 125 = some (64, 1, 5) := by kernel_rfl
@[go_sem] theorem tload_138 : tload Tryd.prog 138 = some none := by kernel_rfl
@[go_sem] theorem tsize_138 : tsize Tryd.prog 138 = some 1 := by kernel_rfl
@[go_sem] theorem tbytes_138 : tbytes Tryd.prog 138 = some 8 := by kernel_rfl
@[go_sem] theorem tcells_138 : Program.cellsOf Tryd.prog 138 = 1 := by kernel_rfl
@[go_sem] theorem tz_138 : tz Tryd.prog 138 = some [.pointer none] := by kernel_rfl
attribute [go_sem] Tryd.underlying2
attribute [go_sem] Tryd.underlying3
attribute [go_sem] Tryd.underlying4
attribute [go_sem] Tryd.underlying5
attribute [go_sem] Tryd.underlying9
attribute [go_sem] Tryd.underlying12
attribute [go_sem] Tryd.underlying21
attribute [go_sem] Tryd.underlying102
attribute [go_sem] Tryd.underlying113
attribute [go_sem] Tryd.underlying115
end Go.Proofs.YtedidddimikjhaaDoor
