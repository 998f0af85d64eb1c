/- What the seat's types are: sizes, zero values, places of fields. No condition. -/
import Derived.Test.YtkogddiefniihaaDoorProg
import Derived.KernelRfl
import Derived.Test.YtkogddiefniihaaDoorH3
namespace Go.Proofs.YtkogddiefniihaaDoor
open Go.HH
set_option linter.unusedSimpArgs false
set_option linter.unusedVariables false
theorem mo : Tryd.prog.follows .mixedOrders = true := by kernel_rfl
theorem wrap64 {n : Int} (h : -9223372036854775808 ≤ n ∧ n ≤ 9223372036854775807) : IntKind.i64.wrap n = n := IntWalk.i64_in n h
theorem decb {p : Prop} [Decidable p] (h : p) : decide p = true := decide_eq_true h
theorem dect {p : Prop} [Decidable p] (h : ¬ p) : decide p = false := decide_eq_false h
@[go_sem] theorem tload_2 : tload Tryd.prog 2 = some none := by kernel_rfl
@[go_sem] theorem tsize_2 : tsize Tryd.prog 2 = some 1 := by kernel_rfl
@[go_sem] theorem tbytes_2 : tbytes Tryd.prog 2 = some 8 := by kernel_rfl
@[go_sem] theorem tcells_2 : Program.cellsOf Tryd.prog 2 = 1 := by kernel_rfl
@[go_sem] theorem tz_2 : tz Tryd.prog 2 = some [.int .i64 0] := by kernel_rfl
@[go_sem] theorem tload_3 : tload Tryd.prog 3 = some none := by kernel_rfl
@[go_sem] theorem tsize_3 : tsize Tryd.prog 3 = some 1 := by kernel_rfl
@[go_sem] theorem tbytes_3 : tbytes Tryd.prog 3 = some 8 := by kernel_rfl
@[go_sem] theorem tcells_3 : Program.cellsOf Tryd.prog 3 = 1 := by kernel_rfl
@[go_sem] theorem tz_3 : tz Tryd.prog 3 = some [.int .i64 0] := by kernel_rfl
@[go_sem] theorem tload_4 : tload Tryd.prog 4 = some none := by kernel_rfl
@[go_sem] theorem tsize_4 : tsize Tryd.prog 4 = some 1 := by kernel_rfl
@[go_sem] theorem tbytes_4 : tbytes Tryd.prog 4 = some 1 := by kernel_rfl
@[go_sem] theorem tcells_4 : Program.cellsOf Tryd.prog 4 = 1 := by kernel_rfl
@[go_sem] theorem tz_4 : tz Tryd.prog 4 = some [.bool false] := by kernel_rfl
@[go_sem] theorem tload_5 : tload Tryd.prog 5 = some none := by kernel_rfl
@[go_sem] theorem tsize_5 : tsize Tryd.prog 5 = some 1 := by kernel_rfl
@[go_sem] theorem tbytes_5 : tbytes Tryd.prog 5 = some 1 := by kernel_rfl
@[go_sem] theorem tcells_5 : Program.cellsOf Tryd.prog 5 = 1 := by kernel_rfl
@[go_sem] theorem tz_5 : tz Tryd.prog 5 = some [.int .u8 0] := by kernel_rfl
@[go_sem] theorem tload_9 : tload Tryd.prog 9 = some none := by kernel_rfl
@[go_sem] theorem tsize_9 : tsize Tryd.prog 9 = some 1 := by kernel_rfl
@[go_sem] theorem tbytes_9 : tbytes Tryd.prog 9 = some 16 := by kernel_rfl
@[go_sem] theorem tcells_9 : Program.cellsOf Tryd.prog 9 = 1 := by kernel_rfl
@[go_sem] theorem tz_9 : tz Tryd.prog 9 = some [.string ⟨#[]⟩] := by kernel_rfl
@[go_sem] theorem tload_12 : tload Tryd.prog 12 = some none := by kernel_rfl
@[go_sem] theorem tsize_12 : tsize Tryd.prog 12 = some 1 := by kernel_rfl
@[go_sem] theorem tbytes_12 : tbytes Tryd.prog 12 = some 8 := by kernel_rfl
@[go_sem] theorem tcells_12 : Program.cellsOf Tryd.prog 12 = 1 := by kernel_rfl
@[go_sem] theorem tz_12 : tz Tryd.prog 12 = some [.int .u64 0] := by kernel_rfl
@[go_sem] theorem tload_13 : tload Tryd.prog 13 = some (some 2) := by kernel_rfl
@[go_sem] theorem tsize_13 : tsize Tryd.prog 13 = some 2 := by kernel_rfl
@[go_sem] theorem tbytes_13 : tbytes Tryd.prog 13 = some 24 := by kernel_rfl
@[go_sem] theorem tcells_13 : Program.cellsOf Tryd.prog 13 = 2 := by kernel_rfl
@[go_sem] theorem tz_13 : tz Tryd.prog 13 = some [.string ⟨#[]⟩, .int .u64 0] := by kernel_rfl
@[go_sem] theorem tfield_13_0 : tfield Tryd.prog 13 0 = some (0, 9) := by kernel_rfl
@[go_sem] theorem tfield_13_1 : tfield Tryd.prog 13 1 = some (1, 12) := by kernel_rfl
@[go_sem] theorem tplaces_13 : tplaces Tryd.prog 13 = some [(0, 1), (1, 1)] := by kernel_rfl
@[go_sem] theorem tload_21 : tload Tryd.prog 21 = some none := by kernel_rfl
@[go_sem] theorem tsize_21 : tsize Tryd.prog 21 = some 1 := by kernel_rfl
@[go_sem] theorem tbytes_21 : tbytes Tryd.prog 21 = some 4 := by kernel_rfl
@[go_sem] theorem tcells_21 : Program.cellsOf Tryd.prog 21 = 1 := by kernel_rfl
@[go_sem] theorem tz_21 : tz Tryd.prog 21 = some [.int .i32 0] := by kernel_rfl
@[go_sem] theorem tload_22 : tload Tryd.prog 22 = some (some 2) := by kernel_rfl
@[go_sem] theorem tsize_22 : tsize Tryd.prog 22 = some 2 := by kernel_rfl
@[go_sem] theorem tbytes_22 : tbytes Tryd.prog 22 = some 32 := by kernel_rfl
@[go_sem] theorem tcells_22 : Program.cellsOf Tryd.prog 22 = 2 := by kernel_rfl
@[go_sem] theorem tz_22 : tz Tryd.prog 22 = some [.string ⟨#[]⟩, .string ⟨#[]⟩] := by kernel_rfl
@[go_sem] theorem tfield_22_0 : tfield Tryd.prog 22 0 = some (0, 9) := by kernel_rfl
@[go_sem] theorem tfield_22_1 : tfield Tryd.prog 22 1 = some (1, 9) := by kernel_rfl
@[go_sem] theorem tplaces_22 : tplaces Tryd.prog 22 = some [(0, 1), (1, 1)] := by kernel_rfl
@[go_sem] theorem tload_23 : tload Tryd.prog 23 = some (some 2) := by kernel_rfl
@[go_sem] theorem tsize_23 : tsize Tryd.prog 23 = some 2 := by kernel_rfl
@[go_sem] theorem tbytes_23 : tbytes Tryd.prog 23 = some 32 := by kernel_rfl
@[go_sem] theorem tcells_23 : Program.cellsOf Tryd.prog 23 = 2 := by kernel_rfl
@[go_sem] theorem tz_23 : tz Tryd.prog 23 = some [.string ⟨#[]⟩, .string ⟨#[]⟩] := by kernel_rfl
@[go_sem] theorem tfield_23_0 : tfield Tryd.prog 23 0 = some (0, 9) := by kernel_rfl
@[go_sem] theorem tfield_23_1 : tfield Tryd.prog 23 1 = some (1, 9) := by kernel_rfl
@[go_sem] theorem tflat_23 : flatK Tryd.prog 23 = some [1, 1] := by kernel_rfl
@[go_sem] theorem tplaces_23 : tplaces Tryd.prog 23 = some [(0, 1), (1, 1)] := by kernel_rfl
@[go_sem] theorem tload_27 : tload Tryd.prog 27 = some (some 2) := by kernel_rfl
@[go_sem] theorem tsize_27 : tsize Tryd.prog 27 = some 2 := by kernel_rfl
@[go_sem] theorem tbytes_27 : tbytes Tryd.prog 27 = some 32 := by kernel_rfl
@[go_sem] theorem tcells_27 : Program.cellsOf Tryd.prog 27 = 2 := by kernel_rfl
@[go_sem] theorem tz_27 : tz Tryd.prog 27 = some [.string ⟨#[]⟩, .string ⟨#[]⟩] := by kernel_rfl
@[go_sem] theorem tfield_27_0 : tfield Tryd.prog 27 0 = some (0, 9) := by kernel_rfl
@[go_sem] theorem tfield_27_1 : tfield Tryd.prog 27 1 = some (1, 9) := by kernel_rfl
@[go_sem] theorem tflat_27 : flatK Tryd.prog 27 = some [1, 1] := by kernel_rfl
@[go_sem] theorem tplaces_27 : tplaces Tryd.prog 27 = some [(0, 1), (1, 1)] := by kernel_rfl
@[go_sem] theorem tload_30 : tload Tryd.prog 30 = some (some 3) := by kernel_rfl
@[go_sem] theorem tsize_30 : tsize Tryd.prog 30 = some 3 := by kernel_rfl
@[go_sem] theorem tbytes_30 : tbytes Tryd.prog 30 = some 40 := by kernel_rfl
@[go_sem] theorem tcells_30 : Program.cellsOf Tryd.prog 30 = 3 := by kernel_rfl
@[go_sem] theorem tz_30 : tz Tryd.prog 30 = some [.string ⟨#[]⟩, .string ⟨#[]⟩, .int .i64 0] := by kernel_rfl
@[go_sem] theorem tfield_30_0 : tfield Tryd.prog 30 0 = some (0, 9) := by kernel_rfl
@[go_sem] theorem tfield_30_1 : tfield Tryd.prog 30 1 = some (1, 9) := by kernel_rfl
@[go_sem] theorem tfield_30_2 : tfield Tryd.prog 30 2 = some (2, 3) := by kernel_rfl
@[go_sem] theorem tplaces_30 : tplaces Tryd.prog 30 = some [(0, 1), (1, 1), (2, 1)] := by kernel_rfl
@[go_sem] theorem tload_31 : tload Tryd.prog 31 = some (some 3) := by kernel_rfl
@[go_sem] theorem tsize_31 : tsize Tryd.prog 31 = some 3 := by kernel_rfl
@[go_sem] theorem tbytes_31 : tbytes Tryd.prog 31 = some 40 := by kernel_rfl
@[go_sem] theorem tcells_31 : Program.cellsOf Tryd.prog 31 = 3 := by kernel_rfl
@[go_sem] theorem tz_31 : tz Tryd.prog 31 = some [.string ⟨#[]⟩, .string ⟨#[]⟩, .int .i64 0] := by kernel_rfl
@[go_sem] theorem tfield_31_0 : tfield Tryd.prog 31 0 = some (0, 9) := by kernel_rfl
@[go_sem] theorem tfield_31_1 : tfield Tryd.prog 31 1 = some (1, 9) := by kernel_rfl
@[go_sem] theorem tfield_31_2 : tfield Tryd.prog 31 2 = some (2, 3) := by kernel_rfl
@[go_sem] theorem tflat_31 : flatK Tryd.prog 31 = some [1, 1, 0] := by kernel_rfl
@[go_sem] theorem tplaces_31 : tplaces Tryd.prog 31 = some [(0, 1), (1, 1), (2, 1)] := by kernel_rfl
@[go_sem] theorem tload_36 : tload Tryd.prog 36 = some (some 3) := by kernel_rfl
@[go_sem] theorem tsize_36 : tsize Tryd.prog 36 = some 3 := by kernel_rfl
@[go_sem] theorem tbytes_36 : tbytes Tryd.prog 36 = some 40 := by kernel_rfl
@[go_sem] theorem tcells_36 : Program.cellsOf Tryd.prog 36 = 3 := by kernel_rfl
@[go_sem] theorem tz_36 : tz Tryd.prog 36 = some [.string ⟨#[]⟩, .string ⟨#[]⟩, .int .i64 0] := by kernel_rfl
@[go_sem] theorem tfield_36_0 : tfield Tryd.prog 36 0 = some (0, 9) := by kernel_rfl
@[go_sem] theorem tfield_36_1 : tfield Tryd.prog 36 1 = some (1, 9) := by kernel_rfl
@[go_sem] theorem tfield_36_2 : tfield Tryd.prog 36 2 = some (2, 3) := by kernel_rfl
@[go_sem] theorem tflat_36 : flatK Tryd.prog 36 = some [1, 1, 0] := by kernel_rfl
@[go_sem] theorem tplaces_36 : tplaces Tryd.prog 36 = some [(0, 1), (1, 1), (2, 1)] := by kernel_rfl
@[go_sem] theorem tload_48 : tload Tryd.prog 48 = some none := by kernel_rfl
@[go_sem] theorem tsize_48 : tsize Tryd.prog 48 = some 1 := by kernel_rfl
@[go_sem] theorem tbytes_48 : tbytes Tryd.prog 48 = some 24 := by kernel_rfl
@[go_sem] theorem tcells_48 : Program.cellsOf Tryd.prog 48 = 1 := by kernel_rfl
@[go_sem] theorem tz_48 : tz Tryd.prog 48 = some [.slice none 0 0] := by kernel_rfl
@[go_sem] theorem telem_48 : telem Tryd.prog 48 = some (2, 27) := by kernel_rfl
@[go_sem] theorem tapp_48 : tapp Tryd.prog 48 = some (2, 32) := by kernel_rfl
@[go_sem] theorem tload_53 : tload Tryd.prog 53 = some none := by kernel_rfl
@[go_sem] theorem tsize_53 : tsize Tryd.prog 53 = some 1 := by kernel_rfl
@[go_sem] theorem tbytes_53 : tbytes Tryd.prog 53 = some 24 := by kernel_rfl
@[go_sem] theorem tcells_53 : Program.cellsOf Tryd.prog 53 = 1 := by kernel_rfl
@[go_sem] theorem tz_53 : tz Tryd.prog 53 = some [.slice none 0 0] := by kernel_rfl
@[go_sem] theorem telem_53 : telem Tryd.prog 53 = some (1, 5) := by kernel_rfl
@[go_sem] theorem tapp_53 : tapp Tryd.prog 53 = some (1, 1) := by kernel_rfl
@[go_sem] theorem tload_62 : tload Tryd.prog 62 = some none := by kernel_rfl
@[go_sem] theorem tsize_62 : tsize Tryd.prog 62 = some 1 := by kernel_rfl
@[go_sem] theorem tbytes_62 : tbytes Tryd.prog 62 = some 24 := by kernel_rfl
@[go_sem] theorem tcells_62 : Program.cellsOf Tryd.prog 62 = 1 := by kernel_rfl
@[go_sem] theorem tz_62 : tz Tryd.prog 62 = some [.slice none 0 0] := by kernel_rfl
@[go_sem] theorem telem_62 : telem Tryd.prog 62 = some (1, 3) := by kernel_rfl
@[go_sem] theorem tapp_62 : tapp Tryd.prog 62 = some (1, 8) := by kernel_rfl
@[go_sem] theorem tload_78 : tload Tryd.prog 78 = some none := by kernel_rfl
@[go_sem] theorem tsize_78 : tsize Tryd.prog 78 = some 1 := by kernel_rfl
@[go_sem] theorem tbytes_78 : tbytes Tryd.prog 78 = some 8 := by kernel_rfl
@[go_sem] theorem tcells_78 : Program.cellsOf Tryd.prog 78 = 1 := by kernel_rfl
@[go_sem] theorem tz_78 : tz Tryd.prog 78 = some [.pointer none] := by kernel_rfl
@[go_sem] theorem tload_79 : tload Tryd.prog 79 = some none := by kernel_rfl
@[go_sem] theorem tsize_79 : tsize Tryd.prog 79 = some 1 := by kernel_rfl
@[go_sem] theorem tbytes_79 : tbytes Tryd.prog 79 = some 8 := by kernel_rfl
@[go_sem] theorem tcells_79 : Program.cellsOf Tryd.prog 79 = 1 := by kernel_rfl
@[go_sem] theorem tz_79 : tz Tryd.prog 79 = some [.int .u64 0] := by kernel_rfl
@[go_sem] theorem tload_80 : tload Tryd.prog 80 = some (some 3) := by kernel_rfl
@[go_sem] theorem tsize_80 : tsize Tryd.prog 80 = some 3 := by kernel_rfl
@[go_sem] theorem tbytes_80 : tbytes Tryd.prog 80 = some 40 := by kernel_rfl
@[go_sem] theorem tcells_80 : Program.cellsOf Tryd.prog 80 = 3 := by kernel_rfl
@[go_sem] theorem tz_80 : tz Tryd.prog 80 = some [.slice none 0 0, .int .i64 0, .int .u64 0] := by kernel_rfl
@[go_sem] theorem tfield_80_0 : tfield Tryd.prog 80 0 = some (0, 53) := by kernel_rfl
@[go_sem] theorem tfield_80_1 : tfield Tryd.prog 80 1 = some (1, 3) := by kernel_rfl
@[go_sem] theorem tfield_80_2 : tfield Tryd.prog 80 2 = some (2, 79) := by kernel_rfl
@[go_sem] theorem tplaces_80 : tplaces Tryd.prog 80 = some [(0, 1), (1, 1), (2, 1)] := by kernel_rfl
@[go_sem] theorem tload_81 : tload Tryd.prog 81 = some (some 3) := by kernel_rfl
@[go_sem] theorem tsize_81 : tsize Tryd.prog 81 = some 3 := by kernel_rfl
@[go_sem] theorem tbytes_81 : tbytes Tryd.prog 81 = some 40 := by kernel_rfl
@[go_sem] theorem tcells_81 : Program.cellsOf Tryd.prog 81 = 3 := by kernel_rfl
@[go_sem] theorem tz_81 : tz Tryd.prog 81 = some [.slice none 0 0, .int .i64 0, .int .u64 0] := by kernel_rfl
@[go_sem] theorem tfield_81_0 : tfield Tryd.prog 81 0 = some (0, 53) := by kernel_rfl
@[go_sem] theorem tfield_81_1 : tfield Tryd.prog 81 1 = some (1, 3) := by kernel_rfl
@[go_sem] theorem tfield_81_2 : tfield Tryd.prog 81 2 = some (2, 79) := by kernel_rfl
@[go_sem] theorem tplaces_81 : tplaces Tryd.prog 81 = some [(0, 1), (1, 1), (2, 1)] := by kernel_rfl
@[go_sem] theorem tload_96 : tload Tryd.prog 96 = some none := by kernel_rfl
@[go_sem] theorem tsize_96 : tsize Tryd.prog 96 = some 1 := by kernel_rfl
@[go_sem] theorem tbytes_96 : tbytes Tryd.prog 96 = some 24 := by kernel_rfl
@[go_sem] theorem tcells_96 : Program.cellsOf Tryd.prog 96 = 1 := by kernel_rfl
@[go_sem] theorem tz_96 : tz Tryd.prog 96 = some [.slice none 0 0] := by kernel_rfl
@[go_sem] theorem telem_96 : telem Tryd.prog 96 = some (1, 9) := by kernel_rfl
@[go_sem] theorem tapp_96 : tapp Tryd.prog 96 = some (1, 16) := by kernel_rfl
@[go_sem] theorem tload_109 : tload Tryd.prog 109 = some none := by kernel_rfl
@[go_sem] theorem tsize_109 : tsize Tryd.prog 109 = some 1 := by kernel_rfl
@[go_sem] theorem tbytes_109 : tbytes Tryd.prog 109 = some 8 := by kernel_rfl
@[go_sem] theorem tcells_109 : Program.cellsOf Tryd.prog 109 = 1 := by kernel_rfl
@[go_sem] theorem tz_109 : tz Tryd.prog 109 = some [.int .u64 0] := by kernel_rfl
@[go_sem] theorem tload_110 : tload Tryd.prog 110 = some none := by kernel_rfl
@[go_sem] theorem tsize_110 : tsize Tryd.prog 110 = some 1 := by kernel_rfl
@[go_sem] theorem tbytes_110 : tbytes Tryd.prog 110 = some 8 := by kernel_rfl
@[go_sem] theorem tcells_110 : Program.cellsOf Tryd.prog 110 = 1 := by kernel_rfl
@[go_sem] theorem tz_110 : tz Tryd.prog 110 = some [.pointer none] := by kernel_rfl
@[go_sem] theorem tload_111 : tload Tryd.prog 111 = some (some 2) := by kernel_rfl
@[go_sem] theorem tsize_111 : tsize Tryd.prog 111 = some 2 := by kernel_rfl
@[go_sem] theorem tbytes_111 : tbytes Tryd.prog 111 = some 32 := by kernel_rfl
@[go_sem] theorem tcells_111 : Program.cellsOf Tryd.prog 111 = 2 := by kernel_rfl
@[go_sem] theorem tz_111 : tz Tryd.prog 111 = some [.pointer none, .slice none 0 0] := by kernel_rfl
@[go_sem] theorem tfield_111_0 : tfield Tryd.prog 111 0 = some (0, 110) := by kernel_rfl
@[go_sem] theorem tfield_111_1 : tfield Tryd.prog 111 1 = some (1, 53) := by kernel_rfl
@[go_sem] theorem tplaces_111 : tplaces Tryd.prog 111 = some [(0, 1), (1, 1)] := by kernel_rfl
@[go_sem] theorem tload_112 : tload Tryd.prog 112 = some (some 2) := by kernel_rfl
@[go_sem] theorem tsize_112 : tsize Tryd.prog 112 = some 2 := by kernel_rfl
@[go_sem] theorem tbytes_112 : tbytes Tryd.prog 112 = some 32 := by kernel_rfl
@[go_sem] theorem tcells_112 : Program.cellsOf Tryd.prog 112 = 2 := by kernel_rfl
@[go_sem] theorem tz_112 : tz Tryd.prog 112 = some [.pointer none, .slice none 0 0] := by kernel_rfl
@[go_sem] theorem tfield_112_0 : tfield Tryd.prog 112 0 = some (0, 110) := by kernel_rfl
@[go_sem] theorem tfield_112_1 : tfield Tryd.prog 112 1 = some (1, 53) := by kernel_rfl
@[go_sem] theorem tplaces_112 : tplaces Tryd.prog 112 = some [(0, 1), (1, 1)] := by kernel_rfl
@[go_sem] theorem tload_115 : tload Tryd.prog 115 = some none := by kernel_rfl
@[go_sem] theorem tsize_115 : tsize Tryd.prog 115 = some 1 := by kernel_rfl
@[go_sem] theorem tbytes_115 : tbytes Tryd.prog 115 = some 16 := by kernel_rfl
@[go_sem] theorem tcells_115 : Program.cellsOf Tryd.prog 115 = 1 := by kernel_rfl
@[go_sem] theorem tz_115 : tz Tryd.prog 115 = some [.nilIface] := by kernel_rfl
@[go_sem] theorem tload_121 : tload Tryd.prog 121 = some none := by kernel_rfl
@[go_sem] theorem tsize_121 : tsize Tryd.prog 121 = some 1 := by kernel_rfl
@[go_sem] theorem tbytes_121 : tbytes Tryd.prog 121 = some 8 := by kernel_rfl
@[go_sem] theorem tcells_121 : Program.cellsOf Tryd.prog 121 = 1 := by kernel_rfl
@[go_sem] theorem tz_121 : tz Tryd.prog 121 = some [.pointer none] := by kernel_rfl
@[go_sem] theorem tload_122 : tload Tryd.prog 122 = some (some 24) := by kernel_rfl
@[go_sem] theorem tsize_122 : tsize Tryd.prog 122 = some 24 := by kernel_rfl
@[go_sem] theorem tbytes_122 : tbytes Tryd.prog 122 = some 24 := by kernel_rfl
@[go_sem] theorem tcells_122 : Program.cellsOf Tryd.prog 122 = 24 := by kernel_rfl
@[go_sem] theorem tz_122 : tz Tryd.prog 122 = some [.int .u8 0, .int .u8 0, .int .u8 0, .int .u8 0, .int .u8 0, .int .u8 0, .int .u8 0, .int .u8 0, .int .u8 0, .int .u8 0, .int .u8 0, .int .u8 0, .int .u8 0, .int .u8 0, .int .u8 0, .int .u8 0, .int .u8 0, .int .u8 0, .int .u8 0, .int .u8 0, .int .u8 0, .int .u8 0, .int .u8 0, .int .u8 0] := by kernel_rfl
@[go_sem] theorem tplaces_122 : tplaces Tryd.prog 122 = none := by kernel_rfl
@[go_sem] theorem tarr_122 : tarr Tryd.prog 122 = some (24, 1, 5) := by kernel_rfl
@[go_sem] theorem tload_127 : tload Tryd.prog 127 = some none := by kernel_rfl
@[go_sem] theorem tsize_127 : tsize Tryd.prog 127 = some 1 := by kernel_rfl
@[go_sem] theorem tbytes_127 : tbytes Tryd.prog 127 = some 4 := by kernel_rfl
@[go_sem] theorem tcells_127 : Program.cellsOf Tryd.prog 127 = 1 := by kernel_rfl
@[go_sem] theorem tz_127 : tz Tryd.prog 127 = some [.int .u32 0] := by kernel_rfl
@[go_sem] theorem tload_134 : tload Tryd.prog 134 = some (some 20) := by kernel_rfl
@[go_sem] theorem tsize_134 : tsize Tryd.prog 134 = some 20 := by kernel_rfl
@[go_sem] theorem tbytes_134 : tbytes Tryd.prog 134 = some 160 := by kernel_rfl
@[go_sem] theorem tcells_134 : Program.cellsOf Tryd.prog 134 = 20 := by kernel_rfl
@[go_sem] theorem tz_134 : tz Tryd.prog 134 = some [.int .u64 0, .int .u64 0, .int .u64 0, .int .u64 0, .int .u64 0, .int .u64 0, .int .u64 0, .int .u64 0, .int .u64 0, .int .u64 0, .int .u64 0, .int .u64 0, .int .u64 0, .int .u64 0, .int .u64 0, .int .u64 0, .int .u64 0, .int .u64 0, .int .u64 0, .int .u64 0] := by kernel_rfl
@[go_sem] theorem tplaces_134 : tplaces Tryd.prog 134 = none := by kernel_rfl
@[go_sem] theorem tarr_134 : tarr Tryd.prog 134 = some (20, 1, 79) := by kernel_rfl
@[go_sem] theorem tload_135 : tload Tryd.prog 135 = some (some 65) := by kernel_rfl
@[go_sem] theorem tsize_135 : tsize Tryd.prog 135 = some 65 := by kernel_rfl
@[go_sem] theorem tbytes_135 : tbytes Tryd.prog 135 = some 65 := by kernel_rfl
@[go_sem] theorem tcells_135 : Program.cellsOf Tryd.prog 135 = 65 := by kernel_rfl
@[go_sem] theorem tz_135 : tz Tryd.prog 135 = some [.int .u8 0, .int .u8 0, .int .u8 0, .int .u8 0, .int .u8 0, .int .u8 0, .int .u8 0, .int .u8 0, .int .u8 0, .int .u8 0, .int .u8 0, .int .u8 0, .int .u8 0, .int .u8 0, .int .u8 0, .int .u8 0, .int .u8 0, .int .u8 0, .int .u8 0, .int .u8 0, .int .u8 0, .int .u8 0, .int .u8 0, .int .u8 0, .int .u8 0, .int .u8 0, .int .u8 0, .int .u8 0, .int .u8 0, .int .u8 0, .int .u8 0, .int .u8 0, .int .u8 0, .int .u8 0, .int .u8 0, .int .u8 0, .int .u8 0, .int .u8 0, .int .u8 0, .int .u8 0, .int .u8 0, .int .u8 0, .int .u8 0, .int .u8 0, .int .u8 0, .int .u8 0, .int .u8 0, .int .u8 0, .int .u8 0, .int .u8 0, .int .u8 0, .int .u8 0, .int .u8 0, .int .u8 0, .int .u8 0, .int .u8 0, .int .u8 0, .int .u8 0, .int .u8 0, .int .u8 0, .int .u8 0, .int .u8 0, .int .u8 0, .int .u8 0, .int .u8 0] := by kernel_rfl
@[go_sem] theorem tplaces_135 : tplaces Tryd.prog 135 = none := by kernel_rfl
@[go_sem] theorem tarr_135 : tarr Tryd.prog 135 = some (65, 1, 5) := by kernel_rfl
@[go_sem] theorem tload_138 : tload Tryd.prog 138 = some (some 32) := by kernel_rfl
@[go_sem] theorem tsize_138 : tsize Tryd.prog 138 = some 32 := by kernel_rfl
@[go_sem] theorem tbytes_138 : tbytes Tryd.prog 138 = some 32 := by kernel_rfl
@[go_sem] theorem tcells_138 : Program.cellsOf Tryd.prog 138 = 32 := by kernel_rfl
@[go_sem] theorem tz_138 : tz Tryd.prog 138 = some [.int .u8 0, .int .u8 0, .int .u8 0, .int .u8 0, .int .u8 0, .int .u8 0, .int .u8 0, .int .u8 0, .int .u8 0, .int .u8 0, .int .u8 0, .int .u8 0, .int .u8 0, .int .u8 0, .int .u8 0, .int .u8 0, .int .u8 0, .int .u8 0, .int .u8 0, .int .u8 0, .int .u8 0, .int .u8 0, .int .u8 0, .int .u8 0, .int .u8 0, .int .u8 0, .int .u8 0, .int .u8 0, .int .u8 0, .int .u8 0, .int .u8 0, .int .u8 0] := by kernel_rfl
@[go_sem] theorem tplaces_138 : tplaces Tryd.prog 138 = none := by kernel_rfl
@[go_sem] theorem tarr_138 : tarr Tryd.prog 138 = some (32, 1, 5) := by kernel_rfl
@[go_sem] theorem tload_139 : tload Tryd.prog 139 = some (some 64) := by kernel_rfl
@[go_sem] theorem tsize_139 : tsize Tryd.prog 139 = some 64 := by kernel_rfl
@[go_sem] theorem tbytes_139 : tbytes Tryd.prog 139 = some 64 := by kernel_rfl
@[go_sem] theorem tcells_139 : Program.cellsOf Tryd.prog 139 = 64 := by kernel_rfl
@[go_sem] theorem tz_139 : tz Tryd.prog 139 = some [.int .u8 0, .int .u8 0, .int .u8 0, .int .u8 0, .int .u8 0, .int .u8 0, .int .u8 0, .int .u8 0, .int .u8 0, .int .u8 0, .int .u8 0, .int .u8 0, .int .u8 0, .int .u8 0, .int .u8 0, .int .u8 0, .int .u8 0, .int .u8 0, .int .u8 0, .int .u8 0, .int .u8 0, .int .u8 0, .int .u8 0, .int .u8 0, .int .u8 0, .int .u8 0, .int .u8 0, .int .u8 0, .int .u8 0, .int .u8 0, .int .u8 0, .int .u8 0, .int .u8 0, .int .u8 0, .int .u8 0, .int .u8 0, .int .u8 0, .int .u8 0, .int .u8 0, .int .u8 0, .int .u8 0, .int .u8 0, .int .u8 0, .int .u8 0, .int .u8 0, .int .u8 0, .int .u8 0, .int .u8 0, .int .u8 0, .int .u8 0, .int .u8 0, .int .u8 0, .int .u8 0, .int .u8 0, .int .u8 0, .int .u8 0, .int .u8 0, .int .u8 0, .int .u8 0, .int .u8 0, .int .u8 0, .int .u8 0, .int .u8 0, .int .u8 0] := by kernel_rfl
@[go_sem] theorem tplaces_139 : tplaces Tryd.prog 139 = none := by kernel_rfl
@[go_sem] theorem tarr_139 : tarr Tryd.prog 139 = some (64, 1, 5) := by kernel_rfl
attribute [go_sem] Tryd.underlying2
attribute [go_sem] Tryd.underlying3
attribute [go_sem] Tryd.underlying4
attribute [go_sem] Tryd.underlying5
attribute [go_sem] Tryd.underlying9
attribute [go_sem] Tryd.underlying12
attribute [go_sem] Tryd.underlying21
attribute [go_sem] Tryd.underlying79
attribute [go_sem] Tryd.underlying109
attribute [go_sem] Tryd.underlying127
end Go.Proofs.YtkogddiefniihaaDoor
