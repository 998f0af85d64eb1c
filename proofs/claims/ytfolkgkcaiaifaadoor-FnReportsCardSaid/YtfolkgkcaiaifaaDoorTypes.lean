/- What the seat's types are: sizes, zero values, places of fields. No condition. -/
import Derived.Test.YtfolkgkcaiaifaaDoorProg
import Derived.KernelRfl
import Derived.Test.YtfolkgkcaiaifaaDoorH3
namespace Go.Proofs.YtfolkgkcaiaifaaDoor
open Go.HH
set_option linter.unusedSimpArgs false
set_option linter.unusedVariables false
theorem mo : Tryd.prog.follows .mixedOrders = true := by kernel_rfl
theorem wrap64 {n : Int} (h : -9223372036854775808 ≤ n ∧ n ≤ 9223372036854775807) : IntKind.i64.wrap n = n := IntWalk.i64_in n h
theorem decb {p : Prop} [Decidable p] (h : p) : decide p = true := decide_eq_true h
theorem dect {p : Prop} [Decidable p] (h : ¬ p) : decide p = false := decide_eq_false h
@[go_sem] theorem tload_2 : tload Tryd.prog 2 = some none := by kernel_rfl
@[go_sem] theorem tsize_2 : tsize Tryd.prog 2 = some 1 := by kernel_rfl
@[go_sem] theorem tbytes_2 : tbytes Tryd.prog 2 = some 8 := by kernel_rfl
@[go_sem] theorem tcells_2 : Program.cellsOf Tryd.prog 2 = 1 := by kernel_rfl
@[go_sem] theorem tz_2 : tz Tryd.prog 2 = some [.int .i64 0] := by kernel_rfl
@[go_sem] theorem tload_3 : tload Tryd.prog 3 = some none := by kernel_rfl
@[go_sem] theorem tsize_3 : tsize Tryd.prog 3 = some 1 := by kernel_rfl
@[go_sem] theorem tbytes_3 : tbytes Tryd.prog 3 = some 8 := by kernel_rfl
@[go_sem] theorem tcells_3 : Program.cellsOf Tryd.prog 3 = 1 := by kernel_rfl
@[go_sem] theorem tz_3 : tz Tryd.prog 3 = some [.int .i64 0] := by kernel_rfl
@[go_sem] theorem tload_4 : tload Tryd.prog 4 = some none := by kernel_rfl
@[go_sem] theorem tsize_4 : tsize Tryd.prog 4 = some 1 := by kernel_rfl
@[go_sem] theorem tbytes_4 : tbytes Tryd.prog 4 = some 1 := by kernel_rfl
@[go_sem] theorem tcells_4 : Program.cellsOf Tryd.prog 4 = 1 := by kernel_rfl
@[go_sem] theorem tz_4 : tz Tryd.prog 4 = some [.bool false] := by kernel_rfl
@[go_sem] theorem tload_5 : tload Tryd.prog 5 = some none := by kernel_rfl
@[go_sem] theorem tsize_5 : tsize Tryd.prog 5 = some 1 := by kernel_rfl
@[go_sem] theorem tbytes_5 : tbytes Tryd.prog 5 = some 1 := by kernel_rfl
@[go_sem] theorem tcells_5 : Program.cellsOf Tryd.prog 5 = 1 := by kernel_rfl
@[go_sem] theorem tz_5 : tz Tryd.prog 5 = some [.int .u8 0] := by kernel_rfl
@[go_sem] theorem tload_9 : tload Tryd.prog 9 = some none := by kernel_rfl
@[go_sem] theorem tsize_9 : tsize Tryd.prog 9 = some 1 := by kernel_rfl
@[go_sem] theorem tbytes_9 : tbytes Tryd.prog 9 = some 16 := by kernel_rfl
@[go_sem] theorem tcells_9 : Program.cellsOf Tryd.prog 9 = 1 := by kernel_rfl
@[go_sem] theorem tz_9 : tz Tryd.prog 9 = some [.string ⟨#[]⟩] := by kernel_rfl
@[go_sem] theorem tload_12 : tload Tryd.prog 12 = some none := by kernel_rfl
@[go_sem] theorem tsize_12 : tsize Tryd.prog 12 = some 1 := by kernel_rfl
@[go_sem] theorem tbytes_12 : tbytes Tryd.prog 12 = some 8 := by kernel_rfl
@[go_sem] theorem tcells_12 : Program.cellsOf Tryd.prog 12 = 1 := by kernel_rfl
@[go_sem] theorem tz_12 : tz Tryd.prog 12 = some [.int .u64 0] := by kernel_rfl
@[go_sem] theorem tload_13 : tload Tryd.prog 13 = some (some 2) := by kernel_rfl
@[go_sem] theorem tsize_13 : tsize Tryd.prog 13 = some 2 := by kernel_rfl
@[go_sem] theorem tbytes_13 : tbytes Tryd.prog 13 = some 24 := by kernel_rfl
@[go_sem] theorem tcells_13 : Program.cellsOf Tryd.prog 13 = 2 := by kernel_rfl
@[go_sem] theorem tz_13 : tz Tryd.prog 13 = some [.string ⟨#[]⟩, .int .u64 0] := by kernel_rfl
@[go_sem] theorem tfield_13_0 : tfield Tryd.prog 13 0 = some (0, 9) := by kernel_rfl
@[go_sem] theorem tfield_13_1 : tfield Tryd.prog 13 1 = some (1, 12) := by kernel_rfl
@[go_sem] theorem tplaces_13 : tplaces Tryd.prog 13 = some [(0, 1), (1, 1)] := by kernel_rfl
@[go_sem] theorem tload_21 : tload Tryd.prog 21 = some none := by kernel_rfl
@[go_sem] theorem tsize_21 : tsize Tryd.prog 21 = some 1 := by kernel_rfl
@[go_sem] theorem tbytes_21 : tbytes Tryd.prog 21 = some 4 := by kernel_rfl
@[go_sem] theorem tcells_21 : Program.cellsOf Tryd.prog 21 = 1 := by kernel_rfl
@[go_sem] theorem tz_21 : tz Tryd.prog 21 = some [.int .i32 0] := by kernel_rfl
@[go_sem] theorem tload_22 : tload Tryd.prog 22 = some none := by kernel_rfl
@[go_sem] theorem tsize_22 : tsize Tryd.prog 22 = some 1 := by kernel_rfl
@[go_sem] theorem tbytes_22 : tbytes Tryd.prog 22 = some 24 := by kernel_rfl
@[go_sem] theorem tcells_22 : Program.cellsOf Tryd.prog 22 = 1 := by kernel_rfl
@[go_sem] theorem tz_22 : tz Tryd.prog 22 = some [.slice none 0 0] := by kernel_rfl
@[go_sem] theorem telem_22 : telem Tryd.prog 22 = some (3, 31) := by kernel_rfl
@[go_sem] theorem tapp_22 : tapp Tryd.prog 22 = some (3, 24) := by kernel_rfl
@[go_sem] theorem tload_28 : tload Tryd.prog 28 = some none := by kernel_rfl
@[go_sem] theorem tsize_28 : tsize Tryd.prog 28 = some 1 := by kernel_rfl
@[go_sem] theorem tbytes_28 : tbytes Tryd.prog 28 = some 24 := by kernel_rfl
@[go_sem] theorem tcells_28 : Program.cellsOf Tryd.prog 28 = 1 := by kernel_rfl
@[go_sem] theorem tz_28 : tz Tryd.prog 28 = some [.slice none 0 0] := by kernel_rfl
@[go_sem] theorem telem_28 : telem Tryd.prog 28 = some (1, 5) := by kernel_rfl
@[go_sem] theorem tapp_28 : tapp Tryd.prog 28 = some (1, 1) := by kernel_rfl
@[go_sem] theorem tload_30 : tload Tryd.prog 30 = some (some 3) := by kernel_rfl
@[go_sem] theorem tsize_30 : tsize Tryd.prog 30 = some 3 := by kernel_rfl
@[go_sem] theorem tbytes_30 : tbytes Tryd.prog 30 = some 24 := by kernel_rfl
@[go_sem] theorem tcells_30 : Program.cellsOf Tryd.prog 30 = 3 := by kernel_rfl
@[go_sem] theorem tz_30 : tz Tryd.prog 30 = some [.int .i64 0, .int .i64 0, .int .i64 0] := by kernel_rfl
@[go_sem] theorem tfield_30_0 : tfield Tryd.prog 30 0 = some (0, 3) := by kernel_rfl
@[go_sem] theorem tfield_30_1 : tfield Tryd.prog 30 1 = some (1, 3) := by kernel_rfl
@[go_sem] theorem tfield_30_2 : tfield Tryd.prog 30 2 = some (2, 3) := by kernel_rfl
@[go_sem] theorem tplaces_30 : tplaces Tryd.prog 30 = some [(0, 1), (1, 1), (2, 1)] := by kernel_rfl
@[go_sem] theorem tload_31 : tload Tryd.prog 31 = some (some 3) := by kernel_rfl
@[go_sem] theorem tsize_31 : tsize Tryd.prog 31 = some 3 := by kernel_rfl
@[go_sem] theorem tbytes_31 : tbytes Tryd.prog 31 = some 24 := by kernel_rfl
@[go_sem] theorem tcells_31 : Program.cellsOf Tryd.prog 31 = 3 := by kernel_rfl
@[go_sem] theorem tz_31 : tz Tryd.prog 31 = some [.int .i64 0, .int .i64 0, .int .i64 0] := by kernel_rfl
@[go_sem] theorem tfield_31_0 : tfield Tryd.prog 31 0 = some (0, 3) := by kernel_rfl
@[go_sem] theorem tfield_31_1 : tfield Tryd.prog 31 1 = some (1, 3) := by kernel_rfl
@[go_sem] theorem tfield_31_2 : tfield Tryd.prog 31 2 = some (2, 3) := by kernel_rfl
@[go_sem] theorem tflat_31 : flatK Tryd.prog 31 = some [0, 0, 0] := by kernel_rfl
@[go_sem] theorem tplaces_31 : tplaces Tryd.prog 31 = some [(0, 1), (1, 1), (2, 1)] := by kernel_rfl
@[go_sem] theorem tload_41 : tload Tryd.prog 41 = some none := by kernel_rfl
@[go_sem] theorem tsize_41 : tsize Tryd.prog 41 = some 1 := by kernel_rfl
@[go_sem] theorem tbytes_41 : tbytes Tryd.prog 41 = some 24 := by kernel_rfl
@[go_sem] theorem tcells_41 : Program.cellsOf Tryd.prog 41 = 1 := by kernel_rfl
@[go_sem] theorem tz_41 : tz Tryd.prog 41 = some [.slice none 0 0] := by kernel_rfl
@[go_sem] theorem telem_41 : telem Tryd.prog 41 = some (1, 3) := by kernel_rfl
@[go_sem] theorem tapp_41 : tapp Tryd.prog 41 = some (1, 8) := by kernel_rfl
@[go_sem] theorem tload_50 : tload Tryd.prog 50 = some none := by kernel_rfl
@[go_sem] theorem tsize_50 : tsize Tryd.prog 50 = some 1 := by kernel_rfl
@[go_sem] theorem tbytes_50 : tbytes Tryd.prog 50 = some 24 := by kernel_rfl
@[go_sem] theorem tcells_50 : Program.cellsOf Tryd.prog 50 = 1 := by kernel_rfl
@[go_sem] theorem tz_50 : tz Tryd.prog 50 = some [.slice none 0 0] := by kernel_rfl
@[go_sem] theorem telem_50 : telem Tryd.prog 50 = some (1, 9) := by kernel_rfl
@[go_sem] theorem tapp_50 : tapp Tryd.prog 50 = some (1, 16) := by kernel_rfl
@[go_sem] theorem tload_59 : tload Tryd.prog 59 = some none := by kernel_rfl
@[go_sem] theorem tsize_59 : tsize Tryd.prog 59 = some 1 := by kernel_rfl
@[go_sem] theorem tbytes_59 : tbytes Tryd.prog 59 = some 8 := by kernel_rfl
@[go_sem] theorem tcells_59 : Program.cellsOf Tryd.prog 59 = 1 := by kernel_rfl
@[go_sem] theorem tz_59 : tz Tryd.prog 59 = some [.pointer none] := by kernel_rfl
@[go_sem] theorem tload_60 : tload Tryd.prog 60 = some none := by kernel_rfl
@[go_sem] theorem tsize_60 : tsize Tryd.prog 60 = some 1 := by kernel_rfl
@[go_sem] theorem tbytes_60 : tbytes Tryd.prog 60 = some 8 := by kernel_rfl
@[go_sem] theorem tcells_60 : Program.cellsOf Tryd.prog 60 = 1 := by kernel_rfl
@[go_sem] theorem tz_60 : tz Tryd.prog 60 = some [.int .u64 0] := by kernel_rfl
@[go_sem] theorem tload_61 : tload Tryd.prog 61 = some (some 3) := by kernel_rfl
@[go_sem] theorem tsize_61 : tsize Tryd.prog 61 = some 3 := by kernel_rfl
@[go_sem] theorem tbytes_61 : tbytes Tryd.prog 61 = some 40 := by kernel_rfl
@[go_sem] theorem tcells_61 : Program.cellsOf Tryd.prog 61 = 3 := by kernel_rfl
@[go_sem] theorem tz_61 : tz Tryd.prog 61 = some [.slice none 0 0, .int .i64 0, .int .u64 0] := by kernel_rfl
@[go_sem] theorem tfield_61_0 : tfield Tryd.prog 61 0 = some (0, 28) := by kernel_rfl
@[go_sem] theorem tfield_61_1 : tfield Tryd.prog 61 1 = some (1, 3) := by kernel_rfl
@[go_sem] theorem tfield_61_2 : tfield Tryd.prog 61 2 = some (2, 60) := by kernel_rfl
@[go_sem] theorem tplaces_61 : tplaces Tryd.prog 61 = some [(0, 1), (1, 1), (2, 1)] := by kernel_rfl
@[go_sem] theorem tload_62 : tload Tryd.prog 62 = some (some 3) := by kernel_rfl
@[go_sem] theorem tsize_62 : tsize Tryd.prog 62 = some 3 := by kernel_rfl
@[go_sem] theorem tbytes_62 : tbytes Tryd.prog 62 = some 40 := by kernel_rfl
@[go_sem] theorem tcells_62 : Program.cellsOf Tryd.prog 62 = 3 := by kernel_rfl
@[go_sem] theorem tz_62 : tz Tryd.prog 62 = some [.slice none 0 0, .int .i64 0, .int .u64 0] := by kernel_rfl
@[go_sem] theorem tfield_62_0 : tfield Tryd.prog 62 0 = some (0, 28) := by kernel_rfl
@[go_sem] theorem tfield_62_1 : tfield Tryd.prog 62 1 = some (1, 3) := by kernel_rfl
@[go_sem] theorem tfield_62_2 : tfield Tryd.prog 62 2 = some (2, 60) := by kernel_rfl
@[go_sem] theorem tplaces_62 : tplaces Tryd.prog 62 = some [(0, 1), (1, 1), (2, 1)] := by kernel_rfl
@[go_sem] theorem tload_78 : tload Tryd.prog 78 = some none := by kernel_rfl
@[go_sem] theorem tsize_78 : tsize Tryd.prog 78 = some 1 := by kernel_rfl
@[go_sem] theorem tbytes_78 : tbytes Tryd.prog 78 = some 8 := by kernel_rfl
@[go_sem] theorem tcells_78 : Program.cellsOf Tryd.prog 78 = 1 := by kernel_rfl
@[go_sem] theorem tz_78 : tz Tryd.prog 78 = some [.pointer none] := by kernel_rfl
@[go_sem] theorem tload_79 : tload Tryd.prog 79 = some (some 2) := by kernel_rfl
@[go_sem] theorem tsize_79 : tsize Tryd.prog 79 = some 2 := by kernel_rfl
@[go_sem] theorem tbytes_79 : tbytes Tryd.prog 79 = some 32 := by kernel_rfl
@[go_sem] theorem tcells_79 : Program.cellsOf Tryd.prog 79 = 2 := by kernel_rfl
@[go_sem] theorem tz_79 : tz Tryd.prog 79 = some [.pointer none, .slice none 0 0] := by kernel_rfl
@[go_sem] theorem tfield_79_0 : tfield Tryd.prog 79 0 = some (0, 78) := by kernel_rfl
@[go_sem] theorem tfield_79_1 : tfield Tryd.prog 79 1 = some (1, 28) := by kernel_rfl
@[go_sem] theorem tplaces_79 : tplaces Tryd.prog 79 = some [(0, 1), (1, 1)] := by kernel_rfl
@[go_sem] theorem tload_80 : tload Tryd.prog 80 = some (some 2) := by kernel_rfl
@[go_sem] theorem tsize_80 : tsize Tryd.prog 80 = some 2 := by kernel_rfl
@[go_sem] theorem tbytes_80 : tbytes Tryd.prog 80 = some 32 := by kernel_rfl
@[go_sem] theorem tcells_80 : Program.cellsOf Tryd.prog 80 = 2 := by kernel_rfl
@[go_sem] theorem tz_80 : tz Tryd.prog 80 = some [.pointer none, .slice none 0 0] := by kernel_rfl
@[go_sem] theorem tfield_80_0 : tfield Tryd.prog 80 0 = some (0, 78) := by kernel_rfl
@[go_sem] theorem tfield_80_1 : tfield Tryd.prog 80 1 = some (1, 28) := by kernel_rfl
@[go_sem] theorem tplaces_80 : tplaces Tryd.prog 80 = some [(0, 1), (1, 1)] := by kernel_rfl
@[go_sem] theorem tload_83 : tload Tryd.prog 83 = some none := by kernel_rfl
@[go_sem] theorem tsize_83 : tsize Tryd.prog 83 = some 1 := by kernel_rfl
@[go_sem] theorem tbytes_83 : tbytes Tryd.prog 83 = some 16 := by kernel_rfl
@[go_sem] theorem tcells_83 : Program.cellsOf Tryd.prog 83 = 1 := by kernel_rfl
@[go_sem] theorem tz_83 : tz Tryd.prog 83 = some [.nilIface] := by kernel_rfl
@[go_sem] theorem tload_88 : tload Tryd.prog 88 = some none := by kernel_rfl
@[go_sem] theorem tsize_88 : tsize Tryd.prog 88 = some 1 := by kernel_rfl
@[go_sem] theorem tbytes_88 : tbytes Tryd.prog 88 = some 8 := by kernel_rfl
@[go_sem] theorem tcells_88 : Program.cellsOf Tryd.prog 88 = 1 := by kernel_rfl
@[go_sem] theorem tz_88 : tz Tryd.prog 88 = some [.int .u64 0] := by kernel_rfl
@[go_sem] theorem tload_89 : tload Tryd.prog 89 = some none := by kernel_rfl
@[go_sem] theorem tsize_89 : tsize Tryd.prog 89 = some 1 := by kernel_rfl
@[go_sem] theorem tbytes_89 : tbytes Tryd.prog 89 = some 8 := by kernel_rfl
@[go_sem] theorem tcells_89 : Program.cellsOf Tryd.prog 89 = 1 := by kernel_rfl
@[go_sem] theorem tz_89 : tz Tryd.prog 89 = some [.pointer none] := by kernel_rfl
@[go_sem] theorem tload_98 : tload Tryd.prog 98 = some (some 24) := by kernel_rfl
@[go_sem] theorem tsize_98 : tsize Tryd.prog 98 = some 24 := by kernel_rfl
@[go_sem] theorem tbytes_98 : tbytes Tryd.prog 98 = some 24 := by kernel_rfl
@[go_sem] theorem tcells_98 : Program.cellsOf Tryd.prog 98 = 24 := by kernel_rfl
@[go_sem] theorem tz_98 : tz Tryd.prog 98 = some [.int .u8 0, .int .u8 0, .int .u8 0, .int .u8 0, .int .u8 0, .int .u8 0, .int .u8 0, .int .u8 0, .int .u8 0, .int .u8 0, .int .u8 0, .int .u8 0, .int .u8 0, .int .u8 0, .int .u8 0, .int .u8 0, .int .u8 0, .int .u8 0, .int .u8 0, .int .u8 0, .int .u8 0, .int .u8 0, .int .u8 0, .int .u8 0] := by kernel_rfl
@[go_sem] theorem tplaces_98 : tplaces Tryd.prog 98 = none := by kernel_rfl
@[go_sem] theorem tarr_98 : tarr Tryd.prog 98 = some (24, 1, 5) := by kernel_rfl
@[go_sem] theorem tload_103 : tload Tryd.prog 103 = some none := by kernel_rfl
@[go_sem] theorem tsize_103 : tsize Tryd.prog 103 = some 1 := by kernel_rfl
@[go_sem] theorem tbytes_103 : tbytes Tryd.prog 103 = some 4 := by kernel_rfl
@[go_sem] theorem tcells_103 : Program.cellsOf Tryd.prog 103 = 1 := by kernel_rfl
@[go_sem] theorem tz_103 : tz Tryd.prog 103 = some [.int .u32 0] := by kernel_rfl
@[go_sem] theorem tload_106 : tload Tryd.prog 106 = some (some 256) := by kernel_rfl
@[go_sem] theorem tsize_106 : tsize Tryd.prog 106 = some 256 := by kernel_rfl
@[go_sem] theorem tbytes_106 : tbytes Tryd.prog 106 = some 256 := by kernel_rfl
@[go_sem] theorem tcells_106 : Program.cellsOf Tryd.prog 106 = 256 := by kernel_rfl
@[go_sem] theorem tz_106 : tz Tryd.prog 106 = some [.int .u8 0, .int .u8 0, .int .u8 0, .int .u8 0, .int .u8 0, .int .u8 0, .int .u8 0, .int .u8 0, .int .u8 0, .int .u8 0, .int .u8 0, .int .u8 0, .int .u8 0, .int .u8 0, .int .u8 0, .int .u8 0, .int .u8 0, .int .u8 0, .int .u8 0, .int .u8 0, .int .u8 0, .int .u8 0, .int .u8 0, .int .u8 0, .int .u8 0, .int .u8 0, .int .u8 0, .int .u8 0, .int .u8 0, .int .u8 0, .int .u8 0, .int .u8 0, .int .u8 0, .int .u8 0, .int .u8 0, .int .u8 0, .int .u8 0, .int .u8 0, .int .u8 0, .int .u8 0, .int .u8 0, .int .u8 0, .int .u8 0, .int .u8 0, .int .u8 0, .int .u8 0, .int .u8 0, .int .u8 0, .int .u8 0, .int .u8 0, .int .u8 0, .int .u8 0, .int .u8 0, .int .u8 0, .int .u8 0, .int .u8 0, .int .u8 0, .int .u8 0, .int .u8 0, .int .u8 0, .int .u8 0, .int .u8 0, .int .u8 0, .int .u8 0, .int .u8 0, .int .u8 0, .int .u8 0, .int .u8 0, .int .u8 0, .int .u8 0, .int .u8 0, .int .u8 0, .int .u8 0, .int .u8 0, .int .u8 0, .int .u8 0, .int .u8 0, .int .u8 0, .int .u8 0, .int .u8 0, .int .u8 0, .int .u8 0, .int .u8 0, .int .u8 0, .int .u8 0, .int .u8 0, .int .u8 0, .int .u8 0, .int .u8 0, .int .u8 0, .int .u8 0, .int .u8 0, .int .u8 0, .int .u8 0, .int .u8 0, .int .u8 0, .int .u8 0, .int .u8 0, .int .u8 0, .int .u8 0, .int .u8 0, .int .u8 0, .int .u8 0, .int .u8 0, .int .u8 0, .int .u8 0, .int .u8 0, .int .u8 0, .int .u8 0, .int .u8 0, .int .u8 0, .int .u8 0, .int .u8 0, .int .u8 0, .int .u8 0, .int .u8 0, .int .u8 0, .int .u8 0, .int .u8 0, .int .u8 0, .int .u8 0, .int .u8 0, .int .u8 0, .int .u8 0, .int .u8 0, .int .u8 0, .int .u8 0, .int .u8 0, .int .u8 0, .int .u8 0, .int .u8 0, .int .u8 0, .int .u8 0, .int .u8 0, .int .u8 0, .int .u8 0, .int .u8 0, .int .u8 0, .int .u8 0, .int .u8 0, .int .u8 0, .int .u8 0, .int .u8 0, .int .u8 0, .int .u8 0, .int .u8 0, .int .u8 0, .int .u8 0, .int .u8 0, .int .u8 0, .int .u8 0, .int .u8 0, .int .u8 0, .int .u8 0, .int .u8 0, .int .u8 0, .int .u8 0, .int .u8 0, .int .u8 0, .int .u8 0, .int .u8 0, .int .u8 0, .int .u8 0, .int .u8 0, .int .u8 0, .int .u8 0, .int .u8 0, .int .u8 0, .int .u8 0, .int .u8 0, .int .u8 0, .int .u8 0, .int .u8 0, .int .u8 0, .int .u8 0, .int .u8 0, .int .u8 0, .int .u8 0, .int .u8 0, .int .u8 0, .int .u8 0, .int .u8 0, .int .u8 0, .int .u8 0, .int .u8 0, .int .u8 0, .int .u8 0, .int .u8 0, .int .u8 0, .int .u8 0, .int .u8 0, .int .u8 0, .int .u8 0, .int .u8 0, .int .u8 0, .int .u8 0, .int .u8 0, .int .u8 0, .int .u8 0, .int .u8 0, .int .u8 0, .int .u8 0, .int .u8 0, .int .u8 0, .int .u8 0, .int .u8 0, .int .u8 0, .int .u8 0, .int .u8 0, .int .u8 0, .int .u8 0, .int .u8 0, .int .u8 0, .int .u8 0, .int .u8 0, .int .u8 0, .int .u8 0, .int .u8 0, .int .u8 0, .int .u8 0, .int .u8 0, .int .u8 0, .int .u8 0, .int .u8 0, .int .u8 0, .int .u8 0, .int .u8 0, .int .u8 0, .int .u8 0, .int .u8 0, .int .u8 0, .int .u8 0, .int .u8 0, .int .u8 0, .int .u8 0, .int .u8 0, .int .u8 0, .int .u8 0, .int .u8 0, .int .u8 0, .int .u8 0, .int .u8 0, .int .u8 0, .int .u8 0, .int .u8 0, .int .u8 0, .int .u8 0, .int .u8 0, .int .u8 0, .int .u8 0, .int .u8 0, .int .u8 0, .int .u8 0, .int .u8 0, .int .u8 0, .int .u8 0] := by kernel_rfl
@[go_sem] theorem tplaces_106 : tplaces Tryd.prog 106 = none := by kernel_rfl
@[go_sem] theorem tarr_106 : tarr Tryd.prog 106 = some (256, 1, 5) := by kernel_rfl
@[go_sem] theorem tload_107 : tload Tryd.prog 107 = some (some 2) := by kernel_rfl
@[go_sem] theorem tsize_107 : tsize Tryd.prog 107 = some 2 := by kernel_rfl
@[go_sem] theorem tbytes_107 : tbytes Tryd.prog 107 = some 2 := by kernel_rfl
@[go_sem] theorem tcells_107 : Program.cellsOf Tryd.prog 107 = 2 := by kernel_rfl
@[go_sem] theorem tz_107 : tz Tryd.prog 107 = some [.int .u8 0, .int .u8 0] := by kernel_rfl
@[go_sem] theorem tfield_107_0 : tfield Tryd.prog 107 0 = some (0, 5) := by kernel_rfl
@[go_sem] theorem tfield_107_1 : tfield Tryd.prog 107 1 = some (1, 5) := by kernel_rfl
@[go_sem] theorem tplaces_107 : tplaces Tryd.prog 107 = some [(0, 1), (1, 1)] := by kernel_rfl
@[go_sem] theorem tload_108 : tload Tryd.prog 108 = some (some 2) := by kernel_rfl
@[go_sem] theorem tsize_108 : tsize Tryd.prog 108 = some 2 := by kernel_rfl
@[go_sem] theorem tbytes_108 : tbytes Tryd.prog 108 = some 2 := by kernel_rfl
@[go_sem] theorem tcells_108 : Program.cellsOf Tryd.prog 108 = 2 := by kernel_rfl
@[go_sem] theorem tz_108 : tz Tryd.prog 108 = some [.int .u8 0, .int .u8 0] := by kernel_rfl
@[go_sem] theorem tfield_108_0 : tfield Tryd.prog 108 0 = some (0, 5) := by kernel_rfl
@[go_sem] theorem tfield_108_1 : tfield Tryd.prog 108 1 = some (1, 5) := by kernel_rfl
@[go_sem] theorem tplaces_108 : tplaces Tryd.prog 108 = some [(0, 1), (1, 1)] := by kernel_rfl
@[go_sem] theorem tload_109 : tload Tryd.prog 109 = some (some 32) := by kernel_rfl
@[go_sem] theorem tsize_109 : tsize Tryd.prog 109 = some 32 := by kernel_rfl
@[go_sem] theorem tbytes_109 : tbytes Tryd.prog 109 = some 32 := by kernel_rfl
@[go_sem] theorem tcells_109 : Program.cellsOf Tryd.prog 109 = 32 := by kernel_rfl
@[go_sem] theorem tz_109 : tz Tryd.prog 109 = some [.int .u8 0, .int .u8 0, .int .u8 0, .int .u8 0, .int .u8 0, .int .u8 0, .int .u8 0, .int .u8 0, .int .u8 0, .int .u8 0, .int .u8 0, .int .u8 0, .int .u8 0, .int .u8 0, .int .u8 0, .int .u8 0, .int .u8 0, .int .u8 0, .int .u8 0, .int .u8 0, .int .u8 0, .int .u8 0, .int .u8 0, .int .u8 0, .int .u8 0, .int .u8 0, .int .u8 0, .int .u8 0, .int .u8 0, .int .u8 0, .int .u8 0, .int .u8 0] := by kernel_rfl
@[go_sem] theorem tplaces_109 : tplaces Tryd.prog 109 = none := by kernel_rfl
@[go_sem] theorem tarr_109 : tarr Tryd.prog 109 = some (16, 2, 108) := by kernel_rfl
@[go_sem] theorem tload_111 : tload Tryd.prog 111 = some (some 20) := by kernel_rfl
@[go_sem] theorem tsize_111 : tsize Tryd.prog 111 = some 20 := by kernel_rfl
@[go_sem] theorem tbytes_111 : tbytes Tryd.prog 111 = some 160 := by kernel_rfl
@[go_sem] theorem tcells_111 : Program.cellsOf Tryd.prog 111 = 20 := by kernel_rfl
@[go_sem] theorem tz_111 : tz Tryd.prog 111 = some [.int .u64 0, .int .u64 0, .int .u64 0, .int .u64 0, .int .u64 0, .int .u64 0, .int .u64 0, .int .u64 0, .int .u64 0, .int .u64 0, .int .u64 0, .int .u64 0, .int .u64 0, .int .u64 0, .int .u64 0, .int .u64 0, .int .u64 0, .int .u64 0, .int .u64 0, .int .u64 0] := by kernel_rfl
@[go_sem] theorem tplaces_111 : tplaces Tryd.prog 111 = none := by kernel_rfl
@[go_sem] theorem tarr_111 : tarr Tryd.prog 111 = some (20, 1, 60) := by kernel_rfl
@[go_sem] theorem tload_112 : tload Tryd.prog 112 = some (some 65) := by kernel_rfl
@[go_sem] theorem tsize_112 : tsize Tryd.prog 112 = some 65 := by kernel_rfl
@[go_sem] theorem tbytes_112 : tbytes Tryd.prog 112 = some 65 := by kernel_rfl
@[go_sem] theorem tcells_112 : Program.cellsOf Tryd.prog 112 = 65 := by kernel_rfl
@[go_sem] theorem tz_112 : tz Tryd.prog 112 = some [.int .u8 0, .int .u8 0, .int .u8 0, .int .u8 0, .int .u8 0, .int .u8 0, .int .u8 0, .int .u8 0, .int .u8 0, .int .u8 0, .int .u8 0, .int .u8 0, .int .u8 0, .int .u8 0, .int .u8 0, .int .u8 0, .int .u8 0, .int .u8 0, .int .u8 0, .int .u8 0, .int .u8 0, .int .u8 0, .int .u8 0, .int .u8 0, .int .u8 0, .int .u8 0, .int .u8 0, .int .u8 0, .int .u8 0, .int .u8 0, .int .u8 0, .int .u8 0, .int .u8 0, .int .u8 0, .int .u8 0, .int .u8 0, .int .u8 0, .int .u8 0, .int .u8 0, .int .u8 0, .int .u8 0, .int .u8 0, .int .u8 0, .int .u8 0, .int .u8 0, .int .u8 0, .int .u8 0, .int .u8 0, .int .u8 0, .int .u8 0, .int .u8 0, .int .u8 0, .int .u8 0, .int .u8 0, .int .u8 0, .int .u8 0, .int .u8 0, .int .u8 0, .int .u8 0, .int .u8 0, .int .u8 0, .int .u8 0, .int .u8 0, .int .u8 0, .int .u8 0] := by kernel_rfl
@[go_sem] theorem tplaces_112 : tplaces Tryd.prog 112 = none := by kernel_rfl
@[go_sem] theorem tarr_112 : tarr Tryd.prog 112 = some (65, 1, 5) := by kernel_rfl
@[go_sem] theorem tload_115 : tload Tryd.prog 115 = some (some 32) := by kernel_rfl
@[go_sem] theorem tsize_115 : tsize Tryd.prog 115 = some 32 := by kernel_rfl
@[go_sem] theorem tbytes_115 : tbytes Tryd.prog 115 = some 32 := by kernel_rfl
@[go_sem] theorem tcells_115 : Program.cellsOf Tryd.prog 115 = 32 := by kernel_rfl
@[go_sem] theorem tz_115 : tz Tryd.prog 115 = some [.int .u8 0, .int .u8 0, .int .u8 0, .int .u8 0, .int .u8 0, .int .u8 0, .int .u8 0, .int .u8 0, .int .u8 0, .int .u8 0, .int .u8 0, .int .u8 0, .int .u8 0, .int .u8 0, .int .u8 0, .int .u8 0, .int .u8 0, .int .u8 0, .int .u8 0, .int .u8 0, .int .u8 0, .int .u8 0, .int .u8 0, .int .u8 0, .int .u8 0, .int .u8 0, .int .u8 0, .int .u8 0, .int .u8 0, .int .u8 0, .int .u8 0, .int .u8 0] := by kernel_rfl
@[go_sem] theorem tplaces_115 : tplaces Tryd.prog 115 = none := by kernel_rfl
@[go_sem] theorem tarr_115 : tarr Tryd.prog 115 = some (32, 1, 5) := by kernel_rfl
@[go_sem] theorem tload_116 : tload Tryd.prog 116 = some (some 64) := by kernel_rfl
@[go_sem] theorem tsize_116 : tsize Tryd.prog 116 = some 64 := by kernel_rfl
@[go_sem] theorem tbytes_116 : tbytes Tryd.prog 116 = some 64 := by kernel_rfl
@[go_sem] theorem tcells_116 : Program.cellsOf Tryd.prog 116 = 64 := by kernel_rfl
@[go_sem] theorem tz_116 : tz Tryd.prog 116 = some [.int .u8 0, .int .u8 0, .int .u8 0, .int .u8 0, .int .u8 0, .int .u8 0, .int .u8 0, .int .u8 0, .int .u8 0, .int .u8 0, .int .u8 0, .int .u8 0, .int .u8 0, .int .u8 0, .int .u8 0, .int .u8 0, .int .u8 0, .int .u8 0, .int .u8 0, .int .u8 0, .int .u8 0, .int .u8 0, .int .u8 0, .int .u8 0, .int .u8 0, .int .u8 0, .int .u8 0, .int .u8 0, .int .u8 0, .int .u8 0, .int .u8 0, .int .u8 0, .int .u8 0, .int .u8 0, .int .u8 0, .int .u8 0, .int .u8 0, .int .u8 0, .int .u8 0, .int .u8 0, .int .u8 0, .int .u8 0, .int .u8 0, .int .u8 0, .int .u8 0, .int .u8 0, .int .u8 0, .int .u8 0, .int .u8 0, .int .u8 0, .int .u8 0, .int .u8 0, .int .u8 0, .int .u8 0, .int .u8 0, .int .u8 0, .int .u8 0, .int .u8 0, .int .u8 0, .int .u8 0, .int .u8 0, .int .u8 0, .int .u8 0, .int .u8 0] := by kernel_rfl
@[go_sem] theorem tplaces_116 : tplaces Tryd.prog 116 = none := by kernel_rfl
@[go_sem] theorem tarr_116 : tarr Tryd.prog 116 = some (64, 1, 5) := by kernel_rfl
attribute [go_sem] Tryd.underlying2
attribute [go_sem] Tryd.underlying3
attribute [go_sem] Tryd.underlying4
attribute [go_sem] Tryd.underlying5
attribute [go_sem] Tryd.underlying9
attribute [go_sem] Tryd.underlying12
attribute [go_sem] Tryd.underlying21
attribute [go_sem] Tryd.underlying60
attribute [go_sem] Tryd.underlying88
attribute [go_sem] Tryd.underlying103
end Go.Proofs.YtfolkgkcaiaifaaDoor
