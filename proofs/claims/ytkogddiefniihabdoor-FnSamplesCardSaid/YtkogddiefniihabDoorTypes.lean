/- What the seat's types are: sizes, zero values, places of fields. No condition. -/
import Derived.Test.YtkogddiefniihabDoorProg
import Derived.KernelRfl
import Derived.Test.YtkogddiefniihabDoorH3
namespace Go.Proofs.YtkogddiefniihabDoor
open Go.HH
set_option linter.unusedSimpArgs false
set_option linter.unusedVariables false
theorem mo : Tryd.prog.follows .mixedOrders = true := by kernel_rfl
theorem wrap64 {n : Int} (h : -9223372036854775808 ≤ n ∧ n ≤ 9223372036854775807) : IntKind.i64.wrap n = n := IntWalk.i64_in n h
theorem decb {p : Prop} [Decidable p] (h : p) : decide p = true := decide_eq_true h
theorem dect {p : Prop} [Decidable p] (h : ¬ p) : decide p = false := decide_eq_false h
@[go_sem] theorem tload_2 : tload Tryd.prog 2 = some none := by kernel_rfl
@[go_sem] theorem tsize_2 : tsize Tryd.prog 2 = some 1 := by kernel_rfl
@[go_sem] theorem tbytes_2 : tbytes Tryd.prog 2 = some 8 := by kernel_rfl
@[go_sem] theorem tcells_2 : Program.cellsOf Tryd.prog 2 = 1 := by kernel_rfl
@[go_sem] theorem tz_2 : tz Tryd.prog 2 = some [.int .i64 0] := by kernel_rfl
@[go_sem] theorem tload_3 : tload Tryd.prog 3 = some none := by kernel_rfl
@[go_sem] theorem tsize_3 : tsize Tryd.prog 3 = some 1 := by kernel_rfl
@[go_sem] theorem tbytes_3 : tbytes Tryd.prog 3 = some 8 := by kernel_rfl
@[go_sem] theorem tcells_3 : Program.cellsOf Tryd.prog 3 = 1 := by kernel_rfl
@[go_sem] theorem tz_3 : tz Tryd.prog 3 = some [.int .i64 0] := by kernel_rfl
@[go_sem] theorem tload_4 : tload Tryd.prog 4 = some none := by kernel_rfl
@[go_sem] theorem tsize_4 : tsize Tryd.prog 4 = some 1 := by kernel_rfl
@[go_sem] theorem tbytes_4 : tbytes Tryd.prog 4 = some 1 := by kernel_rfl
@[go_sem] theorem tcells_4 : Program.cellsOf Tryd.prog 4 = 1 := by kernel_rfl
@[go_sem] theorem tz_4 : tz Tryd.prog 4 = some [.bool false] := by kernel_rfl
@[go_sem] theorem tload_5 : tload Tryd.prog 5 = some none := by kernel_rfl
@[go_sem] theorem tsize_5 : tsize Tryd.prog 5 = some 1 := by kernel_rfl
@[go_sem] theorem tbytes_5 : tbytes Tryd.prog 5 = some 1 := by kernel_rfl
@[go_sem] theorem tcells_5 : Program.cellsOf Tryd.prog 5 = 1 := by kernel_rfl
@[go_sem] theorem tz_5 : tz Tryd.prog 5 = some [.int .u8 0] := by kernel_rfl
@[go_sem] theorem tload_9 : tload Tryd.prog 9 = some none := by kernel_rfl
@[go_sem] theorem tsize_9 : tsize Tryd.prog 9 = some 1 := by kernel_rfl
@[go_sem] theorem tbytes_9 : tbytes Tryd.prog 9 = some 16 := by kernel_rfl
@[go_sem] theorem tcells_9 : Program.cellsOf Tryd.prog 9 = 1 := by kernel_rfl
@[go_sem] theorem tz_9 : tz Tryd.prog 9 = some [.string ⟨#[]⟩] := by kernel_rfl
@[go_sem] theorem tload_12 : tload Tryd.prog 12 = some none := by kernel_rfl
@[go_sem] theorem tsize_12 : tsize Tryd.prog 12 = some 1 := by kernel_rfl
@[go_sem] theorem tbytes_12 : tbytes Tryd.prog 12 = some 8 := by kernel_rfl
@[go_sem] theorem tcells_12 : Program.cellsOf Tryd.prog 12 = 1 := by kernel_rfl
@[go_sem] theorem tz_12 : tz Tryd.prog 12 = some [.int .u64 0] := by kernel_rfl
@[go_sem] theorem tload_13 : tload Tryd.prog 13 = some (some 2) := by kernel_rfl
@[go_sem] theorem tsize_13 : tsize Tryd.prog 13 = some 2 := by kernel_rfl
@[go_sem] theorem tbytes_13 : tbytes Tryd.prog 13 = some 24 := by kernel_rfl
@[go_sem] theorem tcells_13 : Program.cellsOf Tryd.prog 13 = 2 := by kernel_rfl
@[go_sem] theorem tz_13 : tz Tryd.prog 13 = some [.string ⟨#[]⟩, .int .u64 0] := by kernel_rfl
@[go_sem] theorem tfield_13_0 : tfield Tryd.prog 13 0 = some (0, 9) := by kernel_rfl
@[go_sem] theorem tfield_13_1 : tfield Tryd.prog 13 1 = some (1, 12) := by kernel_rfl
@[go_sem] theorem tplaces_13 : tplaces Tryd.prog 13 = some [(0, 1), (1, 1)] := by kernel_rfl
@[go_sem] theorem tload_21 : tload Tryd.prog 21 = some none := by kernel_rfl
@[go_sem] theorem tsize_21 : tsize Tryd.prog 21 = some 1 := by kernel_rfl
@[go_sem] theorem tbytes_21 : tbytes Tryd.prog 21 = some 4 := by kernel_rfl
@[go_sem] theorem tcells_21 : Program.cellsOf Tryd.prog 21 = 1 := by kernel_rfl
@[go_sem] theorem tz_21 : tz Tryd.prog 21 = some [.int .i32 0] := by kernel_rfl
@[go_sem] theorem tload_22 : tload Tryd.prog 22 = some (some 4) := by kernel_rfl
@[go_sem] theorem tsize_22 : tsize Tryd.prog 22 = some 4 := by kernel_rfl
@[go_sem] theorem tbytes_22 : tbytes Tryd.prog 22 = some 32 := by kernel_rfl
@[go_sem] theorem tcells_22 : Program.cellsOf Tryd.prog 22 = 4 := by kernel_rfl
@[go_sem] theorem tz_22 : tz Tryd.prog 22 = some [.int .i64 0, .int .i64 0, .int .i64 0, .int .i64 0] := by kernel_rfl
@[go_sem] theorem tfield_22_0 : tfield Tryd.prog 22 0 = some (0, 3) := by kernel_rfl
@[go_sem] theorem tfield_22_1 : tfield Tryd.prog 22 1 = some (1, 3) := by kernel_rfl
@[go_sem] theorem tfield_22_2 : tfield Tryd.prog 22 2 = some (2, 3) := by kernel_rfl
@[go_sem] theorem tfield_22_3 : tfield Tryd.prog 22 3 = some (3, 3) := by kernel_rfl
@[go_sem] theorem tplaces_22 : tplaces Tryd.prog 22 = some [(0, 1), (1, 1), (2, 1), (3, 1)] := by kernel_rfl
@[go_sem] theorem tload_23 : tload Tryd.prog 23 = some (some 4) := by kernel_rfl
@[go_sem] theorem tsize_23 : tsize Tryd.prog 23 = some 4 := by kernel_rfl
@[go_sem] theorem tbytes_23 : tbytes Tryd.prog 23 = some 32 := by kernel_rfl
@[go_sem] theorem tcells_23 : Program.cellsOf Tryd.prog 23 = 4 := by kernel_rfl
@[go_sem] theorem tz_23 : tz Tryd.prog 23 = some [.int .i64 0, .int .i64 0, .int .i64 0, .int .i64 0] := by kernel_rfl
@[go_sem] theorem tfield_23_0 : tfield Tryd.prog 23 0 = some (0, 3) := by kernel_rfl
@[go_sem] theorem tfield_23_1 : tfield Tryd.prog 23 1 = some (1, 3) := by kernel_rfl
@[go_sem] theorem tfield_23_2 : tfield Tryd.prog 23 2 = some (2, 3) := by kernel_rfl
@[go_sem] theorem tfield_23_3 : tfield Tryd.prog 23 3 = some (3, 3) := by kernel_rfl
@[go_sem] theorem tflat_23 : flatK Tryd.prog 23 = some [0, 0, 0, 0] := by kernel_rfl
@[go_sem] theorem tplaces_23 : tplaces Tryd.prog 23 = some [(0, 1), (1, 1), (2, 1), (3, 1)] := by kernel_rfl
@[go_sem] theorem tload_26 : tload Tryd.prog 26 = some (some 4) := by kernel_rfl
@[go_sem] theorem tsize_26 : tsize Tryd.prog 26 = some 4 := by kernel_rfl
@[go_sem] theorem tbytes_26 : tbytes Tryd.prog 26 = some 32 := by kernel_rfl
@[go_sem] theorem tcells_26 : Program.cellsOf Tryd.prog 26 = 4 := by kernel_rfl
@[go_sem] theorem tz_26 : tz Tryd.prog 26 = some [.int .i64 0, .int .i64 0, .int .i64 0, .int .i64 0] := by kernel_rfl
@[go_sem] theorem tfield_26_0 : tfield Tryd.prog 26 0 = some (0, 3) := by kernel_rfl
@[go_sem] theorem tfield_26_1 : tfield Tryd.prog 26 1 = some (1, 3) := by kernel_rfl
@[go_sem] theorem tfield_26_2 : tfield Tryd.prog 26 2 = some (2, 3) := by kernel_rfl
@[go_sem] theorem tfield_26_3 : tfield Tryd.prog 26 3 = some (3, 3) := by kernel_rfl
@[go_sem] theorem tflat_26 : flatK Tryd.prog 26 = some [0, 0, 0, 0] := by kernel_rfl
@[go_sem] theorem tplaces_26 : tplaces Tryd.prog 26 = some [(0, 1), (1, 1), (2, 1), (3, 1)] := by kernel_rfl
@[go_sem] theorem tload_29 : tload Tryd.prog 29 = some none := by kernel_rfl
@[go_sem] theorem tsize_29 : tsize Tryd.prog 29 = some 1 := by kernel_rfl
@[go_sem] theorem tbytes_29 : tbytes Tryd.prog 29 = some 24 := by kernel_rfl
@[go_sem] theorem tcells_29 : Program.cellsOf Tryd.prog 29 = 1 := by kernel_rfl
@[go_sem] theorem tz_29 : tz Tryd.prog 29 = some [.slice none 0 0] := by kernel_rfl
@[go_sem] theorem telem_29 : telem Tryd.prog 29 = some (1, 5) := by kernel_rfl
@[go_sem] theorem tapp_29 : tapp Tryd.prog 29 = some (1, 1) := by kernel_rfl
@[go_sem] theorem tload_31 : tload Tryd.prog 31 = some none := by kernel_rfl
@[go_sem] theorem tsize_31 : tsize Tryd.prog 31 = some 1 := by kernel_rfl
@[go_sem] theorem tbytes_31 : tbytes Tryd.prog 31 = some 24 := by kernel_rfl
@[go_sem] theorem tcells_31 : Program.cellsOf Tryd.prog 31 = 1 := by kernel_rfl
@[go_sem] theorem tz_31 : tz Tryd.prog 31 = some [.slice none 0 0] := by kernel_rfl
@[go_sem] theorem telem_31 : telem Tryd.prog 31 = some (3, 38) := by kernel_rfl
@[go_sem] theorem tapp_31 : tapp Tryd.prog 31 = some (3, 24) := by kernel_rfl
@[go_sem] theorem tload_37 : tload Tryd.prog 37 = some (some 3) := by kernel_rfl
@[go_sem] theorem tsize_37 : tsize Tryd.prog 37 = some 3 := by kernel_rfl
@[go_sem] theorem tbytes_37 : tbytes Tryd.prog 37 = some 24 := by kernel_rfl
@[go_sem] theorem tcells_37 : Program.cellsOf Tryd.prog 37 = 3 := by kernel_rfl
@[go_sem] theorem tz_37 : tz Tryd.prog 37 = some [.int .i64 0, .int .i64 0, .int .i64 0] := by kernel_rfl
@[go_sem] theorem tfield_37_0 : tfield Tryd.prog 37 0 = some (0, 3) := by kernel_rfl
@[go_sem] theorem tfield_37_1 : tfield Tryd.prog 37 1 = some (1, 3) := by kernel_rfl
@[go_sem] theorem tfield_37_2 : tfield Tryd.prog 37 2 = some (2, 3) := by kernel_rfl
@[go_sem] theorem tplaces_37 : tplaces Tryd.prog 37 = some [(0, 1), (1, 1), (2, 1)] := by kernel_rfl
@[go_sem] theorem tload_38 : tload Tryd.prog 38 = some (some 3) := by kernel_rfl
@[go_sem] theorem tsize_38 : tsize Tryd.prog 38 = some 3 := by kernel_rfl
@[go_sem] theorem tbytes_38 : tbytes Tryd.prog 38 = some 24 := by kernel_rfl
@[go_sem] theorem tcells_38 : Program.cellsOf Tryd.prog 38 = 3 := by kernel_rfl
@[go_sem] theorem tz_38 : tz Tryd.prog 38 = some [.int .i64 0, .int .i64 0, .int .i64 0] := by kernel_rfl
@[go_sem] theorem tfield_38_0 : tfield Tryd.prog 38 0 = some (0, 3) := by kernel_rfl
@[go_sem] theorem tfield_38_1 : tfield Tryd.prog 38 1 = some (1, 3) := by kernel_rfl
@[go_sem] theorem tfield_38_2 : tfield Tryd.prog 38 2 = some (2, 3) := by kernel_rfl
@[go_sem] theorem tflat_38 : flatK Tryd.prog 38 = some [0, 0, 0] := by kernel_rfl
@[go_sem] theorem tplaces_38 : tplaces Tryd.prog 38 = some [(0, 1), (1, 1), (2, 1)] := by kernel_rfl
@[go_sem] theorem tload_52 : tload Tryd.prog 52 = some none := by kernel_rfl
@[go_sem] theorem tsize_52 : tsize Tryd.prog 52 = some 1 := by kernel_rfl
@[go_sem] theorem tbytes_52 : tbytes Tryd.prog 52 = some 24 := by kernel_rfl
@[go_sem] theorem tcells_52 : Program.cellsOf Tryd.prog 52 = 1 := by kernel_rfl
@[go_sem] theorem tz_52 : tz Tryd.prog 52 = some [.slice none 0 0] := by kernel_rfl
@[go_sem] theorem telem_52 : telem Tryd.prog 52 = some (4, 26) := by kernel_rfl
@[go_sem] theorem tapp_52 : tapp Tryd.prog 52 = some (4, 32) := by kernel_rfl
@[go_sem] theorem tload_54 : tload Tryd.prog 54 = some none := by kernel_rfl
@[go_sem] theorem tsize_54 : tsize Tryd.prog 54 = some 1 := by kernel_rfl
@[go_sem] theorem tbytes_54 : tbytes Tryd.prog 54 = some 24 := by kernel_rfl
@[go_sem] theorem tcells_54 : Program.cellsOf Tryd.prog 54 = 1 := by kernel_rfl
@[go_sem] theorem tz_54 : tz Tryd.prog 54 = some [.slice none 0 0] := by kernel_rfl
@[go_sem] theorem telem_54 : telem Tryd.prog 54 = some (1, 3) := by kernel_rfl
@[go_sem] theorem tapp_54 : tapp Tryd.prog 54 = some (1, 8) := by kernel_rfl
@[go_sem] theorem tload_73 : tload Tryd.prog 73 = some none := by kernel_rfl
@[go_sem] theorem tsize_73 : tsize Tryd.prog 73 = some 1 := by kernel_rfl
@[go_sem] theorem tbytes_73 : tbytes Tryd.prog 73 = some 8 := by kernel_rfl
@[go_sem] theorem tcells_73 : Program.cellsOf Tryd.prog 73 = 1 := by kernel_rfl
@[go_sem] theorem tz_73 : tz Tryd.prog 73 = some [.pointer none] := by kernel_rfl
@[go_sem] theorem tload_74 : tload Tryd.prog 74 = some none := by kernel_rfl
@[go_sem] theorem tsize_74 : tsize Tryd.prog 74 = some 1 := by kernel_rfl
@[go_sem] theorem tbytes_74 : tbytes Tryd.prog 74 = some 8 := by kernel_rfl
@[go_sem] theorem tcells_74 : Program.cellsOf Tryd.prog 74 = 1 := by kernel_rfl
@[go_sem] theorem tz_74 : tz Tryd.prog 74 = some [.int .u64 0] := by kernel_rfl
@[go_sem] theorem tload_75 : tload Tryd.prog 75 = some (some 3) := by kernel_rfl
@[go_sem] theorem tsize_75 : tsize Tryd.prog 75 = some 3 := by kernel_rfl
@[go_sem] theorem tbytes_75 : tbytes Tryd.prog 75 = some 40 := by kernel_rfl
@[go_sem] theorem tcells_75 : Program.cellsOf Tryd.prog 75 = 3 := by kernel_rfl
@[go_sem] theorem tz_75 : tz Tryd.prog 75 = some [.slice none 0 0, .int .i64 0, .int .u64 0] := by kernel_rfl
@[go_sem] theorem tfield_75_0 : tfield Tryd.prog 75 0 = some (0, 29) := by kernel_rfl
@[go_sem] theorem tfield_75_1 : tfield Tryd.prog 75 1 = some (1, 3) := by kernel_rfl
@[go_sem] theorem tfield_75_2 : tfield Tryd.prog 75 2 = some (2, 74) := by kernel_rfl
@[go_sem] theorem tplaces_75 : tplaces Tryd.prog 75 = some [(0, 1), (1, 1), (2, 1)] := by kernel_rfl
@[go_sem] theorem tload_76 : tload Tryd.prog 76 = some (some 3) := by kernel_rfl
@[go_sem] theorem tsize_76 : tsize Tryd.prog 76 = some 3 := by kernel_rfl
@[go_sem] theorem tbytes_76 : tbytes Tryd.prog 76 = some 40 := by kernel_rfl
@[go_sem] theorem tcells_76 : Program.cellsOf Tryd.prog 76 = 3 := by kernel_rfl
@[go_sem] theorem tz_76 : tz Tryd.prog 76 = some [.slice none 0 0, .int .i64 0, .int .u64 0] := by kernel_rfl
@[go_sem] theorem tfield_76_0 : tfield Tryd.prog 76 0 = some (0, 29) := by kernel_rfl
@[go_sem] theorem tfield_76_1 : tfield Tryd.prog 76 1 = some (1, 3) := by kernel_rfl
@[go_sem] theorem tfield_76_2 : tfield Tryd.prog 76 2 = some (2, 74) := by kernel_rfl
@[go_sem] theorem tplaces_76 : tplaces Tryd.prog 76 = some [(0, 1), (1, 1), (2, 1)] := by kernel_rfl
@[go_sem] theorem tload_85 : tload Tryd.prog 85 = some none := by kernel_rfl
@[go_sem] theorem tsize_85 : tsize Tryd.prog 85 = some 1 := by kernel_rfl
@[go_sem] theorem tbytes_85 : tbytes Tryd.prog 85 = some 24 := by kernel_rfl
@[go_sem] theorem tcells_85 : Program.cellsOf Tryd.prog 85 = 1 := by kernel_rfl
@[go_sem] theorem tz_85 : tz Tryd.prog 85 = some [.slice none 0 0] := by kernel_rfl
@[go_sem] theorem telem_85 : telem Tryd.prog 85 = some (1, 9) := by kernel_rfl
@[go_sem] theorem tapp_85 : tapp Tryd.prog 85 = some (1, 16) := by kernel_rfl
@[go_sem] theorem tload_93 : tload Tryd.prog 93 = some (some 5) := by kernel_rfl
@[go_sem] theorem tsize_93 : tsize Tryd.prog 93 = some 5 := by kernel_rfl
@[go_sem] theorem tbytes_93 : tbytes Tryd.prog 93 = some 80 := by kernel_rfl
@[go_sem] theorem tcells_93 : Program.cellsOf Tryd.prog 93 = 5 := by kernel_rfl
@[go_sem] theorem tz_93 : tz Tryd.prog 93 = some [.string ⟨#[]⟩, .string ⟨#[]⟩, .string ⟨#[]⟩, .string ⟨#[]⟩, .string ⟨#[]⟩] := by kernel_rfl
@[go_sem] theorem tplaces_93 : tplaces Tryd.prog 93 = none := by kernel_rfl
@[go_sem] theorem tarr_93 : tarr Tryd.prog 93 = some (5, 1, 9) := by kernel_rfl
@[go_sem] theorem tload_114 : tload Tryd.prog 114 = some none := by kernel_rfl
@[go_sem] theorem tsize_114 : tsize Tryd.prog 114 = some 1 := by kernel_rfl
@[go_sem] theorem tbytes_114 : tbytes Tryd.prog 114 = some 8 := by kernel_rfl
@[go_sem] theorem tcells_114 : Program.cellsOf Tryd.prog 114 = 1 := by kernel_rfl
@[go_sem] theorem tz_114 : tz Tryd.prog 114 = some [.int .u64 0] := by kernel_rfl
@[go_sem] theorem tload_116 : tload Tryd.prog 116 = some (some 5) := by kernel_rfl
@[go_sem] theorem tsize_116 : tsize Tryd.prog 116 = some 5 := by kernel_rfl
@[go_sem] theorem tbytes_116 : tbytes Tryd.prog 116 = some 40 := by kernel_rfl
@[go_sem] theorem tcells_116 : Program.cellsOf Tryd.prog 116 = 5 := by kernel_rfl
@[go_sem] theorem tz_116 : tz Tryd.prog 116 = some [.int .i64 0, .int .i64 0, .int .i64 0, .int .i64 0, .int .i64 0] := by kernel_rfl
@[go_sem] theorem tplaces_116 : tplaces Tryd.prog 116 = none := by kernel_rfl
@[go_sem] theorem tarr_116 : tarr Tryd.prog 116 = some (5, 1, 3) := by kernel_rfl
@[go_sem] theorem tload_117 : tload Tryd.prog 117 = some none := by kernel_rfl
@[go_sem] theorem tsize_117 : tsize Tryd.prog 117 = some 1 := by kernel_rfl
@[go_sem] theorem tbytes_117 : tbytes Tryd.prog 117 = some 8 := by kernel_rfl
@[go_sem] theorem tcells_117 : Program.cellsOf Tryd.prog 117 = 1 := by kernel_rfl
@[go_sem] theorem tz_117 : tz Tryd.prog 117 = some [.pointer none] := by kernel_rfl
@[go_sem] theorem tload_118 : tload Tryd.prog 118 = some (some 2) := by kernel_rfl
@[go_sem] theorem tsize_118 : tsize Tryd.prog 118 = some 2 := by kernel_rfl
@[go_sem] theorem tbytes_118 : tbytes Tryd.prog 118 = some 32 := by kernel_rfl
@[go_sem] theorem tcells_118 : Program.cellsOf Tryd.prog 118 = 2 := by kernel_rfl
@[go_sem] theorem tz_118 : tz Tryd.prog 118 = some [.pointer none, .slice none 0 0] := by kernel_rfl
@[go_sem] theorem tfield_118_0 : tfield Tryd.prog 118 0 = some (0, 117) := by kernel_rfl
@[go_sem] theorem tfield_118_1 : tfield Tryd.prog 118 1 = some (1, 29) := by kernel_rfl
@[go_sem] theorem tplaces_118 : tplaces Tryd.prog 118 = some [(0, 1), (1, 1)] := by kernel_rfl
@[go_sem] theorem tload_119 : tload Tryd.prog 119 = some (some 2) := by kernel_rfl
@[go_sem] theorem tsize_119 : tsize Tryd.prog 119 = some 2 := by kernel_rfl
@[go_sem] theorem tbytes_119 : tbytes Tryd.prog 119 = some 32 := by kernel_rfl
@[go_sem] theorem tcells_119 : Program.cellsOf Tryd.prog 119 = 2 := by kernel_rfl
@[go_sem] theorem tz_119 : tz Tryd.prog 119 = some [.pointer none, .slice none 0 0] := by kernel_rfl
@[go_sem] theorem tfield_119_0 : tfield Tryd.prog 119 0 = some (0, 117) := by kernel_rfl
@[go_sem] theorem tfield_119_1 : tfield Tryd.prog 119 1 = some (1, 29) := by kernel_rfl
@[go_sem] theorem tplaces_119 : tplaces Tryd.prog 119 = some [(0, 1), (1, 1)] := by kernel_rfl
@[go_sem] theorem tload_122 : tload Tryd.prog 122 = some none := by kernel_rfl
@[go_sem] theorem tsize_122 : tsize Tryd.prog 122 = some 1 := by kernel_rfl
@[go_sem] theorem tbytes_122 : tbytes Tryd.prog 122 = some 16 := by kernel_rfl
@[go_sem] theorem tcells_122 : Program.cellsOf Tryd.prog 122 = 1 := by kernel_rfl
@[go_sem] theorem tz_122 : tz Tryd.prog 122 = some [.nilIface] := by kernel_rfl
@[go_sem] theorem tload_127 : tload Tryd.prog 127 = some (some 24) := by kernel_rfl
@[go_sem] theorem tsize_127 : tsize Tryd.prog 127 = some 24 := by kernel_rfl
@[go_sem] theorem tbytes_127 : tbytes Tryd.prog 127 = some 24 := by kernel_rfl
@[go_sem] theorem tcells_127 : Program.cellsOf Tryd.prog 127 = 24 := by kernel_rfl
@[go_sem] theorem tz_127 : tz Tryd.prog 127 = some [.int .u8 0, .int .u8 0, .int .u8 0, .int .u8 0, .int .u8 0, .int .u8 0, .int .u8 0, .int .u8 0, .int .u8 0, .int .u8 0, .int .u8 0, .int .u8 0, .int .u8 0, .int .u8 0, .int .u8 0, .int .u8 0, .int .u8 0, .int .u8 0, .int .u8 0, .int .u8 0, .int .u8 0, .int .u8 0, .int .u8 0, .int .u8 0] := by kernel_rfl
@[go_sem] theorem tplaces_127 : tplaces Tryd.prog 127 = none := by kernel_rfl
@[go_sem] theorem tarr_127 : tarr Tryd.prog 127 = some (24, 1, 5) := by kernel_rfl
@[go_sem] theorem tload_133 : tload Tryd.prog 133 = some none := by kernel_rfl
@[go_sem] theorem tsize_133 : tsize Tryd.prog 133 = some 1 := by kernel_rfl
@[go_sem] theorem tbytes_133 : tbytes Tryd.prog 133 = some 8 := by kernel_rfl
@[go_sem] theorem tcells_133 : Program.cellsOf Tryd.prog 133 = 1 := by kernel_rfl
@[go_sem] theorem tz_133 : tz Tryd.prog 133 = some [.pointer none] := by kernel_rfl
@[go_sem] theorem tload_138 : tload Tryd.prog 138 = some (some 20) := by kernel_rfl
@[go_sem] theorem tsize_138 : tsize Tryd.prog 138 = some 20 := by kernel_rfl
@[go_sem] theorem tbytes_138 : tbytes Tryd.prog 138 = some 160 := by kernel_rfl
@[go_sem] theorem tcells_138 : Program.cellsOf Tryd.prog 138 = 20 := by kernel_rfl
@[go_sem] theorem tz_138 : tz Tryd.prog 138 = some [.int .u64 0, .int .u64 0, .int .u64 0, .int .u64 0, .int .u64 0, .int .u64 0, .int .u64 0, .int .u64 0, .int .u64 0, .int .u64 0, .int .u64 0, .int .u64 0, .int .u64 0, .int .u64 0, .int .u64 0, .int .u64 0, .int .u64 0, .int .u64 0, .int .u64 0, .int .u64 0] := by kernel_rfl
@[go_sem] theorem tplaces_138 : tplaces Tryd.prog 138 = none := by kernel_rfl
@[go_sem] theorem tarr_138 : tarr Tryd.prog 138 = some (20, 1, 74) := by kernel_rfl
@[go_sem] theorem tload_139 : tload Tryd.prog 139 = some none := by kernel_rfl
@[go_sem] theorem tsize_139 : tsize Tryd.prog 139 = some 1 := by kernel_rfl
@[go_sem] theorem tbytes_139 : tbytes Tryd.prog 139 = some 4 := by kernel_rfl
@[go_sem] theorem tcells_139 : Program.cellsOf Tryd.prog 139 = 1 := by kernel_rfl
@[go_sem] theorem tz_139 : tz Tryd.prog 139 = some [.int .u32 0] := by kernel_rfl
@[go_sem] theorem tload_140 : tload Tryd.prog 140 = some (some 65) := by kernel_rfl
@[go_sem] theorem tsize_140 : tsize Tryd.prog 140 = some 65 := by kernel_rfl
@[go_sem] theorem tbytes_140 : tbytes Tryd.prog 140 = some 65 := by kernel_rfl
@[go_sem] theorem tcells_140 : Program.cellsOf Tryd.prog 140 = 65 := by kernel_rfl
@[go_sem] theorem tz_140 : tz Tryd.prog 140 = some [.int .u8 0, .int .u8 0, .int .u8 0, .int .u8 0, .int .u8 0, .int .u8 0, .int .u8 0, .int .u8 0, .int .u8 0, .int .u8 0, .int .u8 0, .int .u8 0, .int .u8 0, .int .u8 0, .int .u8 0, .int .u8 0, .int .u8 0, .int .u8 0, .int .u8 0, .int .u8 0, .int .u8 0, .int .u8 0, .int .u8 0, .int .u8 0, .int .u8 0, .int .u8 0, .int .u8 0, .int .u8 0, .int .u8 0, .int .u8 0, .int .u8 0, .int .u8 0, .int .u8 0, .int .u8 0, .int .u8 0, .int .u8 0, .int .u8 0, .int .u8 0, .int .u8 0, .int .u8 0, .int .u8 0, .int .u8 0, .int .u8 0, .int .u8 0, .int .u8 0, .int .u8 0, .int .u8 0, .int .u8 0, .int .u8 0, .int .u8 0, .int .u8 0, .int .u8 0, .int .u8 0, .int .u8 0, .int .u8 0, .int .u8 0, .int .u8 0, .int .u8 0, .int .u8 0, .int .u8 0, .int .u8 0, .int .u8 0, .int .u8 0, .int .u8 0, .int .u8 0] := by kernel_rfl
@[go_sem] theorem tplaces_140 : tplaces Tryd.prog 140 = none := by kernel_rfl
@[go_sem] theorem tarr_140 : tarr Tryd.prog 140 = some (65, 1, 5) := by kernel_rfl
@[go_sem] theorem tload_148 : tload Tryd.prog 148 = some (some 256) := by kernel_rfl
@[go_sem] theorem tsize_148 : tsize Tryd.prog 148 = some 256 := by kernel_rfl
@[go_sem] theorem tbytes_148 : tbytes Tryd.prog 148 = some 256 := by kernel_rfl
@[go_sem] theorem tcells_148 : Program.cellsOf Tryd.prog 148 = 256 := by kernel_rfl
@[go_sem] theorem tz_148 : tz Tryd.prog 148 = some [.int .u8 0, .int .u8 0, .int .u8 0, .int .u8 0, .int .u8 0, .int .u8 0, .int .u8 0, .int .u8 0, .int .u8 0, .int .u8 0, .int .u8 0, .int .u8 0, .int .u8 0, .int .u8 0, .int .u8 0, .int .u8 0, .int .u8 0, .int .u8 0, .int .u8 0, .int .u8 0, .int .u8 0, .int .u8 0, .int .u8 0, .int .u8 0, .int .u8 0, .int .u8 0, .int .u8 0, .int .u8 0, .int .u8 0, .int .u8 0, .int .u8 0, .int .u8 0, .int .u8 0, .int .u8 0, .int .u8 0, .int .u8 0, .int .u8 0, .int .u8 0, .int .u8 0, .int .u8 0, .int .u8 0, .int .u8 0, .int .u8 0, .int .u8 0, .int .u8 0, .int .u8 0, .int .u8 0, .int .u8 0, .int .u8 0, .int .u8 0, .int .u8 0, .int .u8 0, .int .u8 0, .int .u8 0, .int .u8 0, .int .u8 0, .int .u8 0, .int .u8 0, .int .u8 0, .int .u8 0, .int .u8 0, .int .u8 0, .int .u8 0, .int .u8 0, .int .u8 0, .int .u8 0, .int .u8 0, .int .u8 0, .int .u8 0, .int .u8 0, .int .u8 0, .int .u8 0, .int .u8 0, .int .u8 0, .int .u8 0, .int .u8 0, .int .u8 0, .int .u8 0, .int .u8 0, .int .u8 0, .int .u8 0, .int .u8 0, .int .u8 0, .int .u8 0, .int .u8 0, .int .u8 0, .int .u8 0, .int .u8 0, .int .u8 0, .int .u8 0, .int .u8 0, .int .u8 0, .int .u8 0, .int .u8 0, .int .u8 0, .int .u8 0, .int .u8 0, .int .u8 0, .int .u8 0, .int .u8 0, .int .u8 0, .int .u8 0, .int .u8 0, .int .u8 0, .int .u8 0, .int .u8 0, .int .u8 0, .int .u8 0, .int .u8 0, .int .u8 0, .int .u8 0, .int .u8 0, .int .u8 0, .int .u8 0, .int .u8 0, .int .u8 0, .int .u8 0, .int .u8 0, .int .u8 0, .int .u8 0, .int .u8 0, .int .u8 0, .int .u8 0, .int .u8 0, .int .u8 0, .int .u8 0, .int .u8 0, .int .u8 0, .int .u8 0, .int .u8 0, .int .u8 0, .int .u8 0, .int .u8 0, .int .u8 0, .int .u8 0, .int .u8 0, .int .u8 0, .int .u8 0, .int .u8 0, .int .u8 0, .int .u8 0, .int .u8 0, .int .u8 0, .int .u8 0, .int .u8 0, .int .u8 0, .int .u8 0, .int .u8 0, .int .u8 0, .int .u8 0, .int .u8 0, .int .u8 0, .int .u8 0, .int .u8 0, .int .u8 0, .int .u8 0, .int .u8 0, .int .u8 0, .int .u8 0, .int .u8 0, .int .u8 0, .int .u8 0, .int .u8 0, .int .u8 0, .int .u8 0, .int .u8 0, .int .u8 0, .int .u8 0, .int .u8 0, .int .u8 0, .int .u8 0, .int .u8 0, .int .u8 0, .int .u8 0, .int .u8 0, .int .u8 0, .int .u8 0, .int .u8 0, .int .u8 0, .int .u8 0, .int .u8 0, .int .u8 0, .int .u8 0, .int .u8 0, .int .u8 0, .int .u8 0, .int .u8 0, .int .u8 0, .int .u8 0, .int .u8 0, .int .u8 0, .int .u8 0, .int .u8 0, .int .u8 0, .int .u8 0, .int .u8 0, .int .u8 0, .int .u8 0, .int .u8 0, .int .u8 0, .int .u8 0, .int .u8 0, .int .u8 0, .int .u8 0, .int .u8 0, .int .u8 0, .int .u8 0, .int .u8 0, .int .u8 0, .int .u8 0, .int .u8 0, .int .u8 0, .int .u8 0, .int .u8 0, .int .u8 0, .int .u8 0, .int .u8 0, .int .u8 0, .int .u8 0, .int .u8 0, .int .u8 0, .int .u8 0, .int .u8 0, .int .u8 0, .int .u8 0, .int .u8 0, .int .u8 0, .int .u8 0, .int .u8 0, .int .u8 0, .int .u8 0, .int .u8 0, .int .u8 0, .int .u8 0, .int .u8 0, .int .u8 0, .int .u8 0, .int .u8 0, .int .u8 0, .int .u8 0, .int .u8 0, .int .u8 0, .int .u8 0, .int .u8 0, .int .u8 0, .int .u8 0, .int .u8 0, .int .u8 0, .int .u8 0, .int .u8 0, .int .u8 0, .int .u8 0, .int .u8 0, .int .u8 0, .int .u8 0, .int .u8 0] := by kernel_rfl
@[go_sem] theorem tplaces_148 : tplaces Tryd.prog 148 = none := by kernel_rfl
@[go_sem] theorem tarr_148 : tarr Tryd.prog 148 = some (256, 1, 5) := by kernel_rfl
@[go_sem] theorem tload_149 : tload Tryd.prog 149 = some (some 2) := by kernel_rfl
@[go_sem] theorem tsize_149 : tsize Tryd.prog 149 = some 2 := by kernel_rfl
@[go_sem] theorem tbytes_149 : tbytes Tryd.prog 149 = some 2 := by kernel_rfl
@[go_sem] theorem tcells_149 : Program.cellsOf Tryd.prog 149 = 2 := by kernel_rfl
@[go_sem] theorem tz_149 : tz Tryd.prog 149 = some [.int .u8 0, .int .u8 0] := by kernel_rfl
@[go_sem] theorem tfield_149_0 : tfield Tryd.prog 149 0 = some (0, 5) := by kernel_rfl
@[go_sem] theorem tfield_149_1 : tfield Tryd.prog 149 1 = some (1, 5) := by kernel_rfl
@[go_sem] theorem tplaces_149 : tplaces Tryd.prog 149 = some [(0, 1), (1, 1)] := by kernel_rfl
@[go_sem] theorem tload_150 : tload Tryd.prog 150 = some (some 2) := by kernel_rfl
@[go_sem] theorem tsize_150 : tsize Tryd.prog 150 = some 2 := by kernel_rfl
@[go_sem] theorem tbytes_150 : tbytes Tryd.prog 150 = some 2 := by kernel_rfl
@[go_sem] theorem tcells_150 : Program.cellsOf Tryd.prog 150 = 2 := by kernel_rfl
@[go_sem] theorem tz_150 : tz Tryd.prog 150 = some [.int .u8 0, .int .u8 0] := by kernel_rfl
@[go_sem] theorem tfield_150_0 : tfield Tryd.prog 150 0 = some (0, 5) := by kernel_rfl
@[go_sem] theorem tfield_150_1 : tfield Tryd.prog 150 1 = some (1, 5) := by kernel_rfl
@[go_sem] theorem tplaces_150 : tplaces Tryd.prog 150 = some [(0, 1), (1, 1)] := by kernel_rfl
@[go_sem] theorem tload_151 : tload Tryd.prog 151 = some (some 32) := by kernel_rfl
@[go_sem] theorem tsize_151 : tsize Tryd.prog 151 = some 32 := by kernel_rfl
@[go_sem] theorem tbytes_151 : tbytes Tryd.prog 151 = some 32 := by kernel_rfl
@[go_sem] theorem tcells_151 : Program.cellsOf Tryd.prog 151 = 32 := by kernel_rfl
@[go_sem] theorem tz_151 : tz Tryd.prog 151 = some [.int .u8 0, .int .u8 0, .int .u8 0, .int .u8 0, .int .u8 0, .int .u8 0, .int .u8 0, .int .u8 0, .int .u8 0, .int .u8 0, .int .u8 0, .int .u8 0, .int .u8 0, .int .u8 0, .int .u8 0, .int .u8 0, .int .u8 0, .int .u8 0, .int .u8 0, .int .u8 0, .int .u8 0, .int .u8 0, .int .u8 0, .int .u8 0, .int .u8 0, .int .u8 0, .int .u8 0, .int .u8 0, .int .u8 0, .int .u8 0, .int .u8 0, .int .u8 0] := by kernel_rfl
@[go_sem] theorem tplaces_151 : tplaces Tryd.prog 151 = none := by kernel_rfl
@[go_sem] theorem tarr_151 : tarr Tryd.prog 151 = some (16, 2, 150) := by kernel_rfl
@[go_sem] theorem tload_152 : tload Tryd.prog 152 = some (some 32) := by kernel_rfl
@[go_sem] theorem tsize_152 : tsize Tryd.prog 152 = some 32 := by kernel_rfl
@[go_sem] theorem tbytes_152 : tbytes Tryd.prog 152 = some 32 := by kernel_rfl
@[go_sem] theorem tcells_152 : Program.cellsOf Tryd.prog 152 = 32 := by kernel_rfl
@[go_sem] theorem tz_152 : tz Tryd.prog 152 = some [.int .u8 0, .int .u8 0, .int .u8 0, .int .u8 0, .int .u8 0, .int .u8 0, .int .u8 0, .int .u8 0, .int .u8 0, .int .u8 0, .int .u8 0, .int .u8 0, .int .u8 0, .int .u8 0, .int .u8 0, .int .u8 0, .int .u8 0, .int .u8 0, .int .u8 0, .int .u8 0, .int .u8 0, .int .u8 0, .int .u8 0, .int .u8 0, .int .u8 0, .int .u8 0, .int .u8 0, .int .u8 0, .int .u8 0, .int .u8 0, .int .u8 0, .int .u8 0] := by kernel_rfl
@[go_sem] theorem tplaces_152 : tplaces Tryd.prog 152 = none := by kernel_rfl
@[go_sem] theorem tarr_152 : tarr Tryd.prog 152 = some (32, 1, 5) := by kernel_rfl
@[go_sem] theorem tload_153 : tload Tryd.prog 153 = some (some 64) := by kernel_rfl
@[go_sem] theorem tsize_153 : tsize Tryd.prog 153 = some 64 := by kernel_rfl
@[go_sem] theorem tbytes_153 : tbytes Tryd.prog 153 = some 64 := by kernel_rfl
@[go_sem] theorem tcells_153 : Program.cellsOf Tryd.prog 153 = 64 := by kernel_rfl
@[go_sem] theorem tz_153 : tz Tryd.prog 153 = some [.int .u8 0, .int .u8 0, .int .u8 0, .int .u8 0, .int .u8 0, .int .u8 0, .int .u8 0, .int .u8 0, .int .u8 0, .int .u8 0, .int .u8 0, .int .u8 0, .int .u8 0, .int .u8 0, .int .u8 0, .int .u8 0, .int .u8 0, .int .u8 0, .int .u8 0, .int .u8 0, .int .u8 0, .int .u8 0, .int .u8 0, .int .u8 0, .int .u8 0, .int .u8 0, .int .u8 0, .int .u8 0, .int .u8 0, .int .u8 0, .int .u8 0, .int .u8 0, .int .u8 0, .int .u8 0, .int .u8 0, .int .u8 0, .int .u8 0, .int .u8 0, .int .u8 0, .int .u8 0, .int .u8 0, .int .u8 0, .int .u8 0, .int .u8 0, .int .u8 0, .int .u8 0, .int .u8 0, .int .u8 0, .int .u8 0, .int .u8 0, .int .u8 0, .int .u8 0, .int .u8 0, .int .u8 0, .int .u8 0, .int .u8 0, .int .u8 0, .int .u8 0, .int .u8 0, .int .u8 0, .int .u8 0, .int .u8 0, .int .u8 0, .int .u8 0] := by kernel_rfl
@[go_sem] theorem tplaces_153 : tplaces Tryd.prog 153 = none := by kernel_rfl
@[go_sem] theorem tarr_153 : tarr Tryd.prog 153 = some (64, 1, 5) := by kernel_rfl
attribute [go_sem] Tryd.underlying2
attribute [go_sem] Tryd.underlying3
attribute [go_sem] Tryd.underlying4
attribute [go_sem] Tryd.underlying5
attribute [go_sem] Tryd.underlying9
attribute [go_sem] Tryd.underlying12
attribute [go_sem] Tryd.underlying21
attribute [go_sem] Tryd.underlying74
attribute [go_sem] Tryd.underlying114
attribute [go_sem] Tryd.underlying139
end Go.Proofs.YtkogddiefniihabDoor
