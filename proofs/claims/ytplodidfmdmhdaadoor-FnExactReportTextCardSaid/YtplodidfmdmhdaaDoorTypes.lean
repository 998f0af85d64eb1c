/- What the seat's types are: sizes, zero values, places of fields. No condition. -/
import Derived.Test.YtplodidfmdmhdaaDoorProg
import Derived.KernelRfl
import Derived.Test.YtplodidfmdmhdaaDoorH3
namespace Go.Proofs.YtplodidfmdmhdaaDoor
open Go.HH
set_option linter.unusedSimpArgs false
set_option linter.unusedVariables false
theorem mo : Tryd.prog.follows .mixedOrders = true := by kernel_rfl
theorem wrap64 {n : Int} (h : -9223372036854775808 ≤ n ∧ n ≤ 9223372036854775807) : IntKind.i64.wrap n = n := IntWalk.i64_in n h
theorem decb {p : Prop} [Decidable p] (h : p) : decide p = true := decide_eq_true h
theorem dect {p : Prop} [Decidable p] (h : ¬ p) : decide p = false := decide_eq_false h
@[go_sem] theorem tload_2 : tload Tryd.prog 2 = some none := by kernel_rfl
@[go_sem] theorem tsize_2 : tsize Tryd.prog 2 = some 1 := by kernel_rfl
@[go_sem] theorem tbytes_2 : tbytes Tryd.prog 2 = some 8 := by kernel_rfl
@[go_sem] theorem tcells_2 : Program.cellsOf Tryd.prog 2 = 1 := by kernel_rfl
@[go_sem] theorem tz_2 : tz Tryd.prog 2 = some [.int .i64 0] := by kernel_rfl
@[go_sem] theorem tload_3 : tload Tryd.prog 3 = some none := by kernel_rfl
@[go_sem] theorem tsize_3 : tsize Tryd.prog 3 = some 1 := by kernel_rfl
@[go_sem] theorem tbytes_3 : tbytes Tryd.prog 3 = some 8 := by kernel_rfl
@[go_sem] theorem tcells_3 : Program.cellsOf Tryd.prog 3 = 1 := by kernel_rfl
@[go_sem] theorem tz_3 : tz Tryd.prog 3 = some [.int .i64 0] := by kernel_rfl
@[go_sem] theorem tload_4 : tload Tryd.prog 4 = some none := by kernel_rfl
@[go_sem] theorem tsize_4 : tsize Tryd.prog 4 = some 1 := by kernel_rfl
@[go_sem] theorem tbytes_4 : tbytes Tryd.prog 4 = some 1 := by kernel_rfl
@[go_sem] theorem tcells_4 : Program.cellsOf Tryd.prog 4 = 1 := by kernel_rfl
@[go_sem] theorem tz_4 : tz Tryd.prog 4 = some [.bool false] := by kernel_rfl
@[go_sem] theorem tload_5 : tload Tryd.prog 5 = some none := by kernel_rfl
@[go_sem] theorem tsize_5 : tsize Tryd.prog 5 = some 1 := by kernel_rfl
@[go_sem] theorem tbytes_5 : tbytes Tryd.prog 5 = some 1 := by kernel_rfl
@[go_sem] theorem tcells_5 : Program.cellsOf Tryd.prog 5 = 1 := by kernel_rfl
@[go_sem] theorem tz_5 : tz Tryd.prog 5 = some [.int .u8 0] := by kernel_rfl
@[go_sem] theorem tload_9 : tload Tryd.prog 9 = some none := by kernel_rfl
@[go_sem] theorem tsize_9 : tsize Tryd.prog 9 = some 1 := by kernel_rfl
@[go_sem] theorem tbytes_9 : tbytes Tryd.prog 9 = some 16 := by kernel_rfl
@[go_sem] theorem tcells_9 : Program.cellsOf Tryd.prog 9 = 1 := by kernel_rfl
@[go_sem] theorem tz_9 : tz Tryd.prog 9 = some [.string ⟨#[]⟩] := by kernel_rfl
@[go_sem] theorem tload_12 : tload Tryd.prog 12 = some none := by kernel_rfl
@[go_sem] theorem tsize_12 : tsize Tryd.prog 12 = some 1 := by kernel_rfl
@[go_sem] theorem tbytes_12 : tbytes Tryd.prog 12 = some 8 := by kernel_rfl
@[go_sem] theorem tcells_12 : Program.cellsOf Tryd.prog 12 = 1 := by kernel_rfl
@[go_sem] theorem tz_12 : tz Tryd.prog 12 = some [.int .u64 0] := by kernel_rfl
@[go_sem] theorem tload_13 : tload Tryd.prog 13 = some (some 2) := by kernel_rfl
@[go_sem] theorem tsize_13 : tsize Tryd.prog 13 = some 2 := by kernel_rfl
@[go_sem] theorem tbytes_13 : tbytes Tryd.prog 13 = some 24 := by kernel_rfl
@[go_sem] theorem tcells_13 : Program.cellsOf Tryd.prog 13 = 2 := by kernel_rfl
@[go_sem] theorem tz_13 : tz Tryd.prog 13 = some [.string ⟨#[]⟩, .int .u64 0] := by kernel_rfl
@[go_sem] theorem tfield_13_0 : tfield Tryd.prog 13 0 = some (0, 9) := by kernel_rfl
@[go_sem] theorem tfield_13_1 : tfield Tryd.prog 13 1 = some (1, 12) := by kernel_rfl
@[go_sem] theorem tplaces_13 : tplaces Tryd.prog 13 = some [(0, 1), (1, 1)] := by kernel_rfl
@[go_sem] theorem tload_21 : tload Tryd.prog 21 = some none := by kernel_rfl
@[go_sem] theorem tsize_21 : tsize Tryd.prog 21 = some 1 := by kernel_rfl
@[go_sem] theorem tbytes_21 : tbytes Tryd.prog 21 = some 4 := by kernel_rfl
@[go_sem] theorem tcells_21 : Program.cellsOf Tryd.prog 21 = 1 := by kernel_rfl
@[go_sem] theorem tz_21 : tz Tryd.prog 21 = some [.int .i32 0] := by kernel_rfl
@[go_sem] theorem tload_22 : tload Tryd.prog 22 = some none := by kernel_rfl
@[go_sem] theorem tsize_22 : tsize Tryd.prog 22 = some 1 := by kernel_rfl
@[go_sem] theorem tbytes_22 : tbytes Tryd.prog 22 = some 24 := by kernel_rfl
@[go_sem] theorem tcells_22 : Program.cellsOf Tryd.prog 22 = 1 := by kernel_rfl
@[go_sem] theorem tz_22 : tz Tryd.prog 22 = some [.slice none 0 0] := by kernel_rfl
@[go_sem] theorem telem_22 : telem Tryd.prog 22 = some (3, 36) := by kernel_rfl
@[go_sem] theorem tapp_22 : tapp Tryd.prog 22 = some (3, 24) := by kernel_rfl
@[go_sem] theorem tload_26 : tload Tryd.prog 26 = some none := by kernel_rfl
@[go_sem] theorem tsize_26 : tsize Tryd.prog 26 = some 1 := by kernel_rfl
@[go_sem] theorem tbytes_26 : tbytes Tryd.prog 26 = some 24 := by kernel_rfl
@[go_sem] theorem tcells_26 : Program.cellsOf Tryd.prog 26 = 1 := by kernel_rfl
@[go_sem] theorem tz_26 : tz Tryd.prog 26 = some [.slice none 0 0] := by kernel_rfl
@[go_sem] theorem telem_26 : telem Tryd.prog 26 = some (3, 38) := by kernel_rfl
@[go_sem] theorem tapp_26 : tapp Tryd.prog 26 = some (3, 24) := by kernel_rfl
@[go_sem] theorem tload_30 : tload Tryd.prog 30 = some none := by kernel_rfl
@[go_sem] theorem tsize_30 : tsize Tryd.prog 30 = some 1 := by kernel_rfl
@[go_sem] theorem tbytes_30 : tbytes Tryd.prog 30 = some 24 := by kernel_rfl
@[go_sem] theorem tcells_30 : Program.cellsOf Tryd.prog 30 = 1 := by kernel_rfl
@[go_sem] theorem tz_30 : tz Tryd.prog 30 = some [.slice none 0 0] := by kernel_rfl
@[go_sem] theorem telem_30 : telem Tryd.prog 30 = some (1, 3) := by kernel_rfl
@[go_sem] theorem tapp_30 : tapp Tryd.prog 30 = some (1, 8) := by kernel_rfl
@[go_sem] theorem tload_35 : tload Tryd.prog 35 = some (some 3) := by kernel_rfl
@[go_sem] theorem tsize_35 : tsize Tryd.prog 35 = some 3 := by kernel_rfl
@[go_sem] theorem tbytes_35 : tbytes Tryd.prog 35 = some 24 := by kernel_rfl
@[go_sem] theorem tcells_35 : Program.cellsOf Tryd.prog 35 = 3 := by kernel_rfl
@[go_sem] theorem tz_35 : tz Tryd.prog 35 = some [.int .i64 0, .int .i64 0, .int .i64 0] := by kernel_rfl
@[go_sem] theorem tfield_35_0 : tfield Tryd.prog 35 0 = some (0, 3) := by kernel_rfl
@[go_sem] theorem tfield_35_1 : tfield Tryd.prog 35 1 = some (1, 3) := by kernel_rfl
@[go_sem] theorem tfield_35_2 : tfield Tryd.prog 35 2 = some (2, 3) := by kernel_rfl
@[go_sem] theorem tplaces_35 : tplaces Tryd.prog 35 = some [(0, 1), (1, 1), (2, 1)] := by kernel_rfl
@[go_sem] theorem tload_36 : tload Tryd.prog 36 = some (some 3) := by kernel_rfl
@[go_sem] theorem tsize_36 : tsize Tryd.prog 36 = some 3 := by kernel_rfl
@[go_sem] theorem tbytes_36 : tbytes Tryd.prog 36 = some 24 := by kernel_rfl
@[go_sem] theorem tcells_36 : Program.cellsOf Tryd.prog 36 = 3 := by kernel_rfl
@[go_sem] theorem tz_36 : tz Tryd.prog 36 = some [.int .i64 0, .int .i64 0, .int .i64 0] := by kernel_rfl
@[go_sem] theorem tfield_36_0 : tfield Tryd.prog 36 0 = some (0, 3) := by kernel_rfl
@[go_sem] theorem tfield_36_1 : tfield Tryd.prog 36 1 = some (1, 3) := by kernel_rfl
@[go_sem] theorem tfield_36_2 : tfield Tryd.prog 36 2 = some (2, 3) := by kernel_rfl
@[go_sem] theorem tplaces_36 : tplaces Tryd.prog 36 = some [(0, 1), (1, 1), (2, 1)] := by kernel_rfl
@[go_sem] theorem tload_38 : tload Tryd.prog 38 = some (some 3) := by kernel_rfl
@[go_sem] theorem tsize_38 : tsize Tryd.prog 38 = some 3 := by kernel_rfl
@[go_sem] theorem tbytes_38 : tbytes Tryd.prog 38 = some 24 := by kernel_rfl
@[go_sem] theorem tcells_38 : Program.cellsOf Tryd.prog 38 = 3 := by kernel_rfl
@[go_sem] theorem tz_38 : tz Tryd.prog 38 = some [.int .i64 0, .int .i64 0, .int .i64 0] := by kernel_rfl
@[go_sem] theorem tfield_38_0 : tfield Tryd.prog 38 0 = some (0, 3) := by kernel_rfl
@[go_sem] theorem tfield_38_1 : tfield Tryd.prog 38 1 = some (1, 3) := by kernel_rfl
@[go_sem] theorem tfield_38_2 : tfield Tryd.prog 38 2 = some (2, 3) := by kernel_rfl
@[go_sem] theorem tplaces_38 : tplaces Tryd.prog 38 = some [(0, 1), (1, 1), (2, 1)] := by kernel_rfl
@[go_sem] theorem tload_41 : tload Tryd.prog 41 = some (some 2) := by kernel_rfl
@[go_sem] theorem tsize_41 : tsize Tryd.prog 41 = some 2 := by kernel_rfl
@[go_sem] theorem tbytes_41 : tbytes Tryd.prog 41 = some 32 := by kernel_rfl
@[go_sem] theorem tcells_41 : Program.cellsOf Tryd.prog 41 = 2 := by kernel_rfl
@[go_sem] theorem tz_41 : tz Tryd.prog 41 = some [.string ⟨#[]⟩, .string ⟨#[]⟩] := by kernel_rfl
@[go_sem] theorem tfield_41_0 : tfield Tryd.prog 41 0 = some (0, 9) := by kernel_rfl
@[go_sem] theorem tfield_41_1 : tfield Tryd.prog 41 1 = some (1, 9) := by kernel_rfl
@[go_sem] theorem tplaces_41 : tplaces Tryd.prog 41 = some [(0, 1), (1, 1)] := by kernel_rfl
@[go_sem] theorem tload_42 : tload Tryd.prog 42 = some (some 2) := by kernel_rfl
@[go_sem] theorem tsize_42 : tsize Tryd.prog 42 = some 2 := by kernel_rfl
@[go_sem] theorem tbytes_42 : tbytes Tryd.prog 42 = some 32 := by kernel_rfl
@[go_sem] theorem tcells_42 : Program.cellsOf Tryd.prog 42 = 2 := by kernel_rfl
@[go_sem] theorem tz_42 : tz Tryd.prog 42 = some [.string ⟨#[]⟩, .string ⟨#[]⟩] := by kernel_rfl
@[go_sem] theorem tfield_42_0 : tfield Tryd.prog 42 0 = some (0, 9) := by kernel_rfl
@[go_sem] theorem tfield_42_1 : tfield Tryd.prog 42 1 = some (1, 9) := by kernel_rfl
@[go_sem] theorem tplaces_42 : tplaces Tryd.prog 42 = some [(0, 1), (1, 1)] := by kernel_rfl
@[go_sem] theorem tload_45 : tload Tryd.prog 45 = some (some 2) := by kernel_rfl
@[go_sem] theorem tsize_45 : tsize Tryd.prog 45 = some 2 := by kernel_rfl
@[go_sem] theorem tbytes_45 : tbytes Tryd.prog 45 = some 32 := by kernel_rfl
@[go_sem] theorem tcells_45 : Program.cellsOf Tryd.prog 45 = 2 := by kernel_rfl
@[go_sem] theorem tz_45 : tz Tryd.prog 45 = some [.string ⟨#[]⟩, .string ⟨#[]⟩] := by kernel_rfl
@[go_sem] theorem tfield_45_0 : tfield Tryd.prog 45 0 = some (0, 9) := by kernel_rfl
@[go_sem] theorem tfield_45_1 : tfield Tryd.prog 45 1 = some (1, 9) := by kernel_rfl
@[go_sem] theorem tplaces_45 : tplaces Tryd.prog 45 = some [(0, 1), (1, 1)] := by kernel_rfl
@[go_sem] theorem tload_48 : tload Tryd.prog 48 = some (some 4) := by kernel_rfl
@[go_sem] theorem tsize_48 : tsize Tryd.prog 48 = some 4 := by kernel_rfl
@[go_sem] theorem tbytes_48 : tbytes Tryd.prog 48 = some 32 := by kernel_rfl
@[go_sem] theorem tcells_48 : Program.cellsOf Tryd.prog 48 = 4 := by kernel_rfl
@[go_sem] theorem tz_48 : tz Tryd.prog 48 = some [.int .i64 0, .int .i64 0, .int .i64 0, .int .i64 0] := by kernel_rfl
@[go_sem] theorem tfield_48_0 : tfield Tryd.prog 48 0 = some (0, 3) := by kernel_rfl
@[go_sem] theorem tfield_48_1 : tfield Tryd.prog 48 1 = some (1, 3) := by kernel_rfl
@[go_sem] theorem tfield_48_2 : tfield Tryd.prog 48 2 = some (2, 3) := by kernel_rfl
@[go_sem] theorem tfield_48_3 : tfield Tryd.prog 48 3 = some (3, 3) := by kernel_rfl
@[go_sem] theorem tplaces_48 : tplaces Tryd.prog 48 = some [(0, 1), (1, 1), (2, 1), (3, 1)] := by kernel_rfl
@[go_sem] theorem tload_49 : tload Tryd.prog 49 = some (some 4) := by kernel_rfl
@[go_sem] theorem tsize_49 : tsize Tryd.prog 49 = some 4 := by kernel_rfl
@[go_sem] theorem tbytes_49 : tbytes Tryd.prog 49 = some 32 := by kernel_rfl
@[go_sem] theorem tcells_49 : Program.cellsOf Tryd.prog 49 = 4 := by kernel_rfl
@[go_sem] theorem tz_49 : tz Tryd.prog 49 = some [.int .i64 0, .int .i64 0, .int .i64 0, .int .i64 0] := by kernel_rfl
@[go_sem] theorem tfield_49_0 : tfield Tryd.prog 49 0 = some (0, 3) := by kernel_rfl
@[go_sem] theorem tfield_49_1 : tfield Tryd.prog 49 1 = some (1, 3) := by kernel_rfl
@[go_sem] theorem tfield_49_2 : tfield Tryd.prog 49 2 = some (2, 3) := by kernel_rfl
@[go_sem] theorem tfield_49_3 : tfield Tryd.prog 49 3 = some (3, 3) := by kernel_rfl
@[go_sem] theorem tplaces_49 : tplaces Tryd.prog 49 = some [(0, 1), (1, 1), (2, 1), (3, 1)] := by kernel_rfl
@[go_sem] theorem tload_51 : tload Tryd.prog 51 = some (some 4) := by kernel_rfl
@[go_sem] theorem tsize_51 : tsize Tryd.prog 51 = some 4 := by kernel_rfl
@[go_sem] theorem tbytes_51 : tbytes Tryd.prog 51 = some 32 := by kernel_rfl
@[go_sem] theorem tcells_51 : Program.cellsOf Tryd.prog 51 = 4 := by kernel_rfl
@[go_sem] theorem tz_51 : tz Tryd.prog 51 = some [.int .i64 0, .int .i64 0, .int .i64 0, .int .i64 0] := by kernel_rfl
@[go_sem] theorem tfield_51_0 : tfield Tryd.prog 51 0 = some (0, 3) := by kernel_rfl
@[go_sem] theorem tfield_51_1 : tfield Tryd.prog 51 1 = some (1, 3) := by kernel_rfl
@[go_sem] theorem tfield_51_2 : tfield Tryd.prog 51 2 = some (2, 3) := by kernel_rfl
@[go_sem] theorem tfield_51_3 : tfield Tryd.prog 51 3 = some (3, 3) := by kernel_rfl
@[go_sem] theorem tplaces_51 : tplaces Tryd.prog 51 = some [(0, 1), (1, 1), (2, 1), (3, 1)] := by kernel_rfl
@[go_sem] theorem tload_54 : tload Tryd.prog 54 = some none := by kernel_rfl
@[go_sem] theorem tsize_54 : tsize Tryd.prog 54 = some 1 := by kernel_rfl
@[go_sem] theorem tbytes_54 : tbytes Tryd.prog 54 = some 24 := by kernel_rfl
@[go_sem] theorem tcells_54 : Program.cellsOf Tryd.prog 54 = 1 := by kernel_rfl
@[go_sem] theorem tz_54 : tz Tryd.prog 54 = some [.slice none 0 0] := by kernel_rfl
@[go_sem] theorem telem_54 : telem Tryd.prog 54 = some (1, 5) := by kernel_rfl
@[go_sem] theorem tapp_54 : tapp Tryd.prog 54 = some (1, 1) := by kernel_rfl
@[go_sem] theorem tload_74 : tload Tryd.prog 74 = some none := by kernel_rfl
@[go_sem] theorem tsize_74 : tsize Tryd.prog 74 = some 1 := by kernel_rfl
@[go_sem] theorem tbytes_74 : tbytes Tryd.prog 74 = some 8 := by kernel_rfl
@[go_sem] theorem tcells_74 : Program.cellsOf Tryd.prog 74 = 1 := by kernel_rfl
@[go_sem] theorem tz_74 : tz Tryd.prog 74 = some [.pointer none] := by kernel_rfl
@[go_sem] theorem tload_75 : tload Tryd.prog 75 = some none := by kernel_rfl
@[go_sem] theorem tsize_75 : tsize Tryd.prog 75 = some 1 := by kernel_rfl
@[go_sem] theorem tbytes_75 : tbytes Tryd.prog 75 = some 8 := by kernel_rfl
@[go_sem] theorem tcells_75 : Program.cellsOf Tryd.prog 75 = 1 := by kernel_rfl
@[go_sem] theorem tz_75 : tz Tryd.prog 75 = some [.int .u64 0] := by kernel_rfl
@[go_sem] theorem tload_76 : tload Tryd.prog 76 = some (some 3) := by kernel_rfl
@[go_sem] theorem tsize_76 : tsize Tryd.prog 76 = some 3 := by kernel_rfl
@[go_sem] theorem tbytes_76 : tbytes Tryd.prog 76 = some 40 := by kernel_rfl
@[go_sem] theorem tcells_76 : Program.cellsOf Tryd.prog 76 = 3 := by kernel_rfl
@[go_sem] theorem tz_76 : tz Tryd.prog 76 = some [.slice none 0 0, .int .i64 0, .int .u64 0] := by kernel_rfl
@[go_sem] theorem tfield_76_0 : tfield Tryd.prog 76 0 = some (0, 54) := by kernel_rfl
@[go_sem] theorem tfield_76_1 : tfield Tryd.prog 76 1 = some (1, 3) := by kernel_rfl
@[go_sem] theorem tfield_76_2 : tfield Tryd.prog 76 2 = some (2, 75) := by kernel_rfl
@[go_sem] theorem tplaces_76 : tplaces Tryd.prog 76 = some [(0, 1), (1, 1), (2, 1)] := by kernel_rfl
@[go_sem] theorem tload_77 : tload Tryd.prog 77 = some (some 3) := by kernel_rfl
@[go_sem] theorem tsize_77 : tsize Tryd.prog 77 = some 3 := by kernel_rfl
@[go_sem] theorem tbytes_77 : tbytes Tryd.prog 77 = some 40 := by kernel_rfl
@[go_sem] theorem tcells_77 : Program.cellsOf Tryd.prog 77 = 3 := by kernel_rfl
@[go_sem] theorem tz_77 : tz Tryd.prog 77 = some [.slice none 0 0, .int .i64 0, .int .u64 0] := by kernel_rfl
@[go_sem] theorem tfield_77_0 : tfield Tryd.prog 77 0 = some (0, 54) := by kernel_rfl
@[go_sem] theorem tfield_77_1 : tfield Tryd.prog 77 1 = some (1, 3) := by kernel_rfl
@[go_sem] theorem tfield_77_2 : tfield Tryd.prog 77 2 = some (2, 75) := by kernel_rfl
@[go_sem] theorem tplaces_77 : tplaces Tryd.prog 77 = some [(0, 1), (1, 1), (2, 1)] := by kernel_rfl
@[go_sem] theorem tload_83 : tload Tryd.prog 83 = some none := by kernel_rfl
@[go_sem] theorem tsize_83 : tsize Tryd.prog 83 = some 1 := by kernel_rfl
@[go_sem] theorem tbytes_83 : tbytes Tryd.prog 83 = some 24 := by kernel_rfl
@[go_sem] theorem tcells_83 : Program.cellsOf Tryd.prog 83 = 1 := by kernel_rfl
@[go_sem] theorem tz_83 : tz Tryd.prog 83 = some [.slice none 0 0] := by kernel_rfl
@[go_sem] theorem telem_83 : telem Tryd.prog 83 = some (1, 9) := by kernel_rfl
@[go_sem] theorem tapp_83 : tapp Tryd.prog 83 = some (1, 16) := by kernel_rfl
@[go_sem] theorem tload_93 : tload Tryd.prog 93 = some (some 5) := by kernel_rfl
@[go_sem] theorem tsize_93 : tsize Tryd.prog 93 = some 5 := by kernel_rfl
@[go_sem] theorem tbytes_93 : tbytes Tryd.prog 93 = some 80 := by kernel_rfl
@[go_sem] theorem tcells_93 : Program.cellsOf Tryd.prog 93 = 5 := by kernel_rfl
@[go_sem] theorem tz_93 : tz Tryd.prog 93 = some [.string ⟨#[]⟩, .string ⟨#[]⟩, .string ⟨#[]⟩, .string ⟨#[]⟩, .string ⟨#[]⟩] := by kernel_rfl
@[go_sem] theorem tplaces_93 : tplaces Tryd.prog 93 = none := by kernel_rfl
@[go_sem] theorem tarr_93 : tarr Tryd.prog 93 = some (5, 1, 9) := by kernel_rfl
@[go_sem] theorem tload_98 : tload Tryd.prog 98 = some none := by kernel_rfl
@[go_sem] theorem tsize_98 : tsize Tryd.prog 98 = some 1 := by kernel_rfl
@[go_sem] theorem tbytes_98 : tbytes Tryd.prog 98 = some 8 := by kernel_rfl
@[go_sem] theorem tcells_98 : Program.cellsOf Tryd.prog 98 = 1 := by kernel_rfl
@[go_sem] theorem tz_98 : tz Tryd.prog 98 = some [.pointer none] := by kernel_rfl
@[go_sem] theorem tload_99 : tload Tryd.prog 99 = some (some 2) := by kernel_rfl
@[go_sem] theorem tsize_99 : tsize Tryd.prog 99 = some 2 := by kernel_rfl
@[go_sem] theorem tbytes_99 : tbytes Tryd.prog 99 = some 32 := by kernel_rfl
@[go_sem] theorem tcells_99 : Program.cellsOf Tryd.prog 99 = 2 := by kernel_rfl
@[go_sem] theorem tz_99 : tz Tryd.prog 99 = some [.pointer none, .slice none 0 0] := by kernel_rfl
@[go_sem] theorem tfield_99_0 : tfield Tryd.prog 99 0 = some (0, 98) := by kernel_rfl
@[go_sem] theorem tfield_99_1 : tfield Tryd.prog 99 1 = some (1, 54) := by kernel_rfl
@[go_sem] theorem tplaces_99 : tplaces Tryd.prog 99 = some [(0, 1), (1, 1)] := by kernel_rfl
@[go_sem] theorem tload_100 : tload Tryd.prog 100 = some (some 2) := by kernel_rfl
@[go_sem] theorem tsize_100 : tsize Tryd.prog 100 = some 2 := by kernel_rfl
@[go_sem] theorem tbytes_100 : tbytes Tryd.prog 100 = some 32 := by kernel_rfl
@[go_sem] theorem tcells_100 : Program.cellsOf Tryd.prog 100 = 2 := by kernel_rfl
@[go_sem] theorem tz_100 : tz Tryd.prog 100 = some [.pointer none, .slice none 0 0] := by kernel_rfl
@[go_sem] theorem tfield_100_0 : tfield Tryd.prog 100 0 = some (0, 98) := by kernel_rfl
@[go_sem] theorem tfield_100_1 : tfield Tryd.prog 100 1 = some (1, 54) := by kernel_rfl
@[go_sem] theorem tplaces_100 : tplaces Tryd.prog 100 = some [(0, 1), (1, 1)] := by kernel_rfl
@[go_sem] theorem tload_103 : tload Tryd.prog 103 = some none := by kernel_rfl
@[go_sem] theorem tsize_103 : tsize Tryd.prog 103 = some 1 := by kernel_rfl
@[go_sem] theorem tbytes_103 : tbytes Tryd.prog 103 = some 16 := by kernel_rfl
@[go_sem] theorem tcells_103 : Program.cellsOf Tryd.prog 103 = 1 := by kernel_rfl
@[go_sem] theorem tz_103 : tz Tryd.prog 103 = some [.nilIface] := by kernel_rfl
@[go_sem] theorem tload_110 : tload Tryd.prog 110 = some none := by kernel_rfl
@[go_sem] theorem tsize_110 : tsize Tryd.prog 110 = some 1 := by kernel_rfl
@[go_sem] theorem tbytes_110 : tbytes Tryd.prog 110 = some 8 := by kernel_rfl
@[go_sem] theorem tcells_110 : Program.cellsOf Tryd.prog 110 = 1 := by kernel_rfl
@[go_sem] theorem tz_110 : tz Tryd.prog 110 = some [.int .u64 0] := by kernel_rfl
@[go_sem] theorem tload_111 : tload Tryd.prog 111 = some (some 24) := by kernel_rfl
@[go_sem] theorem tsize_111 : tsize Tryd.prog 111 = some 24 := by kernel_rfl
@[go_sem] theorem tbytes_111 : tbytes Tryd.prog 111 = some 24 := by kernel_rfl
@[go_sem] theorem tcells_111 : Program.cellsOf Tryd.prog 111 = 24 := by kernel_rfl
@[go_sem] theorem tz_111 : tz Tryd.prog 111 = some [.int .u8 0, .int .u8 0, .int .u8 0, .int .u8 0, .int .u8 0, .int .u8 0, .int .u8 0, .int .u8 0, .int .u8 0, .int .u8 0, .int .u8 0, .int .u8 0, .int .u8 0, .int .u8 0, .int .u8 0, .int .u8 0, .int .u8 0, .int .u8 0, .int .u8 0, .int .u8 0, .int .u8 0, .int .u8 0, .int .u8 0, .int .u8 0] := by kernel_rfl
@[go_sem] theorem tplaces_111 : tplaces Tryd.prog 111 = none := by kernel_rfl
@[go_sem] theorem tarr_111 : tarr Tryd.prog 111 = some (24, 1, 5) := by kernel_rfl
@[go_sem] theorem tload_116 : tload Tryd.prog 116 = some none := by kernel_rfl
@[go_sem] theorem tsize_116 : tsize Tryd.prog 116 = some 1 := by kernel_rfl
@[go_sem] theorem tbytes_116 : tbytes Tryd.prog 116 = some 8 := by kernel_rfl
@[go_sem] theorem tcells_116 : Program.cellsOf Tryd.prog 116 = 1 := by kernel_rfl
@[go_sem] theorem tz_116 : tz Tryd.prog 116 = some [.pointer none] := by kernel_rfl
@[go_sem] theorem tload_118 : tload Tryd.prog 118 = some (some 20) := by kernel_rfl
@[go_sem] theorem tsize_118 : tsize Tryd.prog 118 = some 20 := by kernel_rfl
@[go_sem] theorem tbytes_118 : tbytes Tryd.prog 118 = some 160 := by kernel_rfl
@[go_sem] theorem tcells_118 : Program.cellsOf Tryd.prog 118 = 20 := by kernel_rfl
@[go_sem] theorem tz_118 : tz Tryd.prog 118 = some [.int .u64 0, .int .u64 0, .int .u64 0, .int .u64 0, .int .u64 0, .int .u64 0, .int .u64 0, .int .u64 0, .int .u64 0, .int .u64 0, .int .u64 0, .int .u64 0, .int .u64 0, .int .u64 0, .int .u64 0, .int .u64 0, .int .u64 0, .int .u64 0, .int .u64 0, .int .u64 0] := by kernel_rfl
@[go_sem] theorem tplaces_118 : tplaces Tryd.prog 118 = none := by kernel_rfl
@[go_sem] theorem tarr_118 : tarr Tryd.prog 118 = some (20, 1, 75) := by kernel_rfl
@[go_sem] theorem tload_119 : tload Tryd.prog 119 = some none := by kernel_rfl
@[go_sem] theorem tsize_119 : tsize Tryd.prog 119 = some 1 := by kernel_rfl
@[go_sem] theorem tbytes_119 : tbytes Tryd.prog 119 = some 4 := by kernel_rfl
@[go_sem] theorem tcells_119 : Program.cellsOf Tryd.prog 119 = 1 := by kernel_rfl
@[go_sem] theorem tz_119 : tz Tryd.prog 119 = some [.int .u32 0] := by kernel_rfl
@[go_sem] theorem tload_120 : tload Tryd.prog 120 = some (some 65) := by kernel_rfl
@[go_sem] theorem tsize_120 : tsize Tryd.prog 120 = some 65 := by kernel_rfl
@[go_sem] theorem tbytes_120 : tbytes Tryd.prog 120 = some 65 := by kernel_rfl
@[go_sem] theorem tcells_120 : Program.cellsOf Tryd.prog 120 = 65 := by kernel_rfl
@[go_sem] theorem tz_120 : tz Tryd.prog 120 = some [.int .u8 0, .int .u8 0, .int .u8 0, .int .u8 0, .int .u8 0, .int .u8 0, .int .u8 0, .int .u8 0, .int .u8 0, .int .u8 0, .int .u8 0, .int .u8 0, .int .u8 0, .int .u8 0, .int .u8 0, .int .u8 0, .int .u8 0, .int .u8 0, .int .u8 0, .int .u8 0, .int .u8 0, .int .u8 0, .int .u8 0, .int .u8 0, .int .u8 0, .int .u8 0, .int .u8 0, .int .u8 0, .int .u8 0, .int .u8 0, .int .u8 0, .int .u8 0, .int .u8 0, .int .u8 0, .int .u8 0, .int .u8 0, .int .u8 0, .int .u8 0, .int .u8 0, .int .u8 0, .int .u8 0, .int .u8 0, .int .u8 0, .int .u8 0, .int .u8 0, .int .u8 0, .int .u8 0, .int .u8 0, .int .u8 0, .int .u8 0, .int .u8 0, .int .u8 0, .int .u8 0, .int .u8 0, .int .u8 0, .int .u8 0, .int .u8 0, .int .u8 0, .int .u8 0, .int .u8 0, .int .u8 0, .int .u8 0, .int .u8 0, .int .u8 0, .int .u8 0] := by kernel_rfl
@[go_sem] theorem tplaces_120 : tplaces Tryd.prog 120 = none := by kernel_rfl
@[go_sem] theorem tarr_120 : tarr Tryd.prog 120 = some (65, 1, 5) := by kernel_rfl
@[go_sem] theorem tload_129 : tload Tryd.prog 129 = some (some 32) := by kernel_rfl
@[go_sem] theorem tsize_129 : tsize Tryd.prog 129 = some 32 := by kernel_rfl
@[go_sem] theorem tbytes_129 : tbytes Tryd.prog 129 = some 32 := by kernel_rfl
@[go_sem] theorem tcells_129 : Program.cellsOf Tryd.prog 129 = 32 := by kernel_rfl
@[go_sem] theorem tz_129 : tz Tryd.prog 129 = some [.int .u8 0, .int .u8 0, .int .u8 0, .int .u8 0, .int .u8 0, .int .u8 0, .int .u8 0, .int .u8 0, .int .u8 0, .int .u8 0, .int .u8 0, .int .u8 0, .int .u8 0, .int .u8 0, .int .u8 0, .int .u8 0, .int .u8 0, .int .u8 0, .int .u8 0, .int .u8 0, .int .u8 0, .int .u8 0, .int .u8 0, .int .u8 0, .int .u8 0, .int .u8 0, .int .u8 0, .int .u8 0, .int .u8 0, .int .u8 0, .int .u8 0, .int .u8 0] := by kernel_rfl
@[go_sem] theorem tplaces_129 : tplaces Tryd.prog 129 = none := by kernel_rfl
@[go_sem] theorem tarr_129 : tarr Tryd.prog 129 = some (32, 1, 5) := by kernel_rfl
@[go_sem] theorem tload_130 : tload Tryd.prog 130 = some (some 64) := by kernel_rfl
@[go_sem] theorem tsize_130 : tsize Tryd.prog 130 = some 64 := by kernel_rfl
@[go_sem] theorem tbytes_130 : tbytes Tryd.prog 130 = some 64 := by kernel_rfl
@[go_sem] theorem tcells_130 : Program.cellsOf Tryd.prog 130 = 64 := by kernel_rfl
@[go_sem] theorem tz_130 : tz Tryd.prog 130 = some [.int .u8 0, .int .u8 0, .int .u8 0, .int .u8 0, .int .u8 0, .int .u8 0, .int .u8 0, .int .u8 0, .int .u8 0, .int .u8 0, .int .u8 0, .int .u8 0, .int .u8 0, .int .u8 0, .int .u8 0, .int .u8 0, .int .u8 0, .int .u8 0, .int .u8 0, .int .u8 0, .int .u8 0, .int .u8 0, .int .u8 0, .int .u8 0, .int .u8 0, .int .u8 0, .int .u8 0, .int .u8 0, .int .u8 0, .int .u8 0, .int .u8 0, .int .u8 0, .int .u8 0, .int .u8 0, .int .u8 0, .int .u8 0, .int .u8 0, .int .u8 0, .int .u8 0, .int .u8 0, .int .u8 0, .int .u8 0, .int .u8 0, .int .u8 0, .int .u8 0, .int .u8 0, .int .u8 0, .int .u8 0, .int .u8 0, .int .u8 0, .int .u8 0, .int .u8 0, .int .u8 0, .int .u8 0, .int .u8 0, .int .u8 0, .int .u8 0, .int .u8 0, .int .u8 0, .int .u8 0, .int .u8 0, .int .u8 0, .int .u8 0, .int .u8 0] := by kernel_rfl
@[go_sem] theorem tplaces_130 : tplaces Tryd.prog 130 = none := by kernel_rfl
@[go_sem] theorem tarr_130 : tarr Tryd.prog 130 = some (64, 1, 5) := by kernel_rfl
attribute [go_sem] Tryd.underlying2
attribute [go_sem] Tryd.underlying3
attribute [go_sem] Tryd.underlying4
attribute [go_sem] Tryd.underlying5
attribute [go_sem] Tryd.underlying9
attribute [go_sem] Tryd.underlying12
attribute [go_sem] Tryd.underlying21
attribute [go_sem] Tryd.underlying75
attribute [go_sem] Tryd.underlying110
attribute [go_sem] Tryd.underlying119
end Go.Proofs.YtplodidfmdmhdaaDoor
