/- What is proved: the program's types, as the calculus asks them; that its functions may be walked. Conditions: as each theorem says. -/
import Derived.Test.YtgccjneplchojaaGreatDoorWK
import Derived.KernelRfl
import Derived.Test.YtgccjneplchojaaGreatDoorProg
set_option linter.unusedVariables false
set_option linter.unusedSimpArgs false
set_option linter.unusedSectionVars false
namespace Go.Proofs.YtgccjneplchojaaGreatDoor
open Go.Eng
set_option autoImplicit false
set_option maxRecDepth 100000
@[go_sem] theorem ty_0 : tyOf Tryz.prog 0 = some ((1, (0, false))) := by kernel_rfl
@[go_sem] theorem td_1 : tdOf Tryz.prog 1 = .func := by kernel_rfl
@[go_sem] theorem ty_1 : tyOf Tryz.prog 1 = some ((1, (8, false))) := by kernel_rfl
@[go_sem] theorem z_1 : zeroT Tryz.prog 1 = some (.nilFunc) := by kernel_rfl
@[go_sem] theorem td_2 : tdOf Tryz.prog 2 = (.int .i64) := by kernel_rfl
@[go_sem] theorem ty_2 : tyOf Tryz.prog 2 = some ((1, (8, false))) := by kernel_rfl
@[go_sem] theorem z_2 : zeroT Tryz.prog 2 = some ((.int .i64 0)) := by kernel_rfl
@[go_sem] theorem td_3 : tdOf Tryz.prog 3 = (.int .i64) := by kernel_rfl
@[go_sem] theorem ty_3 : tyOf Tryz.prog 3 = some ((1, (8, false))) := by kernel_rfl
@[go_sem] theorem z_3 : zeroT Tryz.prog 3 = some ((.int .i64 0)) := by kernel_rfl
@[go_sem] theorem td_4 : tdOf Tryz.prog 4 = .bool := by kernel_rfl
@[go_sem] theorem ty_4 : tyOf Tryz.prog 4 = some ((1, (1, false))) := by kernel_rfl
@[go_sem] theorem z_4 : zeroT Tryz.prog 4 = some ((.bool false)) := by kernel_rfl
@[go_sem] theorem td_5 : tdOf Tryz.prog 5 = (.int .u8) := by kernel_rfl
@[go_sem] theorem ty_5 : tyOf Tryz.prog 5 = some ((1, (1, false))) := by kernel_rfl
@[go_sem] theorem z_5 : zeroT Tryz.prog 5 = some ((.int .u8 0)) := by kernel_rfl
@[go_sem] theorem td_6 : tdOf Tryz.prog 6 = (.int .u8) := by kernel_rfl
@[go_sem] theorem ty_6 : tyOf Tryz.prog 6 = some ((1, (1, false))) := by kernel_rfl
@[go_sem] theorem z_6 : zeroT Tryz.prog 6 = some ((.int .u8 0)) := by kernel_rfl
@[go_sem] theorem td_7 : tdOf Tryz.prog 7 = (.struct [⟨false, 2, 0, 1, false⟩, ⟨false, 3, 1, 1, false⟩, ⟨false, 4, 2, 1, false⟩, ⟨false, 6, 3, 1, false⟩]) := by kernel_rfl
@[go_sem] theorem ty_7 : tyOf Tryz.prog 7 = some ((4, (24, true))) := by kernel_rfl
@[go_sem] theorem z_7 : zeroT Tryz.prog 7 = some ((.agg [(.int .i64 0), (.int .i64 0), (.bool false), (.int .u8 0)])) := by kernel_rfl
@[go_sem] theorem td_8 : tdOf Tryz.prog 8 = (.struct [⟨false, 2, 0, 1, false⟩, ⟨false, 3, 1, 1, false⟩, ⟨false, 4, 2, 1, false⟩, ⟨false, 6, 3, 1, false⟩]) := by kernel_rfl
@[go_sem] theorem ty_8 : tyOf Tryz.prog 8 = some ((4, (24, true))) := by kernel_rfl
@[go_sem] theorem z_8 : zeroT Tryz.prog 8 = some ((.agg [(.int .i64 0), (.int .i64 0), (.bool false), (.int .u8 0)])) := by kernel_rfl
@[go_sem] theorem td_9 : tdOf Tryz.prog 9 = .str := by kernel_rfl
@[go_sem] theorem ty_9 : tyOf Tryz.prog 9 = some ((1, (16, false))) := by kernel_rfl
@[go_sem] theorem z_9 : zeroT Tryz.prog 9 = some ((.str 0 0)) := by kernel_rfl
@[go_sem] theorem td_10 : tdOf Tryz.prog 10 = .str := by kernel_rfl
@[go_sem] theorem ty_10 : tyOf Tryz.prog 10 = some ((1, (16, false))) := by kernel_rfl
@[go_sem] theorem z_10 : zeroT Tryz.prog 10 = some ((.str 0 0)) := by kernel_rfl
@[go_sem] theorem td_11 : tdOf Tryz.prog 11 = .str := by kernel_rfl
@[go_sem] theorem ty_11 : tyOf Tryz.prog 11 = some ((1, (16, false))) := by kernel_rfl
@[go_sem] theorem z_11 : zeroT Tryz.prog 11 = some ((.str 0 0)) := by kernel_rfl
@[go_sem] theorem td_12 : tdOf Tryz.prog 12 = (.int .u64) := by kernel_rfl
@[go_sem] theorem ty_12 : tyOf Tryz.prog 12 = some ((1, (8, false))) := by kernel_rfl
@[go_sem] theorem z_12 : zeroT Tryz.prog 12 = some ((.int .u64 0)) := by kernel_rfl
@[go_sem] theorem td_13 : tdOf Tryz.prog 13 = (.struct [⟨false, 9, 0, 1, false⟩, ⟨false, 12, 1, 1, false⟩]) := by kernel_rfl
@[go_sem] theorem ty_13 : tyOf Tryz.prog 13 = some ((2, (24, true))) := by kernel_rfl
@[go_sem] theorem z_13 : zeroT Tryz.prog 13 = some ((.agg [(.str 0 0), (.int .u64 0)])) := by kernel_rfl
@[go_sem] theorem td_14 : tdOf Tryz.prog 14 = (.struct [⟨false, 9, 0, 1, false⟩, ⟨false, 12, 1, 1, false⟩]) := by kernel_rfl
@[go_sem] theorem ty_14 : tyOf Tryz.prog 14 = some ((2, (24, true))) := by kernel_rfl
@[go_sem] theorem z_14 : zeroT Tryz.prog 14 = some ((.agg [(.str 0 0), (.int .u64 0)])) := by kernel_rfl
@[go_sem] theorem td_15 : tdOf Tryz.prog 15 = .ptr := by kernel_rfl
@[go_sem] theorem ty_15 : tyOf Tryz.prog 15 = some ((1, (8, false))) := by kernel_rfl
@[go_sem] theorem z_15 : zeroT Tryz.prog 15 = some (.nilptr) := by kernel_rfl
@[go_sem] theorem td_16 : tdOf Tryz.prog 16 = .ptr := by kernel_rfl
@[go_sem] theorem ty_16 : tyOf Tryz.prog 16 = some ((1, (8, false))) := by kernel_rfl
@[go_sem] theorem z_16 : zeroT Tryz.prog 16 = some (.nilptr) := by kernel_rfl
@[go_sem] theorem td_17 : tdOf Tryz.prog 17 = .ptr := by kernel_rfl
@[go_sem] theorem ty_17 : tyOf Tryz.prog 17 = some ((1, (8, false))) := by kernel_rfl
@[go_sem] theorem z_17 : zeroT Tryz.prog 17 = some (.nilptr) := by kernel_rfl
@[go_sem] theorem td_18 : tdOf Tryz.prog 18 = (.struct [⟨false, 17, 0, 1, false⟩]) := by kernel_rfl
@[go_sem] theorem ty_18 : tyOf Tryz.prog 18 = some ((1, (8, true))) := by kernel_rfl
@[go_sem] theorem z_18 : zeroT Tryz.prog 18 = some ((.agg [.nilptr])) := by kernel_rfl
@[go_sem] theorem td_19 : tdOf Tryz.prog 19 = (.struct [⟨false, 17, 0, 1, false⟩]) := by kernel_rfl
@[go_sem] theorem ty_19 : tyOf Tryz.prog 19 = some ((1, (8, true))) := by kernel_rfl
@[go_sem] theorem z_19 : zeroT Tryz.prog 19 = some ((.agg [.nilptr])) := by kernel_rfl
@[go_sem] theorem td_20 : tdOf Tryz.prog 20 = .iface := by kernel_rfl
@[go_sem] theorem ty_20 : tyOf Tryz.prog 20 = some ((1, (16, false))) := by kernel_rfl
@[go_sem] theorem z_20 : zeroT Tryz.prog 20 = some (.nilIface) := by kernel_rfl
@[go_sem] theorem td_21 : tdOf Tryz.prog 21 = (.int .i32) := by kernel_rfl
@[go_sem] theorem ty_21 : tyOf Tryz.prog 21 = some ((1, (4, false))) := by kernel_rfl
@[go_sem] theorem z_21 : zeroT Tryz.prog 21 = some ((.int .i32 0)) := by kernel_rfl
@[go_sem] theorem td_22 : tdOf Tryz.prog 22 = .func := by kernel_rfl
@[go_sem] theorem ty_22 : tyOf Tryz.prog 22 = some ((1, (8, false))) := by kernel_rfl
@[go_sem] theorem z_22 : zeroT Tryz.prog 22 = some (.nilFunc) := by kernel_rfl
@[go_sem] theorem td_23 : tdOf Tryz.prog 23 = (.slice 5 1 1) := by kernel_rfl
@[go_sem] theorem ty_23 : tyOf Tryz.prog 23 = some ((1, (24, false))) := by kernel_rfl
@[go_sem] theorem z_23 : zeroT Tryz.prog 23 = some (.nilslice) := by kernel_rfl
@[go_sem] theorem td_24 : tdOf Tryz.prog 24 = (.slice 43 6 120) := by kernel_rfl
@[go_sem] theorem ty_24 : tyOf Tryz.prog 24 = some ((1, (24, false))) := by kernel_rfl
@[go_sem] theorem z_24 : zeroT Tryz.prog 24 = some (.nilslice) := by kernel_rfl
@[go_sem] theorem ty_25 : tyOf Tryz.prog 25 = some ((1, (0, false))) := by kernel_rfl
@[go_sem] theorem td_26 : tdOf Tryz.prog 26 = .func := by kernel_rfl
@[go_sem] theorem ty_26 : tyOf Tryz.prog 26 = some ((1, (8, false))) := by kernel_rfl
@[go_sem] theorem z_26 : zeroT Tryz.prog 26 = some (.nilFunc) := by kernel_rfl
@[go_sem] theorem td_27 : tdOf Tryz.prog 27 = (.slice 89 5 56) := by kernel_rfl
@[go_sem] theorem ty_27 : tyOf Tryz.prog 27 = some ((1, (24, false))) := by kernel_rfl
@[go_sem] theorem z_27 : zeroT Tryz.prog 27 = some (.nilslice) := by kernel_rfl
@[go_sem] theorem td_28 : tdOf Tryz.prog 28 = (.slice 98 7 96) := by kernel_rfl
@[go_sem] theorem ty_28 : tyOf Tryz.prog 28 = some ((1, (24, false))) := by kernel_rfl
@[go_sem] theorem z_28 : zeroT Tryz.prog 28 = some (.nilslice) := by kernel_rfl
@[go_sem] theorem td_29 : tdOf Tryz.prog 29 = (.struct [⟨false, 9, 0, 1, false⟩, ⟨false, 27, 1, 1, false⟩, ⟨false, 27, 2, 1, false⟩, ⟨false, 27, 3, 1, false⟩, ⟨false, 28, 4, 1, false⟩, ⟨false, 3, 5, 1, false⟩]) := by kernel_rfl
@[go_sem] theorem ty_29 : tyOf Tryz.prog 29 = some ((6, (120, true))) := by kernel_rfl
@[go_sem] theorem z_29 : zeroT Tryz.prog 29 = some ((.agg [(.str 0 0), .nilslice, .nilslice, .nilslice, .nilslice, (.int .i64 0)])) := by kernel_rfl
@[go_sem] theorem td_30 : tdOf Tryz.prog 30 = (.struct [⟨false, 9, 0, 1, false⟩, ⟨false, 27, 1, 1, false⟩, ⟨false, 27, 2, 1, false⟩, ⟨false, 27, 3, 1, false⟩, ⟨false, 28, 4, 1, false⟩, ⟨false, 3, 5, 1, false⟩]) := by kernel_rfl
@[go_sem] theorem ty_30 : tyOf Tryz.prog 30 = some ((6, (120, true))) := by kernel_rfl
@[go_sem] theorem z_30 : zeroT Tryz.prog 30 = some ((.agg [(.str 0 0), .nilslice, .nilslice, .nilslice, .nilslice, (.int .i64 0)])) := by kernel_rfl
@[go_sem] theorem td_31 : tdOf Tryz.prog 31 = (.int .i64) := by kernel_rfl
@[go_sem] theorem ty_31 : tyOf Tryz.prog 31 = some ((1, (8, false))) := by kernel_rfl
@[go_sem] theorem z_31 : zeroT Tryz.prog 31 = some ((.int .i64 0)) := by kernel_rfl
@[go_sem] theorem ty_32 : tyOf Tryz.prog 32 = some ((1, (0, false))) := by kernel_rfl
@[go_sem] theorem td_33 : tdOf Tryz.prog 33 = .func := by kernel_rfl
@[go_sem] theorem ty_33 : tyOf Tryz.prog 33 = some ((1, (8, false))) := by kernel_rfl
@[go_sem] theorem z_33 : zeroT Tryz.prog 33 = some (.nilFunc) := by kernel_rfl
@[go_sem] theorem td_34 : tdOf Tryz.prog 34 = (.slice 30 6 120) := by kernel_rfl
@[go_sem] theorem ty_34 : tyOf Tryz.prog 34 = some ((1, (24, false))) := by kernel_rfl
@[go_sem] theorem z_34 : zeroT Tryz.prog 34 = some (.nilslice) := by kernel_rfl
@[go_sem] theorem td_35 : tdOf Tryz.prog 35 = .func := by kernel_rfl
@[go_sem] theorem ty_35 : tyOf Tryz.prog 35 = some ((1, (8, false))) := by kernel_rfl
@[go_sem] theorem z_35 : zeroT Tryz.prog 35 = some (.nilFunc) := by kernel_rfl
@[go_sem] theorem td_36 : tdOf Tryz.prog 36 = .func := by kernel_rfl
@[go_sem] theorem ty_36 : tyOf Tryz.prog 36 = some ((1, (8, false))) := by kernel_rfl
@[go_sem] theorem z_36 : zeroT Tryz.prog 36 = some (.nilFunc) := by kernel_rfl
@[go_sem] theorem td_37 : tdOf Tryz.prog 37 = (.slice 58 1 24) := by kernel_rfl
@[go_sem] theorem ty_37 : tyOf Tryz.prog 37 = some ((1, (24, false))) := by kernel_rfl
@[go_sem] theorem z_37 : zeroT Tryz.prog 37 = some (.nilslice) := by kernel_rfl
@[go_sem] theorem td_38 : tdOf Tryz.prog 38 = .func := by kernel_rfl
@[go_sem] theorem ty_38 : tyOf Tryz.prog 38 = some ((1, (8, false))) := by kernel_rfl
@[go_sem] theorem z_38 : zeroT Tryz.prog 38 = some (.nilFunc) := by kernel_rfl
@[go_sem] theorem td_39 : tdOf Tryz.prog 39 = .func := by kernel_rfl
@[go_sem] theorem ty_39 : tyOf Tryz.prog 39 = some ((1, (8, false))) := by kernel_rfl
@[go_sem] theorem z_39 : zeroT Tryz.prog 39 = some (.nilFunc) := by kernel_rfl
@[go_sem] theorem td_40 : tdOf Tryz.prog 40 = (.slice 49 5 56) := by kernel_rfl
@[go_sem] theorem ty_40 : tyOf Tryz.prog 40 = some ((1, (24, false))) := by kernel_rfl
@[go_sem] theorem z_40 : zeroT Tryz.prog 40 = some (.nilslice) := by kernel_rfl
@[go_sem] theorem td_41 : tdOf Tryz.prog 41 = (.slice 55 7 96) := by kernel_rfl
@[go_sem] theorem ty_41 : tyOf Tryz.prog 41 = some ((1, (24, false))) := by kernel_rfl
@[go_sem] theorem z_41 : zeroT Tryz.prog 41 = some (.nilslice) := by kernel_rfl
@[go_sem] theorem td_42 : tdOf Tryz.prog 42 = (.struct [⟨false, 9, 0, 1, false⟩, ⟨false, 40, 1, 1, false⟩, ⟨false, 40, 2, 1, false⟩, ⟨false, 40, 3, 1, false⟩, ⟨false, 41, 4, 1, false⟩, ⟨false, 3, 5, 1, false⟩]) := by kernel_rfl
@[go_sem] theorem ty_42 : tyOf Tryz.prog 42 = some ((6, (120, true))) := by kernel_rfl
@[go_sem] theorem z_42 : zeroT Tryz.prog 42 = some ((.agg [(.str 0 0), .nilslice, .nilslice, .nilslice, .nilslice, (.int .i64 0)])) := by kernel_rfl
@[go_sem] theorem td_43 : tdOf Tryz.prog 43 = (.struct [⟨false, 9, 0, 1, false⟩, ⟨false, 40, 1, 1, false⟩, ⟨false, 40, 2, 1, false⟩, ⟨false, 40, 3, 1, false⟩, ⟨false, 41, 4, 1, false⟩, ⟨false, 3, 5, 1, false⟩]) := by kernel_rfl
@[go_sem] theorem ty_43 : tyOf Tryz.prog 43 = some ((6, (120, true))) := by kernel_rfl
@[go_sem] theorem z_43 : zeroT Tryz.prog 43 = some ((.agg [(.str 0 0), .nilslice, .nilslice, .nilslice, .nilslice, (.int .i64 0)])) := by kernel_rfl
@[go_sem] theorem td_44 : tdOf Tryz.prog 44 = .func := by kernel_rfl
@[go_sem] theorem ty_44 : tyOf Tryz.prog 44 = some ((1, (8, false))) := by kernel_rfl
@[go_sem] theorem z_44 : zeroT Tryz.prog 44 = some (.nilFunc) := by kernel_rfl
@[go_sem] theorem td_45 : tdOf Tryz.prog 45 = (.struct [⟨false, 31, 0, 1, false⟩, ⟨false, 3, 1, 1, false⟩]) := by kernel_rfl
@[go_sem] theorem ty_45 : tyOf Tryz.prog 45 = some ((2, (16, true))) := by kernel_rfl
@[go_sem] theorem z_45 : zeroT Tryz.prog 45 = some ((.agg [(.int .i64 0), (.int .i64 0)])) := by kernel_rfl
@[go_sem] theorem td_46 : tdOf Tryz.prog 46 = (.struct [⟨false, 31, 0, 1, false⟩, ⟨false, 3, 1, 1, false⟩]) := by kernel_rfl
@[go_sem] theorem ty_46 : tyOf Tryz.prog 46 = some ((2, (16, true))) := by kernel_rfl
@[go_sem] theorem z_46 : zeroT Tryz.prog 46 = some ((.agg [(.int .i64 0), (.int .i64 0)])) := by kernel_rfl
@[go_sem] theorem td_47 : tdOf Tryz.prog 47 = .func := by kernel_rfl
@[go_sem] theorem ty_47 : tyOf Tryz.prog 47 = some ((1, (8, false))) := by kernel_rfl
@[go_sem] theorem z_47 : zeroT Tryz.prog 47 = some (.nilFunc) := by kernel_rfl
@[go_sem] theorem td_48 : tdOf Tryz.prog 48 = (.struct [⟨false, 9, 0, 1, false⟩, ⟨false, 3, 1, 1, false⟩, ⟨false, 9, 2, 1, false⟩, ⟨false, 4, 3, 1, false⟩, ⟨false, 3, 4, 1, false⟩]) := by kernel_rfl
@[go_sem] theorem ty_48 : tyOf Tryz.prog 48 = some ((5, (56, true))) := by kernel_rfl
@[go_sem] theorem z_48 : zeroT Tryz.prog 48 = some ((.agg [(.str 0 0), (.int .i64 0), (.str 0 0), (.bool false), (.int .i64 0)])) := by kernel_rfl
@[go_sem] theorem td_49 : tdOf Tryz.prog 49 = (.struct [⟨false, 9, 0, 1, false⟩, ⟨false, 3, 1, 1, false⟩, ⟨false, 9, 2, 1, false⟩, ⟨false, 4, 3, 1, false⟩, ⟨false, 3, 4, 1, false⟩]) := by kernel_rfl
@[go_sem] theorem ty_49 : tyOf Tryz.prog 49 = some ((5, (56, true))) := by kernel_rfl
@[go_sem] theorem z_49 : zeroT Tryz.prog 49 = some ((.agg [(.str 0 0), (.int .i64 0), (.str 0 0), (.bool false), (.int .i64 0)])) := by kernel_rfl
@[go_sem] theorem td_50 : tdOf Tryz.prog 50 = .func := by kernel_rfl
@[go_sem] theorem ty_50 : tyOf Tryz.prog 50 = some ((1, (8, false))) := by kernel_rfl
@[go_sem] theorem z_50 : zeroT Tryz.prog 50 = some (.nilFunc) := by kernel_rfl
@[go_sem] theorem td_51 : tdOf Tryz.prog 51 = (.slice 53 5 72) := by kernel_rfl
@[go_sem] theorem ty_51 : tyOf Tryz.prog 51 = some ((1, (24, false))) := by kernel_rfl
@[go_sem] theorem z_51 : zeroT Tryz.prog 51 = some (.nilslice) := by kernel_rfl
@[go_sem] theorem td_52 : tdOf Tryz.prog 52 = (.struct [⟨false, 9, 0, 1, false⟩, ⟨false, 9, 1, 1, false⟩, ⟨false, 2, 2, 1, false⟩, ⟨false, 3, 3, 1, false⟩, ⟨false, 51, 4, 1, false⟩]) := by kernel_rfl
@[go_sem] theorem ty_52 : tyOf Tryz.prog 52 = some ((5, (72, true))) := by kernel_rfl
@[go_sem] theorem z_52 : zeroT Tryz.prog 52 = some ((.agg [(.str 0 0), (.str 0 0), (.int .i64 0), (.int .i64 0), .nilslice])) := by kernel_rfl
@[go_sem] theorem td_53 : tdOf Tryz.prog 53 = (.struct [⟨false, 9, 0, 1, false⟩, ⟨false, 9, 1, 1, false⟩, ⟨false, 2, 2, 1, false⟩, ⟨false, 3, 3, 1, false⟩, ⟨false, 51, 4, 1, false⟩]) := by kernel_rfl
@[go_sem] theorem ty_53 : tyOf Tryz.prog 53 = some ((5, (72, true))) := by kernel_rfl
@[go_sem] theorem z_53 : zeroT Tryz.prog 53 = some ((.agg [(.str 0 0), (.str 0 0), (.int .i64 0), (.int .i64 0), .nilslice])) := by kernel_rfl
@[go_sem] theorem td_54 : tdOf Tryz.prog 54 = (.struct [⟨false, 9, 0, 1, false⟩, ⟨false, 53, 1, 5, true⟩, ⟨false, 3, 6, 1, false⟩]) := by kernel_rfl
@[go_sem] theorem ty_54 : tyOf Tryz.prog 54 = some ((7, (96, true))) := by kernel_rfl
@[go_sem] theorem z_54 : zeroT Tryz.prog 54 = some ((.agg [(.str 0 0), (.str 0 0), (.str 0 0), (.int .i64 0), (.int .i64 0), .nilslice, (.int .i64 0)])) := by kernel_rfl
@[go_sem] theorem td_55 : tdOf Tryz.prog 55 = (.struct [⟨false, 9, 0, 1, false⟩, ⟨false, 53, 1, 5, true⟩, ⟨false, 3, 6, 1, false⟩]) := by kernel_rfl
@[go_sem] theorem ty_55 : tyOf Tryz.prog 55 = some ((7, (96, true))) := by kernel_rfl
@[go_sem] theorem z_55 : zeroT Tryz.prog 55 = some ((.agg [(.str 0 0), (.str 0 0), (.str 0 0), (.int .i64 0), (.int .i64 0), .nilslice, (.int .i64 0)])) := by kernel_rfl
@[go_sem] theorem td_56 : tdOf Tryz.prog 56 = .func := by kernel_rfl
@[go_sem] theorem ty_56 : tyOf Tryz.prog 56 = some ((1, (8, false))) := by kernel_rfl
@[go_sem] theorem z_56 : zeroT Tryz.prog 56 = some (.nilFunc) := by kernel_rfl
@[go_sem] theorem td_57 : tdOf Tryz.prog 57 = (.slice 2 1 8) := by kernel_rfl
@[go_sem] theorem ty_57 : tyOf Tryz.prog 57 = some ((1, (24, false))) := by kernel_rfl
@[go_sem] theorem z_57 : zeroT Tryz.prog 57 = some (.nilslice) := by kernel_rfl
@[go_sem] theorem td_58 : tdOf Tryz.prog 58 = (.slice 2 1 8) := by kernel_rfl
@[go_sem] theorem ty_58 : tyOf Tryz.prog 58 = some ((1, (24, false))) := by kernel_rfl
@[go_sem] theorem z_58 : zeroT Tryz.prog 58 = some (.nilslice) := by kernel_rfl
@[go_sem] theorem td_59 : tdOf Tryz.prog 59 = .func := by kernel_rfl
@[go_sem] theorem ty_59 : tyOf Tryz.prog 59 = some ((1, (8, false))) := by kernel_rfl
@[go_sem] theorem z_59 : zeroT Tryz.prog 59 = some (.nilFunc) := by kernel_rfl
@[go_sem] theorem td_60 : tdOf Tryz.prog 60 = .func := by kernel_rfl
@[go_sem] theorem ty_60 : tyOf Tryz.prog 60 = some ((1, (8, false))) := by kernel_rfl
@[go_sem] theorem z_60 : zeroT Tryz.prog 60 = some (.nilFunc) := by kernel_rfl
@[go_sem] theorem td_61 : tdOf Tryz.prog 61 = .func := by kernel_rfl
@[go_sem] theorem ty_61 : tyOf Tryz.prog 61 = some ((1, (8, false))) := by kernel_rfl
@[go_sem] theorem z_61 : zeroT Tryz.prog 61 = some (.nilFunc) := by kernel_rfl
@[go_sem] theorem td_62 : tdOf Tryz.prog 62 = (.slice 77 1 8) := by kernel_rfl
@[go_sem] theorem ty_62 : tyOf Tryz.prog 62 = some ((1, (24, false))) := by kernel_rfl
@[go_sem] theorem z_62 : zeroT Tryz.prog 62 = some (.nilslice) := by kernel_rfl
@[go_sem] theorem td_63 : tdOf Tryz.prog 63 = (.slice 110 4 32) := by kernel_rfl
@[go_sem] theorem ty_63 : tyOf Tryz.prog 63 = some ((1, (24, false))) := by kernel_rfl
@[go_sem] theorem z_63 : zeroT Tryz.prog 63 = some (.nilslice) := by kernel_rfl
@[go_sem] theorem td_64 : tdOf Tryz.prog 64 = (.struct [⟨false, 62, 0, 1, false⟩, ⟨false, 62, 1, 1, false⟩, ⟨false, 62, 2, 1, false⟩, ⟨false, 62, 3, 1, false⟩, ⟨false, 57, 4, 1, false⟩, ⟨false, 63, 5, 1, false⟩]) := by kernel_rfl
@[go_sem] theorem ty_64 : tyOf Tryz.prog 64 = some ((6, (144, true))) := by kernel_rfl
@[go_sem] theorem z_64 : zeroT Tryz.prog 64 = some ((.agg [.nilslice, .nilslice, .nilslice, .nilslice, .nilslice, .nilslice])) := by kernel_rfl
@[go_sem] theorem td_65 : tdOf Tryz.prog 65 = (.struct [⟨false, 62, 0, 1, false⟩, ⟨false, 62, 1, 1, false⟩, ⟨false, 62, 2, 1, false⟩, ⟨false, 62, 3, 1, false⟩, ⟨false, 57, 4, 1, false⟩, ⟨false, 63, 5, 1, false⟩]) := by kernel_rfl
@[go_sem] theorem ty_65 : tyOf Tryz.prog 65 = some ((6, (144, true))) := by kernel_rfl
@[go_sem] theorem z_65 : zeroT Tryz.prog 65 = some ((.agg [.nilslice, .nilslice, .nilslice, .nilslice, .nilslice, .nilslice])) := by kernel_rfl
@[go_sem] theorem ty_66 : tyOf Tryz.prog 66 = some ((1, (0, false))) := by kernel_rfl
@[go_sem] theorem td_67 : tdOf Tryz.prog 67 = .func := by kernel_rfl
@[go_sem] theorem ty_67 : tyOf Tryz.prog 67 = some ((1, (8, false))) := by kernel_rfl
@[go_sem] theorem z_67 : zeroT Tryz.prog 67 = some (.nilFunc) := by kernel_rfl
@[go_sem] theorem td_68 : tdOf Tryz.prog 68 = .ptr := by kernel_rfl
@[go_sem] theorem ty_68 : tyOf Tryz.prog 68 = some ((1, (8, false))) := by kernel_rfl
@[go_sem] theorem z_68 : zeroT Tryz.prog 68 = some (.nilptr) := by kernel_rfl
@[go_sem] theorem td_69 : tdOf Tryz.prog 69 = .func := by kernel_rfl
@[go_sem] theorem ty_69 : tyOf Tryz.prog 69 = some ((1, (8, false))) := by kernel_rfl
@[go_sem] theorem z_69 : zeroT Tryz.prog 69 = some (.nilFunc) := by kernel_rfl
@[go_sem] theorem ty_70 : tyOf Tryz.prog 70 = some ((1, (0, false))) := by kernel_rfl
@[go_sem] theorem td_71 : tdOf Tryz.prog 71 = .func := by kernel_rfl
@[go_sem] theorem ty_71 : tyOf Tryz.prog 71 = some ((1, (8, false))) := by kernel_rfl
@[go_sem] theorem z_71 : zeroT Tryz.prog 71 = some (.nilFunc) := by kernel_rfl
@[go_sem] theorem td_72 : tdOf Tryz.prog 72 = .func := by kernel_rfl
@[go_sem] theorem ty_72 : tyOf Tryz.prog 72 = some ((1, (8, false))) := by kernel_rfl
@[go_sem] theorem z_72 : zeroT Tryz.prog 72 = some (.nilFunc) := by kernel_rfl
@[go_sem] theorem ty_73 : tyOf Tryz.prog 73 = some ((1, (0, false))) := by kernel_rfl
@[go_sem] theorem td_74 : tdOf Tryz.prog 74 = .func := by kernel_rfl
@[go_sem] theorem ty_74 : tyOf Tryz.prog 74 = some ((1, (8, false))) := by kernel_rfl
@[go_sem] theorem z_74 : zeroT Tryz.prog 74 = some (.nilFunc) := by kernel_rfl
@[go_sem] theorem ty_75 : tyOf Tryz.prog 75 = some ((1, (0, false))) := by kernel_rfl
@[go_sem] theorem td_76 : tdOf Tryz.prog 76 = .func := by kernel_rfl
@[go_sem] theorem ty_76 : tyOf Tryz.prog 76 = some ((1, (8, false))) := by kernel_rfl
@[go_sem] theorem z_76 : zeroT Tryz.prog 76 = some (.nilFunc) := by kernel_rfl
@[go_sem] theorem td_77 : tdOf Tryz.prog 77 = (.int .i64) := by kernel_rfl
@[go_sem] theorem ty_77 : tyOf Tryz.prog 77 = some ((1, (8, false))) := by kernel_rfl
@[go_sem] theorem z_77 : zeroT Tryz.prog 77 = some ((.int .i64 0)) := by kernel_rfl
@[go_sem] theorem td_78 : tdOf Tryz.prog 78 = .func := by kernel_rfl
@[go_sem] theorem ty_78 : tyOf Tryz.prog 78 = some ((1, (8, false))) := by kernel_rfl
@[go_sem] theorem z_78 : zeroT Tryz.prog 78 = some (.nilFunc) := by kernel_rfl
@[go_sem] theorem td_79 : tdOf Tryz.prog 79 = .func := by kernel_rfl
@[go_sem] theorem ty_79 : tyOf Tryz.prog 79 = some ((1, (8, false))) := by kernel_rfl
@[go_sem] theorem z_79 : zeroT Tryz.prog 79 = some (.nilFunc) := by kernel_rfl
@[go_sem] theorem ty_80 : tyOf Tryz.prog 80 = some ((1, (0, false))) := by kernel_rfl
@[go_sem] theorem td_81 : tdOf Tryz.prog 81 = .func := by kernel_rfl
@[go_sem] theorem ty_81 : tyOf Tryz.prog 81 = some ((1, (8, false))) := by kernel_rfl
@[go_sem] theorem z_81 : zeroT Tryz.prog 81 = some (.nilFunc) := by kernel_rfl
@[go_sem] theorem td_82 : tdOf Tryz.prog 82 = .func := by kernel_rfl
@[go_sem] theorem ty_82 : tyOf Tryz.prog 82 = some ((1, (8, false))) := by kernel_rfl
@[go_sem] theorem z_82 : zeroT Tryz.prog 82 = some (.nilFunc) := by kernel_rfl
@[go_sem] theorem td_83 : tdOf Tryz.prog 83 = .ptr := by kernel_rfl
@[go_sem] theorem ty_83 : tyOf Tryz.prog 83 = some ((1, (8, false))) := by kernel_rfl
@[go_sem] theorem z_83 : zeroT Tryz.prog 83 = some (.nilptr) := by kernel_rfl
@[go_sem] theorem td_84 : tdOf Tryz.prog 84 = (.struct [⟨false, 34, 0, 1, false⟩, ⟨false, 30, 1, 6, true⟩, ⟨false, 3, 7, 1, false⟩]) := by kernel_rfl
@[go_sem] theorem ty_84 : tyOf Tryz.prog 84 = some ((8, (152, true))) := by kernel_rfl
@[go_sem] theorem z_84 : zeroT Tryz.prog 84 = some ((.agg [.nilslice, (.str 0 0), .nilslice, .nilslice, .nilslice, .nilslice, (.int .i64 0), (.int .i64 0)])) := by kernel_rfl
@[go_sem] theorem td_85 : tdOf Tryz.prog 85 = (.struct [⟨false, 34, 0, 1, false⟩, ⟨false, 30, 1, 6, true⟩, ⟨false, 3, 7, 1, false⟩]) := by kernel_rfl
@[go_sem] theorem ty_85 : tyOf Tryz.prog 85 = some ((8, (152, true))) := by kernel_rfl
@[go_sem] theorem z_85 : zeroT Tryz.prog 85 = some ((.agg [.nilslice, (.str 0 0), .nilslice, .nilslice, .nilslice, .nilslice, (.int .i64 0), (.int .i64 0)])) := by kernel_rfl
@[go_sem] theorem td_86 : tdOf Tryz.prog 86 = .func := by kernel_rfl
@[go_sem] theorem ty_86 : tyOf Tryz.prog 86 = some ((1, (8, false))) := by kernel_rfl
@[go_sem] theorem z_86 : zeroT Tryz.prog 86 = some (.nilFunc) := by kernel_rfl
@[go_sem] theorem td_87 : tdOf Tryz.prog 87 = .ptr := by kernel_rfl
@[go_sem] theorem ty_87 : tyOf Tryz.prog 87 = some ((1, (8, false))) := by kernel_rfl
@[go_sem] theorem z_87 : zeroT Tryz.prog 87 = some (.nilptr) := by kernel_rfl
@[go_sem] theorem td_88 : tdOf Tryz.prog 88 = (.struct [⟨false, 9, 0, 1, false⟩, ⟨false, 77, 1, 1, false⟩, ⟨false, 9, 2, 1, false⟩, ⟨false, 4, 3, 1, false⟩, ⟨false, 3, 4, 1, false⟩]) := by kernel_rfl
@[go_sem] theorem ty_88 : tyOf Tryz.prog 88 = some ((5, (56, true))) := by kernel_rfl
@[go_sem] theorem z_88 : zeroT Tryz.prog 88 = some ((.agg [(.str 0 0), (.int .i64 0), (.str 0 0), (.bool false), (.int .i64 0)])) := by kernel_rfl
@[go_sem] theorem td_89 : tdOf Tryz.prog 89 = (.struct [⟨false, 9, 0, 1, false⟩, ⟨false, 77, 1, 1, false⟩, ⟨false, 9, 2, 1, false⟩, ⟨false, 4, 3, 1, false⟩, ⟨false, 3, 4, 1, false⟩]) := by kernel_rfl
@[go_sem] theorem ty_89 : tyOf Tryz.prog 89 = some ((5, (56, true))) := by kernel_rfl
@[go_sem] theorem z_89 : zeroT Tryz.prog 89 = some ((.agg [(.str 0 0), (.int .i64 0), (.str 0 0), (.bool false), (.int .i64 0)])) := by kernel_rfl
@[go_sem] theorem td_90 : tdOf Tryz.prog 90 = (.struct [⟨false, 30, 0, 6, true⟩, ⟨false, 9, 6, 1, false⟩, ⟨false, 89, 7, 5, true⟩]) := by kernel_rfl
@[go_sem] theorem ty_90 : tyOf Tryz.prog 90 = some ((12, (192, true))) := by kernel_rfl
@[go_sem] theorem z_90 : zeroT Tryz.prog 90 = some ((.agg [(.str 0 0), .nilslice, .nilslice, .nilslice, .nilslice, (.int .i64 0), (.str 0 0), (.str 0 0), (.int .i64 0), (.str 0 0), (.bool false), (.int .i64 0)])) := by kernel_rfl
@[go_sem] theorem td_91 : tdOf Tryz.prog 91 = (.struct [⟨false, 30, 0, 6, true⟩, ⟨false, 9, 6, 1, false⟩, ⟨false, 89, 7, 5, true⟩]) := by kernel_rfl
@[go_sem] theorem ty_91 : tyOf Tryz.prog 91 = some ((12, (192, true))) := by kernel_rfl
@[go_sem] theorem z_91 : zeroT Tryz.prog 91 = some ((.agg [(.str 0 0), .nilslice, .nilslice, .nilslice, .nilslice, (.int .i64 0), (.str 0 0), (.str 0 0), (.int .i64 0), (.str 0 0), (.bool false), (.int .i64 0)])) := by kernel_rfl
@[go_sem] theorem td_92 : tdOf Tryz.prog 92 = .func := by kernel_rfl
@[go_sem] theorem ty_92 : tyOf Tryz.prog 92 = some ((1, (8, false))) := by kernel_rfl
@[go_sem] theorem z_92 : zeroT Tryz.prog 92 = some (.nilFunc) := by kernel_rfl
@[go_sem] theorem td_93 : tdOf Tryz.prog 93 = (.slice 95 5 72) := by kernel_rfl
@[go_sem] theorem ty_93 : tyOf Tryz.prog 93 = some ((1, (24, false))) := by kernel_rfl
@[go_sem] theorem z_93 : zeroT Tryz.prog 93 = some (.nilslice) := by kernel_rfl
@[go_sem] theorem td_94 : tdOf Tryz.prog 94 = (.struct [⟨false, 9, 0, 1, false⟩, ⟨false, 9, 1, 1, false⟩, ⟨false, 2, 2, 1, false⟩, ⟨false, 3, 3, 1, false⟩, ⟨false, 93, 4, 1, false⟩]) := by kernel_rfl
@[go_sem] theorem ty_94 : tyOf Tryz.prog 94 = some ((5, (72, true))) := by kernel_rfl
@[go_sem] theorem z_94 : zeroT Tryz.prog 94 = some ((.agg [(.str 0 0), (.str 0 0), (.int .i64 0), (.int .i64 0), .nilslice])) := by kernel_rfl
@[go_sem] theorem td_95 : tdOf Tryz.prog 95 = (.struct [⟨false, 9, 0, 1, false⟩, ⟨false, 9, 1, 1, false⟩, ⟨false, 2, 2, 1, false⟩, ⟨false, 3, 3, 1, false⟩, ⟨false, 93, 4, 1, false⟩]) := by kernel_rfl
@[go_sem] theorem ty_95 : tyOf Tryz.prog 95 = some ((5, (72, true))) := by kernel_rfl
@[go_sem] theorem z_95 : zeroT Tryz.prog 95 = some ((.agg [(.str 0 0), (.str 0 0), (.int .i64 0), (.int .i64 0), .nilslice])) := by kernel_rfl
@[go_sem] theorem td_96 : tdOf Tryz.prog 96 = .func := by kernel_rfl
@[go_sem] theorem ty_96 : tyOf Tryz.prog 96 = some ((1, (8, false))) := by kernel_rfl
@[go_sem] theorem z_96 : zeroT Tryz.prog 96 = some (.nilFunc) := by kernel_rfl
@[go_sem] theorem td_97 : tdOf Tryz.prog 97 = (.struct [⟨false, 9, 0, 1, false⟩, ⟨false, 95, 1, 5, true⟩, ⟨false, 3, 6, 1, false⟩]) := by kernel_rfl
@[go_sem] theorem ty_97 : tyOf Tryz.prog 97 = some ((7, (96, true))) := by kernel_rfl
@[go_sem] theorem z_97 : zeroT Tryz.prog 97 = some ((.agg [(.str 0 0), (.str 0 0), (.str 0 0), (.int .i64 0), (.int .i64 0), .nilslice, (.int .i64 0)])) := by kernel_rfl
@[go_sem] theorem td_98 : tdOf Tryz.prog 98 = (.struct [⟨false, 9, 0, 1, false⟩, ⟨false, 95, 1, 5, true⟩, ⟨false, 3, 6, 1, false⟩]) := by kernel_rfl
@[go_sem] theorem ty_98 : tyOf Tryz.prog 98 = some ((7, (96, true))) := by kernel_rfl
@[go_sem] theorem z_98 : zeroT Tryz.prog 98 = some ((.agg [(.str 0 0), (.str 0 0), (.str 0 0), (.int .i64 0), (.int .i64 0), .nilslice, (.int .i64 0)])) := by kernel_rfl
@[go_sem] theorem td_99 : tdOf Tryz.prog 99 = .func := by kernel_rfl
@[go_sem] theorem ty_99 : tyOf Tryz.prog 99 = some ((1, (8, false))) := by kernel_rfl
@[go_sem] theorem z_99 : zeroT Tryz.prog 99 = some (.nilFunc) := by kernel_rfl
@[go_sem] theorem td_100 : tdOf Tryz.prog 100 = .func := by kernel_rfl
@[go_sem] theorem ty_100 : tyOf Tryz.prog 100 = some ((1, (8, false))) := by kernel_rfl
@[go_sem] theorem z_100 : zeroT Tryz.prog 100 = some (.nilFunc) := by kernel_rfl
@[go_sem] theorem td_101 : tdOf Tryz.prog 101 = .func := by kernel_rfl
@[go_sem] theorem ty_101 : tyOf Tryz.prog 101 = some ((1, (8, false))) := by kernel_rfl
@[go_sem] theorem z_101 : zeroT Tryz.prog 101 = some (.nilFunc) := by kernel_rfl
@[go_sem] theorem td_102 : tdOf Tryz.prog 102 = .func := by kernel_rfl
@[go_sem] theorem ty_102 : tyOf Tryz.prog 102 = some ((1, (8, false))) := by kernel_rfl
@[go_sem] theorem z_102 : zeroT Tryz.prog 102 = some (.nilFunc) := by kernel_rfl
@[go_sem] theorem td_103 : tdOf Tryz.prog 103 = .func := by kernel_rfl
@[go_sem] theorem ty_103 : tyOf Tryz.prog 103 = some ((1, (8, false))) := by kernel_rfl
@[go_sem] theorem z_103 : zeroT Tryz.prog 103 = some (.nilFunc) := by kernel_rfl
@[go_sem] theorem ty_104 : tyOf Tryz.prog 104 = some ((1, (0, false))) := by kernel_rfl
@[go_sem] theorem td_105 : tdOf Tryz.prog 105 = .func := by kernel_rfl
@[go_sem] theorem ty_105 : tyOf Tryz.prog 105 = some ((1, (8, false))) := by kernel_rfl
@[go_sem] theorem z_105 : zeroT Tryz.prog 105 = some (.nilFunc) := by kernel_rfl
@[go_sem] theorem td_106 : tdOf Tryz.prog 106 = (.struct [⟨false, 65, 0, 6, true⟩, ⟨false, 57, 6, 1, false⟩, ⟨false, 2, 7, 1, false⟩]) := by kernel_rfl
@[go_sem] theorem ty_106 : tyOf Tryz.prog 106 = some ((8, (176, true))) := by kernel_rfl
@[go_sem] theorem z_106 : zeroT Tryz.prog 106 = some ((.agg [.nilslice, .nilslice, .nilslice, .nilslice, .nilslice, .nilslice, .nilslice, (.int .i64 0)])) := by kernel_rfl
@[go_sem] theorem td_107 : tdOf Tryz.prog 107 = (.struct [⟨false, 65, 0, 6, true⟩, ⟨false, 57, 6, 1, false⟩, ⟨false, 2, 7, 1, false⟩]) := by kernel_rfl
@[go_sem] theorem ty_107 : tyOf Tryz.prog 107 = some ((8, (176, true))) := by kernel_rfl
@[go_sem] theorem z_107 : zeroT Tryz.prog 107 = some ((.agg [.nilslice, .nilslice, .nilslice, .nilslice, .nilslice, .nilslice, .nilslice, (.int .i64 0)])) := by kernel_rfl
@[go_sem] theorem td_108 : tdOf Tryz.prog 108 = .func := by kernel_rfl
@[go_sem] theorem ty_108 : tyOf Tryz.prog 108 = some ((1, (8, false))) := by kernel_rfl
@[go_sem] theorem z_108 : zeroT Tryz.prog 108 = some (.nilFunc) := by kernel_rfl
@[go_sem] theorem td_109 : tdOf Tryz.prog 109 = (.struct [⟨false, 3, 0, 1, false⟩, ⟨false, 3, 1, 1, false⟩, ⟨false, 3, 2, 1, false⟩, ⟨false, 3, 3, 1, false⟩]) := by kernel_rfl
@[go_sem] theorem ty_109 : tyOf Tryz.prog 109 = some ((4, (32, true))) := by kernel_rfl
@[go_sem] theorem z_109 : zeroT Tryz.prog 109 = some ((.agg [(.int .i64 0), (.int .i64 0), (.int .i64 0), (.int .i64 0)])) := by kernel_rfl
@[go_sem] theorem td_110 : tdOf Tryz.prog 110 = (.struct [⟨false, 3, 0, 1, false⟩, ⟨false, 3, 1, 1, false⟩, ⟨false, 3, 2, 1, false⟩, ⟨false, 3, 3, 1, false⟩]) := by kernel_rfl
@[go_sem] theorem ty_110 : tyOf Tryz.prog 110 = some ((4, (32, true))) := by kernel_rfl
@[go_sem] theorem z_110 : zeroT Tryz.prog 110 = some ((.agg [(.int .i64 0), (.int .i64 0), (.int .i64 0), (.int .i64 0)])) := by kernel_rfl
@[go_sem] theorem td_111 : tdOf Tryz.prog 111 = .func := by kernel_rfl
@[go_sem] theorem ty_111 : tyOf Tryz.prog 111 = some ((1, (8, false))) := by kernel_rfl
@[go_sem] theorem z_111 : zeroT Tryz.prog 111 = some (.nilFunc) := by kernel_rfl
@[go_sem] theorem td_112 : tdOf Tryz.prog 112 = .func := by kernel_rfl
@[go_sem] theorem ty_112 : tyOf Tryz.prog 112 = some ((1, (8, false))) := by kernel_rfl
@[go_sem] theorem z_112 : zeroT Tryz.prog 112 = some (.nilFunc) := by kernel_rfl
@[go_sem] theorem td_113 : tdOf Tryz.prog 113 = .func := by kernel_rfl
@[go_sem] theorem ty_113 : tyOf Tryz.prog 113 = some ((1, (8, false))) := by kernel_rfl
@[go_sem] theorem z_113 : zeroT Tryz.prog 113 = some (.nilFunc) := by kernel_rfl
@[go_sem] theorem td_114 : tdOf Tryz.prog 114 = .func := by kernel_rfl
@[go_sem] theorem ty_114 : tyOf Tryz.prog 114 = some ((1, (8, false))) := by kernel_rfl
@[go_sem] theorem z_114 : zeroT Tryz.prog 114 = some (.nilFunc) := by kernel_rfl
@[go_sem] theorem td_115 : tdOf Tryz.prog 115 = (.slice 116 1 24) := by kernel_rfl
@[go_sem] theorem ty_115 : tyOf Tryz.prog 115 = some ((1, (24, false))) := by kernel_rfl
@[go_sem] theorem z_115 : zeroT Tryz.prog 115 = some (.nilslice) := by kernel_rfl
@[go_sem] theorem td_116 : tdOf Tryz.prog 116 = (.slice 4 1 1) := by kernel_rfl
@[go_sem] theorem ty_116 : tyOf Tryz.prog 116 = some ((1, (24, false))) := by kernel_rfl
@[go_sem] theorem z_116 : zeroT Tryz.prog 116 = some (.nilslice) := by kernel_rfl
@[go_sem] theorem td_117 : tdOf Tryz.prog 117 = (.slice 3 1 8) := by kernel_rfl
@[go_sem] theorem ty_117 : tyOf Tryz.prog 117 = some ((1, (24, false))) := by kernel_rfl
@[go_sem] theorem z_117 : zeroT Tryz.prog 117 = some (.nilslice) := by kernel_rfl
@[go_sem] theorem td_118 : tdOf Tryz.prog 118 = .func := by kernel_rfl
@[go_sem] theorem ty_118 : tyOf Tryz.prog 118 = some ((1, (8, false))) := by kernel_rfl
@[go_sem] theorem z_118 : zeroT Tryz.prog 118 = some (.nilFunc) := by kernel_rfl
@[go_sem] theorem td_119 : tdOf Tryz.prog 119 = .func := by kernel_rfl
@[go_sem] theorem ty_119 : tyOf Tryz.prog 119 = some ((1, (8, false))) := by kernel_rfl
@[go_sem] theorem z_119 : zeroT Tryz.prog 119 = some (.nilFunc) := by kernel_rfl
@[go_sem] theorem td_120 : tdOf Tryz.prog 120 = .func := by kernel_rfl
@[go_sem] theorem ty_120 : tyOf Tryz.prog 120 = some ((1, (8, false))) := by kernel_rfl
@[go_sem] theorem z_120 : zeroT Tryz.prog 120 = some (.nilFunc) := by kernel_rfl
@[go_sem] theorem td_121 : tdOf Tryz.prog 121 = .ptr := by kernel_rfl
@[go_sem] theorem ty_121 : tyOf Tryz.prog 121 = some ((1, (8, false))) := by kernel_rfl
@[go_sem] theorem z_121 : zeroT Tryz.prog 121 = some (.nilptr) := by kernel_rfl
@[go_sem] theorem td_122 : tdOf Tryz.prog 122 = .func := by kernel_rfl
@[go_sem] theorem ty_122 : tyOf Tryz.prog 122 = some ((1, (8, false))) := by kernel_rfl
@[go_sem] theorem z_122 : zeroT Tryz.prog 122 = some (.nilFunc) := by kernel_rfl
@[go_sem] theorem td_123 : tdOf Tryz.prog 123 = .func := by kernel_rfl
@[go_sem] theorem ty_123 : tyOf Tryz.prog 123 = some ((1, (8, false))) := by kernel_rfl
@[go_sem] theorem z_123 : zeroT Tryz.prog 123 = some (.nilFunc) := by kernel_rfl
@[go_sem] theorem td_124 : tdOf Tryz.prog 124 = .func := by kernel_rfl
@[go_sem] theorem ty_124 : tyOf Tryz.prog 124 = some ((1, (8, false))) := by kernel_rfl
@[go_sem] theorem z_124 : zeroT Tryz.prog 124 = some (.nilFunc) := by kernel_rfl
@[go_sem] theorem td_125 : tdOf Tryz.prog 125 = (.slice 252 2 24) := by kernel_rfl
@[go_sem] theorem ty_125 : tyOf Tryz.prog 125 = some ((1, (24, false))) := by kernel_rfl
@[go_sem] theorem z_125 : zeroT Tryz.prog 125 = some (.nilslice) := by kernel_rfl
@[go_sem] theorem td_126 : tdOf Tryz.prog 126 = (.slice 128 8 128) := by kernel_rfl
@[go_sem] theorem ty_126 : tyOf Tryz.prog 126 = some ((1, (24, false))) := by kernel_rfl
@[go_sem] theorem z_126 : zeroT Tryz.prog 126 = some (.nilslice) := by kernel_rfl
@[go_sem] theorem td_127 : tdOf Tryz.prog 127 = (.struct [⟨false, 95, 0, 5, true⟩, ⟨false, 125, 5, 1, false⟩, ⟨false, 126, 6, 1, false⟩, ⟨false, 4, 7, 1, false⟩]) := by kernel_rfl
@[go_sem] theorem ty_127 : tyOf Tryz.prog 127 = some ((8, (128, true))) := by kernel_rfl
@[go_sem] theorem z_127 : zeroT Tryz.prog 127 = some ((.agg [(.str 0 0), (.str 0 0), (.int .i64 0), (.int .i64 0), .nilslice, .nilslice, .nilslice, (.bool false)])) := by kernel_rfl
@[go_sem] theorem td_128 : tdOf Tryz.prog 128 = (.struct [⟨false, 95, 0, 5, true⟩, ⟨false, 125, 5, 1, false⟩, ⟨false, 126, 6, 1, false⟩, ⟨false, 4, 7, 1, false⟩]) := by kernel_rfl
@[go_sem] theorem ty_128 : tyOf Tryz.prog 128 = some ((8, (128, true))) := by kernel_rfl
@[go_sem] theorem z_128 : zeroT Tryz.prog 128 = some ((.agg [(.str 0 0), (.str 0 0), (.int .i64 0), (.int .i64 0), .nilslice, .nilslice, .nilslice, (.bool false)])) := by kernel_rfl
@[go_sem] theorem ty_129 : tyOf Tryz.prog 129 = some ((1, (0, false))) := by kernel_rfl
@[go_sem] theorem td_130 : tdOf Tryz.prog 130 = .func := by kernel_rfl
@[go_sem] theorem ty_130 : tyOf Tryz.prog 130 = some ((1, (8, false))) := by kernel_rfl
@[go_sem] theorem z_130 : zeroT Tryz.prog 130 = some (.nilFunc) := by kernel_rfl
@[go_sem] theorem td_131 : tdOf Tryz.prog 131 = .func := by kernel_rfl
@[go_sem] theorem ty_131 : tyOf Tryz.prog 131 = some ((1, (8, false))) := by kernel_rfl
@[go_sem] theorem z_131 : zeroT Tryz.prog 131 = some (.nilFunc) := by kernel_rfl
@[go_sem] theorem td_132 : tdOf Tryz.prog 132 = .func := by kernel_rfl
@[go_sem] theorem ty_132 : tyOf Tryz.prog 132 = some ((1, (8, false))) := by kernel_rfl
@[go_sem] theorem z_132 : zeroT Tryz.prog 132 = some (.nilFunc) := by kernel_rfl
@[go_sem] theorem td_133 : tdOf Tryz.prog 133 = .func := by kernel_rfl
@[go_sem] theorem ty_133 : tyOf Tryz.prog 133 = some ((1, (8, false))) := by kernel_rfl
@[go_sem] theorem z_133 : zeroT Tryz.prog 133 = some (.nilFunc) := by kernel_rfl
@[go_sem] theorem td_134 : tdOf Tryz.prog 134 = .func := by kernel_rfl
@[go_sem] theorem ty_134 : tyOf Tryz.prog 134 = some ((1, (8, false))) := by kernel_rfl
@[go_sem] theorem z_134 : zeroT Tryz.prog 134 = some (.nilFunc) := by kernel_rfl
@[go_sem] theorem td_135 : tdOf Tryz.prog 135 = .func := by kernel_rfl
@[go_sem] theorem ty_135 : tyOf Tryz.prog 135 = some ((1, (8, false))) := by kernel_rfl
@[go_sem] theorem z_135 : zeroT Tryz.prog 135 = some (.nilFunc) := by kernel_rfl
@[go_sem] theorem td_136 : tdOf Tryz.prog 136 = .ptr := by kernel_rfl
@[go_sem] theorem ty_136 : tyOf Tryz.prog 136 = some ((1, (8, false))) := by kernel_rfl
@[go_sem] theorem z_136 : zeroT Tryz.prog 136 = some (.nilptr) := by kernel_rfl
@[go_sem] theorem td_137 : tdOf Tryz.prog 137 = (.struct [⟨false, 46, 0, 2, true⟩]) := by kernel_rfl
@[go_sem] theorem ty_137 : tyOf Tryz.prog 137 = some ((2, (16, true))) := by kernel_rfl
@[go_sem] theorem z_137 : zeroT Tryz.prog 137 = some ((.agg [(.int .i64 0), (.int .i64 0)])) := by kernel_rfl
@[go_sem] theorem td_138 : tdOf Tryz.prog 138 = (.struct [⟨false, 46, 0, 2, true⟩]) := by kernel_rfl
@[go_sem] theorem ty_138 : tyOf Tryz.prog 138 = some ((2, (16, true))) := by kernel_rfl
@[go_sem] theorem z_138 : zeroT Tryz.prog 138 = some ((.agg [(.int .i64 0), (.int .i64 0)])) := by kernel_rfl
@[go_sem] theorem td_139 : tdOf Tryz.prog 139 = .func := by kernel_rfl
@[go_sem] theorem ty_139 : tyOf Tryz.prog 139 = some ((1, (8, false))) := by kernel_rfl
@[go_sem] theorem z_139 : zeroT Tryz.prog 139 = some (.nilFunc) := by kernel_rfl
@[go_sem] theorem td_140 : tdOf Tryz.prog 140 = .func := by kernel_rfl
@[go_sem] theorem ty_140 : tyOf Tryz.prog 140 = some ((1, (8, false))) := by kernel_rfl
@[go_sem] theorem z_140 : zeroT Tryz.prog 140 = some (.nilFunc) := by kernel_rfl
@[go_sem] theorem ty_141 : tyOf Tryz.prog 141 = some ((1, (0, false))) := by kernel_rfl
@[go_sem] theorem td_142 : tdOf Tryz.prog 142 = .func := by kernel_rfl
@[go_sem] theorem ty_142 : tyOf Tryz.prog 142 = some ((1, (8, false))) := by kernel_rfl
@[go_sem] theorem z_142 : zeroT Tryz.prog 142 = some (.nilFunc) := by kernel_rfl
@[go_sem] theorem td_143 : tdOf Tryz.prog 143 = .func := by kernel_rfl
@[go_sem] theorem ty_143 : tyOf Tryz.prog 143 = some ((1, (8, false))) := by kernel_rfl
@[go_sem] theorem z_143 : zeroT Tryz.prog 143 = some (.nilFunc) := by kernel_rfl
@[go_sem] theorem td_144 : tdOf Tryz.prog 144 = .func := by kernel_rfl
@[go_sem] theorem ty_144 : tyOf Tryz.prog 144 = some ((1, (8, false))) := by kernel_rfl
@[go_sem] theorem z_144 : zeroT Tryz.prog 144 = some (.nilFunc) := by kernel_rfl
@[go_sem] theorem ty_145 : tyOf Tryz.prog 145 = some ((1, (0, false))) := by kernel_rfl
@[go_sem] theorem td_146 : tdOf Tryz.prog 146 = .func := by kernel_rfl
@[go_sem] theorem ty_146 : tyOf Tryz.prog 146 = some ((1, (8, false))) := by kernel_rfl
@[go_sem] theorem z_146 : zeroT Tryz.prog 146 = some (.nilFunc) := by kernel_rfl
@[go_sem] theorem td_147 : tdOf Tryz.prog 147 = .func := by kernel_rfl
@[go_sem] theorem ty_147 : tyOf Tryz.prog 147 = some ((1, (8, false))) := by kernel_rfl
@[go_sem] theorem z_147 : zeroT Tryz.prog 147 = some (.nilFunc) := by kernel_rfl
@[go_sem] theorem td_148 : tdOf Tryz.prog 148 = (.slice 207 2 24) := by kernel_rfl
@[go_sem] theorem ty_148 : tyOf Tryz.prog 148 = some ((1, (24, false))) := by kernel_rfl
@[go_sem] theorem z_148 : zeroT Tryz.prog 148 = some (.nilslice) := by kernel_rfl
@[go_sem] theorem ty_149 : tyOf Tryz.prog 149 = some ((1, (0, false))) := by kernel_rfl
@[go_sem] theorem td_150 : tdOf Tryz.prog 150 = .func := by kernel_rfl
@[go_sem] theorem ty_150 : tyOf Tryz.prog 150 = some ((1, (8, false))) := by kernel_rfl
@[go_sem] theorem z_150 : zeroT Tryz.prog 150 = some (.nilFunc) := by kernel_rfl
@[go_sem] theorem td_151 : tdOf Tryz.prog 151 = .func := by kernel_rfl
@[go_sem] theorem ty_151 : tyOf Tryz.prog 151 = some ((1, (8, false))) := by kernel_rfl
@[go_sem] theorem z_151 : zeroT Tryz.prog 151 = some (.nilFunc) := by kernel_rfl
@[go_sem] theorem td_152 : tdOf Tryz.prog 152 = .func := by kernel_rfl
@[go_sem] theorem ty_152 : tyOf Tryz.prog 152 = some ((1, (8, false))) := by kernel_rfl
@[go_sem] theorem z_152 : zeroT Tryz.prog 152 = some (.nilFunc) := by kernel_rfl
@[go_sem] theorem td_153 : tdOf Tryz.prog 153 = (.slice 9 1 16) := by kernel_rfl
@[go_sem] theorem ty_153 : tyOf Tryz.prog 153 = some ((1, (24, false))) := by kernel_rfl
@[go_sem] theorem z_153 : zeroT Tryz.prog 153 = some (.nilslice) := by kernel_rfl
@[go_sem] theorem td_154 : tdOf Tryz.prog 154 = .func := by kernel_rfl
@[go_sem] theorem ty_154 : tyOf Tryz.prog 154 = some ((1, (8, false))) := by kernel_rfl
@[go_sem] theorem z_154 : zeroT Tryz.prog 154 = some (.nilFunc) := by kernel_rfl
@[go_sem] theorem td_155 : tdOf Tryz.prog 155 = .func := by kernel_rfl
@[go_sem] theorem ty_155 : tyOf Tryz.prog 155 = some ((1, (8, false))) := by kernel_rfl
@[go_sem] theorem z_155 : zeroT Tryz.prog 155 = some (.nilFunc) := by kernel_rfl
@[go_sem] theorem td_156 : tdOf Tryz.prog 156 = .func := by kernel_rfl
@[go_sem] theorem ty_156 : tyOf Tryz.prog 156 = some ((1, (8, false))) := by kernel_rfl
@[go_sem] theorem z_156 : zeroT Tryz.prog 156 = some (.nilFunc) := by kernel_rfl
@[go_sem] theorem td_157 : tdOf Tryz.prog 157 = .func := by kernel_rfl
@[go_sem] theorem ty_157 : tyOf Tryz.prog 157 = some ((1, (8, false))) := by kernel_rfl
@[go_sem] theorem z_157 : zeroT Tryz.prog 157 = some (.nilFunc) := by kernel_rfl
@[go_sem] theorem td_158 : tdOf Tryz.prog 158 = .ptr := by kernel_rfl
@[go_sem] theorem ty_158 : tyOf Tryz.prog 158 = some ((1, (8, false))) := by kernel_rfl
@[go_sem] theorem z_158 : zeroT Tryz.prog 158 = some (.nilptr) := by kernel_rfl
@[go_sem] theorem td_159 : tdOf Tryz.prog 159 = (.map 9 3) := by kernel_rfl
@[go_sem] theorem ty_159 : tyOf Tryz.prog 159 = some ((1, (8, false))) := by kernel_rfl
@[go_sem] theorem z_159 : zeroT Tryz.prog 159 = some (.nilmap) := by kernel_rfl
@[go_sem] theorem td_160 : tdOf Tryz.prog 160 = (.map 2 3) := by kernel_rfl
@[go_sem] theorem ty_160 : tyOf Tryz.prog 160 = some ((1, (8, false))) := by kernel_rfl
@[go_sem] theorem z_160 : zeroT Tryz.prog 160 = some (.nilmap) := by kernel_rfl
@[go_sem] theorem td_161 : tdOf Tryz.prog 161 = (.slice 223 10 144) := by kernel_rfl
@[go_sem] theorem ty_161 : tyOf Tryz.prog 161 = some ((1, (24, false))) := by kernel_rfl
@[go_sem] theorem z_161 : zeroT Tryz.prog 161 = some (.nilslice) := by kernel_rfl
@[go_sem] theorem td_162 : tdOf Tryz.prog 162 = (.slice 232 2 32) := by kernel_rfl
@[go_sem] theorem ty_162 : tyOf Tryz.prog 162 = some ((1, (24, false))) := by kernel_rfl
@[go_sem] theorem z_162 : zeroT Tryz.prog 162 = some (.nilslice) := by kernel_rfl
@[go_sem] theorem td_163 : tdOf Tryz.prog 163 = (.struct [⟨false, 30, 0, 6, true⟩, ⟨false, 65, 6, 6, true⟩, ⟨false, 159, 12, 1, false⟩, ⟨false, 160, 13, 1, false⟩, ⟨false, 161, 14, 1, false⟩, ⟨false, 162, 15, 1, false⟩, ⟨false, 63, 16, 1, false⟩]) := by kernel_rfl
@[go_sem] theorem ty_163 : tyOf Tryz.prog 163 = some ((17, (352, true))) := by kernel_rfl
@[go_sem] theorem z_163 : zeroT Tryz.prog 163 = some ((.agg [(.str 0 0), .nilslice, .nilslice, .nilslice, .nilslice, (.int .i64 0), .nilslice, .nilslice, .nilslice, .nilslice, .nilslice, .nilslice, .nilmap, .nilmap, .nilslice, .nilslice, .nilslice])) := by kernel_rfl
@[go_sem] theorem td_164 : tdOf Tryz.prog 164 = (.struct [⟨false, 30, 0, 6, true⟩, ⟨false, 65, 6, 6, true⟩, ⟨false, 159, 12, 1, false⟩, ⟨false, 160, 13, 1, false⟩, ⟨false, 161, 14, 1, false⟩, ⟨false, 162, 15, 1, false⟩, ⟨false, 63, 16, 1, false⟩]) := by kernel_rfl
@[go_sem] theorem ty_164 : tyOf Tryz.prog 164 = some ((17, (352, true))) := by kernel_rfl
@[go_sem] theorem z_164 : zeroT Tryz.prog 164 = some ((.agg [(.str 0 0), .nilslice, .nilslice, .nilslice, .nilslice, (.int .i64 0), .nilslice, .nilslice, .nilslice, .nilslice, .nilslice, .nilslice, .nilmap, .nilmap, .nilslice, .nilslice, .nilslice])) := by kernel_rfl
@[go_sem] theorem ty_165 : tyOf Tryz.prog 165 = some ((1, (0, false))) := by kernel_rfl
@[go_sem] theorem td_166 : tdOf Tryz.prog 166 = .func := by kernel_rfl
@[go_sem] theorem ty_166 : tyOf Tryz.prog 166 = some ((1, (8, false))) := by kernel_rfl
@[go_sem] theorem z_166 : zeroT Tryz.prog 166 = some (.nilFunc) := by kernel_rfl
@[go_sem] theorem td_167 : tdOf Tryz.prog 167 = (.map 9 128) := by kernel_rfl
@[go_sem] theorem ty_167 : tyOf Tryz.prog 167 = some ((1, (8, false))) := by kernel_rfl
@[go_sem] theorem z_167 : zeroT Tryz.prog 167 = some (.nilmap) := by kernel_rfl
@[go_sem] theorem td_168 : tdOf Tryz.prog 168 = .func := by kernel_rfl
@[go_sem] theorem ty_168 : tyOf Tryz.prog 168 = some ((1, (8, false))) := by kernel_rfl
@[go_sem] theorem z_168 : zeroT Tryz.prog 168 = some (.nilFunc) := by kernel_rfl
@[go_sem] theorem td_169 : tdOf Tryz.prog 169 = .func := by kernel_rfl
@[go_sem] theorem ty_169 : tyOf Tryz.prog 169 = some ((1, (8, false))) := by kernel_rfl
@[go_sem] theorem z_169 : zeroT Tryz.prog 169 = some (.nilFunc) := by kernel_rfl
@[go_sem] theorem td_170 : tdOf Tryz.prog 170 = .func := by kernel_rfl
@[go_sem] theorem ty_170 : tyOf Tryz.prog 170 = some ((1, (8, false))) := by kernel_rfl
@[go_sem] theorem z_170 : zeroT Tryz.prog 170 = some (.nilFunc) := by kernel_rfl
@[go_sem] theorem td_171 : tdOf Tryz.prog 171 = (.slice 175 1 8) := by kernel_rfl
@[go_sem] theorem ty_171 : tyOf Tryz.prog 171 = some ((1, (24, false))) := by kernel_rfl
@[go_sem] theorem z_171 : zeroT Tryz.prog 171 = some (.nilslice) := by kernel_rfl
@[go_sem] theorem td_172 : tdOf Tryz.prog 172 = (.struct [⟨false, 24, 0, 1, false⟩, ⟨false, 43, 1, 6, true⟩, ⟨false, 117, 7, 1, false⟩, ⟨false, 171, 8, 1, false⟩]) := by kernel_rfl
@[go_sem] theorem ty_172 : tyOf Tryz.prog 172 = some ((9, (192, true))) := by kernel_rfl
@[go_sem] theorem z_172 : zeroT Tryz.prog 172 = some ((.agg [.nilslice, (.str 0 0), .nilslice, .nilslice, .nilslice, .nilslice, (.int .i64 0), .nilslice, .nilslice])) := by kernel_rfl
@[go_sem] theorem td_173 : tdOf Tryz.prog 173 = (.struct [⟨false, 24, 0, 1, false⟩, ⟨false, 43, 1, 6, true⟩, ⟨false, 117, 7, 1, false⟩, ⟨false, 171, 8, 1, false⟩]) := by kernel_rfl
@[go_sem] theorem ty_173 : tyOf Tryz.prog 173 = some ((9, (192, true))) := by kernel_rfl
@[go_sem] theorem z_173 : zeroT Tryz.prog 173 = some ((.agg [.nilslice, (.str 0 0), .nilslice, .nilslice, .nilslice, .nilslice, (.int .i64 0), .nilslice, .nilslice])) := by kernel_rfl
@[go_sem] theorem td_174 : tdOf Tryz.prog 174 = .func := by kernel_rfl
@[go_sem] theorem ty_174 : tyOf Tryz.prog 174 = some ((1, (8, false))) := by kernel_rfl
@[go_sem] theorem z_174 : zeroT Tryz.prog 174 = some (.nilFunc) := by kernel_rfl
@[go_sem] theorem td_175 : tdOf Tryz.prog 175 = .ptr := by kernel_rfl
@[go_sem] theorem ty_175 : tyOf Tryz.prog 175 = some ((1, (8, false))) := by kernel_rfl
@[go_sem] theorem z_175 : zeroT Tryz.prog 175 = some (.nilptr) := by kernel_rfl
@[go_sem] theorem td_176 : tdOf Tryz.prog 176 = .func := by kernel_rfl
@[go_sem] theorem ty_176 : tyOf Tryz.prog 176 = some ((1, (8, false))) := by kernel_rfl
@[go_sem] theorem z_176 : zeroT Tryz.prog 176 = some (.nilFunc) := by kernel_rfl
@[go_sem] theorem td_177 : tdOf Tryz.prog 177 = .ptr := by kernel_rfl
@[go_sem] theorem ty_177 : tyOf Tryz.prog 177 = some ((1, (8, false))) := by kernel_rfl
@[go_sem] theorem z_177 : zeroT Tryz.prog 177 = some (.nilptr) := by kernel_rfl
@[go_sem] theorem td_178 : tdOf Tryz.prog 178 = (.struct [⟨false, 153, 0, 1, false⟩, ⟨false, 57, 1, 1, false⟩]) := by kernel_rfl
@[go_sem] theorem ty_178 : tyOf Tryz.prog 178 = some ((2, (48, true))) := by kernel_rfl
@[go_sem] theorem z_178 : zeroT Tryz.prog 178 = some ((.agg [.nilslice, .nilslice])) := by kernel_rfl
@[go_sem] theorem td_179 : tdOf Tryz.prog 179 = (.struct [⟨false, 153, 0, 1, false⟩, ⟨false, 57, 1, 1, false⟩]) := by kernel_rfl
@[go_sem] theorem ty_179 : tyOf Tryz.prog 179 = some ((2, (48, true))) := by kernel_rfl
@[go_sem] theorem z_179 : zeroT Tryz.prog 179 = some ((.agg [.nilslice, .nilslice])) := by kernel_rfl
@[go_sem] theorem td_180 : tdOf Tryz.prog 180 = .func := by kernel_rfl
@[go_sem] theorem ty_180 : tyOf Tryz.prog 180 = some ((1, (8, false))) := by kernel_rfl
@[go_sem] theorem z_180 : zeroT Tryz.prog 180 = some (.nilFunc) := by kernel_rfl
@[go_sem] theorem td_181 : tdOf Tryz.prog 181 = .func := by kernel_rfl
@[go_sem] theorem ty_181 : tyOf Tryz.prog 181 = some ((1, (8, false))) := by kernel_rfl
@[go_sem] theorem z_181 : zeroT Tryz.prog 181 = some (.nilFunc) := by kernel_rfl
@[go_sem] theorem td_182 : tdOf Tryz.prog 182 = .func := by kernel_rfl
@[go_sem] theorem ty_182 : tyOf Tryz.prog 182 = some ((1, (8, false))) := by kernel_rfl
@[go_sem] theorem z_182 : zeroT Tryz.prog 182 = some (.nilFunc) := by kernel_rfl
@[go_sem] theorem td_183 : tdOf Tryz.prog 183 = .func := by kernel_rfl
@[go_sem] theorem ty_183 : tyOf Tryz.prog 183 = some ((1, (8, false))) := by kernel_rfl
@[go_sem] theorem z_183 : zeroT Tryz.prog 183 = some (.nilFunc) := by kernel_rfl
@[go_sem] theorem td_184 : tdOf Tryz.prog 184 = (.slice 191 4 40) := by kernel_rfl
@[go_sem] theorem ty_184 : tyOf Tryz.prog 184 = some ((1, (24, false))) := by kernel_rfl
@[go_sem] theorem z_184 : zeroT Tryz.prog 184 = some (.nilslice) := by kernel_rfl
@[go_sem] theorem ty_185 : tyOf Tryz.prog 185 = some ((1, (0, false))) := by kernel_rfl
@[go_sem] theorem td_186 : tdOf Tryz.prog 186 = .func := by kernel_rfl
@[go_sem] theorem ty_186 : tyOf Tryz.prog 186 = some ((1, (8, false))) := by kernel_rfl
@[go_sem] theorem z_186 : zeroT Tryz.prog 186 = some (.nilFunc) := by kernel_rfl
@[go_sem] theorem td_187 : tdOf Tryz.prog 187 = .ptr := by kernel_rfl
@[go_sem] theorem ty_187 : tyOf Tryz.prog 187 = some ((1, (8, false))) := by kernel_rfl
@[go_sem] theorem z_187 : zeroT Tryz.prog 187 = some (.nilptr) := by kernel_rfl
@[go_sem] theorem td_188 : tdOf Tryz.prog 188 = (.struct [⟨false, 184, 0, 1, false⟩, ⟨false, 3, 1, 1, false⟩, ⟨false, 46, 2, 2, true⟩, ⟨false, 3, 4, 1, false⟩, ⟨false, 3, 5, 1, false⟩, ⟨false, 3, 6, 1, false⟩]) := by kernel_rfl
@[go_sem] theorem ty_188 : tyOf Tryz.prog 188 = some ((7, (72, true))) := by kernel_rfl
@[go_sem] theorem z_188 : zeroT Tryz.prog 188 = some ((.agg [.nilslice, (.int .i64 0), (.int .i64 0), (.int .i64 0), (.int .i64 0), (.int .i64 0), (.int .i64 0)])) := by kernel_rfl
@[go_sem] theorem td_189 : tdOf Tryz.prog 189 = (.struct [⟨false, 184, 0, 1, false⟩, ⟨false, 3, 1, 1, false⟩, ⟨false, 46, 2, 2, true⟩, ⟨false, 3, 4, 1, false⟩, ⟨false, 3, 5, 1, false⟩, ⟨false, 3, 6, 1, false⟩]) := by kernel_rfl
@[go_sem] theorem ty_189 : tyOf Tryz.prog 189 = some ((7, (72, true))) := by kernel_rfl
@[go_sem] theorem z_189 : zeroT Tryz.prog 189 = some ((.agg [.nilslice, (.int .i64 0), (.int .i64 0), (.int .i64 0), (.int .i64 0), (.int .i64 0), (.int .i64 0)])) := by kernel_rfl
@[go_sem] theorem td_190 : tdOf Tryz.prog 190 = (.struct [⟨false, 3, 0, 1, false⟩, ⟨false, 9, 1, 1, false⟩, ⟨false, 2, 2, 1, false⟩, ⟨false, 3, 3, 1, false⟩]) := by kernel_rfl
@[go_sem] theorem ty_190 : tyOf Tryz.prog 190 = some ((4, (40, true))) := by kernel_rfl
@[go_sem] theorem z_190 : zeroT Tryz.prog 190 = some ((.agg [(.int .i64 0), (.str 0 0), (.int .i64 0), (.int .i64 0)])) := by kernel_rfl
@[go_sem] theorem td_191 : tdOf Tryz.prog 191 = (.struct [⟨false, 3, 0, 1, false⟩, ⟨false, 9, 1, 1, false⟩, ⟨false, 2, 2, 1, false⟩, ⟨false, 3, 3, 1, false⟩]) := by kernel_rfl
@[go_sem] theorem ty_191 : tyOf Tryz.prog 191 = some ((4, (40, true))) := by kernel_rfl
@[go_sem] theorem z_191 : zeroT Tryz.prog 191 = some ((.agg [(.int .i64 0), (.str 0 0), (.int .i64 0), (.int .i64 0)])) := by kernel_rfl
@[go_sem] theorem td_192 : tdOf Tryz.prog 192 = .func := by kernel_rfl
@[go_sem] theorem ty_192 : tyOf Tryz.prog 192 = some ((1, (8, false))) := by kernel_rfl
@[go_sem] theorem z_192 : zeroT Tryz.prog 192 = some (.nilFunc) := by kernel_rfl
@[go_sem] theorem td_193 : tdOf Tryz.prog 193 = .func := by kernel_rfl
@[go_sem] theorem ty_193 : tyOf Tryz.prog 193 = some ((1, (8, false))) := by kernel_rfl
@[go_sem] theorem z_193 : zeroT Tryz.prog 193 = some (.nilFunc) := by kernel_rfl
@[go_sem] theorem td_194 : tdOf Tryz.prog 194 = .func := by kernel_rfl
@[go_sem] theorem ty_194 : tyOf Tryz.prog 194 = some ((1, (8, false))) := by kernel_rfl
@[go_sem] theorem z_194 : zeroT Tryz.prog 194 = some (.nilFunc) := by kernel_rfl
@[go_sem] theorem td_195 : tdOf Tryz.prog 195 = .func := by kernel_rfl
@[go_sem] theorem ty_195 : tyOf Tryz.prog 195 = some ((1, (8, false))) := by kernel_rfl
@[go_sem] theorem z_195 : zeroT Tryz.prog 195 = some (.nilFunc) := by kernel_rfl
@[go_sem] theorem td_196 : tdOf Tryz.prog 196 = .ptr := by kernel_rfl
@[go_sem] theorem ty_196 : tyOf Tryz.prog 196 = some ((1, (8, false))) := by kernel_rfl
@[go_sem] theorem z_196 : zeroT Tryz.prog 196 = some (.nilptr) := by kernel_rfl
@[go_sem] theorem td_197 : tdOf Tryz.prog 197 = (.struct [⟨false, 30, 0, 6, true⟩, ⟨false, 117, 6, 1, false⟩]) := by kernel_rfl
@[go_sem] theorem ty_197 : tyOf Tryz.prog 197 = some ((7, (144, true))) := by kernel_rfl
@[go_sem] theorem z_197 : zeroT Tryz.prog 197 = some ((.agg [(.str 0 0), .nilslice, .nilslice, .nilslice, .nilslice, (.int .i64 0), .nilslice])) := by kernel_rfl
@[go_sem] theorem td_198 : tdOf Tryz.prog 198 = (.struct [⟨false, 30, 0, 6, true⟩, ⟨false, 117, 6, 1, false⟩]) := by kernel_rfl
@[go_sem] theorem ty_198 : tyOf Tryz.prog 198 = some ((7, (144, true))) := by kernel_rfl
@[go_sem] theorem z_198 : zeroT Tryz.prog 198 = some ((.agg [(.str 0 0), .nilslice, .nilslice, .nilslice, .nilslice, (.int .i64 0), .nilslice])) := by kernel_rfl
@[go_sem] theorem td_199 : tdOf Tryz.prog 199 = .func := by kernel_rfl
@[go_sem] theorem ty_199 : tyOf Tryz.prog 199 = some ((1, (8, false))) := by kernel_rfl
@[go_sem] theorem z_199 : zeroT Tryz.prog 199 = some (.nilFunc) := by kernel_rfl
@[go_sem] theorem td_200 : tdOf Tryz.prog 200 = .func := by kernel_rfl
@[go_sem] theorem ty_200 : tyOf Tryz.prog 200 = some ((1, (8, false))) := by kernel_rfl
@[go_sem] theorem z_200 : zeroT Tryz.prog 200 = some (.nilFunc) := by kernel_rfl
@[go_sem] theorem td_201 : tdOf Tryz.prog 201 = .ptr := by kernel_rfl
@[go_sem] theorem ty_201 : tyOf Tryz.prog 201 = some ((1, (8, false))) := by kernel_rfl
@[go_sem] theorem z_201 : zeroT Tryz.prog 201 = some (.nilptr) := by kernel_rfl
@[go_sem] theorem td_202 : tdOf Tryz.prog 202 = .func := by kernel_rfl
@[go_sem] theorem ty_202 : tyOf Tryz.prog 202 = some ((1, (8, false))) := by kernel_rfl
@[go_sem] theorem z_202 : zeroT Tryz.prog 202 = some (.nilFunc) := by kernel_rfl
@[go_sem] theorem td_203 : tdOf Tryz.prog 203 = .func := by kernel_rfl
@[go_sem] theorem ty_203 : tyOf Tryz.prog 203 = some ((1, (8, false))) := by kernel_rfl
@[go_sem] theorem z_203 : zeroT Tryz.prog 203 = some (.nilFunc) := by kernel_rfl
@[go_sem] theorem td_204 : tdOf Tryz.prog 204 = (.slice 148 1 24) := by kernel_rfl
@[go_sem] theorem ty_204 : tyOf Tryz.prog 204 = some ((1, (24, false))) := by kernel_rfl
@[go_sem] theorem z_204 : zeroT Tryz.prog 204 = some (.nilslice) := by kernel_rfl
@[go_sem] theorem td_205 : tdOf Tryz.prog 205 = .func := by kernel_rfl
@[go_sem] theorem ty_205 : tyOf Tryz.prog 205 = some ((1, (8, false))) := by kernel_rfl
@[go_sem] theorem z_205 : zeroT Tryz.prog 205 = some (.nilFunc) := by kernel_rfl
@[go_sem] theorem td_206 : tdOf Tryz.prog 206 = (.struct [⟨false, 9, 0, 1, false⟩, ⟨false, 4, 1, 1, false⟩]) := by kernel_rfl
@[go_sem] theorem ty_206 : tyOf Tryz.prog 206 = some ((2, (24, true))) := by kernel_rfl
@[go_sem] theorem z_206 : zeroT Tryz.prog 206 = some ((.agg [(.str 0 0), (.bool false)])) := by kernel_rfl
@[go_sem] theorem td_207 : tdOf Tryz.prog 207 = (.struct [⟨false, 9, 0, 1, false⟩, ⟨false, 4, 1, 1, false⟩]) := by kernel_rfl
@[go_sem] theorem ty_207 : tyOf Tryz.prog 207 = some ((2, (24, true))) := by kernel_rfl
@[go_sem] theorem z_207 : zeroT Tryz.prog 207 = some ((.agg [(.str 0 0), (.bool false)])) := by kernel_rfl
@[go_sem] theorem td_208 : tdOf Tryz.prog 208 = .func := by kernel_rfl
@[go_sem] theorem ty_208 : tyOf Tryz.prog 208 = some ((1, (8, false))) := by kernel_rfl
@[go_sem] theorem z_208 : zeroT Tryz.prog 208 = some (.nilFunc) := by kernel_rfl
@[go_sem] theorem td_209 : tdOf Tryz.prog 209 = .func := by kernel_rfl
@[go_sem] theorem ty_209 : tyOf Tryz.prog 209 = some ((1, (8, false))) := by kernel_rfl
@[go_sem] theorem z_209 : zeroT Tryz.prog 209 = some (.nilFunc) := by kernel_rfl
@[go_sem] theorem td_210 : tdOf Tryz.prog 210 = .func := by kernel_rfl
@[go_sem] theorem ty_210 : tyOf Tryz.prog 210 = some ((1, (8, false))) := by kernel_rfl
@[go_sem] theorem z_210 : zeroT Tryz.prog 210 = some (.nilFunc) := by kernel_rfl
@[go_sem] theorem td_211 : tdOf Tryz.prog 211 = .func := by kernel_rfl
@[go_sem] theorem ty_211 : tyOf Tryz.prog 211 = some ((1, (8, false))) := by kernel_rfl
@[go_sem] theorem z_211 : zeroT Tryz.prog 211 = some (.nilFunc) := by kernel_rfl
@[go_sem] theorem td_212 : tdOf Tryz.prog 212 = .ptr := by kernel_rfl
@[go_sem] theorem ty_212 : tyOf Tryz.prog 212 = some ((1, (8, false))) := by kernel_rfl
@[go_sem] theorem z_212 : zeroT Tryz.prog 212 = some (.nilptr) := by kernel_rfl
@[go_sem] theorem td_213 : tdOf Tryz.prog 213 = .func := by kernel_rfl
@[go_sem] theorem ty_213 : tyOf Tryz.prog 213 = some ((1, (8, false))) := by kernel_rfl
@[go_sem] theorem z_213 : zeroT Tryz.prog 213 = some (.nilFunc) := by kernel_rfl
@[go_sem] theorem td_214 : tdOf Tryz.prog 214 = (.map 9 4) := by kernel_rfl
@[go_sem] theorem ty_214 : tyOf Tryz.prog 214 = some ((1, (8, false))) := by kernel_rfl
@[go_sem] theorem z_214 : zeroT Tryz.prog 214 = some (.nilmap) := by kernel_rfl
@[go_sem] theorem td_215 : tdOf Tryz.prog 215 = .func := by kernel_rfl
@[go_sem] theorem ty_215 : tyOf Tryz.prog 215 = some ((1, (8, false))) := by kernel_rfl
@[go_sem] theorem z_215 : zeroT Tryz.prog 215 = some (.nilFunc) := by kernel_rfl
@[go_sem] theorem td_216 : tdOf Tryz.prog 216 = (.map 9 153) := by kernel_rfl
@[go_sem] theorem ty_216 : tyOf Tryz.prog 216 = some ((1, (8, false))) := by kernel_rfl
@[go_sem] theorem z_216 : zeroT Tryz.prog 216 = some (.nilmap) := by kernel_rfl
@[go_sem] theorem td_217 : tdOf Tryz.prog 217 = (.struct [⟨false, 153, 0, 1, false⟩, ⟨false, 216, 1, 1, false⟩]) := by kernel_rfl
@[go_sem] theorem ty_217 : tyOf Tryz.prog 217 = some ((2, (32, true))) := by kernel_rfl
@[go_sem] theorem z_217 : zeroT Tryz.prog 217 = some ((.agg [.nilslice, .nilmap])) := by kernel_rfl
@[go_sem] theorem td_218 : tdOf Tryz.prog 218 = (.struct [⟨false, 153, 0, 1, false⟩, ⟨false, 216, 1, 1, false⟩]) := by kernel_rfl
@[go_sem] theorem ty_218 : tyOf Tryz.prog 218 = some ((2, (32, true))) := by kernel_rfl
@[go_sem] theorem z_218 : zeroT Tryz.prog 218 = some ((.agg [.nilslice, .nilmap])) := by kernel_rfl
@[go_sem] theorem td_219 : tdOf Tryz.prog 219 = .func := by kernel_rfl
@[go_sem] theorem ty_219 : tyOf Tryz.prog 219 = some ((1, (8, false))) := by kernel_rfl
@[go_sem] theorem z_219 : zeroT Tryz.prog 219 = some (.nilFunc) := by kernel_rfl
@[go_sem] theorem td_220 : tdOf Tryz.prog 220 = .func := by kernel_rfl
@[go_sem] theorem ty_220 : tyOf Tryz.prog 220 = some ((1, (8, false))) := by kernel_rfl
@[go_sem] theorem z_220 : zeroT Tryz.prog 220 = some (.nilFunc) := by kernel_rfl
@[go_sem] theorem td_221 : tdOf Tryz.prog 221 = .func := by kernel_rfl
@[go_sem] theorem ty_221 : tyOf Tryz.prog 221 = some ((1, (8, false))) := by kernel_rfl
@[go_sem] theorem z_221 : zeroT Tryz.prog 221 = some (.nilFunc) := by kernel_rfl
@[go_sem] theorem td_222 : tdOf Tryz.prog 222 = (.struct [⟨false, 3, 0, 1, false⟩, ⟨false, 3, 1, 1, false⟩, ⟨false, 128, 2, 8, true⟩]) := by kernel_rfl
@[go_sem] theorem ty_222 : tyOf Tryz.prog 222 = some ((10, (144, true))) := by kernel_rfl
@[go_sem] theorem z_222 : zeroT Tryz.prog 222 = some ((.agg [(.int .i64 0), (.int .i64 0), (.str 0 0), (.str 0 0), (.int .i64 0), (.int .i64 0), .nilslice, .nilslice, .nilslice, (.bool false)])) := by kernel_rfl
@[go_sem] theorem td_223 : tdOf Tryz.prog 223 = (.struct [⟨false, 3, 0, 1, false⟩, ⟨false, 3, 1, 1, false⟩, ⟨false, 128, 2, 8, true⟩]) := by kernel_rfl
@[go_sem] theorem ty_223 : tyOf Tryz.prog 223 = some ((10, (144, true))) := by kernel_rfl
@[go_sem] theorem z_223 : zeroT Tryz.prog 223 = some ((.agg [(.int .i64 0), (.int .i64 0), (.str 0 0), (.str 0 0), (.int .i64 0), (.int .i64 0), .nilslice, .nilslice, .nilslice, (.bool false)])) := by kernel_rfl
@[go_sem] theorem td_224 : tdOf Tryz.prog 224 = .func := by kernel_rfl
@[go_sem] theorem ty_224 : tyOf Tryz.prog 224 = some ((1, (8, false))) := by kernel_rfl
@[go_sem] theorem z_224 : zeroT Tryz.prog 224 = some (.nilFunc) := by kernel_rfl
@[go_sem] theorem td_225 : tdOf Tryz.prog 225 = .func := by kernel_rfl
@[go_sem] theorem ty_225 : tyOf Tryz.prog 225 = some ((1, (8, false))) := by kernel_rfl
@[go_sem] theorem z_225 : zeroT Tryz.prog 225 = some (.nilFunc) := by kernel_rfl
@[go_sem] theorem td_226 : tdOf Tryz.prog 226 = .func := by kernel_rfl
@[go_sem] theorem ty_226 : tyOf Tryz.prog 226 = some ((1, (8, false))) := by kernel_rfl
@[go_sem] theorem z_226 : zeroT Tryz.prog 226 = some (.nilFunc) := by kernel_rfl
@[go_sem] theorem td_227 : tdOf Tryz.prog 227 = .func := by kernel_rfl
@[go_sem] theorem ty_227 : tyOf Tryz.prog 227 = some ((1, (8, false))) := by kernel_rfl
@[go_sem] theorem z_227 : zeroT Tryz.prog 227 = some (.nilFunc) := by kernel_rfl
@[go_sem] theorem td_228 : tdOf Tryz.prog 228 = .func := by kernel_rfl
@[go_sem] theorem ty_228 : tyOf Tryz.prog 228 = some ((1, (8, false))) := by kernel_rfl
@[go_sem] theorem z_228 : zeroT Tryz.prog 228 = some (.nilFunc) := by kernel_rfl
@[go_sem] theorem td_229 : tdOf Tryz.prog 229 = .func := by kernel_rfl
@[go_sem] theorem ty_229 : tyOf Tryz.prog 229 = some ((1, (8, false))) := by kernel_rfl
@[go_sem] theorem z_229 : zeroT Tryz.prog 229 = some (.nilFunc) := by kernel_rfl
@[go_sem] theorem td_230 : tdOf Tryz.prog 230 = .func := by kernel_rfl
@[go_sem] theorem ty_230 : tyOf Tryz.prog 230 = some ((1, (8, false))) := by kernel_rfl
@[go_sem] theorem z_230 : zeroT Tryz.prog 230 = some (.nilFunc) := by kernel_rfl
@[go_sem] theorem td_231 : tdOf Tryz.prog 231 = (.struct [⟨false, 3, 0, 1, false⟩, ⟨false, 125, 1, 1, false⟩]) := by kernel_rfl
@[go_sem] theorem ty_231 : tyOf Tryz.prog 231 = some ((2, (32, true))) := by kernel_rfl
@[go_sem] theorem z_231 : zeroT Tryz.prog 231 = some ((.agg [(.int .i64 0), .nilslice])) := by kernel_rfl
@[go_sem] theorem td_232 : tdOf Tryz.prog 232 = (.struct [⟨false, 3, 0, 1, false⟩, ⟨false, 125, 1, 1, false⟩]) := by kernel_rfl
@[go_sem] theorem ty_232 : tyOf Tryz.prog 232 = some ((2, (32, true))) := by kernel_rfl
@[go_sem] theorem z_232 : zeroT Tryz.prog 232 = some ((.agg [(.int .i64 0), .nilslice])) := by kernel_rfl
@[go_sem] theorem td_233 : tdOf Tryz.prog 233 = .func := by kernel_rfl
@[go_sem] theorem ty_233 : tyOf Tryz.prog 233 = some ((1, (8, false))) := by kernel_rfl
@[go_sem] theorem z_233 : zeroT Tryz.prog 233 = some (.nilFunc) := by kernel_rfl
@[go_sem] theorem ty_234 : tyOf Tryz.prog 234 = some ((1, (0, false))) := by kernel_rfl
@[go_sem] theorem td_235 : tdOf Tryz.prog 235 = .func := by kernel_rfl
@[go_sem] theorem ty_235 : tyOf Tryz.prog 235 = some ((1, (8, false))) := by kernel_rfl
@[go_sem] theorem z_235 : zeroT Tryz.prog 235 = some (.nilFunc) := by kernel_rfl
@[go_sem] theorem td_236 : tdOf Tryz.prog 236 = (.struct [⟨false, 148, 0, 1, false⟩, ⟨false, 2, 1, 1, false⟩, ⟨false, 4, 2, 1, false⟩, ⟨false, 171, 3, 1, false⟩, ⟨false, 121, 4, 1, false⟩]) := by kernel_rfl
@[go_sem] theorem ty_236 : tyOf Tryz.prog 236 = some ((5, (72, true))) := by kernel_rfl
@[go_sem] theorem z_236 : zeroT Tryz.prog 236 = some ((.agg [.nilslice, (.int .i64 0), (.bool false), .nilslice, .nilptr])) := by kernel_rfl
@[go_sem] theorem td_237 : tdOf Tryz.prog 237 = (.struct [⟨false, 148, 0, 1, false⟩, ⟨false, 2, 1, 1, false⟩, ⟨false, 4, 2, 1, false⟩, ⟨false, 171, 3, 1, false⟩, ⟨false, 121, 4, 1, false⟩]) := by kernel_rfl
@[go_sem] theorem ty_237 : tyOf Tryz.prog 237 = some ((5, (72, true))) := by kernel_rfl
@[go_sem] theorem z_237 : zeroT Tryz.prog 237 = some ((.agg [.nilslice, (.int .i64 0), (.bool false), .nilslice, .nilptr])) := by kernel_rfl
@[go_sem] theorem ty_238 : tyOf Tryz.prog 238 = some ((1, (0, false))) := by kernel_rfl
@[go_sem] theorem td_239 : tdOf Tryz.prog 239 = .func := by kernel_rfl
@[go_sem] theorem ty_239 : tyOf Tryz.prog 239 = some ((1, (8, false))) := by kernel_rfl
@[go_sem] theorem z_239 : zeroT Tryz.prog 239 = some (.nilFunc) := by kernel_rfl
@[go_sem] theorem td_240 : tdOf Tryz.prog 240 = .func := by kernel_rfl
@[go_sem] theorem ty_240 : tyOf Tryz.prog 240 = some ((1, (8, false))) := by kernel_rfl
@[go_sem] theorem z_240 : zeroT Tryz.prog 240 = some (.nilFunc) := by kernel_rfl
@[go_sem] theorem ty_241 : tyOf Tryz.prog 241 = some ((1, (0, false))) := by kernel_rfl
@[go_sem] theorem td_242 : tdOf Tryz.prog 242 = .func := by kernel_rfl
@[go_sem] theorem ty_242 : tyOf Tryz.prog 242 = some ((1, (8, false))) := by kernel_rfl
@[go_sem] theorem z_242 : zeroT Tryz.prog 242 = some (.nilFunc) := by kernel_rfl
@[go_sem] theorem td_243 : tdOf Tryz.prog 243 = .func := by kernel_rfl
@[go_sem] theorem ty_243 : tyOf Tryz.prog 243 = some ((1, (8, false))) := by kernel_rfl
@[go_sem] theorem z_243 : zeroT Tryz.prog 243 = some (.nilFunc) := by kernel_rfl
@[go_sem] theorem td_244 : tdOf Tryz.prog 244 = .func := by kernel_rfl
@[go_sem] theorem ty_244 : tyOf Tryz.prog 244 = some ((1, (8, false))) := by kernel_rfl
@[go_sem] theorem z_244 : zeroT Tryz.prog 244 = some (.nilFunc) := by kernel_rfl
@[go_sem] theorem td_245 : tdOf Tryz.prog 245 = .func := by kernel_rfl
@[go_sem] theorem ty_245 : tyOf Tryz.prog 245 = some ((1, (8, false))) := by kernel_rfl
@[go_sem] theorem z_245 : zeroT Tryz.prog 245 = some (.nilFunc) := by kernel_rfl
@[go_sem] theorem td_246 : tdOf Tryz.prog 246 = .func := by kernel_rfl
@[go_sem] theorem ty_246 : tyOf Tryz.prog 246 = some ((1, (8, false))) := by kernel_rfl
@[go_sem] theorem z_246 : zeroT Tryz.prog 246 = some (.nilFunc) := by kernel_rfl
@[go_sem] theorem ty_247 : tyOf Tryz.prog 247 = some ((1, (0, false))) := by kernel_rfl
@[go_sem] theorem td_248 : tdOf Tryz.prog 248 = .func := by kernel_rfl
@[go_sem] theorem ty_248 : tyOf Tryz.prog 248 = some ((1, (8, false))) := by kernel_rfl
@[go_sem] theorem z_248 : zeroT Tryz.prog 248 = some (.nilFunc) := by kernel_rfl
@[go_sem] theorem td_249 : tdOf Tryz.prog 249 = .func := by kernel_rfl
@[go_sem] theorem ty_249 : tyOf Tryz.prog 249 = some ((1, (8, false))) := by kernel_rfl
@[go_sem] theorem z_249 : zeroT Tryz.prog 249 = some (.nilFunc) := by kernel_rfl
@[go_sem] theorem ty_250 : tyOf Tryz.prog 250 = some ((1, (0, false))) := by kernel_rfl
@[go_sem] theorem td_251 : tdOf Tryz.prog 251 = .func := by kernel_rfl
@[go_sem] theorem ty_251 : tyOf Tryz.prog 251 = some ((1, (8, false))) := by kernel_rfl
@[go_sem] theorem z_251 : zeroT Tryz.prog 251 = some (.nilFunc) := by kernel_rfl
@[go_sem] theorem td_252 : tdOf Tryz.prog 252 = (.struct [⟨false, 9, 0, 1, false⟩, ⟨false, 4, 1, 1, false⟩]) := by kernel_rfl
@[go_sem] theorem ty_252 : tyOf Tryz.prog 252 = some ((2, (24, true))) := by kernel_rfl
@[go_sem] theorem z_252 : zeroT Tryz.prog 252 = some ((.agg [(.str 0 0), (.bool false)])) := by kernel_rfl
@[go_sem] theorem td_253 : tdOf Tryz.prog 253 = .func := by kernel_rfl
@[go_sem] theorem ty_253 : tyOf Tryz.prog 253 = some ((1, (8, false))) := by kernel_rfl
@[go_sem] theorem z_253 : zeroT Tryz.prog 253 = some (.nilFunc) := by kernel_rfl
@[go_sem] theorem td_254 : tdOf Tryz.prog 254 = .func := by kernel_rfl
@[go_sem] theorem ty_254 : tyOf Tryz.prog 254 = some ((1, (8, false))) := by kernel_rfl
@[go_sem] theorem z_254 : zeroT Tryz.prog 254 = some (.nilFunc) := by kernel_rfl
@[go_sem] theorem td_255 : tdOf Tryz.prog 255 = .func := by kernel_rfl
@[go_sem] theorem ty_255 : tyOf Tryz.prog 255 = some ((1, (8, false))) := by kernel_rfl
@[go_sem] theorem z_255 : zeroT Tryz.prog 255 = some (.nilFunc) := by kernel_rfl
@[go_sem] theorem td_256 : tdOf Tryz.prog 256 = .func := by kernel_rfl
@[go_sem] theorem ty_256 : tyOf Tryz.prog 256 = some ((1, (8, false))) := by kernel_rfl
@[go_sem] theorem z_256 : zeroT Tryz.prog 256 = some (.nilFunc) := by kernel_rfl
@[go_sem] theorem td_257 : tdOf Tryz.prog 257 = .func := by kernel_rfl
@[go_sem] theorem ty_257 : tyOf Tryz.prog 257 = some ((1, (8, false))) := by kernel_rfl
@[go_sem] theorem z_257 : zeroT Tryz.prog 257 = some (.nilFunc) := by kernel_rfl
@[go_sem] theorem td_258 : tdOf Tryz.prog 258 = .func := by kernel_rfl
@[go_sem] theorem ty_258 : tyOf Tryz.prog 258 = some ((1, (8, false))) := by kernel_rfl
@[go_sem] theorem z_258 : zeroT Tryz.prog 258 = some (.nilFunc) := by kernel_rfl
@[go_sem] theorem td_259 : tdOf Tryz.prog 259 = (.slice 27 1 24) := by kernel_rfl
@[go_sem] theorem ty_259 : tyOf Tryz.prog 259 = some ((1, (24, false))) := by kernel_rfl
@[go_sem] theorem z_259 : zeroT Tryz.prog 259 = some (.nilslice) := by kernel_rfl
@[go_sem] theorem td_260 : tdOf Tryz.prog 260 = .func := by kernel_rfl
@[go_sem] theorem ty_260 : tyOf Tryz.prog 260 = some ((1, (8, false))) := by kernel_rfl
@[go_sem] theorem z_260 : zeroT Tryz.prog 260 = some (.nilFunc) := by kernel_rfl
@[go_sem] theorem td_261 : tdOf Tryz.prog 261 = .func := by kernel_rfl
@[go_sem] theorem ty_261 : tyOf Tryz.prog 261 = some ((1, (8, false))) := by kernel_rfl
@[go_sem] theorem z_261 : zeroT Tryz.prog 261 = some (.nilFunc) := by kernel_rfl
@[go_sem] theorem td_262 : tdOf Tryz.prog 262 = .func := by kernel_rfl
@[go_sem] theorem ty_262 : tyOf Tryz.prog 262 = some ((1, (8, false))) := by kernel_rfl
@[go_sem] theorem z_262 : zeroT Tryz.prog 262 = some (.nilFunc) := by kernel_rfl
@[go_sem] theorem td_263 : tdOf Tryz.prog 263 = .func := by kernel_rfl
@[go_sem] theorem ty_263 : tyOf Tryz.prog 263 = some ((1, (8, false))) := by kernel_rfl
@[go_sem] theorem z_263 : zeroT Tryz.prog 263 = some (.nilFunc) := by kernel_rfl
@[go_sem] theorem td_264 : tdOf Tryz.prog 264 = .func := by kernel_rfl
@[go_sem] theorem ty_264 : tyOf Tryz.prog 264 = some ((1, (8, false))) := by kernel_rfl
@[go_sem] theorem z_264 : zeroT Tryz.prog 264 = some (.nilFunc) := by kernel_rfl
@[go_sem] theorem td_265 : tdOf Tryz.prog 265 = .func := by kernel_rfl
@[go_sem] theorem ty_265 : tyOf Tryz.prog 265 = some ((1, (8, false))) := by kernel_rfl
@[go_sem] theorem z_265 : zeroT Tryz.prog 265 = some (.nilFunc) := by kernel_rfl
@[go_sem] theorem ty_266 : tyOf Tryz.prog 266 = some ((1, (0, false))) := by kernel_rfl
@[go_sem] theorem ty_267 : tyOf Tryz.prog 267 = some ((1, (0, false))) := by kernel_rfl
@[go_sem] theorem td_268 : tdOf Tryz.prog 268 = .func := by kernel_rfl
@[go_sem] theorem ty_268 : tyOf Tryz.prog 268 = some ((1, (8, false))) := by kernel_rfl
@[go_sem] theorem z_268 : zeroT Tryz.prog 268 = some (.nilFunc) := by kernel_rfl
@[go_sem] theorem td_269 : tdOf Tryz.prog 269 = (.int .u64) := by kernel_rfl
@[go_sem] theorem ty_269 : tyOf Tryz.prog 269 = some ((1, (8, false))) := by kernel_rfl
@[go_sem] theorem z_269 : zeroT Tryz.prog 269 = some ((.int .u64 0)) := by kernel_rfl
@[go_sem] theorem td_270 : tdOf Tryz.prog 270 = .func := by kernel_rfl
@[go_sem] theorem ty_270 : tyOf Tryz.prog 270 = some ((1, (8, false))) := by kernel_rfl
@[go_sem] theorem z_270 : zeroT Tryz.prog 270 = some (.nilFunc) := by kernel_rfl
@[go_sem] theorem td_271 : tdOf Tryz.prog 271 = .func := by kernel_rfl
@[go_sem] theorem ty_271 : tyOf Tryz.prog 271 = some ((1, (8, false))) := by kernel_rfl
@[go_sem] theorem z_271 : zeroT Tryz.prog 271 = some (.nilFunc) := by kernel_rfl
@[go_sem] theorem td_272 : tdOf Tryz.prog 272 = .func := by kernel_rfl
@[go_sem] theorem ty_272 : tyOf Tryz.prog 272 = some ((1, (8, false))) := by kernel_rfl
@[go_sem] theorem z_272 : zeroT Tryz.prog 272 = some (.nilFunc) := by kernel_rfl
@[go_sem] theorem td_273 : tdOf Tryz.prog 273 = .func := by kernel_rfl
@[go_sem] theorem ty_273 : tyOf Tryz.prog 273 = some ((1, (8, false))) := by kernel_rfl
@[go_sem] theorem z_273 : zeroT Tryz.prog 273 = some (.nilFunc) := by kernel_rfl
@[go_sem] theorem td_274 : tdOf Tryz.prog 274 = .func := by kernel_rfl
@[go_sem] theorem ty_274 : tyOf Tryz.prog 274 = some ((1, (8, false))) := by kernel_rfl
@[go_sem] theorem z_274 : zeroT Tryz.prog 274 = some (.nilFunc) := by kernel_rfl
def pl9 : Plans := fun i => match i with | _ => []
@[go_sem] theorem rs9 : Tryz.f9.results.toList = [(.tmp 4)] := rfl
theorem ok9 : fnOk Tryz.prog pl9 Tryz.f9 = true := by kernel_rfl
def pl24 : Plans := fun i => match i with | 1 => [.pure, .pure, .pure, .pure, .alloc, .pure, .alloc, .pure] | _ => []
@[go_sem] theorem rs24 : Tryz.f24.results.toList = [(.tmp 2)] := rfl
theorem ok24 : fnOk Tryz.prog pl24 Tryz.f24 = true := by kernel_rfl
def pl25 : Plans := fun i => match i with | 11 => [.pure, .pure, .pure, .pure, .pure, .pure, .pure, .pure, .pure, .pure, .pure, .pure, .pure, .eff] | 13 => [.pure, .pure, .pure, .pure, .pure, .pure, .pure, .pure, .pure, .eff] | 15 => [.pure, .pure, .pure, .pure, .pure, .pure, .pure, .pure, .pure, .pure, .pure, .pure, .eff] | 17 => [.pure, .pure, .pure, .pure, .pure, .pure, .pure, .pure, .pure, .pure, .pure, .pure, .eff] | 19 => [.pure, .pure, .pure, .pure, .pure, .pure, .pure, .pure, .pure, .eff] | 21 => [.pure, .pure, .pure, .pure, .pure, .pure, .pure, .pure, .pure, .eff] | 23 => [.pure, .pure, (.read 0 2), .pure, .eff, .pure, .pure, (.read 0 1), .pure, (.read 0 1), .alloc, .eff, .pure, .eff] | 25 => [.pure, .pure, (.read 0 2), .pure, .eff, .pure, .pure, (.read 0 1), .pure, (.read 0 1), .pure, .pure, (.read 0 1), .pure, (.read 0 1), .alloc, .eff, .pure, .eff] | _ => []
@[go_sem] theorem rs25 : Tryz.f25.results.toList = [(.tmp 4), (.tmp 5)] := rfl
theorem ok25 : fnOk Tryz.prog pl25 Tryz.f25 = true := by kernel_rfl
def pl46 : Plans := fun i => match i with | _ => []
@[go_sem] theorem rs46 : Tryz.f46.results.toList = [(.tmp 4)] := rfl
theorem ok46 : fnOk Tryz.prog pl46 Tryz.f46 = true := by kernel_rfl
def pl47 : Plans := fun i => match i with | 10 => [.pure, .pure, .pure, .pure, .pure, .pure, .pure, .pure] | _ => []
@[go_sem] theorem rs47 : Tryz.f47.results.toList = [(.tmp 4)] := rfl
theorem ok47 : fnOk Tryz.prog pl47 Tryz.f47 = true := by kernel_rfl
def pl48 : Plans := fun i => match i with | _ => []
@[go_sem] theorem rs48 : Tryz.f48.results.toList = [(.tmp 2)] := rfl
theorem ok48 : fnOk Tryz.prog pl48 Tryz.f48 = true := by kernel_rfl
def pl84 : Plans := fun i => match i with | _ => []
@[go_sem] theorem rs84 : Tryz.f84.results.toList = [(.tmp 2)] := rfl
theorem ok84 : fnOk Tryz.prog pl84 Tryz.f84 = true := by kernel_rfl
attribute [go_sem] pl9 pl24 pl25 pl46 pl47 pl48 pl84
end Go.Proofs.YtgccjneplchojaaGreatDoor
