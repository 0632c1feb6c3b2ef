/- What is proved: the program's types, as the calculus asks them; that its functions may be walked. Conditions: as each theorem says. -/
import Derived.Test.YtjljolnhmmbkoaaDoorWK
import Derived.KernelRfl
import Derived.Test.YtjljolnhmmbkoaaDoorProg
set_option linter.unusedVariables false
set_option linter.unusedSimpArgs false
set_option linter.unusedSectionVars false
namespace Go.Proofs.YtjljolnhmmbkoaaDoor
open Go.Eng
set_option autoImplicit false
set_option maxRecDepth 100000
@[go_sem] theorem ty_0 : tyOf Tryd.prog 0 = some ((1, (0, false))) := by kernel_rfl
@[go_sem] theorem td_1 : tdOf Tryd.prog 1 = .func := by kernel_rfl
@[go_sem] theorem ty_1 : tyOf Tryd.prog 1 = some ((1, (8, false))) := by kernel_rfl
@[go_sem] theorem z_1 : zeroT Tryd.prog 1 = some (.nilFunc) := by kernel_rfl
@[go_sem] theorem td_2 : tdOf Tryd.prog 2 = (.int .i64) := by kernel_rfl
@[go_sem] theorem ty_2 : tyOf Tryd.prog 2 = some ((1, (8, false))) := by kernel_rfl
@[go_sem] theorem z_2 : zeroT Tryd.prog 2 = some ((.int .i64 0)) := by kernel_rfl
@[go_sem] theorem td_3 : tdOf Tryd.prog 3 = (.int .i64) := by kernel_rfl
@[go_sem] theorem ty_3 : tyOf Tryd.prog 3 = some ((1, (8, false))) := by kernel_rfl
@[go_sem] theorem z_3 : zeroT Tryd.prog 3 = some ((.int .i64 0)) := by kernel_rfl
@[go_sem] theorem td_4 : tdOf Tryd.prog 4 = .bool := by kernel_rfl
@[go_sem] theorem ty_4 : tyOf Tryd.prog 4 = some ((1, (1, false))) := by kernel_rfl
@[go_sem] theorem z_4 : zeroT Tryd.prog 4 = some ((.bool false)) := by kernel_rfl
@[go_sem] theorem td_5 : tdOf Tryd.prog 5 = (.int .u8) := by kernel_rfl
@[go_sem] theorem ty_5 : tyOf Tryd.prog 5 = some ((1, (1, false))) := by kernel_rfl
@[go_sem] theorem z_5 : zeroT Tryd.prog 5 = some ((.int .u8 0)) := by kernel_rfl
@[go_sem] theorem td_6 : tdOf Tryd.prog 6 = (.int .u8) := by kernel_rfl
@[go_sem] theorem ty_6 : tyOf Tryd.prog 6 = some ((1, (1, false))) := by kernel_rfl
@[go_sem] theorem z_6 : zeroT Tryd.prog 6 = some ((.int .u8 0)) := by kernel_rfl
@[go_sem] theorem td_7 : tdOf Tryd.prog 7 = (.struct [⟨false, 2, 0, 1, false⟩, ⟨false, 3, 1, 1, false⟩, ⟨false, 4, 2, 1, false⟩, ⟨false, 6, 3, 1, false⟩]) := by kernel_rfl
@[go_sem] theorem ty_7 : tyOf Tryd.prog 7 = some ((4, (24, true))) := by kernel_rfl
@[go_sem] theorem z_7 : zeroT Tryd.prog 7 = some ((.agg [(.int .i64 0), (.int .i64 0), (.bool false), (.int .u8 0)])) := by kernel_rfl
@[go_sem] theorem td_8 : tdOf Tryd.prog 8 = (.struct [⟨false, 2, 0, 1, false⟩, ⟨false, 3, 1, 1, false⟩, ⟨false, 4, 2, 1, false⟩, ⟨false, 6, 3, 1, false⟩]) := by kernel_rfl
@[go_sem] theorem ty_8 : tyOf Tryd.prog 8 = some ((4, (24, true))) := by kernel_rfl
@[go_sem] theorem z_8 : zeroT Tryd.prog 8 = some ((.agg [(.int .i64 0), (.int .i64 0), (.bool false), (.int .u8 0)])) := by kernel_rfl
@[go_sem] theorem td_9 : tdOf Tryd.prog 9 = .str := by kernel_rfl
@[go_sem] theorem ty_9 : tyOf Tryd.prog 9 = some ((1, (16, false))) := by kernel_rfl
@[go_sem] theorem z_9 : zeroT Tryd.prog 9 = some ((.str 0 0)) := by kernel_rfl
@[go_sem] theorem td_10 : tdOf Tryd.prog 10 = .str := by kernel_rfl
@[go_sem] theorem ty_10 : tyOf Tryd.prog 10 = some ((1, (16, false))) := by kernel_rfl
@[go_sem] theorem z_10 : zeroT Tryd.prog 10 = some ((.str 0 0)) := by kernel_rfl
@[go_sem] theorem td_11 : tdOf Tryd.prog 11 = .str := by kernel_rfl
@[go_sem] theorem ty_11 : tyOf Tryd.prog 11 = some ((1, (16, false))) := by kernel_rfl
@[go_sem] theorem z_11 : zeroT Tryd.prog 11 = some ((.str 0 0)) := by kernel_rfl
@[go_sem] theorem td_12 : tdOf Tryd.prog 12 = (.int .u64) := by kernel_rfl
@[go_sem] theorem ty_12 : tyOf Tryd.prog 12 = some ((1, (8, false))) := by kernel_rfl
@[go_sem] theorem z_12 : zeroT Tryd.prog 12 = some ((.int .u64 0)) := by kernel_rfl
@[go_sem] theorem td_13 : tdOf Tryd.prog 13 = (.struct [⟨false, 9, 0, 1, false⟩, ⟨false, 12, 1, 1, false⟩]) := by kernel_rfl
@[go_sem] theorem ty_13 : tyOf Tryd.prog 13 = some ((2, (24, true))) := by kernel_rfl
@[go_sem] theorem z_13 : zeroT Tryd.prog 13 = some ((.agg [(.str 0 0), (.int .u64 0)])) := by kernel_rfl
@[go_sem] theorem td_14 : tdOf Tryd.prog 14 = (.struct [⟨false, 9, 0, 1, false⟩, ⟨false, 12, 1, 1, false⟩]) := by kernel_rfl
@[go_sem] theorem ty_14 : tyOf Tryd.prog 14 = some ((2, (24, true))) := by kernel_rfl
@[go_sem] theorem z_14 : zeroT Tryd.prog 14 = some ((.agg [(.str 0 0), (.int .u64 0)])) := by kernel_rfl
@[go_sem] theorem td_15 : tdOf Tryd.prog 15 = .ptr := by kernel_rfl
@[go_sem] theorem ty_15 : tyOf Tryd.prog 15 = some ((1, (8, false))) := by kernel_rfl
@[go_sem] theorem z_15 : zeroT Tryd.prog 15 = some (.nilptr) := by kernel_rfl
@[go_sem] theorem td_16 : tdOf Tryd.prog 16 = .ptr := by kernel_rfl
@[go_sem] theorem ty_16 : tyOf Tryd.prog 16 = some ((1, (8, false))) := by kernel_rfl
@[go_sem] theorem z_16 : zeroT Tryd.prog 16 = some (.nilptr) := by kernel_rfl
@[go_sem] theorem td_17 : tdOf Tryd.prog 17 = .ptr := by kernel_rfl
@[go_sem] theorem ty_17 : tyOf Tryd.prog 17 = some ((1, (8, false))) := by kernel_rfl
@[go_sem] theorem z_17 : zeroT Tryd.prog 17 = some (.nilptr) := by kernel_rfl
@[go_sem] theorem td_18 : tdOf Tryd.prog 18 = (.struct [⟨false, 17, 0, 1, false⟩]) := by kernel_rfl
@[go_sem] theorem ty_18 : tyOf Tryd.prog 18 = some ((1, (8, true))) := by kernel_rfl
@[go_sem] theorem z_18 : zeroT Tryd.prog 18 = some ((.agg [.nilptr])) := by kernel_rfl
@[go_sem] theorem td_19 : tdOf Tryd.prog 19 = (.struct [⟨false, 17, 0, 1, false⟩]) := by kernel_rfl
@[go_sem] theorem ty_19 : tyOf Tryd.prog 19 = some ((1, (8, true))) := by kernel_rfl
@[go_sem] theorem z_19 : zeroT Tryd.prog 19 = some ((.agg [.nilptr])) := by kernel_rfl
@[go_sem] theorem td_20 : tdOf Tryd.prog 20 = .iface := by kernel_rfl
@[go_sem] theorem ty_20 : tyOf Tryd.prog 20 = some ((1, (16, false))) := by kernel_rfl
@[go_sem] theorem z_20 : zeroT Tryd.prog 20 = some (.nilIface) := by kernel_rfl
@[go_sem] theorem td_21 : tdOf Tryd.prog 21 = (.int .i32) := by kernel_rfl
@[go_sem] theorem ty_21 : tyOf Tryd.prog 21 = some ((1, (4, false))) := by kernel_rfl
@[go_sem] theorem z_21 : zeroT Tryd.prog 21 = some ((.int .i32 0)) := by kernel_rfl
@[go_sem] theorem td_22 : tdOf Tryd.prog 22 = .func := by kernel_rfl
@[go_sem] theorem ty_22 : tyOf Tryd.prog 22 = some ((1, (8, false))) := by kernel_rfl
@[go_sem] theorem z_22 : zeroT Tryd.prog 22 = some (.nilFunc) := by kernel_rfl
@[go_sem] theorem td_23 : tdOf Tryd.prog 23 = (.slice 48 1 8) := by kernel_rfl
@[go_sem] theorem ty_23 : tyOf Tryd.prog 23 = some ((1, (24, false))) := by kernel_rfl
@[go_sem] theorem z_23 : zeroT Tryd.prog 23 = some (.nilslice) := by kernel_rfl
@[go_sem] theorem td_24 : tdOf Tryd.prog 24 = (.slice 2 1 8) := by kernel_rfl
@[go_sem] theorem ty_24 : tyOf Tryd.prog 24 = some ((1, (24, false))) := by kernel_rfl
@[go_sem] theorem z_24 : zeroT Tryd.prog 24 = some (.nilslice) := by kernel_rfl
@[go_sem] theorem td_25 : tdOf Tryd.prog 25 = (.slice 36 4 32) := by kernel_rfl
@[go_sem] theorem ty_25 : tyOf Tryd.prog 25 = some ((1, (24, false))) := by kernel_rfl
@[go_sem] theorem z_25 : zeroT Tryd.prog 25 = some (.nilslice) := by kernel_rfl
@[go_sem] theorem td_26 : tdOf Tryd.prog 26 = (.struct [⟨false, 23, 0, 1, false⟩, ⟨false, 23, 1, 1, false⟩, ⟨false, 23, 2, 1, false⟩, ⟨false, 23, 3, 1, false⟩, ⟨false, 24, 4, 1, false⟩, ⟨false, 25, 5, 1, false⟩]) := by kernel_rfl
@[go_sem] theorem ty_26 : tyOf Tryd.prog 26 = some ((6, (144, true))) := by kernel_rfl
@[go_sem] theorem z_26 : zeroT Tryd.prog 26 = some ((.agg [.nilslice, .nilslice, .nilslice, .nilslice, .nilslice, .nilslice])) := by kernel_rfl
@[go_sem] theorem td_27 : tdOf Tryd.prog 27 = (.struct [⟨false, 23, 0, 1, false⟩, ⟨false, 23, 1, 1, false⟩, ⟨false, 23, 2, 1, false⟩, ⟨false, 23, 3, 1, false⟩, ⟨false, 24, 4, 1, false⟩, ⟨false, 25, 5, 1, false⟩]) := by kernel_rfl
@[go_sem] theorem ty_27 : tyOf Tryd.prog 27 = some ((6, (144, true))) := by kernel_rfl
@[go_sem] theorem z_27 : zeroT Tryd.prog 27 = some ((.agg [.nilslice, .nilslice, .nilslice, .nilslice, .nilslice, .nilslice])) := by kernel_rfl
@[go_sem] theorem td_28 : tdOf Tryd.prog 28 = (.int .i64) := by kernel_rfl
@[go_sem] theorem ty_28 : tyOf Tryd.prog 28 = some ((1, (8, false))) := by kernel_rfl
@[go_sem] theorem z_28 : zeroT Tryd.prog 28 = some ((.int .i64 0)) := by kernel_rfl
@[go_sem] theorem ty_29 : tyOf Tryd.prog 29 = some ((1, (0, false))) := by kernel_rfl
@[go_sem] theorem td_30 : tdOf Tryd.prog 30 = .func := by kernel_rfl
@[go_sem] theorem ty_30 : tyOf Tryd.prog 30 = some ((1, (8, false))) := by kernel_rfl
@[go_sem] theorem z_30 : zeroT Tryd.prog 30 = some (.nilFunc) := by kernel_rfl
@[go_sem] theorem td_31 : tdOf Tryd.prog 31 = (.slice 5 1 1) := by kernel_rfl
@[go_sem] theorem ty_31 : tyOf Tryd.prog 31 = some ((1, (24, false))) := by kernel_rfl
@[go_sem] theorem z_31 : zeroT Tryd.prog 31 = some (.nilslice) := by kernel_rfl
@[go_sem] theorem td_32 : tdOf Tryd.prog 32 = .func := by kernel_rfl
@[go_sem] theorem ty_32 : tyOf Tryd.prog 32 = some ((1, (8, false))) := by kernel_rfl
@[go_sem] theorem z_32 : zeroT Tryd.prog 32 = some (.nilFunc) := by kernel_rfl
@[go_sem] theorem td_33 : tdOf Tryd.prog 33 = .func := by kernel_rfl
@[go_sem] theorem ty_33 : tyOf Tryd.prog 33 = some ((1, (8, false))) := by kernel_rfl
@[go_sem] theorem z_33 : zeroT Tryd.prog 33 = some (.nilFunc) := by kernel_rfl
@[go_sem] theorem td_34 : tdOf Tryd.prog 34 = .func := by kernel_rfl
@[go_sem] theorem ty_34 : tyOf Tryd.prog 34 = some ((1, (8, false))) := by kernel_rfl
@[go_sem] theorem z_34 : zeroT Tryd.prog 34 = some (.nilFunc) := by kernel_rfl
@[go_sem] theorem td_35 : tdOf Tryd.prog 35 = (.struct [⟨false, 3, 0, 1, false⟩, ⟨false, 3, 1, 1, false⟩, ⟨false, 3, 2, 1, false⟩, ⟨false, 3, 3, 1, false⟩]) := by kernel_rfl
@[go_sem] theorem ty_35 : tyOf Tryd.prog 35 = some ((4, (32, true))) := by kernel_rfl
@[go_sem] theorem z_35 : zeroT Tryd.prog 35 = some ((.agg [(.int .i64 0), (.int .i64 0), (.int .i64 0), (.int .i64 0)])) := by kernel_rfl
@[go_sem] theorem td_36 : tdOf Tryd.prog 36 = (.struct [⟨false, 3, 0, 1, false⟩, ⟨false, 3, 1, 1, false⟩, ⟨false, 3, 2, 1, false⟩, ⟨false, 3, 3, 1, false⟩]) := by kernel_rfl
@[go_sem] theorem ty_36 : tyOf Tryd.prog 36 = some ((4, (32, true))) := by kernel_rfl
@[go_sem] theorem z_36 : zeroT Tryd.prog 36 = some ((.agg [(.int .i64 0), (.int .i64 0), (.int .i64 0), (.int .i64 0)])) := by kernel_rfl
@[go_sem] theorem td_37 : tdOf Tryd.prog 37 = .func := by kernel_rfl
@[go_sem] theorem ty_37 : tyOf Tryd.prog 37 = some ((1, (8, false))) := by kernel_rfl
@[go_sem] theorem z_37 : zeroT Tryd.prog 37 = some (.nilFunc) := by kernel_rfl
@[go_sem] theorem td_38 : tdOf Tryd.prog 38 = .func := by kernel_rfl
@[go_sem] theorem ty_38 : tyOf Tryd.prog 38 = some ((1, (8, false))) := by kernel_rfl
@[go_sem] theorem z_38 : zeroT Tryd.prog 38 = some (.nilFunc) := by kernel_rfl
@[go_sem] theorem td_39 : tdOf Tryd.prog 39 = .func := by kernel_rfl
@[go_sem] theorem ty_39 : tyOf Tryd.prog 39 = some ((1, (8, false))) := by kernel_rfl
@[go_sem] theorem z_39 : zeroT Tryd.prog 39 = some (.nilFunc) := by kernel_rfl
@[go_sem] theorem td_40 : tdOf Tryd.prog 40 = .func := by kernel_rfl
@[go_sem] theorem ty_40 : tyOf Tryd.prog 40 = some ((1, (8, false))) := by kernel_rfl
@[go_sem] theorem z_40 : zeroT Tryd.prog 40 = some (.nilFunc) := by kernel_rfl
@[go_sem] theorem td_41 : tdOf Tryd.prog 41 = (.int .u64) := by kernel_rfl
@[go_sem] theorem ty_41 : tyOf Tryd.prog 41 = some ((1, (8, false))) := by kernel_rfl
@[go_sem] theorem z_41 : zeroT Tryd.prog 41 = some ((.int .u64 0)) := by kernel_rfl
@[go_sem] theorem td_42 : tdOf Tryd.prog 42 = (.int .u32) := by kernel_rfl
@[go_sem] theorem ty_42 : tyOf Tryd.prog 42 = some ((1, (4, false))) := by kernel_rfl
@[go_sem] theorem z_42 : zeroT Tryd.prog 42 = some ((.int .u32 0)) := by kernel_rfl
@[go_sem] theorem td_43 : tdOf Tryd.prog 43 = .func := by kernel_rfl
@[go_sem] theorem ty_43 : tyOf Tryd.prog 43 = some ((1, (8, false))) := by kernel_rfl
@[go_sem] theorem z_43 : zeroT Tryd.prog 43 = some (.nilFunc) := by kernel_rfl
@[go_sem] theorem ty_44 : tyOf Tryd.prog 44 = some ((1, (0, false))) := by kernel_rfl
@[go_sem] theorem td_45 : tdOf Tryd.prog 45 = .func := by kernel_rfl
@[go_sem] theorem ty_45 : tyOf Tryd.prog 45 = some ((1, (8, false))) := by kernel_rfl
@[go_sem] theorem z_45 : zeroT Tryd.prog 45 = some (.nilFunc) := by kernel_rfl
@[go_sem] theorem td_46 : tdOf Tryd.prog 46 = .func := by kernel_rfl
@[go_sem] theorem ty_46 : tyOf Tryd.prog 46 = some ((1, (8, false))) := by kernel_rfl
@[go_sem] theorem z_46 : zeroT Tryd.prog 46 = some (.nilFunc) := by kernel_rfl
@[go_sem] theorem td_47 : tdOf Tryd.prog 47 = .func := by kernel_rfl
@[go_sem] theorem ty_47 : tyOf Tryd.prog 47 = some ((1, (8, false))) := by kernel_rfl
@[go_sem] theorem z_47 : zeroT Tryd.prog 47 = some (.nilFunc) := by kernel_rfl
@[go_sem] theorem td_48 : tdOf Tryd.prog 48 = (.int .i64) := by kernel_rfl
@[go_sem] theorem ty_48 : tyOf Tryd.prog 48 = some ((1, (8, false))) := by kernel_rfl
@[go_sem] theorem z_48 : zeroT Tryd.prog 48 = some ((.int .i64 0)) := by kernel_rfl
@[go_sem] theorem td_49 : tdOf Tryd.prog 49 = .ptr := by kernel_rfl
@[go_sem] theorem ty_49 : tyOf Tryd.prog 49 = some ((1, (8, false))) := by kernel_rfl
@[go_sem] theorem z_49 : zeroT Tryd.prog 49 = some (.nilptr) := by kernel_rfl
@[go_sem] theorem td_50 : tdOf Tryd.prog 50 = .func := by kernel_rfl
@[go_sem] theorem ty_50 : tyOf Tryd.prog 50 = some ((1, (8, false))) := by kernel_rfl
@[go_sem] theorem z_50 : zeroT Tryd.prog 50 = some (.nilFunc) := by kernel_rfl
@[go_sem] theorem td_51 : tdOf Tryd.prog 51 = .func := by kernel_rfl
@[go_sem] theorem ty_51 : tyOf Tryd.prog 51 = some ((1, (8, false))) := by kernel_rfl
@[go_sem] theorem z_51 : zeroT Tryd.prog 51 = some (.nilFunc) := by kernel_rfl
@[go_sem] theorem td_52 : tdOf Tryd.prog 52 = .func := by kernel_rfl
@[go_sem] theorem ty_52 : tyOf Tryd.prog 52 = some ((1, (8, false))) := by kernel_rfl
@[go_sem] theorem z_52 : zeroT Tryd.prog 52 = some (.nilFunc) := by kernel_rfl
@[go_sem] theorem td_53 : tdOf Tryd.prog 53 = .func := by kernel_rfl
@[go_sem] theorem ty_53 : tyOf Tryd.prog 53 = some ((1, (8, false))) := by kernel_rfl
@[go_sem] theorem z_53 : zeroT Tryd.prog 53 = some (.nilFunc) := by kernel_rfl
@[go_sem] theorem td_54 : tdOf Tryd.prog 54 = .func := by kernel_rfl
@[go_sem] theorem ty_54 : tyOf Tryd.prog 54 = some ((1, (8, false))) := by kernel_rfl
@[go_sem] theorem z_54 : zeroT Tryd.prog 54 = some (.nilFunc) := by kernel_rfl
@[go_sem] theorem td_55 : tdOf Tryd.prog 55 = .func := by kernel_rfl
@[go_sem] theorem ty_55 : tyOf Tryd.prog 55 = some ((1, (8, false))) := by kernel_rfl
@[go_sem] theorem z_55 : zeroT Tryd.prog 55 = some (.nilFunc) := by kernel_rfl
@[go_sem] theorem td_56 : tdOf Tryd.prog 56 = .func := by kernel_rfl
@[go_sem] theorem ty_56 : tyOf Tryd.prog 56 = some ((1, (8, false))) := by kernel_rfl
@[go_sem] theorem z_56 : zeroT Tryd.prog 56 = some (.nilFunc) := by kernel_rfl
@[go_sem] theorem td_57 : tdOf Tryd.prog 57 = .func := by kernel_rfl
@[go_sem] theorem ty_57 : tyOf Tryd.prog 57 = some ((1, (8, false))) := by kernel_rfl
@[go_sem] theorem z_57 : zeroT Tryd.prog 57 = some (.nilFunc) := by kernel_rfl
@[go_sem] theorem td_58 : tdOf Tryd.prog 58 = .func := by kernel_rfl
@[go_sem] theorem ty_58 : tyOf Tryd.prog 58 = some ((1, (8, false))) := by kernel_rfl
@[go_sem] theorem z_58 : zeroT Tryd.prog 58 = some (.nilFunc) := by kernel_rfl
@[go_sem] theorem td_59 : tdOf Tryd.prog 59 = (.slice 23 1 24) := by kernel_rfl
@[go_sem] theorem ty_59 : tyOf Tryd.prog 59 = some ((1, (24, false))) := by kernel_rfl
@[go_sem] theorem z_59 : zeroT Tryd.prog 59 = some (.nilslice) := by kernel_rfl
@[go_sem] theorem td_60 : tdOf Tryd.prog 60 = .func := by kernel_rfl
@[go_sem] theorem ty_60 : tyOf Tryd.prog 60 = some ((1, (8, false))) := by kernel_rfl
@[go_sem] theorem z_60 : zeroT Tryd.prog 60 = some (.nilFunc) := by kernel_rfl
@[go_sem] theorem td_61 : tdOf Tryd.prog 61 = .func := by kernel_rfl
@[go_sem] theorem ty_61 : tyOf Tryd.prog 61 = some ((1, (8, false))) := by kernel_rfl
@[go_sem] theorem z_61 : zeroT Tryd.prog 61 = some (.nilFunc) := by kernel_rfl
@[go_sem] theorem td_62 : tdOf Tryd.prog 62 = .func := by kernel_rfl
@[go_sem] theorem ty_62 : tyOf Tryd.prog 62 = some ((1, (8, false))) := by kernel_rfl
@[go_sem] theorem z_62 : zeroT Tryd.prog 62 = some (.nilFunc) := by kernel_rfl
@[go_sem] theorem td_63 : tdOf Tryd.prog 63 = .func := by kernel_rfl
@[go_sem] theorem ty_63 : tyOf Tryd.prog 63 = some ((1, (8, false))) := by kernel_rfl
@[go_sem] theorem z_63 : zeroT Tryd.prog 63 = some (.nilFunc) := by kernel_rfl
@[go_sem] theorem td_64 : tdOf Tryd.prog 64 = .func := by kernel_rfl
@[go_sem] theorem ty_64 : tyOf Tryd.prog 64 = some ((1, (8, false))) := by kernel_rfl
@[go_sem] theorem z_64 : zeroT Tryd.prog 64 = some (.nilFunc) := by kernel_rfl
@[go_sem] theorem td_65 : tdOf Tryd.prog 65 = .func := by kernel_rfl
@[go_sem] theorem ty_65 : tyOf Tryd.prog 65 = some ((1, (8, false))) := by kernel_rfl
@[go_sem] theorem z_65 : zeroT Tryd.prog 65 = some (.nilFunc) := by kernel_rfl
@[go_sem] theorem td_66 : tdOf Tryd.prog 66 = (.int .u64) := by kernel_rfl
@[go_sem] theorem ty_66 : tyOf Tryd.prog 66 = some ((1, (8, false))) := by kernel_rfl
@[go_sem] theorem z_66 : zeroT Tryd.prog 66 = some ((.int .u64 0)) := by kernel_rfl
@[go_sem] theorem td_67 : tdOf Tryd.prog 67 = (.slice 9 1 16) := by kernel_rfl
@[go_sem] theorem ty_67 : tyOf Tryd.prog 67 = some ((1, (24, false))) := by kernel_rfl
@[go_sem] theorem z_67 : zeroT Tryd.prog 67 = some (.nilslice) := by kernel_rfl
@[go_sem] theorem td_68 : tdOf Tryd.prog 68 = (.slice 3 1 8) := by kernel_rfl
@[go_sem] theorem ty_68 : tyOf Tryd.prog 68 = some ((1, (24, false))) := by kernel_rfl
@[go_sem] theorem z_68 : zeroT Tryd.prog 68 = some (.nilslice) := by kernel_rfl
@[go_sem] theorem td_69 : tdOf Tryd.prog 69 = .func := by kernel_rfl
@[go_sem] theorem ty_69 : tyOf Tryd.prog 69 = some ((1, (8, false))) := by kernel_rfl
@[go_sem] theorem z_69 : zeroT Tryd.prog 69 = some (.nilFunc) := by kernel_rfl
@[go_sem] theorem td_70 : tdOf Tryd.prog 70 = .func := by kernel_rfl
@[go_sem] theorem ty_70 : tyOf Tryd.prog 70 = some ((1, (8, false))) := by kernel_rfl
@[go_sem] theorem z_70 : zeroT Tryd.prog 70 = some (.nilFunc) := by kernel_rfl
@[go_sem] theorem td_71 : tdOf Tryd.prog 71 = .func := by kernel_rfl
@[go_sem] theorem ty_71 : tyOf Tryd.prog 71 = some ((1, (8, false))) := by kernel_rfl
@[go_sem] theorem z_71 : zeroT Tryd.prog 71 = some (.nilFunc) := by kernel_rfl
@[go_sem] theorem td_72 : tdOf Tryd.prog 72 = .func := by kernel_rfl
@[go_sem] theorem ty_72 : tyOf Tryd.prog 72 = some ((1, (8, false))) := by kernel_rfl
@[go_sem] theorem z_72 : zeroT Tryd.prog 72 = some (.nilFunc) := by kernel_rfl
@[go_sem] theorem ty_73 : tyOf Tryd.prog 73 = some ((1, (0, false))) := by kernel_rfl
@[go_sem] theorem td_74 : tdOf Tryd.prog 74 = .func := by kernel_rfl
@[go_sem] theorem ty_74 : tyOf Tryd.prog 74 = some ((1, (8, false))) := by kernel_rfl
@[go_sem] theorem z_74 : zeroT Tryd.prog 74 = some (.nilFunc) := by kernel_rfl
@[go_sem] theorem td_75 : tdOf Tryd.prog 75 = .func := by kernel_rfl
@[go_sem] theorem ty_75 : tyOf Tryd.prog 75 = some ((1, (8, false))) := by kernel_rfl
@[go_sem] theorem z_75 : zeroT Tryd.prog 75 = some (.nilFunc) := by kernel_rfl
@[go_sem] theorem td_76 : tdOf Tryd.prog 76 = .ptr := by kernel_rfl
@[go_sem] theorem ty_76 : tyOf Tryd.prog 76 = some ((1, (8, false))) := by kernel_rfl
@[go_sem] theorem z_76 : zeroT Tryd.prog 76 = some (.nilptr) := by kernel_rfl
@[go_sem] theorem td_77 : tdOf Tryd.prog 77 = (.struct [⟨false, 31, 0, 1, false⟩, ⟨false, 4, 1, 1, false⟩]) := by kernel_rfl
@[go_sem] theorem ty_77 : tyOf Tryd.prog 77 = some ((2, (32, true))) := by kernel_rfl
@[go_sem] theorem z_77 : zeroT Tryd.prog 77 = some ((.agg [.nilslice, (.bool false)])) := by kernel_rfl
@[go_sem] theorem td_78 : tdOf Tryd.prog 78 = (.struct [⟨false, 31, 0, 1, false⟩, ⟨false, 4, 1, 1, false⟩]) := by kernel_rfl
@[go_sem] theorem ty_78 : tyOf Tryd.prog 78 = some ((2, (32, true))) := by kernel_rfl
@[go_sem] theorem z_78 : zeroT Tryd.prog 78 = some ((.agg [.nilslice, (.bool false)])) := by kernel_rfl
@[go_sem] theorem td_79 : tdOf Tryd.prog 79 = (.struct [⟨false, 78, 0, 2, true⟩]) := by kernel_rfl
@[go_sem] theorem ty_79 : tyOf Tryd.prog 79 = some ((2, (32, true))) := by kernel_rfl
@[go_sem] theorem z_79 : zeroT Tryd.prog 79 = some ((.agg [.nilslice, (.bool false)])) := by kernel_rfl
@[go_sem] theorem td_80 : tdOf Tryd.prog 80 = (.struct [⟨false, 78, 0, 2, true⟩]) := by kernel_rfl
@[go_sem] theorem ty_80 : tyOf Tryd.prog 80 = some ((2, (32, true))) := by kernel_rfl
@[go_sem] theorem z_80 : zeroT Tryd.prog 80 = some ((.agg [.nilslice, (.bool false)])) := by kernel_rfl
@[go_sem] theorem td_81 : tdOf Tryd.prog 81 = .func := by kernel_rfl
@[go_sem] theorem ty_81 : tyOf Tryd.prog 81 = some ((1, (8, false))) := by kernel_rfl
@[go_sem] theorem z_81 : zeroT Tryd.prog 81 = some (.nilFunc) := by kernel_rfl
@[go_sem] theorem td_82 : tdOf Tryd.prog 82 = (.struct [⟨false, 31, 0, 1, false⟩, ⟨false, 4, 1, 1, false⟩]) := by kernel_rfl
@[go_sem] theorem ty_82 : tyOf Tryd.prog 82 = some ((2, (32, true))) := by kernel_rfl
@[go_sem] theorem z_82 : zeroT Tryd.prog 82 = some ((.agg [.nilslice, (.bool false)])) := by kernel_rfl
@[go_sem] theorem td_83 : tdOf Tryd.prog 83 = (.struct [⟨false, 31, 0, 1, false⟩, ⟨false, 4, 1, 1, false⟩]) := by kernel_rfl
@[go_sem] theorem ty_83 : tyOf Tryd.prog 83 = some ((2, (32, true))) := by kernel_rfl
@[go_sem] theorem z_83 : zeroT Tryd.prog 83 = some ((.agg [.nilslice, (.bool false)])) := by kernel_rfl
@[go_sem] theorem td_84 : tdOf Tryd.prog 84 = .func := by kernel_rfl
@[go_sem] theorem ty_84 : tyOf Tryd.prog 84 = some ((1, (8, false))) := by kernel_rfl
@[go_sem] theorem z_84 : zeroT Tryd.prog 84 = some (.nilFunc) := by kernel_rfl
@[go_sem] theorem td_85 : tdOf Tryd.prog 85 = .func := by kernel_rfl
@[go_sem] theorem ty_85 : tyOf Tryd.prog 85 = some ((1, (8, false))) := by kernel_rfl
@[go_sem] theorem z_85 : zeroT Tryd.prog 85 = some (.nilFunc) := by kernel_rfl
@[go_sem] theorem td_86 : tdOf Tryd.prog 86 = .ptr := by kernel_rfl
@[go_sem] theorem ty_86 : tyOf Tryd.prog 86 = some ((1, (8, false))) := by kernel_rfl
@[go_sem] theorem z_86 : zeroT Tryd.prog 86 = some (.nilptr) := by kernel_rfl
@[go_sem] theorem td_87 : tdOf Tryd.prog 87 = (.struct [⟨false, 86, 0, 1, false⟩, ⟨false, 31, 1, 1, false⟩]) := by kernel_rfl
@[go_sem] theorem ty_87 : tyOf Tryd.prog 87 = some ((2, (32, true))) := by kernel_rfl
@[go_sem] theorem z_87 : zeroT Tryd.prog 87 = some ((.agg [.nilptr, .nilslice])) := by kernel_rfl
@[go_sem] theorem td_88 : tdOf Tryd.prog 88 = (.struct [⟨false, 86, 0, 1, false⟩, ⟨false, 31, 1, 1, false⟩]) := by kernel_rfl
@[go_sem] theorem ty_88 : tyOf Tryd.prog 88 = some ((2, (32, true))) := by kernel_rfl
@[go_sem] theorem z_88 : zeroT Tryd.prog 88 = some ((.agg [.nilptr, .nilslice])) := by kernel_rfl
@[go_sem] theorem td_89 : tdOf Tryd.prog 89 = .func := by kernel_rfl
@[go_sem] theorem ty_89 : tyOf Tryd.prog 89 = some ((1, (8, false))) := by kernel_rfl
@[go_sem] theorem z_89 : zeroT Tryd.prog 89 = some (.nilFunc) := by kernel_rfl
@[go_sem] theorem td_90 : tdOf Tryd.prog 90 = .iface := by kernel_rfl
@[go_sem] theorem ty_90 : tyOf Tryd.prog 90 = some ((1, (16, false))) := by kernel_rfl
@[go_sem] theorem z_90 : zeroT Tryd.prog 90 = some (.nilIface) := by kernel_rfl
@[go_sem] theorem td_91 : tdOf Tryd.prog 91 = .iface := by kernel_rfl
@[go_sem] theorem ty_91 : tyOf Tryd.prog 91 = some ((1, (16, false))) := by kernel_rfl
@[go_sem] theorem z_91 : zeroT Tryd.prog 91 = some (.nilIface) := by kernel_rfl
@[go_sem] theorem ty_92 : tyOf Tryd.prog 92 = some ((1, (0, false))) := by kernel_rfl
@[go_sem] theorem td_93 : tdOf Tryd.prog 93 = .func := by kernel_rfl
@[go_sem] theorem ty_93 : tyOf Tryd.prog 93 = some ((1, (8, false))) := by kernel_rfl
@[go_sem] theorem z_93 : zeroT Tryd.prog 93 = some (.nilFunc) := by kernel_rfl
@[go_sem] theorem td_94 : tdOf Tryd.prog 94 = .func := by kernel_rfl
@[go_sem] theorem ty_94 : tyOf Tryd.prog 94 = some ((1, (8, false))) := by kernel_rfl
@[go_sem] theorem z_94 : zeroT Tryd.prog 94 = some (.nilFunc) := by kernel_rfl
@[go_sem] theorem td_95 : tdOf Tryd.prog 95 = .ptr := by kernel_rfl
@[go_sem] theorem ty_95 : tyOf Tryd.prog 95 = some ((1, (8, false))) := by kernel_rfl
@[go_sem] theorem z_95 : zeroT Tryd.prog 95 = some (.nilptr) := by kernel_rfl
@[go_sem] theorem td_96 : tdOf Tryd.prog 96 = .func := by kernel_rfl
@[go_sem] theorem ty_96 : tyOf Tryd.prog 96 = some ((1, (8, false))) := by kernel_rfl
@[go_sem] theorem z_96 : zeroT Tryd.prog 96 = some (.nilFunc) := by kernel_rfl
@[go_sem] theorem td_97 : tdOf Tryd.prog 97 = .ptr := by kernel_rfl
@[go_sem] theorem ty_97 : tyOf Tryd.prog 97 = some ((1, (8, false))) := by kernel_rfl
@[go_sem] theorem z_97 : zeroT Tryd.prog 97 = some (.nilptr) := by kernel_rfl
@[go_sem] theorem td_98 : tdOf Tryd.prog 98 = (.array 24 5 1 false) := by kernel_rfl
@[go_sem] theorem ty_98 : tyOf Tryd.prog 98 = some ((24, (24, true))) := by kernel_rfl
@[go_sem] theorem z_98 : zeroT Tryd.prog 98 = some ((.agg (List.replicate 24 (.int .u8 0)))) := by kernel_rfl
@[go_sem] theorem td_99 : tdOf Tryd.prog 99 = .func := by kernel_rfl
@[go_sem] theorem ty_99 : tyOf Tryd.prog 99 = some ((1, (8, false))) := by kernel_rfl
@[go_sem] theorem z_99 : zeroT Tryd.prog 99 = some (.nilFunc) := by kernel_rfl
@[go_sem] theorem td_100 : tdOf Tryd.prog 100 = .func := by kernel_rfl
@[go_sem] theorem ty_100 : tyOf Tryd.prog 100 = some ((1, (8, false))) := by kernel_rfl
@[go_sem] theorem z_100 : zeroT Tryd.prog 100 = some (.nilFunc) := by kernel_rfl
@[go_sem] theorem ty_101 : tyOf Tryd.prog 101 = some ((1, (0, false))) := by kernel_rfl
@[go_sem] theorem td_102 : tdOf Tryd.prog 102 = .func := by kernel_rfl
@[go_sem] theorem ty_102 : tyOf Tryd.prog 102 = some ((1, (8, false))) := by kernel_rfl
@[go_sem] theorem z_102 : zeroT Tryd.prog 102 = some (.nilFunc) := by kernel_rfl
@[go_sem] theorem ty_103 : tyOf Tryd.prog 103 = some ((1, (8, false))) := by kernel_rfl
@[go_sem] theorem z_103 : zeroT Tryd.prog 103 = some (.nilptr) := by kernel_rfl
@[go_sem] theorem td_104 : tdOf Tryd.prog 104 = .func := by kernel_rfl
@[go_sem] theorem ty_104 : tyOf Tryd.prog 104 = some ((1, (8, false))) := by kernel_rfl
@[go_sem] theorem z_104 : zeroT Tryd.prog 104 = some (.nilFunc) := by kernel_rfl
@[go_sem] theorem td_105 : tdOf Tryd.prog 105 = .func := by kernel_rfl
@[go_sem] theorem ty_105 : tyOf Tryd.prog 105 = some ((1, (8, false))) := by kernel_rfl
@[go_sem] theorem z_105 : zeroT Tryd.prog 105 = some (.nilFunc) := by kernel_rfl
@[go_sem] theorem td_106 : tdOf Tryd.prog 106 = .func := by kernel_rfl
@[go_sem] theorem ty_106 : tyOf Tryd.prog 106 = some ((1, (8, false))) := by kernel_rfl
@[go_sem] theorem z_106 : zeroT Tryd.prog 106 = some (.nilFunc) := by kernel_rfl
@[go_sem] theorem td_107 : tdOf Tryd.prog 107 = (.array 20 41 1 false) := by kernel_rfl
@[go_sem] theorem ty_107 : tyOf Tryd.prog 107 = some ((20, (160, true))) := by kernel_rfl
@[go_sem] theorem z_107 : zeroT Tryd.prog 107 = some ((.agg (List.replicate 20 (.int .u64 0)))) := by kernel_rfl
@[go_sem] theorem td_108 : tdOf Tryd.prog 108 = (.array 65 5 1 false) := by kernel_rfl
@[go_sem] theorem ty_108 : tyOf Tryd.prog 108 = some ((65, (65, true))) := by kernel_rfl
@[go_sem] theorem z_108 : zeroT Tryd.prog 108 = some ((.agg (List.replicate 65 (.int .u8 0)))) := by kernel_rfl
@[go_sem] theorem td_109 : tdOf Tryd.prog 109 = .func := by kernel_rfl
@[go_sem] theorem ty_109 : tyOf Tryd.prog 109 = some ((1, (8, false))) := by kernel_rfl
@[go_sem] theorem z_109 : zeroT Tryd.prog 109 = some (.nilFunc) := by kernel_rfl
@[go_sem] theorem td_110 : tdOf Tryd.prog 110 = .func := by kernel_rfl
@[go_sem] theorem ty_110 : tyOf Tryd.prog 110 = some ((1, (8, false))) := by kernel_rfl
@[go_sem] theorem z_110 : zeroT Tryd.prog 110 = some (.nilFunc) := by kernel_rfl
@[go_sem] theorem td_111 : tdOf Tryd.prog 111 = .func := by kernel_rfl
@[go_sem] theorem ty_111 : tyOf Tryd.prog 111 = some ((1, (8, false))) := by kernel_rfl
@[go_sem] theorem z_111 : zeroT Tryd.prog 111 = some (.nilFunc) := by kernel_rfl
@[go_sem] theorem td_112 : tdOf Tryd.prog 112 = (.array 32 5 1 false) := by kernel_rfl
@[go_sem] theorem ty_112 : tyOf Tryd.prog 112 = some ((32, (32, true))) := by kernel_rfl
@[go_sem] theorem z_112 : zeroT Tryd.prog 112 = some ((.agg (List.replicate 32 (.int .u8 0)))) := by kernel_rfl
@[go_sem] theorem td_113 : tdOf Tryd.prog 113 = (.array 64 5 1 false) := by kernel_rfl
@[go_sem] theorem ty_113 : tyOf Tryd.prog 113 = some ((64, (64, true))) := by kernel_rfl
@[go_sem] theorem z_113 : zeroT Tryd.prog 113 = some ((.agg (List.replicate 64 (.int .u8 0)))) := by kernel_rfl
@[go_sem] theorem td_114 : tdOf Tryd.prog 114 = (.struct [⟨false, 17, 0, 1, false⟩, ⟨false, 17, 1, 1, false⟩, ⟨false, 17, 2, 1, false⟩, ⟨false, 9, 3, 1, false⟩]) := by kernel_rfl
@[go_sem] theorem ty_114 : tyOf Tryd.prog 114 = some ((4, (40, true))) := by kernel_rfl
@[go_sem] theorem z_114 : zeroT Tryd.prog 114 = some ((.agg [.nilptr, .nilptr, .nilptr, (.str 0 0)])) := by kernel_rfl
@[go_sem] theorem td_115 : tdOf Tryd.prog 115 = (.struct [⟨false, 17, 0, 1, false⟩, ⟨false, 17, 1, 1, false⟩, ⟨false, 17, 2, 1, false⟩, ⟨false, 9, 3, 1, false⟩]) := by kernel_rfl
@[go_sem] theorem ty_115 : tyOf Tryd.prog 115 = some ((4, (40, true))) := by kernel_rfl
@[go_sem] theorem z_115 : zeroT Tryd.prog 115 = some ((.agg [.nilptr, .nilptr, .nilptr, (.str 0 0)])) := by kernel_rfl
@[go_sem] theorem td_116 : tdOf Tryd.prog 116 = (.array 0 16 1 false) := by kernel_rfl
@[go_sem] theorem ty_116 : tyOf Tryd.prog 116 = some ((0, (0, true))) := by kernel_rfl
@[go_sem] theorem z_116 : zeroT Tryd.prog 116 = some ((.agg [])) := by kernel_rfl
@[go_sem] theorem td_117 : tdOf Tryd.prog 117 = (.struct [⟨true, 116, 0, 0, true⟩]) := by kernel_rfl
@[go_sem] theorem ty_117 : tyOf Tryd.prog 117 = some ((0, (0, true))) := by kernel_rfl
@[go_sem] theorem z_117 : zeroT Tryd.prog 117 = some ((.agg [])) := by kernel_rfl
@[go_sem] theorem td_118 : tdOf Tryd.prog 118 = (.struct [⟨true, 116, 0, 0, true⟩]) := by kernel_rfl
@[go_sem] theorem ty_118 : tyOf Tryd.prog 118 = some ((0, (0, true))) := by kernel_rfl
@[go_sem] theorem z_118 : zeroT Tryd.prog 118 = some ((.agg [])) := by kernel_rfl
@[go_sem] theorem td_119 : tdOf Tryd.prog 119 = (.int .u8) := by kernel_rfl
@[go_sem] theorem ty_119 : tyOf Tryd.prog 119 = some ((1, (1, false))) := by kernel_rfl
@[go_sem] theorem z_119 : zeroT Tryd.prog 119 = some ((.int .u8 0)) := by kernel_rfl
@[go_sem] theorem td_120 : tdOf Tryd.prog 120 = (.int .u8) := by kernel_rfl
@[go_sem] theorem ty_120 : tyOf Tryd.prog 120 = some ((1, (1, false))) := by kernel_rfl
@[go_sem] theorem z_120 : zeroT Tryd.prog 120 = some ((.int .u8 0)) := by kernel_rfl
@[go_sem] theorem td_121 : tdOf Tryd.prog 121 = .func := by kernel_rfl
@[go_sem] theorem ty_121 : tyOf Tryd.prog 121 = some ((1, (8, false))) := by kernel_rfl
@[go_sem] theorem z_121 : zeroT Tryd.prog 121 = some (.nilFunc) := by kernel_rfl
@[go_sem] theorem td_122 : tdOf Tryd.prog 122 = (.int .i32) := by kernel_rfl
@[go_sem] theorem ty_122 : tyOf Tryd.prog 122 = some ((1, (4, false))) := by kernel_rfl
@[go_sem] theorem z_122 : zeroT Tryd.prog 122 = some ((.int .i32 0)) := by kernel_rfl
@[go_sem] theorem td_123 : tdOf Tryd.prog 123 = (.int .i32) := by kernel_rfl
@[go_sem] theorem ty_123 : tyOf Tryd.prog 123 = some ((1, (4, false))) := by kernel_rfl
@[go_sem] theorem z_123 : zeroT Tryd.prog 123 = some ((.int .i32 0)) := by kernel_rfl
@[go_sem] theorem td_124 : tdOf Tryd.prog 124 = (.struct [⟨false, 12, 0, 1, false⟩, ⟨false, 12, 1, 1, false⟩, ⟨false, 42, 2, 1, false⟩, ⟨false, 119, 3, 1, false⟩, ⟨false, 5, 4, 1, false⟩, ⟨false, 5, 5, 1, false⟩, ⟨false, 120, 6, 1, false⟩, ⟨false, 121, 7, 1, false⟩, ⟨false, 97, 8, 1, false⟩, ⟨false, 122, 9, 1, false⟩, ⟨false, 123, 10, 1, false⟩]) := by kernel_rfl
@[go_sem] theorem ty_124 : tyOf Tryd.prog 124 = some ((11, (48, true))) := by kernel_rfl
@[go_sem] theorem z_124 : zeroT Tryd.prog 124 = some ((.agg [(.int .u64 0), (.int .u64 0), (.int .u32 0), (.int .u8 0), (.int .u8 0), (.int .u8 0), (.int .u8 0), .nilFunc, .nilptr, (.int .i32 0), (.int .i32 0)])) := by kernel_rfl
def pl3 : Plans := fun i => match i with | _ => []
@[go_sem] theorem rs3 : Tryd.f3.results.toList = [(.tmp 0)] := rfl
theorem ok3 : fnOk Tryd.prog pl3 Tryd.f3 = true := by kernel_rfl
def pl4 : Plans := fun i => match i with | 7 => [.pure, .eff, .pure, .pure, (.read 0 1), .pure, .pure, .pure, .pure, .pure, .pure, .pure, .eff, .pure, .pure, (.read 1 2), .pure, .pure, .pure, .pure, .pure, .eff, .pure, .pure, .pure, .eff, (.read 3 4), .eff, .pure, .pure, .pure, .pure, .pure, .eff, .pure, (.read 5 6), .eff, .pure, .pure, .pure] | _ => []
@[go_sem] theorem rs4 : Tryd.f4.results.toList = [(.tmp 4)] := rfl
theorem ok4 : fnOk Tryd.prog pl4 Tryd.f4 = true := by kernel_rfl
def pl5 : Plans := fun i => match i with | 10 => [.pure, .pure, .pure, .pure, .pure, .pure, .pure, .pure, .pure, .pure, .pure, .pure, .pure, .eff, (.read 1 2), (.read 0 1), .eff, .pure, .pure, .pure, .pure] | _ => []
@[go_sem] theorem rs5 : Tryd.f5.results.toList = [(.tmp 4)] := rfl
theorem ok5 : fnOk Tryd.prog pl5 Tryd.f5 = true := by kernel_rfl
def pl6 : Plans := fun i => match i with | _ => []
@[go_sem] theorem rs6 : Tryd.f6.results.toList = [(.tmp 6)] := rfl
theorem ok6 : fnOk Tryd.prog pl6 Tryd.f6 = true := by kernel_rfl
def pl7 : Plans := fun i => match i with | 9 => [.pure, .pure, .pure, .pure, .pure, .pure, .pure, .pure, .pure, .pure, .pure, .pure] | 13 => [.pure, .pure, .pure, .pure, .pure, .pure, .pure, .pure, .pure, .pure, .pure, .pure] | 14 => [.pure, .eff, (.read 1 2), (.read 0 1), .eff, .pure, .pure, .pure] | _ => []
@[go_sem] theorem rs7 : Tryd.f7.results.toList = [(.tmp 4)] := rfl
theorem ok7 : fnOk Tryd.prog pl7 Tryd.f7 = true := by kernel_rfl
def pl8 : Plans := fun i => match i with | 4 => [.pure, .eff, .pure, .pure, .pure, .pure, .pure, .pure, .pure, .pure, .pure, .pure, .pure, .pure, .pure, .pure, .pure, .pure, .pure, .pure, .pure, .pure, .pure, .pure, .pure, .pure, .pure, .eff, .pure, .pure, .pure, .pure, .pure, .pure, .eff, .pure, .pure, .pure] | _ => []
@[go_sem] theorem rs8 : Tryd.f8.results.toList = [(.tmp 0)] := rfl
theorem ok8 : fnOk Tryd.prog pl8 Tryd.f8 = true := by kernel_rfl
def pl9 : Plans := fun i => match i with | 8 => [.pure, .pure, .eff, (.read 0 1), .pure, .eff, (.read 0 2), .pure, .eff, (.read 0 3), .pure, .eff, .pure, .eff, .pure, .eff, .pure, .eff, .pure, .eff] | _ => []
@[go_sem] theorem rs9 : Tryd.f9.results.toList = [(.cell 2 27), (.tmp 3)] := rfl
theorem ok9 : fnOk Tryd.prog pl9 Tryd.f9 = true := by kernel_rfl
def pl10 : Plans := fun i => match i with | _ => []
@[go_sem] theorem rs10 : Tryd.f10.results.toList = [(.tmp 2)] := rfl
theorem ok10 : fnOk Tryd.prog pl10 Tryd.f10 = true := by kernel_rfl
def pl11 : Plans := fun i => match i with | _ => []
@[go_sem] theorem rs11 : Tryd.f11.results.toList = [(.tmp 2)] := rfl
theorem ok11 : fnOk Tryd.prog pl11 Tryd.f11 = true := by kernel_rfl
def pl12 : Plans := fun i => match i with | 4 => [.pure, (.read 0 1), .pure, (.read 0 1), .pure, (.read 0 1), .alloc, .pure, (.read 0 0), .eff, .pure, (.read 1 1), .pure] | _ => []
@[go_sem] theorem rs12 : Tryd.f12.results.toList = [(.tmp 2)] := rfl
theorem ok12 : fnOk Tryd.prog pl12 Tryd.f12 = true := by kernel_rfl
def pl13 : Plans := fun i => match i with | 1 => [.pure, .eff, (.read 0 1), .eff, .eff, .pure] | _ => []
@[go_sem] theorem rs13 : Tryd.f13.results.toList = [(.tmp 4)] := rfl
theorem ok13 : fnOk Tryd.prog pl13 Tryd.f13 = true := by kernel_rfl
def pl14 : Plans := fun i => match i with | _ => []
@[go_sem] theorem rs14 : Tryd.f14.results.toList = [(.tmp 2)] := rfl
theorem ok14 : fnOk Tryd.prog pl14 Tryd.f14 = true := by kernel_rfl
def pl15 : Plans := fun i => match i with | _ => []
@[go_sem] theorem rs15 : Tryd.f15.results.toList = [(.tmp 2)] := rfl
theorem ok15 : fnOk Tryd.prog pl15 Tryd.f15 = true := by kernel_rfl
def pl16 : Plans := fun i => match i with | _ => []
@[go_sem] theorem rs16 : Tryd.f16.results.toList = [(.tmp 2)] := rfl
theorem ok16 : fnOk Tryd.prog pl16 Tryd.f16 = true := by kernel_rfl
def pl17 : Plans := fun i => match i with | _ => []
@[go_sem] theorem rs17 : Tryd.f17.results.toList = [(.tmp 2)] := rfl
theorem ok17 : fnOk Tryd.prog pl17 Tryd.f17 = true := by kernel_rfl
def pl18 : Plans := fun i => match i with | _ => []
@[go_sem] theorem rs18 : Tryd.f18.results.toList = [(.tmp 4)] := rfl
theorem ok18 : fnOk Tryd.prog pl18 Tryd.f18 = true := by kernel_rfl
def pl19 : Plans := fun i => match i with | _ => []
@[go_sem] theorem rs19 : Tryd.f19.results.toList = [(.tmp 2)] := rfl
theorem ok19 : fnOk Tryd.prog pl19 Tryd.f19 = true := by kernel_rfl
def pl20 : Plans := fun i => match i with | 13 => [.pure, (.read 0 1), .pure, .pure, .pure, .eff, .alloc, .eff, .pure, .eff] | 24 => [.pure, .pure, .pure, .pure, .pure, .pure, .pure, .pure, .pure, .pure, .pure, .pure, .pure, .pure, .pure, .pure, .eff, .pure, .pure, (.read 0 1), .pure, .pure] | _ => []
@[go_sem] theorem rs20 : Tryd.f20.results.toList = [(.cell 2 27), (.tmp 3)] := rfl
theorem ok20 : fnOk Tryd.prog pl20 Tryd.f20 = true := by kernel_rfl
def pl21 : Plans := fun i => match i with | _ => []
@[go_sem] theorem rs21 : Tryd.f21.results.toList = [(.tmp 2)] := rfl
theorem ok21 : fnOk Tryd.prog pl21 Tryd.f21 = true := by kernel_rfl
def pl22 : Plans := fun i => match i with | _ => []
@[go_sem] theorem rs22 : Tryd.f22.results.toList = [(.tmp 1)] := rfl
theorem ok22 : fnOk Tryd.prog pl22 Tryd.f22 = true := by kernel_rfl
def pl23 : Plans := fun i => match i with | _ => []
@[go_sem] theorem rs23 : Tryd.f23.results.toList = [(.tmp 2)] := rfl
theorem ok23 : fnOk Tryd.prog pl23 Tryd.f23 = true := by kernel_rfl
def pl24 : Plans := fun i => match i with | _ => []
@[go_sem] theorem rs24 : Tryd.f24.results.toList = [(.tmp 1)] := rfl
theorem ok24 : fnOk Tryd.prog pl24 Tryd.f24 = true := by kernel_rfl
def pl25 : Plans := fun i => match i with | _ => []
@[go_sem] theorem rs25 : Tryd.f25.results.toList = [(.tmp 4)] := rfl
theorem ok25 : fnOk Tryd.prog pl25 Tryd.f25 = true := by kernel_rfl
def pl26 : Plans := fun i => match i with | _ => []
@[go_sem] theorem rs26 : Tryd.f26.results.toList = [(.tmp 4)] := rfl
theorem ok26 : fnOk Tryd.prog pl26 Tryd.f26 = true := by kernel_rfl
def pl27 : Plans := fun i => match i with | _ => []
@[go_sem] theorem rs27 : Tryd.f27.results.toList = [(.tmp 4)] := rfl
theorem ok27 : fnOk Tryd.prog pl27 Tryd.f27 = true := by kernel_rfl
def pl28 : Plans := fun i => match i with | 1 => [.pure, .eff, (.read 0 1), .eff, (.read 0 2), .eff, (.read 0 3), .eff, .pure, .eff] | _ => []
@[go_sem] theorem rs28 : Tryd.f28.results.toList = [(.cell 1 36)] := rfl
theorem ok28 : fnOk Tryd.prog pl28 Tryd.f28 = true := by kernel_rfl
def pl29 : Plans := fun i => match i with | _ => []
@[go_sem] theorem rs29 : Tryd.f29.results.toList = [(.tmp 2)] := rfl
theorem ok29 : fnOk Tryd.prog pl29 Tryd.f29 = true := by kernel_rfl
def pl30 : Plans := fun i => match i with | 6 => [.pure, .pure, .pure, .pure, .pure, .pure, .pure, .pure, .pure] | _ => []
@[go_sem] theorem rs30 : Tryd.f30.results.toList = [(.tmp 4)] := rfl
theorem ok30 : fnOk Tryd.prog pl30 Tryd.f30 = true := by kernel_rfl
def pl31 : Plans := fun i => match i with | _ => []
@[go_sem] theorem rs31 : Tryd.f31.results.toList = [(.tmp 6)] := rfl
theorem ok31 : fnOk Tryd.prog pl31 Tryd.f31 = true := by kernel_rfl
def pl32 : Plans := fun i => match i with | _ => []
@[go_sem] theorem rs32 : Tryd.f32.results.toList = [(.tmp 4)] := rfl
theorem ok32 : fnOk Tryd.prog pl32 Tryd.f32 = true := by kernel_rfl
def pl33 : Plans := fun i => match i with | _ => []
@[go_sem] theorem rs33 : Tryd.f33.results.toList = [(.tmp 6)] := rfl
theorem ok33 : fnOk Tryd.prog pl33 Tryd.f33 = true := by kernel_rfl
def pl34 : Plans := fun i => match i with | _ => []
@[go_sem] theorem rs34 : Tryd.f34.results.toList = [(.tmp 4)] := rfl
theorem ok34 : fnOk Tryd.prog pl34 Tryd.f34 = true := by kernel_rfl
def pl35 : Plans := fun i => match i with | _ => []
@[go_sem] theorem rs35 : Tryd.f35.results.toList = [(.tmp 6)] := rfl
theorem ok35 : fnOk Tryd.prog pl35 Tryd.f35 = true := by kernel_rfl
def pl36 : Plans := fun i => match i with | _ => []
@[go_sem] theorem rs36 : Tryd.f36.results.toList = [(.tmp 4)] := rfl
theorem ok36 : fnOk Tryd.prog pl36 Tryd.f36 = true := by kernel_rfl
def pl37 : Plans := fun i => match i with | _ => []
@[go_sem] theorem rs37 : Tryd.f37.results.toList = [(.tmp 2)] := rfl
theorem ok37 : fnOk Tryd.prog pl37 Tryd.f37 = true := by kernel_rfl
def pl38 : Plans := fun i => match i with | _ => []
@[go_sem] theorem rs38 : Tryd.f38.results.toList = [(.tmp 2)] := rfl
theorem ok38 : fnOk Tryd.prog pl38 Tryd.f38 = true := by kernel_rfl
def pl39 : Plans := fun i => match i with | _ => []
@[go_sem] theorem rs39 : Tryd.f39.results.toList = [(.tmp 2)] := rfl
theorem ok39 : fnOk Tryd.prog pl39 Tryd.f39 = true := by kernel_rfl
def pl40 : Plans := fun i => match i with | _ => []
@[go_sem] theorem rs40 : Tryd.f40.results.toList = [(.tmp 4)] := rfl
theorem ok40 : fnOk Tryd.prog pl40 Tryd.f40 = true := by kernel_rfl
def pl41 : Plans := fun i => match i with | _ => []
@[go_sem] theorem rs41 : Tryd.f41.results.toList = [(.tmp 4)] := rfl
theorem ok41 : fnOk Tryd.prog pl41 Tryd.f41 = true := by kernel_rfl
def pl42 : Plans := fun i => match i with | _ => []
@[go_sem] theorem rs42 : Tryd.f42.results.toList = [(.tmp 4)] := rfl
theorem ok42 : fnOk Tryd.prog pl42 Tryd.f42 = true := by kernel_rfl
def pl43 : Plans := fun i => match i with | _ => []
@[go_sem] theorem rs43 : Tryd.f43.results.toList = [(.tmp 4)] := rfl
theorem ok43 : fnOk Tryd.prog pl43 Tryd.f43 = true := by kernel_rfl
def pl44 : Plans := fun i => match i with | _ => []
@[go_sem] theorem rs44 : Tryd.f44.results.toList = [(.tmp 0), (.tmp 1)] := rfl
theorem ok44 : fnOk Tryd.prog pl44 Tryd.f44 = true := by kernel_rfl
def pl45 : Plans := fun i => match i with | 7 => [.pure, .pure, .eff, .pure, .pure, .pure, .pure, .alloc, (.read 0 1), .pure, .pure] | _ => []
@[go_sem] theorem rs45 : Tryd.f45.results.toList = [(.tmp 2)] := rfl
theorem ok45 : fnOk Tryd.prog pl45 Tryd.f45 = true := by kernel_rfl
def pl46 : Plans := fun i => match i with | _ => []
@[go_sem] theorem rs46 : Tryd.f46.results.toList = [(.tmp 2)] := rfl
theorem ok46 : fnOk Tryd.prog pl46 Tryd.f46 = true := by kernel_rfl
def pl47 : Plans := fun i => match i with | _ => []
@[go_sem] theorem rs47 : Tryd.f47.results.toList = [(.tmp 2)] := rfl
theorem ok47 : fnOk Tryd.prog pl47 Tryd.f47 = true := by kernel_rfl
def pl48 : Plans := fun i => match i with | _ => []
@[go_sem] theorem rs48 : Tryd.f48.results.toList = [(.tmp 2)] := rfl
theorem ok48 : fnOk Tryd.prog pl48 Tryd.f48 = true := by kernel_rfl
def pl49 : Plans := fun i => match i with | _ => []
@[go_sem] theorem rs49 : Tryd.f49.results.toList = [(.tmp 2)] := rfl
theorem ok49 : fnOk Tryd.prog pl49 Tryd.f49 = true := by kernel_rfl
def pl50 : Plans := fun i => match i with | _ => []
@[go_sem] theorem rs50 : Tryd.f50.results.toList = [(.tmp 2)] := rfl
theorem ok50 : fnOk Tryd.prog pl50 Tryd.f50 = true := by kernel_rfl
def pl51 : Plans := fun i => match i with | _ => []
@[go_sem] theorem rs51 : Tryd.f51.results.toList = [(.tmp 4)] := rfl
theorem ok51 : fnOk Tryd.prog pl51 Tryd.f51 = true := by kernel_rfl
def pl52 : Plans := fun i => match i with | _ => []
@[go_sem] theorem rs52 : Tryd.f52.results.toList = [(.tmp 4)] := rfl
theorem ok52 : fnOk Tryd.prog pl52 Tryd.f52 = true := by kernel_rfl
def pl53 : Plans := fun i => match i with | _ => []
@[go_sem] theorem rs53 : Tryd.f53.results.toList = [(.tmp 4)] := rfl
theorem ok53 : fnOk Tryd.prog pl53 Tryd.f53 = true := by kernel_rfl
def pl54 : Plans := fun i => match i with | _ => []
@[go_sem] theorem rs54 : Tryd.f54.results.toList = [(.tmp 2)] := rfl
theorem ok54 : fnOk Tryd.prog pl54 Tryd.f54 = true := by kernel_rfl
def pl55 : Plans := fun i => match i with | 3 => [.pure, .pure, .pure, .pure, .pure, .pure, .pure, .pure, .pure, .pure, .pure, .pure, .pure] | _ => []
@[go_sem] theorem rs55 : Tryd.f55.results.toList = [] := rfl
theorem ok55 : fnOk Tryd.prog pl55 Tryd.f55 = true := by kernel_rfl
def pl56 : Plans := fun i => match i with | _ => []
@[go_sem] theorem rs56 : Tryd.f56.results.toList = [(.tmp 4), (.tmp 5)] := rfl
theorem ok56 : fnOk Tryd.prog pl56 Tryd.f56 = true := by kernel_rfl
def pl57 : Plans := fun i => match i with | 1 => [.pure, .pure, .pure, .pure, .eff, .pure, .pure, .pure, (.read 0 1), (.read 0 1), .eff, .pure] | _ => []
@[go_sem] theorem rs57 : Tryd.f57.results.toList = [(.tmp 2)] := rfl
theorem ok57 : fnOk Tryd.prog pl57 Tryd.f57 = true := by kernel_rfl
def pl58 : Plans := fun i => match i with | _ => []
@[go_sem] theorem rs58 : Tryd.f58.results.toList = [(.tmp 2)] := rfl
theorem ok58 : fnOk Tryd.prog pl58 Tryd.f58 = true := by kernel_rfl
def pl59 : Plans := fun i => match i with | _ => []
@[go_sem] theorem rs59 : Tryd.f59.results.toList = [] := rfl
theorem ok59 : fnOk Tryd.prog pl59 Tryd.f59 = true := by kernel_rfl
def pl60 : Plans := fun i => match i with | _ => []
@[go_sem] theorem rs60 : Tryd.f60.results.toList = [(.tmp 4)] := rfl
theorem ok60 : fnOk Tryd.prog pl60 Tryd.f60 = true := by kernel_rfl
def pl61 : Plans := fun i => match i with | _ => []
@[go_sem] theorem rs61 : Tryd.f61.results.toList = [] := rfl
theorem ok61 : fnOk Tryd.prog pl61 Tryd.f61 = true := by kernel_rfl
def pl62 : Plans := fun i => match i with | 0 => [.pure, .pure, .pure, .pure, .pure, .pure, .pure, .pure, .eff, .pure, .pure, .pure, (.read 0 1), (.read 0 1), .pure, .pure] | _ => []
@[go_sem] theorem rs62 : Tryd.f62.results.toList = [] := rfl
theorem ok62 : fnOk Tryd.prog pl62 Tryd.f62 = true := by kernel_rfl
def pl63 : Plans := fun i => match i with | _ => []
@[go_sem] theorem rs63 : Tryd.f63.results.toList = [(.tmp 2)] := rfl
theorem ok63 : fnOk Tryd.prog pl63 Tryd.f63 = true := by kernel_rfl
def pl64 : Plans := fun i => match i with | _ => []
@[go_sem] theorem rs64 : Tryd.f64.results.toList = [(.tmp 2)] := rfl
theorem ok64 : fnOk Tryd.prog pl64 Tryd.f64 = true := by kernel_rfl
def pl65 : Plans := fun i => match i with | _ => []
@[go_sem] theorem rs65 : Tryd.f65.results.toList = [(.tmp 2)] := rfl
theorem ok65 : fnOk Tryd.prog pl65 Tryd.f65 = true := by kernel_rfl
def pl66 : Plans := fun i => match i with | 7 => [.pure, .pure, .pure, .pure, .pure, .pure, .pure, .pure, .pure, .pure, .pure, .pure, .eff, .pure, .eff] | 8 => [.pure, .pure, .pure, .pure, .pure, .pure, .pure, .pure, .pure, .pure, .pure, .pure, .eff, .pure, .eff] | 9 => [.pure, .pure, .pure, .pure, .pure, .pure, .pure, .pure, .pure, .pure, .pure, .pure, .eff, .pure, .eff] | 10 => [.pure, .pure, .pure, .pure, .pure, .pure, .pure, .pure, .pure, .pure, .pure, .pure, .eff, .pure, .eff] | 17 => [.pure, .pure, .pure, .pure, .pure, .pure, .pure, .pure, .pure, .pure, .pure, .pure, .eff, .pure, .eff] | 18 => [.pure, .pure, .pure, .pure, .pure, .pure, .pure, .pure, .pure, .pure, .pure, .pure, .eff, .pure, .eff] | 23 => [.pure, .pure, .pure, .pure, .pure, .pure, .pure, .pure, .pure, .pure, .pure, .pure, .eff, .pure, .eff] | _ => []
@[go_sem] theorem rs66 : Tryd.f66.results.toList = [] := rfl
theorem ok66 : fnOk Tryd.prog pl66 Tryd.f66 = true := by kernel_rfl
def pl67 : Plans := fun i => match i with | _ => []
@[go_sem] theorem rs67 : Tryd.f67.results.toList = [(.tmp 10), (.tmp 11)] := rfl
theorem ok67 : fnOk Tryd.prog pl67 Tryd.f67 = true := by kernel_rfl
def pl70 : Plans := fun i => match i with | _ => []
@[go_sem] theorem rs70 : Tryd.f70.results.toList = [(.tmp 2)] := rfl
theorem ok70 : fnOk Tryd.prog pl70 Tryd.f70 = true := by kernel_rfl
def pl71 : Plans := fun i => match i with | _ => []
@[go_sem] theorem rs71 : Tryd.f71.results.toList = [(.tmp 2)] := rfl
theorem ok71 : fnOk Tryd.prog pl71 Tryd.f71 = true := by kernel_rfl
def pl72 : Plans := fun i => match i with | _ => []
@[go_sem] theorem rs72 : Tryd.f72.results.toList = [(.tmp 2)] := rfl
theorem ok72 : fnOk Tryd.prog pl72 Tryd.f72 = true := by kernel_rfl
def pl73 : Plans := fun i => match i with | _ => []
@[go_sem] theorem rs73 : Tryd.f73.results.toList = [(.tmp 2)] := rfl
theorem ok73 : fnOk Tryd.prog pl73 Tryd.f73 = true := by kernel_rfl
def pl74 : Plans := fun i => match i with | _ => []
@[go_sem] theorem rs74 : Tryd.f74.results.toList = [(.tmp 2)] := rfl
theorem ok74 : fnOk Tryd.prog pl74 Tryd.f74 = true := by kernel_rfl
def pl75 : Plans := fun i => match i with | _ => []
@[go_sem] theorem rs75 : Tryd.f75.results.toList = [(.tmp 2)] := rfl
theorem ok75 : fnOk Tryd.prog pl75 Tryd.f75 = true := by kernel_rfl
def pl76 : Plans := fun i => match i with | _ => []
@[go_sem] theorem rs76 : Tryd.f76.results.toList = [(.tmp 2)] := rfl
theorem ok76 : fnOk Tryd.prog pl76 Tryd.f76 = true := by kernel_rfl
attribute [go_sem] pl3 pl4 pl5 pl6 pl7 pl8 pl9 pl10 pl11 pl12 pl13 pl14 pl15 pl16 pl17 pl18 pl19 pl20 pl21 pl22 pl23 pl24 pl25 pl26 pl27 pl28 pl29 pl30 pl31 pl32 pl33 pl34 pl35 pl36 pl37 pl38 pl39 pl40 pl41 pl42 pl43 pl44 pl45 pl46 pl47 pl48 pl49 pl50 pl51 pl52 pl53 pl54 pl55 pl56 pl57 pl58 pl59 pl60 pl61 pl62 pl63 pl64 pl65 pl66 pl67 pl70 pl71 pl72 pl73 pl74 pl75 pl76
end Go.Proofs.YtjljolnhmmbkoaaDoor
