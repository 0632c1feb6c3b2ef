/- What is proved: the program's types, as the calculus asks them; that its functions may be walked. Conditions: as each theorem says. -/
import Derived.Test.YtjljolnhmmbkoaaWK
import Derived.KernelRfl
import Derived.Test.YtjljolnhmmbkoaaProg
set_option linter.unusedVariables false
set_option linter.unusedSimpArgs false
set_option linter.unusedSectionVars false
namespace Go.Proofs.Ytjljolnhmmbkoaa
open Go.Eng
set_option autoImplicit false
set_option maxRecDepth 100000
@[go_sem] theorem ty_0 : tyOf Try.prog 0 = some ((1, (0, false))) := by kernel_rfl
@[go_sem] theorem td_1 : tdOf Try.prog 1 = .func := by kernel_rfl
@[go_sem] theorem ty_1 : tyOf Try.prog 1 = some ((1, (8, false))) := by kernel_rfl
@[go_sem] theorem z_1 : zeroT Try.prog 1 = some (.nilFunc) := by kernel_rfl
@[go_sem] theorem td_2 : tdOf Try.prog 2 = (.int .i64) := by kernel_rfl
@[go_sem] theorem ty_2 : tyOf Try.prog 2 = some ((1, (8, false))) := by kernel_rfl
@[go_sem] theorem z_2 : zeroT Try.prog 2 = some ((.int .i64 0)) := by kernel_rfl
@[go_sem] theorem td_3 : tdOf Try.prog 3 = (.int .i64) := by kernel_rfl
@[go_sem] theorem ty_3 : tyOf Try.prog 3 = some ((1, (8, false))) := by kernel_rfl
@[go_sem] theorem z_3 : zeroT Try.prog 3 = some ((.int .i64 0)) := by kernel_rfl
@[go_sem] theorem td_4 : tdOf Try.prog 4 = .bool := by kernel_rfl
@[go_sem] theorem ty_4 : tyOf Try.prog 4 = some ((1, (1, false))) := by kernel_rfl
@[go_sem] theorem z_4 : zeroT Try.prog 4 = some ((.bool false)) := by kernel_rfl
@[go_sem] theorem td_5 : tdOf Try.prog 5 = (.int .u8) := by kernel_rfl
@[go_sem] theorem ty_5 : tyOf Try.prog 5 = some ((1, (1, false))) := by kernel_rfl
@[go_sem] theorem z_5 : zeroT Try.prog 5 = some ((.int .u8 0)) := by kernel_rfl
@[go_sem] theorem td_6 : tdOf Try.prog 6 = (.int .u8) := by kernel_rfl
@[go_sem] theorem ty_6 : tyOf Try.prog 6 = some ((1, (1, false))) := by kernel_rfl
@[go_sem] theorem z_6 : zeroT Try.prog 6 = some ((.int .u8 0)) := by kernel_rfl
@[go_sem] theorem td_7 : tdOf Try.prog 7 = (.struct [⟨false, 2, 0, 1, false⟩, ⟨false, 3, 1, 1, false⟩, ⟨false, 4, 2, 1, false⟩, ⟨false, 6, 3, 1, false⟩]) := by kernel_rfl
@[go_sem] theorem ty_7 : tyOf Try.prog 7 = some ((4, (24, true))) := by kernel_rfl
@[go_sem] theorem z_7 : zeroT Try.prog 7 = some ((.agg [(.int .i64 0), (.int .i64 0), (.bool false), (.int .u8 0)])) := by kernel_rfl
@[go_sem] theorem td_8 : tdOf Try.prog 8 = (.struct [⟨false, 2, 0, 1, false⟩, ⟨false, 3, 1, 1, false⟩, ⟨false, 4, 2, 1, false⟩, ⟨false, 6, 3, 1, false⟩]) := by kernel_rfl
@[go_sem] theorem ty_8 : tyOf Try.prog 8 = some ((4, (24, true))) := by kernel_rfl
@[go_sem] theorem z_8 : zeroT Try.prog 8 = some ((.agg [(.int .i64 0), (.int .i64 0), (.bool false), (.int .u8 0)])) := by kernel_rfl
@[go_sem] theorem td_9 : tdOf Try.prog 9 = .str := by kernel_rfl
@[go_sem] theorem ty_9 : tyOf Try.prog 9 = some ((1, (16, false))) := by kernel_rfl
@[go_sem] theorem z_9 : zeroT Try.prog 9 = some ((.str 0 0)) := by kernel_rfl
@[go_sem] theorem td_10 : tdOf Try.prog 10 = .str := by kernel_rfl
@[go_sem] theorem ty_10 : tyOf Try.prog 10 = some ((1, (16, false))) := by kernel_rfl
@[go_sem] theorem z_10 : zeroT Try.prog 10 = some ((.str 0 0)) := by kernel_rfl
@[go_sem] theorem td_11 : tdOf Try.prog 11 = .str := by kernel_rfl
@[go_sem] theorem ty_11 : tyOf Try.prog 11 = some ((1, (16, false))) := by kernel_rfl
@[go_sem] theorem z_11 : zeroT Try.prog 11 = some ((.str 0 0)) := by kernel_rfl
@[go_sem] theorem td_12 : tdOf Try.prog 12 = (.int .u64) := by kernel_rfl
@[go_sem] theorem ty_12 : tyOf Try.prog 12 = some ((1, (8, false))) := by kernel_rfl
@[go_sem] theorem z_12 : zeroT Try.prog 12 = some ((.int .u64 0)) := by kernel_rfl
@[go_sem] theorem td_13 : tdOf Try.prog 13 = (.struct [⟨false, 9, 0, 1, false⟩, ⟨false, 12, 1, 1, false⟩]) := by kernel_rfl
@[go_sem] theorem ty_13 : tyOf Try.prog 13 = some ((2, (24, true))) := by kernel_rfl
@[go_sem] theorem z_13 : zeroT Try.prog 13 = some ((.agg [(.str 0 0), (.int .u64 0)])) := by kernel_rfl
@[go_sem] theorem td_14 : tdOf Try.prog 14 = (.struct [⟨false, 9, 0, 1, false⟩, ⟨false, 12, 1, 1, false⟩]) := by kernel_rfl
@[go_sem] theorem ty_14 : tyOf Try.prog 14 = some ((2, (24, true))) := by kernel_rfl
@[go_sem] theorem z_14 : zeroT Try.prog 14 = some ((.agg [(.str 0 0), (.int .u64 0)])) := by kernel_rfl
@[go_sem] theorem td_15 : tdOf Try.prog 15 = .ptr := by kernel_rfl
@[go_sem] theorem ty_15 : tyOf Try.prog 15 = some ((1, (8, false))) := by kernel_rfl
@[go_sem] theorem z_15 : zeroT Try.prog 15 = some (.nilptr) := by kernel_rfl
@[go_sem] theorem td_16 : tdOf Try.prog 16 = .ptr := by kernel_rfl
@[go_sem] theorem ty_16 : tyOf Try.prog 16 = some ((1, (8, false))) := by kernel_rfl
@[go_sem] theorem z_16 : zeroT Try.prog 16 = some (.nilptr) := by kernel_rfl
@[go_sem] theorem td_17 : tdOf Try.prog 17 = .ptr := by kernel_rfl
@[go_sem] theorem ty_17 : tyOf Try.prog 17 = some ((1, (8, false))) := by kernel_rfl
@[go_sem] theorem z_17 : zeroT Try.prog 17 = some (.nilptr) := by kernel_rfl
@[go_sem] theorem td_18 : tdOf Try.prog 18 = (.struct [⟨false, 17, 0, 1, false⟩]) := by kernel_rfl
@[go_sem] theorem ty_18 : tyOf Try.prog 18 = some ((1, (8, true))) := by kernel_rfl
@[go_sem] theorem z_18 : zeroT Try.prog 18 = some ((.agg [.nilptr])) := by kernel_rfl
@[go_sem] theorem td_19 : tdOf Try.prog 19 = (.struct [⟨false, 17, 0, 1, false⟩]) := by kernel_rfl
@[go_sem] theorem ty_19 : tyOf Try.prog 19 = some ((1, (8, true))) := by kernel_rfl
@[go_sem] theorem z_19 : zeroT Try.prog 19 = some ((.agg [.nilptr])) := by kernel_rfl
@[go_sem] theorem td_20 : tdOf Try.prog 20 = .iface := by kernel_rfl
@[go_sem] theorem ty_20 : tyOf Try.prog 20 = some ((1, (16, false))) := by kernel_rfl
@[go_sem] theorem z_20 : zeroT Try.prog 20 = some (.nilIface) := by kernel_rfl
@[go_sem] theorem td_21 : tdOf Try.prog 21 = (.int .i32) := by kernel_rfl
@[go_sem] theorem ty_21 : tyOf Try.prog 21 = some ((1, (4, false))) := by kernel_rfl
@[go_sem] theorem z_21 : zeroT Try.prog 21 = some ((.int .i32 0)) := by kernel_rfl
@[go_sem] theorem td_22 : tdOf Try.prog 22 = .func := by kernel_rfl
@[go_sem] theorem ty_22 : tyOf Try.prog 22 = some ((1, (8, false))) := by kernel_rfl
@[go_sem] theorem z_22 : zeroT Try.prog 22 = some (.nilFunc) := by kernel_rfl
@[go_sem] theorem td_23 : tdOf Try.prog 23 = (.int .i64) := by kernel_rfl
@[go_sem] theorem ty_23 : tyOf Try.prog 23 = some ((1, (8, false))) := by kernel_rfl
@[go_sem] theorem z_23 : zeroT Try.prog 23 = some ((.int .i64 0)) := by kernel_rfl
@[go_sem] theorem td_24 : tdOf Try.prog 24 = (.slice 23 1 8) := by kernel_rfl
@[go_sem] theorem ty_24 : tyOf Try.prog 24 = some ((1, (24, false))) := by kernel_rfl
@[go_sem] theorem z_24 : zeroT Try.prog 24 = some (.nilslice) := by kernel_rfl
@[go_sem] theorem td_25 : tdOf Try.prog 25 = (.struct [⟨false, 3, 0, 1, false⟩, ⟨false, 3, 1, 1, false⟩]) := by kernel_rfl
@[go_sem] theorem ty_25 : tyOf Try.prog 25 = some ((2, (16, true))) := by kernel_rfl
@[go_sem] theorem z_25 : zeroT Try.prog 25 = some ((.agg [(.int .i64 0), (.int .i64 0)])) := by kernel_rfl
@[go_sem] theorem td_26 : tdOf Try.prog 26 = (.struct [⟨false, 3, 0, 1, false⟩, ⟨false, 3, 1, 1, false⟩]) := by kernel_rfl
@[go_sem] theorem ty_26 : tyOf Try.prog 26 = some ((2, (16, true))) := by kernel_rfl
@[go_sem] theorem z_26 : zeroT Try.prog 26 = some ((.agg [(.int .i64 0), (.int .i64 0)])) := by kernel_rfl
@[go_sem] theorem ty_27 : tyOf Try.prog 27 = some ((1, (0, false))) := by kernel_rfl
@[go_sem] theorem td_28 : tdOf Try.prog 28 = .func := by kernel_rfl
@[go_sem] theorem ty_28 : tyOf Try.prog 28 = some ((1, (8, false))) := by kernel_rfl
@[go_sem] theorem z_28 : zeroT Try.prog 28 = some (.nilFunc) := by kernel_rfl
@[go_sem] theorem td_29 : tdOf Try.prog 29 = (.slice 2 1 8) := by kernel_rfl
@[go_sem] theorem ty_29 : tyOf Try.prog 29 = some ((1, (24, false))) := by kernel_rfl
@[go_sem] theorem z_29 : zeroT Try.prog 29 = some (.nilslice) := by kernel_rfl
@[go_sem] theorem td_30 : tdOf Try.prog 30 = (.slice 34 4 32) := by kernel_rfl
@[go_sem] theorem ty_30 : tyOf Try.prog 30 = some ((1, (24, false))) := by kernel_rfl
@[go_sem] theorem z_30 : zeroT Try.prog 30 = some (.nilslice) := by kernel_rfl
@[go_sem] theorem td_31 : tdOf Try.prog 31 = (.struct [⟨false, 24, 0, 1, false⟩, ⟨false, 24, 1, 1, false⟩, ⟨false, 24, 2, 1, false⟩, ⟨false, 24, 3, 1, false⟩, ⟨false, 29, 4, 1, false⟩, ⟨false, 30, 5, 1, false⟩]) := by kernel_rfl
@[go_sem] theorem ty_31 : tyOf Try.prog 31 = some ((6, (144, true))) := by kernel_rfl
@[go_sem] theorem z_31 : zeroT Try.prog 31 = some ((.agg [.nilslice, .nilslice, .nilslice, .nilslice, .nilslice, .nilslice])) := by kernel_rfl
@[go_sem] theorem td_32 : tdOf Try.prog 32 = (.struct [⟨false, 24, 0, 1, false⟩, ⟨false, 24, 1, 1, false⟩, ⟨false, 24, 2, 1, false⟩, ⟨false, 24, 3, 1, false⟩, ⟨false, 29, 4, 1, false⟩, ⟨false, 30, 5, 1, false⟩]) := by kernel_rfl
@[go_sem] theorem ty_32 : tyOf Try.prog 32 = some ((6, (144, true))) := by kernel_rfl
@[go_sem] theorem z_32 : zeroT Try.prog 32 = some ((.agg [.nilslice, .nilslice, .nilslice, .nilslice, .nilslice, .nilslice])) := by kernel_rfl
@[go_sem] theorem td_33 : tdOf Try.prog 33 = (.struct [⟨false, 3, 0, 1, false⟩, ⟨false, 3, 1, 1, false⟩, ⟨false, 3, 2, 1, false⟩, ⟨false, 3, 3, 1, false⟩]) := by kernel_rfl
@[go_sem] theorem ty_33 : tyOf Try.prog 33 = some ((4, (32, true))) := by kernel_rfl
@[go_sem] theorem z_33 : zeroT Try.prog 33 = some ((.agg [(.int .i64 0), (.int .i64 0), (.int .i64 0), (.int .i64 0)])) := by kernel_rfl
@[go_sem] theorem td_34 : tdOf Try.prog 34 = (.struct [⟨false, 3, 0, 1, false⟩, ⟨false, 3, 1, 1, false⟩, ⟨false, 3, 2, 1, false⟩, ⟨false, 3, 3, 1, false⟩]) := by kernel_rfl
@[go_sem] theorem ty_34 : tyOf Try.prog 34 = some ((4, (32, true))) := by kernel_rfl
@[go_sem] theorem z_34 : zeroT Try.prog 34 = some ((.agg [(.int .i64 0), (.int .i64 0), (.int .i64 0), (.int .i64 0)])) := by kernel_rfl
@[go_sem] theorem td_35 : tdOf Try.prog 35 = .func := by kernel_rfl
@[go_sem] theorem ty_35 : tyOf Try.prog 35 = some ((1, (8, false))) := by kernel_rfl
@[go_sem] theorem z_35 : zeroT Try.prog 35 = some (.nilFunc) := by kernel_rfl
@[go_sem] theorem ty_36 : tyOf Try.prog 36 = some ((1, (0, false))) := by kernel_rfl
@[go_sem] theorem td_37 : tdOf Try.prog 37 = .func := by kernel_rfl
@[go_sem] theorem ty_37 : tyOf Try.prog 37 = some ((1, (8, false))) := by kernel_rfl
@[go_sem] theorem z_37 : zeroT Try.prog 37 = some (.nilFunc) := by kernel_rfl
@[go_sem] theorem td_38 : tdOf Try.prog 38 = .func := by kernel_rfl
@[go_sem] theorem ty_38 : tyOf Try.prog 38 = some ((1, (8, false))) := by kernel_rfl
@[go_sem] theorem z_38 : zeroT Try.prog 38 = some (.nilFunc) := by kernel_rfl
@[go_sem] theorem td_39 : tdOf Try.prog 39 = .func := by kernel_rfl
@[go_sem] theorem ty_39 : tyOf Try.prog 39 = some ((1, (8, false))) := by kernel_rfl
@[go_sem] theorem z_39 : zeroT Try.prog 39 = some (.nilFunc) := by kernel_rfl
@[go_sem] theorem td_40 : tdOf Try.prog 40 = .func := by kernel_rfl
@[go_sem] theorem ty_40 : tyOf Try.prog 40 = some ((1, (8, false))) := by kernel_rfl
@[go_sem] theorem z_40 : zeroT Try.prog 40 = some (.nilFunc) := by kernel_rfl
@[go_sem] theorem td_41 : tdOf Try.prog 41 = .func := by kernel_rfl
@[go_sem] theorem ty_41 : tyOf Try.prog 41 = some ((1, (8, false))) := by kernel_rfl
@[go_sem] theorem z_41 : zeroT Try.prog 41 = some (.nilFunc) := by kernel_rfl
@[go_sem] theorem td_42 : tdOf Try.prog 42 = .func := by kernel_rfl
@[go_sem] theorem ty_42 : tyOf Try.prog 42 = some ((1, (8, false))) := by kernel_rfl
@[go_sem] theorem z_42 : zeroT Try.prog 42 = some (.nilFunc) := by kernel_rfl
@[go_sem] theorem td_43 : tdOf Try.prog 43 = .ptr := by kernel_rfl
@[go_sem] theorem ty_43 : tyOf Try.prog 43 = some ((1, (8, false))) := by kernel_rfl
@[go_sem] theorem z_43 : zeroT Try.prog 43 = some (.nilptr) := by kernel_rfl
@[go_sem] theorem td_44 : tdOf Try.prog 44 = (.int .i64) := by kernel_rfl
@[go_sem] theorem ty_44 : tyOf Try.prog 44 = some ((1, (8, false))) := by kernel_rfl
@[go_sem] theorem z_44 : zeroT Try.prog 44 = some ((.int .i64 0)) := by kernel_rfl
@[go_sem] theorem ty_45 : tyOf Try.prog 45 = some ((1, (0, false))) := by kernel_rfl
@[go_sem] theorem td_46 : tdOf Try.prog 46 = .func := by kernel_rfl
@[go_sem] theorem ty_46 : tyOf Try.prog 46 = some ((1, (8, false))) := by kernel_rfl
@[go_sem] theorem z_46 : zeroT Try.prog 46 = some (.nilFunc) := by kernel_rfl
@[go_sem] theorem td_47 : tdOf Try.prog 47 = .func := by kernel_rfl
@[go_sem] theorem ty_47 : tyOf Try.prog 47 = some ((1, (8, false))) := by kernel_rfl
@[go_sem] theorem z_47 : zeroT Try.prog 47 = some (.nilFunc) := by kernel_rfl
@[go_sem] theorem td_48 : tdOf Try.prog 48 = (.slice 2 1 8) := by kernel_rfl
@[go_sem] theorem ty_48 : tyOf Try.prog 48 = some ((1, (24, false))) := by kernel_rfl
@[go_sem] theorem z_48 : zeroT Try.prog 48 = some (.nilslice) := by kernel_rfl
@[go_sem] theorem ty_49 : tyOf Try.prog 49 = some ((1, (0, false))) := by kernel_rfl
@[go_sem] theorem td_50 : tdOf Try.prog 50 = .func := by kernel_rfl
@[go_sem] theorem ty_50 : tyOf Try.prog 50 = some ((1, (8, false))) := by kernel_rfl
@[go_sem] theorem z_50 : zeroT Try.prog 50 = some (.nilFunc) := by kernel_rfl
@[go_sem] theorem td_51 : tdOf Try.prog 51 = .func := by kernel_rfl
@[go_sem] theorem ty_51 : tyOf Try.prog 51 = some ((1, (8, false))) := by kernel_rfl
@[go_sem] theorem z_51 : zeroT Try.prog 51 = some (.nilFunc) := by kernel_rfl
@[go_sem] theorem td_52 : tdOf Try.prog 52 = (.slice 5 1 1) := by kernel_rfl
@[go_sem] theorem ty_52 : tyOf Try.prog 52 = some ((1, (24, false))) := by kernel_rfl
@[go_sem] theorem z_52 : zeroT Try.prog 52 = some (.nilslice) := by kernel_rfl
@[go_sem] theorem td_53 : tdOf Try.prog 53 = .func := by kernel_rfl
@[go_sem] theorem ty_53 : tyOf Try.prog 53 = some ((1, (8, false))) := by kernel_rfl
@[go_sem] theorem z_53 : zeroT Try.prog 53 = some (.nilFunc) := by kernel_rfl
@[go_sem] theorem td_54 : tdOf Try.prog 54 = .func := by kernel_rfl
@[go_sem] theorem ty_54 : tyOf Try.prog 54 = some ((1, (8, false))) := by kernel_rfl
@[go_sem] theorem z_54 : zeroT Try.prog 54 = some (.nilFunc) := by kernel_rfl
@[go_sem] theorem td_55 : tdOf Try.prog 55 = (.slice 48 1 24) := by kernel_rfl
@[go_sem] theorem ty_55 : tyOf Try.prog 55 = some ((1, (24, false))) := by kernel_rfl
@[go_sem] theorem z_55 : zeroT Try.prog 55 = some (.nilslice) := by kernel_rfl
@[go_sem] theorem td_56 : tdOf Try.prog 56 = .func := by kernel_rfl
@[go_sem] theorem ty_56 : tyOf Try.prog 56 = some ((1, (8, false))) := by kernel_rfl
@[go_sem] theorem z_56 : zeroT Try.prog 56 = some (.nilFunc) := by kernel_rfl
@[go_sem] theorem td_57 : tdOf Try.prog 57 = .ptr := by kernel_rfl
@[go_sem] theorem ty_57 : tyOf Try.prog 57 = some ((1, (8, false))) := by kernel_rfl
@[go_sem] theorem z_57 : zeroT Try.prog 57 = some (.nilptr) := by kernel_rfl
@[go_sem] theorem td_58 : tdOf Try.prog 58 = .func := by kernel_rfl
@[go_sem] theorem ty_58 : tyOf Try.prog 58 = some ((1, (8, false))) := by kernel_rfl
@[go_sem] theorem z_58 : zeroT Try.prog 58 = some (.nilFunc) := by kernel_rfl
@[go_sem] theorem ty_59 : tyOf Try.prog 59 = some ((1, (0, false))) := by kernel_rfl
@[go_sem] theorem td_60 : tdOf Try.prog 60 = .func := by kernel_rfl
@[go_sem] theorem ty_60 : tyOf Try.prog 60 = some ((1, (8, false))) := by kernel_rfl
@[go_sem] theorem z_60 : zeroT Try.prog 60 = some (.nilFunc) := by kernel_rfl
@[go_sem] theorem td_61 : tdOf Try.prog 61 = .func := by kernel_rfl
@[go_sem] theorem ty_61 : tyOf Try.prog 61 = some ((1, (8, false))) := by kernel_rfl
@[go_sem] theorem z_61 : zeroT Try.prog 61 = some (.nilFunc) := by kernel_rfl
@[go_sem] theorem td_62 : tdOf Try.prog 62 = (.struct [⟨false, 32, 0, 6, true⟩, ⟨false, 29, 6, 1, false⟩, ⟨false, 2, 7, 1, false⟩]) := by kernel_rfl
@[go_sem] theorem ty_62 : tyOf Try.prog 62 = some ((8, (176, true))) := by kernel_rfl
@[go_sem] theorem z_62 : zeroT Try.prog 62 = some ((.agg [.nilslice, .nilslice, .nilslice, .nilslice, .nilslice, .nilslice, .nilslice, (.int .i64 0)])) := by kernel_rfl
@[go_sem] theorem td_63 : tdOf Try.prog 63 = (.struct [⟨false, 32, 0, 6, true⟩, ⟨false, 29, 6, 1, false⟩, ⟨false, 2, 7, 1, false⟩]) := by kernel_rfl
@[go_sem] theorem ty_63 : tyOf Try.prog 63 = some ((8, (176, true))) := by kernel_rfl
@[go_sem] theorem z_63 : zeroT Try.prog 63 = some ((.agg [.nilslice, .nilslice, .nilslice, .nilslice, .nilslice, .nilslice, .nilslice, (.int .i64 0)])) := by kernel_rfl
@[go_sem] theorem td_64 : tdOf Try.prog 64 = (.array 32 5 1 false) := by kernel_rfl
@[go_sem] theorem ty_64 : tyOf Try.prog 64 = some ((32, (32, true))) := by kernel_rfl
@[go_sem] theorem z_64 : zeroT Try.prog 64 = some ((.agg (List.replicate 32 (.int .u8 0)))) := by kernel_rfl
@[go_sem] theorem td_65 : tdOf Try.prog 65 = .func := by kernel_rfl
@[go_sem] theorem ty_65 : tyOf Try.prog 65 = some ((1, (8, false))) := by kernel_rfl
@[go_sem] theorem z_65 : zeroT Try.prog 65 = some (.nilFunc) := by kernel_rfl
@[go_sem] theorem td_66 : tdOf Try.prog 66 = .func := by kernel_rfl
@[go_sem] theorem ty_66 : tyOf Try.prog 66 = some ((1, (8, false))) := by kernel_rfl
@[go_sem] theorem z_66 : zeroT Try.prog 66 = some (.nilFunc) := by kernel_rfl
@[go_sem] theorem td_67 : tdOf Try.prog 67 = .func := by kernel_rfl
@[go_sem] theorem ty_67 : tyOf Try.prog 67 = some ((1, (8, false))) := by kernel_rfl
@[go_sem] theorem z_67 : zeroT Try.prog 67 = some (.nilFunc) := by kernel_rfl
@[go_sem] theorem td_68 : tdOf Try.prog 68 = .func := by kernel_rfl
@[go_sem] theorem ty_68 : tyOf Try.prog 68 = some ((1, (8, false))) := by kernel_rfl
@[go_sem] theorem z_68 : zeroT Try.prog 68 = some (.nilFunc) := by kernel_rfl
@[go_sem] theorem td_69 : tdOf Try.prog 69 = .func := by kernel_rfl
@[go_sem] theorem ty_69 : tyOf Try.prog 69 = some ((1, (8, false))) := by kernel_rfl
@[go_sem] theorem z_69 : zeroT Try.prog 69 = some (.nilFunc) := by kernel_rfl
@[go_sem] theorem td_70 : tdOf Try.prog 70 = .func := by kernel_rfl
@[go_sem] theorem ty_70 : tyOf Try.prog 70 = some ((1, (8, false))) := by kernel_rfl
@[go_sem] theorem z_70 : zeroT Try.prog 70 = some (.nilFunc) := by kernel_rfl
@[go_sem] theorem td_71 : tdOf Try.prog 71 = (.slice 9 1 16) := by kernel_rfl
@[go_sem] theorem ty_71 : tyOf Try.prog 71 = some ((1, (24, false))) := by kernel_rfl
@[go_sem] theorem z_71 : zeroT Try.prog 71 = some (.nilslice) := by kernel_rfl
@[go_sem] theorem td_72 : tdOf Try.prog 72 = .func := by kernel_rfl
@[go_sem] theorem ty_72 : tyOf Try.prog 72 = some ((1, (8, false))) := by kernel_rfl
@[go_sem] theorem z_72 : zeroT Try.prog 72 = some (.nilFunc) := by kernel_rfl
@[go_sem] theorem td_73 : tdOf Try.prog 73 = .func := by kernel_rfl
@[go_sem] theorem ty_73 : tyOf Try.prog 73 = some ((1, (8, false))) := by kernel_rfl
@[go_sem] theorem z_73 : zeroT Try.prog 73 = some (.nilFunc) := by kernel_rfl
@[go_sem] theorem td_74 : tdOf Try.prog 74 = .func := by kernel_rfl
@[go_sem] theorem ty_74 : tyOf Try.prog 74 = some ((1, (8, false))) := by kernel_rfl
@[go_sem] theorem z_74 : zeroT Try.prog 74 = some (.nilFunc) := by kernel_rfl
@[go_sem] theorem td_75 : tdOf Try.prog 75 = .func := by kernel_rfl
@[go_sem] theorem ty_75 : tyOf Try.prog 75 = some ((1, (8, false))) := by kernel_rfl
@[go_sem] theorem z_75 : zeroT Try.prog 75 = some (.nilFunc) := by kernel_rfl
@[go_sem] theorem td_76 : tdOf Try.prog 76 = .func := by kernel_rfl
@[go_sem] theorem ty_76 : tyOf Try.prog 76 = some ((1, (8, false))) := by kernel_rfl
@[go_sem] theorem z_76 : zeroT Try.prog 76 = some (.nilFunc) := by kernel_rfl
@[go_sem] theorem td_77 : tdOf Try.prog 77 = .func := by kernel_rfl
@[go_sem] theorem ty_77 : tyOf Try.prog 77 = some ((1, (8, false))) := by kernel_rfl
@[go_sem] theorem z_77 : zeroT Try.prog 77 = some (.nilFunc) := by kernel_rfl
@[go_sem] theorem td_78 : tdOf Try.prog 78 = .ptr := by kernel_rfl
@[go_sem] theorem ty_78 : tyOf Try.prog 78 = some ((1, (8, false))) := by kernel_rfl
@[go_sem] theorem z_78 : zeroT Try.prog 78 = some (.nilptr) := by kernel_rfl
@[go_sem] theorem td_79 : tdOf Try.prog 79 = (.struct [⟨false, 32, 0, 6, true⟩]) := by kernel_rfl
@[go_sem] theorem ty_79 : tyOf Try.prog 79 = some ((6, (144, true))) := by kernel_rfl
@[go_sem] theorem z_79 : zeroT Try.prog 79 = some ((.agg [.nilslice, .nilslice, .nilslice, .nilslice, .nilslice, .nilslice])) := by kernel_rfl
@[go_sem] theorem td_80 : tdOf Try.prog 80 = (.struct [⟨false, 32, 0, 6, true⟩]) := by kernel_rfl
@[go_sem] theorem ty_80 : tyOf Try.prog 80 = some ((6, (144, true))) := by kernel_rfl
@[go_sem] theorem z_80 : zeroT Try.prog 80 = some ((.agg [.nilslice, .nilslice, .nilslice, .nilslice, .nilslice, .nilslice])) := by kernel_rfl
@[go_sem] theorem td_81 : tdOf Try.prog 81 = .func := by kernel_rfl
@[go_sem] theorem ty_81 : tyOf Try.prog 81 = some ((1, (8, false))) := by kernel_rfl
@[go_sem] theorem z_81 : zeroT Try.prog 81 = some (.nilFunc) := by kernel_rfl
@[go_sem] theorem td_82 : tdOf Try.prog 82 = .func := by kernel_rfl
@[go_sem] theorem ty_82 : tyOf Try.prog 82 = some ((1, (8, false))) := by kernel_rfl
@[go_sem] theorem z_82 : zeroT Try.prog 82 = some (.nilFunc) := by kernel_rfl
@[go_sem] theorem td_83 : tdOf Try.prog 83 = (.slice 108 1 8) := by kernel_rfl
@[go_sem] theorem ty_83 : tyOf Try.prog 83 = some ((1, (24, false))) := by kernel_rfl
@[go_sem] theorem z_83 : zeroT Try.prog 83 = some (.nilslice) := by kernel_rfl
@[go_sem] theorem td_84 : tdOf Try.prog 84 = (.slice 108 1 8) := by kernel_rfl
@[go_sem] theorem ty_84 : tyOf Try.prog 84 = some ((1, (24, false))) := by kernel_rfl
@[go_sem] theorem z_84 : zeroT Try.prog 84 = some (.nilslice) := by kernel_rfl
@[go_sem] theorem td_85 : tdOf Try.prog 85 = (.struct [⟨false, 4, 0, 1, false⟩, ⟨false, 84, 1, 1, false⟩, ⟨false, 84, 2, 1, false⟩]) := by kernel_rfl
@[go_sem] theorem ty_85 : tyOf Try.prog 85 = some ((3, (56, true))) := by kernel_rfl
@[go_sem] theorem z_85 : zeroT Try.prog 85 = some ((.agg [(.bool false), .nilslice, .nilslice])) := by kernel_rfl
@[go_sem] theorem td_86 : tdOf Try.prog 86 = (.struct [⟨false, 4, 0, 1, false⟩, ⟨false, 84, 1, 1, false⟩, ⟨false, 84, 2, 1, false⟩]) := by kernel_rfl
@[go_sem] theorem ty_86 : tyOf Try.prog 86 = some ((3, (56, true))) := by kernel_rfl
@[go_sem] theorem z_86 : zeroT Try.prog 86 = some ((.agg [(.bool false), .nilslice, .nilslice])) := by kernel_rfl
@[go_sem] theorem ty_87 : tyOf Try.prog 87 = some ((1, (0, false))) := by kernel_rfl
@[go_sem] theorem td_88 : tdOf Try.prog 88 = .func := by kernel_rfl
@[go_sem] theorem ty_88 : tyOf Try.prog 88 = some ((1, (8, false))) := by kernel_rfl
@[go_sem] theorem z_88 : zeroT Try.prog 88 = some (.nilFunc) := by kernel_rfl
@[go_sem] theorem td_89 : tdOf Try.prog 89 = .func := by kernel_rfl
@[go_sem] theorem ty_89 : tyOf Try.prog 89 = some ((1, (8, false))) := by kernel_rfl
@[go_sem] theorem z_89 : zeroT Try.prog 89 = some (.nilFunc) := by kernel_rfl
@[go_sem] theorem td_90 : tdOf Try.prog 90 = .func := by kernel_rfl
@[go_sem] theorem ty_90 : tyOf Try.prog 90 = some ((1, (8, false))) := by kernel_rfl
@[go_sem] theorem z_90 : zeroT Try.prog 90 = some (.nilFunc) := by kernel_rfl
@[go_sem] theorem td_91 : tdOf Try.prog 91 = .func := by kernel_rfl
@[go_sem] theorem ty_91 : tyOf Try.prog 91 = some ((1, (8, false))) := by kernel_rfl
@[go_sem] theorem z_91 : zeroT Try.prog 91 = some (.nilFunc) := by kernel_rfl
@[go_sem] theorem td_92 : tdOf Try.prog 92 = (.slice 93 1 24) := by kernel_rfl
@[go_sem] theorem ty_92 : tyOf Try.prog 92 = some ((1, (24, false))) := by kernel_rfl
@[go_sem] theorem z_92 : zeroT Try.prog 92 = some (.nilslice) := by kernel_rfl
@[go_sem] theorem td_93 : tdOf Try.prog 93 = (.slice 4 1 1) := by kernel_rfl
@[go_sem] theorem ty_93 : tyOf Try.prog 93 = some ((1, (24, false))) := by kernel_rfl
@[go_sem] theorem z_93 : zeroT Try.prog 93 = some (.nilslice) := by kernel_rfl
@[go_sem] theorem td_94 : tdOf Try.prog 94 = (.slice 3 1 8) := by kernel_rfl
@[go_sem] theorem ty_94 : tyOf Try.prog 94 = some ((1, (24, false))) := by kernel_rfl
@[go_sem] theorem z_94 : zeroT Try.prog 94 = some (.nilslice) := by kernel_rfl
@[go_sem] theorem td_95 : tdOf Try.prog 95 = .func := by kernel_rfl
@[go_sem] theorem ty_95 : tyOf Try.prog 95 = some ((1, (8, false))) := by kernel_rfl
@[go_sem] theorem z_95 : zeroT Try.prog 95 = some (.nilFunc) := by kernel_rfl
@[go_sem] theorem td_96 : tdOf Try.prog 96 = .func := by kernel_rfl
@[go_sem] theorem ty_96 : tyOf Try.prog 96 = some ((1, (8, false))) := by kernel_rfl
@[go_sem] theorem z_96 : zeroT Try.prog 96 = some (.nilFunc) := by kernel_rfl
@[go_sem] theorem td_97 : tdOf Try.prog 97 = .func := by kernel_rfl
@[go_sem] theorem ty_97 : tyOf Try.prog 97 = some ((1, (8, false))) := by kernel_rfl
@[go_sem] theorem z_97 : zeroT Try.prog 97 = some (.nilFunc) := by kernel_rfl
@[go_sem] theorem td_98 : tdOf Try.prog 98 = .func := by kernel_rfl
@[go_sem] theorem ty_98 : tyOf Try.prog 98 = some ((1, (8, false))) := by kernel_rfl
@[go_sem] theorem z_98 : zeroT Try.prog 98 = some (.nilFunc) := by kernel_rfl
@[go_sem] theorem td_99 : tdOf Try.prog 99 = (.struct [⟨false, 32, 0, 6, true⟩, ⟨false, 29, 6, 1, false⟩, ⟨false, 2, 7, 1, false⟩]) := by kernel_rfl
@[go_sem] theorem ty_99 : tyOf Try.prog 99 = some ((8, (176, true))) := by kernel_rfl
@[go_sem] theorem z_99 : zeroT Try.prog 99 = some ((.agg [.nilslice, .nilslice, .nilslice, .nilslice, .nilslice, .nilslice, .nilslice, (.int .i64 0)])) := by kernel_rfl
@[go_sem] theorem td_100 : tdOf Try.prog 100 = (.struct [⟨false, 32, 0, 6, true⟩, ⟨false, 29, 6, 1, false⟩, ⟨false, 2, 7, 1, false⟩]) := by kernel_rfl
@[go_sem] theorem ty_100 : tyOf Try.prog 100 = some ((8, (176, true))) := by kernel_rfl
@[go_sem] theorem z_100 : zeroT Try.prog 100 = some ((.agg [.nilslice, .nilslice, .nilslice, .nilslice, .nilslice, .nilslice, .nilslice, (.int .i64 0)])) := by kernel_rfl
@[go_sem] theorem td_101 : tdOf Try.prog 101 = .func := by kernel_rfl
@[go_sem] theorem ty_101 : tyOf Try.prog 101 = some ((1, (8, false))) := by kernel_rfl
@[go_sem] theorem z_101 : zeroT Try.prog 101 = some (.nilFunc) := by kernel_rfl
@[go_sem] theorem td_102 : tdOf Try.prog 102 = .ptr := by kernel_rfl
@[go_sem] theorem ty_102 : tyOf Try.prog 102 = some ((1, (8, false))) := by kernel_rfl
@[go_sem] theorem z_102 : zeroT Try.prog 102 = some (.nilptr) := by kernel_rfl
@[go_sem] theorem td_103 : tdOf Try.prog 103 = (.struct [⟨false, 29, 0, 1, false⟩, ⟨false, 29, 1, 1, false⟩, ⟨false, 29, 2, 1, false⟩, ⟨false, 48, 3, 1, false⟩]) := by kernel_rfl
@[go_sem] theorem ty_103 : tyOf Try.prog 103 = some ((4, (96, true))) := by kernel_rfl
@[go_sem] theorem z_103 : zeroT Try.prog 103 = some ((.agg [.nilslice, .nilslice, .nilslice, .nilslice])) := by kernel_rfl
@[go_sem] theorem td_104 : tdOf Try.prog 104 = (.struct [⟨false, 29, 0, 1, false⟩, ⟨false, 29, 1, 1, false⟩, ⟨false, 29, 2, 1, false⟩, ⟨false, 48, 3, 1, false⟩]) := by kernel_rfl
@[go_sem] theorem ty_104 : tyOf Try.prog 104 = some ((4, (96, true))) := by kernel_rfl
@[go_sem] theorem z_104 : zeroT Try.prog 104 = some ((.agg [.nilslice, .nilslice, .nilslice, .nilslice])) := by kernel_rfl
@[go_sem] theorem td_105 : tdOf Try.prog 105 = .func := by kernel_rfl
@[go_sem] theorem ty_105 : tyOf Try.prog 105 = some ((1, (8, false))) := by kernel_rfl
@[go_sem] theorem z_105 : zeroT Try.prog 105 = some (.nilFunc) := by kernel_rfl
@[go_sem] theorem td_106 : tdOf Try.prog 106 = .ptr := by kernel_rfl
@[go_sem] theorem ty_106 : tyOf Try.prog 106 = some ((1, (8, false))) := by kernel_rfl
@[go_sem] theorem z_106 : zeroT Try.prog 106 = some (.nilptr) := by kernel_rfl
@[go_sem] theorem td_107 : tdOf Try.prog 107 = .func := by kernel_rfl
@[go_sem] theorem ty_107 : tyOf Try.prog 107 = some ((1, (8, false))) := by kernel_rfl
@[go_sem] theorem z_107 : zeroT Try.prog 107 = some (.nilFunc) := by kernel_rfl
@[go_sem] theorem td_108 : tdOf Try.prog 108 = (.int .u64) := by kernel_rfl
@[go_sem] theorem ty_108 : tyOf Try.prog 108 = some ((1, (8, false))) := by kernel_rfl
@[go_sem] theorem z_108 : zeroT Try.prog 108 = some ((.int .u64 0)) := by kernel_rfl
@[go_sem] theorem td_109 : tdOf Try.prog 109 = .func := by kernel_rfl
@[go_sem] theorem ty_109 : tyOf Try.prog 109 = some ((1, (8, false))) := by kernel_rfl
@[go_sem] theorem z_109 : zeroT Try.prog 109 = some (.nilFunc) := by kernel_rfl
@[go_sem] theorem td_110 : tdOf Try.prog 110 = .func := by kernel_rfl
@[go_sem] theorem ty_110 : tyOf Try.prog 110 = some ((1, (8, false))) := by kernel_rfl
@[go_sem] theorem z_110 : zeroT Try.prog 110 = some (.nilFunc) := by kernel_rfl
@[go_sem] theorem td_111 : tdOf Try.prog 111 = .func := by kernel_rfl
@[go_sem] theorem ty_111 : tyOf Try.prog 111 = some ((1, (8, false))) := by kernel_rfl
@[go_sem] theorem z_111 : zeroT Try.prog 111 = some (.nilFunc) := by kernel_rfl
@[go_sem] theorem td_112 : tdOf Try.prog 112 = .func := by kernel_rfl
@[go_sem] theorem ty_112 : tyOf Try.prog 112 = some ((1, (8, false))) := by kernel_rfl
@[go_sem] theorem z_112 : zeroT Try.prog 112 = some (.nilFunc) := by kernel_rfl
@[go_sem] theorem td_113 : tdOf Try.prog 113 = .func := by kernel_rfl
@[go_sem] theorem ty_113 : tyOf Try.prog 113 = some ((1, (8, false))) := by kernel_rfl
@[go_sem] theorem z_113 : zeroT Try.prog 113 = some (.nilFunc) := by kernel_rfl
@[go_sem] theorem td_114 : tdOf Try.prog 114 = .func := by kernel_rfl
@[go_sem] theorem ty_114 : tyOf Try.prog 114 = some ((1, (8, false))) := by kernel_rfl
@[go_sem] theorem z_114 : zeroT Try.prog 114 = some (.nilFunc) := by kernel_rfl
@[go_sem] theorem td_115 : tdOf Try.prog 115 = .func := by kernel_rfl
@[go_sem] theorem ty_115 : tyOf Try.prog 115 = some ((1, (8, false))) := by kernel_rfl
@[go_sem] theorem z_115 : zeroT Try.prog 115 = some (.nilFunc) := by kernel_rfl
@[go_sem] theorem td_116 : tdOf Try.prog 116 = (.int .u32) := by kernel_rfl
@[go_sem] theorem ty_116 : tyOf Try.prog 116 = some ((1, (4, false))) := by kernel_rfl
@[go_sem] theorem z_116 : zeroT Try.prog 116 = some ((.int .u32 0)) := by kernel_rfl
@[go_sem] theorem td_117 : tdOf Try.prog 117 = (.array 8 116 1 false) := by kernel_rfl
@[go_sem] theorem ty_117 : tyOf Try.prog 117 = some ((8, (32, true))) := by kernel_rfl
@[go_sem] theorem z_117 : zeroT Try.prog 117 = some ((.agg [(.int .u32 0), (.int .u32 0), (.int .u32 0), (.int .u32 0), (.int .u32 0), (.int .u32 0), (.int .u32 0), (.int .u32 0)])) := by kernel_rfl
@[go_sem] theorem td_118 : tdOf Try.prog 118 = (.array 64 116 1 false) := by kernel_rfl
@[go_sem] theorem ty_118 : tyOf Try.prog 118 = some ((64, (256, true))) := by kernel_rfl
@[go_sem] theorem z_118 : zeroT Try.prog 118 = some ((.agg (List.replicate 64 (.int .u32 0)))) := by kernel_rfl
@[go_sem] theorem td_119 : tdOf Try.prog 119 = .func := by kernel_rfl
@[go_sem] theorem ty_119 : tyOf Try.prog 119 = some ((1, (8, false))) := by kernel_rfl
@[go_sem] theorem z_119 : zeroT Try.prog 119 = some (.nilFunc) := by kernel_rfl
@[go_sem] theorem td_120 : tdOf Try.prog 120 = (.int .u64) := by kernel_rfl
@[go_sem] theorem ty_120 : tyOf Try.prog 120 = some ((1, (8, false))) := by kernel_rfl
@[go_sem] theorem z_120 : zeroT Try.prog 120 = some ((.int .u64 0)) := by kernel_rfl
@[go_sem] theorem td_121 : tdOf Try.prog 121 = .func := by kernel_rfl
@[go_sem] theorem ty_121 : tyOf Try.prog 121 = some ((1, (8, false))) := by kernel_rfl
@[go_sem] theorem z_121 : zeroT Try.prog 121 = some (.nilFunc) := by kernel_rfl
@[go_sem] theorem td_122 : tdOf Try.prog 122 = .ptr := by kernel_rfl
@[go_sem] theorem ty_122 : tyOf Try.prog 122 = some ((1, (8, false))) := by kernel_rfl
@[go_sem] theorem z_122 : zeroT Try.prog 122 = some (.nilptr) := by kernel_rfl
@[go_sem] theorem td_123 : tdOf Try.prog 123 = (.struct [⟨false, 52, 0, 1, false⟩, ⟨false, 4, 1, 1, false⟩]) := by kernel_rfl
@[go_sem] theorem ty_123 : tyOf Try.prog 123 = some ((2, (32, true))) := by kernel_rfl
@[go_sem] theorem z_123 : zeroT Try.prog 123 = some ((.agg [.nilslice, (.bool false)])) := by kernel_rfl
@[go_sem] theorem td_124 : tdOf Try.prog 124 = (.struct [⟨false, 52, 0, 1, false⟩, ⟨false, 4, 1, 1, false⟩]) := by kernel_rfl
@[go_sem] theorem ty_124 : tyOf Try.prog 124 = some ((2, (32, true))) := by kernel_rfl
@[go_sem] theorem z_124 : zeroT Try.prog 124 = some ((.agg [.nilslice, (.bool false)])) := by kernel_rfl
@[go_sem] theorem td_125 : tdOf Try.prog 125 = .func := by kernel_rfl
@[go_sem] theorem ty_125 : tyOf Try.prog 125 = some ((1, (8, false))) := by kernel_rfl
@[go_sem] theorem z_125 : zeroT Try.prog 125 = some (.nilFunc) := by kernel_rfl
@[go_sem] theorem td_126 : tdOf Try.prog 126 = .func := by kernel_rfl
@[go_sem] theorem ty_126 : tyOf Try.prog 126 = some ((1, (8, false))) := by kernel_rfl
@[go_sem] theorem z_126 : zeroT Try.prog 126 = some (.nilFunc) := by kernel_rfl
@[go_sem] theorem td_127 : tdOf Try.prog 127 = (.slice 24 1 24) := by kernel_rfl
@[go_sem] theorem ty_127 : tyOf Try.prog 127 = some ((1, (24, false))) := by kernel_rfl
@[go_sem] theorem z_127 : zeroT Try.prog 127 = some (.nilslice) := by kernel_rfl
@[go_sem] theorem td_128 : tdOf Try.prog 128 = .func := by kernel_rfl
@[go_sem] theorem ty_128 : tyOf Try.prog 128 = some ((1, (8, false))) := by kernel_rfl
@[go_sem] theorem z_128 : zeroT Try.prog 128 = some (.nilFunc) := by kernel_rfl
@[go_sem] theorem td_129 : tdOf Try.prog 129 = .func := by kernel_rfl
@[go_sem] theorem ty_129 : tyOf Try.prog 129 = some ((1, (8, false))) := by kernel_rfl
@[go_sem] theorem z_129 : zeroT Try.prog 129 = some (.nilFunc) := by kernel_rfl
@[go_sem] theorem td_130 : tdOf Try.prog 130 = .func := by kernel_rfl
@[go_sem] theorem ty_130 : tyOf Try.prog 130 = some ((1, (8, false))) := by kernel_rfl
@[go_sem] theorem z_130 : zeroT Try.prog 130 = some (.nilFunc) := by kernel_rfl
@[go_sem] theorem td_131 : tdOf Try.prog 131 = .func := by kernel_rfl
@[go_sem] theorem ty_131 : tyOf Try.prog 131 = some ((1, (8, false))) := by kernel_rfl
@[go_sem] theorem z_131 : zeroT Try.prog 131 = some (.nilFunc) := by kernel_rfl
@[go_sem] theorem td_132 : tdOf Try.prog 132 = .func := by kernel_rfl
@[go_sem] theorem ty_132 : tyOf Try.prog 132 = some ((1, (8, false))) := by kernel_rfl
@[go_sem] theorem z_132 : zeroT Try.prog 132 = some (.nilFunc) := by kernel_rfl
@[go_sem] theorem td_133 : tdOf Try.prog 133 = .func := by kernel_rfl
@[go_sem] theorem ty_133 : tyOf Try.prog 133 = some ((1, (8, false))) := by kernel_rfl
@[go_sem] theorem z_133 : zeroT Try.prog 133 = some (.nilFunc) := by kernel_rfl
@[go_sem] theorem td_134 : tdOf Try.prog 134 = .func := by kernel_rfl
@[go_sem] theorem ty_134 : tyOf Try.prog 134 = some ((1, (8, false))) := by kernel_rfl
@[go_sem] theorem z_134 : zeroT Try.prog 134 = some (.nilFunc) := by kernel_rfl
@[go_sem] theorem td_135 : tdOf Try.prog 135 = .func := by kernel_rfl
@[go_sem] theorem ty_135 : tyOf Try.prog 135 = some ((1, (8, false))) := by kernel_rfl
@[go_sem] theorem z_135 : zeroT Try.prog 135 = some (.nilFunc) := by kernel_rfl
@[go_sem] theorem td_136 : tdOf Try.prog 136 = (.slice 86 3 56) := by kernel_rfl
@[go_sem] theorem ty_136 : tyOf Try.prog 136 = some ((1, (24, false))) := by kernel_rfl
@[go_sem] theorem z_136 : zeroT Try.prog 136 = some (.nilslice) := by kernel_rfl
@[go_sem] theorem td_137 : tdOf Try.prog 137 = .func := by kernel_rfl
@[go_sem] theorem ty_137 : tyOf Try.prog 137 = some ((1, (8, false))) := by kernel_rfl
@[go_sem] theorem z_137 : zeroT Try.prog 137 = some (.nilFunc) := by kernel_rfl
@[go_sem] theorem td_138 : tdOf Try.prog 138 = .func := by kernel_rfl
@[go_sem] theorem ty_138 : tyOf Try.prog 138 = some ((1, (8, false))) := by kernel_rfl
@[go_sem] theorem z_138 : zeroT Try.prog 138 = some (.nilFunc) := by kernel_rfl
@[go_sem] theorem td_139 : tdOf Try.prog 139 = .func := by kernel_rfl
@[go_sem] theorem ty_139 : tyOf Try.prog 139 = some ((1, (8, false))) := by kernel_rfl
@[go_sem] theorem z_139 : zeroT Try.prog 139 = some (.nilFunc) := by kernel_rfl
def pl3 : Plans := fun i => match i with | _ => []
@[go_sem] theorem rs3 : Try.f3.results.toList = [(.tmp 0)] := rfl
theorem ok3 : fnOk Try.prog pl3 Try.f3 = true := by kernel_rfl
def pl4 : Plans := fun i => match i with | _ => []
@[go_sem] theorem rs4 : Try.f4.results.toList = [(.tmp 2)] := rfl
theorem ok4 : fnOk Try.prog pl4 Try.f4 = true := by kernel_rfl
def pl5 : Plans := fun i => match i with | _ => []
@[go_sem] theorem rs5 : Try.f5.results.toList = [(.tmp 6)] := rfl
theorem ok5 : fnOk Try.prog pl5 Try.f5 = true := by kernel_rfl
def pl6 : Plans := fun i => match i with | 5 => [.pure, .eff, .pure, .eff, .pure, .eff, .pure, .alloc, .alloc, .pure, .alloc, .eff] | _ => []
@[go_sem] theorem rs6 : Try.f6.results.toList = [(.tmp 6)] := rfl
theorem ok6 : fnOk Try.prog pl6 Try.f6 = true := by kernel_rfl
def pl7 : Plans := fun i => match i with | _ => []
@[go_sem] theorem rs7 : Try.f7.results.toList = [(.tmp 8)] := rfl
theorem ok7 : fnOk Try.prog pl7 Try.f7 = true := by kernel_rfl
def pl8 : Plans := fun i => match i with | _ => []
@[go_sem] theorem rs8 : Try.f8.results.toList = [(.tmp 0)] := rfl
theorem ok8 : fnOk Try.prog pl8 Try.f8 = true := by kernel_rfl
def pl9 : Plans := fun i => match i with | 17 => [.pure, .pure, .pure, .pure, .pure, .pure, .pure, .pure, .pure, .pure, .pure, .pure, .pure, .pure, .pure, .eff, .pure, .pure, .pure, .pure, .eff, (.read 2 3), .pure, .eff, .pure, .pure, .pure, .pure, .pure, .eff, .pure, .pure, .pure, (.read 3 4), .pure, .pure] | _ => []
@[go_sem] theorem rs9 : Try.f9.results.toList = [(.tmp 4)] := rfl
theorem ok9 : fnOk Try.prog pl9 Try.f9 = true := by kernel_rfl
def pl10 : Plans := fun i => match i with | 12 => [.pure, .pure, .pure, .pure, .pure, .pure, .pure, .pure, .pure, .pure, .pure, .pure, .pure, .pure, .eff, (.read 1 2), .pure, .eff, .pure, .pure, .pure] | 22 => [.pure, .eff, (.read 1 2), .pure, .eff, .pure, .pure, .pure, .pure, .pure, .pure, .eff, .pure, .pure, (.read 2 3), .pure, .pure, .pure] | 25 => [.pure, .eff, (.read 1 3), (.read 0 1), .eff, .eff, .pure, .pure, .pure] | _ => []
@[go_sem] theorem rs10 : Try.f10.results.toList = [(.tmp 6)] := rfl
theorem ok10 : fnOk Try.prog pl10 Try.f10 = true := by kernel_rfl
def pl11 : Plans := fun i => match i with | 16 => [.pure, .pure, .pure, .pure, .pure, .pure, .pure, .pure, .pure, .pure, (.read 0 1), .pure, .pure, .pure, .alloc, .eff, .pure, .pure, .pure] | _ => []
@[go_sem] theorem rs11 : Try.f11.results.toList = [(.tmp 6)] := rfl
theorem ok11 : fnOk Try.prog pl11 Try.f11 = true := by kernel_rfl
def pl12 : Plans := fun i => match i with | 23 => [.pure, .eff, .pure, .pure, .pure, .pure, .pure, .eff, (.read 2 3), .pure, .eff, .pure, .pure, .pure] | 27 => [.pure, .eff, (.read 1 2), .pure, .eff, .pure, .pure, .pure, .pure, .eff, .pure, .pure, .pure] | _ => []
@[go_sem] theorem rs12 : Try.f12.results.toList = [(.tmp 6)] := rfl
theorem ok12 : fnOk Try.prog pl12 Try.f12 = true := by kernel_rfl
def pl13 : Plans := fun i => match i with | 22 => [.pure, .pure, .pure, .pure, .pure, .pure, .pure, .pure, .pure, .eff, (.read 0 1), .pure, .pure, .pure, .pure, .eff, .pure, .pure, .pure, .pure] | _ => []
@[go_sem] theorem rs13 : Try.f13.results.toList = [(.tmp 6)] := rfl
theorem ok13 : fnOk Try.prog pl13 Try.f13 = true := by kernel_rfl
def pl14 : Plans := fun i => match i with | 21 => [.pure, .eff, (.read 1 2), .pure, .eff, .pure, .pure, .pure, .pure, .pure, .pure, .pure, .pure, .pure, .eff, .pure, .eff, .pure, .pure, .pure, .pure] | _ => []
@[go_sem] theorem rs14 : Try.f14.results.toList = [(.tmp 4)] := rfl
theorem ok14 : fnOk Try.prog pl14 Try.f14 = true := by kernel_rfl
def pl15 : Plans := fun i => match i with | _ => []
@[go_sem] theorem rs15 : Try.f15.results.toList = [(.tmp 2)] := rfl
theorem ok15 : fnOk Try.prog pl15 Try.f15 = true := by kernel_rfl
def pl16 : Plans := fun i => match i with | _ => []
@[go_sem] theorem rs16 : Try.f16.results.toList = [(.tmp 0)] := rfl
theorem ok16 : fnOk Try.prog pl16 Try.f16 = true := by kernel_rfl
def pl17 : Plans := fun i => match i with | _ => []
@[go_sem] theorem rs17 : Try.f17.results.toList = [(.cell 2 26), (.tmp 3)] := rfl
theorem ok17 : fnOk Try.prog pl17 Try.f17 = true := by kernel_rfl
def pl18 : Plans := fun i => match i with | _ => []
@[go_sem] theorem rs18 : Try.f18.results.toList = [(.tmp 2)] := rfl
theorem ok18 : fnOk Try.prog pl18 Try.f18 = true := by kernel_rfl
def pl19 : Plans := fun i => match i with | 3 => [.alloc, .pure, (.read 0 0), .eff, .pure, (.read 0 1), .eff, .pure, (.read 0 2), .eff, .pure, (.read 0 3), .eff, .pure] | 18 => [.pure, .pure, .pure, .pure, .pure, .pure, .eff, .pure] | 31 => [.pure, .pure, .pure, .pure, .pure, .pure, .pure, .pure, .pure, .pure, .pure] | 42 => [.pure, .pure, (.read 0 1), .pure, .pure, .pure, .pure, .pure, .pure, .eff, .pure, .eff] | 46 => [.pure, .pure, .pure, .pure, .pure, .pure, .pure, .pure, .pure, .pure, .pure, .pure] | _ => []
@[go_sem] theorem rs19 : Try.f19.results.toList = [(.tmp 2), (.tmp 3)] := rfl
theorem ok19 : fnOk Try.prog pl19 Try.f19 = true := by kernel_rfl
def pl20 : Plans := fun i => match i with | _ => []
@[go_sem] theorem rs20 : Try.f20.results.toList = [(.cell 2 34)] := rfl
theorem ok20 : fnOk Try.prog pl20 Try.f20 = true := by kernel_rfl
def pl21 : Plans := fun i => match i with | _ => []
@[go_sem] theorem rs21 : Try.f21.results.toList = [(.tmp 2)] := rfl
theorem ok21 : fnOk Try.prog pl21 Try.f21 = true := by kernel_rfl
def pl22 : Plans := fun i => match i with | _ => []
@[go_sem] theorem rs22 : Try.f22.results.toList = [(.tmp 0)] := rfl
theorem ok22 : fnOk Try.prog pl22 Try.f22 = true := by kernel_rfl
def pl23 : Plans := fun i => match i with | _ => []
@[go_sem] theorem rs23 : Try.f23.results.toList = [(.tmp 2), (.tmp 3)] := rfl
theorem ok23 : fnOk Try.prog pl23 Try.f23 = true := by kernel_rfl
def pl24 : Plans := fun i => match i with | 2 => [.pure, .pure, .pure, .pure, .pure, .pure, .pure, .pure, .pure, .pure, .pure, .alloc, .pure, .eff] | _ => []
@[go_sem] theorem rs24 : Try.f24.results.toList = [(.cell 0 32)] := rfl
theorem ok24 : fnOk Try.prog pl24 Try.f24 = true := by kernel_rfl
def pl25 : Plans := fun i => match i with | 3 => [.pure, .pure, .pure, .pure, .pure, .pure, .alloc, .pure, .pure, .pure, .pure, (.read 0 0), (.read 0 0), .alloc, .pure, .pure, .pure, (.read 0 0), .pure, .pure, .alloc, .pure] | _ => []
@[go_sem] theorem rs25 : Try.f25.results.toList = [(.tmp 4), (.tmp 5)] := rfl
theorem ok25 : fnOk Try.prog pl25 Try.f25 = true := by kernel_rfl
def pl26 : Plans := fun i => match i with | _ => []
@[go_sem] theorem rs26 : Try.f26.results.toList = [(.tmp 4)] := rfl
theorem ok26 : fnOk Try.prog pl26 Try.f26 = true := by kernel_rfl
def pl27 : Plans := fun i => match i with | _ => []
@[go_sem] theorem rs27 : Try.f27.results.toList = [] := rfl
theorem ok27 : fnOk Try.prog pl27 Try.f27 = true := by kernel_rfl
def pl28 : Plans := fun i => match i with | _ => []
@[go_sem] theorem rs28 : Try.f28.results.toList = [(.tmp 2)] := rfl
theorem ok28 : fnOk Try.prog pl28 Try.f28 = true := by kernel_rfl
def pl29 : Plans := fun i => match i with | _ => []
@[go_sem] theorem rs29 : Try.f29.results.toList = [(.tmp 2)] := rfl
theorem ok29 : fnOk Try.prog pl29 Try.f29 = true := by kernel_rfl
def pl30 : Plans := fun i => match i with | _ => []
@[go_sem] theorem rs30 : Try.f30.results.toList = [(.tmp 2)] := rfl
theorem ok30 : fnOk Try.prog pl30 Try.f30 = true := by kernel_rfl
def pl31 : Plans := fun i => match i with | _ => []
@[go_sem] theorem rs31 : Try.f31.results.toList = [(.tmp 2)] := rfl
theorem ok31 : fnOk Try.prog pl31 Try.f31 = true := by kernel_rfl
def pl32 : Plans := fun i => match i with | 1 => [.pure, .pure, .pure, .pure, .alloc, .pure, .alloc, .pure] | _ => []
@[go_sem] theorem rs32 : Try.f32.results.toList = [(.tmp 2)] := rfl
theorem ok32 : fnOk Try.prog pl32 Try.f32 = true := by kernel_rfl
def pl33 : Plans := fun i => match i with | 11 => [.pure, .pure, .pure, .pure, .pure, .pure, .pure, .pure, .pure, .pure, .pure, .pure, .pure, .eff] | 13 => [.pure, .pure, .pure, .pure, .pure, .pure, .pure, .pure, .pure, .eff] | 15 => [.pure, .pure, .pure, .pure, .pure, .pure, .pure, .pure, .pure, .pure, .pure, .pure, .eff] | 17 => [.pure, .pure, .pure, .pure, .pure, .pure, .pure, .pure, .pure, .pure, .pure, .pure, .eff] | 19 => [.pure, .pure, .pure, .pure, .pure, .pure, .pure, .pure, .pure, .eff] | 21 => [.pure, .pure, .pure, .pure, .pure, .pure, .pure, .pure, .pure, .eff] | 23 => [.pure, .pure, (.read 0 2), .pure, .eff, .pure, .pure, (.read 0 1), .pure, (.read 0 1), .alloc, .eff, .pure, .eff] | 25 => [.pure, .pure, (.read 0 2), .pure, .eff, .pure, .pure, (.read 0 1), .pure, (.read 0 1), .pure, .pure, (.read 0 1), .pure, (.read 0 1), .alloc, .eff, .pure, .eff] | _ => []
@[go_sem] theorem rs33 : Try.f33.results.toList = [(.tmp 4), (.tmp 5)] := rfl
theorem ok33 : fnOk Try.prog pl33 Try.f33 = true := by kernel_rfl
def pl34 : Plans := fun i => match i with | 6 => [.pure, .pure, .pure, .pure, .pure, .pure, .pure, .pure, .pure] | _ => []
@[go_sem] theorem rs34 : Try.f34.results.toList = [(.tmp 4)] := rfl
theorem ok34 : fnOk Try.prog pl34 Try.f34 = true := by kernel_rfl
def pl35 : Plans := fun i => match i with | _ => []
@[go_sem] theorem rs35 : Try.f35.results.toList = [(.tmp 2)] := rfl
theorem ok35 : fnOk Try.prog pl35 Try.f35 = true := by kernel_rfl
def pl36 : Plans := fun i => match i with | _ => []
@[go_sem] theorem rs36 : Try.f36.results.toList = [(.cell 2 64)] := rfl
theorem ok36 : fnOk Try.prog pl36 Try.f36 = true := by kernel_rfl
def pl37 : Plans := fun i => match i with | 22 => [.pure, .pure, .pure, .pure, .pure, .pure, .pure, .eff, .eff] | _ => []
@[go_sem] theorem rs37 : Try.f37.results.toList = [(.cell 2 64)] := rfl
theorem ok37 : fnOk Try.prog pl37 Try.f37 = true := by kernel_rfl
def pl38 : Plans := fun i => match i with | _ => []
@[go_sem] theorem rs38 : Try.f38.results.toList = [(.tmp 4)] := rfl
theorem ok38 : fnOk Try.prog pl38 Try.f38 = true := by kernel_rfl
def pl39 : Plans := fun i => match i with | 1 => [.pure, .pure, .pure, (.read 0 1), .pure, .pure, .pure, .pure, .eff, .pure, .pure, .pure, (.read 0 1), .pure, .alloc, .pure] | _ => []
@[go_sem] theorem rs39 : Try.f39.results.toList = [(.tmp 2)] := rfl
theorem ok39 : fnOk Try.prog pl39 Try.f39 = true := by kernel_rfl
def pl40 : Plans := fun i => match i with | 10 => [.pure, .pure, .pure, .pure, .pure, .pure, .pure, .pure] | _ => []
@[go_sem] theorem rs40 : Try.f40.results.toList = [(.tmp 4)] := rfl
theorem ok40 : fnOk Try.prog pl40 Try.f40 = true := by kernel_rfl
def pl41 : Plans := fun i => match i with | _ => []
@[go_sem] theorem rs41 : Try.f41.results.toList = [(.tmp 2)] := rfl
theorem ok41 : fnOk Try.prog pl41 Try.f41 = true := by kernel_rfl
def pl42 : Plans := fun i => match i with | _ => []
@[go_sem] theorem rs42 : Try.f42.results.toList = [(.tmp 6)] := rfl
theorem ok42 : fnOk Try.prog pl42 Try.f42 = true := by kernel_rfl
def pl43 : Plans := fun i => match i with | 7 => [.pure, .pure, .pure, .pure, .pure, .pure, .pure, .pure, .pure, .pure, .pure, .pure, .pure, .pure] | 9 => [.pure, .pure, .pure, .pure, .pure, .pure, .pure, .pure, .pure, .pure, .pure, .pure, .pure, .pure] | 11 => [.pure, .pure, .pure, .pure, .pure, .pure, .pure, .pure, .pure, .pure, .pure, .pure, .pure, .pure] | 13 => [.pure, .pure, .pure, .pure, .pure, .pure, .pure, .pure, .pure, .pure, .pure, .pure, .pure, .pure] | 15 => [.pure, .pure, .pure, .pure, .pure, .pure, .pure, .pure, .pure, .pure, .pure, .pure, .pure, .pure] | 27 => [.pure, .pure, .pure, .alloc, .eff, .pure, .pure, (.read 1 1), .pure, (.read 1 1), .pure, (.read 1 1), .pure, (.read 1 1), .pure, (.read 1 1), .pure, (.read 1 1), .pure, .pure, .pure] | _ => []
@[go_sem] theorem rs43 : Try.f43.results.toList = [(.tmp 4)] := rfl
theorem ok43 : fnOk Try.prog pl43 Try.f43 = true := by kernel_rfl
def pl44 : Plans := fun i => match i with | 3 => [.pure, .pure, .pure, .pure, .pure, .pure, .pure, .pure, .eff, .pure, .pure, .pure, .pure, (.read 0 1), (.read 0 1), .eff, .pure, .eff] | 13 => [.pure, .pure, .pure, .pure, .pure, .eff] | 15 => [.pure, .pure, .pure, .pure, .pure, .eff] | 18 => [.pure, .pure, .pure, .pure, .pure, .eff] | _ => []
@[go_sem] theorem rs44 : Try.f44.results.toList = [(.tmp 2), (.cell 3 86)] := rfl
theorem ok44 : fnOk Try.prog pl44 Try.f44 = true := by kernel_rfl
def pl45 : Plans := fun i => match i with | _ => []
@[go_sem] theorem rs45 : Try.f45.results.toList = [(.tmp 4)] := rfl
theorem ok45 : fnOk Try.prog pl45 Try.f45 = true := by kernel_rfl
def pl46 : Plans := fun i => match i with | 8 => [.pure, .pure, .pure, .pure, .pure, .pure, .pure, .eff, .pure] | _ => []
@[go_sem] theorem rs46 : Try.f46.results.toList = [(.tmp 4)] := rfl
theorem ok46 : fnOk Try.prog pl46 Try.f46 = true := by kernel_rfl
def pl47 : Plans := fun i => match i with | 6 => [.pure, .pure, .pure, .pure, .pure, .pure, .pure, .pure, .pure, .pure, .pure, .pure] | 8 => [.pure, .pure, .pure, .pure, .pure, .pure, .pure, .pure, .pure, .pure, .pure, .pure, .pure] | 10 => [.pure, .pure, .pure, .pure, .pure, .pure, .pure, .pure, .pure, .pure, .pure, .pure, .pure] | 12 => [.pure, .pure, .pure, .pure, .pure, .pure, .pure, .pure, .pure, .pure, .pure, .pure, .pure] | 14 => [.pure, .pure, .pure, .pure, .pure, .pure, .pure, .pure, .pure, .pure, .pure, .pure, .pure] | 22 => [.pure, .pure, .pure, .pure, .pure, .pure, .pure, .pure, .pure, .pure, .pure, .pure, .pure, .pure, .pure, .pure, .pure, .pure, .pure, .pure] | _ => []
@[go_sem] theorem rs47 : Try.f47.results.toList = [(.tmp 4)] := rfl
theorem ok47 : fnOk Try.prog pl47 Try.f47 = true := by kernel_rfl
def pl48 : Plans := fun i => match i with | _ => []
@[go_sem] theorem rs48 : Try.f48.results.toList = [(.tmp 2)] := rfl
theorem ok48 : fnOk Try.prog pl48 Try.f48 = true := by kernel_rfl
def pl49 : Plans := fun i => match i with | _ => []
@[go_sem] theorem rs49 : Try.f49.results.toList = [(.tmp 2)] := rfl
theorem ok49 : fnOk Try.prog pl49 Try.f49 = true := by kernel_rfl
def pl50 : Plans := fun i => match i with | _ => []
@[go_sem] theorem rs50 : Try.f50.results.toList = [(.tmp 4)] := rfl
theorem ok50 : fnOk Try.prog pl50 Try.f50 = true := by kernel_rfl
def pl51 : Plans := fun i => match i with | 1 => [.pure, .pure, .eff, .pure, (.read 0 1), .eff, .pure, (.read 0 2), .eff, .pure, (.read 0 3), .eff, .pure, (.read 0 4), .eff, .pure, (.read 0 5), .eff, .pure, .eff] | _ => []
@[go_sem] theorem rs51 : Try.f51.results.toList = [(.cell 2 32)] := rfl
theorem ok51 : fnOk Try.prog pl51 Try.f51 = true := by kernel_rfl
def pl52 : Plans := fun i => match i with | _ => []
@[go_sem] theorem rs52 : Try.f52.results.toList = [(.tmp 4)] := rfl
theorem ok52 : fnOk Try.prog pl52 Try.f52 = true := by kernel_rfl
def pl53 : Plans := fun i => match i with | 5 => [.pure, .pure, .pure, .pure, .pure, .pure, .pure, .pure, .pure, .pure, .pure, .pure, .pure, .eff] | 7 => [.pure, .pure, .pure, .pure, .pure, .pure, .pure, .pure, .pure, .pure, .pure, .pure, .pure, .pure, .pure, .eff] | 9 => [.pure, .pure, .pure, .pure, .pure, .pure, .pure, .pure, .pure, .pure, .pure, .pure, .pure, .pure, .pure, .eff] | 11 => [.pure, .pure, .pure, .pure, .pure, .pure, .pure, .pure, .pure, .pure, .pure, .pure, .pure, .pure, .pure, .eff] | 13 => [.pure, .pure, .pure, .pure, .pure, .pure, .pure, .pure, .pure, .pure, .pure, .pure, .pure, .pure, .pure, .eff] | 15 => [.pure, .pure, .pure, .pure, .pure, .pure, .pure, .pure, .pure, .pure, .pure, .pure, .pure, .pure, .pure, .eff] | 17 => [.pure, .pure, .pure, .pure, .pure, .pure, .pure, .pure, .pure, .pure, .pure, .pure, .pure, .pure, .pure, .pure, .eff] | 19 => [.pure, .pure, .pure, .pure, .pure, .pure, .pure, .pure, .pure, .pure, .pure, .pure, .pure, .pure, .pure, .pure, .eff] | 21 => [.pure, .pure, .pure, .pure, .pure, .pure, .pure, .pure, .pure] | 3 => [.pure, .pure, .pure, (.read 0 1), .pure, (.read 0 1), .pure, .pure, .pure, .pure, .pure, .pure, .pure, .pure, .pure, .pure, .pure, .pure, .pure, .pure, .pure, .pure, .pure, .pure, .eff, .pure, .eff] | _ => []
@[go_sem] theorem rs53 : Try.f53.results.toList = [(.tmp 6)] := rfl
theorem ok53 : fnOk Try.prog pl53 Try.f53 = true := by kernel_rfl
def pl54 : Plans := fun i => match i with | _ => []
@[go_sem] theorem rs54 : Try.f54.results.toList = [(.tmp 2)] := rfl
theorem ok54 : fnOk Try.prog pl54 Try.f54 = true := by kernel_rfl
def pl55 : Plans := fun i => match i with | _ => []
@[go_sem] theorem rs55 : Try.f55.results.toList = [(.tmp 2)] := rfl
theorem ok55 : fnOk Try.prog pl55 Try.f55 = true := by kernel_rfl
def pl56 : Plans := fun i => match i with | _ => []
@[go_sem] theorem rs56 : Try.f56.results.toList = [(.tmp 2)] := rfl
theorem ok56 : fnOk Try.prog pl56 Try.f56 = true := by kernel_rfl
def pl57 : Plans := fun i => match i with | _ => []
@[go_sem] theorem rs57 : Try.f57.results.toList = [(.tmp 2)] := rfl
theorem ok57 : fnOk Try.prog pl57 Try.f57 = true := by kernel_rfl
def pl58 : Plans := fun i => match i with | _ => []
@[go_sem] theorem rs58 : Try.f58.results.toList = [(.tmp 2)] := rfl
theorem ok58 : fnOk Try.prog pl58 Try.f58 = true := by kernel_rfl
def pl59 : Plans := fun i => match i with | _ => []
@[go_sem] theorem rs59 : Try.f59.results.toList = [(.tmp 4)] := rfl
theorem ok59 : fnOk Try.prog pl59 Try.f59 = true := by kernel_rfl
def pl60 : Plans := fun i => match i with | _ => []
@[go_sem] theorem rs60 : Try.f60.results.toList = [(.tmp 4)] := rfl
theorem ok60 : fnOk Try.prog pl60 Try.f60 = true := by kernel_rfl
def pl61 : Plans := fun i => match i with | _ => []
@[go_sem] theorem rs61 : Try.f61.results.toList = [(.tmp 4)] := rfl
theorem ok61 : fnOk Try.prog pl61 Try.f61 = true := by kernel_rfl
def pl62 : Plans := fun i => match i with | _ => []
@[go_sem] theorem rs62 : Try.f62.results.toList = [(.tmp 2)] := rfl
theorem ok62 : fnOk Try.prog pl62 Try.f62 = true := by kernel_rfl
def pl63 : Plans := fun i => match i with | _ => []
@[go_sem] theorem rs63 : Try.f63.results.toList = [(.tmp 4)] := rfl
theorem ok63 : fnOk Try.prog pl63 Try.f63 = true := by kernel_rfl
def pl64 : Plans := fun i => match i with | _ => []
@[go_sem] theorem rs64 : Try.f64.results.toList = [(.tmp 4)] := rfl
theorem ok64 : fnOk Try.prog pl64 Try.f64 = true := by kernel_rfl
def pl65 : Plans := fun i => match i with | _ => []
@[go_sem] theorem rs65 : Try.f65.results.toList = [(.cell 2 64)] := rfl
theorem ok65 : fnOk Try.prog pl65 Try.f65 = true := by kernel_rfl
def pl66 : Plans := fun i => match i with | _ => []
@[go_sem] theorem rs66 : Try.f66.results.toList = [(.tmp 2)] := rfl
theorem ok66 : fnOk Try.prog pl66 Try.f66 = true := by kernel_rfl
def pl67 : Plans := fun i => match i with | _ => []
@[go_sem] theorem rs67 : Try.f67.results.toList = [(.tmp 4)] := rfl
theorem ok67 : fnOk Try.prog pl67 Try.f67 = true := by kernel_rfl
def pl68 : Plans := fun i => match i with | 6 => [.pure, .pure, .pure, .pure, .pure, .pure, .pure, .pure, .pure, .pure, .pure, .pure, .pure, .pure, .pure, .pure, .pure, .pure, .pure, .pure, .pure, .pure, .pure, .pure, .pure, .pure, .pure, .pure, .pure, .pure, .pure, .pure, .pure, .pure, .pure, .eff] | 7 => [.pure, .pure, .pure, .pure, .pure, .pure, .pure, .pure, .pure, .pure] | 8 => [.pure, .pure, .pure, .pure, (.read 0 4), .pure, .eff, .pure, .eff, .pure, .pure, .pure, .pure, .pure, .pure, .pure, .pure, (.read 0 4), .pure, .pure, .eff, .pure, .eff, .pure, .pure, .pure, .pure, .pure, .pure, .eff] | 13 => [.pure, .pure, .pure, .pure, .pure, .pure] | 14 => [.pure, (.read 0 3), .pure, .eff, .pure, .eff, .pure, .pure, .eff, .pure, .pure, .pure, .pure, (.read 0 3), .pure, .pure, .pure, .pure, (.read 0 3), .pure, .pure, .pure, .pure, .pure, (.read 0 3), .pure, .pure, .pure, (.read 0 3), .pure, .pure] | 15 => [.pure, .eff, .pure, .eff, .pure, .pure, .eff, .pure, .pure, .pure, (.read 0 3), .pure, .pure, .pure, (.read 0 3), .pure, .pure, .pure, (.read 0 3), .pure, (.read 0 3), .pure, .pure, .pure, .pure] | 20 => [.pure, .pure, .pure, .pure, .pure, .pure, .pure, .pure, .pure, .eff] | _ => []
@[go_sem] theorem rs68 : Try.f68.results.toList = [(.cell 6 117)] := rfl
theorem ok68 : fnOk Try.prog pl68 Try.f68 = true := by kernel_rfl
def pl69 : Plans := fun i => match i with | _ => []
@[go_sem] theorem rs69 : Try.f69.results.toList = [(.tmp 2)] := rfl
theorem ok69 : fnOk Try.prog pl69 Try.f69 = true := by kernel_rfl
def pl70 : Plans := fun i => match i with | _ => []
@[go_sem] theorem rs70 : Try.f70.results.toList = [(.tmp 2)] := rfl
theorem ok70 : fnOk Try.prog pl70 Try.f70 = true := by kernel_rfl
def pl71 : Plans := fun i => match i with | _ => []
@[go_sem] theorem rs71 : Try.f71.results.toList = [(.tmp 2)] := rfl
theorem ok71 : fnOk Try.prog pl71 Try.f71 = true := by kernel_rfl
def pl72 : Plans := fun i => match i with | _ => []
@[go_sem] theorem rs72 : Try.f72.results.toList = [(.tmp 2)] := rfl
theorem ok72 : fnOk Try.prog pl72 Try.f72 = true := by kernel_rfl
def pl73 : Plans := fun i => match i with | _ => []
@[go_sem] theorem rs73 : Try.f73.results.toList = [(.tmp 4)] := rfl
theorem ok73 : fnOk Try.prog pl73 Try.f73 = true := by kernel_rfl
def pl74 : Plans := fun i => match i with | _ => []
@[go_sem] theorem rs74 : Try.f74.results.toList = [(.tmp 2)] := rfl
theorem ok74 : fnOk Try.prog pl74 Try.f74 = true := by kernel_rfl
def pl75 : Plans := fun i => match i with | _ => []
@[go_sem] theorem rs75 : Try.f75.results.toList = [(.tmp 3)] := rfl
theorem ok75 : fnOk Try.prog pl75 Try.f75 = true := by kernel_rfl
def pl76 : Plans := fun i => match i with | _ => []
@[go_sem] theorem rs76 : Try.f76.results.toList = [(.tmp 4)] := rfl
theorem ok76 : fnOk Try.prog pl76 Try.f76 = true := by kernel_rfl
def pl77 : Plans := fun i => match i with | _ => []
@[go_sem] theorem rs77 : Try.f77.results.toList = [(.tmp 4)] := rfl
theorem ok77 : fnOk Try.prog pl77 Try.f77 = true := by kernel_rfl
def pl78 : Plans := fun i => match i with | _ => []
@[go_sem] theorem rs78 : Try.f78.results.toList = [(.tmp 6)] := rfl
theorem ok78 : fnOk Try.prog pl78 Try.f78 = true := by kernel_rfl
def pl79 : Plans := fun i => match i with | _ => []
@[go_sem] theorem rs79 : Try.f79.results.toList = [(.tmp 2)] := rfl
theorem ok79 : fnOk Try.prog pl79 Try.f79 = true := by kernel_rfl
def pl80 : Plans := fun i => match i with | _ => []
@[go_sem] theorem rs80 : Try.f80.results.toList = [(.tmp 5)] := rfl
theorem ok80 : fnOk Try.prog pl80 Try.f80 = true := by kernel_rfl
def pl81 : Plans := fun i => match i with | _ => []
@[go_sem] theorem rs81 : Try.f81.results.toList = [(.tmp 4)] := rfl
theorem ok81 : fnOk Try.prog pl81 Try.f81 = true := by kernel_rfl
def pl82 : Plans := fun i => match i with | 1 => [.pure, .pure, .pure, .pure, .pure, .pure, .pure, .pure] | _ => []
@[go_sem] theorem rs82 : Try.f82.results.toList = [(.tmp 4)] := rfl
theorem ok82 : fnOk Try.prog pl82 Try.f82 = true := by kernel_rfl
def pl83 : Plans := fun i => match i with | 2 => [.pure, .pure, .pure, .eff, .pure, (.read 0 1), .eff, .pure, .pure, .eff] | 6 => [.pure, .pure, .pure, .pure, .pure, .pure, .pure, .pure, .pure, .pure, .pure, .pure, .pure, .pure, .eff] | 11 => [.pure, .pure, .pure, .pure, .pure, .pure, .pure, .pure, .pure, .pure, .pure, .pure, .pure, .pure, .eff] | _ => []
@[go_sem] theorem rs83 : Try.f83.results.toList = [] := rfl
theorem ok83 : fnOk Try.prog pl83 Try.f83 = true := by kernel_rfl
def pl84 : Plans := fun i => match i with | _ => []
@[go_sem] theorem rs84 : Try.f84.results.toList = [(.tmp 2)] := rfl
theorem ok84 : fnOk Try.prog pl84 Try.f84 = true := by kernel_rfl
def pl85 : Plans := fun i => match i with | _ => []
@[go_sem] theorem rs85 : Try.f85.results.toList = [(.tmp 2)] := rfl
theorem ok85 : fnOk Try.prog pl85 Try.f85 = true := by kernel_rfl
def pl86 : Plans := fun i => match i with | _ => []
@[go_sem] theorem rs86 : Try.f86.results.toList = [(.tmp 3)] := rfl
theorem ok86 : fnOk Try.prog pl86 Try.f86 = true := by kernel_rfl
def pl87 : Plans := fun i => match i with | 4 => [.pure, .pure, .pure, .pure, .pure, .pure, .eff] | 2 => [.pure, .pure, .pure, .pure, .pure, .pure, .eff] | _ => []
@[go_sem] theorem rs87 : Try.f87.results.toList = [] := rfl
theorem ok87 : fnOk Try.prog pl87 Try.f87 = true := by kernel_rfl
def pl88 : Plans := fun i => match i with | _ => []
@[go_sem] theorem rs88 : Try.f88.results.toList = [(.tmp 2)] := rfl
theorem ok88 : fnOk Try.prog pl88 Try.f88 = true := by kernel_rfl
def pl89 : Plans := fun i => match i with | _ => []
@[go_sem] theorem rs89 : Try.f89.results.toList = [(.tmp 4)] := rfl
theorem ok89 : fnOk Try.prog pl89 Try.f89 = true := by kernel_rfl
def pl90 : Plans := fun i => match i with | _ => []
@[go_sem] theorem rs90 : Try.f90.results.toList = [(.tmp 2)] := rfl
theorem ok90 : fnOk Try.prog pl90 Try.f90 = true := by kernel_rfl
def pl91 : Plans := fun i => match i with | _ => []
@[go_sem] theorem rs91 : Try.f91.results.toList = [(.tmp 2)] := rfl
theorem ok91 : fnOk Try.prog pl91 Try.f91 = true := by kernel_rfl
def pl92 : Plans := fun i => match i with | _ => []
@[go_sem] theorem rs92 : Try.f92.results.toList = [(.tmp 6)] := rfl
theorem ok92 : fnOk Try.prog pl92 Try.f92 = true := by kernel_rfl
def pl93 : Plans := fun i => match i with | _ => []
@[go_sem] theorem rs93 : Try.f93.results.toList = [] := rfl
theorem ok93 : fnOk Try.prog pl93 Try.f93 = true := by kernel_rfl
def pl94 : Plans := fun i => match i with | _ => []
@[go_sem] theorem rs94 : Try.f94.results.toList = [(.tmp 0)] := rfl
theorem ok94 : fnOk Try.prog pl94 Try.f94 = true := by kernel_rfl
def pl95 : Plans := fun i => match i with | _ => []
@[go_sem] theorem rs95 : Try.f95.results.toList = [] := rfl
theorem ok95 : fnOk Try.prog pl95 Try.f95 = true := by kernel_rfl
def pl96 : Plans := fun i => match i with | _ => []
@[go_sem] theorem rs96 : Try.f96.results.toList = [(.cell 2 64)] := rfl
theorem ok96 : fnOk Try.prog pl96 Try.f96 = true := by kernel_rfl
def pl97 : Plans := fun i => match i with | 13 => [.pure, .pure, .pure, .pure, .pure, .pure, .pure, .pure, .pure, .pure] | _ => []
@[go_sem] theorem rs97 : Try.f97.results.toList = [(.tmp 6)] := rfl
theorem ok97 : fnOk Try.prog pl97 Try.f97 = true := by kernel_rfl
def pl98 : Plans := fun i => match i with | _ => []
@[go_sem] theorem rs98 : Try.f98.results.toList = [(.tmp 4)] := rfl
theorem ok98 : fnOk Try.prog pl98 Try.f98 = true := by kernel_rfl
def pl99 : Plans := fun i => match i with | _ => []
@[go_sem] theorem rs99 : Try.f99.results.toList = [(.tmp 2)] := rfl
theorem ok99 : fnOk Try.prog pl99 Try.f99 = true := by kernel_rfl
def pl100 : Plans := fun i => match i with | _ => []
@[go_sem] theorem rs100 : Try.f100.results.toList = [(.tmp 4)] := rfl
theorem ok100 : fnOk Try.prog pl100 Try.f100 = true := by kernel_rfl
def pl101 : Plans := fun i => match i with | _ => []
@[go_sem] theorem rs101 : Try.f101.results.toList = [(.tmp 4)] := rfl
theorem ok101 : fnOk Try.prog pl101 Try.f101 = true := by kernel_rfl
def pl102 : Plans := fun i => match i with | _ => []
@[go_sem] theorem rs102 : Try.f102.results.toList = [(.tmp 2)] := rfl
theorem ok102 : fnOk Try.prog pl102 Try.f102 = true := by kernel_rfl
def pl103 : Plans := fun i => match i with | 0 => [.pure, .pure, .pure, .pure, .pure, .pure, .pure, .pure, .pure, .pure, .eff] | _ => []
@[go_sem] theorem rs103 : Try.f103.results.toList = [] := rfl
theorem ok103 : fnOk Try.prog pl103 Try.f103 = true := by kernel_rfl
def pl104 : Plans := fun i => match i with | _ => []
@[go_sem] theorem rs104 : Try.f104.results.toList = [(.tmp 0), (.tmp 1)] := rfl
theorem ok104 : fnOk Try.prog pl104 Try.f104 = true := by kernel_rfl
def pl105 : Plans := fun i => match i with | _ => []
@[go_sem] theorem rs105 : Try.f105.results.toList = [(.tmp 2)] := rfl
theorem ok105 : fnOk Try.prog pl105 Try.f105 = true := by kernel_rfl
def pl106 : Plans := fun i => match i with | 2 => [.pure, .pure, .pure, .eff, .eff] | _ => []
@[go_sem] theorem rs106 : Try.f106.results.toList = [(.cell 4 117), (.tmp 5)] := rfl
theorem ok106 : fnOk Try.prog pl106 Try.f106 = true := by kernel_rfl
def pl107 : Plans := fun i => match i with | 1 => [.eff, .pure, .eff, (.read 0 4), .alloc, .alloc, .alloc, .eff, .eff, .eff] | 5 => [.pure, .pure, .pure, .pure, .pure, .pure] | 7 => [.pure, .pure, .pure, .pure, .pure, .pure, .pure, .pure, .pure, .pure, .pure, .pure, .pure, .pure, .pure, .pure, .pure, .pure, .pure, .pure, .pure, .pure, .pure, .pure] | 15 => [.pure, .pure, .pure, .pure, .pure, .pure, .pure, .pure, .eff] | _ => []
@[go_sem] theorem rs107 : Try.f107.results.toList = [(.cell 4 117)] := rfl
theorem ok107 : fnOk Try.prog pl107 Try.f107 = true := by kernel_rfl
def pl108 : Plans := fun i => match i with | _ => []
@[go_sem] theorem rs108 : Try.f108.results.toList = [(.cell 0 118)] := rfl
theorem ok108 : fnOk Try.prog pl108 Try.f108 = true := by kernel_rfl
def pl109 : Plans := fun i => match i with | 5 => [.pure, .pure, .pure, .pure, .pure, .pure, .pure, .pure, .pure, .pure, .pure, .pure, .pure, .pure, .pure, .pure, .pure, .pure, .pure, .pure, .pure, .pure, .pure, .pure, .pure, .pure, .pure, .pure, .pure, .pure, .pure, .pure, .pure, .pure, .pure, .eff] | 10 => [.pure, .pure, .pure, .pure, .pure, .pure, .pure, .pure, .pure, .pure] | 13 => [.pure, .pure, .pure, .pure, .pure, .pure, .pure, .pure, .pure, .pure, .pure, .pure, .pure, .pure, .pure, .eff] | _ => []
@[go_sem] theorem rs109 : Try.f109.results.toList = [(.cell 2 118)] := rfl
theorem ok109 : fnOk Try.prog pl109 Try.f109 = true := by kernel_rfl
def pl110 : Plans := fun i => match i with | _ => []
@[go_sem] theorem rs110 : Try.f110.results.toList = [(.tmp 4)] := rfl
theorem ok110 : fnOk Try.prog pl110 Try.f110 = true := by kernel_rfl
attribute [go_sem] pl3 pl4 pl5 pl6 pl7 pl8 pl9 pl10 pl11 pl12 pl13 pl14 pl15 pl16 pl17 pl18 pl19 pl20 pl21 pl22 pl23 pl24 pl25 pl26 pl27 pl28 pl29 pl30 pl31 pl32 pl33 pl34 pl35 pl36 pl37 pl38 pl39 pl40 pl41 pl42 pl43 pl44 pl45 pl46 pl47 pl48 pl49 pl50 pl51 pl52 pl53 pl54 pl55 pl56 pl57 pl58 pl59 pl60 pl61 pl62 pl63 pl64 pl65 pl66 pl67 pl68 pl69 pl70 pl71 pl72 pl73 pl74 pl75 pl76 pl77 pl78 pl79 pl80 pl81 pl82 pl83 pl84 pl85 pl86 pl87 pl88 pl89 pl90 pl91 pl92 pl93 pl94 pl95 pl96 pl97 pl98 pl99 pl100 pl101 pl102 pl103 pl104 pl105 pl106 pl107 pl108 pl109 pl110
end Go.Proofs.Ytjljolnhmmbkoaa
