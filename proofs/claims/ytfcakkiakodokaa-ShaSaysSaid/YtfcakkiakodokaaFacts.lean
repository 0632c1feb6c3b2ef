/- What is proved: the program's types, as the calculus asks them; that its functions may be walked. Conditions: none. -/
import Derived.Test.YtfcakkiakodokaaWJ
import Derived.KernelRfl
import Derived.Test.YtfcakkiakodokaaProg
set_option linter.unusedVariables false
set_option linter.unusedSimpArgs false
set_option linter.unusedSectionVars false
namespace Go.Proofs.Ytfcakkiakodokaa
open Go.Eng
set_option autoImplicit false
set_option maxRecDepth 100000
@[go_sem] theorem ty_0 : tyOf Try.prog 0 = some ((1, (0, false))) := by kernel_rfl
@[go_sem] theorem td_1 : tdOf Try.prog 1 = .func := by kernel_rfl
@[go_sem] theorem ty_1 : tyOf Try.prog 1 = some ((1, (8, false))) := by kernel_rfl
@[go_sem] theorem z_1 : zeroT Try.prog 1 = some (.nilFunc) := by kernel_rfl
@[go_sem] theorem td_2 : tdOf Try.prog 2 = (.int .i64) := by kernel_rfl
@[go_sem] theorem ty_2 : tyOf Try.prog 2 = some ((1, (8, false))) := by kernel_rfl
@[go_sem] theorem z_2 : zeroT Try.prog 2 = some ((.int .i64 0)) := by kernel_rfl
@[go_sem] theorem td_3 : tdOf Try.prog 3 = (.int .i64) := by kernel_rfl
@[go_sem] theorem ty_3 : tyOf Try.prog 3 = some ((1, (8, false))) := by kernel_rfl
@[go_sem] theorem z_3 : zeroT Try.prog 3 = some ((.int .i64 0)) := by kernel_rfl
@[go_sem] theorem td_4 : tdOf Try.prog 4 = .bool := by kernel_rfl
@[go_sem] theorem ty_4 : tyOf Try.prog 4 = some ((1, (1, false))) := by kernel_rfl
@[go_sem] theorem z_4 : zeroT Try.prog 4 = some ((.bool false)) := by kernel_rfl
@[go_sem] theorem td_5 : tdOf Try.prog 5 = (.int .u8) := by kernel_rfl
@[go_sem] theorem ty_5 : tyOf Try.prog 5 = some ((1, (1, false))) := by kernel_rfl
@[go_sem] theorem z_5 : zeroT Try.prog 5 = some ((.int .u8 0)) := by kernel_rfl
@[go_sem] theorem td_6 : tdOf Try.prog 6 = (.int .u8) := by kernel_rfl
@[go_sem] theorem ty_6 : tyOf Try.prog 6 = some ((1, (1, false))) := by kernel_rfl
@[go_sem] theorem z_6 : zeroT Try.prog 6 = some ((.int .u8 0)) := by kernel_rfl
@[go_sem] theorem td_7 : tdOf Try.prog 7 = (.struct [⟨false, 2, 0, 1, false⟩, ⟨false, 3, 1, 1, false⟩, ⟨false, 4, 2, 1, false⟩, ⟨false, 6, 3, 1, false⟩]) := by kernel_rfl
@[go_sem] theorem ty_7 : tyOf Try.prog 7 = some ((4, (24, true))) := by kernel_rfl
@[go_sem] theorem z_7 : zeroT Try.prog 7 = some ((.agg [(.int .i64 0), (.int .i64 0), (.bool false), (.int .u8 0)])) := by kernel_rfl
@[go_sem] theorem td_8 : tdOf Try.prog 8 = (.struct [⟨false, 2, 0, 1, false⟩, ⟨false, 3, 1, 1, false⟩, ⟨false, 4, 2, 1, false⟩, ⟨false, 6, 3, 1, false⟩]) := by kernel_rfl
@[go_sem] theorem ty_8 : tyOf Try.prog 8 = some ((4, (24, true))) := by kernel_rfl
@[go_sem] theorem z_8 : zeroT Try.prog 8 = some ((.agg [(.int .i64 0), (.int .i64 0), (.bool false), (.int .u8 0)])) := by kernel_rfl
@[go_sem] theorem td_9 : tdOf Try.prog 9 = .str := by kernel_rfl
@[go_sem] theorem ty_9 : tyOf Try.prog 9 = some ((1, (16, false))) := by kernel_rfl
@[go_sem] theorem z_9 : zeroT Try.prog 9 = some ((.str 0 0)) := by kernel_rfl
@[go_sem] theorem td_10 : tdOf Try.prog 10 = .str := by kernel_rfl
@[go_sem] theorem ty_10 : tyOf Try.prog 10 = some ((1, (16, false))) := by kernel_rfl
@[go_sem] theorem z_10 : zeroT Try.prog 10 = some ((.str 0 0)) := by kernel_rfl
@[go_sem] theorem td_11 : tdOf Try.prog 11 = .str := by kernel_rfl
@[go_sem] theorem ty_11 : tyOf Try.prog 11 = some ((1, (16, false))) := by kernel_rfl
@[go_sem] theorem z_11 : zeroT Try.prog 11 = some ((.str 0 0)) := by kernel_rfl
@[go_sem] theorem td_12 : tdOf Try.prog 12 = (.int .u64) := by kernel_rfl
@[go_sem] theorem ty_12 : tyOf Try.prog 12 = some ((1, (8, false))) := by kernel_rfl
@[go_sem] theorem z_12 : zeroT Try.prog 12 = some ((.int .u64 0)) := by kernel_rfl
@[go_sem] theorem td_13 : tdOf Try.prog 13 = (.struct [⟨false, 9, 0, 1, false⟩, ⟨false, 12, 1, 1, false⟩]) := by kernel_rfl
@[go_sem] theorem ty_13 : tyOf Try.prog 13 = some ((2, (24, true))) := by kernel_rfl
@[go_sem] theorem z_13 : zeroT Try.prog 13 = some ((.agg [(.str 0 0), (.int .u64 0)])) := by kernel_rfl
@[go_sem] theorem td_14 : tdOf Try.prog 14 = (.struct [⟨false, 9, 0, 1, false⟩, ⟨false, 12, 1, 1, false⟩]) := by kernel_rfl
@[go_sem] theorem ty_14 : tyOf Try.prog 14 = some ((2, (24, true))) := by kernel_rfl
@[go_sem] theorem z_14 : zeroT Try.prog 14 = some ((.agg [(.str 0 0), (.int .u64 0)])) := by kernel_rfl
@[go_sem] theorem td_15 : tdOf Try.prog 15 = .ptr := by kernel_rfl
@[go_sem] theorem ty_15 : tyOf Try.prog 15 = some ((1, (8, false))) := by kernel_rfl
@[go_sem] theorem z_15 : zeroT Try.prog 15 = some (.nilptr) := by kernel_rfl
@[go_sem] theorem td_16 : tdOf Try.prog 16 = .ptr := by kernel_rfl
@[go_sem] theorem ty_16 : tyOf Try.prog 16 = some ((1, (8, false))) := by kernel_rfl
@[go_sem] theorem z_16 : zeroT Try.prog 16 = some (.nilptr) := by kernel_rfl
@[go_sem] theorem td_17 : tdOf Try.prog 17 = .ptr := by kernel_rfl
@[go_sem] theorem ty_17 : tyOf Try.prog 17 = some ((1, (8, false))) := by kernel_rfl
@[go_sem] theorem z_17 : zeroT Try.prog 17 = some (.nilptr) := by kernel_rfl
@[go_sem] theorem td_18 : tdOf Try.prog 18 = (.struct [⟨false, 17, 0, 1, false⟩]) := by kernel_rfl
@[go_sem] theorem ty_18 : tyOf Try.prog 18 = some ((1, (8, true))) := by kernel_rfl
@[go_sem] theorem z_18 : zeroT Try.prog 18 = some ((.agg [.nilptr])) := by kernel_rfl
@[go_sem] theorem td_19 : tdOf Try.prog 19 = (.struct [⟨false, 17, 0, 1, false⟩]) := by kernel_rfl
@[go_sem] theorem ty_19 : tyOf Try.prog 19 = some ((1, (8, true))) := by kernel_rfl
@[go_sem] theorem z_19 : zeroT Try.prog 19 = some ((.agg [.nilptr])) := by kernel_rfl
@[go_sem] theorem td_20 : tdOf Try.prog 20 = .iface := by kernel_rfl
@[go_sem] theorem ty_20 : tyOf Try.prog 20 = some ((1, (16, false))) := by kernel_rfl
@[go_sem] theorem z_20 : zeroT Try.prog 20 = some (.nilIface) := by kernel_rfl
@[go_sem] theorem td_21 : tdOf Try.prog 21 = (.int .i32) := by kernel_rfl
@[go_sem] theorem ty_21 : tyOf Try.prog 21 = some ((1, (4, false))) := by kernel_rfl
@[go_sem] theorem z_21 : zeroT Try.prog 21 = some ((.int .i32 0)) := by kernel_rfl
@[go_sem] theorem td_22 : tdOf Try.prog 22 = .func := by kernel_rfl
@[go_sem] theorem ty_22 : tyOf Try.prog 22 = some ((1, (8, false))) := by kernel_rfl
@[go_sem] theorem z_22 : zeroT Try.prog 22 = some (.nilFunc) := by kernel_rfl
@[go_sem] theorem td_23 : tdOf Try.prog 23 = .func := by kernel_rfl
@[go_sem] theorem ty_23 : tyOf Try.prog 23 = some ((1, (8, false))) := by kernel_rfl
@[go_sem] theorem z_23 : zeroT Try.prog 23 = some (.nilFunc) := by kernel_rfl
@[go_sem] theorem td_24 : tdOf Try.prog 24 = (.array 32 5 1 false) := by kernel_rfl
@[go_sem] theorem ty_24 : tyOf Try.prog 24 = some ((32, (32, true))) := by kernel_rfl
@[go_sem] theorem z_24 : zeroT Try.prog 24 = some ((.agg (List.replicate 32 (.int .u8 0)))) := by kernel_rfl
@[go_sem] theorem td_25 : tdOf Try.prog 25 = .func := by kernel_rfl
@[go_sem] theorem ty_25 : tyOf Try.prog 25 = some ((1, (8, false))) := by kernel_rfl
@[go_sem] theorem z_25 : zeroT Try.prog 25 = some (.nilFunc) := by kernel_rfl
@[go_sem] theorem td_26 : tdOf Try.prog 26 = (.slice 5 1 1) := by kernel_rfl
@[go_sem] theorem ty_26 : tyOf Try.prog 26 = some ((1, (24, false))) := by kernel_rfl
@[go_sem] theorem z_26 : zeroT Try.prog 26 = some (.nilslice) := by kernel_rfl
@[go_sem] theorem td_27 : tdOf Try.prog 27 = .func := by kernel_rfl
@[go_sem] theorem ty_27 : tyOf Try.prog 27 = some ((1, (8, false))) := by kernel_rfl
@[go_sem] theorem z_27 : zeroT Try.prog 27 = some (.nilFunc) := by kernel_rfl
@[go_sem] theorem td_28 : tdOf Try.prog 28 = (.slice 26 1 24) := by kernel_rfl
@[go_sem] theorem ty_28 : tyOf Try.prog 28 = some ((1, (24, false))) := by kernel_rfl
@[go_sem] theorem z_28 : zeroT Try.prog 28 = some (.nilslice) := by kernel_rfl
@[go_sem] theorem td_29 : tdOf Try.prog 29 = .ptr := by kernel_rfl
@[go_sem] theorem ty_29 : tyOf Try.prog 29 = some ((1, (8, false))) := by kernel_rfl
@[go_sem] theorem z_29 : zeroT Try.prog 29 = some (.nilptr) := by kernel_rfl
@[go_sem] theorem td_30 : tdOf Try.prog 30 = .func := by kernel_rfl
@[go_sem] theorem ty_30 : tyOf Try.prog 30 = some ((1, (8, false))) := by kernel_rfl
@[go_sem] theorem z_30 : zeroT Try.prog 30 = some (.nilFunc) := by kernel_rfl
@[go_sem] theorem td_31 : tdOf Try.prog 31 = .func := by kernel_rfl
@[go_sem] theorem ty_31 : tyOf Try.prog 31 = some ((1, (8, false))) := by kernel_rfl
@[go_sem] theorem z_31 : zeroT Try.prog 31 = some (.nilFunc) := by kernel_rfl
@[go_sem] theorem td_32 : tdOf Try.prog 32 = (.int .u64) := by kernel_rfl
@[go_sem] theorem ty_32 : tyOf Try.prog 32 = some ((1, (8, false))) := by kernel_rfl
@[go_sem] theorem z_32 : zeroT Try.prog 32 = some ((.int .u64 0)) := by kernel_rfl
@[go_sem] theorem td_33 : tdOf Try.prog 33 = .func := by kernel_rfl
@[go_sem] theorem ty_33 : tyOf Try.prog 33 = some ((1, (8, false))) := by kernel_rfl
@[go_sem] theorem z_33 : zeroT Try.prog 33 = some (.nilFunc) := by kernel_rfl
@[go_sem] theorem td_34 : tdOf Try.prog 34 = .func := by kernel_rfl
@[go_sem] theorem ty_34 : tyOf Try.prog 34 = some ((1, (8, false))) := by kernel_rfl
@[go_sem] theorem z_34 : zeroT Try.prog 34 = some (.nilFunc) := by kernel_rfl
@[go_sem] theorem td_35 : tdOf Try.prog 35 = .func := by kernel_rfl
@[go_sem] theorem ty_35 : tyOf Try.prog 35 = some ((1, (8, false))) := by kernel_rfl
@[go_sem] theorem z_35 : zeroT Try.prog 35 = some (.nilFunc) := by kernel_rfl
@[go_sem] theorem td_36 : tdOf Try.prog 36 = .func := by kernel_rfl
@[go_sem] theorem ty_36 : tyOf Try.prog 36 = some ((1, (8, false))) := by kernel_rfl
@[go_sem] theorem z_36 : zeroT Try.prog 36 = some (.nilFunc) := by kernel_rfl
@[go_sem] theorem td_37 : tdOf Try.prog 37 = (.slice 43 1 8) := by kernel_rfl
@[go_sem] theorem ty_37 : tyOf Try.prog 37 = some ((1, (24, false))) := by kernel_rfl
@[go_sem] theorem z_37 : zeroT Try.prog 37 = some (.nilslice) := by kernel_rfl
@[go_sem] theorem td_38 : tdOf Try.prog 38 = .func := by kernel_rfl
@[go_sem] theorem ty_38 : tyOf Try.prog 38 = some ((1, (8, false))) := by kernel_rfl
@[go_sem] theorem z_38 : zeroT Try.prog 38 = some (.nilFunc) := by kernel_rfl
@[go_sem] theorem td_39 : tdOf Try.prog 39 = (.int .u32) := by kernel_rfl
@[go_sem] theorem ty_39 : tyOf Try.prog 39 = some ((1, (4, false))) := by kernel_rfl
@[go_sem] theorem z_39 : zeroT Try.prog 39 = some ((.int .u32 0)) := by kernel_rfl
@[go_sem] theorem td_40 : tdOf Try.prog 40 = (.array 8 39 1 false) := by kernel_rfl
@[go_sem] theorem ty_40 : tyOf Try.prog 40 = some ((8, (32, true))) := by kernel_rfl
@[go_sem] theorem z_40 : zeroT Try.prog 40 = some ((.agg [(.int .u32 0), (.int .u32 0), (.int .u32 0), (.int .u32 0), (.int .u32 0), (.int .u32 0), (.int .u32 0), (.int .u32 0)])) := by kernel_rfl
@[go_sem] theorem td_41 : tdOf Try.prog 41 = (.array 64 39 1 false) := by kernel_rfl
@[go_sem] theorem ty_41 : tyOf Try.prog 41 = some ((64, (256, true))) := by kernel_rfl
@[go_sem] theorem z_41 : zeroT Try.prog 41 = some ((.agg (List.replicate 64 (.int .u32 0)))) := by kernel_rfl
@[go_sem] theorem td_42 : tdOf Try.prog 42 = .func := by kernel_rfl
@[go_sem] theorem ty_42 : tyOf Try.prog 42 = some ((1, (8, false))) := by kernel_rfl
@[go_sem] theorem z_42 : zeroT Try.prog 42 = some (.nilFunc) := by kernel_rfl
@[go_sem] theorem td_43 : tdOf Try.prog 43 = (.int .u64) := by kernel_rfl
@[go_sem] theorem ty_43 : tyOf Try.prog 43 = some ((1, (8, false))) := by kernel_rfl
@[go_sem] theorem z_43 : zeroT Try.prog 43 = some ((.int .u64 0)) := by kernel_rfl
@[go_sem] theorem td_44 : tdOf Try.prog 44 = .func := by kernel_rfl
@[go_sem] theorem ty_44 : tyOf Try.prog 44 = some ((1, (8, false))) := by kernel_rfl
@[go_sem] theorem z_44 : zeroT Try.prog 44 = some (.nilFunc) := by kernel_rfl
@[go_sem] theorem td_45 : tdOf Try.prog 45 = (.struct [⟨false, 40, 0, 8, true⟩, ⟨false, 26, 8, 1, false⟩, ⟨false, 43, 9, 1, false⟩]) := by kernel_rfl
@[go_sem] theorem ty_45 : tyOf Try.prog 45 = some ((10, (64, true))) := by kernel_rfl
@[go_sem] theorem z_45 : zeroT Try.prog 45 = some ((.agg [(.int .u32 0), (.int .u32 0), (.int .u32 0), (.int .u32 0), (.int .u32 0), (.int .u32 0), (.int .u32 0), (.int .u32 0), .nilslice, (.int .u64 0)])) := by kernel_rfl
@[go_sem] theorem td_46 : tdOf Try.prog 46 = (.struct [⟨false, 40, 0, 8, true⟩, ⟨false, 26, 8, 1, false⟩, ⟨false, 43, 9, 1, false⟩]) := by kernel_rfl
@[go_sem] theorem ty_46 : tyOf Try.prog 46 = some ((10, (64, true))) := by kernel_rfl
@[go_sem] theorem z_46 : zeroT Try.prog 46 = some ((.agg [(.int .u32 0), (.int .u32 0), (.int .u32 0), (.int .u32 0), (.int .u32 0), (.int .u32 0), (.int .u32 0), (.int .u32 0), .nilslice, (.int .u64 0)])) := by kernel_rfl
@[go_sem] theorem ty_47 : tyOf Try.prog 47 = some ((1, (0, false))) := by kernel_rfl
@[go_sem] theorem td_48 : tdOf Try.prog 48 = .func := by kernel_rfl
@[go_sem] theorem ty_48 : tyOf Try.prog 48 = some ((1, (8, false))) := by kernel_rfl
@[go_sem] theorem z_48 : zeroT Try.prog 48 = some (.nilFunc) := by kernel_rfl
@[go_sem] theorem td_49 : tdOf Try.prog 49 = .func := by kernel_rfl
@[go_sem] theorem ty_49 : tyOf Try.prog 49 = some ((1, (8, false))) := by kernel_rfl
@[go_sem] theorem z_49 : zeroT Try.prog 49 = some (.nilFunc) := by kernel_rfl
@[go_sem] theorem td_50 : tdOf Try.prog 50 = .func := by kernel_rfl
@[go_sem] theorem ty_50 : tyOf Try.prog 50 = some ((1, (8, false))) := by kernel_rfl
@[go_sem] theorem z_50 : zeroT Try.prog 50 = some (.nilFunc) := by kernel_rfl
@[go_sem] theorem td_51 : tdOf Try.prog 51 = .func := by kernel_rfl
@[go_sem] theorem ty_51 : tyOf Try.prog 51 = some ((1, (8, false))) := by kernel_rfl
@[go_sem] theorem z_51 : zeroT Try.prog 51 = some (.nilFunc) := by kernel_rfl
@[go_sem] theorem td_52 : tdOf Try.prog 52 = .func := by kernel_rfl
@[go_sem] theorem ty_52 : tyOf Try.prog 52 = some ((1, (8, false))) := by kernel_rfl
@[go_sem] theorem z_52 : zeroT Try.prog 52 = some (.nilFunc) := by kernel_rfl
def pl4 : Plans := fun i => match i with | 6 => [(.read 0 1), .pure, .eff, .pure, .pure, .pure, .eff, (.read 1 2), .eff, .pure, .pure, .pure] | _ => []
@[go_sem] theorem rs4 : Try.f4.results.toList = [(.tmp 2)] := rfl
theorem ok4 : fnOk Try.prog pl4 Try.f4 = true := by kernel_rfl
def pl5 : Plans := fun i => match i with | _ => []
@[go_sem] theorem rs5 : Try.f5.results.toList = [(.tmp 4)] := rfl
theorem ok5 : fnOk Try.prog pl5 Try.f5 = true := by kernel_rfl
def pl6 : Plans := fun i => match i with | 9 => [.pure, .eff, .pure, .eff, .pure, (.read 0 2), (.read 0 2), .pure, .pure, .pure, .pure, .eff, .pure, .eff, .pure, (.read 2 5), .pure, .eff, .pure, .pure, .pure, .pure, .pure, .eff, .alloc, .pure, .eff, .eff, .pure, .pure, .pure] | _ => []
@[go_sem] theorem rs6 : Try.f6.results.toList = [(.tmp 4)] := rfl
theorem ok6 : fnOk Try.prog pl6 Try.f6 = true := by kernel_rfl
def pl7 : Plans := fun i => match i with | _ => []
@[go_sem] theorem rs7 : Try.f7.results.toList = [(.tmp 4)] := rfl
theorem ok7 : fnOk Try.prog pl7 Try.f7 = true := by kernel_rfl
def pl9 : Plans := fun i => match i with | 5 => [.pure, .pure, .pure, .pure, .pure, .pure, .pure, .alloc, .eff, .pure] | _ => []
@[go_sem] theorem rs9 : Try.f9.results.toList = [(.tmp 2)] := rfl
theorem ok9 : fnOk Try.prog pl9 Try.f9 = true := by kernel_rfl
def pl10 : Plans := fun i => match i with | _ => []
@[go_sem] theorem rs10 : Try.f10.results.toList = [(.cell 2 24)] := rfl
theorem ok10 : fnOk Try.prog pl10 Try.f10 = true := by kernel_rfl
def pl11 : Plans := fun i => match i with | 22 => [.pure, .pure, .pure, .pure, .pure, .pure, .pure, .eff, .eff] | _ => []
@[go_sem] theorem rs11 : Try.f11.results.toList = [(.cell 2 24)] := rfl
theorem ok11 : fnOk Try.prog pl11 Try.f11 = true := by kernel_rfl
def pl12 : Plans := fun i => match i with | 6 => [.pure, .pure, .pure, .pure, .pure, .pure, .pure, .pure, .pure, .pure, .pure, .pure, .pure, .alloc, .eff, .pure] | _ => []
@[go_sem] theorem rs12 : Try.f12.results.toList = [(.tmp 2)] := rfl
theorem ok12 : fnOk Try.prog pl12 Try.f12 = true := by kernel_rfl
def pl13 : Plans := fun i => match i with | _ => []
@[go_sem] theorem rs13 : Try.f13.results.toList = [(.tmp 0)] := rfl
theorem ok13 : fnOk Try.prog pl13 Try.f13 = true := by kernel_rfl
def pl14 : Plans := fun i => match i with | _ => []
@[go_sem] theorem rs14 : Try.f14.results.toList = [] := rfl
theorem ok14 : fnOk Try.prog pl14 Try.f14 = true := by kernel_rfl
def pl15 : Plans := fun i => match i with | _ => []
@[go_sem] theorem rs15 : Try.f15.results.toList = [(.cell 2 24)] := rfl
theorem ok15 : fnOk Try.prog pl15 Try.f15 = true := by kernel_rfl
def pl16 : Plans := fun i => match i with | _ => []
@[go_sem] theorem rs16 : Try.f16.results.toList = [(.tmp 2)] := rfl
theorem ok16 : fnOk Try.prog pl16 Try.f16 = true := by kernel_rfl
def pl17 : Plans := fun i => match i with | _ => []
@[go_sem] theorem rs17 : Try.f17.results.toList = [(.tmp 4)] := rfl
theorem ok17 : fnOk Try.prog pl17 Try.f17 = true := by kernel_rfl
def pl19 : Plans := fun i => match i with | 2 => [.pure, .pure, .pure, .eff, .eff] | _ => []
@[go_sem] theorem rs19 : Try.f19.results.toList = [(.cell 4 40), (.tmp 5)] := rfl
theorem ok19 : fnOk Try.prog pl19 Try.f19 = true := by kernel_rfl
def pl20 : Plans := fun i => match i with | 13 => [.pure, .pure, .pure, .pure, .pure, .pure, .pure, .pure, .pure, .pure] | _ => []
@[go_sem] theorem rs20 : Try.f20.results.toList = [(.tmp 6)] := rfl
theorem ok20 : fnOk Try.prog pl20 Try.f20 = true := by kernel_rfl
attribute [go_sem] pl4 pl5 pl6 pl7 pl9 pl10 pl11 pl12 pl13 pl14 pl15 pl16 pl17 pl19 pl20
end Go.Proofs.Ytfcakkiakodokaa
