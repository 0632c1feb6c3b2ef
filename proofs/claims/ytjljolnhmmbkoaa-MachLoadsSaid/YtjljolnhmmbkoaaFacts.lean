/- What is proved: the program's types, as the calculus asks them; that its functions may be walked. more of the program's types, as the calculus asks them. Conditions: as each theorem says. -/
import Derived.Test.YtjljolnhmmbkoaaWK
import Derived.KernelRfl
import Derived.Test.YtjljolnhmmbkoaaProg
set_option linter.unusedVariables false
set_option linter.unusedSimpArgs false
set_option linter.unusedSectionVars false
namespace Go.Proofs.Ytjljolnhmmbkoaa
open Go.Eng
set_option autoImplicit false
set_option maxRecDepth 100000
@[go_sem] theorem td_2 : tdOf Try.prog 2 = (.int .i64) := by kernel_rfl
@[go_sem] theorem ty_2 : tyOf Try.prog 2 = some ((1, (8, false))) := by kernel_rfl
@[go_sem] theorem z_2 : zeroT Try.prog 2 = some ((.int .i64 0)) := by kernel_rfl
@[go_sem] theorem td_3 : tdOf Try.prog 3 = (.int .i64) := by kernel_rfl
@[go_sem] theorem ty_3 : tyOf Try.prog 3 = some ((1, (8, false))) := by kernel_rfl
@[go_sem] theorem z_3 : zeroT Try.prog 3 = some ((.int .i64 0)) := by kernel_rfl
@[go_sem] theorem ty_4 : tyOf Try.prog 4 = some ((1, (1, false))) := by kernel_rfl
@[go_sem] theorem z_4 : zeroT Try.prog 4 = some ((.bool false)) := by kernel_rfl
@[go_sem] theorem td_5 : tdOf Try.prog 5 = (.int .u8) := by kernel_rfl
@[go_sem] theorem ty_5 : tyOf Try.prog 5 = some ((1, (1, false))) := by kernel_rfl
@[go_sem] theorem z_5 : zeroT Try.prog 5 = some ((.int .u8 0)) := by kernel_rfl
@[go_sem] theorem td_9 : tdOf Try.prog 9 = .str := by kernel_rfl
@[go_sem] theorem ty_9 : tyOf Try.prog 9 = some ((1, (16, false))) := by kernel_rfl
@[go_sem] theorem z_9 : zeroT Try.prog 9 = some ((.str 0 0)) := by kernel_rfl
@[go_sem] theorem ty_23 : tyOf Try.prog 23 = some ((1, (8, false))) := by kernel_rfl
@[go_sem] theorem z_23 : zeroT Try.prog 23 = some ((.int .i64 0)) := by kernel_rfl
@[go_sem] theorem td_24 : tdOf Try.prog 24 = (.slice 23 1 8) := by kernel_rfl
@[go_sem] theorem ty_24 : tyOf Try.prog 24 = some ((1, (24, false))) := by kernel_rfl
@[go_sem] theorem z_24 : zeroT Try.prog 24 = some (.nilslice) := by kernel_rfl
@[go_sem] theorem td_26 : tdOf Try.prog 26 = (.struct [⟨false, 3, 0, 1, false⟩, ⟨false, 3, 1, 1, false⟩]) := by kernel_rfl
@[go_sem] theorem ty_26 : tyOf Try.prog 26 = some ((2, (16, true))) := by kernel_rfl
@[go_sem] theorem z_26 : zeroT Try.prog 26 = some ((.agg [(.int .i64 0), (.int .i64 0)])) := by kernel_rfl
@[go_sem] theorem td_29 : tdOf Try.prog 29 = (.slice 2 1 8) := by kernel_rfl
@[go_sem] theorem ty_29 : tyOf Try.prog 29 = some ((1, (24, false))) := by kernel_rfl
@[go_sem] theorem td_30 : tdOf Try.prog 30 = (.slice 34 4 32) := by kernel_rfl
@[go_sem] theorem ty_30 : tyOf Try.prog 30 = some ((1, (24, false))) := by kernel_rfl
@[go_sem] theorem td_32 : tdOf Try.prog 32 = (.struct [⟨false, 24, 0, 1, false⟩, ⟨false, 24, 1, 1, false⟩, ⟨false, 24, 2, 1, false⟩, ⟨false, 24, 3, 1, false⟩, ⟨false, 29, 4, 1, false⟩, ⟨false, 30, 5, 1, false⟩]) := by kernel_rfl
@[go_sem] theorem ty_32 : tyOf Try.prog 32 = some ((6, (144, true))) := by kernel_rfl
@[go_sem] theorem z_32 : zeroT Try.prog 32 = some ((.agg [.nilslice, .nilslice, .nilslice, .nilslice, .nilslice, .nilslice])) := by kernel_rfl
@[go_sem] theorem td_34 : tdOf Try.prog 34 = (.struct [⟨false, 3, 0, 1, false⟩, ⟨false, 3, 1, 1, false⟩, ⟨false, 3, 2, 1, false⟩, ⟨false, 3, 3, 1, false⟩]) := by kernel_rfl
@[go_sem] theorem ty_34 : tyOf Try.prog 34 = some ((4, (32, true))) := by kernel_rfl
@[go_sem] theorem z_34 : zeroT Try.prog 34 = some ((.agg [(.int .i64 0), (.int .i64 0), (.int .i64 0), (.int .i64 0)])) := by kernel_rfl
@[go_sem] theorem td_48 : tdOf Try.prog 48 = (.slice 2 1 8) := by kernel_rfl
@[go_sem] theorem ty_48 : tyOf Try.prog 48 = some ((1, (24, false))) := by kernel_rfl
@[go_sem] theorem td_52 : tdOf Try.prog 52 = (.slice 5 1 1) := by kernel_rfl
@[go_sem] theorem ty_52 : tyOf Try.prog 52 = some ((1, (24, false))) := by kernel_rfl
@[go_sem] theorem td_55 : tdOf Try.prog 55 = (.slice 48 1 24) := by kernel_rfl
@[go_sem] theorem td_63 : tdOf Try.prog 63 = (.struct [⟨false, 32, 0, 6, true⟩, ⟨false, 29, 6, 1, false⟩, ⟨false, 2, 7, 1, false⟩]) := by kernel_rfl
@[go_sem] theorem z_63 : zeroT Try.prog 63 = some ((.agg [.nilslice, .nilslice, .nilslice, .nilslice, .nilslice, .nilslice, .nilslice, (.int .i64 0)])) := by kernel_rfl
@[go_sem] theorem td_64 : tdOf Try.prog 64 = (.array 32 5 1 false) := by kernel_rfl
@[go_sem] theorem ty_64 : tyOf Try.prog 64 = some ((32, (32, true))) := by kernel_rfl
@[go_sem] theorem z_64 : zeroT Try.prog 64 = some ((.agg (List.replicate 32 (.int .u8 0)))) := by kernel_rfl
@[go_sem] theorem td_71 : tdOf Try.prog 71 = (.slice 9 1 16) := by kernel_rfl
@[go_sem] theorem td_80 : tdOf Try.prog 80 = (.struct [⟨false, 32, 0, 6, true⟩]) := by kernel_rfl
@[go_sem] theorem z_80 : zeroT Try.prog 80 = some ((.agg [.nilslice, .nilslice, .nilslice, .nilslice, .nilslice, .nilslice])) := by kernel_rfl
@[go_sem] theorem td_83 : tdOf Try.prog 83 = (.slice 108 1 8) := by kernel_rfl
@[go_sem] theorem td_84 : tdOf Try.prog 84 = (.slice 108 1 8) := by kernel_rfl
@[go_sem] theorem ty_84 : tyOf Try.prog 84 = some ((1, (24, false))) := by kernel_rfl
@[go_sem] theorem td_86 : tdOf Try.prog 86 = (.struct [⟨false, 4, 0, 1, false⟩, ⟨false, 84, 1, 1, false⟩, ⟨false, 84, 2, 1, false⟩]) := by kernel_rfl
@[go_sem] theorem ty_86 : tyOf Try.prog 86 = some ((3, (56, true))) := by kernel_rfl
@[go_sem] theorem z_86 : zeroT Try.prog 86 = some ((.agg [(.bool false), .nilslice, .nilslice])) := by kernel_rfl
@[go_sem] theorem td_92 : tdOf Try.prog 92 = (.slice 93 1 24) := by kernel_rfl
@[go_sem] theorem td_93 : tdOf Try.prog 93 = (.slice 4 1 1) := by kernel_rfl
@[go_sem] theorem ty_93 : tyOf Try.prog 93 = some ((1, (24, false))) := by kernel_rfl
@[go_sem] theorem z_93 : zeroT Try.prog 93 = some (.nilslice) := by kernel_rfl
@[go_sem] theorem td_94 : tdOf Try.prog 94 = (.slice 3 1 8) := by kernel_rfl
@[go_sem] theorem td_100 : tdOf Try.prog 100 = (.struct [⟨false, 32, 0, 6, true⟩, ⟨false, 29, 6, 1, false⟩, ⟨false, 2, 7, 1, false⟩]) := by kernel_rfl
@[go_sem] theorem z_100 : zeroT Try.prog 100 = some ((.agg [.nilslice, .nilslice, .nilslice, .nilslice, .nilslice, .nilslice, .nilslice, (.int .i64 0)])) := by kernel_rfl
@[go_sem] theorem td_104 : tdOf Try.prog 104 = (.struct [⟨false, 29, 0, 1, false⟩, ⟨false, 29, 1, 1, false⟩, ⟨false, 29, 2, 1, false⟩, ⟨false, 48, 3, 1, false⟩]) := by kernel_rfl
@[go_sem] theorem z_104 : zeroT Try.prog 104 = some ((.agg [.nilslice, .nilslice, .nilslice, .nilslice])) := by kernel_rfl
@[go_sem] theorem td_108 : tdOf Try.prog 108 = (.int .u64) := by kernel_rfl
@[go_sem] theorem ty_108 : tyOf Try.prog 108 = some ((1, (8, false))) := by kernel_rfl
@[go_sem] theorem z_108 : zeroT Try.prog 108 = some ((.int .u64 0)) := by kernel_rfl
@[go_sem] theorem td_116 : tdOf Try.prog 116 = (.int .u32) := by kernel_rfl
@[go_sem] theorem ty_116 : tyOf Try.prog 116 = some ((1, (4, false))) := by kernel_rfl
@[go_sem] theorem td_117 : tdOf Try.prog 117 = (.array 8 116 1 false) := by kernel_rfl
@[go_sem] theorem ty_117 : tyOf Try.prog 117 = some ((8, (32, true))) := by kernel_rfl
@[go_sem] theorem z_117 : zeroT Try.prog 117 = some ((.agg [(.int .u32 0), (.int .u32 0), (.int .u32 0), (.int .u32 0), (.int .u32 0), (.int .u32 0), (.int .u32 0), (.int .u32 0)])) := by kernel_rfl
@[go_sem] theorem td_118 : tdOf Try.prog 118 = (.array 64 116 1 false) := by kernel_rfl
@[go_sem] theorem ty_118 : tyOf Try.prog 118 = some ((64, (256, true))) := by kernel_rfl
@[go_sem] theorem z_118 : zeroT Try.prog 118 = some ((.agg (List.replicate 64 (.int .u32 0)))) := by kernel_rfl
@[go_sem] theorem td_120 : tdOf Try.prog 120 = (.int .u64) := by kernel_rfl
@[go_sem] theorem td_124 : tdOf Try.prog 124 = (.struct [⟨false, 52, 0, 1, false⟩, ⟨false, 4, 1, 1, false⟩]) := by kernel_rfl
@[go_sem] theorem z_124 : zeroT Try.prog 124 = some ((.agg [.nilslice, (.bool false)])) := by kernel_rfl
@[go_sem] theorem td_127 : tdOf Try.prog 127 = (.slice 24 1 24) := by kernel_rfl
@[go_sem] theorem td_136 : tdOf Try.prog 136 = (.slice 86 3 56) := by kernel_rfl
def pl3 : Plans := fun i => match i with | _ => []
def pl9 : Plans := fun i => match i with | 17 => [.pure, .pure, .pure, .pure, .pure, .pure, .pure, .pure, .pure, .pure, .pure, .pure, .pure, .pure, .pure, .eff, .pure, .pure, .pure, .pure, .eff, (.read 2 3), .pure, .eff, .pure, .pure, .pure, .pure, .pure, .eff, .pure, .pure, .pure, (.read 3 4), .pure, .pure] | _ => []
@[go_sem] theorem rs9 : Try.f9.results.toList = [(.tmp 4)] := rfl
theorem ok9 : fnOk Try.prog pl9 Try.f9 = true := by kernel_rfl
def pl10 : Plans := fun i => match i with | 12 => [.pure, .pure, .pure, .pure, .pure, .pure, .pure, .pure, .pure, .pure, .pure, .pure, .pure, .pure, .eff, (.read 1 2), .pure, .eff, .pure, .pure, .pure] | 22 => [.pure, .eff, (.read 1 2), .pure, .eff, .pure, .pure, .pure, .pure, .pure, .pure, .eff, .pure, .pure, (.read 2 3), .pure, .pure, .pure] | 25 => [.pure, .eff, (.read 1 3), (.read 0 1), .eff, .eff, .pure, .pure, .pure] | _ => []
@[go_sem] theorem rs10 : Try.f10.results.toList = [(.tmp 6)] := rfl
theorem ok10 : fnOk Try.prog pl10 Try.f10 = true := by kernel_rfl
def pl13 : Plans := fun i => match i with | 22 => [.pure, .pure, .pure, .pure, .pure, .pure, .pure, .pure, .pure, .eff, (.read 0 1), .pure, .pure, .pure, .pure, .eff, .pure, .pure, .pure, .pure] | _ => []
def pl17 : Plans := fun i => match i with | _ => []
@[go_sem] theorem rs17 : Try.f17.results.toList = [(.cell 2 26), (.tmp 3)] := rfl
theorem ok17 : fnOk Try.prog pl17 Try.f17 = true := by kernel_rfl
def pl19 : Plans := fun i => match i with | 3 => [.alloc, .pure, (.read 0 0), .eff, .pure, (.read 0 1), .eff, .pure, (.read 0 2), .eff, .pure, (.read 0 3), .eff, .pure] | 18 => [.pure, .pure, .pure, .pure, .pure, .pure, .eff, .pure] | 31 => [.pure, .pure, .pure, .pure, .pure, .pure, .pure, .pure, .pure, .pure, .pure] | 42 => [.pure, .pure, (.read 0 1), .pure, .pure, .pure, .pure, .pure, .pure, .eff, .pure, .eff] | 46 => [.pure, .pure, .pure, .pure, .pure, .pure, .pure, .pure, .pure, .pure, .pure, .pure] | _ => []
@[go_sem] theorem rs19 : Try.f19.results.toList = [(.tmp 2), (.tmp 3)] := rfl
theorem ok19 : fnOk Try.prog pl19 Try.f19 = true := by kernel_rfl
def pl23 : Plans := fun i => match i with | _ => []
@[go_sem] theorem rs23 : Try.f23.results.toList = [(.tmp 2), (.tmp 3)] := rfl
theorem ok23 : fnOk Try.prog pl23 Try.f23 = true := by kernel_rfl
def pl24 : Plans := fun i => match i with | 2 => [.pure, .pure, .pure, .pure, .pure, .pure, .pure, .pure, .pure, .pure, .pure, .alloc, .pure, .eff] | _ => []
def pl25 : Plans := fun i => match i with | 3 => [.pure, .pure, .pure, .pure, .pure, .pure, .alloc, .pure, .pure, .pure, .pure, (.read 0 0), (.read 0 0), .alloc, .pure, .pure, .pure, (.read 0 0), .pure, .pure, .alloc, .pure] | _ => []
@[go_sem] theorem rs25 : Try.f25.results.toList = [(.tmp 4), (.tmp 5)] := rfl
theorem ok25 : fnOk Try.prog pl25 Try.f25 = true := by kernel_rfl
def pl26 : Plans := fun i => match i with | _ => []
@[go_sem] theorem rs26 : Try.f26.results.toList = [(.tmp 4)] := rfl
theorem ok26 : fnOk Try.prog pl26 Try.f26 = true := by kernel_rfl
def pl27 : Plans := fun i => match i with | _ => []
@[go_sem] theorem rs27 : Try.f27.results.toList = [] := rfl
theorem ok27 : fnOk Try.prog pl27 Try.f27 = true := by kernel_rfl
def pl28 : Plans := fun i => match i with | _ => []
@[go_sem] theorem rs28 : Try.f28.results.toList = [(.tmp 2)] := rfl
theorem ok28 : fnOk Try.prog pl28 Try.f28 = true := by kernel_rfl
def pl29 : Plans := fun i => match i with | _ => []
@[go_sem] theorem rs29 : Try.f29.results.toList = [(.tmp 2)] := rfl
theorem ok29 : fnOk Try.prog pl29 Try.f29 = true := by kernel_rfl
def pl30 : Plans := fun i => match i with | _ => []
@[go_sem] theorem rs30 : Try.f30.results.toList = [(.tmp 2)] := rfl
theorem ok30 : fnOk Try.prog pl30 Try.f30 = true := by kernel_rfl
def pl31 : Plans := fun i => match i with | _ => []
@[go_sem] theorem rs31 : Try.f31.results.toList = [(.tmp 2)] := rfl
theorem ok31 : fnOk Try.prog pl31 Try.f31 = true := by kernel_rfl
def pl32 : Plans := fun i => match i with | 1 => [.pure, .pure, .pure, .pure, .alloc, .pure, .alloc, .pure] | _ => []
@[go_sem] theorem rs32 : Try.f32.results.toList = [(.tmp 2)] := rfl
theorem ok32 : fnOk Try.prog pl32 Try.f32 = true := by kernel_rfl
def pl33 : Plans := fun i => match i with | 11 => [.pure, .pure, .pure, .pure, .pure, .pure, .pure, .pure, .pure, .pure, .pure, .pure, .pure, .eff] | 13 => [.pure, .pure, .pure, .pure, .pure, .pure, .pure, .pure, .pure, .eff] | 15 => [.pure, .pure, .pure, .pure, .pure, .pure, .pure, .pure, .pure, .pure, .pure, .pure, .eff] | 17 => [.pure, .pure, .pure, .pure, .pure, .pure, .pure, .pure, .pure, .pure, .pure, .pure, .eff] | 19 => [.pure, .pure, .pure, .pure, .pure, .pure, .pure, .pure, .pure, .eff] | 21 => [.pure, .pure, .pure, .pure, .pure, .pure, .pure, .pure, .pure, .eff] | 23 => [.pure, .pure, (.read 0 2), .pure, .eff, .pure, .pure, (.read 0 1), .pure, (.read 0 1), .alloc, .eff, .pure, .eff] | 25 => [.pure, .pure, (.read 0 2), .pure, .eff, .pure, .pure, (.read 0 1), .pure, (.read 0 1), .pure, .pure, (.read 0 1), .pure, (.read 0 1), .alloc, .eff, .pure, .eff] | _ => []
@[go_sem] theorem rs33 : Try.f33.results.toList = [(.tmp 4), (.tmp 5)] := rfl
theorem ok33 : fnOk Try.prog pl33 Try.f33 = true := by kernel_rfl
def pl34 : Plans := fun i => match i with | 6 => [.pure, .pure, .pure, .pure, .pure, .pure, .pure, .pure, .pure] | _ => []
@[go_sem] theorem rs34 : Try.f34.results.toList = [(.tmp 4)] := rfl
theorem ok34 : fnOk Try.prog pl34 Try.f34 = true := by kernel_rfl
def pl35 : Plans := fun i => match i with | _ => []
@[go_sem] theorem rs35 : Try.f35.results.toList = [(.tmp 2)] := rfl
theorem ok35 : fnOk Try.prog pl35 Try.f35 = true := by kernel_rfl
def pl36 : Plans := fun i => match i with | _ => []
@[go_sem] theorem rs36 : Try.f36.results.toList = [(.cell 2 64)] := rfl
theorem ok36 : fnOk Try.prog pl36 Try.f36 = true := by kernel_rfl
def pl37 : Plans := fun i => match i with | 22 => [.pure, .pure, .pure, .pure, .pure, .pure, .pure, .eff, .eff] | _ => []
@[go_sem] theorem rs37 : Try.f37.results.toList = [(.cell 2 64)] := rfl
theorem ok37 : fnOk Try.prog pl37 Try.f37 = true := by kernel_rfl
def pl38 : Plans := fun i => match i with | _ => []
@[go_sem] theorem rs38 : Try.f38.results.toList = [(.tmp 4)] := rfl
theorem ok38 : fnOk Try.prog pl38 Try.f38 = true := by kernel_rfl
def pl39 : Plans := fun i => match i with | 1 => [.pure, .pure, .pure, (.read 0 1), .pure, .pure, .pure, .pure, .eff, .pure, .pure, .pure, (.read 0 1), .pure, .alloc, .pure] | _ => []
@[go_sem] theorem rs39 : Try.f39.results.toList = [(.tmp 2)] := rfl
theorem ok39 : fnOk Try.prog pl39 Try.f39 = true := by kernel_rfl
def pl40 : Plans := fun i => match i with | 10 => [.pure, .pure, .pure, .pure, .pure, .pure, .pure, .pure] | _ => []
@[go_sem] theorem rs40 : Try.f40.results.toList = [(.tmp 4)] := rfl
theorem ok40 : fnOk Try.prog pl40 Try.f40 = true := by kernel_rfl
def pl41 : Plans := fun i => match i with | _ => []
@[go_sem] theorem rs41 : Try.f41.results.toList = [(.tmp 2)] := rfl
theorem ok41 : fnOk Try.prog pl41 Try.f41 = true := by kernel_rfl
def pl42 : Plans := fun i => match i with | _ => []
@[go_sem] theorem rs42 : Try.f42.results.toList = [(.tmp 6)] := rfl
theorem ok42 : fnOk Try.prog pl42 Try.f42 = true := by kernel_rfl
def pl43 : Plans := fun i => match i with | 7 => [.pure, .pure, .pure, .pure, .pure, .pure, .pure, .pure, .pure, .pure, .pure, .pure, .pure, .pure] | 9 => [.pure, .pure, .pure, .pure, .pure, .pure, .pure, .pure, .pure, .pure, .pure, .pure, .pure, .pure] | 11 => [.pure, .pure, .pure, .pure, .pure, .pure, .pure, .pure, .pure, .pure, .pure, .pure, .pure, .pure] | 13 => [.pure, .pure, .pure, .pure, .pure, .pure, .pure, .pure, .pure, .pure, .pure, .pure, .pure, .pure] | 15 => [.pure, .pure, .pure, .pure, .pure, .pure, .pure, .pure, .pure, .pure, .pure, .pure, .pure, .pure] | 27 => [.pure, .pure, .pure, .alloc, .eff, .pure, .pure, (.read 1 1), .pure, (.read 1 1), .pure, (.read 1 1), .pure, (.read 1 1), .pure, (.read 1 1), .pure, (.read 1 1), .pure, .pure, .pure] | _ => []
@[go_sem] theorem rs43 : Try.f43.results.toList = [(.tmp 4)] := rfl
theorem ok43 : fnOk Try.prog pl43 Try.f43 = true := by kernel_rfl
def pl44 : Plans := fun i => match i with | 3 => [.pure, .pure, .pure, .pure, .pure, .pure, .pure, .pure, .eff, .pure, .pure, .pure, .pure, (.read 0 1), (.read 0 1), .eff, .pure, .eff] | 13 => [.pure, .pure, .pure, .pure, .pure, .eff] | 15 => [.pure, .pure, .pure, .pure, .pure, .eff] | 18 => [.pure, .pure, .pure, .pure, .pure, .eff] | _ => []
@[go_sem] theorem rs44 : Try.f44.results.toList = [(.tmp 2), (.cell 3 86)] := rfl
theorem ok44 : fnOk Try.prog pl44 Try.f44 = true := by kernel_rfl
def pl45 : Plans := fun i => match i with | _ => []
@[go_sem] theorem rs45 : Try.f45.results.toList = [(.tmp 4)] := rfl
theorem ok45 : fnOk Try.prog pl45 Try.f45 = true := by kernel_rfl
def pl46 : Plans := fun i => match i with | 8 => [.pure, .pure, .pure, .pure, .pure, .pure, .pure, .eff, .pure] | _ => []
@[go_sem] theorem rs46 : Try.f46.results.toList = [(.tmp 4)] := rfl
theorem ok46 : fnOk Try.prog pl46 Try.f46 = true := by kernel_rfl
def pl47 : Plans := fun i => match i with | 6 => [.pure, .pure, .pure, .pure, .pure, .pure, .pure, .pure, .pure, .pure, .pure, .pure] | 8 => [.pure, .pure, .pure, .pure, .pure, .pure, .pure, .pure, .pure, .pure, .pure, .pure, .pure] | 10 => [.pure, .pure, .pure, .pure, .pure, .pure, .pure, .pure, .pure, .pure, .pure, .pure, .pure] | 12 => [.pure, .pure, .pure, .pure, .pure, .pure, .pure, .pure, .pure, .pure, .pure, .pure, .pure] | 14 => [.pure, .pure, .pure, .pure, .pure, .pure, .pure, .pure, .pure, .pure, .pure, .pure, .pure] | 22 => [.pure, .pure, .pure, .pure, .pure, .pure, .pure, .pure, .pure, .pure, .pure, .pure, .pure, .pure, .pure, .pure, .pure, .pure, .pure, .pure] | _ => []
@[go_sem] theorem rs47 : Try.f47.results.toList = [(.tmp 4)] := rfl
theorem ok47 : fnOk Try.prog pl47 Try.f47 = true := by kernel_rfl
def pl48 : Plans := fun i => match i with | _ => []
@[go_sem] theorem rs48 : Try.f48.results.toList = [(.tmp 2)] := rfl
theorem ok48 : fnOk Try.prog pl48 Try.f48 = true := by kernel_rfl
def pl49 : Plans := fun i => match i with | _ => []
@[go_sem] theorem rs49 : Try.f49.results.toList = [(.tmp 2)] := rfl
theorem ok49 : fnOk Try.prog pl49 Try.f49 = true := by kernel_rfl
def pl50 : Plans := fun i => match i with | _ => []
@[go_sem] theorem rs50 : Try.f50.results.toList = [(.tmp 4)] := rfl
theorem ok50 : fnOk Try.prog pl50 Try.f50 = true := by kernel_rfl
def pl51 : Plans := fun i => match i with | 1 => [.pure, .pure, .eff, .pure, (.read 0 1), .eff, .pure, (.read 0 2), .eff, .pure, (.read 0 3), .eff, .pure, (.read 0 4), .eff, .pure, (.read 0 5), .eff, .pure, .eff] | _ => []
@[go_sem] theorem rs51 : Try.f51.results.toList = [(.cell 2 32)] := rfl
theorem ok51 : fnOk Try.prog pl51 Try.f51 = true := by kernel_rfl
def pl52 : Plans := fun i => match i with | _ => []
@[go_sem] theorem rs52 : Try.f52.results.toList = [(.tmp 4)] := rfl
theorem ok52 : fnOk Try.prog pl52 Try.f52 = true := by kernel_rfl
def pl53 : Plans := fun i => match i with | 5 => [.pure, .pure, .pure, .pure, .pure, .pure, .pure, .pure, .pure, .pure, .pure, .pure, .pure, .eff] | 7 => [.pure, .pure, .pure, .pure, .pure, .pure, .pure, .pure, .pure, .pure, .pure, .pure, .pure, .pure, .pure, .eff] | 9 => [.pure, .pure, .pure, .pure, .pure, .pure, .pure, .pure, .pure, .pure, .pure, .pure, .pure, .pure, .pure, .eff] | 11 => [.pure, .pure, .pure, .pure, .pure, .pure, .pure, .pure, .pure, .pure, .pure, .pure, .pure, .pure, .pure, .eff] | 13 => [.pure, .pure, .pure, .pure, .pure, .pure, .pure, .pure, .pure, .pure, .pure, .pure, .pure, .pure, .pure, .eff] | 15 => [.pure, .pure, .pure, .pure, .pure, .pure, .pure, .pure, .pure, .pure, .pure, .pure, .pure, .pure, .pure, .eff] | 17 => [.pure, .pure, .pure, .pure, .pure, .pure, .pure, .pure, .pure, .pure, .pure, .pure, .pure, .pure, .pure, .pure, .eff] | 19 => [.pure, .pure, .pure, .pure, .pure, .pure, .pure, .pure, .pure, .pure, .pure, .pure, .pure, .pure, .pure, .pure, .eff] | 21 => [.pure, .pure, .pure, .pure, .pure, .pure, .pure, .pure, .pure] | 3 => [.pure, .pure, .pure, (.read 0 1), .pure, (.read 0 1), .pure, .pure, .pure, .pure, .pure, .pure, .pure, .pure, .pure, .pure, .pure, .pure, .pure, .pure, .pure, .pure, .pure, .pure, .eff, .pure, .eff] | _ => []
@[go_sem] theorem rs53 : Try.f53.results.toList = [(.tmp 6)] := rfl
theorem ok53 : fnOk Try.prog pl53 Try.f53 = true := by kernel_rfl
def pl54 : Plans := fun i => match i with | _ => []
@[go_sem] theorem rs54 : Try.f54.results.toList = [(.tmp 2)] := rfl
theorem ok54 : fnOk Try.prog pl54 Try.f54 = true := by kernel_rfl
def pl55 : Plans := fun i => match i with | _ => []
@[go_sem] theorem rs55 : Try.f55.results.toList = [(.tmp 2)] := rfl
theorem ok55 : fnOk Try.prog pl55 Try.f55 = true := by kernel_rfl
def pl56 : Plans := fun i => match i with | _ => []
@[go_sem] theorem rs56 : Try.f56.results.toList = [(.tmp 2)] := rfl
theorem ok56 : fnOk Try.prog pl56 Try.f56 = true := by kernel_rfl
def pl57 : Plans := fun i => match i with | _ => []
@[go_sem] theorem rs57 : Try.f57.results.toList = [(.tmp 2)] := rfl
theorem ok57 : fnOk Try.prog pl57 Try.f57 = true := by kernel_rfl
def pl58 : Plans := fun i => match i with | _ => []
@[go_sem] theorem rs58 : Try.f58.results.toList = [(.tmp 2)] := rfl
theorem ok58 : fnOk Try.prog pl58 Try.f58 = true := by kernel_rfl
def pl59 : Plans := fun i => match i with | _ => []
@[go_sem] theorem rs59 : Try.f59.results.toList = [(.tmp 4)] := rfl
theorem ok59 : fnOk Try.prog pl59 Try.f59 = true := by kernel_rfl
def pl60 : Plans := fun i => match i with | _ => []
@[go_sem] theorem rs60 : Try.f60.results.toList = [(.tmp 4)] := rfl
theorem ok60 : fnOk Try.prog pl60 Try.f60 = true := by kernel_rfl
def pl61 : Plans := fun i => match i with | _ => []
@[go_sem] theorem rs61 : Try.f61.results.toList = [(.tmp 4)] := rfl
theorem ok61 : fnOk Try.prog pl61 Try.f61 = true := by kernel_rfl
def pl62 : Plans := fun i => match i with | _ => []
@[go_sem] theorem rs62 : Try.f62.results.toList = [(.tmp 2)] := rfl
theorem ok62 : fnOk Try.prog pl62 Try.f62 = true := by kernel_rfl
def pl63 : Plans := fun i => match i with | _ => []
@[go_sem] theorem rs63 : Try.f63.results.toList = [(.tmp 4)] := rfl
theorem ok63 : fnOk Try.prog pl63 Try.f63 = true := by kernel_rfl
def pl64 : Plans := fun i => match i with | _ => []
@[go_sem] theorem rs64 : Try.f64.results.toList = [(.tmp 4)] := rfl
theorem ok64 : fnOk Try.prog pl64 Try.f64 = true := by kernel_rfl
def pl65 : Plans := fun i => match i with | _ => []
@[go_sem] theorem rs65 : Try.f65.results.toList = [(.cell 2 64)] := rfl
theorem ok65 : fnOk Try.prog pl65 Try.f65 = true := by kernel_rfl
def pl69 : Plans := fun i => match i with | _ => []
@[go_sem] theorem rs69 : Try.f69.results.toList = [(.tmp 2)] := rfl
theorem ok69 : fnOk Try.prog pl69 Try.f69 = true := by kernel_rfl
def pl70 : Plans := fun i => match i with | _ => []
@[go_sem] theorem rs70 : Try.f70.results.toList = [(.tmp 2)] := rfl
theorem ok70 : fnOk Try.prog pl70 Try.f70 = true := by kernel_rfl
def pl71 : Plans := fun i => match i with | _ => []
@[go_sem] theorem rs71 : Try.f71.results.toList = [(.tmp 2)] := rfl
theorem ok71 : fnOk Try.prog pl71 Try.f71 = true := by kernel_rfl
def pl72 : Plans := fun i => match i with | _ => []
@[go_sem] theorem rs72 : Try.f72.results.toList = [(.tmp 2)] := rfl
theorem ok72 : fnOk Try.prog pl72 Try.f72 = true := by kernel_rfl
def pl73 : Plans := fun i => match i with | _ => []
@[go_sem] theorem rs73 : Try.f73.results.toList = [(.tmp 4)] := rfl
theorem ok73 : fnOk Try.prog pl73 Try.f73 = true := by kernel_rfl
def pl74 : Plans := fun i => match i with | _ => []
@[go_sem] theorem rs74 : Try.f74.results.toList = [(.tmp 2)] := rfl
theorem ok74 : fnOk Try.prog pl74 Try.f74 = true := by kernel_rfl
def pl75 : Plans := fun i => match i with | _ => []
@[go_sem] theorem rs75 : Try.f75.results.toList = [(.tmp 3)] := rfl
theorem ok75 : fnOk Try.prog pl75 Try.f75 = true := by kernel_rfl
def pl76 : Plans := fun i => match i with | _ => []
@[go_sem] theorem rs76 : Try.f76.results.toList = [(.tmp 4)] := rfl
theorem ok76 : fnOk Try.prog pl76 Try.f76 = true := by kernel_rfl
def pl77 : Plans := fun i => match i with | _ => []
@[go_sem] theorem rs77 : Try.f77.results.toList = [(.tmp 4)] := rfl
theorem ok77 : fnOk Try.prog pl77 Try.f77 = true := by kernel_rfl
def pl78 : Plans := fun i => match i with | _ => []
@[go_sem] theorem rs78 : Try.f78.results.toList = [(.tmp 6)] := rfl
theorem ok78 : fnOk Try.prog pl78 Try.f78 = true := by kernel_rfl
def pl79 : Plans := fun i => match i with | _ => []
@[go_sem] theorem rs79 : Try.f79.results.toList = [(.tmp 2)] := rfl
theorem ok79 : fnOk Try.prog pl79 Try.f79 = true := by kernel_rfl
def pl80 : Plans := fun i => match i with | _ => []
@[go_sem] theorem rs80 : Try.f80.results.toList = [(.tmp 5)] := rfl
theorem ok80 : fnOk Try.prog pl80 Try.f80 = true := by kernel_rfl
def pl81 : Plans := fun i => match i with | _ => []
@[go_sem] theorem rs81 : Try.f81.results.toList = [(.tmp 4)] := rfl
theorem ok81 : fnOk Try.prog pl81 Try.f81 = true := by kernel_rfl
def pl82 : Plans := fun i => match i with | 1 => [.pure, .pure, .pure, .pure, .pure, .pure, .pure, .pure] | _ => []
@[go_sem] theorem rs82 : Try.f82.results.toList = [(.tmp 4)] := rfl
theorem ok82 : fnOk Try.prog pl82 Try.f82 = true := by kernel_rfl
def pl83 : Plans := fun i => match i with | 2 => [.pure, .pure, .pure, .eff, .pure, (.read 0 1), .eff, .pure, .pure, .eff] | 6 => [.pure, .pure, .pure, .pure, .pure, .pure, .pure, .pure, .pure, .pure, .pure, .pure, .pure, .pure, .eff] | 11 => [.pure, .pure, .pure, .pure, .pure, .pure, .pure, .pure, .pure, .pure, .pure, .pure, .pure, .pure, .eff] | _ => []
@[go_sem] theorem rs83 : Try.f83.results.toList = [] := rfl
theorem ok83 : fnOk Try.prog pl83 Try.f83 = true := by kernel_rfl
def pl84 : Plans := fun i => match i with | _ => []
@[go_sem] theorem rs84 : Try.f84.results.toList = [(.tmp 2)] := rfl
theorem ok84 : fnOk Try.prog pl84 Try.f84 = true := by kernel_rfl
def pl85 : Plans := fun i => match i with | _ => []
@[go_sem] theorem rs85 : Try.f85.results.toList = [(.tmp 2)] := rfl
theorem ok85 : fnOk Try.prog pl85 Try.f85 = true := by kernel_rfl
def pl86 : Plans := fun i => match i with | _ => []
@[go_sem] theorem rs86 : Try.f86.results.toList = [(.tmp 3)] := rfl
theorem ok86 : fnOk Try.prog pl86 Try.f86 = true := by kernel_rfl
def pl87 : Plans := fun i => match i with | 4 => [.pure, .pure, .pure, .pure, .pure, .pure, .eff] | 2 => [.pure, .pure, .pure, .pure, .pure, .pure, .eff] | _ => []
@[go_sem] theorem rs87 : Try.f87.results.toList = [] := rfl
theorem ok87 : fnOk Try.prog pl87 Try.f87 = true := by kernel_rfl
def pl88 : Plans := fun i => match i with | _ => []
@[go_sem] theorem rs88 : Try.f88.results.toList = [(.tmp 2)] := rfl
theorem ok88 : fnOk Try.prog pl88 Try.f88 = true := by kernel_rfl
def pl89 : Plans := fun i => match i with | _ => []
@[go_sem] theorem rs89 : Try.f89.results.toList = [(.tmp 4)] := rfl
theorem ok89 : fnOk Try.prog pl89 Try.f89 = true := by kernel_rfl
def pl90 : Plans := fun i => match i with | _ => []
@[go_sem] theorem rs90 : Try.f90.results.toList = [(.tmp 2)] := rfl
theorem ok90 : fnOk Try.prog pl90 Try.f90 = true := by kernel_rfl
def pl91 : Plans := fun i => match i with | _ => []
@[go_sem] theorem rs91 : Try.f91.results.toList = [(.tmp 2)] := rfl
theorem ok91 : fnOk Try.prog pl91 Try.f91 = true := by kernel_rfl
def pl92 : Plans := fun i => match i with | _ => []
@[go_sem] theorem rs92 : Try.f92.results.toList = [(.tmp 6)] := rfl
theorem ok92 : fnOk Try.prog pl92 Try.f92 = true := by kernel_rfl
def pl93 : Plans := fun i => match i with | _ => []
@[go_sem] theorem rs93 : Try.f93.results.toList = [] := rfl
theorem ok93 : fnOk Try.prog pl93 Try.f93 = true := by kernel_rfl
def pl94 : Plans := fun i => match i with | _ => []
@[go_sem] theorem rs94 : Try.f94.results.toList = [(.tmp 0)] := rfl
theorem ok94 : fnOk Try.prog pl94 Try.f94 = true := by kernel_rfl
def pl95 : Plans := fun i => match i with | _ => []
@[go_sem] theorem rs95 : Try.f95.results.toList = [] := rfl
theorem ok95 : fnOk Try.prog pl95 Try.f95 = true := by kernel_rfl
def pl96 : Plans := fun i => match i with | _ => []
@[go_sem] theorem rs96 : Try.f96.results.toList = [(.cell 2 64)] := rfl
theorem ok96 : fnOk Try.prog pl96 Try.f96 = true := by kernel_rfl
def pl99 : Plans := fun i => match i with | _ => []
@[go_sem] theorem rs99 : Try.f99.results.toList = [(.tmp 2)] := rfl
theorem ok99 : fnOk Try.prog pl99 Try.f99 = true := by kernel_rfl
def pl100 : Plans := fun i => match i with | _ => []
@[go_sem] theorem rs100 : Try.f100.results.toList = [(.tmp 4)] := rfl
theorem ok100 : fnOk Try.prog pl100 Try.f100 = true := by kernel_rfl
def pl101 : Plans := fun i => match i with | _ => []
@[go_sem] theorem rs101 : Try.f101.results.toList = [(.tmp 4)] := rfl
theorem ok101 : fnOk Try.prog pl101 Try.f101 = true := by kernel_rfl
def pl102 : Plans := fun i => match i with | _ => []
@[go_sem] theorem rs102 : Try.f102.results.toList = [(.tmp 2)] := rfl
theorem ok102 : fnOk Try.prog pl102 Try.f102 = true := by kernel_rfl
def pl103 : Plans := fun i => match i with | 0 => [.pure, .pure, .pure, .pure, .pure, .pure, .pure, .pure, .pure, .pure, .eff] | _ => []
@[go_sem] theorem rs103 : Try.f103.results.toList = [] := rfl
theorem ok103 : fnOk Try.prog pl103 Try.f103 = true := by kernel_rfl
def pl104 : Plans := fun i => match i with | _ => []
@[go_sem] theorem rs104 : Try.f104.results.toList = [(.tmp 0), (.tmp 1)] := rfl
theorem ok104 : fnOk Try.prog pl104 Try.f104 = true := by kernel_rfl
def pl105 : Plans := fun i => match i with | _ => []
@[go_sem] theorem rs105 : Try.f105.results.toList = [(.tmp 2)] := rfl
theorem ok105 : fnOk Try.prog pl105 Try.f105 = true := by kernel_rfl
def pl106 : Plans := fun i => match i with | 2 => [.pure, .pure, .pure, .eff, .eff] | _ => []
@[go_sem] theorem rs106 : Try.f106.results.toList = [(.cell 4 117), (.tmp 5)] := rfl
theorem ok106 : fnOk Try.prog pl106 Try.f106 = true := by kernel_rfl
attribute [go_sem] pl3 pl9 pl10 pl13 pl17 pl19 pl23 pl24 pl25 pl26 pl27 pl28 pl29 pl30 pl31 pl32 pl33 pl34 pl35 pl36 pl37 pl38 pl39 pl40 pl41 pl42 pl43 pl44 pl45 pl46 pl47 pl48 pl49 pl50 pl51 pl52 pl53 pl54 pl55 pl56 pl57 pl58 pl59 pl60 pl61 pl62 pl63 pl64 pl65 pl69 pl70 pl71 pl72 pl73 pl74 pl75 pl76 pl77 pl78 pl79 pl80 pl81 pl82 pl83 pl84 pl85 pl86 pl87 pl88 pl89 pl90 pl91 pl92 pl93 pl94 pl95 pl96 pl99 pl100 pl101 pl102 pl103 pl104 pl105 pl106
end Go.Proofs.Ytjljolnhmmbkoaa
namespace Go.Proofs.Ytjljolnhmmbkoaa
open Go.Eng
set_option autoImplicit false
set_option maxRecDepth 100000
@[go_sem] theorem td_144 : tdOf Try.prog 144 = (.struct [⟨false, 52, 0, 1, false⟩, ⟨false, 4, 1, 1, false⟩]) := by kernel_rfl
@[go_sem] theorem z_144 : zeroT Try.prog 144 = some ((.agg [.nilslice, (.bool false)])) := by kernel_rfl
@[go_sem] theorem td_158 : tdOf Try.prog 158 = (.struct [⟨false, 117, 0, 8, true⟩, ⟨false, 52, 8, 1, false⟩, ⟨false, 108, 9, 1, false⟩]) := by kernel_rfl
@[go_sem] theorem z_158 : zeroT Try.prog 158 = some ((.agg [(.int .u32 0), (.int .u32 0), (.int .u32 0), (.int .u32 0), (.int .u32 0), (.int .u32 0), (.int .u32 0), (.int .u32 0), .nilslice, (.int .u64 0)])) := by kernel_rfl
end Go.Proofs.Ytjljolnhmmbkoaa
