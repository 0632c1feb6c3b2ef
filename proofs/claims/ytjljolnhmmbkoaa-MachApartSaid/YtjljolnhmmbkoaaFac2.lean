/- What is proved: more of the program's types, as the calculus asks them. Conditions: as each theorem says. -/
import Derived.Test.YtjljolnhmmbkoaaFacts
set_option linter.unusedVariables false
set_option linter.unusedSimpArgs false
set_option linter.unusedSectionVars false
namespace Go.Proofs.Ytjljolnhmmbkoaa
open Go.Eng
set_option autoImplicit false
set_option maxRecDepth 100000
@[go_sem] theorem td_143 : tdOf Try.prog 143 = (.struct [⟨false, 52, 0, 1, false⟩, ⟨false, 4, 1, 1, false⟩]) := by kernel_rfl
@[go_sem] theorem ty_143 : tyOf Try.prog 143 = some ((2, (32, true))) := by kernel_rfl
@[go_sem] theorem z_143 : zeroT Try.prog 143 = some ((.agg [.nilslice, (.bool false)])) := by kernel_rfl
@[go_sem] theorem td_144 : tdOf Try.prog 144 = (.struct [⟨false, 52, 0, 1, false⟩, ⟨false, 4, 1, 1, false⟩]) := by kernel_rfl
@[go_sem] theorem ty_144 : tyOf Try.prog 144 = some ((2, (32, true))) := by kernel_rfl
@[go_sem] theorem z_144 : zeroT Try.prog 144 = some ((.agg [.nilslice, (.bool false)])) := by kernel_rfl
@[go_sem] theorem td_145 : tdOf Try.prog 145 = .ptr := by kernel_rfl
@[go_sem] theorem ty_145 : tyOf Try.prog 145 = some ((1, (8, false))) := by kernel_rfl
@[go_sem] theorem z_145 : zeroT Try.prog 145 = some (.nilptr) := by kernel_rfl
@[go_sem] theorem td_152 : tdOf Try.prog 152 = .ptr := by kernel_rfl
@[go_sem] theorem ty_152 : tyOf Try.prog 152 = some ((1, (8, false))) := by kernel_rfl
@[go_sem] theorem z_152 : zeroT Try.prog 152 = some (.nilptr) := by kernel_rfl
@[go_sem] theorem td_157 : tdOf Try.prog 157 = (.struct [⟨false, 117, 0, 8, true⟩, ⟨false, 52, 8, 1, false⟩, ⟨false, 108, 9, 1, false⟩]) := by kernel_rfl
@[go_sem] theorem ty_157 : tyOf Try.prog 157 = some ((10, (64, true))) := by kernel_rfl
@[go_sem] theorem z_157 : zeroT Try.prog 157 = some ((.agg [(.int .u32 0), (.int .u32 0), (.int .u32 0), (.int .u32 0), (.int .u32 0), (.int .u32 0), (.int .u32 0), (.int .u32 0), .nilslice, (.int .u64 0)])) := by kernel_rfl
@[go_sem] theorem td_158 : tdOf Try.prog 158 = (.struct [⟨false, 117, 0, 8, true⟩, ⟨false, 52, 8, 1, false⟩, ⟨false, 108, 9, 1, false⟩]) := by kernel_rfl
@[go_sem] theorem ty_158 : tyOf Try.prog 158 = some ((10, (64, true))) := by kernel_rfl
@[go_sem] theorem z_158 : zeroT Try.prog 158 = some ((.agg [(.int .u32 0), (.int .u32 0), (.int .u32 0), (.int .u32 0), (.int .u32 0), (.int .u32 0), (.int .u32 0), (.int .u32 0), .nilslice, (.int .u64 0)])) := by kernel_rfl
end Go.Proofs.Ytjljolnhmmbkoaa
