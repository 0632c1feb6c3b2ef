/- What is proved: some of the cases of ClkOps, worked out. Conditions: none. -/
import Derived.Test.YtpjmiopplfmcfaaClkOpsBase
namespace Go.Proofs.Ytpjmiopplfmcfaa.clkOps
set_option linter.unusedVariables false
theorem part190 : each (.int .i64 1) (.int .i64 1) (.rng .i64 5 9223372036854775807) = true := by kernel_rfl
theorem part191 : each (.int .i64 1) (.int .i64 1) (.int .i64 0) = true := by kernel_rfl
theorem part192 : each (.int .i64 1) (.int .i64 1) (.int .i64 1) = true := by kernel_rfl
theorem part193 : each (.int .i64 1) (.int .i64 1) (.int .i64 2) = true := by kernel_rfl
theorem part194 : each (.int .i64 1) (.int .i64 1) (.int .i64 3) = true := by kernel_rfl
theorem part195 : each (.int .i64 1) (.int .i64 1) (.int .i64 4) = true := by kernel_rfl
theorem part196 : each (.int .i64 1) (.int .i64 2) (.rng .i64 9223372036854775808 18446744073709551615) = true := by kernel_rfl
theorem part197 : each (.int .i64 1) (.int .i64 2) (.rng .i64 5 9223372036854775807) = true := by kernel_rfl
theorem part198 : each (.int .i64 1) (.int .i64 2) (.int .i64 0) = true := by kernel_rfl
theorem part199 : each (.int .i64 1) (.int .i64 2) (.int .i64 1) = true := by kernel_rfl
end Go.Proofs.Ytpjmiopplfmcfaa.clkOps
