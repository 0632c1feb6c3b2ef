/- What is proved: some of the cases of ClkOps, worked out. Conditions: none. -/
import Derived.Test.YtpjmiopplfmcfaaClkOpsBase
namespace Go.Proofs.Ytpjmiopplfmcfaa.clkOps
set_option linter.unusedVariables false
theorem part240 : each (.int .i64 2) (.int .i64 0) (.int .i64 0) = true := by kernel_rfl
theorem part241 : each (.int .i64 2) (.int .i64 0) (.int .i64 1) = true := by kernel_rfl
theorem part242 : each (.int .i64 2) (.int .i64 0) (.int .i64 2) = true := by kernel_rfl
theorem part243 : each (.int .i64 2) (.int .i64 0) (.int .i64 3) = true := by kernel_rfl
theorem part244 : each (.int .i64 2) (.int .i64 0) (.int .i64 4) = true := by kernel_rfl
theorem part245 : each (.int .i64 2) (.int .i64 1) (.rng .i64 9223372036854775808 18446744073709551615) = true := by kernel_rfl
theorem part246 : each (.int .i64 2) (.int .i64 1) (.rng .i64 5 9223372036854775807) = true := by kernel_rfl
theorem part247 : each (.int .i64 2) (.int .i64 1) (.int .i64 0) = true := by kernel_rfl
theorem part248 : each (.int .i64 2) (.int .i64 1) (.int .i64 1) = true := by kernel_rfl
theorem part249 : each (.int .i64 2) (.int .i64 1) (.int .i64 2) = true := by kernel_rfl
end Go.Proofs.Ytpjmiopplfmcfaa.clkOps
