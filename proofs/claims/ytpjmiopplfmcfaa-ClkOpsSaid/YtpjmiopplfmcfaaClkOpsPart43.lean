/- What is proved: some of the cases of ClkOps, worked out. Conditions: none. -/
import Derived.Test.YtpjmiopplfmcfaaClkOpsBase
namespace Go.Proofs.Ytpjmiopplfmcfaa.clkOps
set_option linter.unusedVariables false
theorem part430 : each (.int .i64 5) (.int .i64 3) (.int .i64 1) = true := by kernel_rfl
theorem part431 : each (.int .i64 5) (.int .i64 3) (.int .i64 2) = true := by kernel_rfl
theorem part432 : each (.int .i64 5) (.int .i64 3) (.int .i64 3) = true := by kernel_rfl
theorem part433 : each (.int .i64 5) (.int .i64 3) (.int .i64 4) = true := by kernel_rfl
theorem part434 : each (.int .i64 5) (.int .i64 4) (.rng .i64 9223372036854775808 18446744073709551615) = true := by kernel_rfl
theorem part435 : each (.int .i64 5) (.int .i64 4) (.rng .i64 5 9223372036854775807) = true := by kernel_rfl
theorem part436 : each (.int .i64 5) (.int .i64 4) (.int .i64 0) = true := by kernel_rfl
theorem part437 : each (.int .i64 5) (.int .i64 4) (.int .i64 1) = true := by kernel_rfl
theorem part438 : each (.int .i64 5) (.int .i64 4) (.int .i64 2) = true := by kernel_rfl
theorem part439 : each (.int .i64 5) (.int .i64 4) (.int .i64 3) = true := by kernel_rfl
end Go.Proofs.Ytpjmiopplfmcfaa.clkOps
