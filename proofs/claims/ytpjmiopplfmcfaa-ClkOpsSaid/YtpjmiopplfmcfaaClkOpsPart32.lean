/- What is proved: some of the cases of ClkOps, worked out. Conditions: none. -/
import Derived.Test.YtpjmiopplfmcfaaClkOpsBase
namespace Go.Proofs.Ytpjmiopplfmcfaa.clkOps
set_option linter.unusedVariables false
theorem part320 : each (.int .i64 3) (.int .i64 3) (.int .i64 3) = true := by kernel_rfl
theorem part321 : each (.int .i64 3) (.int .i64 3) (.int .i64 4) = true := by kernel_rfl
theorem part322 : each (.int .i64 3) (.int .i64 4) (.rng .i64 9223372036854775808 18446744073709551615) = true := by kernel_rfl
theorem part323 : each (.int .i64 3) (.int .i64 4) (.rng .i64 5 9223372036854775807) = true := by kernel_rfl
theorem part324 : each (.int .i64 3) (.int .i64 4) (.int .i64 0) = true := by kernel_rfl
theorem part325 : each (.int .i64 3) (.int .i64 4) (.int .i64 1) = true := by kernel_rfl
theorem part326 : each (.int .i64 3) (.int .i64 4) (.int .i64 2) = true := by kernel_rfl
theorem part327 : each (.int .i64 3) (.int .i64 4) (.int .i64 3) = true := by kernel_rfl
theorem part328 : each (.int .i64 3) (.int .i64 4) (.int .i64 4) = true := by kernel_rfl
theorem part329 : each (.int .i64 3) (.int .i64 5) (.rng .i64 9223372036854775808 18446744073709551615) = true := by kernel_rfl
end Go.Proofs.Ytpjmiopplfmcfaa.clkOps
