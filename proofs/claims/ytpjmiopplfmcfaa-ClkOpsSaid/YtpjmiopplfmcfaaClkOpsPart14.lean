/- What is proved: some of the cases of ClkOps, worked out. Conditions: none. -/
import Derived.Test.YtpjmiopplfmcfaaClkOpsBase
namespace Go.Proofs.Ytpjmiopplfmcfaa.clkOps
set_option linter.unusedVariables false
theorem part140 : each (.int .i64 0) (.int .i64 2) (.rng .i64 9223372036854775808 18446744073709551615) = true := by kernel_rfl
theorem part141 : each (.int .i64 0) (.int .i64 2) (.rng .i64 5 9223372036854775807) = true := by kernel_rfl
theorem part142 : each (.int .i64 0) (.int .i64 2) (.int .i64 0) = true := by kernel_rfl
theorem part143 : each (.int .i64 0) (.int .i64 2) (.int .i64 1) = true := by kernel_rfl
theorem part144 : each (.int .i64 0) (.int .i64 2) (.int .i64 2) = true := by kernel_rfl
theorem part145 : each (.int .i64 0) (.int .i64 2) (.int .i64 3) = true := by kernel_rfl
theorem part146 : each (.int .i64 0) (.int .i64 2) (.int .i64 4) = true := by kernel_rfl
theorem part147 : each (.int .i64 0) (.int .i64 3) (.rng .i64 9223372036854775808 18446744073709551615) = true := by kernel_rfl
theorem part148 : each (.int .i64 0) (.int .i64 3) (.rng .i64 5 9223372036854775807) = true := by kernel_rfl
theorem part149 : each (.int .i64 0) (.int .i64 3) (.int .i64 0) = true := by kernel_rfl
end Go.Proofs.Ytpjmiopplfmcfaa.clkOps
