/- What is proved: some of the cases of ClkOps, worked out. Conditions: none. -/
import Derived.Test.YtpjmiopplfmcfaaClkOpsBase
namespace Go.Proofs.Ytpjmiopplfmcfaa.clkOps
set_option linter.unusedVariables false
theorem part130 : each (.int .i64 0) (.int .i64 0) (.int .i64 2) = true := by kernel_rfl
theorem part131 : each (.int .i64 0) (.int .i64 0) (.int .i64 3) = true := by kernel_rfl
theorem part132 : each (.int .i64 0) (.int .i64 0) (.int .i64 4) = true := by kernel_rfl
theorem part133 : each (.int .i64 0) (.int .i64 1) (.rng .i64 9223372036854775808 18446744073709551615) = true := by kernel_rfl
theorem part134 : each (.int .i64 0) (.int .i64 1) (.rng .i64 5 9223372036854775807) = true := by kernel_rfl
theorem part135 : each (.int .i64 0) (.int .i64 1) (.int .i64 0) = true := by kernel_rfl
theorem part136 : each (.int .i64 0) (.int .i64 1) (.int .i64 1) = true := by kernel_rfl
theorem part137 : each (.int .i64 0) (.int .i64 1) (.int .i64 2) = true := by kernel_rfl
theorem part138 : each (.int .i64 0) (.int .i64 1) (.int .i64 3) = true := by kernel_rfl
theorem part139 : each (.int .i64 0) (.int .i64 1) (.int .i64 4) = true := by kernel_rfl
end Go.Proofs.Ytpjmiopplfmcfaa.clkOps
