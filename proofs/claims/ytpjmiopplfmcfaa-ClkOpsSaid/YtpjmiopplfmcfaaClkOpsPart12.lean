/- What is proved: some of the cases of ClkOps, worked out. Conditions: none. -/
import Derived.Test.YtpjmiopplfmcfaaClkOpsBase
namespace Go.Proofs.Ytpjmiopplfmcfaa.clkOps
set_option linter.unusedVariables false
theorem part120 : each (.int .i64 0) (.rng .i64 6 9223372036854775807) (.rng .i64 5 9223372036854775807) = true := by kernel_rfl
theorem part121 : each (.int .i64 0) (.rng .i64 6 9223372036854775807) (.int .i64 0) = true := by kernel_rfl
theorem part122 : each (.int .i64 0) (.rng .i64 6 9223372036854775807) (.int .i64 1) = true := by kernel_rfl
theorem part123 : each (.int .i64 0) (.rng .i64 6 9223372036854775807) (.int .i64 2) = true := by kernel_rfl
theorem part124 : each (.int .i64 0) (.rng .i64 6 9223372036854775807) (.int .i64 3) = true := by kernel_rfl
theorem part125 : each (.int .i64 0) (.rng .i64 6 9223372036854775807) (.int .i64 4) = true := by kernel_rfl
theorem part126 : each (.int .i64 0) (.int .i64 0) (.rng .i64 9223372036854775808 18446744073709551615) = true := by kernel_rfl
theorem part127 : each (.int .i64 0) (.int .i64 0) (.rng .i64 5 9223372036854775807) = true := by kernel_rfl
theorem part128 : each (.int .i64 0) (.int .i64 0) (.int .i64 0) = true := by kernel_rfl
theorem part129 : each (.int .i64 0) (.int .i64 0) (.int .i64 1) = true := by kernel_rfl
end Go.Proofs.Ytpjmiopplfmcfaa.clkOps
