/- What is proved: some of the cases of ClkOps, worked out. Conditions: none. -/
import Derived.Test.YtpjmiopplfmcfaaClkOpsBase
namespace Go.Proofs.Ytpjmiopplfmcfaa.clkOps
set_option linter.unusedVariables false
theorem part210 : each (.int .i64 1) (.int .i64 4) (.rng .i64 9223372036854775808 18446744073709551615) = true := by kernel_rfl
theorem part211 : each (.int .i64 1) (.int .i64 4) (.rng .i64 5 9223372036854775807) = true := by kernel_rfl
theorem part212 : each (.int .i64 1) (.int .i64 4) (.int .i64 0) = true := by kernel_rfl
theorem part213 : each (.int .i64 1) (.int .i64 4) (.int .i64 1) = true := by kernel_rfl
theorem part214 : each (.int .i64 1) (.int .i64 4) (.int .i64 2) = true := by kernel_rfl
theorem part215 : each (.int .i64 1) (.int .i64 4) (.int .i64 3) = true := by kernel_rfl
theorem part216 : each (.int .i64 1) (.int .i64 4) (.int .i64 4) = true := by kernel_rfl
theorem part217 : each (.int .i64 1) (.int .i64 5) (.rng .i64 9223372036854775808 18446744073709551615) = true := by kernel_rfl
theorem part218 : each (.int .i64 1) (.int .i64 5) (.rng .i64 5 9223372036854775807) = true := by kernel_rfl
theorem part219 : each (.int .i64 1) (.int .i64 5) (.int .i64 0) = true := by kernel_rfl
end Go.Proofs.Ytpjmiopplfmcfaa.clkOps
