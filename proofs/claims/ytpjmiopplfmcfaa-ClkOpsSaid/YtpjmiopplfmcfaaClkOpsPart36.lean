/- What is proved: some of the cases of ClkOps, worked out. Conditions: none. -/
import Derived.Test.YtpjmiopplfmcfaaClkOpsBase
namespace Go.Proofs.Ytpjmiopplfmcfaa.clkOps
set_option linter.unusedVariables false
theorem part360 : each (.int .i64 4) (.int .i64 1) (.int .i64 1) = true := by kernel_rfl
theorem part361 : each (.int .i64 4) (.int .i64 1) (.int .i64 2) = true := by kernel_rfl
theorem part362 : each (.int .i64 4) (.int .i64 1) (.int .i64 3) = true := by kernel_rfl
theorem part363 : each (.int .i64 4) (.int .i64 1) (.int .i64 4) = true := by kernel_rfl
theorem part364 : each (.int .i64 4) (.int .i64 2) (.rng .i64 9223372036854775808 18446744073709551615) = true := by kernel_rfl
theorem part365 : each (.int .i64 4) (.int .i64 2) (.rng .i64 5 9223372036854775807) = true := by kernel_rfl
theorem part366 : each (.int .i64 4) (.int .i64 2) (.int .i64 0) = true := by kernel_rfl
theorem part367 : each (.int .i64 4) (.int .i64 2) (.int .i64 1) = true := by kernel_rfl
theorem part368 : each (.int .i64 4) (.int .i64 2) (.int .i64 2) = true := by kernel_rfl
theorem part369 : each (.int .i64 4) (.int .i64 2) (.int .i64 3) = true := by kernel_rfl
end Go.Proofs.Ytpjmiopplfmcfaa.clkOps
