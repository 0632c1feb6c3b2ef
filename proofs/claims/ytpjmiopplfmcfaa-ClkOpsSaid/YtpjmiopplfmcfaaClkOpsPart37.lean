/- What is proved: some of the cases of ClkOps, worked out. Conditions: none. -/
import Derived.Test.YtpjmiopplfmcfaaClkOpsBase
namespace Go.Proofs.Ytpjmiopplfmcfaa.clkOps
set_option linter.unusedVariables false
theorem part370 : each (.int .i64 4) (.int .i64 2) (.int .i64 4) = true := by kernel_rfl
theorem part371 : each (.int .i64 4) (.int .i64 3) (.rng .i64 9223372036854775808 18446744073709551615) = true := by kernel_rfl
theorem part372 : each (.int .i64 4) (.int .i64 3) (.rng .i64 5 9223372036854775807) = true := by kernel_rfl
theorem part373 : each (.int .i64 4) (.int .i64 3) (.int .i64 0) = true := by kernel_rfl
theorem part374 : each (.int .i64 4) (.int .i64 3) (.int .i64 1) = true := by kernel_rfl
theorem part375 : each (.int .i64 4) (.int .i64 3) (.int .i64 2) = true := by kernel_rfl
theorem part376 : each (.int .i64 4) (.int .i64 3) (.int .i64 3) = true := by kernel_rfl
theorem part377 : each (.int .i64 4) (.int .i64 3) (.int .i64 4) = true := by kernel_rfl
theorem part378 : each (.int .i64 4) (.int .i64 4) (.rng .i64 9223372036854775808 18446744073709551615) = true := by kernel_rfl
theorem part379 : each (.int .i64 4) (.int .i64 4) (.rng .i64 5 9223372036854775807) = true := by kernel_rfl
end Go.Proofs.Ytpjmiopplfmcfaa.clkOps
