/- What is proved: some of the cases of ClkOps, worked out. Conditions: none. -/
import Derived.Test.YtpjmiopplfmcfaaClkOpsBase
namespace Go.Proofs.Ytpjmiopplfmcfaa.clkOps
set_option linter.unusedVariables false
theorem part290 : each (.int .i64 3) (.rng .i64 6 9223372036854775807) (.int .i64 1) = true := by kernel_rfl
theorem part291 : each (.int .i64 3) (.rng .i64 6 9223372036854775807) (.int .i64 2) = true := by kernel_rfl
theorem part292 : each (.int .i64 3) (.rng .i64 6 9223372036854775807) (.int .i64 3) = true := by kernel_rfl
theorem part293 : each (.int .i64 3) (.rng .i64 6 9223372036854775807) (.int .i64 4) = true := by kernel_rfl
theorem part294 : each (.int .i64 3) (.int .i64 0) (.rng .i64 9223372036854775808 18446744073709551615) = true := by kernel_rfl
theorem part295 : each (.int .i64 3) (.int .i64 0) (.rng .i64 5 9223372036854775807) = true := by kernel_rfl
theorem part296 : each (.int .i64 3) (.int .i64 0) (.int .i64 0) = true := by kernel_rfl
theorem part297 : each (.int .i64 3) (.int .i64 0) (.int .i64 1) = true := by kernel_rfl
theorem part298 : each (.int .i64 3) (.int .i64 0) (.int .i64 2) = true := by kernel_rfl
theorem part299 : each (.int .i64 3) (.int .i64 0) (.int .i64 3) = true := by kernel_rfl
end Go.Proofs.Ytpjmiopplfmcfaa.clkOps
