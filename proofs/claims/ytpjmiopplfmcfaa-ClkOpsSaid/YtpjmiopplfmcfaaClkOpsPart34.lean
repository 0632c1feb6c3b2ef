/- What is proved: some of the cases of ClkOps, worked out. Conditions: none. -/
import Derived.Test.YtpjmiopplfmcfaaClkOpsBase
namespace Go.Proofs.Ytpjmiopplfmcfaa.clkOps
set_option linter.unusedVariables false
theorem part340 : each (.int .i64 4) (.rng .i64 9223372036854775808 18446744073709551615) (.int .i64 2) = true := by kernel_rfl
theorem part341 : each (.int .i64 4) (.rng .i64 9223372036854775808 18446744073709551615) (.int .i64 3) = true := by kernel_rfl
theorem part342 : each (.int .i64 4) (.rng .i64 9223372036854775808 18446744073709551615) (.int .i64 4) = true := by kernel_rfl
theorem part343 : each (.int .i64 4) (.rng .i64 6 9223372036854775807) (.rng .i64 9223372036854775808 18446744073709551615) = true := by kernel_rfl
theorem part344 : each (.int .i64 4) (.rng .i64 6 9223372036854775807) (.rng .i64 5 9223372036854775807) = true := by kernel_rfl
theorem part345 : each (.int .i64 4) (.rng .i64 6 9223372036854775807) (.int .i64 0) = true := by kernel_rfl
theorem part346 : each (.int .i64 4) (.rng .i64 6 9223372036854775807) (.int .i64 1) = true := by kernel_rfl
theorem part347 : each (.int .i64 4) (.rng .i64 6 9223372036854775807) (.int .i64 2) = true := by kernel_rfl
theorem part348 : each (.int .i64 4) (.rng .i64 6 9223372036854775807) (.int .i64 3) = true := by kernel_rfl
theorem part349 : each (.int .i64 4) (.rng .i64 6 9223372036854775807) (.int .i64 4) = true := by kernel_rfl
end Go.Proofs.Ytpjmiopplfmcfaa.clkOps
