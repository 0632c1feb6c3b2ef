/- What is proved: some of the cases of ClkOps, worked out. Conditions: none. -/
import Derived.Test.YtpjmiopplfmcfaaClkOpsBase
namespace Go.Proofs.Ytpjmiopplfmcfaa.clkOps
set_option linter.unusedVariables false
theorem part230 : each (.int .i64 2) (.rng .i64 9223372036854775808 18446744073709551615) (.int .i64 4) = true := by kernel_rfl
theorem part231 : each (.int .i64 2) (.rng .i64 6 9223372036854775807) (.rng .i64 9223372036854775808 18446744073709551615) = true := by kernel_rfl
theorem part232 : each (.int .i64 2) (.rng .i64 6 9223372036854775807) (.rng .i64 5 9223372036854775807) = true := by kernel_rfl
theorem part233 : each (.int .i64 2) (.rng .i64 6 9223372036854775807) (.int .i64 0) = true := by kernel_rfl
theorem part234 : each (.int .i64 2) (.rng .i64 6 9223372036854775807) (.int .i64 1) = true := by kernel_rfl
theorem part235 : each (.int .i64 2) (.rng .i64 6 9223372036854775807) (.int .i64 2) = true := by kernel_rfl
theorem part236 : each (.int .i64 2) (.rng .i64 6 9223372036854775807) (.int .i64 3) = true := by kernel_rfl
theorem part237 : each (.int .i64 2) (.rng .i64 6 9223372036854775807) (.int .i64 4) = true := by kernel_rfl
theorem part238 : each (.int .i64 2) (.int .i64 0) (.rng .i64 9223372036854775808 18446744073709551615) = true := by kernel_rfl
theorem part239 : each (.int .i64 2) (.int .i64 0) (.rng .i64 5 9223372036854775807) = true := by kernel_rfl
end Go.Proofs.Ytpjmiopplfmcfaa.clkOps
