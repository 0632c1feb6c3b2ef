/- What is proved: some of the cases of ClkOps, worked out. Conditions: none. -/
import Derived.Test.YtpjmiopplfmcfaaClkOpsBase
namespace Go.Proofs.Ytpjmiopplfmcfaa.clkOps
set_option linter.unusedVariables false
theorem part330 : each (.int .i64 3) (.int .i64 5) (.rng .i64 5 9223372036854775807) = true := by kernel_rfl
theorem part331 : each (.int .i64 3) (.int .i64 5) (.int .i64 0) = true := by kernel_rfl
theorem part332 : each (.int .i64 3) (.int .i64 5) (.int .i64 1) = true := by kernel_rfl
theorem part333 : each (.int .i64 3) (.int .i64 5) (.int .i64 2) = true := by kernel_rfl
theorem part334 : each (.int .i64 3) (.int .i64 5) (.int .i64 3) = true := by kernel_rfl
theorem part335 : each (.int .i64 3) (.int .i64 5) (.int .i64 4) = true := by kernel_rfl
theorem part336 : each (.int .i64 4) (.rng .i64 9223372036854775808 18446744073709551615) (.rng .i64 9223372036854775808 18446744073709551615) = true := by kernel_rfl
theorem part337 : each (.int .i64 4) (.rng .i64 9223372036854775808 18446744073709551615) (.rng .i64 5 9223372036854775807) = true := by kernel_rfl
theorem part338 : each (.int .i64 4) (.rng .i64 9223372036854775808 18446744073709551615) (.int .i64 0) = true := by kernel_rfl
theorem part339 : each (.int .i64 4) (.rng .i64 9223372036854775808 18446744073709551615) (.int .i64 1) = true := by kernel_rfl
end Go.Proofs.Ytpjmiopplfmcfaa.clkOps
