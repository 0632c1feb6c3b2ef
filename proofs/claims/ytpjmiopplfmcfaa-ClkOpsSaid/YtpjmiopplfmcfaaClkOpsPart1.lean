/- What is proved: some of the cases of ClkOps, worked out. Conditions: none. -/
import Derived.Test.YtpjmiopplfmcfaaClkOpsBase
namespace Go.Proofs.Ytpjmiopplfmcfaa.clkOps
set_option linter.unusedVariables false
theorem part10 : each (.rng .i64 9223372036854775808 18446744073709551615) (.rng .i64 6 9223372036854775807) (.int .i64 1) = true := by kernel_rfl
theorem part11 : each (.rng .i64 9223372036854775808 18446744073709551615) (.rng .i64 6 9223372036854775807) (.int .i64 2) = true := by kernel_rfl
theorem part12 : each (.rng .i64 9223372036854775808 18446744073709551615) (.rng .i64 6 9223372036854775807) (.int .i64 3) = true := by kernel_rfl
theorem part13 : each (.rng .i64 9223372036854775808 18446744073709551615) (.rng .i64 6 9223372036854775807) (.int .i64 4) = true := by kernel_rfl
theorem part14 : each (.rng .i64 9223372036854775808 18446744073709551615) (.int .i64 0) (.rng .i64 9223372036854775808 18446744073709551615) = true := by kernel_rfl
theorem part15 : each (.rng .i64 9223372036854775808 18446744073709551615) (.int .i64 0) (.rng .i64 5 9223372036854775807) = true := by kernel_rfl
theorem part16 : each (.rng .i64 9223372036854775808 18446744073709551615) (.int .i64 0) (.int .i64 0) = true := by kernel_rfl
theorem part17 : each (.rng .i64 9223372036854775808 18446744073709551615) (.int .i64 0) (.int .i64 1) = true := by kernel_rfl
theorem part18 : each (.rng .i64 9223372036854775808 18446744073709551615) (.int .i64 0) (.int .i64 2) = true := by kernel_rfl
theorem part19 : each (.rng .i64 9223372036854775808 18446744073709551615) (.int .i64 0) (.int .i64 3) = true := by kernel_rfl
end Go.Proofs.Ytpjmiopplfmcfaa.clkOps
