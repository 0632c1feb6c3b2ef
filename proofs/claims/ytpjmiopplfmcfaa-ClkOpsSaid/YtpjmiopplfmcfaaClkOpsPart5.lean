/- What is proved: some of the cases of ClkOps, worked out. Conditions: none. -/
import Derived.Test.YtpjmiopplfmcfaaClkOpsBase
namespace Go.Proofs.Ytpjmiopplfmcfaa.clkOps
set_option linter.unusedVariables false
theorem part50 : each (.rng .i64 9223372036854775808 18446744073709551615) (.int .i64 5) (.rng .i64 5 9223372036854775807) = true := by kernel_rfl
theorem part51 : each (.rng .i64 9223372036854775808 18446744073709551615) (.int .i64 5) (.int .i64 0) = true := by kernel_rfl
theorem part52 : each (.rng .i64 9223372036854775808 18446744073709551615) (.int .i64 5) (.int .i64 1) = true := by kernel_rfl
theorem part53 : each (.rng .i64 9223372036854775808 18446744073709551615) (.int .i64 5) (.int .i64 2) = true := by kernel_rfl
theorem part54 : each (.rng .i64 9223372036854775808 18446744073709551615) (.int .i64 5) (.int .i64 3) = true := by kernel_rfl
theorem part55 : each (.rng .i64 9223372036854775808 18446744073709551615) (.int .i64 5) (.int .i64 4) = true := by kernel_rfl
theorem part56 : each (.rng .i64 6 9223372036854775807) (.rng .i64 9223372036854775808 18446744073709551615) (.rng .i64 9223372036854775808 18446744073709551615) = true := by kernel_rfl
theorem part57 : each (.rng .i64 6 9223372036854775807) (.rng .i64 9223372036854775808 18446744073709551615) (.rng .i64 5 9223372036854775807) = true := by kernel_rfl
theorem part58 : each (.rng .i64 6 9223372036854775807) (.rng .i64 9223372036854775808 18446744073709551615) (.int .i64 0) = true := by kernel_rfl
theorem part59 : each (.rng .i64 6 9223372036854775807) (.rng .i64 9223372036854775808 18446744073709551615) (.int .i64 1) = true := by kernel_rfl
end Go.Proofs.Ytpjmiopplfmcfaa.clkOps
