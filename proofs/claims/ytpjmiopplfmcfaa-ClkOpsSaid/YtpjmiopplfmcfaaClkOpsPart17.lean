/- What is proved: some of the cases of ClkOps, worked out. Conditions: none. -/
import Derived.Test.YtpjmiopplfmcfaaClkOpsBase
namespace Go.Proofs.Ytpjmiopplfmcfaa.clkOps
set_option linter.unusedVariables false
theorem part170 : each (.int .i64 1) (.rng .i64 9223372036854775808 18446744073709551615) (.int .i64 0) = true := by kernel_rfl
theorem part171 : each (.int .i64 1) (.rng .i64 9223372036854775808 18446744073709551615) (.int .i64 1) = true := by kernel_rfl
theorem part172 : each (.int .i64 1) (.rng .i64 9223372036854775808 18446744073709551615) (.int .i64 2) = true := by kernel_rfl
theorem part173 : each (.int .i64 1) (.rng .i64 9223372036854775808 18446744073709551615) (.int .i64 3) = true := by kernel_rfl
theorem part174 : each (.int .i64 1) (.rng .i64 9223372036854775808 18446744073709551615) (.int .i64 4) = true := by kernel_rfl
theorem part175 : each (.int .i64 1) (.rng .i64 6 9223372036854775807) (.rng .i64 9223372036854775808 18446744073709551615) = true := by kernel_rfl
theorem part176 : each (.int .i64 1) (.rng .i64 6 9223372036854775807) (.rng .i64 5 9223372036854775807) = true := by kernel_rfl
theorem part177 : each (.int .i64 1) (.rng .i64 6 9223372036854775807) (.int .i64 0) = true := by kernel_rfl
theorem part178 : each (.int .i64 1) (.rng .i64 6 9223372036854775807) (.int .i64 1) = true := by kernel_rfl
theorem part179 : each (.int .i64 1) (.rng .i64 6 9223372036854775807) (.int .i64 2) = true := by kernel_rfl
end Go.Proofs.Ytpjmiopplfmcfaa.clkOps
