/- What is proved: some of the cases of ClkOps, worked out. Conditions: none. -/
import Derived.Test.YtpjmiopplfmcfaaClkOpsBase
namespace Go.Proofs.Ytpjmiopplfmcfaa.clkOps
set_option linter.unusedVariables false
theorem part110 : each (.rng .i64 6 9223372036854775807) (.int .i64 5) (.int .i64 3) = true := by kernel_rfl
theorem part111 : each (.rng .i64 6 9223372036854775807) (.int .i64 5) (.int .i64 4) = true := by kernel_rfl
theorem part112 : each (.int .i64 0) (.rng .i64 9223372036854775808 18446744073709551615) (.rng .i64 9223372036854775808 18446744073709551615) = true := by kernel_rfl
theorem part113 : each (.int .i64 0) (.rng .i64 9223372036854775808 18446744073709551615) (.rng .i64 5 9223372036854775807) = true := by kernel_rfl
theorem part114 : each (.int .i64 0) (.rng .i64 9223372036854775808 18446744073709551615) (.int .i64 0) = true := by kernel_rfl
theorem part115 : each (.int .i64 0) (.rng .i64 9223372036854775808 18446744073709551615) (.int .i64 1) = true := by kernel_rfl
theorem part116 : each (.int .i64 0) (.rng .i64 9223372036854775808 18446744073709551615) (.int .i64 2) = true := by kernel_rfl
theorem part117 : each (.int .i64 0) (.rng .i64 9223372036854775808 18446744073709551615) (.int .i64 3) = true := by kernel_rfl
theorem part118 : each (.int .i64 0) (.rng .i64 9223372036854775808 18446744073709551615) (.int .i64 4) = true := by kernel_rfl
theorem part119 : each (.int .i64 0) (.rng .i64 6 9223372036854775807) (.rng .i64 9223372036854775808 18446744073709551615) = true := by kernel_rfl
end Go.Proofs.Ytpjmiopplfmcfaa.clkOps
