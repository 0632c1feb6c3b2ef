/- What is proved: some of the cases of ClkOps, worked out. Conditions: none. -/
import Derived.Test.YtpjmiopplfmcfaaClkOpsBase
namespace Go.Proofs.Ytpjmiopplfmcfaa.clkOps
set_option linter.unusedVariables false
theorem part30 : each (.rng .i64 9223372036854775808 18446744073709551615) (.int .i64 2) (.int .i64 0) = true := by kernel_rfl
theorem part31 : each (.rng .i64 9223372036854775808 18446744073709551615) (.int .i64 2) (.int .i64 1) = true := by kernel_rfl
theorem part32 : each (.rng .i64 9223372036854775808 18446744073709551615) (.int .i64 2) (.int .i64 2) = true := by kernel_rfl
theorem part33 : each (.rng .i64 9223372036854775808 18446744073709551615) (.int .i64 2) (.int .i64 3) = true := by kernel_rfl
theorem part34 : each (.rng .i64 9223372036854775808 18446744073709551615) (.int .i64 2) (.int .i64 4) = true := by kernel_rfl
theorem part35 : each (.rng .i64 9223372036854775808 18446744073709551615) (.int .i64 3) (.rng .i64 9223372036854775808 18446744073709551615) = true := by kernel_rfl
theorem part36 : each (.rng .i64 9223372036854775808 18446744073709551615) (.int .i64 3) (.rng .i64 5 9223372036854775807) = true := by kernel_rfl
theorem part37 : each (.rng .i64 9223372036854775808 18446744073709551615) (.int .i64 3) (.int .i64 0) = true := by kernel_rfl
theorem part38 : each (.rng .i64 9223372036854775808 18446744073709551615) (.int .i64 3) (.int .i64 1) = true := by kernel_rfl
theorem part39 : each (.rng .i64 9223372036854775808 18446744073709551615) (.int .i64 3) (.int .i64 2) = true := by kernel_rfl
end Go.Proofs.Ytpjmiopplfmcfaa.clkOps
