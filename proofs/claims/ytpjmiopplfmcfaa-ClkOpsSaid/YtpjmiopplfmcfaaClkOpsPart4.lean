/- What is proved: some of the cases of ClkOps, worked out. Conditions: none. -/
import Derived.Test.YtpjmiopplfmcfaaClkOpsBase
namespace Go.Proofs.Ytpjmiopplfmcfaa.clkOps
set_option linter.unusedVariables false
theorem part40 : each (.rng .i64 9223372036854775808 18446744073709551615) (.int .i64 3) (.int .i64 3) = true := by kernel_rfl
theorem part41 : each (.rng .i64 9223372036854775808 18446744073709551615) (.int .i64 3) (.int .i64 4) = true := by kernel_rfl
theorem part42 : each (.rng .i64 9223372036854775808 18446744073709551615) (.int .i64 4) (.rng .i64 9223372036854775808 18446744073709551615) = true := by kernel_rfl
theorem part43 : each (.rng .i64 9223372036854775808 18446744073709551615) (.int .i64 4) (.rng .i64 5 9223372036854775807) = true := by kernel_rfl
theorem part44 : each (.rng .i64 9223372036854775808 18446744073709551615) (.int .i64 4) (.int .i64 0) = true := by kernel_rfl
theorem part45 : each (.rng .i64 9223372036854775808 18446744073709551615) (.int .i64 4) (.int .i64 1) = true := by kernel_rfl
theorem part46 : each (.rng .i64 9223372036854775808 18446744073709551615) (.int .i64 4) (.int .i64 2) = true := by kernel_rfl
theorem part47 : each (.rng .i64 9223372036854775808 18446744073709551615) (.int .i64 4) (.int .i64 3) = true := by kernel_rfl
theorem part48 : each (.rng .i64 9223372036854775808 18446744073709551615) (.int .i64 4) (.int .i64 4) = true := by kernel_rfl
theorem part49 : each (.rng .i64 9223372036854775808 18446744073709551615) (.int .i64 5) (.rng .i64 9223372036854775808 18446744073709551615) = true := by kernel_rfl
end Go.Proofs.Ytpjmiopplfmcfaa.clkOps
