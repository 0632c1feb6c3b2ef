/- What is proved: some of the cases of ClkOps, worked out. Conditions: none. -/
import Derived.Test.YtpjmiopplfmcfaaClkOpsBase
namespace Go.Proofs.Ytpjmiopplfmcfaa.clkOps
set_option linter.unusedVariables false
theorem part280 : each (.int .i64 3) (.rng .i64 9223372036854775808 18446744073709551615) (.rng .i64 9223372036854775808 18446744073709551615) = true := by kernel_rfl
theorem part281 : each (.int .i64 3) (.rng .i64 9223372036854775808 18446744073709551615) (.rng .i64 5 9223372036854775807) = true := by kernel_rfl
theorem part282 : each (.int .i64 3) (.rng .i64 9223372036854775808 18446744073709551615) (.int .i64 0) = true := by kernel_rfl
theorem part283 : each (.int .i64 3) (.rng .i64 9223372036854775808 18446744073709551615) (.int .i64 1) = true := by kernel_rfl
theorem part284 : each (.int .i64 3) (.rng .i64 9223372036854775808 18446744073709551615) (.int .i64 2) = true := by kernel_rfl
theorem part285 : each (.int .i64 3) (.rng .i64 9223372036854775808 18446744073709551615) (.int .i64 3) = true := by kernel_rfl
theorem part286 : each (.int .i64 3) (.rng .i64 9223372036854775808 18446744073709551615) (.int .i64 4) = true := by kernel_rfl
theorem part287 : each (.int .i64 3) (.rng .i64 6 9223372036854775807) (.rng .i64 9223372036854775808 18446744073709551615) = true := by kernel_rfl
theorem part288 : each (.int .i64 3) (.rng .i64 6 9223372036854775807) (.rng .i64 5 9223372036854775807) = true := by kernel_rfl
theorem part289 : each (.int .i64 3) (.rng .i64 6 9223372036854775807) (.int .i64 0) = true := by kernel_rfl
end Go.Proofs.Ytpjmiopplfmcfaa.clkOps
