/- What is proved: some of the cases of ClkOps, worked out. Conditions: none. -/
import Derived.Test.YtpjmiopplfmcfaaClkOpsBase
namespace Go.Proofs.Ytpjmiopplfmcfaa.clkOps
set_option linter.unusedVariables false
theorem part60 : each (.rng .i64 6 9223372036854775807) (.rng .i64 9223372036854775808 18446744073709551615) (.int .i64 2) = true := by kernel_rfl
theorem part61 : each (.rng .i64 6 9223372036854775807) (.rng .i64 9223372036854775808 18446744073709551615) (.int .i64 3) = true := by kernel_rfl
theorem part62 : each (.rng .i64 6 9223372036854775807) (.rng .i64 9223372036854775808 18446744073709551615) (.int .i64 4) = true := by kernel_rfl
theorem part63 : each (.rng .i64 6 9223372036854775807) (.rng .i64 6 9223372036854775807) (.rng .i64 9223372036854775808 18446744073709551615) = true := by kernel_rfl
theorem part64 : each (.rng .i64 6 9223372036854775807) (.rng .i64 6 9223372036854775807) (.rng .i64 5 9223372036854775807) = true := by kernel_rfl
theorem part65 : each (.rng .i64 6 9223372036854775807) (.rng .i64 6 9223372036854775807) (.int .i64 0) = true := by kernel_rfl
theorem part66 : each (.rng .i64 6 9223372036854775807) (.rng .i64 6 9223372036854775807) (.int .i64 1) = true := by kernel_rfl
theorem part67 : each (.rng .i64 6 9223372036854775807) (.rng .i64 6 9223372036854775807) (.int .i64 2) = true := by kernel_rfl
theorem part68 : each (.rng .i64 6 9223372036854775807) (.rng .i64 6 9223372036854775807) (.int .i64 3) = true := by kernel_rfl
theorem part69 : each (.rng .i64 6 9223372036854775807) (.rng .i64 6 9223372036854775807) (.int .i64 4) = true := by kernel_rfl
end Go.Proofs.Ytpjmiopplfmcfaa.clkOps
