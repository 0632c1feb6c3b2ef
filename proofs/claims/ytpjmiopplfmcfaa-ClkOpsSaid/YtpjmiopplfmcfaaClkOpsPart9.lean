/- What is proved: some of the cases of ClkOps, worked out. Conditions: none. -/
import Derived.Test.YtpjmiopplfmcfaaClkOpsBase
namespace Go.Proofs.Ytpjmiopplfmcfaa.clkOps
set_option linter.unusedVariables false
theorem part90 : each (.rng .i64 6 9223372036854775807) (.int .i64 2) (.int .i64 4) = true := by kernel_rfl
theorem part91 : each (.rng .i64 6 9223372036854775807) (.int .i64 3) (.rng .i64 9223372036854775808 18446744073709551615) = true := by kernel_rfl
theorem part92 : each (.rng .i64 6 9223372036854775807) (.int .i64 3) (.rng .i64 5 9223372036854775807) = true := by kernel_rfl
theorem part93 : each (.rng .i64 6 9223372036854775807) (.int .i64 3) (.int .i64 0) = true := by kernel_rfl
theorem part94 : each (.rng .i64 6 9223372036854775807) (.int .i64 3) (.int .i64 1) = true := by kernel_rfl
theorem part95 : each (.rng .i64 6 9223372036854775807) (.int .i64 3) (.int .i64 2) = true := by kernel_rfl
theorem part96 : each (.rng .i64 6 9223372036854775807) (.int .i64 3) (.int .i64 3) = true := by kernel_rfl
theorem part97 : each (.rng .i64 6 9223372036854775807) (.int .i64 3) (.int .i64 4) = true := by kernel_rfl
theorem part98 : each (.rng .i64 6 9223372036854775807) (.int .i64 4) (.rng .i64 9223372036854775808 18446744073709551615) = true := by kernel_rfl
theorem part99 : each (.rng .i64 6 9223372036854775807) (.int .i64 4) (.rng .i64 5 9223372036854775807) = true := by kernel_rfl
end Go.Proofs.Ytpjmiopplfmcfaa.clkOps
