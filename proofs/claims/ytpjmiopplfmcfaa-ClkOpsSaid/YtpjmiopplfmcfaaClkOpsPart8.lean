/- What is proved: some of the cases of ClkOps, worked out. Conditions: none. -/
import Derived.Test.YtpjmiopplfmcfaaClkOpsBase
namespace Go.Proofs.Ytpjmiopplfmcfaa.clkOps
set_option linter.unusedVariables false
theorem part80 : each (.rng .i64 6 9223372036854775807) (.int .i64 1) (.int .i64 1) = true := by kernel_rfl
theorem part81 : each (.rng .i64 6 9223372036854775807) (.int .i64 1) (.int .i64 2) = true := by kernel_rfl
theorem part82 : each (.rng .i64 6 9223372036854775807) (.int .i64 1) (.int .i64 3) = true := by kernel_rfl
theorem part83 : each (.rng .i64 6 9223372036854775807) (.int .i64 1) (.int .i64 4) = true := by kernel_rfl
theorem part84 : each (.rng .i64 6 9223372036854775807) (.int .i64 2) (.rng .i64 9223372036854775808 18446744073709551615) = true := by kernel_rfl
theorem part85 : each (.rng .i64 6 9223372036854775807) (.int .i64 2) (.rng .i64 5 9223372036854775807) = true := by kernel_rfl
theorem part86 : each (.rng .i64 6 9223372036854775807) (.int .i64 2) (.int .i64 0) = true := by kernel_rfl
theorem part87 : each (.rng .i64 6 9223372036854775807) (.int .i64 2) (.int .i64 1) = true := by kernel_rfl
theorem part88 : each (.rng .i64 6 9223372036854775807) (.int .i64 2) (.int .i64 2) = true := by kernel_rfl
theorem part89 : each (.rng .i64 6 9223372036854775807) (.int .i64 2) (.int .i64 3) = true := by kernel_rfl
end Go.Proofs.Ytpjmiopplfmcfaa.clkOps
