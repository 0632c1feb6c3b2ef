/- What is proved: some of the cases of ClkOps, worked out. Conditions: none. -/
import Derived.Test.YtpjmiopplfmcfaaClkOpsBase
namespace Go.Proofs.Ytpjmiopplfmcfaa.clkOps
set_option linter.unusedVariables false
theorem part100 : each (.rng .i64 6 9223372036854775807) (.int .i64 4) (.int .i64 0) = true := by kernel_rfl
theorem part101 : each (.rng .i64 6 9223372036854775807) (.int .i64 4) (.int .i64 1) = true := by kernel_rfl
theorem part102 : each (.rng .i64 6 9223372036854775807) (.int .i64 4) (.int .i64 2) = true := by kernel_rfl
theorem part103 : each (.rng .i64 6 9223372036854775807) (.int .i64 4) (.int .i64 3) = true := by kernel_rfl
theorem part104 : each (.rng .i64 6 9223372036854775807) (.int .i64 4) (.int .i64 4) = true := by kernel_rfl
theorem part105 : each (.rng .i64 6 9223372036854775807) (.int .i64 5) (.rng .i64 9223372036854775808 18446744073709551615) = true := by kernel_rfl
theorem part106 : each (.rng .i64 6 9223372036854775807) (.int .i64 5) (.rng .i64 5 9223372036854775807) = true := by kernel_rfl
theorem part107 : each (.rng .i64 6 9223372036854775807) (.int .i64 5) (.int .i64 0) = true := by kernel_rfl
theorem part108 : each (.rng .i64 6 9223372036854775807) (.int .i64 5) (.int .i64 1) = true := by kernel_rfl
theorem part109 : each (.rng .i64 6 9223372036854775807) (.int .i64 5) (.int .i64 2) = true := by kernel_rfl
end Go.Proofs.Ytpjmiopplfmcfaa.clkOps
