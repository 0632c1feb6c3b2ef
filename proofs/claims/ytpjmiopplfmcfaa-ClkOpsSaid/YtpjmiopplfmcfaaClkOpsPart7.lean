/- What is proved: some of the cases of ClkOps, worked out. Conditions: none. -/
import Derived.Test.YtpjmiopplfmcfaaClkOpsBase
namespace Go.Proofs.Ytpjmiopplfmcfaa.clkOps
set_option linter.unusedVariables false
theorem part70 : each (.rng .i64 6 9223372036854775807) (.int .i64 0) (.rng .i64 9223372036854775808 18446744073709551615) = true := by kernel_rfl
theorem part71 : each (.rng .i64 6 9223372036854775807) (.int .i64 0) (.rng .i64 5 9223372036854775807) = true := by kernel_rfl
theorem part72 : each (.rng .i64 6 9223372036854775807) (.int .i64 0) (.int .i64 0) = true := by kernel_rfl
theorem part73 : each (.rng .i64 6 9223372036854775807) (.int .i64 0) (.int .i64 1) = true := by kernel_rfl
theorem part74 : each (.rng .i64 6 9223372036854775807) (.int .i64 0) (.int .i64 2) = true := by kernel_rfl
theorem part75 : each (.rng .i64 6 9223372036854775807) (.int .i64 0) (.int .i64 3) = true := by kernel_rfl
theorem part76 : each (.rng .i64 6 9223372036854775807) (.int .i64 0) (.int .i64 4) = true := by kernel_rfl
theorem part77 : each (.rng .i64 6 9223372036854775807) (.int .i64 1) (.rng .i64 9223372036854775808 18446744073709551615) = true := by kernel_rfl
theorem part78 : each (.rng .i64 6 9223372036854775807) (.int .i64 1) (.rng .i64 5 9223372036854775807) = true := by kernel_rfl
theorem part79 : each (.rng .i64 6 9223372036854775807) (.int .i64 1) (.int .i64 0) = true := by kernel_rfl
end Go.Proofs.Ytpjmiopplfmcfaa.clkOps
