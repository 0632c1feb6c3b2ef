/- What is proved: some of the cases of ClkOps, worked out. Conditions: none. -/
import Derived.Test.YtpjmiopplfmcfaaClkOpsBase
namespace Go.Proofs.Ytpjmiopplfmcfaa.clkOps
set_option linter.unusedVariables false
theorem part180 : each (.int .i64 1) (.rng .i64 6 9223372036854775807) (.int .i64 3) = true := by kernel_rfl
theorem part181 : each (.int .i64 1) (.rng .i64 6 9223372036854775807) (.int .i64 4) = true := by kernel_rfl
theorem part182 : each (.int .i64 1) (.int .i64 0) (.rng .i64 9223372036854775808 18446744073709551615) = true := by kernel_rfl
theorem part183 : each (.int .i64 1) (.int .i64 0) (.rng .i64 5 9223372036854775807) = true := by kernel_rfl
theorem part184 : each (.int .i64 1) (.int .i64 0) (.int .i64 0) = true := by kernel_rfl
theorem part185 : each (.int .i64 1) (.int .i64 0) (.int .i64 1) = true := by kernel_rfl
theorem part186 : each (.int .i64 1) (.int .i64 0) (.int .i64 2) = true := by kernel_rfl
theorem part187 : each (.int .i64 1) (.int .i64 0) (.int .i64 3) = true := by kernel_rfl
theorem part188 : each (.int .i64 1) (.int .i64 0) (.int .i64 4) = true := by kernel_rfl
theorem part189 : each (.int .i64 1) (.int .i64 1) (.rng .i64 9223372036854775808 18446744073709551615) = true := by kernel_rfl
end Go.Proofs.Ytpjmiopplfmcfaa.clkOps
