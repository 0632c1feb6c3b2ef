/- What is proved: some of the cases of ClkOps, worked out. Conditions: none. -/
import Derived.Test.YtpjmiopplfmcfaaClkOpsBase
namespace Go.Proofs.Ytpjmiopplfmcfaa.clkOps
set_option linter.unusedVariables false
theorem part200 : each (.int .i64 1) (.int .i64 2) (.int .i64 2) = true := by kernel_rfl
theorem part201 : each (.int .i64 1) (.int .i64 2) (.int .i64 3) = true := by kernel_rfl
theorem part202 : each (.int .i64 1) (.int .i64 2) (.int .i64 4) = true := by kernel_rfl
theorem part203 : each (.int .i64 1) (.int .i64 3) (.rng .i64 9223372036854775808 18446744073709551615) = true := by kernel_rfl
theorem part204 : each (.int .i64 1) (.int .i64 3) (.rng .i64 5 9223372036854775807) = true := by kernel_rfl
theorem part205 : each (.int .i64 1) (.int .i64 3) (.int .i64 0) = true := by kernel_rfl
theorem part206 : each (.int .i64 1) (.int .i64 3) (.int .i64 1) = true := by kernel_rfl
theorem part207 : each (.int .i64 1) (.int .i64 3) (.int .i64 2) = true := by kernel_rfl
theorem part208 : each (.int .i64 1) (.int .i64 3) (.int .i64 3) = true := by kernel_rfl
theorem part209 : each (.int .i64 1) (.int .i64 3) (.int .i64 4) = true := by kernel_rfl
end Go.Proofs.Ytpjmiopplfmcfaa.clkOps
