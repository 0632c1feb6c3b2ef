/- What is proved: some of the cases of ClkOps, worked out. Conditions: none. -/
import Derived.Test.YtpjmiopplfmcfaaClkOpsBase
namespace Go.Proofs.Ytpjmiopplfmcfaa.clkOps
set_option linter.unusedVariables false
theorem part260 : each (.int .i64 2) (.int .i64 3) (.rng .i64 5 9223372036854775807) = true := by kernel_rfl
theorem part261 : each (.int .i64 2) (.int .i64 3) (.int .i64 0) = true := by kernel_rfl
theorem part262 : each (.int .i64 2) (.int .i64 3) (.int .i64 1) = true := by kernel_rfl
theorem part263 : each (.int .i64 2) (.int .i64 3) (.int .i64 2) = true := by kernel_rfl
theorem part264 : each (.int .i64 2) (.int .i64 3) (.int .i64 3) = true := by kernel_rfl
theorem part265 : each (.int .i64 2) (.int .i64 3) (.int .i64 4) = true := by kernel_rfl
theorem part266 : each (.int .i64 2) (.int .i64 4) (.rng .i64 9223372036854775808 18446744073709551615) = true := by kernel_rfl
theorem part267 : each (.int .i64 2) (.int .i64 4) (.rng .i64 5 9223372036854775807) = true := by kernel_rfl
theorem part268 : each (.int .i64 2) (.int .i64 4) (.int .i64 0) = true := by kernel_rfl
theorem part269 : each (.int .i64 2) (.int .i64 4) (.int .i64 1) = true := by kernel_rfl
end Go.Proofs.Ytpjmiopplfmcfaa.clkOps
