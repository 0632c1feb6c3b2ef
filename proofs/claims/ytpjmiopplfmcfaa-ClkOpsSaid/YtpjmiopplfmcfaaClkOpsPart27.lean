/- What is proved: some of the cases of ClkOps, worked out. Conditions: none. -/
import Derived.Test.YtpjmiopplfmcfaaClkOpsBase
namespace Go.Proofs.Ytpjmiopplfmcfaa.clkOps
set_option linter.unusedVariables false
theorem part270 : each (.int .i64 2) (.int .i64 4) (.int .i64 2) = true := by kernel_rfl
theorem part271 : each (.int .i64 2) (.int .i64 4) (.int .i64 3) = true := by kernel_rfl
theorem part272 : each (.int .i64 2) (.int .i64 4) (.int .i64 4) = true := by kernel_rfl
theorem part273 : each (.int .i64 2) (.int .i64 5) (.rng .i64 9223372036854775808 18446744073709551615) = true := by kernel_rfl
theorem part274 : each (.int .i64 2) (.int .i64 5) (.rng .i64 5 9223372036854775807) = true := by kernel_rfl
theorem part275 : each (.int .i64 2) (.int .i64 5) (.int .i64 0) = true := by kernel_rfl
theorem part276 : each (.int .i64 2) (.int .i64 5) (.int .i64 1) = true := by kernel_rfl
theorem part277 : each (.int .i64 2) (.int .i64 5) (.int .i64 2) = true := by kernel_rfl
theorem part278 : each (.int .i64 2) (.int .i64 5) (.int .i64 3) = true := by kernel_rfl
theorem part279 : each (.int .i64 2) (.int .i64 5) (.int .i64 4) = true := by kernel_rfl
end Go.Proofs.Ytpjmiopplfmcfaa.clkOps
