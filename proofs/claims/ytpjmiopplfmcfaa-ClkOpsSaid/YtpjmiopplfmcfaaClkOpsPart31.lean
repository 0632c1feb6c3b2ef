/- What is proved: some of the cases of ClkOps, worked out. Conditions: none. -/
import Derived.Test.YtpjmiopplfmcfaaClkOpsBase
namespace Go.Proofs.Ytpjmiopplfmcfaa.clkOps
set_option linter.unusedVariables false
theorem part310 : each (.int .i64 3) (.int .i64 2) (.int .i64 0) = true := by kernel_rfl
theorem part311 : each (.int .i64 3) (.int .i64 2) (.int .i64 1) = true := by kernel_rfl
theorem part312 : each (.int .i64 3) (.int .i64 2) (.int .i64 2) = true := by kernel_rfl
theorem part313 : each (.int .i64 3) (.int .i64 2) (.int .i64 3) = true := by kernel_rfl
theorem part314 : each (.int .i64 3) (.int .i64 2) (.int .i64 4) = true := by kernel_rfl
theorem part315 : each (.int .i64 3) (.int .i64 3) (.rng .i64 9223372036854775808 18446744073709551615) = true := by kernel_rfl
theorem part316 : each (.int .i64 3) (.int .i64 3) (.rng .i64 5 9223372036854775807) = true := by kernel_rfl
theorem part317 : each (.int .i64 3) (.int .i64 3) (.int .i64 0) = true := by kernel_rfl
theorem part318 : each (.int .i64 3) (.int .i64 3) (.int .i64 1) = true := by kernel_rfl
theorem part319 : each (.int .i64 3) (.int .i64 3) (.int .i64 2) = true := by kernel_rfl
end Go.Proofs.Ytpjmiopplfmcfaa.clkOps
