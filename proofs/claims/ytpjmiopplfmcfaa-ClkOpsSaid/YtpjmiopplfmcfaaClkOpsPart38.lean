/- What is proved: some of the cases of ClkOps, worked out. Conditions: none. -/
import Derived.Test.YtpjmiopplfmcfaaClkOpsBase
namespace Go.Proofs.Ytpjmiopplfmcfaa.clkOps
set_option linter.unusedVariables false
theorem part380 : each (.int .i64 4) (.int .i64 4) (.int .i64 0) = true := by kernel_rfl
theorem part381 : each (.int .i64 4) (.int .i64 4) (.int .i64 1) = true := by kernel_rfl
theorem part382 : each (.int .i64 4) (.int .i64 4) (.int .i64 2) = true := by kernel_rfl
theorem part383 : each (.int .i64 4) (.int .i64 4) (.int .i64 3) = true := by kernel_rfl
theorem part384 : each (.int .i64 4) (.int .i64 4) (.int .i64 4) = true := by kernel_rfl
theorem part385 : each (.int .i64 4) (.int .i64 5) (.rng .i64 9223372036854775808 18446744073709551615) = true := by kernel_rfl
theorem part386 : each (.int .i64 4) (.int .i64 5) (.rng .i64 5 9223372036854775807) = true := by kernel_rfl
theorem part387 : each (.int .i64 4) (.int .i64 5) (.int .i64 0) = true := by kernel_rfl
theorem part388 : each (.int .i64 4) (.int .i64 5) (.int .i64 1) = true := by kernel_rfl
theorem part389 : each (.int .i64 4) (.int .i64 5) (.int .i64 2) = true := by kernel_rfl
end Go.Proofs.Ytpjmiopplfmcfaa.clkOps
