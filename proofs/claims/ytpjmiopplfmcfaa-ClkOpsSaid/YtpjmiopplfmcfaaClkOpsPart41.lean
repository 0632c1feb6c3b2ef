/- What is proved: some of the cases of ClkOps, worked out. Conditions: none. -/
import Derived.Test.YtpjmiopplfmcfaaClkOpsBase
namespace Go.Proofs.Ytpjmiopplfmcfaa.clkOps
set_option linter.unusedVariables false
theorem part410 : each (.int .i64 5) (.int .i64 0) (.int .i64 2) = true := by kernel_rfl
theorem part411 : each (.int .i64 5) (.int .i64 0) (.int .i64 3) = true := by kernel_rfl
theorem part412 : each (.int .i64 5) (.int .i64 0) (.int .i64 4) = true := by kernel_rfl
theorem part413 : each (.int .i64 5) (.int .i64 1) (.rng .i64 9223372036854775808 18446744073709551615) = true := by kernel_rfl
theorem part414 : each (.int .i64 5) (.int .i64 1) (.rng .i64 5 9223372036854775807) = true := by kernel_rfl
theorem part415 : each (.int .i64 5) (.int .i64 1) (.int .i64 0) = true := by kernel_rfl
theorem part416 : each (.int .i64 5) (.int .i64 1) (.int .i64 1) = true := by kernel_rfl
theorem part417 : each (.int .i64 5) (.int .i64 1) (.int .i64 2) = true := by kernel_rfl
theorem part418 : each (.int .i64 5) (.int .i64 1) (.int .i64 3) = true := by kernel_rfl
theorem part419 : each (.int .i64 5) (.int .i64 1) (.int .i64 4) = true := by kernel_rfl
end Go.Proofs.Ytpjmiopplfmcfaa.clkOps
