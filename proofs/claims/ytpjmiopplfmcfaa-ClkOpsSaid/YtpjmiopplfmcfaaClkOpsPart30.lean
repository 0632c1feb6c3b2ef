/- What is proved: some of the cases of ClkOps, worked out. Conditions: none. -/
import Derived.Test.YtpjmiopplfmcfaaClkOpsBase
namespace Go.Proofs.Ytpjmiopplfmcfaa.clkOps
set_option linter.unusedVariables false
theorem part300 : each (.int .i64 3) (.int .i64 0) (.int .i64 4) = true := by kernel_rfl
theorem part301 : each (.int .i64 3) (.int .i64 1) (.rng .i64 9223372036854775808 18446744073709551615) = true := by kernel_rfl
theorem part302 : each (.int .i64 3) (.int .i64 1) (.rng .i64 5 9223372036854775807) = true := by kernel_rfl
theorem part303 : each (.int .i64 3) (.int .i64 1) (.int .i64 0) = true := by kernel_rfl
theorem part304 : each (.int .i64 3) (.int .i64 1) (.int .i64 1) = true := by kernel_rfl
theorem part305 : each (.int .i64 3) (.int .i64 1) (.int .i64 2) = true := by kernel_rfl
theorem part306 : each (.int .i64 3) (.int .i64 1) (.int .i64 3) = true := by kernel_rfl
theorem part307 : each (.int .i64 3) (.int .i64 1) (.int .i64 4) = true := by kernel_rfl
theorem part308 : each (.int .i64 3) (.int .i64 2) (.rng .i64 9223372036854775808 18446744073709551615) = true := by kernel_rfl
theorem part309 : each (.int .i64 3) (.int .i64 2) (.rng .i64 5 9223372036854775807) = true := by kernel_rfl
end Go.Proofs.Ytpjmiopplfmcfaa.clkOps
