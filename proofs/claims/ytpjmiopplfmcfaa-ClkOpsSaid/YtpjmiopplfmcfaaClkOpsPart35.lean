/- What is proved: some of the cases of ClkOps, worked out. Conditions: none. -/
import Derived.Test.YtpjmiopplfmcfaaClkOpsBase
namespace Go.Proofs.Ytpjmiopplfmcfaa.clkOps
set_option linter.unusedVariables false
theorem part350 : each (.int .i64 4) (.int .i64 0) (.rng .i64 9223372036854775808 18446744073709551615) = true := by kernel_rfl
theorem part351 : each (.int .i64 4) (.int .i64 0) (.rng .i64 5 9223372036854775807) = true := by kernel_rfl
theorem part352 : each (.int .i64 4) (.int .i64 0) (.int .i64 0) = true := by kernel_rfl
theorem part353 : each (.int .i64 4) (.int .i64 0) (.int .i64 1) = true := by kernel_rfl
theorem part354 : each (.int .i64 4) (.int .i64 0) (.int .i64 2) = true := by kernel_rfl
theorem part355 : each (.int .i64 4) (.int .i64 0) (.int .i64 3) = true := by kernel_rfl
theorem part356 : each (.int .i64 4) (.int .i64 0) (.int .i64 4) = true := by kernel_rfl
theorem part357 : each (.int .i64 4) (.int .i64 1) (.rng .i64 9223372036854775808 18446744073709551615) = true := by kernel_rfl
theorem part358 : each (.int .i64 4) (.int .i64 1) (.rng .i64 5 9223372036854775807) = true := by kernel_rfl
theorem part359 : each (.int .i64 4) (.int .i64 1) (.int .i64 0) = true := by kernel_rfl
end Go.Proofs.Ytpjmiopplfmcfaa.clkOps
