/- What is proved: some of the cases of ClkOps, worked out. Conditions: none. -/
import Derived.Test.YtpjmiopplfmcfaaClkOpsBase
namespace Go.Proofs.Ytpjmiopplfmcfaa.clkOps
set_option linter.unusedVariables false
theorem part160 : each (.int .i64 0) (.int .i64 4) (.int .i64 4) = true := by kernel_rfl
theorem part161 : each (.int .i64 0) (.int .i64 5) (.rng .i64 9223372036854775808 18446744073709551615) = true := by kernel_rfl
theorem part162 : each (.int .i64 0) (.int .i64 5) (.rng .i64 5 9223372036854775807) = true := by kernel_rfl
theorem part163 : each (.int .i64 0) (.int .i64 5) (.int .i64 0) = true := by kernel_rfl
theorem part164 : each (.int .i64 0) (.int .i64 5) (.int .i64 1) = true := by kernel_rfl
theorem part165 : each (.int .i64 0) (.int .i64 5) (.int .i64 2) = true := by kernel_rfl
theorem part166 : each (.int .i64 0) (.int .i64 5) (.int .i64 3) = true := by kernel_rfl
theorem part167 : each (.int .i64 0) (.int .i64 5) (.int .i64 4) = true := by kernel_rfl
theorem part168 : each (.int .i64 1) (.rng .i64 9223372036854775808 18446744073709551615) (.rng .i64 9223372036854775808 18446744073709551615) = true := by kernel_rfl
theorem part169 : each (.int .i64 1) (.rng .i64 9223372036854775808 18446744073709551615) (.rng .i64 5 9223372036854775807) = true := by kernel_rfl
end Go.Proofs.Ytpjmiopplfmcfaa.clkOps
