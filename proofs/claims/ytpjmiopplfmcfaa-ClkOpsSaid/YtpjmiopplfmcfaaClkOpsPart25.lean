/- What is proved: some of the cases of ClkOps, worked out. Conditions: none. -/
import Derived.Test.YtpjmiopplfmcfaaClkOpsBase
namespace Go.Proofs.Ytpjmiopplfmcfaa.clkOps
set_option linter.unusedVariables false
theorem part250 : each (.int .i64 2) (.int .i64 1) (.int .i64 3) = true := by kernel_rfl
theorem part251 : each (.int .i64 2) (.int .i64 1) (.int .i64 4) = true := by kernel_rfl
theorem part252 : each (.int .i64 2) (.int .i64 2) (.rng .i64 9223372036854775808 18446744073709551615) = true := by kernel_rfl
theorem part253 : each (.int .i64 2) (.int .i64 2) (.rng .i64 5 9223372036854775807) = true := by kernel_rfl
theorem part254 : each (.int .i64 2) (.int .i64 2) (.int .i64 0) = true := by kernel_rfl
theorem part255 : each (.int .i64 2) (.int .i64 2) (.int .i64 1) = true := by kernel_rfl
theorem part256 : each (.int .i64 2) (.int .i64 2) (.int .i64 2) = true := by kernel_rfl
theorem part257 : each (.int .i64 2) (.int .i64 2) (.int .i64 3) = true := by kernel_rfl
theorem part258 : each (.int .i64 2) (.int .i64 2) (.int .i64 4) = true := by kernel_rfl
theorem part259 : each (.int .i64 2) (.int .i64 3) (.rng .i64 9223372036854775808 18446744073709551615) = true := by kernel_rfl
end Go.Proofs.Ytpjmiopplfmcfaa.clkOps
