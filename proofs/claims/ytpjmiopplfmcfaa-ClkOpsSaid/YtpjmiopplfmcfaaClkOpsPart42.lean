/- What is proved: some of the cases of ClkOps, worked out. Conditions: none. -/
import Derived.Test.YtpjmiopplfmcfaaClkOpsBase
namespace Go.Proofs.Ytpjmiopplfmcfaa.clkOps
set_option linter.unusedVariables false
theorem part420 : each (.int .i64 5) (.int .i64 2) (.rng .i64 9223372036854775808 18446744073709551615) = true := by kernel_rfl
theorem part421 : each (.int .i64 5) (.int .i64 2) (.rng .i64 5 9223372036854775807) = true := by kernel_rfl
theorem part422 : each (.int .i64 5) (.int .i64 2) (.int .i64 0) = true := by kernel_rfl
theorem part423 : each (.int .i64 5) (.int .i64 2) (.int .i64 1) = true := by kernel_rfl
theorem part424 : each (.int .i64 5) (.int .i64 2) (.int .i64 2) = true := by kernel_rfl
theorem part425 : each (.int .i64 5) (.int .i64 2) (.int .i64 3) = true := by kernel_rfl
theorem part426 : each (.int .i64 5) (.int .i64 2) (.int .i64 4) = true := by kernel_rfl
theorem part427 : each (.int .i64 5) (.int .i64 3) (.rng .i64 9223372036854775808 18446744073709551615) = true := by kernel_rfl
theorem part428 : each (.int .i64 5) (.int .i64 3) (.rng .i64 5 9223372036854775807) = true := by kernel_rfl
theorem part429 : each (.int .i64 5) (.int .i64 3) (.int .i64 0) = true := by kernel_rfl
end Go.Proofs.Ytpjmiopplfmcfaa.clkOps
