/- What is proved: some of the cases of ClkOps, worked out. Conditions: none. -/
import Derived.Test.YtpjmiopplfmcfaaClkOpsBase
namespace Go.Proofs.Ytpjmiopplfmcfaa.clkOps
set_option linter.unusedVariables false
theorem part220 : each (.int .i64 1) (.int .i64 5) (.int .i64 1) = true := by kernel_rfl
theorem part221 : each (.int .i64 1) (.int .i64 5) (.int .i64 2) = true := by kernel_rfl
theorem part222 : each (.int .i64 1) (.int .i64 5) (.int .i64 3) = true := by kernel_rfl
theorem part223 : each (.int .i64 1) (.int .i64 5) (.int .i64 4) = true := by kernel_rfl
theorem part224 : each (.int .i64 2) (.rng .i64 9223372036854775808 18446744073709551615) (.rng .i64 9223372036854775808 18446744073709551615) = true := by kernel_rfl
theorem part225 : each (.int .i64 2) (.rng .i64 9223372036854775808 18446744073709551615) (.rng .i64 5 9223372036854775807) = true := by kernel_rfl
theorem part226 : each (.int .i64 2) (.rng .i64 9223372036854775808 18446744073709551615) (.int .i64 0) = true := by kernel_rfl
theorem part227 : each (.int .i64 2) (.rng .i64 9223372036854775808 18446744073709551615) (.int .i64 1) = true := by kernel_rfl
theorem part228 : each (.int .i64 2) (.rng .i64 9223372036854775808 18446744073709551615) (.int .i64 2) = true := by kernel_rfl
theorem part229 : each (.int .i64 2) (.rng .i64 9223372036854775808 18446744073709551615) (.int .i64 3) = true := by kernel_rfl
end Go.Proofs.Ytpjmiopplfmcfaa.clkOps
