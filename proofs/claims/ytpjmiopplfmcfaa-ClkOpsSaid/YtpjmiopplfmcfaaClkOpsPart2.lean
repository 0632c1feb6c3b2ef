/- What is proved: some of the cases of ClkOps, worked out. Conditions: none. -/
import Derived.Test.YtpjmiopplfmcfaaClkOpsBase
namespace Go.Proofs.Ytpjmiopplfmcfaa.clkOps
set_option linter.unusedVariables false
theorem part20 : each (.rng .i64 9223372036854775808 18446744073709551615) (.int .i64 0) (.int .i64 4) = true := by kernel_rfl
theorem part21 : each (.rng .i64 9223372036854775808 18446744073709551615) (.int .i64 1) (.rng .i64 9223372036854775808 18446744073709551615) = true := by kernel_rfl
theorem part22 : each (.rng .i64 9223372036854775808 18446744073709551615) (.int .i64 1) (.rng .i64 5 9223372036854775807) = true := by kernel_rfl
theorem part23 : each (.rng .i64 9223372036854775808 18446744073709551615) (.int .i64 1) (.int .i64 0) = true := by kernel_rfl
theorem part24 : each (.rng .i64 9223372036854775808 18446744073709551615) (.int .i64 1) (.int .i64 1) = true := by kernel_rfl
theorem part25 : each (.rng .i64 9223372036854775808 18446744073709551615) (.int .i64 1) (.int .i64 2) = true := by kernel_rfl
theorem part26 : each (.rng .i64 9223372036854775808 18446744073709551615) (.int .i64 1) (.int .i64 3) = true := by kernel_rfl
theorem part27 : each (.rng .i64 9223372036854775808 18446744073709551615) (.int .i64 1) (.int .i64 4) = true := by kernel_rfl
theorem part28 : each (.rng .i64 9223372036854775808 18446744073709551615) (.int .i64 2) (.rng .i64 9223372036854775808 18446744073709551615) = true := by kernel_rfl
theorem part29 : each (.rng .i64 9223372036854775808 18446744073709551615) (.int .i64 2) (.rng .i64 5 9223372036854775807) = true := by kernel_rfl
end Go.Proofs.Ytpjmiopplfmcfaa.clkOps
