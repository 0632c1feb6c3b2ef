/- What is proved: some of the cases of ClkOps, worked out. Conditions: none. -/
import Derived.Test.YtpjmiopplfmcfaaClkOpsBase
namespace Go.Proofs.Ytpjmiopplfmcfaa.clkOps
set_option linter.unusedVariables false
theorem part390 : each (.int .i64 4) (.int .i64 5) (.int .i64 3) = true := by kernel_rfl
theorem part391 : each (.int .i64 4) (.int .i64 5) (.int .i64 4) = true := by kernel_rfl
theorem part392 : each (.int .i64 5) (.rng .i64 9223372036854775808 18446744073709551615) (.rng .i64 9223372036854775808 18446744073709551615) = true := by kernel_rfl
theorem part393 : each (.int .i64 5) (.rng .i64 9223372036854775808 18446744073709551615) (.rng .i64 5 9223372036854775807) = true := by kernel_rfl
theorem part394 : each (.int .i64 5) (.rng .i64 9223372036854775808 18446744073709551615) (.int .i64 0) = true := by kernel_rfl
theorem part395 : each (.int .i64 5) (.rng .i64 9223372036854775808 18446744073709551615) (.int .i64 1) = true := by kernel_rfl
theorem part396 : each (.int .i64 5) (.rng .i64 9223372036854775808 18446744073709551615) (.int .i64 2) = true := by kernel_rfl
theorem part397 : each (.int .i64 5) (.rng .i64 9223372036854775808 18446744073709551615) (.int .i64 3) = true := by kernel_rfl
theorem part398 : each (.int .i64 5) (.rng .i64 9223372036854775808 18446744073709551615) (.int .i64 4) = true := by kernel_rfl
theorem part399 : each (.int .i64 5) (.rng .i64 6 9223372036854775807) (.rng .i64 9223372036854775808 18446744073709551615) = true := by kernel_rfl
end Go.Proofs.Ytpjmiopplfmcfaa.clkOps
