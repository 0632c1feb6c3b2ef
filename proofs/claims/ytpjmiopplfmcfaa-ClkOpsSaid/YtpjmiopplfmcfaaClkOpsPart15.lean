/- What is proved: some of the cases of ClkOps, worked out. Conditions: none. -/
import Derived.Test.YtpjmiopplfmcfaaClkOpsBase
namespace Go.Proofs.Ytpjmiopplfmcfaa.clkOps
set_option linter.unusedVariables false
theorem part150 : each (.int .i64 0) (.int .i64 3) (.int .i64 1) = true := by kernel_rfl
theorem part151 : each (.int .i64 0) (.int .i64 3) (.int .i64 2) = true := by kernel_rfl
theorem part152 : each (.int .i64 0) (.int .i64 3) (.int .i64 3) = true := by kernel_rfl
theorem part153 : each (.int .i64 0) (.int .i64 3) (.int .i64 4) = true := by kernel_rfl
theorem part154 : each (.int .i64 0) (.int .i64 4) (.rng .i64 9223372036854775808 18446744073709551615) = true := by kernel_rfl
theorem part155 : each (.int .i64 0) (.int .i64 4) (.rng .i64 5 9223372036854775807) = true := by kernel_rfl
theorem part156 : each (.int .i64 0) (.int .i64 4) (.int .i64 0) = true := by kernel_rfl
theorem part157 : each (.int .i64 0) (.int .i64 4) (.int .i64 1) = true := by kernel_rfl
theorem part158 : each (.int .i64 0) (.int .i64 4) (.int .i64 2) = true := by kernel_rfl
theorem part159 : each (.int .i64 0) (.int .i64 4) (.int .i64 3) = true := by kernel_rfl
end Go.Proofs.Ytpjmiopplfmcfaa.clkOps
