/- What is proved: some of the cases of TypCalls, worked out. Conditions: none. -/
import Derived.Test.YtpjmiopplfmcfaaTypCallsBase
namespace Go.Proofs.Ytpjmiopplfmcfaa.typCalls
set_option linter.unusedVariables false
theorem part14 : Eng.lall (fun v => Eng.lall (fun q => each (.bool true) (.bool true) (.bool true) (.bool false) v q) Eng.domB) Eng.domB = true := by kernel_rfl
theorem part15 : Eng.lall (fun v => Eng.lall (fun q => each (.bool true) (.bool true) (.bool true) (.bool true) v q) Eng.domB) Eng.domB = true := by kernel_rfl
end Go.Proofs.Ytpjmiopplfmcfaa.typCalls
