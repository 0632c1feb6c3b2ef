/- What is proved: what all cases of ClkOps lean on. Conditions: none. -/
import Derived.Test.YtpjmiopplfmcfaaRows
import Derived.Test.YtpjmiopplfmcfaaEngF
namespace Go.Proofs.Ytpjmiopplfmcfaa.clkOps
set_option linter.unusedVariables false
/-! ### The walk: worked out, case by case -/
theorem good : Eng.progOk Try.prog = true := by kernel_rfl
theorem few : Try.prog.globals.size ≤ Eng.mostBlocks := of_decide_eq_true (by kernel_rfl)
theorem wakes : Eng.runB Try.prog 200 25 = true := by kernel_rfl
noncomputable def nat : Eng.Nats := Eng.truths [25]
theorem nat_ok : Eng.NatsOK Try.prog nat := Eng.truths_ok fun f hf => by
  have e : f = 25 := by simpa using hf
  subst e
  exact ⟨by kernel_rfl, fun w => Eng.runB_calls good few wakes w⟩
noncomputable def each (x y z : Eng.AV) : Bool := Eng.runA Try.prog nat 200 10 [x, y, z]
end Go.Proofs.Ytpjmiopplfmcfaa.clkOps
