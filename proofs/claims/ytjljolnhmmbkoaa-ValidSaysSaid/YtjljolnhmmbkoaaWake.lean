/- What is proved: the law's own waking gives true, so all other functions are walked. Conditions: none. -/
import Derived.Test.YtjljolnhmmbkoaaValid17
import Derived.Test.YtjljolnhmmbkoaaWL
set_option linter.unusedVariables false
set_option linter.unusedSimpArgs false
set_option linter.unusedSectionVars false
namespace Go.Proofs.Ytjljolnhmmbkoaa
open Go.Eng Go.Plain
set_option autoImplicit false
set_option maxRecDepth 100000
abbrev D0 : Deep := ⟨6, 1000000⟩
theorem good : progOk Try.prog = true := by kernel_rfl
theorem few : Try.prog.globals.size ≤ @mostBlocks D0 := Nat.le_of_ble_eq_true (by kernel_rfl)
theorem wakes16 : @runB D0 Try.prog 200 16 = true := by kernel_rfl
noncomputable def nat1 [Deep] : Nats := natsOf [(16, trueNat)]
theorem nat1_ok [Deep] : @NatsOK _ noEnv Try.prog nat1 :=
  @natsOf_cons _ noEnv _ _ _ _ (@trueNat_ok _ noEnv _ _ (by kernel_rfl) fun w => @runB_calls D0 noEnv _ good few _ _ wakes16 w) (@natsOf_nil _ noEnv _)
theorem usual1 : Usual nat1 := fun f hf => by
  intro _
  have h : Nat.beq 16 f = false := beq_false.2 fun e => hf (by rw [← e]; decide)
  show ifB (Nat.beq 16 f) _ _ = none
  rw [h]; rfl
end Go.Proofs.Ytjljolnhmmbkoaa
