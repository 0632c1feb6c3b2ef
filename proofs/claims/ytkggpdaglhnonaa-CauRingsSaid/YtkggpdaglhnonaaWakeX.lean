/- What is proved: the law's own waking gives true, so all other functions are walked. Conditions: as each theorem says. -/
import Derived.Test.YtkggpdaglhnonaaReadA
import Derived.Test.YtkggpdaglhnonaaWL
set_option linter.unusedVariables false
set_option linter.unusedSimpArgs false
set_option linter.unusedSectionVars false
namespace Go.Proofs.Ytkggpdaglhnonaa
open Go.Eng Go.Plain
set_option autoImplicit false
set_option maxRecDepth 100000
abbrev D0:Deep:=⟨6,1000000⟩
theorem good:progOk Try.prog = true:=by kernel_rfl
theorem few:Try.prog.globals.size ≤ @mostBlocks D0:=Nat.le_of_ble_eq_true (by kernel_rfl)
theorem wakes10:@runB D0 Try.prog 200 46 = true:=by kernel_rfl
noncomputable def nat10 [Deep]:Nats:=natsOf [(46,trueNat)]
theorem nat10_ok [Deep]:@NatsOK _ noEnv Try.prog nat10 :=
 @natsOf_cons _ noEnv _ _ _ _ (@trueNat_ok _ noEnv _ _ (by kernel_rfl) fun w=>@runB_calls D0 noEnv _ good few _ _ wakes10 w) (@natsOf_nil _ noEnv _)
theorem nat10_at:∀ [Deep],nat10 46 = some trueNat:=rfl
theorem usual10:Usual nat10:=fun f hf=>by
 intro _
 have h:Nat.beq 46 f = false:=beq_false.2 fun e=>hf (by rw [← e]; decide)
 show ifB (Nat.beq 46 f) _ _ = none
 rw [h]; rfl
end Go.Proofs.Ytkggpdaglhnonaa
