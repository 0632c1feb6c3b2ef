/- What is proved: the law's own waking gives true, so all other functions are walked. Conditions: as each theorem says. -/
import Derived.Test.YtdeejbnhlbddgaaGreatDoorReadA
import Derived.Test.YtdeejbnhlbddgaaGreatDoorWL
set_option linter.unusedVariables false
set_option linter.unusedSimpArgs false
set_option linter.unusedSectionVars false
namespace Go.Proofs.YtdeejbnhlbddgaaGreatDoor
open Go.Eng Go.Plain
set_option autoImplicit false
set_option maxRecDepth 100000
abbrev D0:Deep:=⟨6,1000000⟩
theorem good:progOk Tryz.prog=true:=by kernel_rfl
theorem few:Tryz.prog.globals.size≤@mostBlocks D0:=Nat.le_of_ble_eq_true (by kernel_rfl)
theorem wakes13:@runB D0 Tryz.prog 200 4=true:=by kernel_rfl
noncomputable def nat13 [Deep]:Nats:=natsOf [(4,trueNat)]
theorem nat13_ok [Deep]:@NatsOK _ noEnv Tryz.prog nat13 :=
 @natsOf_cons _ noEnv _ _ _ _ (@trueNat_ok _ noEnv _ _ (by kernel_rfl) fun w=>@runB_calls D0 noEnv _ good few _ _ wakes13 w) (@natsOf_nil _ noEnv _)
theorem nat13_at:∀ [Deep],nat13 4=some trueNat:=rfl
theorem usual13:Usual nat13:=fun f hf=>by
 intro _
 have h:Nat.beq 4 f=false:=beq_false.2 fun e=>hf (by rw[←e];decide)
 show ifB (Nat.beq 4 f) _ _=none
 rw[h];rfl
end Go.Proofs.YtdeejbnhlbddgaaGreatDoor
