/- What is proved: the law's own waking gives true, so all other functions are walked. Conditions: as each theorem says. -/
import Derived.Test.YtkggpdaglhnonaaReadA
import Derived.Test.YtkggpdaglhnonaaWL
set_option linter.unusedVariables false
set_option linter.unusedSimpArgs false
set_option linter.unusedSectionVars false
namespace Go.Proofs.Ytkggpdaglhnonaa
open Go.Eng Go.Plain
set_option autoImplicit false
set_option maxRecDepth 100000
abbrev D0:Deep:=⟨6,1000000⟩
theorem good:zlm Try.prog=true:=by kernel_rfl
theorem few:Try.prog.globals.size≤@zae D0:=Nat.le_of_ble_eq_true (by kernel_rfl)
theorem zvD:@runB D0 Try.prog 200 46=true:=by kernel_rfl
noncomputable def zwQ [Deep]:Nats:=zlx [(46,zgv)]
theorem ztE [Deep]:@zgq _ noEnv Try.prog zwQ :=
 @zmO _ noEnv _ _ _ _ (@zoG _ noEnv _ _ (by kernel_rfl) fun w=>@zoL D0 noEnv _ good few _ _ zvD w) (@zo3 _ noEnv _)
theorem ztF:∀ [Deep],zwQ 46=some zgv:=rfl
theorem zvE:Usual zwQ:=fun f hf=>by
 intro _
 have h:Nat.beq 46 f=false:=zav.2 fun e=>hf (by rw[←e];decide)
 show ifB (Nat.beq 46 f) _ _=none
 rw[h];rfl
end Go.Proofs.Ytkggpdaglhnonaa
