/- What is proved: a call that was worked out at one depth of the heap is known at every depth. Conditions: none. -/
import Derived.Test.YtdeejbnhlbddgaaGreatDoorWK
set_option linter.unusedVariables false
set_option linter.unusedSimpArgs false
set_option linter.unusedSectionVars false
namespace Go.Eng
set_option autoImplicit false
set_option linter.unusedSectionVars false
variable [D:Deep] [Env]
section
variable {P:Program}
end
end Go.Eng
