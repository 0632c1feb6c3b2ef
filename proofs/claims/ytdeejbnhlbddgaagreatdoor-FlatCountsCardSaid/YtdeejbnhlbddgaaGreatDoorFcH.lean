/- What is proved: some of the rows of nodes read, have no fault, and count as told. Conditions: as each theorem says. -/
import Derived.Test.YtdeejbnhlbddgaaGreatDoorPlainR
set_option linter.unusedVariables false
set_option linter.unusedSimpArgs false
set_option linter.unusedSectionVars false
namespace Go.Plain
open Go.Eng
set_option autoImplicit false
set_option maxRecDepth 100000
theorem fc_4_11:fcChk 4 11 (parseF (fcS 4 11))=true:=by kernel_rfl
end Go.Plain
