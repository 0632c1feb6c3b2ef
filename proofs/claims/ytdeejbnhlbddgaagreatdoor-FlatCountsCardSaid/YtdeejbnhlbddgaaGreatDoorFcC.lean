/- What is proved: some of the rows of nodes read, have no fault, and count as told. Conditions: as each theorem says. -/
import Derived.Test.YtdeejbnhlbddgaaGreatDoorPlainR
set_option linter.unusedVariables false
set_option linter.unusedSimpArgs false
set_option linter.unusedSectionVars false
namespace Go.Plain
open Go.Eng
set_option autoImplicit false
set_option maxRecDepth 100000
theorem fc_3_4:fcChk 3 4 (parseF (fcS 3 4))=true:=by kernel_rfl
theorem fc_3_5:fcChk 3 5 (parseF (fcS 3 5))=true:=by kernel_rfl
theorem fc_3_6:fcChk 3 6 (parseF (fcS 3 6))=true:=by kernel_rfl
theorem fc_3_7:fcChk 3 7 (parseF (fcS 3 7))=true:=by kernel_rfl
theorem fc_3_8:fcChk 3 8 (parseF (fcS 3 8))=true:=by kernel_rfl
end Go.Plain
