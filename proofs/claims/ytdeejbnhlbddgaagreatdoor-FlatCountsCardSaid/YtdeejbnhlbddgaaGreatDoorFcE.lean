/- What is proved: some of the rows of nodes read, have no fault, and count as told. Conditions: as each theorem says. -/
import Derived.Test.YtdeejbnhlbddgaaGreatDoorPlainR
set_option linter.unusedVariables false
set_option linter.unusedSimpArgs false
set_option linter.unusedSectionVars false
namespace Go.Plain
open Go.Eng
set_option autoImplicit false
set_option maxRecDepth 100000
theorem fc_3_11:fcChk 3 11 (parseF (fcS 3 11))=true:=by kernel_rfl
theorem fc_4_4:fcChk 4 4 (parseF (fcS 4 4))=true:=by kernel_rfl
theorem fc_4_5:fcChk 4 5 (parseF (fcS 4 5))=true:=by kernel_rfl
theorem fc_4_6:fcChk 4 6 (parseF (fcS 4 6))=true:=by kernel_rfl
theorem fc_4_7:fcChk 4 7 (parseF (fcS 4 7))=true:=by kernel_rfl
end Go.Plain
