/- What is proved: some of the rows of nodes read, have no fault, and count as told. Conditions: as each theorem says. -/
import Derived.Test.YtdeejbnhlbddgaaGreatDoorPlainR
set_option linter.unusedVariables false
set_option linter.unusedSimpArgs false
set_option linter.unusedSectionVars false
namespace Go.Plain
open Go.Eng
set_option autoImplicit false
set_option maxRecDepth 100000
theorem fc_3_9:fcChk 3 9 (parseF (fcS 3 9))=true:=by kernel_rfl
theorem fc_3_10:fcChk 3 10 (parseF (fcS 3 10))=true:=by kernel_rfl
theorem fc_4_0:fcChk 4 0 (parseF (fcS 4 0))=true:=by kernel_rfl
theorem fc_4_1:fcChk 4 1 (parseF (fcS 4 1))=true:=by kernel_rfl
theorem fc_4_2:fcChk 4 2 (parseF (fcS 4 2))=true:=by kernel_rfl
theorem fc_4_3:fcChk 4 3 (parseF (fcS 4 3))=true:=by kernel_rfl
end Go.Plain
