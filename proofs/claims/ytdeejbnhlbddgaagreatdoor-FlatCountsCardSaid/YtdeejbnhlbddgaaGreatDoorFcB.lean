/- What is proved: some of the rows of nodes read, have no fault, and count as told. Conditions: as each theorem says. -/
import Derived.Test.YtdeejbnhlbddgaaGreatDoorPlainR
set_option linter.unusedVariables false
set_option linter.unusedSimpArgs false
set_option linter.unusedSectionVars false
namespace Go.Plain
open Go.Eng
set_option autoImplicit false
set_option maxRecDepth 100000
theorem fc_2_6:fcChk 2 6 (parseF (fcS 2 6))=true:=by kernel_rfl
theorem fc_2_7:fcChk 2 7 (parseF (fcS 2 7))=true:=by kernel_rfl
theorem fc_2_8:fcChk 2 8 (parseF (fcS 2 8))=true:=by kernel_rfl
theorem fc_2_9:fcChk 2 9 (parseF (fcS 2 9))=true:=by kernel_rfl
theorem fc_2_10:fcChk 2 10 (parseF (fcS 2 10))=true:=by kernel_rfl
theorem fc_2_11:fcChk 2 11 (parseF (fcS 2 11))=true:=by kernel_rfl
theorem fc_3_0:fcChk 3 0 (parseF (fcS 3 0))=true:=by kernel_rfl
theorem fc_3_1:fcChk 3 1 (parseF (fcS 3 1))=true:=by kernel_rfl
theorem fc_3_2:fcChk 3 2 (parseF (fcS 3 2))=true:=by kernel_rfl
theorem fc_3_3:fcChk 3 3 (parseF (fcS 3 3))=true:=by kernel_rfl
end Go.Plain
