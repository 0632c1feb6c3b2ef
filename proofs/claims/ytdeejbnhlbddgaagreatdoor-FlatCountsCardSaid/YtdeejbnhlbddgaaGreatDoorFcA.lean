/- What is proved: some of the rows of nodes read, have no fault, and count as told. Conditions: as each theorem says. -/
import Derived.Test.YtdeejbnhlbddgaaGreatDoorPlainR
set_option linter.unusedVariables false
set_option linter.unusedSimpArgs false
set_option linter.unusedSectionVars false
namespace Go.Plain
open Go.Eng
set_option autoImplicit false
set_option maxRecDepth 100000
theorem fc_1_0:fcChk 1 0 (parseF (fcS 1 0))=true:=by kernel_rfl
theorem fc_1_1:fcChk 1 1 (parseF (fcS 1 1))=true:=by kernel_rfl
theorem fc_1_2:fcChk 1 2 (parseF (fcS 1 2))=true:=by kernel_rfl
theorem fc_1_3:fcChk 1 3 (parseF (fcS 1 3))=true:=by kernel_rfl
theorem fc_1_4:fcChk 1 4 (parseF (fcS 1 4))=true:=by kernel_rfl
theorem fc_1_5:fcChk 1 5 (parseF (fcS 1 5))=true:=by kernel_rfl
theorem fc_1_6:fcChk 1 6 (parseF (fcS 1 6))=true:=by kernel_rfl
theorem fc_1_7:fcChk 1 7 (parseF (fcS 1 7))=true:=by kernel_rfl
theorem fc_1_8:fcChk 1 8 (parseF (fcS 1 8))=true:=by kernel_rfl
theorem fc_1_9:fcChk 1 9 (parseF (fcS 1 9))=true:=by kernel_rfl
theorem fc_1_10:fcChk 1 10 (parseF (fcS 1 10))=true:=by kernel_rfl
theorem fc_1_11:fcChk 1 11 (parseF (fcS 1 11))=true:=by kernel_rfl
theorem fc_2_0:fcChk 2 0 (parseF (fcS 2 0))=true:=by kernel_rfl
theorem fc_2_1:fcChk 2 1 (parseF (fcS 2 1))=true:=by kernel_rfl
theorem fc_2_2:fcChk 2 2 (parseF (fcS 2 2))=true:=by kernel_rfl
theorem fc_2_3:fcChk 2 3 (parseF (fcS 2 3))=true:=by kernel_rfl
theorem fc_2_4:fcChk 2 4 (parseF (fcS 2 4))=true:=by kernel_rfl
theorem fc_2_5:fcChk 2 5 (parseF (fcS 2 5))=true:=by kernel_rfl
end Go.Plain
