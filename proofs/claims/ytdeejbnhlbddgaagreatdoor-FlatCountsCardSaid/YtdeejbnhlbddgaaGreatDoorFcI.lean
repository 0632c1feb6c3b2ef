/- What is proved: all the rows of nodes read, have no fault, and count as told. Conditions: as each theorem says. -/
import Derived.Test.YtdeejbnhlbddgaaGreatDoorFcA
import Derived.Test.YtdeejbnhlbddgaaGreatDoorFcB
import Derived.Test.YtdeejbnhlbddgaaGreatDoorFcC
import Derived.Test.YtdeejbnhlbddgaaGreatDoorFcD
import Derived.Test.YtdeejbnhlbddgaaGreatDoorFcE
import Derived.Test.YtdeejbnhlbddgaaGreatDoorFcF
import Derived.Test.YtdeejbnhlbddgaaGreatDoorFcG
import Derived.Test.YtdeejbnhlbddgaaGreatDoorFcH
set_option linter.unusedVariables false
set_option linter.unusedSimpArgs false
set_option linter.unusedSectionVars false
namespace Go.Plain
open Go.Eng
set_option autoImplicit false
theorem fcs_1:∀n,n<12→fcChk 1 n (parseF (fcS 1 n))=true
 |0,_=>fc_1_0
 |1,_=>fc_1_1
 |2,_=>fc_1_2
 |3,_=>fc_1_3
 |4,_=>fc_1_4
 |5,_=>fc_1_5
 |6,_=>fc_1_6
 |7,_=>fc_1_7
 |8,_=>fc_1_8
 |9,_=>fc_1_9
 |10,_=>fc_1_10
 |11,_=>fc_1_11
 |n+12,h=>absurd h (by omega)
theorem fcs_2:∀n,n<12→fcChk 2 n (parseF (fcS 2 n))=true
 |0,_=>fc_2_0
 |1,_=>fc_2_1
 |2,_=>fc_2_2
 |3,_=>fc_2_3
 |4,_=>fc_2_4
 |5,_=>fc_2_5
 |6,_=>fc_2_6
 |7,_=>fc_2_7
 |8,_=>fc_2_8
 |9,_=>fc_2_9
 |10,_=>fc_2_10
 |11,_=>fc_2_11
 |n+12,h=>absurd h (by omega)
theorem fcs_3:∀n,n<12→fcChk 3 n (parseF (fcS 3 n))=true
 |0,_=>fc_3_0
 |1,_=>fc_3_1
 |2,_=>fc_3_2
 |3,_=>fc_3_3
 |4,_=>fc_3_4
 |5,_=>fc_3_5
 |6,_=>fc_3_6
 |7,_=>fc_3_7
 |8,_=>fc_3_8
 |9,_=>fc_3_9
 |10,_=>fc_3_10
 |11,_=>fc_3_11
 |n+12,h=>absurd h (by omega)
theorem fcs_4:∀n,n<12→fcChk 4 n (parseF (fcS 4 n))=true
 |0,_=>fc_4_0
 |1,_=>fc_4_1
 |2,_=>fc_4_2
 |3,_=>fc_4_3
 |4,_=>fc_4_4
 |5,_=>fc_4_5
 |6,_=>fc_4_6
 |7,_=>fc_4_7
 |8,_=>fc_4_8
 |9,_=>fc_4_9
 |10,_=>fc_4_10
 |11,_=>fc_4_11
 |n+12,h=>absurd h (by omega)
theorem fc_all:∀t n,1≤t→t≤4→n<12→fcChk t n (parseF (fcS t n))=true
 |1,n,_,_,h=>fcs_1 n h
 |2,n,_,_,h=>fcs_2 n h
 |3,n,_,_,h=>fcs_3 n h
 |4,n,_,_,h=>fcs_4 n h
 |0,_,h,_,_=>absurd h (by omega)
 |t+5,_,_,h,_=>absurd h (by omega)
end Go.Plain
