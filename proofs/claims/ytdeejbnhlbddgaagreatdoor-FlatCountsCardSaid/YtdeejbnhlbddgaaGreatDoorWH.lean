/- What is proved: what a function gave when it was run once on told ints, it gives for all ints. Conditions: none. -/
import Derived.Test.YtdeejbnhlbddgaaGreatDoorWG
set_option linter.unusedVariables false
set_option linter.unusedSimpArgs false
set_option linter.unusedSectionVars false
namespace Go.Eng
set_option autoImplicit false
section
variable [Deep] [Env] {P:Program}
noncomputable def roBlk (l:List AV):Blk:=.live true l.length (csetsD l .e 0)
noncomputable def layRo (bs:List (List AV)):H→(H→RV)→RV:=List.rec (motive:=fun _=>H→(H→RV)→RV) (fun h k=>k h) (fun l _ ih h k=>csets l .e 0 fun cs=>forceN (llen l) fun n=>newB h (.live true n cs) fun _ h=>ih h k) bs
end
end Go.Eng
namespace Go.Eng
set_option autoImplicit false
variable [Deep]
section
variable {P:Program}
end
end Go.Eng
namespace Go.Eng
set_option autoImplicit false
variable [Deep]
section
variable {P:Program}
end
end Go.Eng
namespace Go.Eng
set_option autoImplicit false
section
variable {P:Program}
end
end Go.Eng
