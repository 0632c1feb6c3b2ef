/- What is proved: what an expression's own clock is. what an expression's clock is. what the program's check of clocks does. Conditions: as each theorem says. -/
import Derived.Test.YtdeejbnhlbddgaaGreatDoorClkA
import Derived.Test.YtdeejbnhlbddgaaGreatDoorPlain
import Derived.Test.YtdeejbnhlbddgaaGreatDoorNameB
set_option linter.unusedVariables false
set_option linter.unusedSimpArgs false
set_option linter.unusedSectionVars false
namespace Go.Proofs.YtdeejbnhlbddgaaGreatDoor
open Go.Eng Go.Plain
set_option autoImplicit false
set_option maxRecDepth 100000
variable {nat:∀ [Deep],Nats}
structure TimAt (η:HN) (tb:Nat) (n:Nd) (wr:AV):Prop where
 hb:∃y1 y2 y3 y4,η.f tb=.live false [.str n.nm.1 n.nm.2,y1,y2,y3,y4,.int .i64 n.a,wr]∧rdN tt η n [.str n.nm.1 n.nm.2,y1,y2,y3,y4,.int .i64 n.a]
 hn:tb<η.nx
 ok:okN n
end Go.Proofs.YtdeejbnhlbddgaaGreatDoor
namespace Go.Plain
open Go.Eng
set_option autoImplicit false
end Go.Plain
namespace Go.Proofs.YtdeejbnhlbddgaaGreatDoor
open Go.Eng Go.Plain
set_option autoImplicit false
set_option maxRecDepth 100000
variable {nat:∀ [Deep],Nats}
end Go.Proofs.YtdeejbnhlbddgaaGreatDoor
namespace Go.Plain
open Go.Eng
set_option autoImplicit false
end Go.Plain
namespace Go.Proofs.YtdeejbnhlbddgaaGreatDoor
open Go.Eng Go.Plain
set_option autoImplicit false
set_option maxRecDepth 100000
variable {nat:∀ [Deep],Nats}
end Go.Proofs.YtdeejbnhlbddgaaGreatDoor
