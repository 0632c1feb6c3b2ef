/- What is proved: what the document's kind of an expression does. Conditions: as each theorem says. -/
import Derived.Test.YtkggpdaglhnonaaRefA
import Derived.Test.YtkggpdaglhnonaaPlainR
import Derived.Test.YtkggpdaglhnonaaRefB
set_option linter.unusedVariables false
set_option linter.unusedSimpArgs false
set_option linter.unusedSectionVars false
namespace Go.Plain
open Go.Eng
set_option autoImplicit false
end Go.Plain
namespace Go.Proofs.Ytkggpdaglhnonaa
open Go.Eng Go.Plain
set_option autoImplicit false
set_option maxRecDepth 100000
variable {nat:∀ [Deep],Nats}
end Go.Proofs.Ytkggpdaglhnonaa
