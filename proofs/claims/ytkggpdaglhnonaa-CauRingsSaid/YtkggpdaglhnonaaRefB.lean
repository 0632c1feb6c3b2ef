/- What is proved: what the document's check of an expression's names does. what the document's check of names does. Conditions: as each theorem says. -/
import Derived.Test.YtkggpdaglhnonaaRefA
set_option linter.unusedVariables false
set_option linter.unusedSimpArgs false
set_option linter.unusedSectionVars false
namespace Go.Plain
open Go.Eng
set_option autoImplicit false
theorem extX_B {η0 η η':HN} {cb:Nat} (x:ExtB η0.nx η0 η) (hc:η0.nx ≤ cb) (y:ExtX cb η η'):ExtB η0.nx η0 η':=⟨Nat.le_trans x.1 y.1,fun b hb=>(y.2 b (Nat.lt_of_lt_of_le hb x.1) (by omega)).trans (x.2 b hb)⟩
theorem extB_X {η η':HN} (cb:Nat) (x:ExtB η.nx η η'):ExtX cb η η':=⟨x.1,fun b hb _=>x.2 b hb⟩
end Go.Plain
namespace Go.Proofs.Ytkggpdaglhnonaa
open Go.Eng Go.Plain
set_option autoImplicit false
set_option maxRecDepth 100000
variable {nat:∀ [Deep],Nats}
end Go.Proofs.Ytkggpdaglhnonaa
namespace Go.Plain
open Go.Eng
set_option autoImplicit false
end Go.Plain
namespace Go.Proofs.Ytkggpdaglhnonaa
open Go.Eng Go.Plain
set_option autoImplicit false
set_option maxRecDepth 100000
variable {nat:∀ [Deep],Nats}
end Go.Proofs.Ytkggpdaglhnonaa
