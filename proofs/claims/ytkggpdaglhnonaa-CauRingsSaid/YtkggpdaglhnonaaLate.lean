/- What is proved: what the document's leaves of what is late do. what tells the document's late names does. what the document's look at an expression's late parts does. what the document's check of what is late does. what reads a text up to chapter 9 does. Conditions: as each theorem says. -/
import Derived.Test.YtkggpdaglhnonaaRefE
import Derived.Test.YtkggpdaglhnonaaPlainR
set_option linter.unusedVariables false
set_option linter.unusedSimpArgs false
set_option linter.unusedSectionVars false
namespace Go.Plain
open Go.Eng
set_option autoImplicit false
def strc (m:List S):List AV:=m.map fun s=>.str s.1 s.2
theorem strc_len (m:List S):(strc m).length = m.length:=List.length_map ..
theorem strc_get {m:List S} {i:Nat} (h:i < m.length):(strc m).getD i und = .str m[i].1 m[i].2:=by
 unfold strc
 rw [List.getD_eq_getElem?_getD,List.getElem?_map,List.getElem?_eq_getElem h]; rfl
theorem strc_app (m:List S) (s:S):strc m ++ [.str s.1 s.2] = strc (m ++ [s]):=by unfold strc; rw [List.map_append]; rfl
end Go.Plain
namespace Go.Proofs.Ytkggpdaglhnonaa
open Go.Eng Go.Plain
set_option autoImplicit false
set_option maxRecDepth 100000
variable {nat:∀ [Deep],Nats}
end Go.Proofs.Ytkggpdaglhnonaa
namespace Go.Plain
open Go.Eng
set_option autoImplicit false
end Go.Plain
namespace Go.Proofs.Ytkggpdaglhnonaa
open Go.Eng Go.Plain
set_option autoImplicit false
set_option maxRecDepth 100000
variable {nat:∀ [Deep],Nats}
end Go.Proofs.Ytkggpdaglhnonaa
namespace Go.Plain
open Go.Eng
set_option autoImplicit false
end Go.Plain
namespace Go.Proofs.Ytkggpdaglhnonaa
open Go.Eng Go.Plain
set_option autoImplicit false
set_option maxRecDepth 100000
variable {nat:∀ [Deep],Nats}
end Go.Proofs.Ytkggpdaglhnonaa
namespace Go.Plain
open Go.Eng
set_option autoImplicit false
end Go.Plain
namespace Go.Proofs.Ytkggpdaglhnonaa
open Go.Eng Go.Plain
set_option autoImplicit false
set_option maxRecDepth 100000
variable {nat:∀ [Deep],Nats}
end Go.Proofs.Ytkggpdaglhnonaa
namespace Go.Proofs.Ytkggpdaglhnonaa
open Go.Eng Go.Plain
set_option autoImplicit false
set_option maxRecDepth 100000
variable {nat:∀ [Deep],Nats}
end Go.Proofs.Ytkggpdaglhnonaa
