/- What is proved: what the leaves of the document's checks do. what the document's clocks of names do. what the document's clock of a name, the places of nodes, equations, inputs do. what the places of nodes, equations, inputs by their names do. whether two clocks are one, as law 8 asks it. what a copy of a clock is. what the program's clock of an expression, asked from outside, is. Conditions: as each theorem says. -/
import Derived.Test.YtkggpdaglhnonaaClkB
import Derived.Test.YtkggpdaglhnonaaPlainR
set_option linter.unusedVariables false
set_option linter.unusedSimpArgs false
set_option linter.unusedSectionVars false
namespace Go.Plain
open Go.Eng
set_option autoImplicit false
theorem rdR_A {s:Nat} {η:HN} {y:AV} {ls:List (List AV)} (h:RdR s η y ls):RdA s η y ls.length ls.flatten:=by
 rcases h with ⟨rfl,h⟩ | ⟨b,off,cap,ro,row,h1,h2,h3,h4,h5,h6⟩
 ·exact .inl ⟨rfl,rfl,h⟩
 ·exact .inr ⟨b,off,cap,ro,row,h1,h2,h3,h4,flat_len _ h5,h6⟩
theorem vrs_len (l:List Vr):(l.map Vr.cells).length = l.length:=List.length_map ..
end Go.Plain
namespace Go.Proofs.Ytkggpdaglhnonaa
open Go.Eng Go.Plain
set_option autoImplicit false
set_option maxRecDepth 100000
variable {nat:∀ [Deep],Nats}
end Go.Proofs.Ytkggpdaglhnonaa
namespace Go.Plain
open Go.Eng
set_option autoImplicit false
end Go.Plain
namespace Go.Proofs.Ytkggpdaglhnonaa
open Go.Eng Go.Plain
set_option autoImplicit false
set_option maxRecDepth 100000
variable {nat:∀ [Deep],Nats}
end Go.Proofs.Ytkggpdaglhnonaa
namespace Go.Plain
open Go.Eng
set_option autoImplicit false
end Go.Plain
namespace Go.Proofs.Ytkggpdaglhnonaa
open Go.Eng Go.Plain
set_option autoImplicit false
set_option maxRecDepth 100000
variable {nat:∀ [Deep],Nats}
end Go.Proofs.Ytkggpdaglhnonaa
namespace Go.Plain
open Go.Eng
set_option autoImplicit false
theorem cell_at {row l:List AV} {o s:Nat} (h:(row.drop o).take s = l) (j:Nat) (hj:j < s):row.getD (o + j) und = l.getD j und:=by
 rw [← h,List.getD_eq_getElem?_getD,List.getD_eq_getElem?_getD,List.getElem?_take,if_pos hj,List.getElem?_drop]
end Go.Plain
namespace Go.Proofs.Ytkggpdaglhnonaa
open Go.Eng Go.Plain
set_option autoImplicit false
set_option maxRecDepth 100000
variable {nat:∀ [Deep],Nats}
end Go.Proofs.Ytkggpdaglhnonaa
namespace Go.Proofs.Ytkggpdaglhnonaa
open Go.Eng Go.Plain
set_option autoImplicit false
set_option maxRecDepth 100000
variable {nat:∀ [Deep],Nats}
end Go.Proofs.Ytkggpdaglhnonaa
namespace Go.Proofs.Ytkggpdaglhnonaa
open Go.Eng Go.Plain
set_option autoImplicit false
set_option maxRecDepth 100000
variable {nat:∀ [Deep],Nats}
end Go.Proofs.Ytkggpdaglhnonaa
namespace Go.Proofs.Ytkggpdaglhnonaa
open Go.Eng Go.Plain
set_option autoImplicit false
set_option maxRecDepth 100000
variable {nat:∀ [Deep],Nats}
end Go.Proofs.Ytkggpdaglhnonaa
