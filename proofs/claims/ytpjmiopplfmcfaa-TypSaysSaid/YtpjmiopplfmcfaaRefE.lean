/- What is proved: what the document's check of clocks does, and its clock of an expression, asked from outside. what reads a text up to a chapter does. Conditions: as each theorem says. -/
import Derived.Test.YtpjmiopplfmcfaaRefD
import Derived.Test.YtpjmiopplfmcfaaTwo
set_option linter.unusedVariables false
set_option linter.unusedSimpArgs false
set_option linter.unusedSectionVars false
namespace Go.Plain
open Go.Eng
set_option autoImplicit false
end Go.Plain
namespace Go.Proofs.Ytpjmiopplfmcfaa
open Go.Eng Go.Plain
set_option autoImplicit false
set_option maxRecDepth 100000
variable {nat:∀ [Deep],Nats}
end Go.Proofs.Ytpjmiopplfmcfaa
namespace Go.Plain
open Go.Eng
set_option autoImplicit false
theorem names_known {l:List Nd} (h:(namesR l).1 = 0):∀ n ∈ l,∀ q ∈ n.eqs,knownE l n q.e:=by
 intro n hn q hq
 obtain ⟨i,hi,rfl⟩:=List.getElem_of_mem hn
 have:=((namesR_0 h hi).eqs q hq).1
 have h2:=known_pre (r:=l.drop i) q.e this
 rw [List.take_append_drop] at h2
 exact h2
end Go.Plain
namespace Go.Proofs.Ytpjmiopplfmcfaa
open Go.Eng Go.Plain
set_option autoImplicit false
set_option maxRecDepth 100000
variable {nat:∀ [Deep],Nats}
structure Upto7 (l:List Nd):Prop where
 ok:okL l
 made:∀ n ∈ l,Made n
 names:(namesR l).1 = 0
 types:(typesR l).1 = 0
end Go.Proofs.Ytpjmiopplfmcfaa
