/- What is proved: a node of so many outputs, one of them twice, is read as it is written; its first fault of names. NamesTwice, walked. Conditions: as each theorem says. -/
import Derived.Test.YtpjmiopplfmcfaaPlain
import Derived.KernelRfl
import Derived.Test.YtpjmiopplfmcfaaNameB
set_option linter.unusedVariables false
set_option linter.unusedSimpArgs false
set_option linter.unusedSectionVars false
namespace Go.Plain
open Go.Eng
set_option autoImplicit false
set_option maxRecDepth 100000
section
variable {a b n:Nat}
end
section
variable {L:List Wd} {a b:Nat}
end
end Go.Plain
namespace Go.Plain
open Go.Eng
set_option autoImplicit false
end Go.Plain
namespace Go.Proofs.Ytpjmiopplfmcfaa
open Go.Eng Go.Plain
set_option autoImplicit false
set_option maxRecDepth 100000
variable {nat:∀ [Deep],Nats}
attribute [local irreducible] wpN
theorem bad_eq {a b c d:Nat}:(eqB Try.prog 26).f (.agg [.int .i64 a,.int .i64 b]) (.agg [.int .i64 c,.int .i64 d]) = oB (some (Nat.beq a c)) (oB (some (Nat.beq b d)) (some true) (some false) none) (some false) none:=by kernel_rfl
@[go_sem] theorem bad_good:goodEq Try.prog 26 false = true:=by kernel_rfl
end Go.Proofs.Ytpjmiopplfmcfaa
