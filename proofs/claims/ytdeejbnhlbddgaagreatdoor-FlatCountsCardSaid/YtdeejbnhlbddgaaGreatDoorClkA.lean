/- What is proved: what finding a declaration does. what a name's clock is. what the leaves of the program's clocks do. Conditions: as each theorem says. -/
import Derived.Test.YtdeejbnhlbddgaaGreatDoorNameB
import Derived.Test.YtdeejbnhlbddgaaGreatDoorPlain
set_option linter.unusedVariables false
set_option linter.unusedSimpArgs false
set_option linter.unusedSectionVars false
namespace Go.Proofs.YtdeejbnhlbddgaaGreatDoor
open Go.Eng Go.Plain
set_option autoImplicit false
set_option maxRecDepth 100000
variable {nat:∀ [Deep],Nats}
def zVr:Vr:=⟨(0,0),0,(0,0),false,0⟩
theorem all_len {n:Nd} (ok:okN n):(allOf n).length≤4294967296∧∀v∈allOf n,okV v:=by
 obtain⟨ok0,ok1,ok2,ok3,ok4,ok5⟩:=ok
 refine⟨?_,fun v hv=>?_⟩
 ·have h1:=ok1.1
  have h2:=ok2.1
  have h3:=ok3.1
  unfold allOf
  rw[List.length_append,List.length_append];omega
 ·rcases List.mem_append.1 hv with hv|hv
  ·exact ok1.2 v hv
  ·rcases List.mem_append.1 hv with hv|hv
   ·exact ok2.2 v hv
   ·exact ok3.2 v hv
end Go.Proofs.YtdeejbnhlbddgaaGreatDoor
namespace Go.Plain
open Go.Eng
set_option autoImplicit false
theorem stc_rows (c:List Stp):∀l∈c.map stc,l.length=2:=fun l hl=>by
 obtain⟨s,_,rfl⟩:=List.mem_map.1 hl
 rfl
end Go.Plain
namespace Go.Proofs.YtdeejbnhlbddgaaGreatDoor
open Go.Eng Go.Plain
set_option autoImplicit false
set_option maxRecDepth 100000
variable {nat:∀ [Deep],Nats}
theorem ofL_len (n:Nd):∀(k:Nat) (s:S),(ofL n k s).length≤k
 |0,_=>Nat.le_refl _
 |k+1,s=>by
  unfold ofL
  split
  ·split
   ·exact Nat.zero_le _
   ·exact Nat.succ_le_succ (ofL_len n k _)
  ·exact Nat.zero_le _
theorem clk_len {n:Nd} (ok:okN n) (s:S):(clkOf n s).length≤1073741824:=by
 unfold clkOf
 rw[List.length_reverse]
 have:=ofL_len n n.locs.length s
 have:=ok.2.2.2.1.1
 omega
end Go.Proofs.YtdeejbnhlbddgaaGreatDoor
namespace Go.Plain
open Go.Eng
set_option autoImplicit false
end Go.Plain
namespace Go.Proofs.YtdeejbnhlbddgaaGreatDoor
open Go.Eng Go.Plain
set_option autoImplicit false
set_option maxRecDepth 100000
variable {nat:∀ [Deep],Nats}
end Go.Proofs.YtdeejbnhlbddgaaGreatDoor
