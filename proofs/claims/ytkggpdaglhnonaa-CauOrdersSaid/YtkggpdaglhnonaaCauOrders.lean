/- What is proved: CauOrders gives true, whatever its arguments and the world. Conditions: as each theorem says. -/
import Derived.Test.YtkggpdaglhnonaaSays
import Derived.Test.YtkggpdaglhnonaaWakeX
import Derived.Test.YtkggpdaglhnonaaCauFrame
set_option linter.unusedVariables false
set_option linter.unusedSimpArgs false
set_option linter.unusedSectionVars false
namespace Go.Proofs.Ytkggpdaglhnonaa.cauOrders
open Go.ChangeShapes Go.WideShapes Go.ChangeAt Go.RowKit
set_option autoImplicit false
set_option linter.unusedVariables false
theorem walk:Walk:=by
 intro a0 w0 W
 obtain⟨r,η',hc,rfl⟩:=zja zvE ztF (Eng.startH Try.prog []) a0.data.toList (by rw[Array.length_toList];exact w0)
 refine(Eng.law_calls (us:=[.string a0]) good ztE hc (w:=W) (x:=fun _=>(0,0,0)) (fun i l hi=>by simp at hi) ?_).mono fun e w' ⟨u,ρ',he,hu,hk⟩=>?_
 ·letI:Eng.Deep:=⟨0,0⟩
  letI:Eng.Env:=Eng.noEnv
  exact Eng.VL.cons (Eng.VR_str.2 ⟨a0,rfl,rfl,rfl⟩) (Eng.VL.nil)
 ·letI:Eng.Deep:=⟨0,0⟩
  letI:Eng.Env:=Eng.noEnv
  rw[Eng.VR_bool.1 hu]at he
  exact⟨he,hk⟩
theorem proved:Rows.CauOrdersSaid :=
 proved_of walk
#print axioms proved
end Go.Proofs.Ytkggpdaglhnonaa.cauOrders
