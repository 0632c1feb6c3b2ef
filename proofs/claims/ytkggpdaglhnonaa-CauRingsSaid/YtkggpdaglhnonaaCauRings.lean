/- What is proved: CauRings gives true, whatever its arguments and the world. Conditions: as each theorem says. -/
import Derived.Test.YtkggpdaglhnonaaSaysR
import Derived.Test.YtkggpdaglhnonaaWakeX
import Derived.Test.YtkggpdaglhnonaaRingFrame
set_option linter.unusedVariables false
set_option linter.unusedSimpArgs false
set_option linter.unusedSectionVars false
namespace Go.Proofs.Ytkggpdaglhnonaa.cauRings
open Go.ChangeShapes Go.WideShapes Go.ChangeAt Go.RowKit
set_option autoImplicit false
set_option linter.unusedVariables false
theorem walk:Walk:=by
 intro a0 a1 a2 w0 w1 W
 have h0:=(@Eng.wf64 ⟨0,0⟩ Eng.noEnv _ w0).1
 have h1:=(@Eng.wf64 ⟨0,0⟩ Eng.noEnv _ w1).1
 have b0:Eng.res .i64 a0 < 18446744073709551616:=@Eng.res_lt ⟨0,0⟩ Eng.noEnv .i64 a0
 have b1:Eng.res .i64 a1 < 18446744073709551616:=@Eng.res_lt ⟨0,0⟩ Eng.noEnv .i64 a1
 obtain ⟨r,η',hc,rfl⟩:=rings_spec usual10 nat10_at (Eng.startH Try.prog []) (Eng.res .i64 a0) (Eng.res .i64 a1) a2 b0 b1
 refine (Eng.law_calls (us:=[.int .i64 a0,.int .i64 a1,.bool a2]) good nat10_ok hc (w:=W) (x:=fun _=>(0,0,0)) (fun i l hi=>by simp at hi) ?_).mono fun e w' ⟨u,ρ',he,hu,hk⟩=>?_
 ·letI:Eng.Deep:=⟨0,0⟩
  letI:Eng.Env:=Eng.noEnv
  exact Eng.VL.cons (Eng.arg_int h0) (Eng.VL.cons (Eng.arg_int h1) (Eng.VL.cons (Eng.VR_bool.2 rfl) (Eng.VL.nil)))
 ·letI:Eng.Deep:=⟨0,0⟩
  letI:Eng.Env:=Eng.noEnv
  rw [Eng.VR_bool.1 hu] at he
  exact ⟨he,hk⟩
theorem proved:Rows.CauRingsSaid :=
 proved_of walk
#print axioms proved
end Go.Proofs.Ytkggpdaglhnonaa.cauRings
