/- What is proved: ints that come in. Conditions: as each theorem says. -/
import Derived.Test.YtdeejbnhlbddgaaGreatDoorWM
import Derived.KernelRfl
import Derived.Test.YtdeejbnhlbddgaaGreatDoorProg
set_option linter.unusedVariables false
set_option linter.unusedSimpArgs false
set_option linter.unusedSectionVars false
namespace Go.Eng
open Go.ChangeShapes Go.WideShapes
set_option autoImplicit false
theorem lay_int {H:Type} {enc:TypeId×Value→H} {P:Program} {w:World} {t:TypeId} {k:IntKind} {v:Value} {d:DataW H} {p:List MemPlace} {base:Nat} (m:Nat) (hp:plainTy P m t=true) (ht:P.underlying t=some (.int k)) (hv:Value.okWide P w .any base t v) (h:DataW.Trod enc P w 0 (fun _=>true) true t v d p) :
  LayC P w [v] fun η z=>RepT P η m t z d:=by
 obtain⟨n,rfl⟩:=okWide_int ht hv
 exact lay_cell m hp rfl h
end Go.Eng
namespace Go.Proofs.YtdeejbnhlbddgaaGreatDoor
open Go.Eng Go.ChangeShapes Go.WideShapes
set_option autoImplicit false
set_option maxRecDepth 100000
theorem plain3:plainTy Tryz.prog 6 3=true:=by kernel_rfl
section
variable {H:Type} {η:HN}
theorem rep_int {m:Nat} {t:TypeId} {cs:List AV} {d:DataW H} (ht:Tryz.prog.underlying t=some (.int .i64)) (h:RepT Tryz.prog η (m+1) t cs d):∃n,n<18446744073709551616∧cs=[.int .i64 n]:=by
 rw[RepT,ht]at h
 obtain⟨z,rfl,_⟩:=h
 exact⟨_,@res_lt ⟨0,0⟩ noEnv .i64 z,rfl⟩
end
end Go.Proofs.YtdeejbnhlbddgaaGreatDoor
