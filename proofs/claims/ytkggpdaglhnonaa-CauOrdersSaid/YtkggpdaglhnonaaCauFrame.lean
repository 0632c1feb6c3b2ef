/- What is proved: CauOrders gives true, if its walk does, whatever its arguments and the world. Conditions: as each theorem says. -/
import Derived.Test.YtkggpdaglhnonaaWJ
import Derived.Test.YtkggpdaglhnonaaRows
import Derived.WalkKit
import Derived.ProofKit
import Derived.OpenShut
set_option linter.unusedVariables false
set_option linter.unusedSimpArgs false
set_option linter.unusedSectionVars false
namespace Go.Proofs.Ytkggpdaglhnonaa.cauOrders
open Go.ChangeShapes Go.WideShapes Go.ChangeAt Go.RowKit
set_option autoImplicit false
set_option linter.unusedVariables false
theorem own:ownKnob Try.prog.godebug=none:=by kernel_rfl
def Walk:Prop:=∀(a0:ByteArray) (w0:a0.size≤maxLen) (W:World),Calls Try.prog 17 #[.string a0] W fun e w'=>e=.returned (.bool true)∧Eng.Kept W w'
set_option maxRecDepth 100000 in
theorem lifted (walk:Walk) (os:Os) (started:os.Started) (H:Type) (enc:TypeId×Value→H) :
  ReturnsInHanded {} Try.checked os 17 .any (Rows.cauOrdersSpec.pre6 enc Try.prog Try.f17 Rows.cauOrdersRow.domain false) (Rows.cauOrdersSpec.post enc Try.prog Try.f17 false true false false):=by
 refine returnsInHanded_of_change (C:=Try.checked) own started (by kernel_rfl) Try.func17
  (ChangeSpec.witness6 (enc:=enc) (C:=Try.checked) false ⟨#[],#[.string ⟨#[]⟩],[]⟩ 8 (by kernel_rfl) (by kernel_rfl) (by kernel_rfl) (by kernel_rfl)) ?_
 intro W base args ds gs before hval0 hW hcnd _
 have hval:∀(j:Nat) t v,Try.f17.params[j]?=some t→args[j]?=some v→Value.okWide Try.prog W .any base t v:=hval0
 have hW':=hW
 obtain⟨p,q,hA0,hV,rfl,hfz,hnd⟩:=hW
 have hA:DataW.TrodAll enc Try.prog W 0 (fun _=>true) true Try.f17.params.toList args.toList ds p:=hA0
 rw[Try.params17]at hA hval
 obtain⟨v0,vs0,d0,ds0,p0,q0,hargs,rfl,rfl,h0,r0⟩:=trodAll_cons hA
 obtain⟨rfl,rfl,rfl⟩:=trodAll_nil r0
 obtain rfl:args=#[v0]:=by cases args;simp_all
 obtain⟨rfl,rfl⟩:=trodVars_none hV
 obtain⟨a0,rfl,rfl,rfl,w0⟩:=Go.ChangeMaps.open_string Try.underlying9 (hval 0 9 v0 rfl rfl) h0
 clear hA0 hval0
 simp only[List.append_nil]at hW'
 refine(walk a0 w0 W).mono fun e W' ⟨he,hg⟩=>?_
 subst he
 letI:Eng.Deep:=⟨0,0⟩
 letI:Eng.Env:=Eng.noEnv
 exact⟨_,rfl,Eng.post_of_kept (pa:=[]) (pv:=[]) hW' (fun _ _=>(trodAll_cons_mk (shut_bool Try.underlying4 _) trodAll_mk0)) (fun sp _=>(trodAll_cons_mk (Go.ChangeMaps.shut_string Try.underlying9 w0) trodAll_mk0)) (fun _ _=>rfl) rfl hg⟩
theorem over (walk:Walk):Rows.cauOrdersRow.holds Try.pinned (OpenSpec.ofChange Rows.cauOrdersSpec) :=
 OpenClaim.holds_of_wide 17 Try.f17 rfl rfl rfl rfl rfl rfl rfl ⟨rfl,rfl,rfl,rfl,rfl⟩ rfl rfl rfl rfl rfl (by kernel_rfl) Try.func17 (by kernel_rfl)
  (of_decide_eq_true (by kernel_rfl)) (by unfold Func.isWrapper;first|(rw[if_pos (by decide +kernel)];kernel_rfl)|(rw[if_neg (by decide +kernel)];exact⟨rfl,rfl⟩))
  (fun os started H enc _=>lifted walk os started H enc)
theorem proved_of (walk:Walk):Rows.CauOrdersSaid :=
 over walk
end Go.Proofs.Ytkggpdaglhnonaa.cauOrders
