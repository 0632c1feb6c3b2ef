/- What is proved: CauRings gives true, if its walk does, whatever its arguments and the world. Conditions: as each theorem says. -/
import Derived.Test.YtkggpdaglhnonaaWJ
import Derived.Test.YtkggpdaglhnonaaRows
import Derived.WalkKit
import Derived.ProofKit
import Derived.OpenShut
set_option linter.unusedVariables false
set_option linter.unusedSimpArgs false
set_option linter.unusedSectionVars false
namespace Go.Proofs.Ytkggpdaglhnonaa.cauRings
open Go.ChangeShapes Go.WideShapes Go.ChangeAt Go.RowKit
set_option autoImplicit false
set_option linter.unusedVariables false

theorem own:ownKnob Try.prog.godebug = none:=by kernel_rfl
def Walk:Prop:=∀ (a0:Int) (a1:Int) (a2:Bool) (w0:(Lit.int .i64 a0).wf = true) (w1:(Lit.int .i64 a1).wf = true) (W:World),Calls Try.prog 18 #[.int .i64 a0,.int .i64 a1,.bool a2] W fun e w'=>e = .returned (.bool true) ∧ Eng.Kept W w'

set_option maxRecDepth 100000 in
theorem lifted (walk:Walk) (os:Os) (started:os.Started) (H:Type) (enc:TypeId × Value → H) :
  ReturnsInHanded {} Try.checked os 18 .any (Rows.cauRingsSpec.pre6 enc Try.prog Try.f18 Rows.cauRingsRow.domain false) (Rows.cauRingsSpec.post enc Try.prog Try.f18 false true false false):=by
 refine returnsInHanded_of_change (C:=Try.checked) own started (by kernel_rfl) Try.func18
  (ChangeSpec.witness6 (enc:=enc) (C:=Try.checked) false ⟨#[],#[.int .i64 0,.int .i64 0,.bool false],[]⟩ 8 (by kernel_rfl) (by kernel_rfl) (by kernel_rfl) (by kernel_rfl)) ?_
 intro W base args ds gs before hval0 hW hcnd _
 have hval:∀ (j:Nat) t v,Try.f18.params[j]? = some t → args[j]? = some v → Value.okWide Try.prog W .any base t v:=hval0
 have hW':=hW
 obtain ⟨p,q,hA0,hV,rfl,hfz,hnd⟩:=hW
 have hA:DataW.TrodAll enc Try.prog W 0 (fun _=>true) true Try.f18.params.toList args.toList ds p:=hA0
 rw [Try.params18] at hA hval
 obtain ⟨v0,vs0,d0,ds0,p0,q0,hargs,rfl,rfl,h0,r0⟩:=trodAll_cons hA
 obtain ⟨v1,vs1,d1,ds1,p1,q1,rfl,rfl,rfl,h1,r1⟩:=trodAll_cons r0
 obtain ⟨v2,vs2,d2,ds2,p2,q2,rfl,rfl,rfl,h2,r2⟩:=trodAll_cons r1
 obtain ⟨rfl,rfl,rfl⟩:=trodAll_nil r2
 obtain rfl:args = #[v0,v1,v2]:=by cases args; simp_all
 obtain ⟨rfl,rfl⟩:=trodVars_none hV
 obtain ⟨a0,rfl,rfl,rfl,w0⟩:=open_int Try.underlying3 (hval 0 3 v0 rfl rfl) h0
 obtain ⟨a1,rfl,rfl,rfl,w1⟩:=open_int Try.underlying3 (hval 1 3 v1 rfl rfl) h1
 obtain ⟨a2,rfl,rfl,rfl⟩:=open_bool Try.underlying4 (hval 2 4 v2 rfl rfl) h2
 clear hA0 hval0
 simp only [List.append_nil] at hW'
 refine (walk a0 a1 a2 w0 w1 W).mono fun e W' ⟨he,hg⟩=>?_
 subst he
 letI:Eng.Deep:=⟨0,0⟩
 letI:Eng.Env:=Eng.noEnv
 exact ⟨_,rfl,Eng.post_of_kept (pa:=[]) (pv:=[]) hW' (fun _ _=>(trodAll_cons_mk (shut_bool Try.underlying4 _) trodAll_mk0)) (fun sp _=>(trodAll_cons_mk (shut_int Try.underlying3 w0) (trodAll_cons_mk (shut_int Try.underlying3 w1) (trodAll_cons_mk (shut_bool Try.underlying4 _) trodAll_mk0)))) (fun _ _=>rfl) rfl hg⟩

theorem over (walk:Walk):Rows.cauRingsRow.holds Try.pinned (OpenSpec.ofChange Rows.cauRingsSpec) :=
 OpenClaim.holds_of_wide 18 Try.f18 rfl rfl rfl rfl rfl rfl rfl ⟨rfl,rfl,rfl,rfl,rfl⟩ rfl rfl rfl rfl rfl (by kernel_rfl) Try.func18 (by kernel_rfl)
  (of_decide_eq_true (by kernel_rfl)) (by unfold Func.isWrapper; first | (rw [if_pos (by decide +kernel)]; kernel_rfl) | (rw [if_neg (by decide +kernel)]; exact ⟨rfl,rfl⟩))
  (fun os started H enc _=>lifted walk os started H enc)

theorem proved_of (walk:Walk):Rows.CauRingsSaid :=
 over walk
end Go.Proofs.Ytkggpdaglhnonaa.cauRings
