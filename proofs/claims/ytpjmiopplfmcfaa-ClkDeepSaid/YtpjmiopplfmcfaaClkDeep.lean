/- What is proved: ClkDeep gives true, whatever its arguments and the world. Conditions: as each theorem says. -/
import Derived.Test.YtpjmiopplfmcfaaDeep
import Derived.Test.YtpjmiopplfmcfaaWake8
import Derived.Test.YtpjmiopplfmcfaaWJ
import Derived.Test.YtpjmiopplfmcfaaRows
import Derived.WalkKit
import Derived.ProofKit
import Derived.OpenShut
set_option linter.unusedVariables false
set_option linter.unusedSimpArgs false
set_option linter.unusedSectionVars false
namespace Go.Proofs.Ytpjmiopplfmcfaa.clkDeep
open Go.ChangeShapes Go.WideShapes Go.ChangeAt Go.RowKit
set_option autoImplicit false
set_option linter.unusedVariables false

theorem own : ownKnob Try.prog.godebug = none := by kernel_rfl
theorem walk (a0 : Int) (a1 : Int) (w0 : (Lit.int .i64 a0).wf = true) (w1 : (Lit.int .i64 a1).wf = true) (W : World) :
  Calls Try.prog 8 #[.int .i64 a0, .int .i64 a1] W fun e w' => e = .returned (.bool true) ∧ Eng.Kept W w' := by
 have h0 := (@Eng.wf64 ⟨0, 0⟩ Eng.noEnv _ w0).1
 have h1 := (@Eng.wf64 ⟨0, 0⟩ Eng.noEnv _ w1).1
 have b0 : Eng.res .i64 a0 < 18446744073709551616 := @Eng.res_lt ⟨0, 0⟩ Eng.noEnv .i64 a0
 have b1 : Eng.res .i64 a1 < 18446744073709551616 := @Eng.res_lt ⟨0, 0⟩ Eng.noEnv .i64 a1
 obtain ⟨r, η', hc, rfl⟩ := deep_spec usual8 nat8_at (Eng.startH Try.prog []) (Eng.res .i64 a0) (Eng.res .i64 a1) b0 b1
 refine (Eng.law_calls (us := [.int .i64 a0, .int .i64 a1]) good nat8_ok hc (w := W) (x := fun _ => (0, 0, 0)) (fun i l hi => by simp at hi) ?_).mono fun e w' ⟨u, ρ', he, hu, hk⟩ => ?_
 ·letI : Eng.Deep := ⟨0, 0⟩
  letI : Eng.Env := Eng.noEnv
  exact Eng.VL.cons (Eng.arg_int h0) (Eng.VL.cons (Eng.arg_int h1) (Eng.VL.nil))
 ·letI : Eng.Deep := ⟨0, 0⟩
  letI : Eng.Env := Eng.noEnv
  rw [Eng.VR_bool.1 hu] at he
  exact ⟨he, hk⟩

set_option maxRecDepth 100000 in
theorem lifted (os : Os) (started : os.Started) (H : Type) (enc : TypeId × Value → H) :
  ReturnsInHanded {} Try.checked os 8 .any (Rows.clkDeepSpec.pre6 enc Try.prog Try.f8 Rows.clkDeepRow.domain false) (Rows.clkDeepSpec.post enc Try.prog Try.f8 false true false false) := by
 refine returnsInHanded_of_change (C := Try.checked) own started (by kernel_rfl) Try.func8
  (ChangeSpec.witness6 (enc := enc) (C := Try.checked) false ⟨#[], #[.int .i64 0, .int .i64 0], []⟩ 8 (by kernel_rfl) (by kernel_rfl) (by kernel_rfl) (by kernel_rfl)) ?_
 intro W base args ds gs before hval0 hW hcnd _
 have hval : ∀ (j : Nat) t v, Try.f8.params[j]? = some t → args[j]? = some v → Value.okWide Try.prog W .any base t v := hval0
 have hW' := hW
 obtain ⟨p, q, hA0, hV, rfl, hfz, hnd⟩ := hW
 have hA : DataW.TrodAll enc Try.prog W 0 (fun _ => true) true Try.f8.params.toList args.toList ds p := hA0
 rw [Try.params8] at hA hval
 obtain ⟨v0, vs0, d0, ds0, p0, q0, hargs, rfl, rfl, h0, r0⟩ := trodAll_cons hA
 obtain ⟨v1, vs1, d1, ds1, p1, q1, rfl, rfl, rfl, h1, r1⟩ := trodAll_cons r0
 obtain ⟨rfl, rfl, rfl⟩ := trodAll_nil r1
 obtain rfl : args = #[v0, v1] := by cases args; simp_all
 obtain ⟨rfl, rfl⟩ := trodVars_none hV
 obtain ⟨a0, rfl, rfl, rfl, w0⟩ := open_int Try.underlying3 (hval 0 3 v0 rfl rfl) h0
 obtain ⟨a1, rfl, rfl, rfl, w1⟩ := open_int Try.underlying3 (hval 1 3 v1 rfl rfl) h1
 clear hA0 hval0
 simp only [List.append_nil] at hW'
 refine (walk a0 a1 w0 w1 W).mono fun e W' ⟨he, hg⟩ => ?_
 subst he
 letI : Eng.Deep := ⟨0, 0⟩
 letI : Eng.Env := Eng.noEnv
 exact ⟨_, rfl, Eng.post_of_kept (pa := []) (pv := []) hW' (fun _ _ => (trodAll_cons_mk (shut_bool Try.underlying4 _) trodAll_mk0)) (fun sp _ => (trodAll_cons_mk (shut_int Try.underlying3 w0) (trodAll_cons_mk (shut_int Try.underlying3 w1) trodAll_mk0))) (fun _ _ => rfl) rfl hg⟩

theorem over : Rows.clkDeepRow.holds Try.pinned (OpenSpec.ofChange Rows.clkDeepSpec) :=
 OpenClaim.holds_of_wide 8 Try.f8 rfl rfl rfl rfl rfl rfl rfl ⟨rfl, rfl, rfl, rfl, rfl⟩ rfl rfl rfl rfl rfl (by kernel_rfl) Try.func8 (by kernel_rfl)
  (of_decide_eq_true (by kernel_rfl)) (by unfold Func.isWrapper; first | (rw [if_pos (by decide +kernel)]; kernel_rfl) | (rw [if_neg (by decide +kernel)]; exact ⟨rfl, rfl⟩))
  (fun os started H enc _ => lifted os started H enc)

theorem proved : Rows.ClkDeepSaid :=
 over
#print axioms proved
end Go.Proofs.Ytpjmiopplfmcfaa.clkDeep
