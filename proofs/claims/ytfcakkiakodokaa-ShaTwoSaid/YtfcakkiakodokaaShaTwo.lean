/- What is proved: ShaTwo gives true, whatever its arguments and the world. Conditions: none. The frame is after the one that the seat's own tool writes; the walk is by the calculus. -/
import Derived.Test.YtfcakkiakodokaaSha6
import Derived.Test.YtfcakkiakodokaaSha7
import Derived.Test.YtfcakkiakodokaaWJ
import Derived.Test.YtfcakkiakodokaaRows
import Derived.WalkKit
import Derived.ProofKit
import Derived.OpenShut
set_option linter.unusedVariables false
set_option linter.unusedSimpArgs false
set_option linter.unusedSectionVars false
namespace Go.Proofs.Ytfcakkiakodokaa.shaTwo
open Go.ChangeShapes Go.WideShapes Go.ChangeAt Go.RowKit
set_option autoImplicit false
set_option linter.unusedVariables false

theorem own : ownKnob Try.prog.godebug = none := by kernel_rfl
theorem cells5 : Try.prog.cellsOf 5 = 1 := by kernel_rfl
theorem walk {W : World} {u1 u2 : Value} {l1 l2 : List Nat} (h1 : Eng.ArgV W u1 l1) (h2 : Eng.ArgV W u2 l2) (n1 : l1.length ≤ 9223372036854775807) (n2 : l2.length ≤ 9223372036854775807) :
    Calls Try.prog 7 #[u1, u2] W fun e w' => e = .returned (.bool true) ∧ Eng.Kept W w' := by
  obtain ⟨b1, x1, L1, k1⟩ := Eng.arg_lay Try.prog h1
  obtain ⟨b2, x2, L2, k2⟩ := Eng.arg_lay Try.prog h2
  obtain ⟨z1, v1, a1⟩ := k1 [] b2 [] x2 rfl
  obtain ⟨z2, v2, a2⟩ := k2 b1 [] x1 [] L1.len
  rw [List.nil_append] at v1 a1
  rw [List.append_nil] at v2 a2
  simp only [List.nil_append] at v1
  simp only [List.append_nil] at v2
  obtain ⟨v, η', hc, rfl⟩ := two_spec ctx rfl rfl (Eng.startH Try.prog (b1 ++ b2)) z1 z2 l1 l2 a1 a2 n1 n2
  refine (Eng.law_calls (us := [u1, u2]) good nat_ok hc (w := W) (x := fun i => (x1 ++ x2).getD i (0, 0, 0)) (fun i l hi => (L1.app L2).br i l hi _) ?_).mono fun e w' ⟨u, ρ', he, hu, hk⟩ => ?_
  · letI : Eng.Deep := ⟨0, 0⟩
    letI : Eng.Env := Eng.noEnv
    exact Eng.VL.cons v1 (Eng.VL.cons v2 Eng.VL.nil)
  · letI : Eng.Deep := ⟨0, 0⟩
    letI : Eng.Env := Eng.noEnv
    rw [Eng.VR_bool.1 hu] at he
    exact ⟨he, hk⟩

/-! ### The row's step -/
set_option maxRecDepth 100000 in
theorem lifted (os : Os) (started : os.Started) (H : Type) (enc : TypeId × Value → H) :
    ReturnsInHanded {} Try.checked os 7 .any (Rows.shaTwoSpec.pre6 enc Try.prog Try.f7 Rows.shaTwoRow.domain false) (Rows.shaTwoSpec.post enc Try.prog Try.f7 false true false false) := by
  refine returnsInHanded_of_change (C := Try.checked) own started (by kernel_rfl) Try.func7
    (ChangeSpec.witness6 (enc := enc) (C := Try.checked) false ⟨#[], #[.slice none 0 0, .slice none 0 0], []⟩ 8 (by kernel_rfl) (by kernel_rfl) (by kernel_rfl) (by kernel_rfl)) ?_
  intro W base args ds gs before hval0 hW hcnd _
  have hval : ∀ (j : Nat) t v, Try.f7.params[j]? = some t → args[j]? = some v → Value.okWide Try.prog W .any base t v := hval0
  have hW' := hW
  obtain ⟨p, q, hA0, hV, rfl, hfz, hnd⟩ := hW
  have hA : DataW.TrodAll enc Try.prog W 0 (fun _ => true) true Try.f7.params.toList args.toList ds p := hA0
  rw [Try.params7] at hA hval
  obtain ⟨v0, v1, d0, d1, p0, p1, rfl, rfl, rfl, h0, h1⟩ := trodAll_two hA
  obtain ⟨rfl, rfl⟩ := trodVars_none hV
  obtain ⟨l0, a0, n0, r0⟩ := Eng.open_b Try.underlying26 Try.underlying5 cells5 (hval 0 26 v0 rfl rfl) h0
  obtain ⟨l1, a1, n1, r1⟩ := Eng.open_b Try.underlying26 Try.underlying5 cells5 (hval 1 26 v1 rfl rfl) h1
  clear hA0 hval0
  simp only [List.append_nil] at hW'
  refine (walk a0 a1 n0 n1).mono fun e W' ⟨he, hg⟩ => ?_
  subst he
  letI : Eng.Deep := ⟨0, 0⟩
  letI : Eng.Env := Eng.noEnv
  exact ⟨_, rfl, Eng.post_of_kept (pa := p0 ++ p1) (pv := []) hW' (fun _ _ => (trodAll_cons_mk (shut_bool Try.underlying4 _) trodAll_mk0))
    (fun sp hsp => by rw [Try.params7]; exact trodAll_mk2 (r0 W' hg sp fun q hq => hsp q (by simp [hq])) (r1 W' hg sp fun q hq => hsp q (by simp [hq]))) (fun _ _ => rfl) (by simp) hg⟩

theorem over : Rows.shaTwoRow.holds Try.pinned (OpenSpec.ofChange Rows.shaTwoSpec) :=
  OpenClaim.holds_of_wide 7 Try.f7 rfl rfl rfl rfl rfl rfl rfl ⟨rfl, rfl, rfl, rfl, rfl⟩ rfl rfl rfl rfl rfl (by kernel_rfl) Try.func7 (by kernel_rfl)
    (of_decide_eq_true (by kernel_rfl)) (by unfold Func.isWrapper; first | (rw [if_pos (by decide +kernel)]; kernel_rfl) | (rw [if_neg (by decide +kernel)]; exact ⟨rfl, rfl⟩))
    (fun os started H enc _ => lifted os started H enc)

/-- the statement -/
theorem proved : Rows.ShaTwoSaid :=
  over
#print axioms proved
end Go.Proofs.Ytfcakkiakodokaa.shaTwo
