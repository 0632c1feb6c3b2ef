/- What is proved: TypCalls gives true, whatever its arguments and the world. Conditions: none. The frame was written by the seat's own tool; the walk is an evaluation of each case. -/
import Derived.Test.YtpjmiopplfmcfaaRows
import Derived.Test.YtpjmiopplfmcfaaTypCallsPart0
import Derived.Test.YtpjmiopplfmcfaaTypCallsPart1
import Derived.Test.YtpjmiopplfmcfaaTypCallsPart2
import Derived.Test.YtpjmiopplfmcfaaTypCallsPart3
import Derived.Test.YtpjmiopplfmcfaaTypCallsPart4
import Derived.Test.YtpjmiopplfmcfaaTypCallsPart5
import Derived.Test.YtpjmiopplfmcfaaTypCallsPart6
import Derived.Test.YtpjmiopplfmcfaaTypCallsPart7
import Derived.WalkKit
import Derived.ProofKit
import Derived.OpenShut
namespace Go.Proofs.Ytpjmiopplfmcfaa.typCalls
open Go.ChangeShapes Go.WideShapes Go.ChangeAt Go.RowKit
set_option linter.unusedVariables false      -- a walk need not use every 'w<i>' (that an integer argument fits its kind)

theorem own : ownKnob Try.prog.godebug = none := by kernel_rfl

theorem cases : ∀ x ∈ ([.bool false, .bool true] : List Eng.AV), ∀ y ∈ ([.bool false, .bool true] : List Eng.AV), ∀ z ∈ ([.bool false, .bool true] : List Eng.AV), ∀ u ∈ ([.bool false, .bool true] : List Eng.AV), Eng.lall (fun v => Eng.lall (fun q => each x y z u v q) Eng.domB) Eng.domB = true := (Eng.all_cons (Eng.all_cons (Eng.all_cons (Eng.all_cons part0 (Eng.all_cons part1 Eng.all_nil)) (Eng.all_cons (Eng.all_cons part2 (Eng.all_cons part3 Eng.all_nil)) Eng.all_nil)) (Eng.all_cons (Eng.all_cons (Eng.all_cons part4 (Eng.all_cons part5 Eng.all_nil)) (Eng.all_cons (Eng.all_cons part6 (Eng.all_cons part7 Eng.all_nil)) Eng.all_nil)) Eng.all_nil)) (Eng.all_cons (Eng.all_cons (Eng.all_cons (Eng.all_cons part8 (Eng.all_cons part9 Eng.all_nil)) (Eng.all_cons (Eng.all_cons part10 (Eng.all_cons part11 Eng.all_nil)) Eng.all_nil)) (Eng.all_cons (Eng.all_cons (Eng.all_cons part12 (Eng.all_cons part13 Eng.all_nil)) (Eng.all_cons (Eng.all_cons part14 (Eng.all_cons part15 Eng.all_nil)) Eng.all_nil)) Eng.all_nil)) Eng.all_nil))
theorem walk (a0 : Bool) (a1 : Bool) (a2 : Bool) (a3 : Bool) (a4 : Bool) (a5 : Bool) (w : World) :
    Calls Try.prog 14 #[.bool a0, .bool a1, .bool a2, .bool a3, .bool a4, .bool a5] w fun e w' => e = .returned (.bool true) ∧ Eng.Kept w w' := by
  obtain ⟨x, m0, v0⟩ := Eng.domB_ok (ρ := Eng.ren0 Try.prog) a0
  obtain ⟨y, m1, v1⟩ := Eng.domB_ok (ρ := Eng.ren0 Try.prog) a1
  obtain ⟨z, m2, v2⟩ := Eng.domB_ok (ρ := Eng.ren0 Try.prog) a2
  obtain ⟨u, m3, v3⟩ := Eng.domB_ok (ρ := Eng.ren0 Try.prog) a3
  obtain ⟨v, m4, v4⟩ := Eng.domB_ok (ρ := Eng.ren0 Try.prog) a4
  obtain ⟨q, m5, v5⟩ := Eng.domB_ok (ρ := Eng.ren0 Try.prog) a5
  exact Eng.runA_calls (us := [.bool a0, .bool a1, .bool a2, .bool a3, .bool a4, .bool a5]) good few nat_ok (Eng.VL.cons v0 (Eng.VL.cons v1 (Eng.VL.cons v2 (Eng.VL.cons v3 (Eng.VL.cons v4 (Eng.VL.cons v5 Eng.VL.nil)))))) (Eng.lall_mem (Eng.lall_mem (cases x m0 y m1 z m2 u m3) m4) m5) w

/-! ### The row's step -/
set_option maxRecDepth 100000 in
theorem lifted (os : Os) (started : os.Started) (H : Type) (enc : TypeId × Value → H) :
    ReturnsInHanded {} Try.checked os 14 .any (Rows.typCallsSpec.pre6 enc Try.prog Try.f14 Rows.typCallsRow.domain false) (Rows.typCallsSpec.post enc Try.prog Try.f14 false true false false) := by
  refine returnsInHanded_of_change (C := Try.checked) own started (by kernel_rfl) Try.func14
    (ChangeSpec.witness6 (enc := enc) (C := Try.checked) false ⟨#[], #[.bool false, .bool false, .bool false, .bool false, .bool false, .bool false], []⟩ 8 (by kernel_rfl) (by kernel_rfl) (by kernel_rfl) (by kernel_rfl)) ?_
  intro W base args ds gs before hval0 hW hcnd _
  have hval : ∀ (j : Nat) t v, Try.f14.params[j]? = some t → args[j]? = some v → Value.okWide Try.prog W .any base t v := hval0
  have hW' := hW
  obtain ⟨p, q, hA0, hV, rfl, hfz, hnd⟩ := hW
  have hA : DataW.TrodAll enc Try.prog W 0 (fun _ => true) true Try.f14.params.toList args.toList ds p := hA0
  rw [Try.params14] at hA hval
  obtain ⟨v0, vs0, d0, ds0, p0, q0, hargs, rfl, rfl, h0, r0⟩ := trodAll_cons hA
  obtain ⟨v1, vs1, d1, ds1, p1, q1, rfl, rfl, rfl, h1, r1⟩ := trodAll_cons r0
  obtain ⟨v2, vs2, d2, ds2, p2, q2, rfl, rfl, rfl, h2, r2⟩ := trodAll_cons r1
  obtain ⟨v3, vs3, d3, ds3, p3, q3, rfl, rfl, rfl, h3, r3⟩ := trodAll_cons r2
  obtain ⟨v4, vs4, d4, ds4, p4, q4, rfl, rfl, rfl, h4, r4⟩ := trodAll_cons r3
  obtain ⟨v5, vs5, d5, ds5, p5, q5, rfl, rfl, rfl, h5, r5⟩ := trodAll_cons r4
  obtain ⟨rfl, rfl, rfl⟩ := trodAll_nil r5
  obtain rfl : args = #[v0, v1, v2, v3, v4, v5] := by cases args; simp_all
  obtain ⟨rfl, rfl⟩ := trodVars_none hV
  obtain ⟨a0, rfl, rfl, rfl⟩ := open_bool Try.underlying4 (hval 0 4 v0 rfl rfl) h0
  obtain ⟨a1, rfl, rfl, rfl⟩ := open_bool Try.underlying4 (hval 1 4 v1 rfl rfl) h1
  obtain ⟨a2, rfl, rfl, rfl⟩ := open_bool Try.underlying4 (hval 2 4 v2 rfl rfl) h2
  obtain ⟨a3, rfl, rfl, rfl⟩ := open_bool Try.underlying4 (hval 3 4 v3 rfl rfl) h3
  obtain ⟨a4, rfl, rfl, rfl⟩ := open_bool Try.underlying4 (hval 4 4 v4 rfl rfl) h4
  obtain ⟨a5, rfl, rfl, rfl⟩ := open_bool Try.underlying4 (hval 5 4 v5 rfl rfl) h5
  clear hA0 hval0
  simp only [List.append_nil] at hW'
  refine (walk a0 a1 a2 a3 a4 a5 W).mono fun e W' ⟨he, hg⟩ => ?_
  subst he
  exact ⟨_, rfl, Eng.post_of_kept (pa := []) (pv := []) hW' (fun _ _ => (trodAll_cons_mk (shut_bool Try.underlying4 _) trodAll_mk0)) (fun sp _ => (trodAll_cons_mk (shut_bool Try.underlying4 _) (trodAll_cons_mk (shut_bool Try.underlying4 _) (trodAll_cons_mk (shut_bool Try.underlying4 _) (trodAll_cons_mk (shut_bool Try.underlying4 _) (trodAll_cons_mk (shut_bool Try.underlying4 _) (trodAll_cons_mk (shut_bool Try.underlying4 _) trodAll_mk0))))))) (fun _ _ => rfl) rfl hg⟩

theorem over : Rows.typCallsRow.holds Try.pinned (OpenSpec.ofChange Rows.typCallsSpec) :=
  OpenClaim.holds_of_wide 14 Try.f14 rfl rfl rfl rfl rfl rfl rfl ⟨rfl, rfl, rfl, rfl, rfl⟩ rfl rfl rfl rfl rfl (by kernel_rfl) Try.func14 (by kernel_rfl)
    (of_decide_eq_true (by kernel_rfl)) (by unfold Func.isWrapper; first | (rw [if_pos (by decide +kernel)]; kernel_rfl) | (rw [if_neg (by decide +kernel)]; exact ⟨rfl, rfl⟩))
    (fun os started H enc _ => lifted os started H enc)

/-- the statement -/
theorem proved : Rows.TypCallsSaid :=
  over
#print axioms proved
end Go.Proofs.Ytpjmiopplfmcfaa.typCalls
