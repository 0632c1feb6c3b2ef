/- What is proved: ClkMerges gives true, whatever its arguments and the world. Conditions: none. The frame was written by the seat's own tool; the walk is an evaluation of each case. -/
import Derived.Test.YtpjmiopplfmcfaaRows
import Derived.Test.YtpjmiopplfmcfaaEngF
import Derived.WalkKit
import Derived.ProofKit
import Derived.OpenShut
namespace Go.Proofs.Ytpjmiopplfmcfaa.clkMerges
open Go.ChangeShapes Go.WideShapes Go.ChangeAt Go.RowKit
set_option linter.unusedVariables false      -- a walk need not use every 'w<i>' (that an integer argument fits its kind)

theorem own : ownKnob Try.prog.godebug = none := by kernel_rfl

/-! ### The walk: worked out, case by case -/
theorem good : Eng.progOk Try.prog = true := by kernel_rfl
theorem few : Try.prog.globals.size ≤ Eng.mostBlocks := of_decide_eq_true (by kernel_rfl)
theorem wakes : Eng.runB Try.prog 200 25 = true := by kernel_rfl
noncomputable def nat : Eng.Nats := Eng.truths [25]
theorem nat_ok : Eng.NatsOK Try.prog nat := Eng.truths_ok fun f hf => by
  have e : f = 25 := by simpa using hf
  subst e
  exact ⟨by kernel_rfl, fun w => Eng.runB_calls good few wakes w⟩
noncomputable def each (x y z : Eng.AV) : Bool := Eng.runA Try.prog nat 200 9 [x, y, z]
theorem part0 : Eng.lall (fun y => Eng.lall (fun z => each (.bool false) y z) Eng.domB) Eng.domB = true := by kernel_rfl
theorem part1 : Eng.lall (fun y => Eng.lall (fun z => each (.bool true) y z) Eng.domB) Eng.domB = true := by kernel_rfl
theorem cases : ∀ x ∈ ([.bool false, .bool true] : List Eng.AV), Eng.lall (fun y => Eng.lall (fun z => each x y z) Eng.domB) Eng.domB = true := (Eng.all_cons part0 (Eng.all_cons part1 Eng.all_nil))
theorem walk (a0 : Bool) (a1 : Bool) (a2 : Bool) (w : World) :
    Calls Try.prog 9 #[.bool a0, .bool a1, .bool a2] w fun e w' => e = .returned (.bool true) ∧ Eng.Kept w w' := by
  obtain ⟨x, m0, v0⟩ := Eng.domB_ok (ρ := Eng.ren0 Try.prog) a0
  obtain ⟨y, m1, v1⟩ := Eng.domB_ok (ρ := Eng.ren0 Try.prog) a1
  obtain ⟨z, m2, v2⟩ := Eng.domB_ok (ρ := Eng.ren0 Try.prog) a2
  exact Eng.runA_calls (us := [.bool a0, .bool a1, .bool a2]) good few nat_ok (Eng.VL.cons v0 (Eng.VL.cons v1 (Eng.VL.cons v2 Eng.VL.nil))) (Eng.lall_mem (Eng.lall_mem (cases x m0) m1) m2) w

/-! ### The row's step -/
set_option maxRecDepth 100000 in
theorem lifted (os : Os) (started : os.Started) (H : Type) (enc : TypeId × Value → H) :
    ReturnsInHanded {} Try.checked os 9 .any (Rows.clkMergesSpec.pre6 enc Try.prog Try.f9 Rows.clkMergesRow.domain false) (Rows.clkMergesSpec.post enc Try.prog Try.f9 false true false false) := by
  refine returnsInHanded_of_change (C := Try.checked) own started (by kernel_rfl) Try.func9
    (ChangeSpec.witness6 (enc := enc) (C := Try.checked) false ⟨#[], #[.bool false, .bool false, .bool false], []⟩ 8 (by kernel_rfl) (by kernel_rfl) (by kernel_rfl) (by kernel_rfl)) ?_
  intro W base args ds gs before hval0 hW hcnd _
  have hval : ∀ (j : Nat) t v, Try.f9.params[j]? = some t → args[j]? = some v → Value.okWide Try.prog W .any base t v := hval0
  have hW' := hW
  obtain ⟨p, q, hA0, hV, rfl, hfz, hnd⟩ := hW
  have hA : DataW.TrodAll enc Try.prog W 0 (fun _ => true) true Try.f9.params.toList args.toList ds p := hA0
  rw [Try.params9] at hA hval
  obtain ⟨v0, vs0, d0, ds0, p0, q0, hargs, rfl, rfl, h0, r0⟩ := trodAll_cons hA
  obtain ⟨v1, vs1, d1, ds1, p1, q1, rfl, rfl, rfl, h1, r1⟩ := trodAll_cons r0
  obtain ⟨v2, vs2, d2, ds2, p2, q2, rfl, rfl, rfl, h2, r2⟩ := trodAll_cons r1
  obtain ⟨rfl, rfl, rfl⟩ := trodAll_nil r2
  obtain rfl : args = #[v0, v1, v2] := by cases args; simp_all
  obtain ⟨rfl, rfl⟩ := trodVars_none hV
  obtain ⟨a0, rfl, rfl, rfl⟩ := open_bool Try.underlying4 (hval 0 4 v0 rfl rfl) h0
  obtain ⟨a1, rfl, rfl, rfl⟩ := open_bool Try.underlying4 (hval 1 4 v1 rfl rfl) h1
  obtain ⟨a2, rfl, rfl, rfl⟩ := open_bool Try.underlying4 (hval 2 4 v2 rfl rfl) h2
  clear hA0 hval0
  simp only [List.append_nil] at hW'
  refine (walk a0 a1 a2 W).mono fun e W' ⟨he, hg⟩ => ?_
  subst he
  exact ⟨_, rfl, Eng.post_of_kept (pa := []) (pv := []) hW' (fun _ _ => (trodAll_cons_mk (shut_bool Try.underlying4 _) trodAll_mk0)) (fun sp _ => (trodAll_cons_mk (shut_bool Try.underlying4 _) (trodAll_cons_mk (shut_bool Try.underlying4 _) (trodAll_cons_mk (shut_bool Try.underlying4 _) trodAll_mk0)))) (fun _ _ => rfl) rfl hg⟩

theorem over : Rows.clkMergesRow.holds Try.pinned (OpenSpec.ofChange Rows.clkMergesSpec) :=
  OpenClaim.holds_of_wide 9 Try.f9 rfl rfl rfl rfl rfl rfl rfl ⟨rfl, rfl, rfl, rfl, rfl⟩ rfl rfl rfl rfl rfl (by kernel_rfl) Try.func9 (by kernel_rfl)
    (of_decide_eq_true (by kernel_rfl)) (by unfold Func.isWrapper; first | (rw [if_pos (by decide +kernel)]; kernel_rfl) | (rw [if_neg (by decide +kernel)]; exact ⟨rfl, rfl⟩))
    (fun os started H enc _ => lifted os started H enc)

/-- the statement -/
theorem proved : Rows.ClkMergesSaid :=
  over
#print axioms proved
end Go.Proofs.Ytpjmiopplfmcfaa.clkMerges
