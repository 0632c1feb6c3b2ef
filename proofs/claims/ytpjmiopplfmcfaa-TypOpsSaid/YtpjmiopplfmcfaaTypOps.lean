/- What is proved: TypOps gives true, whatever its arguments and the world. Conditions: none. The frame was written by the seat's own tool; the walk is an evaluation of each case. -/
import Derived.Test.YtpjmiopplfmcfaaRows
import Derived.Test.YtpjmiopplfmcfaaEngF
import Derived.WalkKit
import Derived.ProofKit
import Derived.OpenShut
namespace Go.Proofs.Ytpjmiopplfmcfaa.typOps
open Go.ChangeShapes Go.WideShapes Go.ChangeAt Go.RowKit
set_option linter.unusedVariables false      -- a walk need not use every 'w<i>' (that an integer argument fits its kind)

theorem own : ownKnob Try.prog.godebug = none := by kernel_rfl

/-! ### The walk: worked out, case by case -/
theorem good : Eng.progOk Try.prog = true := by kernel_rfl
theorem few : Try.prog.globals.size ≤ Eng.mostBlocks := of_decide_eq_true (by kernel_rfl)
theorem wakes : Eng.runB Try.prog 200 37 = true := by kernel_rfl
noncomputable def nat : Eng.Nats := Eng.truths [37]
theorem nat_ok : Eng.NatsOK Try.prog nat := Eng.truths_ok fun f hf => by
  have e : f = 37 := by simpa using hf
  subst e
  exact ⟨by kernel_rfl, fun w => Eng.runB_calls good few wakes w⟩
noncomputable def each (x y z : Eng.AV) : Bool := Eng.runA Try.prog nat 200 13 [x, y, z]
theorem part0 : Eng.lall (fun y => Eng.lall (fun z => each (.rng .i64 9223372036854775808 18446744073709551615) y z) Eng.domB) Eng.domB = true := by kernel_rfl
theorem part1 : Eng.lall (fun y => Eng.lall (fun z => each (.rng .i64 16 9223372036854775807) y z) Eng.domB) Eng.domB = true := by kernel_rfl
theorem part2 : Eng.lall (fun y => Eng.lall (fun z => each (.int .i64 0) y z) Eng.domB) Eng.domB = true := by kernel_rfl
theorem part3 : Eng.lall (fun y => Eng.lall (fun z => each (.int .i64 1) y z) Eng.domB) Eng.domB = true := by kernel_rfl
theorem part4 : Eng.lall (fun y => Eng.lall (fun z => each (.int .i64 2) y z) Eng.domB) Eng.domB = true := by kernel_rfl
theorem part5 : Eng.lall (fun y => Eng.lall (fun z => each (.int .i64 3) y z) Eng.domB) Eng.domB = true := by kernel_rfl
theorem part6 : Eng.lall (fun y => Eng.lall (fun z => each (.int .i64 4) y z) Eng.domB) Eng.domB = true := by kernel_rfl
theorem part7 : Eng.lall (fun y => Eng.lall (fun z => each (.int .i64 5) y z) Eng.domB) Eng.domB = true := by kernel_rfl
theorem part8 : Eng.lall (fun y => Eng.lall (fun z => each (.int .i64 6) y z) Eng.domB) Eng.domB = true := by kernel_rfl
theorem part9 : Eng.lall (fun y => Eng.lall (fun z => each (.int .i64 7) y z) Eng.domB) Eng.domB = true := by kernel_rfl
theorem part10 : Eng.lall (fun y => Eng.lall (fun z => each (.int .i64 8) y z) Eng.domB) Eng.domB = true := by kernel_rfl
theorem part11 : Eng.lall (fun y => Eng.lall (fun z => each (.int .i64 9) y z) Eng.domB) Eng.domB = true := by kernel_rfl
theorem part12 : Eng.lall (fun y => Eng.lall (fun z => each (.int .i64 10) y z) Eng.domB) Eng.domB = true := by kernel_rfl
theorem part13 : Eng.lall (fun y => Eng.lall (fun z => each (.int .i64 11) y z) Eng.domB) Eng.domB = true := by kernel_rfl
theorem part14 : Eng.lall (fun y => Eng.lall (fun z => each (.int .i64 12) y z) Eng.domB) Eng.domB = true := by kernel_rfl
theorem part15 : Eng.lall (fun y => Eng.lall (fun z => each (.int .i64 13) y z) Eng.domB) Eng.domB = true := by kernel_rfl
theorem part16 : Eng.lall (fun y => Eng.lall (fun z => each (.int .i64 14) y z) Eng.domB) Eng.domB = true := by kernel_rfl
theorem part17 : Eng.lall (fun y => Eng.lall (fun z => each (.int .i64 15) y z) Eng.domB) Eng.domB = true := by kernel_rfl
theorem cases : ∀ x ∈ ([.rng .i64 9223372036854775808 18446744073709551615, .rng .i64 16 9223372036854775807, .int .i64 0, .int .i64 1, .int .i64 2, .int .i64 3, .int .i64 4, .int .i64 5, .int .i64 6, .int .i64 7, .int .i64 8, .int .i64 9, .int .i64 10, .int .i64 11, .int .i64 12, .int .i64 13, .int .i64 14, .int .i64 15] : List Eng.AV), Eng.lall (fun y => Eng.lall (fun z => each x y z) Eng.domB) Eng.domB = true := (Eng.all_cons part0 (Eng.all_cons part1 (Eng.all_cons part2 (Eng.all_cons part3 (Eng.all_cons part4 (Eng.all_cons part5 (Eng.all_cons part6 (Eng.all_cons part7 (Eng.all_cons part8 (Eng.all_cons part9 (Eng.all_cons part10 (Eng.all_cons part11 (Eng.all_cons part12 (Eng.all_cons part13 (Eng.all_cons part14 (Eng.all_cons part15 (Eng.all_cons part16 (Eng.all_cons part17 Eng.all_nil))))))))))))))))))
theorem walk (a0 : Int) (a1 : Bool) (a2 : Bool) (w0 : (Lit.int .i64 a0).wf = true) (w : World) :
    Calls Try.prog 13 #[.int .i64 a0, .bool a1, .bool a2] w fun e w' => e = .returned (.bool true) ∧ Eng.Kept w w' := by
  obtain ⟨x, m0, v0⟩ := Eng.domI_ok (ρ := Eng.ren0 Try.prog) 16 w0
  obtain ⟨y, m1, v1⟩ := Eng.domB_ok (ρ := Eng.ren0 Try.prog) a1
  obtain ⟨z, m2, v2⟩ := Eng.domB_ok (ρ := Eng.ren0 Try.prog) a2
  exact Eng.runA_calls (us := [.int .i64 a0, .bool a1, .bool a2]) good few nat_ok (Eng.VL.cons v0 (Eng.VL.cons v1 (Eng.VL.cons v2 Eng.VL.nil))) (Eng.lall_mem (Eng.lall_mem (cases x m0) m1) m2) w

/-! ### The row's step -/
set_option maxRecDepth 100000 in
theorem lifted (os : Os) (started : os.Started) (H : Type) (enc : TypeId × Value → H) :
    ReturnsInHanded {} Try.checked os 13 .any (Rows.typOpsSpec.pre6 enc Try.prog Try.f13 Rows.typOpsRow.domain false) (Rows.typOpsSpec.post enc Try.prog Try.f13 false true false false) := by
  refine returnsInHanded_of_change (C := Try.checked) own started (by kernel_rfl) Try.func13
    (ChangeSpec.witness6 (enc := enc) (C := Try.checked) false ⟨#[], #[.int .i64 0, .bool false, .bool false], []⟩ 8 (by kernel_rfl) (by kernel_rfl) (by kernel_rfl) (by kernel_rfl)) ?_
  intro W base args ds gs before hval0 hW hcnd _
  have hval : ∀ (j : Nat) t v, Try.f13.params[j]? = some t → args[j]? = some v → Value.okWide Try.prog W .any base t v := hval0
  have hW' := hW
  obtain ⟨p, q, hA0, hV, rfl, hfz, hnd⟩ := hW
  have hA : DataW.TrodAll enc Try.prog W 0 (fun _ => true) true Try.f13.params.toList args.toList ds p := hA0
  rw [Try.params13] at hA hval
  obtain ⟨v0, vs0, d0, ds0, p0, q0, hargs, rfl, rfl, h0, r0⟩ := trodAll_cons hA
  obtain ⟨v1, vs1, d1, ds1, p1, q1, rfl, rfl, rfl, h1, r1⟩ := trodAll_cons r0
  obtain ⟨v2, vs2, d2, ds2, p2, q2, rfl, rfl, rfl, h2, r2⟩ := trodAll_cons r1
  obtain ⟨rfl, rfl, rfl⟩ := trodAll_nil r2
  obtain rfl : args = #[v0, v1, v2] := by cases args; simp_all
  obtain ⟨rfl, rfl⟩ := trodVars_none hV
  obtain ⟨a0, rfl, rfl, rfl, w0⟩ := open_int Try.underlying3 (hval 0 3 v0 rfl rfl) h0
  obtain ⟨a1, rfl, rfl, rfl⟩ := open_bool Try.underlying4 (hval 1 4 v1 rfl rfl) h1
  obtain ⟨a2, rfl, rfl, rfl⟩ := open_bool Try.underlying4 (hval 2 4 v2 rfl rfl) h2
  clear hA0 hval0
  simp only [List.append_nil] at hW'
  refine (walk a0 a1 a2 w0 W).mono fun e W' ⟨he, hg⟩ => ?_
  subst he
  exact ⟨_, rfl, Eng.post_of_kept (pa := []) (pv := []) hW' (fun _ _ => (trodAll_cons_mk (shut_bool Try.underlying4 _) trodAll_mk0)) (fun sp _ => (trodAll_cons_mk (shut_int Try.underlying3 w0) (trodAll_cons_mk (shut_bool Try.underlying4 _) (trodAll_cons_mk (shut_bool Try.underlying4 _) trodAll_mk0)))) (fun _ _ => rfl) rfl hg⟩

theorem over : Rows.typOpsRow.holds Try.pinned (OpenSpec.ofChange Rows.typOpsSpec) :=
  OpenClaim.holds_of_wide 13 Try.f13 rfl rfl rfl rfl rfl rfl rfl ⟨rfl, rfl, rfl, rfl, rfl⟩ rfl rfl rfl rfl rfl (by kernel_rfl) Try.func13 (by kernel_rfl)
    (of_decide_eq_true (by kernel_rfl)) (by unfold Func.isWrapper; first | (rw [if_pos (by decide +kernel)]; kernel_rfl) | (rw [if_neg (by decide +kernel)]; exact ⟨rfl, rfl⟩))
    (fun os started H enc _ => lifted os started H enc)

/-- the statement -/
theorem proved : Rows.TypOpsSaid :=
  over
#print axioms proved
end Go.Proofs.Ytpjmiopplfmcfaa.typOps
